/- Texts that belong together, joined: contracts and plain laws. No statement is proved here. -/
import Derived.Test.YtfpaejlipaainaaGreatDoorM11
import Derived.Test.YtfpaejlipaainaaGreatDoorM12
set_option maxRecDepth 100000
set_option maxHeartbeats 2000000
namespace Go.Proofs.YtfpaejlipaainaaGreatDoor
open Go.ChangeShapes Go.WideShapes Go.ChangeAt Go.RowKit Go.Deep
theorem ZaH:∀l:List UInt8,Lib.index l [10]=if 10∈l then (((l.takeWhile (·≠10)).length:Nat):Int) else -1
 | []=>rfl
 | b :: l=>by
  have ih:=ZaH l;by_cases hb:b=10
  ·subst hb
   rw[Lib.index];simp[List.isPrefixOf]
  ·have hp:([10]:List UInt8).isPrefixOf (b :: l)=false:=by simp[List.isPrefixOf,Ne.symm hb]
   rw[Lib.index,hp,ih];have h1:(10∈b :: l)↔(10∈l):=by simp[Ne.symm hb]
   by_cases hm:10∈l
   ·have hd:decide (b≠10)=true:=decide_eq_true hb
    rw[if_pos hm,if_pos (h1.2 hm),List.takeWhile_cons,if_pos hd,List.length_cons];rw[if_neg Bool.false_ne_true,if_neg (λh=>by have:=beq_iff_eq.1 h;omega)];omega
   ·rw[if_neg hm,if_neg (λe=>hm (h1.1 e))];rfl
theorem ZiG {l:List UInt8}(h:Yz l=none):Lib.cut l [10]=(l,[],false):=by
 unfold Yz at h;split at h
 ·cases h
 ·rename_i hm
  unfold Lib.cut;rw[ZaH,if_neg hm];rfl
theorem ZiF {l x:List UInt8}(h:Yz l=some x):∃r,Lib.cut l [10]=(x,r,true):=by
 unfold Yz at h;split at h
 ·rename_i hm
  injection h with h
  unfold Lib.cut;rw[ZaH,if_pos hm,if_pos (by omega),Int.toNat_natCast,←h];refine⟨l.drop ((l.takeWhile (·≠10)).length+1),?_⟩;have ht:l.take (l.takeWhile (·≠10)).length=l.takeWhile (·≠10):=(List.prefix_iff_eq_take.1 (List.takeWhile_prefix _)).symm;rw[ht];rfl
 ·cases h
def ZhI (a b:ByteArray)(k:Bool)(w:World)(e:Ending)(w':World):Prop:=e = .returned (.tuple #[.string a,.string b,.bool k])/\Below w.heap.size w w'
theorem Zhe (s:ByteArray)(w:World)(hs:s.size<=1000000)(hG:Gl w)(h:Yz s.data.toList=none) :
  Calls Tryz.prog 171 #[.string s,.string ⟨#[10]⟩] w (ZhI s ⟨#[]⟩ false w):=by
 refine(Tryz.strings_Cut_shaped s ⟨#[10]⟩ w hG.2 (by omega)).mono ?_;rintro e w' ⟨rfl,n,rfl⟩;rw[show(⟨#[10]⟩:ByteArray).data.toList=[10] from rfl,ZiG h];exact⟨by rw[WO],Zb (Below.refl _ _) _⟩
theorem Zhd (s:ByteArray)(w:World)(hs:s.size<=1000000)(hG:Gl w){x r:List UInt8}(h:Lib.cut s.data.toList [10]=(x,r,true)) :
  Calls Tryz.prog 171 #[.string s,.string ⟨#[10]⟩] w (ZhI ⟨x.toArray⟩ ⟨r.toArray⟩ true w):=by
 refine(Tryz.strings_Cut_shaped s ⟨#[10]⟩ w hG.2 (by omega)).mono ?_;rintro e w' ⟨rfl,n,rfl⟩;rw[show(⟨#[10]⟩:ByteArray).data.toList=[10] from rfl,h];exact⟨rfl,Zb (Below.refl _ _) _⟩
def ZkU (s:ByteArray)(w w':World)(e:Ending):Prop:=∃v,e = .returned (.tuple #[v,.int .i64 ((rdLog s).2.1:Int),.int .i64 (rdLog s).2.2])/\Own Entry.cells 116 3 w' w.heap.size v (rdLog s).1.length (rdLog s).1/\Below w.heap.size w w'
theorem Zbn (s:ByteArray)(a:Nat):(s.extract a s.size).data.toList=s.data.toList.drop a:=Lib.extract_to_end s a
theorem XN (s:ByteArray)(w:World)(hs:s.size<=4000)(hG:Gl w):Calls Tryz.prog 116 #[.string s] w λe w'=>ZkU s w w' e:=by
 have hGh:=Za hG;clear hG;go_enter Tryz.func116,Tryz.ntmps116;go_wp2
 go_loopw [5,6,7,8] (λv i m d wr=>∃(done:List Entry) (at_:Nat) (st:Int),i = .int .i64 at_/\m = .int .i64 st/\d = .int .i64 (lastDay done)/\at_<=s.size/\done.length<=at_/\0<=st/\st<=65518/\Own Entry.cells 116 3 wr w.heap.size v done.length done/\Hid (Zag s done at_ st (lastDay done))/\Below w.heap.size w wr) (λ_ i _ _ _=>s.size-(intOf i).toNat)
 case atStart=>exact⟨[],0,0,rfl,rfl,rfl,Nat.zero_le _,Nat.le_refl _,by omega,by omega,Own.none_made w (Nat.le_refl _),Za (ZbE s),(Below.refl _ _).alloc (Nat.le_refl _) _⟩
 case round =>
  obtain⟨done,at_,st,rfl,rfl,rfl,hat,hdl,h0,h1,ho,hinv,hb⟩:=hrel;obtain⟨Av,cv,rfl,_⟩:=ho.slice;have hO:=Za ho;have hB:=Za hb;clear ho hb;have hGr:=Za (hGh.out.below hB.out);obtain⟨day,hday⟩:∃day,day=lastDay done:=⟨_,rfl⟩;rw[←hday] at hinv ⊢;have hDay:=Za hday;clear hday;have hzr:(s.extract at_ s.size).size<=1000000:=by rw[ByteArray.size_extract];omega
  cases hln:Yz (s.data.toList.drop at_) with
  | none =>
   have hE:=Za (QP hinv.out (Wj hln));have hc:=Za (Zhe (s.extract at_ s.size) wr hzr hGr.out (by rw[Zbn];exact hln));clear hln hinv;go_wp2_with fail
   refine hc.out.mono ?_;rintro e w2 ⟨rfl,hb⟩;have hB2:=Za (Below.up hB.out hb);have hO2:=Za (hO.out.below hb);clear hb hB hO;go_wp2_with fail
   refine(JT (s.extract at_ s.size) _ hzr (hGh.out.below hB2.out)).mono ?_;rintro e w3 ⟨rfl,hb⟩;have hB3:=Za (Below.up hB2.out hb);have hO3:=Za (hO2.out.below hb);clear hb;go_wp2
   go_ret3
   exact⟨_,by rw[hE.out];rfl,by rw[hE.out];exact hO3.out.below ((Below.refl _ _).alloc (Nat.le_refl _) _),hB3.out.alloc hB3.out.size _⟩
  | some l =>
   obtain⟨r,hcut⟩:=ZiF hln;have hll:=Vg hln;rw[List.length_drop,ZM] at hll;have hc:=Za (Zhd (s.extract at_ s.size) wr hzr hGr.out (by rw[Zbn];exact hcut));clear hcut;obtain⟨Lb,hLb⟩:∃Lb:ByteArray,Lb=⟨l.toArray⟩:=⟨_,rfl⟩;have hLs1:Lb.size<=l.length:=by rw[hLb];exact Nat.le_refl _
   have hLs2:l.length<=Lb.size:=by rw[hLb];exact Nat.le_refl _
   have hLl:Lb.data.toList=l:=by rw[hLb]
   rw[←hLb] at hc;have hLbh:=Za hLb;clear hLb;obtain⟨Rb,hRb⟩:∃Rb:ByteArray,Rb=⟨r.toArray⟩:=⟨_,rfl⟩;rw[←hRb] at hc;clear hRb;have hlz:Lb.size<=1000000:=by omega
   have hrl:=Za (λW hg=>JT Lb W hlz hg);have hen:ZfD Lb=true→Vt l=some (rlEnt Lb)/\(rlEnt Lb).ok=true:=λh=>by rw[←hLl];exact Zkf h
   have hno:ZfD Lb=false→Vt l=none:=λh=>by rw[←hLl];exact ZjD h
   obtain⟨X,hX⟩:∃X,X=rlEnt Lb:=⟨_,rfl⟩;rw[←hX] at hrl hen;clear hX;cases hK:ZfD Lb with
   | false =>
    have hE:=Za (QP hinv.out (X4 hln (hno hK)));rw[hK] at hrl;clear hln hinv hno hen hK hLl;go_wp2_with fail
    refine hc.out.mono ?_;rintro e w2 ⟨rfl,hb⟩;have hB2:=Za (Below.up hB.out hb);have hO2:=Za (hO.out.below hb);clear hb hB hO;go_wp2_with fail
    refine(hrl.out _ (hGh.out.below hB2.out)).mono ?_;rintro e w3 ⟨rfl,hb⟩;have hB3:=Za (Below.up hB2.out hb);have hO3:=Za (hO2.out.below hb);clear hb;go_wp2
    go_ret3
    exact⟨_,by rw[hE.out];rfl,by rw[hE.out];exact hO3.out.below ((Below.refl _ _).alloc (Nat.le_refl _) _),hB3.out.alloc hB3.out.size _⟩
   | true =>
    obtain⟨he,hk⟩:=hen hK;rw[hK] at hrl;clear hno hen hK hLl;have hkh:=Za hk;obtain⟨⟨b1,b2⟩,_,b3,b4⟩:=Entry.ok_iff.1 hk;obtain⟨r1,r2⟩:=Z3 st (entB X);clear hk;by_cases hd:X.fDay<day
    ·have hE:=Za (QP hinv.out (U4 hln he (by unfold Vv;rw[decide_eq_false (by omega)];rfl)))
     clear hln hinv he;go_wp2_with fail
     refine hc.out.mono ?_;rintro e w2 ⟨rfl,hb⟩;have hB2:=Za (Below.up hB.out hb);have hO2:=Za (hO.out.below hb);clear hb hB hO;go_wp2_with fail
     refine(hrl.out _ (hGh.out.below hB2.out)).mono ?_;rintro e w3 ⟨rfl,hb⟩;have hB3:=Za ((Below.up hB2.out hb).alloc (Below.up hB2.out hb).size (.cells #[.int .i64 X.fDay,.string X.fWhat,.int .i64 X.fValue] 116));have hO3:=Za ((hO2.out.below hb).below ((Below.refl _ _).alloc (Nat.le_refl _) (.cells #[.int .i64 X.fDay,.string X.fWhat,.int .i64 X.fValue] 116)));clear hb;go_wp2
     go_ret3
     exact⟨_,by rw[hE.out];rfl,by rw[hE.out];exact hO3.out,hB3.out⟩
    have hq:(⟨(l++[10]).toArray⟩:ByteArray)=Lb++⟨#[10]⟩:=by rw[hLbh.out];exact(J6 l [10]).symm
    have hcat:=Zr Lb ⟨#[10]⟩ (by simp only[ZP];omega);by_cases hs5:YP (stampB st (entB X)) X=Lb++⟨#[10]⟩
    ·have hE:=Za (ZdP hinv.out (VU hln he (by unfold Vv;rw[decide_eq_true (by omega),decide_eq_true (by rw[hq];exact hs5)];rfl)))
     have e5:=XG hs5;have e6:((YP (stampB st (entB X)) X).toList != (Lb++⟨#[10]⟩).toList)=false:=by rw[bne,e5];rfl
     clear hln hinv he hq hs5;go_wp2_with fail
     refine hc.out.mono ?_;rintro e w2 ⟨rfl,hb⟩;have hB2:=Za (Below.up hB.out hb);have hO2:=Za (hO.out.below hb);clear hb hB hO;go_wp2_with fail
     refine(hrl.out _ (hGh.out.below hB2.out)).mono ?_;rintro e w3 ⟨rfl,hb⟩;have hB3:=Za ((Below.up hB2.out hb).alloc (Below.up hB2.out hb).size (.cells #[.int .i64 X.fDay,.string X.fWhat,.int .i64 X.fValue] 116));have hne3:=Za (λe=>Nat.lt_irrefl _ ((hO2.out.below hb).2.lt w3.heap.size e).2:(Value.slice Av done.length cv).ownBlock≠some w3.heap.size);have hO3:=Za ((hO2.out.below hb).below ((Below.refl _ _).alloc (Nat.le_refl _) (.cells #[.int .i64 X.fDay,.string X.fWhat,.int .i64 X.fValue] 116)));clear hb;have k0:(w3.alloc (.cells #[.int .i64 X.fDay,.string X.fWhat,.int .i64 X.fValue] 116)).cell? ⟨w3.heap.size,0,none⟩=some (.int .i64 X.fDay):=by rw[cell_of_row _ _ _ _ _ _ (heap_alloc_new w3 _)];rfl
     have k1:(w3.alloc (.cells #[.int .i64 X.fDay,.string X.fWhat,.int .i64 X.fValue] 116)).cell? ⟨w3.heap.size,1,none⟩=some (.string X.fWhat):=by rw[cell_of_row _ _ _ _ _ _ (heap_alloc_new w3 _)];rfl
     have k2:(w3.alloc (.cells #[.int .i64 X.fDay,.string X.fWhat,.int .i64 X.fValue] 116)).cell? ⟨w3.heap.size,2,none⟩=some (.int .i64 X.fValue):=by rw[cell_of_row _ _ _ _ _ _ (heap_alloc_new w3 _)];rfl
     have hz3:w3.heap.size<(w3.alloc (.cells #[.int .i64 X.fDay,.string X.fWhat,.int .i64 X.fValue] 116)).heap.size:=by simp
     have hqs:(w3.alloc (.cells #[.int .i64 X.fDay,.string X.fWhat,.int .i64 X.fValue] 116)).heap.size=w3.heap.size+1:=by simp
     have hq3:w3.heap.size+1<=(w3.alloc (.cells #[.int .i64 X.fDay,.string X.fWhat,.int .i64 X.fValue] 116)).heap.size:=by omega
     clear hqs;go_wp2_with fail
     have hnb:=Za (heap_alloc_new w3 (.cells #[.int .i64 X.fDay,.string X.fWhat,.int .i64 X.fValue] 116));obtain⟨W3,hW3⟩:∃W3,W3=w3.alloc (.cells #[.int .i64 X.fDay,.string X.fWhat,.int .i64 X.fValue] 116):=⟨_,rfl⟩;rw[←hW3] at k0 k1 k2 hz3 hB3 hO3 hq3 hnb ⊢;clear hW3;have i0:=Za k0;have i1:=Za k1;have i2:=Za k2;refine(Wb st X _ h0 h1 hkh.out (hGh.out.below hB3.out)).mono ?_;rintro e w4 ⟨rfl,hb⟩;have hC4:=Za hb;have hB4:=Za (Below.up hB3.out hb);have hO4:=Za (hO3.out.below hb);have hnb4:=Za (ZG hnb.out hb);clear hb k0 k1 k2 hB3 hO3;have hz4:w3.heap.size<w4.heap.size:=Nat.lt_of_lt_of_le hz3 hC4.out.size;have k0:=Zg hC4.out hz3 i0.out;have k1:=Zg hC4.out hz3 i1.out;have k2:=Zg hC4.out hz3 i2.out;go_wp2_with (at_builtin;refine Zah rfl (.tmp 59) (.tmp 61) _ rfl Tryz.underlying112 QY rfl (by omega) (by omega) rfl hO4.out X _ rfl rfl rfl (Entry.one _) (by omega) hB4.out.size ?_;intro v5 w5 ho5 hg5;have hB5:=Za (hO4.out.grown hB4.out hg5);have hO5:=Za ho5;have hnb5:=Za ((hg5.block w3.heap.size hz4 (λe=>hne3.out e.symm)).trans hnb4.out);clear ho5 hg5)
     have m0:w5.cell? ⟨w3.heap.size,0,none⟩=some (.int .i64 X.fDay):=by rw[cell_of_row _ _ _ _ _ _ hnb5.out];rfl
     have m1:w5.cell? ⟨w3.heap.size,1,none⟩=some (.string X.fWhat):=by rw[cell_of_row _ _ _ _ _ _ hnb5.out];rfl
     have m2:w5.cell? ⟨w3.heap.size,2,none⟩=some (.int .i64 X.fValue):=by rw[cell_of_row _ _ _ _ _ _ hnb5.out];rfl
     have hz5:=Yg hnb5.out;have p0:=Za m0;have p1:=Za m1;have p2:=Za m2;clear k0 k1 k2;go_wp2_with fail
     have hF:=Za (Zb (Below.refl w5.heap.size w5) 1);go_region_held3 (λw'=>w'.cell? ⟨w3.heap.size,0,none⟩=some (.int .i64 X.fDay)/\w'.cell? ⟨w3.heap.size,1,none⟩=some (.string X.fWhat)/\w'.cell? ⟨w3.heap.size,2,none⟩=some (.int .i64 X.fValue)) (first|go_keep|exact⟨Zg hF.out hz5 p0.out,Zg hF.out hz5 p1.out,Zg hF.out hz5 p2.out⟩)
      (first|(go_at_call 173;refine(JR st X _ h0 h1 hkh.out (by exact hGh.out.below (Below.up hB5.out hF.out))).mono ?_;rintro e w6 ⟨rfl,hb⟩;replace hF:=Za (Below.up hF.out hb);clear hb)|fail)
     all_goals go_wp2
     all_goals go_roundw
     case rel=>exact⟨done++[X],at_+(l.length+1),stampB st (entB X),by congr 1;omega,rfl,by rw[WT],by omega,by simp;omega,r1,r2,by rw[List.length_append];exact hO5.out.below hF.out,by rw[WT];exact hE,Below.up hB5.out hF.out⟩
     case measure=>simp[intOf];omega
    ·have hE:=Za (QP hinv.out (U4 hln he (by unfold Vv;rw[decide_eq_false (p:=YP _ _=_) (by rw[hq];exact hs5)];simp)))
     have e5:=Xn hs5;have e6:((YP (stampB st (entB X)) X).toList != (Lb++⟨#[10]⟩).toList)=true:=by rw[bne,e5];rfl
     clear hln hinv he hq hs5;go_wp2_with fail
     refine hc.out.mono ?_;rintro e w2 ⟨rfl,hb⟩;have hB2:=Za (Below.up hB.out hb);have hO2:=Za (hO.out.below hb);clear hb hB hO;go_wp2_with fail
     refine(hrl.out _ (hGh.out.below hB2.out)).mono ?_;rintro e w3 ⟨rfl,hb⟩;have hB3:=Za ((Below.up hB2.out hb).alloc (Below.up hB2.out hb).size (.cells #[.int .i64 X.fDay,.string X.fWhat,.int .i64 X.fValue] 116));have hO3:=Za ((hO2.out.below hb).below ((Below.refl _ _).alloc (Nat.le_refl _) (.cells #[.int .i64 X.fDay,.string X.fWhat,.int .i64 X.fValue] 116)));clear hb;have k0:(w3.alloc (.cells #[.int .i64 X.fDay,.string X.fWhat,.int .i64 X.fValue] 116)).cell? ⟨w3.heap.size,0,none⟩=some (.int .i64 X.fDay):=by rw[cell_of_row _ _ _ _ _ _ (heap_alloc_new w3 _)];rfl
     have k1:(w3.alloc (.cells #[.int .i64 X.fDay,.string X.fWhat,.int .i64 X.fValue] 116)).cell? ⟨w3.heap.size,1,none⟩=some (.string X.fWhat):=by rw[cell_of_row _ _ _ _ _ _ (heap_alloc_new w3 _)];rfl
     have k2:(w3.alloc (.cells #[.int .i64 X.fDay,.string X.fWhat,.int .i64 X.fValue] 116)).cell? ⟨w3.heap.size,2,none⟩=some (.int .i64 X.fValue):=by rw[cell_of_row _ _ _ _ _ _ (heap_alloc_new w3 _)];rfl
     have hz3:w3.heap.size<(w3.alloc (.cells #[.int .i64 X.fDay,.string X.fWhat,.int .i64 X.fValue] 116)).heap.size:=by simp
     have hqs:(w3.alloc (.cells #[.int .i64 X.fDay,.string X.fWhat,.int .i64 X.fValue] 116)).heap.size=w3.heap.size+1:=by simp
     have hq3:w3.heap.size+1<=(w3.alloc (.cells #[.int .i64 X.fDay,.string X.fWhat,.int .i64 X.fValue] 116)).heap.size:=by omega
     clear hqs;go_wp2_with fail
     obtain⟨W3,hW3⟩:∃W3,W3=w3.alloc (.cells #[.int .i64 X.fDay,.string X.fWhat,.int .i64 X.fValue] 116):=⟨_,rfl⟩;rw[←hW3] at k0 k1 k2 hz3 hB3 hO3 hq3 ⊢;clear hW3;have i0:=Za k0;have i1:=Za k1;have i2:=Za k2;refine(Wb st X _ h0 h1 hkh.out (hGh.out.below hB3.out)).mono ?_;rintro e w4 ⟨rfl,hb⟩;have hC4:=Za hb;have hB4:=Za (Below.up hB3.out hb);have hO4:=Za (hO3.out.below hb);clear hb k0 k1 k2 hB3 hO3;go_wp2
     go_ret3
     exact⟨_,by rw[hE.out];rfl,by rw[hE.out];exact hO4.out,hB4.out⟩
theorem Zcg {st day:Int}{rest l:List UInt8}{e:Entry}(h:Yo st day rest=some (e,l)):l.length+1<=rest.length/\e.ok=true:=by
 unfold Yo at h;split at h
 ·cases h
 ·rename_i x hx
  have h1:=Vg hx;split at h
  ·cases h
  ·rename_i e' he
   have h2:=ZiD he;split at h
   ·injection h with h;injection h with h3 h4;subst h3 h4;exact⟨h1,h2⟩
   ·cases h
theorem Qu:∀(f:Nat) (rest:List UInt8) (st day:Int),0<=st→st<=65518→(readK f rest st day).2.1<=rest.length/\(readK f rest st day).1.length<=(readK f rest st day).2.1/\(∀e∈(readK f rest st day).1,e.ok=true)/\0<=(readK f rest st day).2.2/\(readK f rest st day).2.2<=65518
 | 0,rest,st,day,h0,h1=>⟨Nat.zero_le _,Nat.le_refl _,by simp[readK],h0,h1⟩
 | f+1,rest,st,day,h0,h1=>by
  cases hs:Yo st day rest with
  | none=>simp only[readK,hs];exact⟨Nat.zero_le _,Nat.le_refl _,by simp,h0,h1⟩
  | some x =>
   obtain⟨e,l⟩:=x;obtain⟨h2,h3⟩:=Zcg hs;obtain⟨r1,r2⟩:=Z3 st (entB e);obtain⟨a1,a2,a3,a4,a5⟩:=Qu f (rest.drop (l.length+1)) (stampB st (entB e)) e.fDay r1 r2;rw[List.length_drop] at a1;simp only[readK,hs];refine⟨by omega,by simp only[List.length_cons];omega,?_,a4,a5⟩;intro y hy;rcases List.mem_cons.1 hy with rfl|hy
   ·exact h3
   ·exact a3 y hy
def ents (s:ByteArray):List Entry:=(rdLog s).1
def upTo (s:ByteArray):Nat:=(rdLog s).2.1
def lastSt (s:ByteArray):Int:=(rdLog s).2.2
theorem XL (s:ByteArray):upTo s<=s.size/\(ents s).length<=upTo s/\(∀e∈ents s,e.ok=true)/\0<=lastSt s/\lastSt s<=65518:=by
 have h:=Qu (s.size+1) s.data.toList 0 0 (by omega) (by omega);rw[ZM] at h;exact h
def ZI (s:ByteArray):Int:=if 4000<s.size then 5 else if upTo s=s.size then 0 else 8
theorem Xd (s:ByteArray)(w:World)(hG:Gl w) :
  Calls Tryz.prog 64 #[.string s] w λe w'=>e = .returned (.int .i64 (ZI s))/\Below w.heap.size w w':=by
 by_cases h1:(4000:Int)<s.size
 ·have hm:Hid (ZI s=5):=Za (by unfold ZI;rw[if_pos (by omega)])
  go_enter Tryz.func64,Tryz.ntmps64;go_wp2
  go_ret;exact⟨by rw[hm.out];rfl,Below.refl _ _⟩
 have hc:=Za (XN s w (by omega) hG);have hp:=(XL s).1;by_cases h2:upTo s=s.size
 ·have hm:Hid (ZI s=0):=Za (by unfold ZI;rw[if_neg (by omega),if_pos h2])
  have hlt:¬((upTo s:Nat):Int)<s.size:=by omega
  unfold upTo at hlt hp;clear h2 hG hp;go_enter Tryz.func64,Tryz.ntmps64;go_wp2_with fail
  refine hc.out.mono ?_;rintro e w1 ⟨v,rfl,_,hb⟩;have hB:=Za hb;clear hb;go_wp2
  go_ret;exact⟨by rw[hm.out];rfl,hB.out⟩
 ·have hm:Hid (ZI s=8):=Za (by unfold ZI;rw[if_neg (by omega),if_neg h2])
  have hlt:((upTo s:Nat):Int)<s.size:=by omega
  unfold upTo at hlt hp;clear h2 hG hp;go_enter Tryz.func64,Tryz.ntmps64;go_wp2_with fail
  refine hc.out.mono ?_;rintro e w1 ⟨v,rfl,_,hb⟩;have hB:=Za hb;clear hb;go_wp2
  go_ret;exact⟨by rw[hm.out];rfl,hB.out⟩
def ZkT (s:ByteArray)(w w':World)(e:Ending):Prop:=∃g,e = .returned (.tuple #[.pointer (some ⟨g,0,none⟩),.int .i64 (ZI s)])/\w.heap.size<=g/\(ZI s=0→RB w' w.heap.size g s (ents s) (upTo s) (lastSt s))/\Below w.heap.size w w'
theorem V0 (s:ByteArray)(w:World):Calls Tryz.prog 81 #[.string s] w λe w'=>ZkT s w w' e:=by
 by_cases h1:(4000:Int)<s.size
 ·have hm:Hid (ZI s=5):=Za (by unfold ZI;rw[if_pos (by omega)])
  go_enter Tryz.func81,Tryz.ntmps81;go_wp2
  go_ret2
  exact⟨w.heap.size,by rw[hm.out];rfl,Nat.le_refl _,(λh=>by rw[hm.out] at h;cases h),(Below.refl _ _).alloc (Nat.le_refl _) _⟩
 have hc:=Za (Zf8 s w (by omega));by_cases h2:upTo s=s.size
 ·have hm:Hid (ZI s=0):=Za (by unfold ZI;rw[if_neg (by omega),if_pos h2])
  have hne:(((upTo s:Nat):Int) != (s.size:Int))=false:=by rw[h2];simp
  clear h2;go_enter Tryz.func81,Tryz.ntmps81;go_wp2_with fail
  refine hc.out.mono ?_;rintro e w1 ⟨g,rfl,hg,hr,hb⟩;have hB:=Za hb;have hR:=Za hr;obtain⟨v,hblk,_⟩:=hr;have c1:w1.cell? ⟨g,1,none⟩=some (.int .i64 ((upTo s:Nat):Int)):=by rw[cell_of_row _ _ _ _ _ _ hblk];rfl
  clear hb hblk;go_wp2
  go_ret2
  exact⟨g,by rw[hm.out];rfl,hg,λ_=>hR.out,hB.out⟩
 ·have hm:Hid (ZI s=8):=Za (by unfold ZI;rw[if_neg (by omega),if_neg h2])
  have hne:(((upTo s:Nat):Int) != (s.size:Int))=true:=by simp;omega
  clear h2;go_enter Tryz.func81,Tryz.ntmps81;go_wp2_with fail
  refine hc.out.mono ?_;rintro e w1 ⟨g,rfl,hg,hr,hb⟩;have hB:=Za hb;obtain⟨v,hblk,_⟩:=hr;have c1:w1.cell? ⟨g,1,none⟩=some (.int .i64 ((upTo s:Nat):Int)):=by rw[cell_of_row _ _ _ _ _ _ hblk];rfl
  clear hb hblk;go_wp2
  go_ret2
  exact⟨g,by rw[hm.out];rfl,hg,(λh=>by rw[hm.out] at h;cases h),hB.out⟩
theorem Xi {s:ByteArray}(h:ZI s=0):s.size<=4000:=by
 unfold ZI at h;by_cases h1:4000<s.size
 ·rw[if_pos h1] at h;cases h
 ·omega
theorem Zaw {α β:Type}{cells:α→List Value}{cells':β→List Value}{w:World}{e e' s s' base base' n n':Nat}{v v':Value}{l:List α}{l':List β}(h:Own cells e s w base v n l)(h':Own cells' e' s' w base' v' n' l')(hne:e≠e'):v.ownBlock=none\/v.ownBlock≠v'.ownBlock:=by
 rcases h.2.2 with ⟨rfl,_⟩|⟨g,cap,cur,rfl,_,hh,_⟩
 ·exact .inl rfl
 ·rcases h'.2.2 with ⟨rfl,_⟩|⟨g',cap',cur',rfl,_,hh',_⟩
  ·exact .inr (by simp[Value.ownBlock])
  ·refine .inr λhe=>?_
   have:g=g':=by simpa[Value.ownBlock] using he
   subst this;rw[hh] at hh';injection hh' with hh'
   injection hh' with _ ht
   exact hne ht
theorem ZgD {α:Type}{cells:α→List Value}{w:World}{e t s base n g:Nat}{v:Value}{l:List α}{cs:Array Value}(h:Own cells e s w base v n l)(hb:w.heap[g]?=some (.cells cs t (0,0)))(hne:e≠t):some g≠v.ownBlock:=by
 rcases h.2.2 with ⟨rfl,_⟩|⟨g',cap,cur,rfl,_,hh,_⟩
 ·simp[Value.ownBlock]
 ·intro he
  have:g'=g:=by simpa[Value.ownBlock] using he.symm
  subst this;rw[hh] at hb;injection hb with hb
  injection hb with _ ht
  exact hne ht
def mEnts (s:ByteArray):List Entry:=if ZI s=0 then ents s else []
theorem ZgI (s:ByteArray):(mEnts s).length<=1048576:=by
 unfold mEnts;by_cases h:ZI s=0
 ·rw[if_pos h]
  have h1:=XL s;have h2:=Xi h;omega
 ·rw[if_neg h];exact Nat.zero_le _
theorem Zg6 (s:ByteArray)(w:World)(hG:Gl w) :
  Calls Tryz.prog 71 #[.string s] w λe w'=>∃v,e = .returned (.tuple #[v,.int .i64 (ZI s)])/\Res Entry.cells 116 3 w' w.heap.size v (mEnts s).length (mEnts s)/\Below w.heap.size w w':=by
 have hc:=Za (Xd s w hG);have hGh:=Za hG;clear hG;by_cases h:ZI s=0
 ·have hm:Hid (mEnts s=ents s):=Za (by unfold mEnts;rw[if_pos h])
  have hsz:=Xi h;rw[h] at hc;have hl:=Za h;clear h;go_enter Tryz.func71,Tryz.ntmps71;go_wp2_with fail
  refine hc.out.mono ?_;rintro e w1 ⟨rfl,hb⟩;have hB:=Za hb;clear hb;go_wp2_with fail
  refine(XN s w1 hsz (hGh.out.below hB.out)).mono ?_;rintro e w2 ⟨v,rfl,ho,hb⟩;have hO:=Za (ho.res.less hB.out.size);have hB2:=Za (Below.up hB.out hb);clear hb ho;go_wp2
  go_ret2
  exact⟨v,by rw[hl.out];rfl,by rw[hm.out];exact hO.out,hB2.out⟩
 ·have hm:Hid (mEnts s=[]):=Za (by unfold mEnts;rw[if_neg h])
  have e1:(ZI s != 0)=true:=bne_iff_ne.2 h;clear h;go_enter Tryz.func71,Tryz.ntmps71;go_wp2_with fail
  refine hc.out.mono ?_;rintro e w1 ⟨rfl,hb⟩;have hB:=Za hb;clear hb;go_wp2
  go_ret2
  exact⟨_,rfl,by rw[hm.out];exact Res.empty (Nat.zero_le _),hB.out⟩
def lw (s what:ByteArray):Int:=if ZI s=0/\ZU what=false then 2 else ZI s
theorem ZaE {s what:ByteArray}(h:lw s what=0):ZI s=0/\ZU what=true:=by
 unfold lw at h;by_cases h1:ZI s=0/\ZU what=false
 ·rw[if_pos h1] at h;cases h
 ·rw[if_neg h1] at h
  refine⟨h,?_⟩;cases hn:ZU what
  ·exact absurd ⟨h,hn⟩ h1
  ·rfl
def ZkR (s what:ByteArray)(w w':World)(e:Ending):Prop:=∃g,e = .returned (.tuple #[.pointer (some ⟨g,0,none⟩),.int .i64 (lw s what)])/\w.heap.size<=g/\(lw s what=0→RB w' w.heap.size g s (ents s) (upTo s) (lastSt s))/\Below w.heap.size w w'
theorem Zf0 (s what:ByteArray)(w:World)(hz:what.size<=maxLen):Calls Tryz.prog 211 #[.string s,.string what] w λe w'=>ZkR s what w w' e:=by
 have hc:=Za (V0 s w);have NAME:∀W:World,Hid (Calls Tryz.prog 196 #[.string what] W λe w'=>e = .returned (.bool (ZU what))/\W=w'):=λW=>Za (XH what W hz)
 have hN:=Za NAME;clear NAME;by_cases h:ZI s=0
 ·have e1:(ZI s==0)=true:=by rw[h];rfl
  cases hn:ZU what
  ·have hm:Hid (lw s what=2):=Za (by unfold lw;rw[if_pos ⟨h,hn⟩])
   rw[hn] at hN;clear h hn;go_enter Tryz.func211,Tryz.ntmps211;go_wp2_with (first|(go_at_call 81;refine hc.out.mono ?_;rintro e w1 ⟨g,rfl,hg,hr,hb⟩;have hB:=Za hb;clear hb hr)|(go_at_call 196;refine(hN.out _).out.mono ?_;rintro e w' ⟨rfl,rfl⟩))
   go_ret2
   exact⟨g,by rw[hm.out];rfl,hg,(λh=>by rw[hm.out] at h;cases h),hB.out⟩
  ·have hm:Hid (lw s what=0):=Za (by unfold lw;rw[if_neg (by rw[hn];simp),h])
   rw[hn] at hN;rw[h] at e1;have hl:=Za h;clear hn;go_enter Tryz.func211,Tryz.ntmps211;go_wp2_with (first|(go_at_call 81;refine hc.out.mono ?_;rintro e w1 ⟨g,rfl,hg,hr,hb⟩;have hB:=Za hb;have hRh:=Za hr;clear hb hr)|(go_at_call 196;refine(hN.out _).out.mono ?_;rintro e w' ⟨rfl,rfl⟩))
   go_ret2
   exact⟨g,by rw[hm.out];rfl,hg,(λ_=>hRh.out hl.out),hB.out⟩
 ·have e1:(ZI s==0)=false:=beq_eq_false_iff_ne.2 h
  have hm:Hid (lw s what=ZI s):=Za (by unfold lw;rw[if_neg (λhh=>h hh.1)]);have hl:=Za h;clear h;go_enter Tryz.func211,Tryz.ntmps211;go_wp2_with (first|(go_at_call 81;refine hc.out.mono ?_;rintro e w1 ⟨g,rfl,hg,hr,hb⟩;have hB:=Za hb;clear hb hr)|(go_at_call 196;refine(hN.out _).out.mono ?_;rintro e w' ⟨rfl,rfl⟩))
  go_ret2
  exact⟨g,by rw[hm.out];rfl,hg,(λh=>absurd (hm.out.symm.trans h) hl.out),hB.out⟩
def Xf (what:ByteArray)(l:List Entry):List Int:=(l.filter λe=>decide (e.fWhat=what)).map (·.fValue)
theorem Zdq {what:ByteArray}{l:List Entry}{k:Nat}{x:Entry}(hx:l[k]?=some x)(h:x.fWhat=what):Xf what (l.take (k+1))=Xf what (l.take k)++[x.fValue]:=by
 unfold Xf;rw[Zo hx,List.filter_append];simp[h]
theorem Za4 {what:ByteArray}{l:List Entry}{k:Nat}{x:Entry}(hx:l[k]?=some x)(h:¬x.fWhat=what):Xf what (l.take (k+1))=Xf what (l.take k):=by
 unfold Xf;rw[Zo hx,List.filter_append];simp[h]
theorem Zaj (what:ByteArray)(l:List Entry):(Xf what l).length<=l.length:=by
 unfold Xf;rw[List.length_map];exact List.length_filter_le _ _
def Yu (s what:ByteArray):List Int:=if lw s what=0 then Xf what (ents s) else []
theorem WA {s:ByteArray}(h:ZI s=0):(ents s).length<=4000:=by
 have h1:=XL s;have h2:=Xi h;omega
theorem QM (s what:ByteArray):(Yu s what).length<=1048576:=by
 unfold Yu;by_cases h:lw s what=0
 ·rw[if_pos h]
  have h1:=WA (ZaE h).1;have h2:=Zaj what (ents s);omega
 ·rw[if_neg h];exact Nat.zero_le _
theorem ZdU:(Tryz.prog.info? 2).map (λi=>(i.zero,i.size,i.bytes))=some (some (.int .i64 0),1,8):=by kernel_rfl
theorem ZgX (s what:ByteArray)(w:World)(hz:what.size<=maxLen)(hG:Gl w) :
  Calls Tryz.prog 77 #[.string s,.string what] w λe w'=>∃v,e = .returned (.tuple #[v,.int .i64 (lw s what)])/\Res ZB 2 1 w' w.heap.size v (Yu s what).length (Yu s what)/\Below w.heap.size w w':=by
 have hc:=Za (Xd s w hG);have NAME:∀W:World,Hid (Calls Tryz.prog 126 #[.string what] W λe w'=>e = .returned (.bool (ZU what))/\W=w'):=λW=>Za (XO what W hz)
 have hN:=Za NAME;have hGh:=Za hG;clear hG NAME;by_cases h:ZI s=0
 case neg =>
  have hm:Hid (Yu s what=[]):=Za (by unfold Yu;rw[if_neg (λhh=>h (ZaE hh).1)]);have hq:Hid (lw s what=ZI s):=Za (by unfold lw;rw[if_neg (λhh=>h hh.1)]);have e1:(ZI s != 0)=true:=bne_iff_ne.2 h;clear h;go_enter Tryz.func77,Tryz.ntmps77;go_wp2_with fail
  refine hc.out.mono ?_;rintro e w1 ⟨rfl,hb⟩;have hB:=Za hb;clear hb;go_wp2
  go_ret2
  exact⟨_,by rw[hq.out];rfl,by rw[hm.out];exact Res.empty (Nat.zero_le _),hB.out⟩
 case pos =>
  have hsz:=Xi h;rw[h] at hc;cases hn:ZU what
  ·have hm:Hid (Yu s what=[]):=Za (by unfold Yu;rw[if_neg (λhh=>by have:=(ZaE hh).2;rw[hn] at this;cases this)])
   have hq:Hid (lw s what=2):=Za (by unfold lw;rw[if_pos ⟨h,hn⟩]);rw[hn] at hN;clear h hn;go_enter Tryz.func77,Tryz.ntmps77;go_wp2_with (first|(go_at_call 64;refine hc.out.mono ?_;rintro e w1 ⟨rfl,hb⟩;have hB:=Za hb;clear hb)|(go_at_call 126;refine(hN.out _).out.mono ?_;rintro e w' ⟨rfl,rfl⟩))
   go_ret2
   exact⟨_,by rw[hq.out];rfl,by rw[hm.out];exact Res.empty (Nat.zero_le _),hB.out⟩
  ·have hq:Hid (lw s what=0):=Za (by unfold lw;rw[if_neg (by rw[hn];simp),h])
   have hm:Hid (Yu s what=Xf what (ents s)):=Za (by unfold Yu;rw[if_pos hq.out]);have hlen:=WA h;rw[hn] at hN;clear h hn;go_enter Tryz.func77,Tryz.ntmps77;go_wp2_with (first|(go_at_call 64;refine hc.out.mono ?_;rintro e w1 ⟨rfl,hb⟩;have hB:=Za hb;clear hb)|(go_at_call 126;refine(hN.out _).out.mono ?_;rintro e w' ⟨rfl,rfl⟩)|fail)
   have hO:=Za (Own.none_made (cells:=ZB) (e:=2) (s:=1) w1 hB.out.size);have hB1:=Za (hB.out.alloc hB.out.size (.cells #[] 2));refine(XN s _ hsz (hGh.out.below hB1.out)).mono ?_;rintro e w2 ⟨vE,rfl,hoE,hb⟩;replace hO:=Za (hO.out.below hb);have hE:=Za (hoE.less hB1.out.size);replace hB:=Za (Below.up hB1.out hb);obtain⟨AE,cE,rfl,_⟩:=hoE.slice;clear hb hoE hB1;unfold ents at hm hlen;obtain⟨L,hL⟩:∃L,L=(rdLog s).1:=⟨_,rfl⟩;rw[←hL] at hm hE hlen ⊢;obtain⟨n,hn⟩:∃n,n=L.length:=⟨_,rfl⟩;rw[←hn] at hE hlen ⊢;have hLh:=Za hL;have hnh:=Za hn;clear hL hn;obtain⟨vb,hvb⟩:∃vb:Value,vb = .slice (some ⟨w1.heap.size,0,none⟩) 0 0:=⟨_,rfl⟩;go_wp2
   go_loopw [7,30] (λv i wr=>∃k:Nat,k<=n/\i = .int .i64 k/\Own ZB 2 1 wr w.heap.size v (Xf what (L.take k)).length (Xf what (L.take k))/\Own Entry.cells 116 3 wr w.heap.size (.slice AE n cE) n L/\Below w.heap.size w wr) (λ_ i _=>n-(intOf i).toNat)
   case atStart=>exact⟨0,Nat.zero_le _,rfl,hO.out,hE.out,hB.out⟩
   case round =>
    clear hO hE hB;obtain⟨k,hk,rfl,ho,hoE,hb⟩:=hrel;by_cases hlt:k<n
    ·obtain⟨b,o,x,rfl,hbl,hx,d0,d1,d2⟩:=(hoE.arr Entry.len).Entry hlt
     have hml:(Xf what (L.take k)).length<=4000:=by have h1:=Zaj what (L.take k);rw[List.length_take] at h1;omega
     have hO:=Za (ho.below ((Below.refl _ _).alloc (Nat.le_refl _) (.cells #[.int .i64 x.fDay,.string x.fWhat,.int .i64 x.fValue] 116)));have hE:=Za (hoE.below ((Below.refl _ _).alloc (Nat.le_refl _) (.cells #[.int .i64 x.fDay,.string x.fWhat,.int .i64 x.fValue] 116)));have hB:=Za (hb.alloc hb.size (.cells #[.int .i64 x.fDay,.string x.fWhat,.int .i64 x.fValue] 116));clear ho hoE hb;by_cases hw:x.fWhat=what
     ·have hV:=Za (Zdq hx hw)
      have e1:=XG hw;clear hw hx;go_wp2_with (at_builtin;refine Zp (wr.heap.size+1) (by simp) rfl (.tmp 38) (.tmp 41) rfl Tryz.underlying60 ZdU rfl (by omega) (by omega) Zh ZJ rfl hO.out x.fValue _ rfl rfl (by omega) hB.out.size ?_;intro v5 w5 ho5 hg5 _;have hB5:=Za (Zi hB.out hO.out hg5 hB.out.size);have hE5:=Za (hE.out.kept hg5 (Zaw hE.out hO.out (by decide)));have hO5:=Za ho5;clear ho5 hg5)
      go_roundw
      case rel=>exact⟨k+1,by omega,by go_num,by rw[hV.out,List.length_append];exact hO5.out,hE5.out,hB5.out⟩
      case measure=>simp[intOf];omega
     ·have hV:=Za (Za4 hx hw)
      have e1:=Xn hw;clear hw hx;go_wp2
      go_roundw
      case rel=>exact⟨k+1,by omega,by go_num,by rw[hV.out];exact hO.out,hE.out,hB.out⟩
      case measure=>simp[intOf];omega
    ·have hkn:k=n:=by omega
     have hT:Hid (L.take k=L):=Za (List.take_of_length_le (by rw[←hnh.out];omega));have hO:=Za ho;have hB:=Za hb;clear ho hoE hb;go_wp2
     go_ret2
     exact⟨_,by rw[hq.out];rfl,by rw[hm.out];have:=hO.out;rw[hT.out] at this;exact this.res,hB.out⟩
theorem Zf1 (s what:ByteArray)(w:World)(hz:what.size<=maxLen) :
  Calls Tryz.prog 147 #[.string s,.string what] w λe w'=>∃v,e = .returned (.tuple #[v,.int .i64 (lw s what)])/\Res ZB 2 1 w' w.heap.size v (Yu s what).length (Yu s what)/\Below w.heap.size w w':=by
 have hc:=Za (Zf0 s what w hz);by_cases h:lw s what=0
 case neg =>
  have hm:Hid (Yu s what=[]):=Za (by unfold Yu;rw[if_neg h]);have e1:(lw s what != 0)=true:=bne_iff_ne.2 h;clear h;go_enter Tryz.func147,Tryz.ntmps147;go_wp2_with fail
  refine hc.out.mono ?_;rintro e w1 ⟨g,rfl,hg,hr,hb⟩;have hB:=Za hb;clear hb hr;go_wp2
  go_ret2
  exact⟨_,rfl,by rw[hm.out];exact Res.empty (Nat.zero_le _),hB.out⟩
 case pos =>
  have hm:Hid (Yu s what=Xf what (ents s)):=Za (by unfold Yu;rw[if_pos h]);have hlen:=WA (ZaE h).1;have e1:(lw s what != 0)=false:=by rw[h];rfl
  have hq:=Za h;clear h;go_enter Tryz.func147,Tryz.ntmps147;go_wp2_with fail
  refine hc.out.mono ?_;rintro e w1 ⟨g,rfl,hg,hr,hb⟩;obtain⟨vE,hblk,hoE⟩:=hr hq.out;have hB:=Za (hb.alloc hb.size (.cells #[] 2));have hO:=Za (Own.none_made (cells:=ZB) (e:=2) (s:=1) w1 hb.size);have hE:=Za (hoE.below ((Below.refl _ _).alloc (Nat.le_refl _) (.cells #[] 2)));have hK:=Za (ZG hblk ((Below.refl w1.heap.size w1).alloc (Nat.le_refl _) (.cells #[] 2)));obtain⟨AE,cE,rfl,_⟩:=hoE.slice;clear hb hoE hblk hr;obtain⟨L,hL⟩:∃L,L=ents s:=⟨_,rfl⟩;rw[←hL] at hm hE hlen hK;obtain⟨n,hn⟩:∃n,n=L.length:=⟨_,rfl⟩;rw[←hn] at hE hlen hK;have hLh:=Za hL;have hnh:=Za hn;clear hL hn;obtain⟨U,hU⟩:∃U,U=upTo s:=⟨_,rfl⟩;obtain⟨T,hT⟩:∃T,T=lastSt s:=⟨_,rfl⟩;rw[←hU,←hT] at hK;clear hU hT;go_wp2
  go_loopw [8,9] (λv i wr=>∃k:Nat,k<=n/\i = .int .i64 k/\Own ZB 2 1 wr w.heap.size v (Xf what (L.take k)).length (Xf what (L.take k))/\Own Entry.cells 116 3 wr w.heap.size (.slice AE n cE) n L/\wr.heap[g]?=some (.cells #[.string s,.int .i64 U,.int .i64 T,.slice AE n cE] 166 (0,0))/\Below w.heap.size w wr) (λ_ i _=>n-(intOf i).toNat)
  case atStart=>exact⟨0,Nat.zero_le _,rfl,hO.out,hE.out,hK.out,hB.out⟩
  case round =>
   clear hO hE hB hK;obtain⟨k,hk,rfl,ho,hoE,hblk,hb⟩:=hrel;have c3:wr.cell? ⟨g,3,none⟩=some (.slice AE n cE):=by rw[cell_of_row _ _ _ _ _ _ hblk];rfl
   have hO:=Za ho;have hE:=Za hoE;have hB:=Za hb;have hK:=Za hblk;by_cases hlt:k<n
   ·obtain⟨b,o,x,rfl,hbl,hx,d0,d1,d2⟩:=(hoE.arr Entry.len).Entry hlt
    have hml:(Xf what (L.take k)).length<=4000:=by have h1:=Zaj what (L.take k);rw[List.length_take] at h1;omega
    clear ho hoE hb hblk;by_cases hw:x.fWhat=what
    ·have hV:=Za (Zdq hx hw)
     have e2:=XG hw;clear hw hx;go_wp2_with (at_builtin;refine Zp wr.heap.size rfl rfl (.tmp 39) (.tmp 48) rfl Tryz.underlying60 ZdU rfl (by omega) (by omega) Zh ZJ rfl hO.out x.fValue _ rfl rfl (by omega) hB.out.size ?_;intro v5 w5 ho5 hg5 _;have hB5:=Za (Zi hB.out hO.out hg5 hB.out.size);have hE5:=Za (hE.out.kept hg5 (Zaw hE.out hO.out (by decide)));have hK5:=Za ((hg5.block g (Yg hK.out) (ZgD hO.out hK.out (by decide))).trans hK.out);have hO5:=Za ho5;clear ho5 hg5)
     go_roundw
     case rel=>exact⟨k+1,by omega,by go_num,by rw[hV.out,List.length_append];exact hO5.out,hE5.out,hK5.out,hB5.out⟩
     case measure=>simp[intOf];omega
    ·have hV:=Za (Za4 hx hw)
     have e2:=Xn hw;clear hw hx;go_wp2
     go_roundw
     case rel=>exact⟨k+1,by omega,by go_num,by rw[hV.out];exact hO.out,hE.out,hK.out,hB.out⟩
     case measure=>simp[intOf];omega
   ·have hkn:k=n:=by omega
    have hT:Hid (L.take k=L):=Za (List.take_of_length_le (by rw[←hnh.out];omega));clear ho hoE hb hblk;go_wp2
    go_ret2
    exact⟨_,by rw[hq.out];rfl,by rw[hm.out];have:=hO.out;rw[hT.out] at this;exact this.res,hB.out⟩
end Go.Proofs.YtfpaejlipaainaaGreatDoor
