/- Texts that belong together, joined: contracts and plain laws. No statement is proved here. -/
import Derived.Test.YtfpaejlipaainaaGreatDoorM20
import Derived.Lib.Join
set_option maxRecDepth 100000
set_option maxHeartbeats 4000000
namespace Go.Proofs.YtfpaejlipaainaaGreatDoor
open Go.ChangeShapes Go.WideShapes Go.ChangeAt Go.RowKit Go.Deep
def Xy (sk:Option Nat)(T:List ByteArray):Bool:=(ZC sk T T.length).all rdB
def numsL (sk:Option Nat)(T:List ByteArray):List Int:=if Xy sk T=true then (ZC sk T T.length).map rdI else []
theorem Zdl {sk:Option Nat}{T:List ByteArray}{k:Nat}{x:ByteArray}(h:ZC sk T (k+1)=ZC sk T k++[x])(hk:k+1<=T.length)(hb:Yt x.data.toList=false):(ZC sk T T.length).all rdB=false:=by
 have pre:∀d,∃e,ZC sk T (k+1+d)=ZC sk T (k+1)++e:=by
  intro d
  induction d with
  | zero=>exact⟨[],by simp⟩
  | succ d ih =>
   obtain⟨e,he⟩:=ih;unfold ZC at he ⊢;rw[show k+1+(d+1)=(k+1+d)+1 by omega,List.range_succ,List.filter_append,List.map_append,he,List.append_assoc];exact⟨_,rfl⟩
 obtain⟨e,he⟩:=pre (T.length-(k+1));rw[show k+1+(T.length-(k+1))=T.length by omega,h] at he;rw[he,List.all_append,List.all_append];simp[rdB,hb]
theorem WV:(Tryz.prog.info? 9).map (λi=>(i.zero,i.size,i.bytes))=some (some (.string ⟨#[]⟩),1,16):=by kernel_rfl
theorem Q2 (w0:ByteArray)(b1 b2:Bool)(sk:Option Nat)(hcl:(b1=false/\b2=false/\sk=none)\/(b1=true/\b2=false/\sk=some 0)\/(b1=false/\b2=true/\sk=some 1))(e1:(w0.toList == [119,111,114,100])=b1)(e2:(w0.toList == [101,110,116,101,114])=b2)
  (A:Option Addr) (n c:Nat) (T:List ByteArray) (w:World) (hn:n<=1048577) (hnc:n<=c) (hG:Gl w) (hr:Arr ZY 1 w w.heap.size A n (w0 :: T)) :
  Calls Tryz.prog 32 #[.slice A n c] w λe w'=>∃v,e = .returned (.tuple #[v,.bool (Xy sk T)])/\Res ZB 2 1 w' w.heap.size v (numsL sk T).length (numsL sk T)/\Below w.heap.size w w':=by
 have hlen:=hr.len;rw[List.length_cons] at hlen;have hT:T.length=n-1:=by omega
 have hn0:0<n:=by omega
 have hGh:=Za hG;obtain⟨b0,o0,x0,hA0,hbl0,hx0,cc0⟩:=hr.str hn0;subst hA0;have hx00:x0=w0:=by simpa using hx0.symm
 subst hx00;have hcut:∀W,(Instr.slice 24 (.slice (some ⟨b0,o0,none⟩) n c) (some (.int .i64 1)) none none).run Tryz.prog W = .ok (.slice (cutA (some ⟨b0,o0,none⟩) c 1 1) (n-1) (c-1)) W:=λW=>Y0 (P:=Tryz.prog) Tryz.underlying24 WV (some ⟨b0,o0,none⟩) n c 1 (by omega) W
 have hrc:=Za (hr.cut (k:=1) (by omega) hnc);rw[List.drop_one,List.tail_cons] at hrc;obtain⟨A1,hA1⟩:∃A1,A1=cutA (some ⟨b0,o0,none⟩) c 1 1:=⟨_,rfl⟩;rw[←hA1] at hcut hrc;obtain⟨n1,hn1⟩:∃n1,n1=n-1:=⟨_,rfl⟩;rw[←hn1] at hcut hrc hT;obtain⟨c1,hc1⟩:∃c1,c1=c-1:=⟨_,rfl⟩;rw[←hc1] at hcut;have hTh:=Za hT;have hTl:T.length<=1048576:=by omega
 clear hA1 hn1 hc1 hlen hr hx0 hG hT;go_enter Tryz.func32,Tryz.ntmps32;go_wp2
 clear hcut;go_loopw [4,13] (λv i wr=>∃k:Nat,k<=n1/\i = .int .i64 (k:Int)/\Own ZB 2 1 wr w.heap.size v ((ZC sk T k).map rdI).length ((ZC sk T k).map rdI)/\Below w.heap.size w wr/\Hid ((ZC sk T k).all rdB=true)) (λ_ i _=>n1-(intOf i).toNat)
 case atStart=>exact⟨0,Nat.zero_le _,rfl,by simpa[ZC] using Own.none_made (cells:=ZB) (e:=2) (s:=1) (base:=w.heap.size) w (Nat.le_refl _),(Below.refl w.heap.size w).alloc (Nat.le_refl _) _,Za rfl⟩
 case round =>
  obtain⟨k,hk,rfl,ho,hb,hall⟩:=hrel;have hO:=Za ho;by_cases hlt:k<n1
  ·obtain⟨b,o,x,hA,hbl,hx,cx⟩:=hrc.out.str hlt
   subst hA;have d0:wr.cell? ⟨b,o+k,none⟩=some (.string x):=(hb.cell (p:=⟨b,o+k,none⟩) hbl).trans cx;have d1:wr.cell? ⟨b0,o0,none⟩=some (.string x0):=(hb.cell (p:=⟨b0,o0,none⟩) hbl0).trans (by simpa using cc0);have hX:=Za hx;have hB:=Za hb;have hkT:k<T.length:=by rw[hTh.out];exact hlt
   clear hx hb ho cx cc0;rcases hcl with ⟨h1,h2,hsk⟩|⟨h1,h2,hsk⟩|⟨h1,h2,hsk⟩
   ·subst h1 h2
    have hyes:Hid (ZC sk T (k+1)=ZC sk T k++[x]):=Za (Ve (by rw[hsk];intro h;cases h) hX.out);clear hsk;cases hok:Yt x.data.toList
    ·have hbad:Hid (Xy sk T=false):=Za (Zdl hyes.out (by have:=Zq hX.out;omega) hok)
     have hbad2:Hid (numsL sk T=[]):=Za (by unfold numsL;rw[hbad.out];rfl);go_wp2_with fail
     refine(ZV x _ (hGh.out.below hB.out)).mono ?_;rw[hok];rintro e w1 ⟨rfl,hb⟩;replace hB:=Za (Below.up hB.out hb);clear hb;go_wp2
     go_ret2
     exact⟨_,by rw[hbad.out];rfl,by rw[hbad2.out];exact Res.empty (Nat.zero_le _),hB.out⟩
    ·have hnx:Hid ((ZC sk T (k+1)).all rdB=true):=Za (by rw[hyes.out,List.all_append,hall.out];simp[rdB,hok])
     have hrl:=Y4 sk T k;have hll:((ZC sk T k).map rdI).length<=1048576:=by rw[List.length_map];omega
     go_wp2_with fail
     refine(ZV x _ (hGh.out.below hB.out)).mono ?_;rw[hok];rintro e w1 ⟨rfl,hb⟩;have hO1:=Za (hO.out.below hb);replace hB:=Za (Below.up hB.out hb);clear hb hrl;go_wp2_with (at_builtin;refine Zp w1.heap.size rfl rfl (.tmp 43) (.tmp 45) rfl Tryz.underlying60 Zz rfl (by omega) (by omega) Zh ZJ rfl hO1.out (rdNum x.data.toList) _ rfl rfl hll hB.out.size ?_;intro v5 w5 ho5 hg5 _;have hB5:=Za (Zi hB.out hO1.out hg5 hB.out.size);have hO5:=Za ho5;clear ho5 hg5)
     go_roundw
     case rel=>exact⟨k+1,by omega,by go_num,by rw[hyes.out,List.map_append,List.length_append];exact hO5.out,hB5.out,hnx⟩
     case measure=>simp[intOf];omega
   ·subst h1 h2
    by_cases hkj:k=0
    ·have hkb:((k:Int)==0)=true:=by rw[hkj];rfl
     have hyes:Hid (ZC sk T (k+1)=ZC sk T k):=Za (Zbo (by rw[hsk,hkj]));clear hsk hkj;have hnx:Hid ((ZC sk T (k+1)).all rdB=true):=Za (by rw[hyes.out];exact hall.out);go_wp2
     go_roundw
     case rel=>exact⟨k+1,by omega,by go_num,by rw[hyes.out];exact hO.out,hB.out,hnx⟩
     case measure=>simp[intOf];omega
    ·have hkb:((k:Int)==0)=false:=by rw[beq_eq_false_iff_ne];omega
     have hyes:Hid (ZC sk T (k+1)=ZC sk T k++[x]):=Za (Ve (by rw[hsk];intro h;injection h with h;omega) hX.out);clear hsk hkj;cases hok:Yt x.data.toList
     ·have hbad:Hid (Xy sk T=false):=Za (Zdl hyes.out (by have:=Zq hX.out;omega) hok)
      have hbad2:Hid (numsL sk T=[]):=Za (by unfold numsL;rw[hbad.out];rfl);go_wp2_with fail
      refine(ZV x _ (hGh.out.below hB.out)).mono ?_;rw[hok];rintro e w1 ⟨rfl,hb⟩;replace hB:=Za (Below.up hB.out hb);clear hb;go_wp2
      go_ret2
      exact⟨_,by rw[hbad.out];rfl,by rw[hbad2.out];exact Res.empty (Nat.zero_le _),hB.out⟩
     ·have hnx:Hid ((ZC sk T (k+1)).all rdB=true):=Za (by rw[hyes.out,List.all_append,hall.out];simp[rdB,hok])
      have hrl:=Y4 sk T k;have hll:((ZC sk T k).map rdI).length<=1048576:=by rw[List.length_map];omega
      go_wp2_with fail
      refine(ZV x _ (hGh.out.below hB.out)).mono ?_;rw[hok];rintro e w1 ⟨rfl,hb⟩;have hO1:=Za (hO.out.below hb);replace hB:=Za (Below.up hB.out hb);clear hb hrl;go_wp2_with (at_builtin;refine Zp w1.heap.size rfl rfl (.tmp 43) (.tmp 45) rfl Tryz.underlying60 Zz rfl (by omega) (by omega) Zh ZJ rfl hO1.out (rdNum x.data.toList) _ rfl rfl hll hB.out.size ?_;intro v5 w5 ho5 hg5 _;have hB5:=Za (Zi hB.out hO1.out hg5 hB.out.size);have hO5:=Za ho5;clear ho5 hg5)
      go_roundw
      case rel=>exact⟨k+1,by omega,by go_num,by rw[hyes.out,List.map_append,List.length_append];exact hO5.out,hB5.out,hnx⟩
      case measure=>simp[intOf];omega
   ·subst h1 h2
    by_cases hkj:k=1
    ·have hkb:((k:Int)==1)=true:=by rw[hkj];rfl
     have hyes:Hid (ZC sk T (k+1)=ZC sk T k):=Za (Zbo (by rw[hsk,hkj]));clear hsk hkj;have hnx:Hid ((ZC sk T (k+1)).all rdB=true):=Za (by rw[hyes.out];exact hall.out);go_wp2
     go_roundw
     case rel=>exact⟨k+1,by omega,by go_num,by rw[hyes.out];exact hO.out,hB.out,hnx⟩
     case measure=>simp[intOf];omega
    ·have hkb:((k:Int)==1)=false:=by rw[beq_eq_false_iff_ne];omega
     have hyes:Hid (ZC sk T (k+1)=ZC sk T k++[x]):=Za (Ve (by rw[hsk];intro h;injection h with h;omega) hX.out);clear hsk hkj;cases hok:Yt x.data.toList
     ·have hbad:Hid (Xy sk T=false):=Za (Zdl hyes.out (by have:=Zq hX.out;omega) hok)
      have hbad2:Hid (numsL sk T=[]):=Za (by unfold numsL;rw[hbad.out];rfl);go_wp2_with fail
      refine(ZV x _ (hGh.out.below hB.out)).mono ?_;rw[hok];rintro e w1 ⟨rfl,hb⟩;replace hB:=Za (Below.up hB.out hb);clear hb;go_wp2
      go_ret2
      exact⟨_,by rw[hbad.out];rfl,by rw[hbad2.out];exact Res.empty (Nat.zero_le _),hB.out⟩
     ·have hnx:Hid ((ZC sk T (k+1)).all rdB=true):=Za (by rw[hyes.out,List.all_append,hall.out];simp[rdB,hok])
      have hrl:=Y4 sk T k;have hll:((ZC sk T k).map rdI).length<=1048576:=by rw[List.length_map];omega
      go_wp2_with fail
      refine(ZV x _ (hGh.out.below hB.out)).mono ?_;rw[hok];rintro e w1 ⟨rfl,hb⟩;have hO1:=Za (hO.out.below hb);replace hB:=Za (Below.up hB.out hb);clear hb hrl;go_wp2_with (at_builtin;refine Zp w1.heap.size rfl rfl (.tmp 43) (.tmp 45) rfl Tryz.underlying60 Zz rfl (by omega) (by omega) Zh ZJ rfl hO1.out (rdNum x.data.toList) _ rfl rfl hll hB.out.size ?_;intro v5 w5 ho5 hg5 _;have hB5:=Za (Zi hB.out hO1.out hg5 hB.out.size);have hO5:=Za ho5;clear ho5 hg5)
      go_roundw
      case rel=>exact⟨k+1,by omega,by go_num,by rw[hyes.out,List.map_append,List.length_append];exact hO5.out,hB5.out,hnx⟩
      case measure=>simp[intOf];omega
  ·have hkn:k=n1:=by omega
   have hB:=Za hb;have hfin:Hid (Xy sk T=true):=Za (by unfold Xy;rw[hTh.out,←hkn];exact hall.out);have hf2:Hid (numsL sk T=(ZC sk T k).map rdI):=Za (by unfold numsL;rw[hfin.out,hTh.out,hkn];rfl);subst hkn;clear hb ho;go_wp2
   go_ret2
   exact⟨_,by rw[hfin.out];rfl,by rw[hf2.out];exact hO.out.res,hB.out⟩
theorem ZaG {M:Nat}(s:UInt8):∀xs:List (List UInt8),(∀x∈xs,x.length<=M)→(Lib.join xs [s]).length<=(M+1)*xs.length:=by
 intro xs;cases xs with
 | nil=>intro _;simp[Lib.join_nil]
 | cons x r =>
  intro h;rw[Lib.join_cons,List.length_append];have h1:=h x List.mem_cons_self;have h2:∀r:List (List UInt8),(∀y∈r,y.length<=M)→(Lib.joinTail [s] r).length<=(M+1)*r.length:=by
   intro r
   induction r with
   | nil=>intro _;simp[Lib.joinTail]
   | cons y r ih =>
    intro hr;have e:Lib.joinTail [s] (y :: r)=([s]++y)++Lib.joinTail [s] r:=by simp[Lib.joinTail]
    rw[e,List.length_append,List.length_append,List.length_singleton,List.length_cons,Nat.mul_add];have:=hr y List.mem_cons_self;have:=ih λz hz=>hr z (List.mem_cons_of_mem _ hz)
    omega
  have:=h2 r λz hz=>h z (List.mem_cons_of_mem _ hz)
  rw[List.length_cons,Nat.mul_add];omega
theorem XP (A:Option Addr)(n c:Nat)(l:List ByteArray)(w:World)(hn:n<=140737488355328)(hnc:n<=c)(hlen:(Lib.join (l.map (·.data.toList)) [32]).length<=140737488355328)(hr:Arr ZY 1 w w.heap.size A n l) :
  Calls Tryz.prog 31 #[.slice A n c,.string ⟨#[32]⟩] w λe w'=>e = .returned (.string (joinSp l))/\Below w.heap.size w w':=by
 have hl:=hr.len;rcases Nat.eq_zero_or_pos n with h0|h0
 ·subst h0
  have:l=[]:=List.eq_nil_of_length_eq_zero hl;subst this;exact(Tryz.strings_Join_none A c _ w).mono λe w' ⟨he,hw⟩=>⟨by rw[he];rfl,by rw[hw];exact Below.refl _ _⟩
 ·obtain⟨b,o,rfl,hb,hc⟩:=hr.2 h0
  have h:=Tryz.strings_Join b o c l ⟨#[32]⟩ w (λj x hx=>by have:=hc j x hx 0 _ rfl;simpa using this) hb (by omega) (by omega) hlen;rw[hl] at h;exact h.mono λe w' ⟨he,hw⟩=>⟨by rw[he];rfl,hw⟩
def I64 (l:List Int):Prop:=∀x∈l,-9223372036854775808<=x/\x<=9223372036854775807
theorem Xj:(Tryz.prog.info? 9).map (λi=>(i.zero,i.size,i.bytes))=some (some (.string ⟨#[]⟩),1,16):=by kernel_rfl
theorem Xr (A:Option Addr)(n c:Nat)(l:List Int)(w:World)(hn:n<=1048576)(hl:I64 l)(hG:Gl w)(hr:Arr ZB 1 w w.heap.size A n l) :
  Calls Tryz.prog 78 #[.slice A n c] w λe w'=>e = .returned (.string (numLine l))/\Below w.heap.size w w':=by
 have hlen:=Za hr.len;have hGh:=Za hG;have hlh:=Za hl;clear hG hl;by_cases h0:n=0
 ·have hM:Hid (numLine l=⟨#[45]⟩):=Za (by unfold numLine;rw[if_pos (List.eq_nil_of_length_eq_zero (by rw[hlen.out];exact h0))])
  have hb:((n:Int)==0)=true:=by rw[h0];rfl
  clear h0;go_enter Tryz.func78,Tryz.ntmps78;go_wp2
  go_ret;exact⟨by rw[hM.out];rfl,Below.refl _ _⟩
 ·have hM:Hid (numLine l=joinSp (l.map decB)):=Za (by
   unfold numLine joinSp;rw[if_neg (λh=>h0 (by rw[←hlen.out,h];rfl)),List.map_map];rfl)
  have hb:((n:Int)==0)=false:=by rw[beq_eq_false_iff_ne];omega
  clear h0;go_enter Tryz.func78,Tryz.ntmps78;go_wp2
  go_loopw [3,12] (λv i wr=>∃k:Nat,k<=n/\i = .int .i64 (k:Int)/\Own ZY 9 1 wr w.heap.size v k ((l.take k).map decB)/\Below w.heap.size w wr) (λ_ i _=>n-(intOf i).toNat)
  case atStart=>exact⟨0,Nat.zero_le _,rfl,by simpa using Own.none_made (cells:=ZY) (e:=9) (s:=1) (base:=w.heap.size) w (Nat.le_refl _),(Below.refl w.heap.size w).alloc (Nat.le_refl _) _⟩
  case round =>
   obtain⟨k,hk,rfl,ho,hb2⟩:=hrel;have hO:=Za ho;by_cases hlt:k<n
   ·obtain⟨b,o,x,rfl,hbl,hx,c0⟩:=hr.int hlt
    have d0:wr.cell? ⟨b,o+k,none⟩=some (.int .i64 x):=(hb2.cell (p:=⟨b,o+k,none⟩) hbl).trans c0;have hX:=Za hx;clear hx c0;have hB:=Za hb2;have hxb:=hlh.out x (List.mem_of_getElem? hX.out);have hnx:Hid ((l.take (k+1)).map decB=(l.take k).map decB++[decB x]):=Za (by rw[Zo hX.out,List.map_append];rfl);clear hr hb2 ho;go_wp2_with fail
    refine(YQ x _ hxb.1 hxb.2 (hGh.out.below hB.out)).mono ?_;rintro e w1 ⟨rfl,hb⟩;have hO1:=Za (hO.out.below hb);replace hB:=Za (Below.up hB.out hb);clear hb;go_wp2_with (at_builtin;refine Zp w1.heap.size rfl rfl (.tmp 16) (.tmp 19) rfl Tryz.underlying24 Xj rfl (by omega) (by omega) Zf YJ rfl hO1.out (decB x) _ rfl rfl (by omega) hB.out.size ?_;intro v5 w5 ho5 hg5 _;have hB5:=Za (Zi hB.out hO1.out hg5 hB.out.size);have hO5:=Za ho5;clear ho5 hg5)
    go_roundw
    case rel=>exact⟨k+1,by omega,by go_num,by rw[hnx.out];exact hO5.out,hB5.out⟩
    case measure=>simp[intOf];omega
   ·have hkn:k=n:=by omega
    have hB:=Za hb2;rw[List.take_of_length_le (by rw[hlen.out];omega)] at ho;obtain⟨A1,c1,rfl,hc1⟩:=ho.slice;have hA:=Za (ho.arr Zf);have hjl:Hid ((Lib.join ((l.map decB).map (·.data.toList)) [32]).length<=140737488355328):=Za (by
     have h1:=ZaG (M:=21) 32 ((l.map decB).map (·.data.toList)) (by
      intro y hy;rw[List.map_map] at hy;obtain⟨x,hx,rfl⟩:=List.mem_map.1 hy;have h2:=hlh.out x hx;have h3:=Zv x h2.1 h2.2;exact h3)
     rw[List.length_map,List.length_map,hlen.out] at h1;omega)
    subst hkn;clear hO ho hb2;go_wp2_with fail
    refine(XP A1 k c1 (l.map decB) _ (by omega) hc1 hjl.out hA.out).mono ?_;rintro e w2 ⟨rfl,hb⟩;replace hB:=Za (Below.up hB.out hb);clear hb;go_wp2
    go_ret;exact⟨by rw[hM.out];rfl,hB.out⟩
theorem Ua (A:Option Addr)(n c:Nat)(l:List Int)(w:World)(hn:n<=1048576)(hbnd:∀k,-4611686018427387904<=sumOf id (l.take k)/\sumOf id (l.take k)<=4611686018427387904)(hr:Arr ZB 1 w w.heap.size A n l) :
  Calls Tryz.prog 79 #[.slice A n c] w λe w'=>e = .returned (.int .i64 (sumOf id l))/\Below w.heap.size w w':=by
 have hl:=Za hr.len;have hbh:=Za hbnd;clear hbnd;go_enter Tryz.func79,Tryz.ntmps79;go_wp2
 go_loopw [3,8] (λq i wr=>∃(k:Nat) (z:Int),k<=n/\i = .int .i64 k/\q = .int .i64 z/\Below w.heap.size w wr/\Hid (z=sumOf id (l.take k))) (λ_ i _=>n-(intOf i).toNat)
 case atStart=>exact⟨0,0,Nat.zero_le _,rfl,rfl,Below.refl _ _,Za rfl⟩
 case round =>
  obtain⟨k,z,hk,rfl,rfl,hb,hz2⟩:=hrel;by_cases hlt:k<n
  ·obtain⟨b,o,x,rfl,hbl,hx,c0⟩:=hr.int hlt
   have g0:wr.cell? ⟨b,o+k,none⟩=some (.int .i64 x):=(hb.cell (p:=⟨b,o+k,none⟩) hbl).trans c0;have hnx:Hid (z+x=sumOf id (l.take (k+1))):=Za (by rw[X3 hx,←hz2.out];rfl);have hB:=Za hb;have hzb : -4611686018427387904<=z+x/\z+x<=4611686018427387904:=by rw[hnx.out];exact hbh.out (k+1)
   clear hr hb hx c0;go_wp2
   go_roundw
   case rel=>exact⟨k+1,z+x,by omega,by go_num,rfl,hB.out,hnx⟩
   case measure=>simp[intOf];omega
  ·have hkn:k=n:=by omega
   subst hkn;have hB:=Za hb;clear hb;go_wp2
   go_ret;exact⟨by rw[hz2.out,List.take_of_length_le (by rw[hl.out];exact Nat.le_refl _)];rfl,hB.out⟩
def KB (l:List Kind):Prop:=∀x∈l,(0<=x.fReach/\x.fReach<=200)/\0<=x.fHave/\x.fHave<=12
def TB (t:List Int):Prop:=∀x∈t,0<=x/\x<=12
def rF (p:Kind × Int):Int:=p.2*p.1.fReach
theorem Zjg {l:List Kind}{t:List Int}{k:Nat}{x:Kind}{y:Int}(hx:l[k]?=some x)(hy:t[k]?=some y):(l.zip t)[k]?=some (x,y):=by
 rw[List.getElem?_zip_eq_some];exact⟨hx,hy⟩
theorem Qv {l:List Kind}{t:List Int}(hl:KB l)(ht:TB t)(hn:l.length<=4)(k:Nat):0<=sumOf rF ((l.zip t).take k)/\sumOf rF ((l.zip t).take k)<=9600:=by
 refine YW (M:=2400) (N:=4) (f:=rF) ?_ (by rw[List.length_zip];omega) (by omega) k;rintro⟨x,y⟩ hp;have h1:=hl x (List.of_mem_zip hp).1;have h2:=ht y (List.of_mem_zip hp).2;unfold rF;refine⟨Int.mul_nonneg h2.1 h1.1.1,?_⟩
 calc y*x.fReach<=12*x.fReach:=Int.mul_le_mul_of_nonneg_right h2.2 h1.1.1
  _<=12*200:=Int.mul_le_mul_of_nonneg_left h1.1.2 (by omega)
  _=2400:=by omega
theorem Vk (A:Option Addr)(n c:Nat)(l:List Kind)(B:Option Addr)(d:Nat)(t:List Int)(w:World)(hn:n<=4)(hl:KB l)(ht:TB t)(hr:Arr Kind.cells 2 w w.heap.size A n l)(hrt:Arr ZB 1 w w.heap.size B n t) :
  Calls Tryz.prog 246 #[.slice A n c,.slice B n d] w λe w'=>e = .returned (.int .i64 (reachL l t))/\Below w.heap.size w w':=by
 have hlen:=Za hr.len;have hlen2:=Za hrt.len;have hbh:=Za (λk=>Qv hl ht (by rw[hr.len];exact hn) k);have hlh:=Za hl;have hth:=Za ht;clear hl ht;go_enter Tryz.func246,Tryz.ntmps246;go_wp2
 go_loopw [5,10] (λq i wr=>∃(k:Nat) (z:Int),k<=n/\i = .int .i64 k/\q = .int .i64 z/\Below w.heap.size w wr/\Hid (z=sumOf rF ((l.zip t).take k))) (λ_ i _=>n-(intOf i).toNat)
 case atStart=>exact⟨0,0,Nat.zero_le _,rfl,rfl,Below.refl _ _,Za rfl⟩
 case round =>
  obtain⟨k,z,hk,rfl,rfl,hb,hz⟩:=hrel;by_cases hlt:k<n
  ·obtain⟨b,o,x,rfl,hbl,hx,c0,c1⟩:=hr.Kind hlt
   have d0:wr.cell? ⟨b,o+k*2,none⟩=some (.int .i64 x.fReach):=(hb.cell (p:=⟨b,o+k*2,none⟩) hbl).trans c0;have d1:wr.cell? ⟨b,o+k*2+1,none⟩=some (.int .i64 x.fHave):=(hb.cell (p:=⟨b,o+k*2+1,none⟩) hbl).trans c1;have hX:=Za hx;clear hx c0 c1;obtain⟨bY,oY,y,rfl,hblY,hxY,c0Y⟩:=hrt.int hlt;have d0Y:wr.cell? ⟨bY,oY+k,none⟩=some (.int .i64 y):=(hb.cell (p:=⟨bY,oY+k,none⟩) hblY).trans c0Y;have hXY:=Za hxY;clear hxY c0Y;have hB:=Za hb;obtain⟨p,hp⟩:∃p,p=y*x.fReach:=⟨_,rfl⟩;have hx2:=hlh.out x (List.mem_of_getElem? hX.out);have hy2:=hth.out y (List.mem_of_getElem? hXY.out);have hnx:Hid (z+p=sumOf rF ((l.zip t).take (k+1))):=Za (by rw[X3 (Zjg hX.out hXY.out),←hz.out,hp];rfl);have hpb:0<=p/\p<=2400:=by
    rw[hp];refine⟨Int.mul_nonneg hy2.1 hx2.1.1,?_⟩
    calc y*x.fReach<=12*x.fReach:=Int.mul_le_mul_of_nonneg_right hy2.2 hx2.1.1
     _<=12*200:=Int.mul_le_mul_of_nonneg_left hx2.1.2 (by omega)
     _=2400:=by omega
   have hw1:IntKind.i64.wrap (y*x.fReach)=p:=by rw[←hp];exact IntWalk.i64_in _ (by omega)
   have hzb:0<=z+p/\z+p<=9600:=by rw[hnx.out];exact hbh.out (k+1)
   have hx3:=Za hx2;clear hr hrt hb hp hx2;go_wp2
   go_roundw
   case rel=>exact⟨k+1,z+p,by omega,by go_num,rfl,hB.out,hnx⟩
   case measure=>simp[intOf];omega
  ·have hkn:k=n:=by omega
   have hB:=Za hb;have hfin:Hid (z=reachL l t):=Za (by
    have h:=hz.out;rw[hkn,List.take_of_length_le (by rw[List.length_zip,hlen.out,hlen2.out];omega)] at h;exact h)
   subst hkn;clear hb;go_wp2
   go_ret;exact⟨by rw[hfin.out];rfl,hB.out⟩
theorem QG:∀{hs t:List Int},(∀p∈hs.zip t,¬p.2<p.1)→XV hs t=none
 | [],_,_=>by simp[XV]
 | _ :: _,[],_=>by simp[XV]
 | h :: hs,x :: xs,H=>by
  rw[XV,QG (hs:=hs) (t:=xs) λp hp=>H p (by rw[List.zip_cons_cons];exact List.mem_cons_of_mem _ hp)];exact if_neg (H (h,x) (by rw[List.zip_cons_cons];exact List.mem_cons_self))
theorem ZbA:∀{hs t:List Int} (k:Nat) {h x:Int},hs[k]?=some h→t[k]?=some x→hs.length=t.length→x<h→(∀p∈(hs.zip t).drop (k+1),¬p.2<p.1) →
  XV hs t=some (t.take k++(x+1) :: List.replicate (t.length-(k+1)) 0)
 | [],_,_,_,_,h1,_,_,_,_=>by simp at h1
 | _ :: _,[],_,_,_,_,h2,_,_,_=>by simp at h2
 | h :: hs,x :: xs,0,h',x',h1,h2,hl,hlt,H=>by
  simp only[List.getElem?_cons_zero,Option.some.injEq] at h1 h2;subst h1 h2;rw[XV,QG (hs:=hs) (t:=xs) λp hp=>H p (by simpa using hp)];show(if x<h then _ else _)=_
  rw[if_pos hlt];have:hs.length=xs.length:=by simpa using hl
  have e:hs.map (λ_=>(0:Int))=List.replicate xs.length 0:=by rw[←this,List.map_const']
  rw[e];simp
 | h :: hs,x :: xs,k+1,h',x',h1,h2,hl,hlt,H=>by
  simp only[List.getElem?_cons_succ] at h1 h2;rw[XV,ZbA k h1 h2 (by simpa using hl) hlt λp hp=>H p (by simpa using hp)];simp
def VE (hs t:List Int):List Int:=(XV hs t).getD (List.replicate t.length 0)
theorem Ub (A:Option Addr)(n c:Nat)(l:List Kind)(g cp base:Nat)(t:List Int)(w:World)(hn:n<=4)(hl:KB l)(ht:TB t)(hbs:base<=w.heap.size)(hr:Arr Kind.cells 2 w base A n l)(ho:Own ZB 2 1 w base (.slice (some ⟨g,0,none⟩) n cp) n t) :
  Calls Tryz.prog 245 #[.slice A n c,.slice (some ⟨g,0,none⟩) n cp] w λe w'=>e = .returned (.bool (XV (l.map (·.fHave)) t).isSome)/\Own ZB 2 1 w' base (.slice (some ⟨g,0,none⟩) n cp) n (VE (l.map (·.fHave)) t)/\w.grownBy w' (some g):=by
 have hlen:=Za hr.len;have hlen2:=Za ho.len;have hlh:=Za hl;have hth:=Za ht;have hgb:base<=g:=by
  rcases ho.form with ⟨h,_⟩|⟨g',cap,h,hb,_⟩
  ·cases h
  ·injection h with h1;injection h1 with h1;injection h1 with h1;omega
 have hR:=Za hr;have hz0:Hid (t=t.take n++List.replicate (n-n) 0):=Za (by rw[Nat.sub_self,List.replicate_zero,List.append_nil,List.take_of_length_le (by rw[hlen2.out];exact Nat.le_refl _)]);have ho0:=Za (Eq.mp (congrArg (λq=>Own ZB 2 1 w base (.slice (some ⟨g,0,none⟩) n cp) n q) hz0.out) ho);clear hl ht ho hr;go_enter Tryz.func245,Tryz.ntmps245;go_wp2
 go_loopw [5] (λi wr=>∃(m:Nat) (z:Int),m<=n/\z=(m:Int)-1/\i = .int .i64 z/\w.grownBy wr (some g)/\Own ZB 2 1 wr base (.slice (some ⟨g,0,none⟩) n cp) n (t.take m++List.replicate (n-m) 0)/\Hid (∀p∈((l.map (·.fHave)).zip t).drop m,p.1<=p.2)) (λi _=>(intOf i+1).toNat)
 case atStart =>
  exact⟨n,(n:Int)-1,Nat.le_refl _,rfl,rfl,World.grownBy.refl w _,ho0.out,Za (by intro p hp;rw[List.drop_of_length_le (by rw[List.length_zip,List.length_map,hlen.out];omega)] at hp;cases hp)⟩
 case round =>
  obtain⟨m,z,hm,hz,rfl,hg,hown,hinv⟩:=hrel;clear hz0;by_cases h0:m=0
  ·subst h0
   have hz1:z = -1:=by omega
   subst hz1;have hno:Hid ((XV (l.map (·.fHave)) t).isSome=false/\VE (l.map (·.fHave)) t=List.replicate n 0):=Za (by
    have h:=QG (hs:=l.map (·.fHave)) (t:=t) (λp hp=>by have:=hinv.out p (by simpa using hp);omega);unfold VE;rw[h,hlen2.out];exact⟨rfl,rfl⟩)
   rw[List.take_zero,List.nil_append,Nat.sub_zero] at hown;have hO:=Za hown;have hG:=Za hg;clear hown hg hz;go_wp2
   go_ret;exact⟨ZW hno.out.1.symm,by rw[hno.out.2];exact hO.out,hG.out⟩
  ·obtain⟨k,rfl⟩:∃k,m=k+1:=⟨m-1,by omega⟩
   have hzk:z=(k:Int):=by omega
   subst hzk;have hlt:k<n:=by omega
   have hrw:=hR.out.grown hg hbs (λq e=>by cases e;exact hgb);obtain⟨b,o,x,rfl,hbl,hx,c0,c1⟩:=hrw.Kind hlt;obtain⟨y,hy,e0,ef⟩:=hown.int_at hlt;have hyt:t[k]?=some y:=by
    rw[List.getElem?_append_left (by rw[List.length_take,hlen2.out];omega),List.getElem?_take,if_pos (by omega)] at hy;exact hy
   have hO:=Za hown;have hG:=Za hg;have hX:=Za hx;have hY:=Za hyt;have hyb:=hth.out y (List.mem_of_getElem? hyt);have hxb:=(hlh.out x (List.mem_of_getElem? hx)).2;have hk0:(0:Int)<=(k:Int):=by omega
   have hkn:(k:Int)<(n:Int):=by omega
   have hkk:(k:Int).toNat=k:=by omega
   clear hown hg hx hy hyt hrw hz h0 c0;by_cases hc:y<x.fHave
   ·have hres:Hid ((XV (l.map (·.fHave)) t).isSome=true/\VE (l.map (·.fHave)) t=(t.take (k+1)++List.replicate (n-(k+1)) 0).set k (y+1)):=Za (by
     have h:=ZbA (hs:=l.map (·.fHave)) (t:=t) k (h:=x.fHave) (by rw[List.getElem?_map,hX.out];rfl) hY.out (by rw[List.length_map,hlen.out,hlen2.out]) hc (λp hp=>by have:=hinv.out p hp;omega);unfold VE;rw[h,hlen2.out];refine⟨rfl,?_⟩;show t.take k++(y+1) :: _=_
     rw[Zo hY.out,List.append_assoc,List.set_append,if_neg (by rw[List.length_take,hlen2.out];omega),List.length_take,hlen2.out,Nat.min_eq_left (by omega),Nat.sub_self];rfl)
    have hd:decide (y<x.fHave)=true:=decide_eq_true hc;have hst:Hid (∀q,Own ZB 2 1 ((wr.drewN q).setCell ⟨g,k,none⟩ (.int .i64 (y+1))) base (.slice (some ⟨g,0,none⟩) n cp) n ((t.take (k+1)++List.replicate (n-(k+1)) 0).set k (y+1))):=Za λq=>(hO.out.kept (row:=none) (Wv wr q none) (.inr (by simp[Value.ownBlock]))).int_store hlt (y+1)
    have hgw:Hid (∀q,w.grownBy ((wr.drewN q).setCell ⟨g,k,none⟩ (.int .i64 (y+1))) (some g)):=Za λq=>Zx (Zx hG.out (Wv wr q _)) (Zl _ _ _ _)
    go_wp2
    go_quiet (fail)
    go_wp2
    go_ret;exact⟨ZW hres.out.1.symm,by rw[hres.out.2];exact hst.out _,hgw.out _⟩
   ·have hd:decide (y<x.fHave)=false:=decide_eq_false hc
    have hnx:Hid (∀p∈((l.map (·.fHave)).zip t).drop k,p.1<=p.2):=Za (by
     have e:((l.map (·.fHave)).zip t)[k]?=some (x.fHave,y):=by rw[List.getElem?_zip_eq_some];exact⟨by rw[List.getElem?_map,hX.out];rfl,hY.out⟩
     intro p hp;rw[List.drop_eq_getElem_cons (Zq e)] at hp;rcases List.mem_cons.1 hp with hp|hp
     ·rw[(List.getElem?_eq_some_iff.1 e).2] at hp
      subst hp;exact Int.not_lt.1 hc
     ·exact hinv.out p hp)
    have hst:Hid (∀q,Own ZB 2 1 ((wr.drewN q).setCell ⟨g,k,none⟩ (.int .i64 0)) base (.slice (some ⟨g,0,none⟩) n cp) n (t.take k++List.replicate (n-k) 0)):=Za λq=>by
     have h:=(hO.out.kept (row:=none) (Wv wr q none) (.inr (by simp[Value.ownBlock]))).int_store hlt 0;rw[Zo hY.out,List.append_assoc,List.set_append,if_neg (by rw[List.length_take,hlen2.out];omega),List.length_take,hlen2.out,Nat.min_eq_left (by omega),Nat.sub_self] at h;rw[show n-k=(n-(k+1))+1 by omega,List.replicate_succ];exact h
    have hgw:Hid (∀q,w.grownBy ((wr.drewN q).setCell ⟨g,k,none⟩ (.int .i64 0)) (some g)):=Za λq=>Zx (Zx hG.out (Wv wr q _)) (Zl _ _ _ _)
    go_wp2
    go_quiet (fail)
    go_wp2
    go_roundw
    case rel=>exact⟨k,(k:Int)-1,by omega,rfl,by go_num,hgw.out _,hst.out _,hnx⟩
    case measure=>simp[intOf]
end Go.Proofs.YtfpaejlipaainaaGreatDoor
