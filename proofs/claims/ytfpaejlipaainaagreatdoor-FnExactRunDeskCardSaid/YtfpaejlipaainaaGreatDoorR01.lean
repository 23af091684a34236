/- Texts that belong together, joined: contracts and plain laws. No statement is proved here. -/
import Derived.Test.YtfpaejlipaainaaGreatDoorM34
set_option maxRecDepth 100000
set_option maxHeartbeats 4000000
namespace Go.Proofs
section
open Go.Shelf
def Tryz.lays169_ren:Go.Shelf.Ren:=⟨fun|169=>39|n=>n,fun|70=>67|9=>9|0=>0|72=>69|37=>22|127=>133|3=>3|5=>5|n=>n,fun|n=>n⟩
theorem Tryz.lays169:Go.Proofs.Lays.n169 Tryz.prog Tryz.lays169_ren:={
 mixed:=by kernel_rfl
 f169:=Tryz.func39.trans (congrArg some (by kernel_rfl))
 t0:=Tryz.underlying0
 a0:=Tryz.isAgg0
 z0:=Tryz.sizeOf0
 v0:=Tryz.zeroValue0
 t3:=Tryz.underlying3
 a3:=Tryz.isAgg3
 z3:=Tryz.sizeOf3
 v3:=Tryz.zeroValue3
 t9:=Tryz.underlying9
 a9:=Tryz.isAgg9
 z9:=Tryz.sizeOf9
 v9:=Tryz.zeroValue9
 t37:=Tryz.underlying22
 a37:=Tryz.isAgg22
 z37:=Tryz.sizeOf22
 v37:=Tryz.zeroValue22
 t70:=Tryz.underlying67
 a70:=Tryz.isAgg67
 z70:=Tryz.sizeOf67
 v70:=Tryz.zeroValue67
 t72:=Tryz.underlying69
 a72:=Tryz.isAgg69
 z72:=Tryz.sizeOf69
 v72:=Tryz.zeroValue69
 t127:=Tryz.underlying133
 a127:=Tryz.isAgg133
 z127:=Tryz.sizeOf133
 v127:=Tryz.zeroValue133 }
theorem Tryz.Builder_Extra_169:Builder.Extra Tryz.prog Tryz.lays169_ren:={
 sizeBuilder:=by kernel_rfl
 liesBuilder:=by kernel_rfl
 t5:=Tryz.underlying5
 a5:=Tryz.isAgg5
 z5:=Tryz.sizeOf5
 v5:=Tryz.zeroValue5
 infoByte:=by kernel_rfl
 cellsByte:=by kernel_rfl
 sizeByte:=by kernel_rfl
 neB5:=by decide }
open Go.RowKit in
theorem Tryz.Builder_String_any (B b:Nat)(l:List UInt8)(w:World)(h:Lib.IsBuilder 69 5 B b (Lib.byteCells l) w)(hBw:B<=w.heap.size) :
  Calls Tryz.prog 39 #[.pointer (some ⟨b,0,none⟩)] w λe w'=>e = .returned (.string ⟨l.toArray⟩)/\Below B w w':=Any.Builder_String_any Tryz.lays169 Tryz.Builder_Extra_169 B b l w h hBw
def Tryz.lays102_ren:Go.Shelf.Ren:=⟨fun|102=>37|209=>87|207=>139|n=>n,fun|9=>9|4=>4|3=>3|n=>n,fun|n=>n⟩
theorem Tryz.lays102:Go.Proofs.Lays.n102 Tryz.prog Tryz.lays102_ren:={
 mixed:=by kernel_rfl
 f102:=Tryz.func37.trans (congrArg some (by kernel_rfl))
 f207:=Tryz.func139.trans (congrArg some (by kernel_rfl))
 f209:=Tryz.func87.trans (congrArg some (by kernel_rfl))
 t3:=Tryz.underlying3
 a3:=Tryz.isAgg3
 z3:=Tryz.sizeOf3
 v3:=Tryz.zeroValue3
 t4:=Tryz.underlying4
 a4:=Tryz.isAgg4
 z4:=Tryz.sizeOf4
 v4:=Tryz.zeroValue4
 t9:=Tryz.underlying9
 a9:=Tryz.isAgg9
 z9:=Tryz.sizeOf9
 v9:=Tryz.zeroValue9 }
open Go.RowKit Go.Lib in
theorem Tryz.strings_TrimSuffix (s p:ByteArray)(w:World)(hs:s.size<=9223372036854775807) :
  Calls Tryz.prog 37 #[.string s,.string p] w λe w'=>e = .returned (.string ⟨(Lib.trimSuffix s.data.toList p.data.toList).toArray⟩)/\w'=w:=Any.strings_TrimSuffix Tryz.lays102 s p w hs
end
end Go.Proofs
namespace Go.Proofs.YtfpaejlipaainaaGreatDoor
open Go.ChangeShapes Go.WideShapes Go.ChangeAt Go.RowKit Go.Deep
def linesB:List ByteArray→ByteArray
 | []=>⟨#[]⟩
 | x :: l=>x++⟨#[10]⟩++linesB l
theorem Zhp (b:ByteArray):(⟨#[]⟩:ByteArray)++b=b:=ByteArray.empty_append
theorem Zb3 (b:ByteArray):b++(⟨#[]⟩:ByteArray)=b:=ByteArray.append_empty
theorem X9 (a b:List ByteArray):linesB (a++b)=linesB a++linesB b:=by
 induction a with
 | nil=>exact(Zhp _).symm
 | cons x a ih=>rw[List.cons_append,linesB,ih,linesB,ByteArray.append_assoc,ByteArray.append_assoc,ByteArray.append_assoc]
theorem Ze5 (x:ByteArray):linesB [x]=x++⟨#[10]⟩:=by
 show x++⟨#[10]⟩++(⟨#[]⟩:ByteArray)=_;rw[Zb3]
theorem Xh (a:List ByteArray)(x:ByteArray):linesB (a++[x])=linesB a++(x++⟨#[10]⟩):=by rw[X9,Ze5]
def WQ (p:DeskM × List ByteArray)(s:ByteArray):DeskM × List ByteArray:=match mLine p.1 s with
 | none=>(p.1,p.2++[⟨#[63]⟩])
 | some q=>(q.1,p.2++q.2)
def ZjK:DeskM:=⟨⟨#[70,66]⟩,5,[],[],⟨#[]⟩⟩
def mFold (L:List ByteArray):DeskM × List ByteArray:=L.foldl WQ (ZjK,[])
theorem ZeY (L:List ByteArray)(x:ByteArray):mFold (L++[x])=WQ (mFold L) x:=by unfold mFold;rw[List.foldl_append];rfl
def mLines (s:ByteArray):List ByteArray:=words 10 ⟨(Lib.trimSuffix s.data.toList [10]).toArray⟩
def ZdO (s:ByteArray):ByteArray:=if s=⟨#[]⟩ then ⟨#[]⟩ else
 if (mLines s).length<=60 then linesB (mFold (mLines s)).2 else linesB ((mFold ((mLines s).take 60)).2++[⟨#[101,114,114,111,114,32,102,117,108,108]⟩])
theorem Zj4 (s:ByteArray):s.data.toList.length=s.size:=by rw[Array.length_toList];rfl
theorem Zdu:∀rest:List UInt8,(10:UInt8)∈rest→¬(10:UInt8)∈rest.takeWhile (·≠10)/\rest=rest.takeWhile (·≠10)++10 :: rest.drop ((rest.takeWhile (·≠10)).length+1)
 | [],hm=>by cases hm
 | c :: r,hm=>by
  by_cases hc:c=10
  ·subst hc
   have e:((10:UInt8) :: r).takeWhile (·≠10)=[]:=List.takeWhile_cons_of_neg (by simp);rw[e];exact⟨by simp,by simp⟩
  ·have hr:(10:UInt8)∈r:=by
    rcases List.mem_cons.1 hm with e|e
    ·exact absurd e.symm hc
    ·exact e
   obtain⟨h1,h2⟩:=Zdu r hr;have e:(c :: r).takeWhile (·≠10)=c :: r.takeWhile (·≠10):=List.takeWhile_cons_of_pos (decide_eq_true hc);rw[e];refine⟨λh=>?_,?_⟩
   ·rcases List.mem_cons.1 h with e|e
    ·exact hc e.symm
    ·exact h1 e
   ·rw[List.cons_append,List.length_cons,List.drop_succ_cons,←h2]
theorem UP {rest l:List UInt8}(h:Yz rest=some l):¬(10:UInt8)∈l/\rest=l++10 :: rest.drop (l.length+1):=by
 unfold Yz at h;split at h
 ·rename_i hm
  have h:=Option.some.inj h;rw[←h];exact Zdu rest hm
 ·cases h
theorem ZfV {st day:Int}{rest l:List UInt8}{e:Entry}(h:Yo st day rest=some (e,l)):Yz rest=some l/\∀r,Yo st day (l++10 :: r)=some (e,l):=by
 unfold Yo at h;split at h
 ·cases h
 ·rename_i x hx
  split at h
  ·cases h
  ·rename_i e' he
   split at h
   ·rename_i hk
    injection h with h
    injection h with h3 h4
    subst h3 h4;exact⟨hx,λr=>VU (ZbH (UP hx).1) he hk⟩
   ·cases h
def Zde (d:Int)(l:List Entry):Int:=match l.getLast? with
 | some x=>x.fDay
 | none=>d
theorem Zfx (d:Int)(e:Entry)(l:List Entry):Zde d (e :: l)=Zde e.fDay l:=by
 unfold Zde;cases l with
 | nil=>rfl
 | cons y l=>rw[List.getLast?_cons_cons];cases h:(y :: l).getLast? with
  | none=>simp at h
  | some z=>rfl
theorem ZdD:∀(f:Nat) (rest:List UInt8) (st day:Int) (g:Nat) (more:List UInt8),rest.length<f→(readK f rest st day).2.1=rest.length→(rest++more).length<g →
  ∃h,more.length<h/\readK g (rest++more) st day=((readK f rest st day).1++(readK h more (readK f rest st day).2.2 (Zde day (readK f rest st day).1)).1,rest.length+(readK h more (readK f rest st day).2.2 (Zde day (readK f rest st day).1)).2.1,(readK h more (readK f rest st day).2.2 (Zde day (readK f rest st day).1)).2.2)
 | 0,_,_,_,_,_,hf,_,_=>by cases hf
 | f+1,rest,st,day,0,_,_,_,hg=>by cases hg
 | f+1,rest,st,day,g+1,more,hf,he,hg=>by
  cases hs:Yo st day rest with
  | none =>
   have h1:readK (f+1) rest st day=([],0,st):=by rw[readK];simp only[hs]
   rw[h1] at he ⊢;have hr:rest=[]:=List.eq_nil_of_length_eq_zero he.symm;subst hr;refine⟨g+1,hg,?_⟩;show readK (g+1) more st day=_
   show _=([]++(readK (g+1) more st day).1,0+(readK (g+1) more st day).2.1,(readK (g+1) more st day).2.2)
   rw[List.nil_append,Nat.zero_add]
  | some x =>
   obtain⟨e,l⟩:=x;obtain⟨h1,h2⟩:=ZfV hs;obtain⟨h3,h4⟩:=UP h1;obtain⟨R,hR⟩:∃R,R=rest.drop (l.length+1):=⟨_,rfl⟩;rw[←hR] at h4;have hl:R.length+(l.length+1)=rest.length:=by rw[h4];simp;omega
   obtain⟨r,hr⟩:∃r,r=readK f R (stampB st (entB e)) e.fDay:=⟨_,rfl⟩;have hk:readK (f+1) rest st day=(e :: r.1,l.length+1+r.2.1,r.2.2):=by rw[readK];simp only[hs,←hR,←hr]
   rw[hk] at he ⊢;simp only at he;have ht:rest++more=l++10 :: (R++more):=by rw[h4];simp
   have hd:(l++10 :: (R++more)).drop (l.length+1)=R++more:=by
    rw[show l++10 :: (R++more)=(l++[10])++(R++more) by simp];exact List.drop_left' (by simp)
   obtain⟨h,hh,e2⟩:=ZdD f R (stampB st (entB e)) e.fDay g more (by omega) (by rw[←hr];omega) (by rw[ht] at hg;simp only[List.length_append,List.length_cons] at hg ⊢;omega);rw[←hr] at e2;refine⟨h,hh,?_⟩;rw[ht,readK];simp only[h2 (R++more),hd,e2];rw[Zfx,List.cons_append,←hl]
   congr 2
   omega
theorem Zfw (l:List Entry):Zde 0 l=lastDay l:=rfl
theorem ZiM {s:ByteArray}{x:Entry}(h:ZI s=0)(hk:x.ok=true)(hd:¬x.fDay<lastDay (ents s))(hf:¬4000<(Zae s x).size):ZI (Zae s x)=0:=by
 have hup:upTo s=s.size:=by
  unfold ZI at h;split at h
  ·cases h
  ·split at h
   ·assumption
   ·cases h
 unfold ZI;rw[if_neg hf,if_pos];have hlist:(Zae s x).data.toList=s.data.toList++(lnL (stampB (lastSt s) (entB x)) x++[10]):=by
  unfold Zae;rw[Joins.data_append,QS]
 obtain⟨q,hq,e⟩:=ZdD (s.size+1) s.data.toList 0 0 ((Zae s x).size+1) (lnL (stampB (lastSt s) (entB x)) x++[10]) (by rw[ZM];omega) (by rw[ZM];exact hup) (by rw[←hlist,ZM];omega);have hlast:(readK (s.size+1) s.data.toList 0 0).2.2=lastSt s:=rfl;have hents:(readK (s.size+1) s.data.toList 0 0).1=ents s:=rfl;rw[hlast,hents,Zfw] at e;cases q with
 | zero=>cases hq
 | succ q =>
  have hst:=Za9 (st:=lastSt s) (day:=lastDay (ents s)) [] hk (by omega);have h1:(readK (q+1) (lnL (stampB (lastSt s) (entB x)) x++[10]) (lastSt s) (lastDay (ents s))).2.1=(lnL (stampB (lastSt s) (entB x)) x).length+1:=by
   rw[readK];simp only[hst];rw[List.drop_of_length_le (by simp)];have:∀g st d,(readK g [] st d).2.1=0:=by
    intro g st d;cases g with
    | zero=>rfl
    | succ g=>rw[readK,Wj (by unfold Yz;rfl)]
   rw[this]
  have hsz:=ZM (Zae s x);show(rdLog (Zae s x)).2.1=_
  unfold rdLog;rw[hlist,e];simp only;rw[h1,←hsz,hlist];simp
theorem ZhG {s:ByteArray}{x:Entry}(h:(mAdd s x).2=0):ZI (mAdd s x).1=0:=by
 by_cases h0:ZI s=0
 case neg=>rw[ZaW h0] at h;exact absurd h h0
 cases hk:x.ok
 ·rw[ZaX h0 hk] at h;cases h
 by_cases hd:x.fDay<lastDay (ents s)
 ·rw[Qj h0 hk hd] at h;cases h
 by_cases hf:4000<(Zae s x).size
 ·rw[Ql h0 hk hd hf] at h;cases h
 ·rw[Qk h0 hk hd hf];exact ZiM h0 hk hd hf
theorem Zkk {d:DeskM}{c:Cmd}{ws:List ByteArray}(h:d.ok=true)(hc:(mDo d c ws).2.2=0):(mDo d c ws).1.ok=true/\1<=(mDo d c ws).2.1.length:=by
 obtain⟨h1,h2,h3,h4,h5⟩:=DeskM.ok_parts.1 h
 revert hc
 unfold mDo;split
 ·unfold mText
  cases c<;>simp only<;>intro hc
  case cHeap =>
   split at hc
   ·rename_i hr
    rw[if_pos hr];have hp:mPutC d.hs (rhHeap (joinSp ws.tail))=0:=hc;refine⟨DeskM.ok_parts.2 ⟨h1,h2,h3,?_,h5⟩,Nat.le_refl _⟩;show ZE (mPutL d.hs (rhHeap (joinSp ws.tail)))=true
    unfold mPutL;rw[if_pos hp];unfold mPutC at hp;rw[if_pos h4] at hp;split at hp
    ·split at hp
     ·assumption
     ·cases hp
    ·cases hp
   ·cases hc
  case cStroke =>
   split at hc
   ·rename_i hr
    rw[if_pos hr];exact⟨DeskM.ok_parts.2 ⟨hr,h2,h3,h4,h5⟩,Nat.le_refl _⟩
   ·cases hc
  case cHeaps=>exact⟨h,by simp⟩
  case cLog=>exact⟨h,by simp⟩
  all_goals (rename_i hp;cases hp)
 ·split
  ·unfold mWork
   cases c<;>simp only<;>intro hc
   case cStakes =>
    split at hc
    ·rename_i hr
     rw[if_pos hr];exact⟨DeskM.ok_parts.2 ⟨h1,hr,h3,h4,h5⟩,Nat.le_refl _⟩
    ·cases hc
   case cKinds =>
    refine⟨DeskM.ok_parts.2 ⟨h1,h2,?_,h4,h5⟩,Nat.le_refl _⟩;show ZD (Yn _)=true
    unfold Yn;rw[if_pos hc];unfold kindsCd at hc;split at hc
    ·split at hc
     ·assumption
     ·cases hc
    ·cases hc
   case cEnter=>exact⟨DeskM.ok_parts.2 ⟨h1,h2,h3,h4,ZhG hc⟩,Nat.le_refl _⟩
   all_goals exact⟨h,Nat.le_refl _⟩
  ·intro hc;cases hc
theorem ZaB {d d':DeskM}{s:ByteArray}{out:List ByteArray}(h:d.ok=true)(hl:mLine d s=some (d',out)):d'.ok=true/\1<=out.length:=by
 unfold mLine at hl;split at hl
 ·cases hl
 ·split at hl
  ·split at hl
   ·rename_i hc
    have e:=Option.some.inj hl;have e1:=congrArg Prod.fst e;have e2:=congrArg Prod.snd e;simp only at e1 e2;rw[←e1,←e2];exact Zkk h hc
   ·have e:=Option.some.inj hl
    have e1:=congrArg Prod.fst e;have e2:=congrArg Prod.snd e;simp only at e1 e2;rw[←e1,←e2];exact⟨h,Nat.le_refl _⟩
  ·cases hl
theorem ZcO:ZjK.ok=true:=by
 refine DeskM.ok_parts.2 ⟨by decide,by decide,by decide,by decide,?_⟩;show ZI ⟨#[]⟩=0
 decide
theorem ZaC (L:List ByteArray):(mFold L).1.ok=true:=by
 unfold mFold;have key:∀(L:List ByteArray) (p:DeskM × List ByteArray),p.1.ok=true→(L.foldl WQ p).1.ok=true:=by
  intro L
  induction L with
  | nil=>intro p h;exact h
  | cons x L ih =>
   intro p h;rw[List.foldl_cons];refine ih _ ?_;unfold WQ;cases hm:mLine p.1 x with
   | none=>exact h
   | some q=>exact(ZaB h hm).1
 exact key L _ ZcO
theorem QR {L:List ByteArray}:∀{M:Nat},(∀l∈L,l.size<=M)→(linesB L).size<=(M+1)*L.length:=by
 induction L with
 | nil=>intro M _;exact Nat.zero_le _
 | cons x L ih =>
  intro M h;have h1:=h x List.mem_cons_self;have h2:=ih (M:=M) (λl hl=>h l (List.mem_cons_of_mem _ hl));have h3:(⟨#[10]⟩:ByteArray).size=1:=rfl;rw[linesB,Vy,Vy,List.length_cons,Nat.mul_add];omega
theorem Uv (L:List ByteArray)(hs:∀s∈L,s.size<=1048576):(linesB (mFold L).2).size<=167772170000*L.length:=by
 unfold mFold;have key:∀(L:List ByteArray) (p:DeskM × List ByteArray),(∀s∈L,s.size<=1048576)→p.1.ok=true→(linesB (L.foldl WQ p).2).size<=(linesB p.2).size+167772170000*L.length:=by
  intro L
  induction L with
  | nil=>intro p _ _;simp
  | cons x L ih =>
   intro p hL hp;rw[List.foldl_cons];have hx:=hL x List.mem_cons_self;have hL':=λs hs=>hL s (List.mem_cons_of_mem _ hs)
   have hst:(WQ p x).1.ok=true/\(linesB (WQ p x).2).size<=(linesB p.2).size+167772170000:=by
    unfold WQ;cases hm:mLine p.1 x with
    | none =>
     refine⟨hp,?_⟩;show(linesB (p.2++[⟨#[63]⟩])).size<=_
     have h3:(linesB [(⟨#[63]⟩:ByteArray)]).size=2:=rfl;rw[X9,Vy,h3];omega
    | some q =>
     obtain⟨d',out⟩:=q;refine⟨(ZaB hp hm).1,?_⟩;have hf:=V5 hp hx hm;have h3:=QR hf.2;have h4:=hf.1;show(linesB (p.2++out)).size<=_
     rw[X9,Vy];omega
   have:=ih _ hL' hst.1;rw[List.length_cons,Nat.mul_add];omega
 have:=key L (ZjK,[]) hs ZcO;have h0:(linesB (ZjK,([]:List ByteArray)).2).size=0:=rfl;rw[h0] at this;omega
theorem Zhx:(Tryz.prog.info? 69).map (·.size)=some 2:=by kernel_rfl
theorem Zj2:liesAt Tryz.prog Tryz.prog.depth 69 (2/Tryz.prog.cellsOf 69) 0 69 1=true:=by kernel_rfl
theorem Zj1 (b:Nat)(w:World)(h0:w.cell? ⟨b,0,none⟩=some (.pointer (some ⟨b,0,none⟩))) :
  Calls Tryz.prog 88 #[.pointer (some ⟨b,0,none⟩)] w λe w'=>e = .returned (.tuple #[])/\w'=w:=by
 obtain⟨j,hj,_⟩:=Option.map_eq_some_iff.1 Zhx;have hne:∀W,(binOp .neq 67 (.pointer (some ⟨b,0,none⟩)) (.pointer (some ⟨b,0,none⟩))).run Tryz.prog W = .ok (.bool false) W:=λW=>Lib.run_neq_ptr_same W _ Tryz.underlying67 hj
 go_enter Tryz.func88,Tryz.ntmps88;go_wp2
 go_end0
 exact⟨rfl,rfl⟩
theorem ZiJ (b:Nat)(w:World)(h0:w.cell? ⟨b,0,none⟩=some (.pointer none))(hsh:w.shape? b=some (69,2))(hfz:w.frozen? ⟨b,0,none⟩=false) :
  Calls Tryz.prog 88 #[.pointer (some ⟨b,0,none⟩)] w λe w'=>e = .returned (.tuple #[])/\w'=w.setCell ⟨b,0,none⟩ (.pointer (some ⟨b,0,none⟩)):=by
 obtain⟨j,hj,hjs⟩:=Option.map_eq_some_iff.1 Zhx;have h1:=Lib.run_to_unsafe (P:=Tryz.prog) w ⟨b,0,none⟩ Tryz.underlying67 Tryz.underlying172 hj (by rw[hjs];decide) hsh (Nat.zero_lt_succ 1);have h2:=Lib.run_from_unsafe (P:=Tryz.prog) w ⟨b,0,none⟩ Tryz.underlying172 Tryz.underlying67 hj hsh Zj2;go_enter Tryz.func88,Tryz.ntmps88;go_wp2
 rw[run_callFunc_extern Tryz.func140 (by kernel_rfl) (by kernel_rfl) (by kernel_rfl) (e:=Extern.AbiNoEscape.same) (by kernel_rfl)];rw[Lib.run_noEscape];simp only[Result.andThen];rw[Oper.upon_value];go_wp2
 go_end0
 exact⟨rfl,rfl⟩
theorem ZiK (B b:Nat)(bs:List Value)(w:World)(h:Lib.IsBuilder 69 5 B b bs w) :
  Calls Tryz.prog 88 #[.pointer (some ⟨b,0,none⟩)] w λe w'=>e = .returned (.tuple #[])/\(Lib.BuilderAt 69 5 B b (.pointer (some ⟨b,0,none⟩)) bs w'/\Below B w w')/\BFr b w w':=by
 rcases h with h|h
 ·refine(ZiJ b w h.cell0 h.shape h.frozen0).mono ?_
  rintro e w'⟨rfl,rfl⟩;exact⟨rfl,⟨h.used _,(Below.refl B w).setCell (p:=⟨b,0,none⟩) h.1 _⟩,BFr.set b 0 w _⟩
 ·refine(Zj1 b w h.cell0).mono ?_
  rintro e w'⟨rfl,rfl⟩;exact⟨rfl,⟨h,Below.refl B _⟩,BFr.refl b _⟩
theorem Zio:(Tryz.prog.info? 5).map (λi=>(i.zero,i.size,i.bytes))=some (some (.int .u8 0),1,1):=by kernel_rfl
theorem Zjl (a b:ByteArray):Lib.strCells (a++b)=Lib.strCells a++Lib.strCells b:=by
 unfold Lib.strCells;rw[Joins.data_append,List.map_append]
theorem ZaV (B b:Nat)(S s:ByteArray)(w:World)(h:BD w B b S)(hlen:S.size+s.size<=140737488355328)(hBw:B<=w.heap.size) :
  Calls Tryz.prog 38 #[.pointer (some ⟨b,0,none⟩),.string s] w λe w'=>e = .returned (.tuple #[.int .i64 s.size,.nilIface])/\BD w' B b (S++s)/\Below B w w'/\BFr b w w':=by
 obtain⟨i0,hi,hz0,hz1,hz2⟩:=info_parts Zio;have hlen':(Lib.strCells S).length+s.size<=140737488355328:=by rw[Lib.strCells_length];exact hlen
 go_enter Tryz.func38,Tryz.ntmps38;go_wp2_with fail
 refine(ZiK B b (Lib.strCells S) _ h).mono ?_;rintro e w1 ⟨rfl,⟨h1,hb1⟩,hfr⟩;have hFr:=Za hfr;clear hfr;obtain⟨hB,v,hbk,hown,hne⟩:=h1;have c0:w1.cell? ⟨b,0,none⟩=some (.pointer (some ⟨b,0,none⟩)):=by rw[Lib.cell_of_heap hbk];rfl
 have c1:w1.cell? ⟨b,1,none⟩=some v:=by rw[Lib.cell_of_heap hbk];rfl
 clear h;go_wp2_with (at_builtin;refine Lib.wpList_append_own_string _ rfl _ _ 22 9 rfl B 5 i0 Tryz.underlying22 Tryz.underlying9 hi hz0 hz1 hz2 _ _ _ rfl hown s rfl ?c3 ?c4 ?c5 ?_)
 case c3=>unfold maxLen;omega
 case c4=>omega
 case c5=>have:=hb1.size;omega
 intro v' w2 hown' hgrow _;have hlt:b<w1.heap.size:=(Array.getElem?_eq_some_iff.1 hbk).1;have hb2:w2.heap[b]?=some (.cells #[.pointer (some ⟨b,0,none⟩),v] 69 (0,0)):=(hgrow.block b hlt (λe=>hne e.symm)).trans hbk;have d0:w2.cell? ⟨b,0,none⟩=some (.pointer (some ⟨b,0,none⟩)):=by rw[Lib.cell_of_heap hb2];rfl
 have d1:w2.cell? ⟨b,1,none⟩=some v:=by rw[Lib.cell_of_heap hb2];rfl
 have f1:w2.frozen? ⟨b,1,none⟩=false:=Lib.frozen_of_heap hb2 1;obtain⟨ao,n',cap,rfl⟩:∃ao n' cap,v' = .slice ao n' cap:=by
  rcases hown'.2 with ⟨hv,_⟩|⟨g,cap,cur,hv,_⟩
  ·exact⟨_,_,_,hv⟩
  ·exact⟨_,_,_,hv⟩
 have hgh:=Za hgrow;have hoh:=Za hown';have hbh:=Za hb1;clear hgrow hown' hb1;go_wp2
 go_ret2
 refine⟨rfl,?_,?_,?_⟩
 ·refine .inr ?_
  rw[Zjl];exact Lib.BuilderAt.put (T:=69) (e:=5) hB hb2 (bs':=Lib.strCells S++Lib.strCells s) (by simpa[Lib.strCells_length] using hoh.out) (by decide)
 ·exact(hbh.out.grown hgh.out (by have:=hbh.out.size;omega) (λk hk=>(hown.lt k hk).1)).setCell (p:=⟨b,1,none⟩) hB _
 ·refine(hFr.out.trans ⟨hgh.out.size,λk cs t hk ht _=>?_⟩).trans (BFr.set b 1 w2 _)
  exact(hgh.out.block k (Array.getElem?_eq_some_iff.1 hk).1 (λe=>Qs hown hk (Ne.symm ht) e.symm)).trans hk
section
variable {w w':World}{B b:Nat}{S:ByteArray}
theorem Res.bfr {α:Type}{cells:α→List Value}{e s n base:Nat}{v:Value}{l:List α}(h:Res cells e s w base v n l)(hd:BD w B b S)(hf:BFr b w w')(he:e≠5)(h2:e≠69):Res cells e s w' base v n l:=by
 refine⟨h.1,h.2.1,λhn=>⟨(h.2.2 hn).1,?_⟩⟩;obtain⟨p,u,hrow⟩:=hd.row;have ho:=(h.2.2 hn).2;refine⟨ho.1,?_⟩;rcases ho.2 with hv|⟨g,cap,cur,hv,hle,hh,rest⟩
 ·exact .inl hv
 ·refine .inr ⟨g,cap,cur,hv,hle,hf.2 g cur e hh he ?_,rest⟩
  intro e2;subst e2;rw[hrow] at hh;cases hh;exact h2 rfl
theorem Zkr (w:World)(hB:B<=w.heap.size):BD (w.alloc (.cells #[.pointer none,.slice none 0 0] 69)) B w.heap.size ⟨#[]⟩:=.inl ⟨hB,.slice none 0 0,heap_alloc_new w _,World.ownsRow_nil _ _ _ _,by simp[Value.ownBlock]⟩
end
theorem UI (a b:ByteArray):Lib.strCells (a++b)=Lib.strCells a++Lib.strCells b:=by
 unfold Lib.strCells;rw[Joins.data_append,List.map_append]
theorem Zce (s:ByteArray):(bI s.data.toList).flatMap u8c=Lib.strCells s:=by
 unfold Lib.strCells bI;rw[List.flatMap_map]
 induction s.data.toList with
 | nil=>rfl
 | cons a l ih=>rw[List.flatMap_cons,List.map_cons,ih];rfl
theorem ZgC {w:World}{base:Nat}{v:Value}{s:ByteArray}(h:w.ownsRow base 5 1 v s.size (Lib.strCells s)):Own u8c 5 1 w base v s.size (bI s.data.toList) :=
 ⟨by unfold bI;rw[List.length_map];exact Zj4 s,by rw[Zce];exact h⟩
end Go.Proofs.YtfpaejlipaainaaGreatDoor
