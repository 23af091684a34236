/- Texts that belong together, joined: contracts and plain laws. No statement is proved here. -/
import Derived.Test.YtfpaejlipaainaaGreatDoorM38
set_option maxRecDepth 100000
set_option maxHeartbeats 4000000
namespace Go.Proofs.YtfpaejlipaainaaGreatDoor
open Go.ChangeShapes Go.WideShapes Go.ChangeAt Go.RowKit Go.Deep
section
variable {R:RowS}
def Cmd.form:Cmd→ByteArray
 | .cAdd=>⟨#[110]⟩
 | .cBroken=>⟨#[108]⟩
 | .cEnter=>⟨#[110,120,110]⟩
 | .cFew=>⟨#[110]⟩
 | .cHeap=>⟨#[114]⟩
 | .cHeaps=>⟨#[]⟩
 | .cJoins=>⟨#[110,108]⟩
 | .cKinds=>⟨#[108]⟩
 | .cLog=>⟨#[]⟩
 | .cRound=>⟨#[110]⟩
 | .cSound=>⟨#[110]⟩
 | .cStakes=>⟨#[110]⟩
 | .cStroke=>⟨#[120]⟩
 | .cWord=>⟨#[120,110]⟩
def Vx (y:ByteArray):ByteArray:=match U2 y with
 | some c=>c.form
 | none=>⟨#[45]⟩
theorem Wz (c:Cmd):Vx c.word=c.form:=by unfold Vx;rw[Vp]
theorem Wl (y:ByteArray)(w:World):Calls Tryz.prog 90 #[.string y] w λe w'=>e = .returned (.string (Vx y))/\w=w':=by
 cases hc:U2 y with
 | some c =>
  have hs:=Vq hc;subst hs;have hM:=Za (Wz c);clear hc;cases c<;>(
   simp only[Cmd.word];go_enter Tryz.func90,Tryz.ntmps90;go_wp2
   go_ret;exact⟨Eq.trans rfl (congrArg (λz=>Ending.returned (.string z)) hM.out.symm),rfl⟩)
 | none =>
  have hM:Hid (Vx y=⟨#[45]⟩):=Za (by unfold Vx;rw[hc]);have e0:=Z2 (l:=[97,100,100]) (Zw hc .cAdd);have e1:=Z2 (l:=[98,114,111,107,101,110]) (Zw hc .cBroken);have e2:=Z2 (l:=[101,110,116,101,114]) (Zw hc .cEnter);have e3:=Z2 (l:=[102,101,119]) (Zw hc .cFew);have e4:=Z2 (l:=[104,101,97,112]) (Zw hc .cHeap);have e5:=Z2 (l:=[104,101,97,112,115]) (Zw hc .cHeaps);have e6:=Z2 (l:=[106,111,105,110,115]) (Zw hc .cJoins);have e7:=Z2 (l:=[107,105,110,100,115]) (Zw hc .cKinds);have e8:=Z2 (l:=[108,111,103]) (Zw hc .cLog);have e9:=Z2 (l:=[114,111,117,110,100]) (Zw hc .cRound);have e10:=Z2 (l:=[115,111,117,110,100]) (Zw hc .cSound);have e11:=Z2 (l:=[115,116,97,107,101,115]) (Zw hc .cStakes);have e12:=Z2 (l:=[115,116,114,111,107,101]) (Zw hc .cStroke);have e13:=Z2 (l:=[119,111,114,100]) (Zw hc .cWord);clear hc;go_enter Tryz.func90,Tryz.ntmps90;go_wp2
  go_ret;exact⟨by rw[hM.out];rfl,rfl⟩
theorem Vz (c:Cmd)(m:Nat)(w:World)(hm:m<=1048577):Calls Tryz.prog 91 #[.string c.form,.int .i64 (m:Int)] w λe w'=>e = .returned (.bool (c.fits (m+1)))/\w=w':=by
 cases c<;>(
  simp only[Cmd.form,Cmd.fits];go_enter Tryz.func91,Tryz.ntmps91;go_wp2
  go_ret;refine⟨ZW ?_,rfl⟩;rw[Bool.eq_iff_iff];simp
  try omega)
theorem Qt (T:List ByteArray):ZC none T T.length=T:=by
 have key:∀k,k<=T.length→ZC none T k=T.take k:=by
  intro k
  induction k with
  | zero=>intro _;rfl
  | succ k ih =>
   intro hk;have hx:T[k]?=some T[k]:=List.getElem?_eq_getElem (by omega);rw[Ve (by simp) hx,ih (by omega),Zo hx]
 rw[key _ (Nat.le_refl _),List.take_length]
theorem Zcl (y0:ByteArray)(T:List ByteArray):segT (y0 :: T) 0 (y0 :: T).length=T:=by
 unfold segT;rw[List.take_length];rfl
theorem Wy {c:Cmd}{y0:ByteArray}{T:List ByteArray}(hf:c.fits (T.length+1)=true):nmUp c.form (y0 :: T) c.form.size=(if c.plain then [] else ZC c.skip T T.length):=by
 cases c<;>simp only[Cmd.fits,decide_eq_true_eq] at hf
 case cAdd =>
  obtain⟨a,rfl⟩:∃a,T=[a]:=by
   match T,hf with
   | [],h=>simp at h
   | [a],_=>exact⟨a,rfl⟩
   | a :: b :: r,h=>simp at h
  rfl
 case cBroken =>
  refine Eq.trans ?_ (Qt T).symm;exact Zcl y0 T
 case cEnter =>
  obtain⟨a,b,d,rfl⟩:∃a b d,T=[a,b,d]:=by
   match T,hf with
   | [],h=>simp at h
   | [a],h=>simp at h
   | [a,b],h=>simp at h
   | [a,b,d],_=>exact⟨a,b,d,rfl⟩
   | a :: b :: d :: e :: r,h=>simp at h
  rfl
 case cFew =>
  obtain⟨a,rfl⟩:∃a,T=[a]:=by
   match T,hf with
   | [],h=>simp at h
   | [a],_=>exact⟨a,rfl⟩
   | a :: b :: r,h=>simp at h
  rfl
 case cHeap =>
  rfl
 case cHeaps =>
  rfl
 case cJoins =>
  refine Eq.trans ?_ (Qt T).symm
  match T,hf with
  | [],h=>simp at h
  | a :: r,_ =>
   show[a]++segT (y0 :: a :: r) 1 (y0 :: a :: r).length=_
   unfold segT;rw[List.take_length];rfl
 case cKinds =>
  refine Eq.trans ?_ (Qt T).symm;exact Zcl y0 T
 case cLog =>
  rfl
 case cRound =>
  obtain⟨a,rfl⟩:∃a,T=[a]:=by
   match T,hf with
   | [],h=>simp at h
   | [a],_=>exact⟨a,rfl⟩
   | a :: b :: r,h=>simp at h
  rfl
 case cSound =>
  obtain⟨a,rfl⟩:∃a,T=[a]:=by
   match T,hf with
   | [],h=>simp at h
   | [a],_=>exact⟨a,rfl⟩
   | a :: b :: r,h=>simp at h
  rfl
 case cStakes =>
  obtain⟨a,rfl⟩:∃a,T=[a]:=by
   match T,hf with
   | [],h=>simp at h
   | [a],_=>exact⟨a,rfl⟩
   | a :: b :: r,h=>simp at h
  rfl
 case cStroke =>
  rfl
 case cWord =>
  obtain⟨a,b,rfl⟩:∃a b,T=[a,b]:=by
   match T,hf with
   | [],h=>simp at h
   | [a],h=>simp at h
   | [a,b],_=>exact⟨a,b,rfl⟩
   | a :: b :: d :: r,h=>simp at h
  rfl
theorem Js {y0:ByteArray}{T:List ByteArray}(hf:Cmd.cStroke.fits (T.length+1)=true):WF Cmd.cStroke.form (y0 :: T) 1=[joinSp T]:=by
 simp only[Cmd.fits,decide_eq_true_eq] at hf;obtain⟨a,rfl⟩:∃a,T=[a]:=by
  match T,hf with
  | [],h=>simp at h
  | [a],_=>exact⟨a,rfl⟩
  | a :: b :: r,h=>simp at h
 rfl
theorem Zdt {y0:ByteArray}{T:List ByteArray}:WF Cmd.cHeap.form (y0 :: T) 1=[joinSp T]:=by
 show[joinSp (segT (y0 :: T) 0 (y0 :: T).length)]=_
 rw[Zcl]
theorem Zds {y0:ByteArray}{T:List ByteArray}(hf:Cmd.cWord.fits (T.length+1)=true):WF Cmd.cWord.form (y0 :: T) 2=[(y0 :: T).getD 1 ⟨#[]⟩]:=by
 simp only[Cmd.fits,decide_eq_true_eq] at hf;obtain⟨a,b,rfl⟩:∃a b,T=[a,b]:=by
  match T,hf with
  | [],h=>simp at h
  | [a],h=>simp at h
  | [a,b],_=>exact⟨a,b,rfl⟩
  | a :: b :: d :: r,h=>simp at h
 show[joinSp [a]]=_
 rw[Vj];rfl
theorem Za5 {y0:ByteArray}{T:List ByteArray}(hf:Cmd.cEnter.fits (T.length+1)=true):WF Cmd.cEnter.form (y0 :: T) 3=[(y0 :: T).getD 2 ⟨#[]⟩]:=by
 simp only[Cmd.fits,decide_eq_true_eq] at hf;obtain⟨a,b,d,rfl⟩:∃a b d,T=[a,b,d]:=by
  match T,hf with
  | [],h=>simp at h
  | [a],h=>simp at h
  | [a,b],h=>simp at h
  | [a,b,d],_=>exact⟨a,b,d,rfl⟩
  | a :: b :: d :: e :: r,h=>simp at h
 show[joinSp [b]]=_
 rw[Vj];rfl
theorem VJ (c:Cmd):(c.form.toList == [45])=false:=by cases c<;>exact Z2 (by decide)
theorem J1 (c:Cmd):c.form.size<=3:=by cases c<;>decide
theorem Zhi (c:Cmd):∀k,k<c.form.size→fch c.form k=110\/fch c.form k=108\/fch c.form k=114\/fch c.form k=120:=by cases c<;>decide
theorem ZbY {c:Cmd}{n:Nat}(h:c.fits n=true):c.form.size+1<=n:=by
 have e:c.form.size=(match c with|.cHeaps=>0|.cLog=>0|.cJoins=>2|.cWord=>2|.cEnter=>3|_=>1):=by cases c<;>rfl
 rw[e];cases c<;>simp only[Cmd.fits,decide_eq_true_eq] at h<;>simp only<;>omega
def ZeR (k:Int)(d d':DeskM)(L:List ByteArray):DeskM × List ByteArray:=if k=0 then (d',L) else (d,[errB k])
theorem Wp (k:Int)(d:DeskM)(t:ByteArray):ZeR k d d [t]=(d,[sayB k t]):=by unfold ZeR sayB;split<;>rfl
section
variable {d d':DeskM}{s y0:ByteArray}{T L:List ByteArray}{c:Cmd}{t:ByteArray}{k:Int}
theorem ZeW (h:U2 y0=none)(hT:words 32 s=y0 :: T):mLine d s=none:=VF hT (by unfold YS;rw[h])
theorem ZeX (hT:words 32 s=y0 :: T)(hc:y0=c.word)(hf:c.fits (T.length+1)=false):mLine d s=none:=VF hT (by rw[hT,hc,XR];exact hf)
theorem V6 (hT:words 32 s=y0 :: T)(hc:y0=c.word)(hf:c.fits (T.length+1)=true)(hd:mDo d c (words 32 s)=(d',L,k)):mLine d s=some (ZeR k d d' L):=by
 rw[ZbB hT (by rw[hc];exact Vp c) (by rw[hT];exact hf),hd];unfold ZeR;split<;>rfl
theorem ZgH (hT:words 32 s=y0 :: T)(hc:y0=c.word)(hf:c.fits (T.length+1)=true)(hp:c.plain=false)(hb:Xy c.skip T=false):mLine d s=some (d,[errB 7]):=by
 rw[V6 hT hc hf (ZgJ hT hp hb)];rfl
theorem YO (hT:words 32 s=y0 :: T)(hc:y0=c.word)(hf:c.fits (T.length+1)=true)(hp:c.plain=false)(hb:Xy c.skip T=true)(hw:mWork d c (words 32 s) (numsL c.skip T)=(d',t,k)):mLine d s=some (ZeR k d d' [t]) :=
 V6 hT hc hf (by rw[Qb hT hp hb,hw])
theorem Vf (hT:words 32 s=y0 :: T)(hc:y0=c.word)(hf:c.fits (T.length+1)=true)(hp:c.plain=true)(hw:mText d c (joinSp T)=(d',L,k)):mLine d s=some (ZeR k d d' L) :=
 V6 hT hc hf (by unfold mDo;rw[if_pos hp,hT];exact hw)
end
theorem Vw {c:Cmd}{y0:ByteArray}{T:List ByteArray}(hf:c.fits (T.length+1)=true)(hp:c.plain=false)(hb:Xy c.skip T=true):(nmUp c.form (y0 :: T) c.form.size).map rdI=numsL c.skip T:=by
 rw[Wy hf,if_neg (by rw[hp];decide)];unfold numsL;rw[if_pos hb]
theorem J0 {c:Cmd}{y0:ByteArray}{T:List ByteArray}(hf:c.fits (T.length+1)=true):(nmUp c.form (y0 :: T) c.form.size).all rdB=(if c.plain then true else Xy c.skip T):=by
 rw[Wy hf];split<;>rfl
end
def JI (S b:Int)(rods:List Int):Nat→List Int→List Int × Int→List Int × Int
 | 0,_,st=>st
 | n+1,o,st =>
  if st.2=0 then st
  else if o.length=rods.length then (if st.2<0\/(mAbv S b (laidOf rods o):Int)<st.2 then (o,(mAbv S b (laidOf rods o):Int)) else st)
  else (List.range rods.length).foldl (λst (k:Nat)=>if (k:Int)∈o then st else JI S b rods n (o++[(k:Int)]) st) st
def stp (S b:Int)(rods:List Int)(st:List Int × Int)(o:List Int):List Int × Int :=
 if st.2<0\/(mAbv S b (laidOf rods o):Int)<st.2 then (o,(mAbv S b (laidOf rods o):Int)) else st
def WR (rods:List Int):Nat→List Int→List (List Int)
 | 0,_=>[]
 | n+1,o=>if o.length=rods.length then [o] else (List.range rods.length).flatMap λk:Nat=>if (k:Int)∈o then [] else WR rods n (o++[(k:Int)])
theorem UA {α β:Type}(f:α→β→α)(a:α):∀l:List β,(∀x∈l,f a x=a)→l.foldl f a=a
 | [],_=>rfl
 | x :: l,h=>by rw[List.foldl_cons,h x List.mem_cons_self];exact UA f a l λy hy=>h y (List.mem_cons_of_mem _ hy)
theorem UB {α β γ:Type}(f:α→β→α)(g:γ→List β)(h:α→γ→α):∀(l:List γ) (a:α),(∀x∈l,∀a,h a x=(g x).foldl f a)→l.foldl h a=(l.flatMap g).foldl f a
 | [],_,_=>rfl
 | x :: l,a,hh=>by
  rw[List.foldl_cons,List.flatMap_cons,List.foldl_append,hh x List.mem_cons_self];exact UB f g h l _ λy hy=>hh y (List.mem_cons_of_mem _ hy)
theorem JP {rods:List Int}:∀(n:Nat) (o l:List Int),l∈WR rods n o→∃e,l=o++e
 | 0,_,_,h=>by cases h
 | n+1,o,l,h=>by
  rw[WR] at h;split at h
  ·exact⟨[],by rw[List.mem_singleton.1 h,List.append_nil]⟩
  ·obtain⟨k,_,hk⟩:=List.mem_flatMap.1 h
   split at hk
   ·cases hk
   ·obtain⟨e,rfl⟩:=JP n _ _ hk
    exact⟨[(k:Int)]++e,by rw[List.append_assoc]⟩
theorem ZiU {S b:Int}{P Q:List Int}{k:Nat}(hk:k<P.length):Za0 S b (P++Q) k=Za0 S b P k:=by
 unfold Za0 Vu;apply Bool.eq_iff_iff.2
 rw[List.any_eq_true,List.any_eq_true];have e:∀i,i<=k→(P++Q).getD i 0=P.getD i 0:=λi hi=>by
  rw[List.getD_eq_getElem?_getD,List.getD_eq_getElem?_getD,List.getElem?_append_left (by omega)]
 constructor
 ·rintro⟨x,hx,hp⟩
  rw[e k (Nat.le_refl _),e x (by have:=List.mem_range.1 hx;omega)] at hp;exact⟨x,hx,hp⟩
 ·rintro⟨x,hx,hp⟩
  refine⟨x,hx,?_⟩;rw[e k (Nat.le_refl _),e x (by have:=List.mem_range.1 hx;omega)];exact hp
theorem ZiT {S b:Int}{P Q:List Int}:∀m,m<=P.length→Jo S b (P++Q) m=Jo S b P m:=by
 intro m
 induction m with
 | zero=>intro _;rfl
 | succ m ih =>
  intro hm;have h1:=ih (by omega);have h2:=ZiU (S:=S) (b:=b) (P:=P) (Q:=Q) (k:=m) (by omega);cases h:Za0 S b P m
  ·rw[ZaY h,ZaY (h2.trans h),h1]
  ·rw[Qm h,Qm (h2.trans h),h1]
theorem ZhH {S b:Int}{P:List Int}{m m':Nat}(h:m<=m'):Jo S b P m<=Jo S b P m':=by
 obtain⟨d,rfl⟩:∃d,m'=m+d:=⟨m' - m,by omega⟩
 induction d with
 | zero=>exact Nat.le_refl _
 | succ d ih =>
  have:=ih (by omega);cases hh:Za0 S b P (m+d)
  ·rw[show m+(d+1)=(m+d)+1 by omega,ZaY hh];exact this
  ·rw[show m+(d+1)=(m+d)+1 by omega,Qm hh];omega
theorem ZcG (l e:List Int):∃Q,placesL (l++e)=placesL l++Q:=by
 refine⟨(placesL (l++e)).drop (placesL l).length,?_⟩;have h:(placesL (l++e)).take (placesL l).length=placesL l:=by
  apply List.ext_getElem?
  intro i;rw[Wo,List.getElem?_take];by_cases hi:i<l.length-1
  ·have h2:i+1<(l++e).length:=by rw[List.length_append];omega
   rw[if_pos hi,QC h2,QC (by omega),List.take_append_of_le_length (by omega)]
  ·rw[if_neg hi,List.getElem?_eq_none (by rw[Wo];omega)]
 exact((List.take_append_drop (placesL l).length (placesL (l++e))).symm).trans (by rw[h])
theorem ZgK (S b:Int)(l e:List Int):mAbv S b l<=mAbv S b (l++e):=by
 obtain⟨Q,hQ⟩:=ZcG l e;unfold mAbv;rw[hQ,←ZiT (S:=S) (b:=b) (P:=placesL l) (Q:=Q) _ (Nat.le_refl _)];exact ZhH (by rw[List.length_append];omega)
theorem Ze6 (rods o e:List Int):laidOf rods (o++e)=laidOf rods o++laidOf rods e:=by unfold laidOf;rw[List.map_append]
theorem Uq (S b:Int)(rods:List Int):∀(n:Nat) (o:List Int) (st:List Int × Int),plc S b rods n o st=(WR rods n o).foldl (stp S b rods) st
 | 0,_,_=>rfl
 | n+1,o,st=>by
  by_cases h1:0<=st.2/\st.2<=(mAbv S b (laidOf rods o):Int)
  ·rw[plc,if_pos h1,UA]
   intro l hl;obtain⟨e,rfl⟩:=JP _ _ _ hl;unfold stp;have:=ZgK S b (laidOf rods o) (laidOf rods e);rw[Ze6,if_neg (by omega)]
  ·rw[plc,if_neg h1,WR]
   by_cases h2:o.length=rods.length
   ·rw[if_pos h2,if_pos h2,List.foldl_cons,List.foldl_nil]
    unfold stp;rw[if_pos (by omega)]
   ·rw[if_neg h2,if_neg h2]
    refine UB _ _ _ _ _ λk _ a=>?_
    by_cases hk:(k:Int)∈o
    ·rw[if_pos hk,if_pos hk];rfl
    ·rw[if_neg hk,if_neg hk];exact Uq S b rods n _ _
theorem QB (S b:Int)(rods:List Int):∀(n:Nat) (o:List Int) (st:List Int × Int),JI S b rods n o st=(WR rods n o).foldl (stp S b rods) st
 | 0,_,_=>rfl
 | n+1,o,st=>by
  by_cases h1:st.2=0
  ·rw[JI,if_pos h1,UA]
   intro l _;unfold stp;rw[if_neg (by omega)]
  ·rw[JI,if_neg h1,WR]
   by_cases h2:o.length=rods.length
   ·rw[if_pos h2,if_pos h2,List.foldl_cons,List.foldl_nil];rfl
   ·rw[if_neg h2,if_neg h2]
    refine UB _ _ _ _ _ λk _ a=>?_
    by_cases hk:(k:Int)∈o
    ·rw[if_pos hk,if_pos hk];rfl
    ·rw[if_neg hk,if_neg hk];exact QB S b rods n _ _
theorem Zid (S b:Int)(rods:List Int)(n:Nat)(o:List Int)(st:List Int × Int):JI S b rods n o st=plc S b rods n o st:=by rw[Uq,QB]
theorem Zf5 (A:Option Addr)(n c:Nat)(l:List Int)(w:World)(hn:n<=1048576)(hr:Arr ZB 1 w w.heap.size A n l) :
  Calls Tryz.prog 285 #[.slice A n c] w λe w'=>e = .returned (.bool (Y9 l))/\Below w.heap.size w w':=by
 have hl:=Za hr.len;have hWO:Hid (∀b:Bool,Zb5 l 1 200=b→Y9 l=(decide (l.length<=7)&&b)):=Za λb h=>by rw[←h];rfl
 go_enter Tryz.func285,Tryz.ntmps285;go_wp2
 go_loopw [3] (λi wr=>∃k:Nat,k<=n/\i = .int .i64 k/\Below w.heap.size w wr/\Hid ((l.take k).all (λx=>inB x 1 200)=true)) (λi _=>n-(intOf i).toNat)
 case atStart=>exact⟨0,Nat.zero_le _,rfl,Below.refl _ _,Za (by simp)⟩
 case round =>
  obtain⟨k,hk,rfl,hb,hall⟩:=hrel;by_cases hlt:k<n
  ·obtain⟨b,o,x,rfl,hbl,hx,c0⟩:=hr.int hlt
   have d0:wr.cell? ⟨b,o+k,none⟩=some (.int .i64 x):=(hb.cell (p:=⟨b,o+k,none⟩) hbl).trans c0;have hX:=Za hx;clear hx c0;have hB:=Za hb;clear hr hb;cases h1:inB x 1 200
   ·have hd:Hid (Y9 l=false):=Za (by rw[hWO.out false (by unfold Zb5;rw[Xl hX.out h1]),Bool.and_false])
    go_wp2_with (go_at_call 135;refine(Yc _ _ _ _).mono ?_;rintro e w' ⟨rfl,rfl⟩)
    go_ret;exact⟨ZW hd.out.symm,hB.out⟩
   ·go_wp2_with (go_at_call 135;refine(Yc _ _ _ _).mono ?_;rintro e w' ⟨rfl,rfl⟩)
    go_roundw
    case rel=>exact⟨k+1,by omega,by go_num,hB.out,Za (by rw[Zo hX.out,List.all_append,hall.out];simp[h1])⟩
    case measure=>simp[intOf];omega
  ·have hkn:k=n:=by omega
   subst hkn;have hB:=Za hb;clear hb;have hd:Hid (Y9 l=decide (l.length<=7)):=Za (by
    have e:=hall.out;rw[List.take_of_length_le (by rw[hl.out];exact Nat.le_refl _)] at e;rw[hWO.out true e,Bool.and_true])
   go_wp2
   go_ret;exact⟨ZW (by rw[hd.out,hl.out,Bool.eq_iff_iff,decide_eq_true_eq,decide_eq_true_eq];omega),hB.out⟩
theorem Wm (S b:Int)(A:Option Addr)(n c:Nat)(l:List Int)(w:World)(hn:n<=1048576)(hS:inB S 3 60=true)(hr:Arr ZB 1 w w.heap.size A n l) :
  Calls Tryz.prog 216 #[.int .i64 S,.slice A n c,.int .i64 b] w λe w'=>e = .returned (.int .i64 (if Y9 l then (if inB b 0 5 then 0 else 2) else 1))/\Below w.heap.size w w':=by
 have hok:∀W,Arr ZB 1 W W.heap.size A n l→Calls Tryz.prog 260 #[.int .i64 S,.slice A n c] W λe w'=>e = .returned (.bool (Y9 l))/\Below W.heap.size W w':=by
  intro W hR;go_enter Tryz.func260,Tryz.ntmps260;go_wp2_with fail
  refine(Z8 S _).mono ?_;rw[hS];rintro e w2 ⟨rfl,rfl⟩;go_wp2_with fail
  refine(Zf5 A n c l _ hn hR).mono ?_;rintro e w2 ⟨rfl,hb⟩;have hB:=Za hb;clear hb;go_wp2
  go_ret;exact⟨rfl,hB.out⟩
 have hOk:=Za hok;clear hok;cases h1:Y9 l
 ·go_enter Tryz.func216,Tryz.ntmps216
  go_wp2_with fail
  refine(hOk.out _ hr).mono ?_;rw[h1];rintro e w2 ⟨rfl,hb⟩;have hB:=Za hb;clear hb;go_wp2
  go_ret;exact⟨rfl,hB.out⟩
 cases h2:inB b 0 5
 all_goals
  go_enter Tryz.func216,Tryz.ntmps216;go_wp2_with fail
  refine(hOk.out _ hr).mono ?_;rw[h1];rintro e w2 ⟨rfl,hb⟩;have hB:=Za hb;clear hb;go_wp2_with (go_at_call 135;refine(Yc _ _ _ _).mono ?_;rintro e w' ⟨rfl,rfl⟩)
  go_ret;exact⟨rfl,hB.out⟩
theorem Zev (A:Option Addr)(n c:Nat)(l:List Int)(w:World)(hl:RB7 l)(hr:Arr ZB 1 w w.heap.size A n l) :
  Calls Tryz.prog 304 #[.slice A n c] w λe w'=>∃v,e = .returned v/\Own ZB 2 1 w' w.heap.size v (placesL l).length (placesL l)/\Below w.heap.size w w':=by
 have hlen:=Za hr.len;have hn:n<=7:=by rw[←hr.len];exact hl.1
 have hbh:=Za (ZfQ hl);clear hl;go_enter Tryz.func304,Tryz.ntmps304;go_wp2
 go_loopw [3,4,5] (λv p i wr=>∃(k:Nat) (z:Int),(k+1<=n\/k=0)/\i = .int .i64 k/\p = .int .i64 z/\Below w.heap.size w wr/\Own ZB 2 1 wr w.heap.size v (Qa l k).length (Qa l k)/\Hid (z=sumOf id (l.take k))) (λ_ _ i _=>n-(intOf i).toNat)
 case atStart =>
  have h0:Qa l 0=[]:=by simp[Qa]
  exact⟨0,0,.inr rfl,rfl,rfl,(Below.refl w.heap.size w).alloc (Nat.le_refl _) _,by rw[h0];exact Own.none_made _ (Nat.le_refl _),Za rfl⟩
 case round =>
  obtain⟨k,z,hk,rfl,rfl,hb,ho,hz⟩:=hrel;have hO:=Za ho;have hwk:IntKind.i64.wrap ((k:Int)+1)=(k:Int)+1:=IntWalk.i64_in _ (by omega);by_cases hlt1:k+1<n
  ·have hlt:k<n:=by omega
   have hlti:(k:Int)+1<(n:Int):=by omega
   obtain⟨b,o,x,rfl,hbl,hx,c0⟩:=hr.int hlt;have d0:wr.cell? ⟨b,o+k,none⟩=some (.int .i64 x):=(hb.cell (p:=⟨b,o+k,none⟩) hbl).trans c0;have hX:=Za hx;clear hx c0;have hB:=Za hb;have hnx:Hid (z+x=sumOf id (l.take (k+1))):=Za (by rw[X3 hX.out,←hz.out];rfl);have hzb:0<=z+x/\z+x<=1400:=by rw[hnx.out];exact hbh.out (k+1)
   have hwz:IntKind.i64.wrap (z+x)=z+x:=IntWalk.i64_in _ (by omega);have hpl:=Zav l k;have hll:(Qa l k).length<=7:=by omega
   have hu:=Za (ZdI (l:=l) (k:=k) (by rw[hlen.out];exact hlt1));clear hr hb ho hpl;go_wp2_with (at_builtin;refine Zp wr.heap.size rfl rfl (.tmp 20) (.tmp 22) rfl Tryz.underlying60 Zz rfl (by omega) (by omega) Zh ZJ rfl hO.out (z+x) _ rfl rfl (by omega) hB.out.size ?_;intro v5 w5 ho5 hg5 _;have hB5:=Za (Zi hB.out hO.out hg5 hB.out.size);have hO5:=Za ho5;clear ho5 hg5)
   go_roundw
   case rel=>exact⟨k+1,z+x,.inl (by omega),by go_num,rfl,hB5.out,by rw[hu.out,List.length_append,←hnx.out];exact hO5.out,hnx⟩
   case measure=>simp[intOf];omega
  ·have hlti:¬(k:Int)+1<(n:Int):=by omega
   have hB:=Za hb;have hfin:Hid (Qa l k=placesL l):=Za (by
    unfold placesL Qa;rw[show min k (l.length-1)=min l.length (l.length-1) by rw[hlen.out];omega])
   clear hb ho;go_wp2
   go_ret;exact⟨_,rfl,by rw[←hfin.out];exact hO.out,hB.out⟩
def abvI (S b:Int)(P:List Int)(m:Nat):List Int:=((List.range m).filter (Za0 S b P)).map λj:Nat=>(j:Int)
theorem Zd5 (S b:Int)(P:List Int)(m:Nat):(abvI S b P m).length=Jo S b P m:=by unfold abvI Jo;rw[List.length_map]
theorem ZiV {S b:Int}{P:List Int}{m:Nat}(h:Za0 S b P m=true):abvI S b P (m+1)=abvI S b P m++[(m:Int)]:=by
 unfold abvI;rw[List.range_succ,List.filter_append,List.map_append];simp[h]
theorem Zka {S b:Int}{P:List Int}{m:Nat}(h:Za0 S b P m=false):abvI S b P (m+1)=abvI S b P m:=by
 unfold abvI;rw[List.range_succ,List.filter_append,List.map_append];simp[h]
theorem ZeE (S b:Int)(A:Option Addr)(n c:Nat)(l:List Int)(w:World)(hS:3<=S/\S<=60)(hl:RB7 l)(hr:Arr ZB 1 w w.heap.size A n l) :
  Calls Tryz.prog 286 #[.int .i64 S,.slice A n c,.int .i64 b] w λe w'=>∃v,e = .returned v/\Own ZB 2 1 w' w.heap.size v (mAbv S b l) (abvI S b (placesL l) (placesL l).length)/\Below w.heap.size w w':=by
 have hPB:=Za (Zbs hl);have hfin:Hid (mAbv S b l=Jo S b (placesL l) (placesL l).length):=Za rfl;obtain⟨P,hP⟩:∃P,P=placesL l:=⟨_,rfl⟩;rw[←hP] at hPB hfin;rw[hfin.out,←hP];have hp7:=hPB.out.1;go_enter Tryz.func286,Tryz.ntmps286;go_wp2_with fail
 refine(Zev A n c l _ hl hr).mono ?_;rw[←hP];rintro e w1 ⟨v,rfl,ho,hb⟩;obtain⟨A1,c1,rfl,hc1⟩:=ho.slice;obtain⟨N,hN⟩:∃N,N=P.length:=⟨_,rfl⟩;have hNh:=Za hN;rw[←hN] at ho hp7 hc1 ⊢;have hA:=ho.arr Zh;have hA0:Arr ZB 1 w1 w1.heap.size A1 N P:=hA;have hB0:=Za (hb.alloc (o:=.cells #[] 2) hb.size);have hO0:=Za (Own.none_made (cells:=ZB) (e:=2) (s:=1) (base:=w1.heap.size) w1 (Nat.le_refl _));have hws:=Za hb.size;clear hb ho hP hr hl hA hN;go_wp2
 go_loopw [8,9] (λq i wr=>∃k:Nat,k<=N/\i = .int .i64 (k:Int)/\Own ZB 2 1 wr w1.heap.size q (abvI S b P k).length (abvI S b P k)/\Below w1.heap.size w1 wr/\Below w.heap.size w wr) (λ_ i _=>N-(intOf i).toNat)
 case atStart=>exact⟨0,Nat.zero_le _,rfl,hO0.out,(Below.refl _ _).alloc (Nat.le_refl _) _,hB0.out⟩
 case round =>
  clear hO0 hB0;obtain⟨k,hk,rfl,ho,hb1,hb0⟩:=hrel;have hO:=Za ho;have hB1:=Za hb1;have hB:=Za hb0;have hkl:=Zdn S b P k;have hll:(abvI S b P k).length<=7:=by rw[Zd5];omega
  clear ho hb1 hb0 hkl;by_cases hlt:k<N
  ·have hlti:(k:Int)<(N:Int):=by omega
   obtain⟨wo,hwo⟩:∃wo:World,wo=wr:=⟨_,rfl⟩;rw[←hwo] at hO hB1 hB ⊢;clear hwo;go_wp2
   go_loopw [10,11] (λab j wx=>∃q:Nat,q<=k/\j = .int .i64 (q:Int)/\ab = .bool (Vu S b P k q)/\Below wo.heap.size wo wx) (λ_ j _=>k-(intOf j).toNat)
   case atStart=>exact⟨0,Nat.zero_le _,rfl,rfl,Below.refl _ _⟩
   case round =>
    obtain⟨q,hq,rfl,rfl,hbx⟩:=hrel;have hBx:=Za hbx;have hAx:=(hA0.below hB1.out).below (hbx.mono hB1.out.size);clear hbx;by_cases hql:q<k
    ·have hqi:(q:Int)<(k:Int):=by omega
     have hwq:IntKind.i64.wrap ((q:Int)+1)=(q:Int)+1:=IntWalk.i64_in _ (by omega);obtain⟨g,o,x0,hA3,_,hx0,c0⟩:=hAx.int hlt;obtain⟨g',o',y0,hA4,_,hy0,c1'⟩:=hAx.int (show q<N by omega);subst hA3;injection hA4 with hA4
     injection hA4 with hA5 hA6
     subst hA5 hA6;have hxb:=hPB.out.2 x0 (List.mem_of_getElem? hx0);have hyb:=hPB.out.2 y0 (List.mem_of_getElem? hy0);have hst:=Za (Zaf S b P k q);rw[Wx hx0,Wx hy0] at hst;have hd1:IntKind.i64.wrap (x0-y0)=x0-y0:=IntWalk.i64_in _ (by omega);have hd2:IntKind.i64.wrap (x0-y0-S)=x0-y0-S:=IntWalk.i64_in _ (by omega);have hk0:(0:Int)<=(k:Int):=by omega
     have hq0:(0:Int)<=(q:Int):=by omega
     have hqn:(q:Int)<(N:Int):=by omega
     have hsz:=Za (λW=>Zf3 (x0-y0-S) W (by omega) (by omega));obtain⟨D,hD⟩:∃D:Int,D=((x0-y0-S).natAbs:Int):=⟨_,rfl⟩;rw[←hD] at hst hsz;clear hx0 hy0 hD;cases hab:Vu S b P k q
     ·have hnx:Hid (Vu S b P k (q+1)=decide (D<=b)):=Za (by rw[hst.out,hab,Bool.false_or])
      go_wp2
      go_quiet ((first|(go_at_call 305;exact Zy (hsz.out _))|fail))
      go_wp2
      go_roundw
      case rel=>exact⟨q+1,by omega,by go_num,by rw[hnx.out],Zb hBx.out _⟩
      case measure=>simp[intOf];omega
     ·have hnx:Hid (Vu S b P k (q+1)=true):=Za (by rw[hst.out,hab,Bool.true_or])
      go_wp2
      go_quiet (fail)
      go_wp2
      go_roundw
      case rel=>exact⟨q+1,by omega,by go_num,by rw[hnx.out],Zb hBx.out _⟩
      case measure=>simp[intOf];omega
    ·obtain rfl:q=k:=by omega
     have hqi:¬(q:Int)<(q:Int):=by omega
     have hO2:=Za (hO.out.below hBx.out);have hB2:=Za (Below.up hB.out hBx.out);have hB12:=Za (Below.up hB1.out hBx.out);have hbs:Hid (w1.heap.size<=wr.heap.size):=Za hB12.out.size;clear hAx hBx hO hB hB1;cases hab:Vu S b P q q
     ·have hnx:=Za (Zka (show Za0 S b P q=false from hab))
      go_wp2
      go_roundw
      case rel=>exact⟨q+1,by omega,by go_num,by rw[hnx.out];exact hO2.out,hB12.out,hB2.out⟩
      case measure=>simp[intOf];omega
     ·have hnx:=Za (ZiV (show Za0 S b P q=true from hab))
      go_wp2_with (at_builtin;refine Zp wr.heap.size rfl rfl (.tmp 44) (.tmp 46) rfl Tryz.underlying60 Zz rfl (by omega) (by omega) Zh ZJ rfl hO2.out (q:Int) _ rfl rfl (by omega) hbs.out ?_;intro v5 w5 ho5 hg5 _;have hB5:=Za (Zi hB2.out (hO2.out.less hws.out) hg5 hB2.out.size);have hB15:=Za (Zi hB12.out hO2.out hg5 hB12.out.size);have hO5:=Za ho5;clear ho5 hg5)
      go_roundw
      case rel=>exact⟨q+1,by omega,by go_num,by rw[hnx.out,List.length_append];exact hO5.out,hB15.out,hB5.out⟩
      case measure=>simp[intOf];omega
  ·obtain rfl:k=N:=by omega
   have hlti:¬(k:Int)<(k:Int):=by omega
   have hln:Hid ((abvI S b P k).length=Jo S b P P.length):=Za (by rw[Zd5,hNh.out]);go_wp2
   go_ret;exact⟨_,rfl,by rw[←hln.out,←hNh.out];exact hO.out.less hws.out,hB.out⟩
def QA (S b:Int)(rods:List Int)(n:Nat)(o:List Int)(st:List Int × Int)(k:Nat):List Int × Int :=
 (List.range k).foldl (λst (k:Nat)=>if (k:Int)∈o then st else JI S b rods n (o++[(k:Int)]) st) st
theorem Zgv {S b:Int}{rods:List Int}{n:Nat}{o:List Int}{st:List Int × Int}{k:Nat}(h:(k:Int)∈o):QA S b rods n o st (k+1)=QA S b rods n o st k:=by
 unfold QA;rw[List.range_succ,List.foldl_append];simp[h]
theorem Zic {S b:Int}{rods:List Int}{n:Nat}{o:List Int}{st:List Int × Int}{k:Nat}(h:¬(k:Int)∈o):QA S b rods n o st (k+1)=JI S b rods n (o++[(k:Int)]) (QA S b rods n o st k):=by
 unfold QA;rw[List.range_succ,List.foldl_append];simp[h]
theorem Zgy {S b:Int}{rods:List Int}{n:Nat}{o:List Int}{st:List Int × Int}(h:st.2=0):JI S b rods (n+1) o st=st:=by rw[JI,if_pos h]
theorem Zgz {S b:Int}{rods:List Int}{n:Nat}{o:List Int}{st:List Int × Int}(h:¬st.2=0)(hl:o.length=rods.length):JI S b rods (n+1) o st=stp S b rods st o:=by rw[JI,if_neg h,if_pos hl];rfl
theorem Zif {S b:Int}{rods:List Int}{n:Nat}{o:List Int}{st:List Int × Int}(h:¬st.2=0)(hl:¬o.length=rods.length):JI S b rods (n+1) o st=QA S b rods n o st rods.length:=by rw[JI,if_neg h,if_neg hl];rfl
theorem Zb4:∀(n:Nat) (o:List Int),(∀k:Nat,k<n→(k:Int)∈o)→n<=o.length
 | 0,_,_=>Nat.zero_le _
 | n+1,o,h=>by
  have h1:=Zb4 n (o.erase (n:Int)) λk hk=>(List.mem_erase_of_ne (by omega)).2 (h k (by omega))
  have h2:=List.length_erase_of_mem (h n (by omega));have h3:0<o.length:=List.length_pos_of_mem (h n (by omega));omega
theorem Zjm (S b:Int)(rods:List Int)(st:List Int × Int)(o:List Int):0<=(stp S b rods st o).2:=by
 unfold stp;split
 ·show(0:Int)<=(mAbv S b (laidOf rods o):Int);omega
 ·rename_i h;omega
theorem ZdY (S b:Int)(rods:List Int):∀(L:List (List Int)) (st:List Int × Int),(0<=st.2\/L≠[])→0<=(L.foldl (stp S b rods) st).2
 | [],_,h=>h.elim id λh=>absurd rfl h
 | o :: L,st,_=>by rw[List.foldl_cons];exact ZdY S b rods L _ (.inl (Zjm S b rods st o))
theorem QT (rods:List Int):∀(n:Nat) (o:List Int),o.length+n=rods.length+1→o.length<=rods.length→WR rods n o≠[]
 | 0,o,h,h2=>by omega
 | n+1,o,h,h2=>by
  rw[WR];split
  ·simp
  ·rename_i hne
   intro e;have hall:∀k:Nat,k<rods.length→(k:Int)∈o:=by
    intro k hk;have h3:=List.flatMap_eq_nil_iff.1 e k (List.mem_range.2 hk);split at h3
    ·assumption
    ·exact absurd h3 (QT rods n _ (by rw[List.length_append,List.length_singleton];omega) (by rw[List.length_append,List.length_singleton];omega))
   have:=Zb4 rods.length o hall;omega
theorem Zik (S b:Int)(rods:List Int):0<=(mOrd S b rods).2:=by
 unfold mOrd;rw[Uq];exact ZdY S b rods _ _ (.inr (QT rods _ [] (by simp) (Nat.zero_le _)))
theorem Zij (S b:Int)(rods:List Int):JI S b rods (rods.length+1) [] ([],-1)=mOrd S b rods:=Zid S b rods _ _ _
end Go.Proofs.YtfpaejlipaainaaGreatDoor
