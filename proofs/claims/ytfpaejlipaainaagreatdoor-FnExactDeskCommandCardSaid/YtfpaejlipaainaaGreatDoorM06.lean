/- Texts that belong together, joined: contracts and plain laws. No statement is proved here. -/
import Derived.Test.YtfpaejlipaainaaGreatDoorM05
set_option maxRecDepth 100000
set_option maxHeartbeats 1000000
namespace Go.Proofs.YtfpaejlipaainaaGreatDoor
open Go.ChangeShapes Go.WideShapes Go.ChangeAt Go.RowKit Go.Deep
def U3 (x:Bool):List Value:=[.bool x]
theorem Wf (x:Bool):(U3 x).length=1:=rfl
theorem Arr.bool {w:World}{B:Nat}{A:Option Addr}{n:Nat}{l:List Bool}(h:Arr U3 1 w B A n l){k:Nat}(hk:k<n):∃b o x,A=some ⟨b,o,none⟩/\b<B/\l[k]?=some x/\w.cell? ⟨b,o+k,none⟩=some (.bool x):=by
 obtain⟨b,o,x,rfl,hb,hx,hc⟩:=h.at_ hk;exact⟨b,o,x,rfl,hb,hx,by have:=hc 0 _ rfl;simpa using this⟩
theorem Own.bool_at {e:TypeId}{w:World}{base g n c:Nat}{l:List Bool}(h:Own U3 e 1 w base (.slice (some ⟨g,0,none⟩) n c) n l){k:Nat}(hk:k<n) :
  ∃x,l[k]?=some x/\w.cell? ⟨g,k,none⟩=some (.bool x)/\w.frozen? ⟨g,k,none⟩=false:=by
 obtain⟨b,o,x,hA,_,hx,c0⟩:=(h.arr Wf).bool hk;injection hA with hA;injection hA with h1 h2;subst h1 h2
 simp only[Nat.zero_add] at c0;exact⟨x,hx,c0,h.2.frozenAt _⟩
theorem Own.bool_store {e:TypeId}{w:World}{base g n c:Nat}{l:List Bool}(h:Own U3 e 1 w base (.slice (some ⟨g,0,none⟩) n c) n l){k:Nat}(hk:k<n)(y:Bool) :
  Own U3 e 1 (w.setCell ⟨g,k,none⟩ (.bool y)) base (.slice (some ⟨g,0,none⟩) n c) n (l.set k y):=by
 have hkl:k<l.length:=by rw[h.len];exact hk
 have:=h.cell (x:=l[k]) (x':=y) (k:=k) (j:=0) (u:=.bool y) Wf (List.getElem?_eq_getElem hkl) (by omega) rfl;simpa using this
theorem Z0 {α:Type}{cells:α→List Value}{w:World}{e t s base n g:Nat}{v:Value}{l:List α}{cs:Array Value}(h:Own cells e s w base v n l)(hb:w.heap[g]?=some (.cells cs t (0,0)))(hne:e≠t):v.ownBlock≠some g:=by
 rcases h.2.2 with ⟨rfl,_⟩|⟨g',cap,cur,rfl,_,hh,_⟩
 ·simp[Value.ownBlock]
 ·intro he
  have:g'=g:=by simpa[Value.ownBlock] using he
  subst this;rw[hh] at hb;injection hb with hb
  injection hb with _ ht
  exact hne ht
theorem YB {α β:Type}{cells:α→List Value}{cells':β→List Value}{w:World}{e e' s s' base base' n n':Nat}{v v':Value}{l:List α}{l':List β}(h:Own cells e s w base v n l)(h':Own cells' e' s' w base' v' n' l')(hne:e≠e'):v.ownBlock=none\/v.ownBlock≠v'.ownBlock:=by
 rcases h'.2.2 with ⟨rfl,_⟩|⟨g',cap,cur,rfl,_,hh,_⟩
 ·cases v.ownBlock with
  | none=>exact .inl rfl
  | some g=>exact .inr (by simp[Value.ownBlock])
 ·exact .inr (Z0 h hh hne)
theorem Own.shorter {α:Type}{cells:α→List Value}{e s:Nat}{w:World}{base n c g k:Nat}{l:List α}(hs:∀x,(cells x).length=s)(h:Own cells e s w base (.slice (some ⟨g,0,none⟩) n c) n l)(hk:k<=n) :
  Own cells e s w base (.slice (some ⟨g,0,none⟩) k c) k (l.take k):=by
 have hl:=h.1;refine⟨by rw[List.length_take];omega,by rw[Yb hs,List.length_take,Nat.min_eq_left (by omega)],.inr ?_⟩;rcases h.2.2 with ⟨hn,_⟩|⟨g',cap,cur,hv,hb,hh,hnc,hm,hsz,ht⟩
 ·cases hn
 ·injection hv with h1 h2 h3
  injection h1 with h1
  injection h1 with h1
  subst h1 h3;refine⟨g,c,cur,rfl,hb,hh,by omega,hm,hsz,?_⟩;have hks:k*s<=n*s:=Nat.mul_le_mul_right s hk;have e1:cur.toList.take (k*s)=(cur.toList.take (n*s)).take (k*s):=by rw[List.take_take,Nat.min_eq_left hks]
  rw[e1,ht];have e2:l.flatMap cells=(l.take k).flatMap cells++(l.drop k).flatMap cells:=by rw[←List.flatMap_append,List.take_append_drop]
  rw[e2,List.take_left' (by rw[Yb hs,List.length_take,Nat.min_eq_left (by omega)])]
def Wh (n:Nat)(o:List Int):List Bool:=(List.range n).map λk:Nat=>decide ((k:Int)∈o)
theorem WI {n:Nat}{o:List Int}{k:Nat}(h:k<n):(Wh n o)[k]?=some (decide ((k:Int)∈o)):=by
 unfold Wh;rw[List.getElem?_map,List.getElem?_range h];rfl
theorem Jr {n:Nat}{o:List Int}{k:Nat}(h:k<n):(Wh n o).set k true=Wh n (o++[(k:Int)]):=by
 apply List.ext_getElem?
 intro i;by_cases hi:i<n
 ·by_cases hik:i=k
  ·subst hik
   rw[List.getElem?_set_self (by simp[Wh];exact hi),WI hi];simp
  ·have hik2:¬(i:Int)=(k:Int):=by omega
   rw[List.getElem?_set_ne (Ne.symm hik),WI hi,WI hi];simp[hik2]
 ·rw[List.getElem?_eq_none (by simp[Wh];omega),List.getElem?_eq_none (by simp[Wh];omega)]
theorem ZfJ {n:Nat}{o:List Int}{k:Nat}(h:k<n)(hno:¬(k:Int)∈o):(Wh n (o++[(k:Int)])).set k false=Wh n o:=by
 rw[←Jr h,List.set_set];apply List.ext_getElem?
 intro i;by_cases hi:i<n
 ·by_cases hik:i=k
  ·subst hik
   rw[List.getElem?_set_self (by simp[Wh];exact hi),WI hi,decide_eq_false hno]
  ·rw[List.getElem?_set_ne (Ne.symm hik)]
 ·rw[List.getElem?_eq_none (by simp[Wh];omega),List.getElem?_eq_none (by simp[Wh];omega)]
structure JX (w:World)(base b0 b1 b2 b3 b4 b5 b6 b7 b8:Nat)(S bd least:Int)(vl vo vr vb vu vf:Value):Prop where
 h0:w.heap[b0]?=some (.cells #[.int .i64 least] 2 (0,0))
 h1:w.heap[b1]?=some (.cells #[.int .i64 S] 2 (0,0))
 h2:w.heap[b2]?=some (.cells #[vl] 60 (0,0))
 h3:w.heap[b3]?=some (.cells #[.int .i64 bd] 2 (0,0))
 h4:w.heap[b4]?=some (.cells #[vo] 60 (0,0))
 h5:w.heap[b5]?=some (.cells #[vr] 60 (0,0))
 h6:w.heap[b6]?=some (.cells #[vb] 60 (0,0))
 h7:w.heap[b7]?=some (.cells #[vu] 240 (0,0))
 h8:w.heap[b8]?=some (.cells #[vf] 1 (0,0))
 d:b0≠b1/\b0≠b3/\b2≠b4/\b2≠b5/\b2≠b6/\b4≠b5/\b4≠b6/\b5≠b6
 lo:base<=b0/\base<=b1/\base<=b2/\base<=b3/\base<=b4/\base<=b5/\base<=b6/\base<=b7/\base<=b8
theorem Zm {w:World}{g k:Nat}{u:Value}{o:Obj}(h:w.heap[g]?=some o)(hne:g≠k):(w.setCell ⟨k,0,none⟩ u).heap[g]?=some o :=
 ((Zl w k 0 u).block g (Array.getElem?_eq_some_iff.1 h).1 (λe=>hne (by injection e))).trans h
theorem YR {w:World}{g k:Nat}{a c:Array Value}{t t':TypeId}(h:w.heap[g]?=some (.cells a t (0,0)))(h':w.heap[k]?=some (.cells c t' (0,0)))(hne:t≠t'):g≠k:=by
 intro e;subst e;rw[h] at h';injection h' with h';injection h' with _ h2;exact hne h2
section
variable {w w':World}{base b0 b1 b2 b3 b4 b5 b6 b7 b8:Nat}{S bd least:Int}{vl vo vr vb vu vf:Value}
theorem JX.keep (h:JX w base b0 b1 b2 b3 b4 b5 b6 b7 b8 S bd least vl vo vr vb vu vf){row:Option Nat}(hg:w.grownBy w' row)(hne:∀(g:Nat) (a:Array Value) (t:TypeId),w.heap[g]?=some (.cells a t (0,0))→(t=2→g=b0\/g=b1\/g=b3)→(t=2\/t=60\/t=240\/t=1)→row≠some g) :
  JX w' base b0 b1 b2 b3 b4 b5 b6 b7 b8 S bd least vl vo vr vb vu vf:=by
 have k:∀(g:Nat) (a:Array Value) (t:TypeId),w.heap[g]?=some (.cells a t (0,0))→(t=2→g=b0\/g=b1\/g=b3)→(t=2\/t=60\/t=240\/t=1)→w'.heap[g]?=some (.cells a t (0,0)) :=
  λg a t hh h1 h2=>(hg.block g (Array.getElem?_eq_some_iff.1 hh).1 (λe=>hne g a t hh h1 h2 e.symm)).trans hh
 exact⟨k _ _ _ h.h0 (λ_=>.inl rfl) (.inl rfl),k _ _ _ h.h1 (λ_=>.inr (.inl rfl)) (.inl rfl),k _ _ _ h.h2 (by simp) (.inr (.inl rfl)),k _ _ _ h.h3 (λ_=>.inr (.inr rfl)) (.inl rfl),k _ _ _ h.h4 (by simp) (.inr (.inl rfl)),k _ _ _ h.h5 (by simp) (.inr (.inl rfl)),k _ _ _ h.h6 (by simp) (.inr (.inl rfl)),k _ _ _ h.h7 (by simp) (.inr (.inr (.inl rfl))),k _ _ _ h.h8 (by simp) (.inr (.inr (.inr rfl))),h.d,h.lo⟩
theorem JX.below (h:JX w base b0 b1 b2 b3 b4 b5 b6 b7 b8 S bd least vl vo vr vb vu vf)(hb:Below w.heap.size w w'):JX w' base b0 b1 b2 b3 b4 b5 b6 b7 b8 S bd least vl vo vr vb vu vf :=
 h.keep (row:=none) (Zd hb) (λ_ _ _ _ _ _=>by simp)
def NB (b0 b1 b3:Nat)(v:Value):Prop:=v.ownBlock≠some b0/\v.ownBlock≠some b1/\v.ownBlock≠some b3
theorem JX.row (h:JX w base b0 b1 b2 b3 b4 b5 b6 b7 b8 S bd least vl vo vr vb vu vf){v:Value}{n:Nat}{l:List Int}(ho:Own ZB 2 1 w base v n l)(hn:NB b0 b1 b3 v)(hg:w.grownBy w' v.ownBlock):JX w' base b0 b1 b2 b3 b4 b5 b6 b7 b8 S bd least vl vo vr vb vu vf:=by
 refine h.keep hg λg a t hh h1 h2=>?_
 by_cases ht:t=2
 ·rcases h1 ht with e|e|e
  ·subst e;exact hn.1
  ·subst e;exact hn.2.1
  ·subst e;exact hn.2.2
 ·exact Z0 ho hh (Ne.symm ht)
theorem JX.bool (h:JX w base b0 b1 b2 b3 b4 b5 b6 b7 b8 S bd least vl vo vr vb vu vf){v:Value}{n:Nat}{l:List Bool}(ho:Own U3 4 1 w base v n l)(hg:w.grownBy w' v.ownBlock):JX w' base b0 b1 b2 b3 b4 b5 b6 b7 b8 S bd least vl vo vr vb vu vf:=by
 refine h.keep hg λg a t hh h1 h2=>Z0 ho hh ?_
 rcases h2 with e|e|e|e<;>subst e<;>decide
theorem JX.set4 (h:JX w base b0 b1 b2 b3 b4 b5 b6 b7 b8 S bd least vl vo vr vb vu vf)(u:Value):JX (w.setCell ⟨b4,0,none⟩ u) base b0 b1 b2 b3 b4 b5 b6 b7 b8 S bd least vl u vr vb vu vf :=
 ⟨Zm h.h0 (YR h.h0 h.h4 (by decide)),Zm h.h1 (YR h.h1 h.h4 (by decide)),Zm h.h2 h.d.2.2.1,Zm h.h3 (YR h.h3 h.h4 (by decide)),Zk h.h4 0 u,Zm h.h5 (Ne.symm h.d.2.2.2.2.2.1),Zm h.h6 (Ne.symm h.d.2.2.2.2.2.2.1),Zm h.h7 (YR h.h7 h.h4 (by decide)),Zm h.h8 (YR h.h8 h.h4 (by decide)),h.d,h.lo⟩
theorem JX.set2 (h:JX w base b0 b1 b2 b3 b4 b5 b6 b7 b8 S bd least vl vo vr vb vu vf)(u:Value):JX (w.setCell ⟨b2,0,none⟩ u) base b0 b1 b2 b3 b4 b5 b6 b7 b8 S bd least u vo vr vb vu vf :=
 ⟨Zm h.h0 (YR h.h0 h.h2 (by decide)),Zm h.h1 (YR h.h1 h.h2 (by decide)),Zk h.h2 0 u,Zm h.h3 (YR h.h3 h.h2 (by decide)),Zm h.h4 (Ne.symm h.d.2.2.1),Zm h.h5 (Ne.symm h.d.2.2.2.1),Zm h.h6 (Ne.symm h.d.2.2.2.2.1),Zm h.h7 (YR h.h7 h.h2 (by decide)),Zm h.h8 (YR h.h8 h.h2 (by decide)),h.d,h.lo⟩
theorem JX.set6 (h:JX w base b0 b1 b2 b3 b4 b5 b6 b7 b8 S bd least vl vo vr vb vu vf)(u:Value):JX (w.setCell ⟨b6,0,none⟩ u) base b0 b1 b2 b3 b4 b5 b6 b7 b8 S bd least vl vo vr u vu vf :=
 ⟨Zm h.h0 (YR h.h0 h.h6 (by decide)),Zm h.h1 (YR h.h1 h.h6 (by decide)),Zm h.h2 h.d.2.2.2.2.1,Zm h.h3 (YR h.h3 h.h6 (by decide)),Zm h.h4 h.d.2.2.2.2.2.2.1,Zm h.h5 h.d.2.2.2.2.2.2.2,Zk h.h6 0 u,Zm h.h7 (YR h.h7 h.h6 (by decide)),Zm h.h8 (YR h.h8 h.h6 (by decide)),h.d,h.lo⟩
theorem JX.set0 (h:JX w base b0 b1 b2 b3 b4 b5 b6 b7 b8 S bd least vl vo vr vb vu vf)(u:Int):JX (w.setCell ⟨b0,0,none⟩ (.int .i64 u)) base b0 b1 b2 b3 b4 b5 b6 b7 b8 S bd u vl vo vr vb vu vf :=
 ⟨Zk h.h0 0 _,Zm h.h1 (Ne.symm h.d.1),Zm h.h2 (YR h.h2 h.h0 (by decide)),Zm h.h3 (Ne.symm h.d.2.1),Zm h.h4 (YR h.h4 h.h0 (by decide)),Zm h.h5 (YR h.h5 h.h0 (by decide)),Zm h.h6 (YR h.h6 h.h0 (by decide)),Zm h.h7 (YR h.h7 h.h0 (by decide)),Zm h.h8 (YR h.h8 h.h0 (by decide)),h.d,h.lo⟩
end
theorem Trio.box {e:TypeId}{w:World}{base k:Nat}{v0 v1 v2 u:Value}{a b c:List Int}(h:Trio e w base v0 v1 v2 a b c)(h0:v0.ownBlock≠some k)(h1:v1.ownBlock≠some k)(h2:v2.ownBlock≠some k):Trio e (w.setCell ⟨k,0,none⟩ u) base v0 v1 v2 a b c :=
 ⟨h.o0.box h0,h.o1.box h1,h.o2.box h2,h.f01,h.f02,h.f12⟩
theorem Trio.far {e t:TypeId}{w w':World}{base n:Nat}{v0 v1 v2 v:Value}{a b c:List Int}{l:List Bool}(h:Trio e w base v0 v1 v2 a b c)(ho:Own U3 t 1 w base v n l)(hne:e≠t)(hg:w.grownBy w' v.ownBlock):Trio e w' base v0 v1 v2 a b c :=
 ⟨h.o0.kept hg (YB h.o0 ho hne),h.o1.kept hg (YB h.o1 ho hne),h.o2.kept hg (YB h.o2 ho hne),h.f01,h.f02,h.f12⟩
structure JS (w:World)(base b0 b1 b2 b3 b4 b5 b6 b7 b8:Nat)(S bd:Int)(A:Option Addr)(n c:Nat)(rods:List Int)(vf vo vl vb:Value)(gu:Nat)(o:List Int)(st:List Int × Int):Prop where
 x:JX w base b0 b1 b2 b3 b4 b5 b6 b7 b8 S bd st.2 vl vo (.slice A n c) vb (.slice (some ⟨gu,0,none⟩) n n) vf
 t:Trio 2 w base vo vl vb o (laidOf rods o) st.1
 u:Own U3 4 1 w base (.slice (some ⟨gu,0,none⟩) n n) n (Wh n o)
 r:Arr ZB 1 w base A n rods
 n0:NB b0 b1 b3 vo
 n1:NB b0 b1 b3 vl
 n2:NB b0 b1 b3 vb
 hb:base<=w.heap.size
theorem ZgS {rods o:List Int}{n:Nat}(hR:RB7 rods)(hn:rods.length=n)(hl:o.length<=n)(hv:∀z∈o,0<=z/\z<(n:Int)):RB7 (laidOf rods o):=by
 refine⟨by unfold laidOf;rw[List.length_map];have:=hR.1;omega,λx hx=>?_⟩;unfold laidOf at hx;obtain⟨z,hz,rfl⟩:=List.mem_map.1 hx;have h1:=hv z hz;have h2:z.toNat<rods.length:=by omega
 rw[List.getD_eq_getElem?_getD,List.getElem?_eq_getElem h2];exact hR.2 _ (List.getElem_mem h2)
section
variable {w w':World}{base b0 b1 b2 b3 b4 b5 b6 b7 b8:Nat}{S bd:Int}{A:Option Addr}{n c:Nat}{rods:List Int}{vf vo vl vb:Value}{gu:Nat}{o:List Int}{st:List Int × Int}
theorem JS.below (h:JS w base b0 b1 b2 b3 b4 b5 b6 b7 b8 S bd A n c rods vf vo vl vb gu o st)(hb:Below w.heap.size w w'):JS w' base b0 b1 b2 b3 b4 b5 b6 b7 b8 S bd A n c rods vf vo vl vb gu o st :=
 ⟨h.x.below hb,h.t.below hb,h.u.below hb,h.r.keep (λp hp=>hb.cell (by have:=h.hb;omega)),h.n0,h.n1,h.n2,Nat.le_trans h.hb hb.size⟩
theorem JS.cells (h:JS w base b0 b1 b2 b3 b4 b5 b6 b7 b8 S bd A n c rods vf vo vl vb gu o st) :
  (w.cell? ⟨b0,0,none⟩=some (.int .i64 st.2)/\w.cell? ⟨b1,0,none⟩=some (.int .i64 S)/\w.cell? ⟨b2,0,none⟩=some vl/\w.cell? ⟨b3,0,none⟩=some (.int .i64 bd)/\w.cell? ⟨b4,0,none⟩=some vo/\w.cell? ⟨b5,0,none⟩=some (.slice A n c)/\w.cell? ⟨b6,0,none⟩=some vb/\w.cell? ⟨b7,0,none⟩=some (.slice (some ⟨gu,0,none⟩) n n)/\w.cell? ⟨b8,0,none⟩=some vf) /\
  w.frozen? ⟨b0,0,none⟩=false/\w.frozen? ⟨b2,0,none⟩=false/\w.frozen? ⟨b4,0,none⟩=false/\w.frozen? ⟨b6,0,none⟩=false :=
 ⟨⟨(Yf h.x.h0).1,(Yf h.x.h1).1,(Yf h.x.h2).1,(Yf h.x.h3).1,(Yf h.x.h4).1,(Yf h.x.h5).1,(Yf h.x.h6).1,(Yf h.x.h7).1,(Yf h.x.h8).1⟩,(Yf h.x.h0).2 0,(Yf h.x.h2).2 0,(Yf h.x.h4).2 0,(Yf h.x.h6).2 0⟩
theorem JS.best (h:JS w base b0 b1 b2 b3 b4 b5 b6 b7 b8 S bd A n c rods vf vo vl vb gu o st){v5:Value}(ho:Own ZB 2 1 w base v5 o.length o)(hN:NB b0 b1 b3 v5)(f0:Far vo v5)(f1:Far vl v5)(m:Int) :
  JS ((w.setCell ⟨b6,0,none⟩ v5).setCell ⟨b0,0,none⟩ (.int .i64 m)) base b0 b1 b2 b3 b4 b5 b6 b7 b8 S bd A n c rods vf vo vl v5 gu o (o,m):=by
 have h6:=h.x.h6;have h0:=h.x.h0;have hs1:(w.setCell ⟨b6,0,none⟩ v5).heap.size=w.heap.size:=by simp
 refine⟨(h.x.set6 v5).set0 m,?_,?_,?_,h.n0,h.n1,hN,by simp;exact h.hb⟩
 ·have t1:Trio 2 w base vo vl v5 o (laidOf rods o) o:=⟨h.t.o0,h.t.o1,ho,h.t.f01,f0,f1⟩
  exact(t1.box (Z0 h.t.o0 h6 (by decide)) (Z0 h.t.o1 h6 (by decide)) (Z0 ho h6 (by decide))).box h.n0.1 h.n1.1 hN.1
 ·exact(h.u.box (Z0 h.u h6 (by decide))).box (Z0 h.u h0 (by decide))
 ·have g1:=Zl w b6 0 v5
  have g2:=Zl (w.setCell ⟨b6,0,none⟩ v5) b0 0 (.int .i64 m);exact(h.r.grown g1 h.hb (λq e=>by cases e;exact h.x.lo.2.2.2.2.2.2.1)).grown g2 (by rw[hs1];exact h.hb) (λq e=>by cases e;exact h.x.lo.1)
theorem NB.new {v:Value}{H:Nat}(h:JS w base b0 b1 b2 b3 b4 b5 b6 b7 b8 S bd A n c rods vf vo vl vb gu o st)(hH:w.heap.size<=H)(hv:v.ownBlock=some H):NB b0 b1 b3 v:=by
 have k:∀g,g<w.heap.size→v.ownBlock≠some g:=λg hg e=>by rw[hv] at e;injection e with e;omega
 exact⟨k _ (Array.getElem?_eq_some_iff.1 h.x.h0).1,k _ (Array.getElem?_eq_some_iff.1 h.x.h1).1,k _ (Array.getElem?_eq_some_iff.1 h.x.h3).1⟩
theorem JS.copied (h:JS w base b0 b1 b2 b3 b4 b5 b6 b7 b8 S bd A n c rods vf vo vl vb gu o st){w5:World}{v5:Value}(_ho:Own ZB 2 1 w5 base v5 o.length o)(hg:(w.alloc (.cells #[] 2)).grownBy w5 (some w.heap.size))(hat:v5.ownBlock=some w.heap.size\/v5.ownBlock=some (w.alloc (.cells #[] 2)).heap.size) :
  JS w5 base b0 b1 b2 b3 b4 b5 b6 b7 b8 S bd A n c rods vf vo vl vb gu o st/\NB b0 b1 b3 v5/\Far vo v5/\Far vl v5/\Below w.heap.size w w5:=by
 have hB:Below w.heap.size w w5:=((Below.refl _ _).alloc (Nat.le_refl _) _).grown hg (by simp) (λk e=>by cases e;exact Nat.le_refl _);obtain⟨H,hH,hv⟩:∃H,w.heap.size<=H/\v5.ownBlock=some H:=by
  rcases hat with e|e
  ·exact⟨_,Nat.le_refl _,e⟩
  ·exact⟨_,by simp,e⟩
 exact⟨h.below hB,NB.new h hH hv,(Far.new h.t.o0 hH hv).symm,(Far.new h.t.o1 hH hv).symm,hB⟩
structure JM (w:World)(base b0 b1 b2 b3 b4 b5 b6 b7 b8:Nat)(S bd:Int)(A:Option Addr)(n c:Nat)(rods:List Int)(vf vo vl vb:Value)(gu:Nat)(o:List Int)(st:List Int × Int)(u0 u1:Value)(o' l':List Int):Prop where
 x:JX w base b0 b1 b2 b3 b4 b5 b6 b7 b8 S bd st.2 vl vo (.slice A n c) vb (.slice (some ⟨gu,0,none⟩) n n) vf
 t:Trio 2 w base u0 u1 vb o' l' st.1
 u:Own U3 4 1 w base (.slice (some ⟨gu,0,none⟩) n n) n (Wh n o)
 r:Arr ZB 1 w base A n rods
 n0:NB b0 b1 b3 u0
 n1:NB b0 b1 b3 u1
 n2:NB b0 b1 b3 vb
 hb:base<=w.heap.size
theorem JS.mid (h:JS w base b0 b1 b2 b3 b4 b5 b6 b7 b8 S bd A n c rods vf vo vl vb gu o st):JM w base b0 b1 b2 b3 b4 b5 b6 b7 b8 S bd A n c rods vf vo vl vb gu o st vo vl o (laidOf rods o):=⟨h.x,h.t,h.u,h.r,h.n0,h.n1,h.n2,h.hb⟩
variable {u0 u1:Value}{o' l':List Int}
theorem JM.below (h:JM w base b0 b1 b2 b3 b4 b5 b6 b7 b8 S bd A n c rods vf vo vl vb gu o st u0 u1 o' l')(hb:Below w.heap.size w w'):JM w' base b0 b1 b2 b3 b4 b5 b6 b7 b8 S bd A n c rods vf vo vl vb gu o st u0 u1 o' l' :=
 ⟨h.x.below hb,h.t.below hb,h.u.below hb,h.r.keep (λp hp=>hb.cell (by have:=h.hb;omega)),h.n0,h.n1,h.n2,Nat.le_trans h.hb hb.size⟩
theorem JM.lt (h:JM w base b0 b1 b2 b3 b4 b5 b6 b7 b8 S bd A n c rods vf vo vl vb gu o st u0 u1 o' l'):b0<w.heap.size/\b1<w.heap.size/\b3<w.heap.size :=
 ⟨(Array.getElem?_eq_some_iff.1 h.x.h0).1,(Array.getElem?_eq_some_iff.1 h.x.h1).1,(Array.getElem?_eq_some_iff.1 h.x.h3).1⟩
theorem NB.moved {a v:Value}{H:Nat}(hn:NB b0 b1 b3 a)(hat:v.ownBlock=a.ownBlock\/v.ownBlock=some H)(hH:b0<H/\b1<H/\b3<H):NB b0 b1 b3 v:=by
 rcases hat with e|e
 ·unfold NB;rw[e];exact hn
 ·have k:∀g,g<H→v.ownBlock≠some g:=λg hg h=>by rw[e] at h;injection h with h;omega
  exact⟨k _ hH.1,k _ hH.2.1,k _ hH.2.2⟩
theorem JM.app0 (h:JM w base b0 b1 b2 b3 b4 b5 b6 b7 b8 S bd A n c rods vf vo vl vb gu o st u0 u1 o' l'){v:Value}{y:Int}{H:Nat}(ho:Own ZB 2 1 w' base v (o'.length+1) (o'++[y]))(hg:w.grownBy w' u0.ownBlock)(hat:v.ownBlock=u0.ownBlock\/v.ownBlock=some H)(hH:w.heap.size<=H) :
  JM w' base b0 b1 b2 b3 b4 b5 b6 b7 b8 S bd A n c rods vf vo vl vb gu o st v u1 (o'++[y]) l':=by
 have hlt:=h.lt;refine⟨h.x.row h.t.o0 h.n0 hg,h.t.app0 ho hg hat hH,h.u.kept hg ?_,h.r.grown hg h.hb (λq e=>(h.t.o0.2.lt q e).1),h.n0.moved hat (by omega),h.n1,h.n2,Nat.le_trans h.hb hg.size⟩;exact YB h.u h.t.o0 (by decide)
theorem JM.app1 (h:JM w base b0 b1 b2 b3 b4 b5 b6 b7 b8 S bd A n c rods vf vo vl vb gu o st u0 u1 o' l'){v:Value}{y:Int}{H:Nat}(ho:Own ZB 2 1 w' base v (l'.length+1) (l'++[y]))(hg:w.grownBy w' u1.ownBlock)(hat:v.ownBlock=u1.ownBlock\/v.ownBlock=some H)(hH:w.heap.size<=H) :
  JM w' base b0 b1 b2 b3 b4 b5 b6 b7 b8 S bd A n c rods vf vo vl vb gu o st u0 v o' (l'++[y]):=by
 have hlt:=h.lt;refine⟨h.x.row h.t.o1 h.n1 hg,h.t.app1 ho hg hat hH,h.u.kept hg ?_,h.r.grown hg h.hb (λq e=>(h.t.o1.2.lt q e).1),h.n0,h.n1.moved hat (by omega),h.n2,Nat.le_trans h.hb hg.size⟩;exact YB h.u h.t.o1 (by decide)
theorem JM.stored (h:JM w base b0 b1 b2 b3 b4 b5 b6 b7 b8 S bd A n c rods vf vo vl vb gu o st u0 u1 o' l'){k:Nat}(hk:k<n)(y:Bool)(hu:(Wh n o).set k y=Wh n o')(hl:l'=laidOf rods o') :
  JS (((w.setCell ⟨gu,k,none⟩ (.bool y)).setCell ⟨b4,0,none⟩ u0).setCell ⟨b2,0,none⟩ u1) base b0 b1 b2 b3 b4 b5 b6 b7 b8 S bd A n c rods vf u0 u1 vb gu o' st:=by
 subst hl;have gU:w.grownBy (w.setCell ⟨gu,k,none⟩ (.bool y)) (some gu):=Zl w gu k _;obtain⟨w1,hw1⟩:∃w1,w1=w.setCell ⟨gu,k,none⟩ (.bool y):=⟨_,rfl⟩;have hu1:Own U3 4 1 w1 base (.slice (some ⟨gu,0,none⟩) n n) n (Wh n o'):=by rw[hw1,←hu];exact h.u.bool_store hk y
 rw[←hw1] at gU ⊢;have x1:=h.x.bool h.u gU;have t1:=h.t.far h.u (by decide) gU;have hs1:base<=w1.heap.size:=Nat.le_trans h.hb gU.size;have r1:Arr ZB 1 w1 base A n rods:=h.r.grown gU h.hb (λq e=>by cases e;exact(h.u.2.lt _ rfl).1);clear hw1;have x2:=x1.set4 u0;have t2:=t1.box (k:=b4) (u:=u0) (Z0 t1.o0 x1.h4 (by decide)) (Z0 t1.o1 x1.h4 (by decide)) (Z0 t1.o2 x1.h4 (by decide));have u2:=hu1.box (i:=0) (u:=u0) (Z0 hu1 x1.h4 (by decide));have r2:=r1.grown (Zl w1 b4 0 u0) hs1 (λq e=>by cases e;exact h.x.lo.2.2.2.2.1);obtain⟨w2,hw2⟩:∃w2,w2=w1.setCell ⟨b4,0,none⟩ u0:=⟨_,rfl⟩;rw[←hw2] at x2 t2 u2 r2 ⊢;have hs2:base<=w2.heap.size:=by rw[hw2];simpa using hs1
 clear hw2;exact⟨x2.set2 u1,t2.box (Z0 t2.o0 x2.h2 (by decide)) (Z0 t2.o1 x2.h2 (by decide)) (Z0 t2.o2 x2.h2 (by decide)),u2.box (Z0 u2 x2.h2 (by decide)),r2.grown (Zl w2 b2 0 u1) hs2 (λq e=>by cases e;exact h.x.lo.2.2.1),h.n0,h.n1,h.n2,by simpa using hs2⟩
theorem JS.popped {k g3 k3 g4 k4:Nat}{x:Int}(h:JS w base b0 b1 b2 b3 b4 b5 b6 b7 b8 S bd A n c rods vf (.slice (some ⟨g3,0,none⟩) (o++[(k:Int)]).length k3) (.slice (some ⟨g4,0,none⟩) (laidOf rods (o++[(k:Int)])).length k4) vb gu (o++[(k:Int)]) st)(hk:k<n)(hno:¬(k:Int)∈o)(hx:rods[k]?=some x) :
  JS (((w.setCell ⟨gu,k,none⟩ (.bool false)).setCell ⟨b4,0,none⟩ (.slice (some ⟨g3,0,none⟩) o.length k3)).setCell ⟨b2,0,none⟩ (.slice (some ⟨g4,0,none⟩) o.length k4)) base b0 b1 b2 b3 b4 b5 b6 b7 b8 S bd A n c rods vf (.slice (some ⟨g3,0,none⟩) o.length k3) (.slice (some ⟨g4,0,none⟩) o.length k4) vb gu o st:=by
 have hll:(laidOf rods o).length=o.length:=by unfold laidOf;rw[List.length_map]
 have e0:=h.t.o0.shorter (k:=o.length) Zh (by rw[List.length_append];omega);have e1:=h.t.o1.shorter (k:=o.length) Zh (by rw[Wt hx,List.length_append,hll];omega);rw[List.take_left' rfl] at e0;rw[Wt hx,List.take_left' hll] at e1;have t:Trio 2 w base (.slice (some ⟨g3,0,none⟩) o.length k3) (.slice (some ⟨g4,0,none⟩) o.length k4) vb o (laidOf rods o) st.1 :=
  ⟨e0,by rw[hll];exact e1,h.t.o2,h.t.f01,h.t.f02,h.t.f12⟩
 have m:JM w base b0 b1 b2 b3 b4 b5 b6 b7 b8 S bd A n c rods vf (.slice (some ⟨g3,0,none⟩) (o++[(k:Int)]).length k3) (.slice (some ⟨g4,0,none⟩) (laidOf rods (o++[(k:Int)])).length k4) vb gu (o++[(k:Int)]) st (.slice (some ⟨g3,0,none⟩) o.length k3) (.slice (some ⟨g4,0,none⟩) o.length k4) o (laidOf rods o) :=
  ⟨h.x,t,h.u,h.r,h.n0,h.n1,h.n2,h.hb⟩
 exact m.stored hk false (ZfJ hk hno) rfl
theorem Qh {W:World}{g:Nat}{y:Int}(h:W.heap[g]?=some (.cells #[.int .i64 y] 2 (0,0))):Arr ZB 1 W W.heap.size (some ⟨g,0,none⟩) 1 [y]:=by
 refine⟨rfl,λ_=>⟨g,0,rfl,(Array.getElem?_eq_some_iff.1 h).1,λi x hx j u hu=>?_⟩⟩;have hi:i=0:=by have:=Zq hx;simp at this;exact this
 subst hi;have hxe:y=x:=by simpa using hx
 subst hxe;have hj:j=0:=by have:=Zq hu;simp[ZB] at this;exact this
 subst hj;have hue:Value.int .i64 y=u:=by simpa[ZB] using hu
 rw[←hue];exact(Yf h).1
theorem U7 {α:Type}{cells:α→List Value}{e s:Nat}{w:World}{base n:Nat}{v:Value}{l:List α}(h:Own cells e s w base v (n+1) l):∃g c,v = .slice (some ⟨g,0,none⟩) (n+1) c:=by
 rcases h.form with ⟨_,h0,_⟩|⟨g,c,h1,_⟩
 ·omega
 ·exact⟨g,c,h1⟩
theorem JM.facts (h:JM w base b0 b1 b2 b3 b4 b5 b6 b7 b8 S bd A n c rods vf vo vl vb gu o st u0 u1 o' l'){k:Nat}(hk:k<n)(y:Bool) :
  w.cell? ⟨b7,0,none⟩=some (.slice (some ⟨gu,0,none⟩) n n)/\w.cell? ⟨b2,0,none⟩=some vl/\(∃z,w.cell? ⟨gu,k,none⟩=some (.bool z))/\w.frozen? ⟨gu,k,none⟩=false /\
  (w.setCell ⟨gu,k,none⟩ (.bool y)).cell? ⟨b4,0,none⟩=some vo/\(w.setCell ⟨gu,k,none⟩ (.bool y)).frozen? ⟨b4,0,none⟩=false /\
  ((w.setCell ⟨gu,k,none⟩ (.bool y)).setCell ⟨b4,0,none⟩ u0).cell? ⟨b2,0,none⟩=some vl/\((w.setCell ⟨gu,k,none⟩ (.bool y)).setCell ⟨b4,0,none⟩ u0).frozen? ⟨b2,0,none⟩=false:=by
 obtain⟨z,_,e1,e2⟩:=h.u.bool_at hk;have x1:=h.x.bool h.u (Zl w gu k (.bool y));have z1:=Yf x1.h4;have z2:=Yf (x1.set4 u0).h2;exact⟨(Yf h.x.h7).1,(Yf h.x.h2).1,⟨z,e1⟩,e2,z1.1,z1.2 0,z2.1,z2.2 0⟩
end
def Z9 (l:List Int)(lo hi:Int):Bool:=(List.range l.length).all λi=>inB (l.getD i 0) lo hi&&(decide (i=0)||decide (l.getD (i-1) 0<l.getD i 0))
theorem Zfc (A:Option Addr)(n c:Nat)(l:List Int)(lo hi:Int)(w:World)(hn:n<=1048576)(hr:Arr ZB 1 w w.heap.size A n l) :
  Calls Tryz.prog 242 #[.slice A n c,.int .i64 lo,.int .i64 hi] w λe w'=>e = .returned (.bool (Z9 l lo hi))/\Below w.heap.size w w':=by
 have hlen:=Za hr.len;go_enter Tryz.func242,Tryz.ntmps242;go_wp2
 go_loopw [11] (λi wr=>∃k:Nat,k<=n/\i = .int .i64 k/\Below w.heap.size w wr/\Hid (∀i,i<k→(inB (l.getD i 0) lo hi&&(decide (i=0)||decide (l.getD (i-1) 0<l.getD i 0)))=true)) (λi _=>n-(intOf i).toNat)
 case atStart=>exact⟨0,Nat.zero_le _,rfl,Below.refl _ _,Za (by intro i hi;omega)⟩
 case round =>
  obtain⟨k,hk,rfl,hb,hall⟩:=hrel;by_cases hlt:k<n
  ·obtain⟨b,o,x,rfl,hbl,hx,c0⟩:=hr.int hlt
   have d0:wr.cell? ⟨b,o+k,none⟩=some (.int .i64 x):=(hb.cell (p:=⟨b,o+k,none⟩) hbl).trans c0;have hX:=Za hx;clear hx c0;have hx:Hid (l.getD k 0=x):=Za (Wx hX.out);have hB:=Za hb;have keyT:(inB x lo hi&&(decide (k=0)||decide (l.getD (k-1) 0<x)))=true→Hid (∀i,i<k+1→(inB (l.getD i 0) lo hi&&(decide (i=0)||decide (l.getD (i-1) 0<l.getD i 0)))=true):=by
    refine λhbb=>Za λi hi=>?_
    by_cases hik:i=k
    ·subst hik;rw[hx.out];exact hbb
    ·exact hall.out i (by omega)
   have keyF:(inB x lo hi&&(decide (k=0)||decide (l.getD (k-1) 0<x)))=false→Hid (Z9 l lo hi=false):=by
    refine λhbb=>Za ?_
    unfold Z9;rw[List.all_eq_false];exact⟨k,List.mem_range.2 (by rw[hlen.out];exact hlt),by rw[hx.out,hbb];simp⟩
   have hkT:=Za keyT;have hkF:=Za keyF;clear keyT keyF;cases h1:inB x lo hi
   ·have hd:=hkF.out (by rw[h1];rfl)
    clear hr hb;go_wp2_with (go_at_call 113;refine(Zu _ _ _ _).mono ?_;rintro e w' ⟨rfl,rfl⟩)
    go_ret;exact⟨ZW hd.out.symm,hB.out⟩
   ·by_cases h0:k=0
    ·have hd:=hkT.out (by rw[h1,decide_eq_true h0];rfl)
     have hkp:decide (0<k)=false:=decide_eq_false (by omega);have hkz:¬0<k:=by omega
     clear hr hb h0;go_wp2_with (go_at_call 113;refine(Zu _ _ _ _).mono ?_;rintro e w' ⟨rfl,rfl⟩)
     go_roundw
     case rel=>exact⟨k+1,by omega,by go_num,hB.out,hd⟩
     case measure=>simp[intOf];omega
    ·obtain⟨j,hj⟩:∃j,k=j+1:=⟨k-1,by omega⟩
     obtain⟨b',o',y,hA',hbl',hy,cy⟩:=hr.int (show j<n by omega);cases hA'
     have e0:wr.cell? ⟨b,o+j,none⟩=some (.int .i64 y):=(hb.cell (p:=⟨b,o+j,none⟩) hbl').trans cy;have hyy:Hid (l.getD (k-1) 0=y):=Za (by rw[hj,Nat.add_sub_cancel];exact Wx hy);have hwK:IntKind.i64.wrap ((k:Int)-1)=(j:Int):=by rw[show(k:Int)-1=(j:Int) by omega];exact IntWalk.i64_in _ (by omega)
     have hkp:decide (0<k)=true:=decide_eq_true (by omega);have hkz:0<k:=by omega
     have hj0:(0:Int)<=(j:Int):=by omega
     have hjn:(j:Int)<(n:Int):=by omega
     have hdk:Hid (decide (k=0)=false):=Za (decide_eq_false h0);clear hr hb hy cy hj h0;by_cases hc:x<=y
     ·have hd:=hkF.out (by rw[h1,hdk.out,hyy.out,decide_eq_false (by omega)];rfl)
      have hc2:decide (x<=y)=true:=decide_eq_true hc;go_wp2_with (go_at_call 113;refine(Zu _ _ _ _).mono ?_;rintro e w' ⟨rfl,rfl⟩)
      go_ret;exact⟨ZW hd.out.symm,hB.out⟩
     ·have hd:=hkT.out (by rw[h1,hdk.out,hyy.out,decide_eq_true (by omega)];rfl)
      have hc2:decide (x<=y)=false:=decide_eq_false hc;go_wp2_with (go_at_call 113;refine(Zu _ _ _ _).mono ?_;rintro e w' ⟨rfl,rfl⟩)
      go_roundw
      case rel=>exact⟨k+1,by omega,by go_num,hB.out,hd⟩
      case measure=>simp[intOf];omega
  ·have hkn:k=n:=by omega
   have hB:=Za hb;have hfin:Hid (Z9 l lo hi=true):=Za (by
    unfold Z9;rw[List.all_eq_true];intro i hi;exact hall.out i (by have:=List.mem_range.1 hi;rw[hlen.out] at this;omega))
   subst hkn;clear hb;go_wp2
   go_ret;exact⟨ZW hfin.out.symm,hB.out⟩
theorem Q4 (S:Int)(A:Option Addr)(n c:Nat)(l:List Int)(w:World)(hn:n<=1048576)(hS:inB S 3 60=true)(hr:Arr ZB 1 w w.heap.size A n l) :
  Calls Tryz.prog 190 #[.int .i64 S,.slice A n c] w λe w'=>e = .returned (.bool (Z9 l 0 (S-1)))/\Below w.heap.size w w':=by
 have hSb:=Zj.1 hS;obtain⟨d,hd⟩:∃d,d=S-1:=⟨_,rfl⟩;have hw1:IntKind.i64.wrap (S-1)=d:=by rw[←hd];exact IntWalk.i64_in _ (by omega)
 rw[←hd];clear hd;go_enter Tryz.func190,Tryz.ntmps190;go_wp2_with fail
 refine(ZQ S _).mono ?_;rw[hS];rintro e w2 ⟨rfl,rfl⟩;go_wp2_with fail
 refine(Zfc A n c l 0 d _ hn hr).mono ?_;rintro e w2 ⟨rfl,hb⟩;have hB:=Za hb;clear hb;go_wp2
 go_ret;exact⟨rfl,hB.out⟩
theorem Yd {l:List Int}{lo hi:Int}(h:Z9 l lo hi=true):∀x∈l,lo<=x/\x<=hi:=by
 intro x hx;obtain⟨i,hi2⟩:=List.mem_iff_getElem?.1 hx;unfold Z9 at h;have h1:=List.all_eq_true.1 h i (List.mem_range.2 (Zq hi2));rw[Bool.and_eq_true] at h1;rw[Wx hi2] at h1;exact Zj.1 h1.1
theorem X8 {l:List Int}{lo hi:Int}(h:Z9 l lo hi=true)(hl:lo<=hi+1):(l.length:Int)<=hi-lo+1:=by
 have key:∀k,k<l.length→lo+(k:Int)<=l.getD k 0:=by
  intro k
  induction k with
  | zero =>
   intro hk;have h1:=Yd h (l.getD 0 0) (by rw[List.getD_eq_getElem?_getD,List.getElem?_eq_getElem hk];exact List.getElem_mem hk);omega
  | succ k ih =>
   intro hk;have h1:=ih (by omega);unfold Z9 at h;have h2:=List.all_eq_true.1 h (k+1) (List.mem_range.2 hk);rw[Bool.and_eq_true,Bool.or_eq_true] at h2;have h3:=h2.2.resolve_left (by simp);have h4:=of_decide_eq_true h3;rw[Nat.add_sub_cancel] at h4;omega
 rcases Nat.eq_zero_or_pos l.length with h0|h0
 ·omega
 ·have h1:=key (l.length-1) (by omega)
  have h2:=Yd h (l.getD (l.length-1) 0) (by rw[List.getD_eq_getElem?_getD,List.getElem?_eq_getElem (by omega)];exact List.getElem_mem _);omega
def newC (S:Int)(br:List Int):Int:=if Z9 br 0 (S-1) then 0 else 1
def newL (S:Int)(br:List Int):List Int:=if newC S br=0 then ZeV S.toNat br else []
end Go.Proofs.YtfpaejlipaainaaGreatDoor
