/- Texts that belong together, joined: contracts and plain laws. No statement is proved here. -/
import Derived.Test.YtfpaejlipaainaaGreatDoorM06
import Derived.Test.YtfpaejlipaainaaGreatDoorM17
import Derived.Test.YtfpaejlipaainaaGreatDoorM19
import Derived.Lib.Strings
set_option maxRecDepth 100000
set_option maxHeartbeats 4000000
namespace Go.Proofs.YtfpaejlipaainaaGreatDoor
open Go.ChangeShapes Go.WideShapes Go.ChangeAt Go.RowKit Go.Deep
structure DeskV where
 fStroke:ByteArray
 fStakes:Int
 A:Option Addr
 n:Nat
 c:Nat
 kinds:List Kind
 A':Option Addr
 n':Nat
 c':Nat
 heaps:List Heap
 fLog:ByteArray
structure DeskV.good (x:DeskV)(w:World)(B:Nat):Prop where
 kinds:Arr Kind.cells 2 w B x.A x.n x.kinds
 heaps:Arr Heap.cells 3 w B x.A' x.n' x.heaps
 nk:x.n<=1048576
 nh:x.n'<=1048576
 fit:∀h∈x.heaps,h.fits
theorem DeskV.good.go {x:DeskV}{w w':World}(h:x.good w w.heap.size)(hb:Below w.heap.size w w'):x.good w' w'.heap.size:=⟨h.kinds.go hb,h.heaps.go hb,h.nk,h.nh,h.fit⟩
def DeskV.same (x y:DeskV):Bool:=decide (x.fStroke=y.fStroke)&&decide (x.fStakes=y.fStakes)&&decide (x.kinds=y.kinds)&&decide (x.heaps=y.heaps)&&decide (x.fLog=y.fLog)
structure DeskV.fits (x:DeskV)(w:World):Prop where
 kinds:Arr Kind.cells 2 w w.heap.size x.A x.n x.kinds
 heaps:Arr Heap.cells 3 w w.heap.size x.A' x.n' x.heaps
 nk:x.n<=maxLen
 nh:x.n'<=maxLen
 kfit:∀h∈x.kinds,h.fits
 fit:∀h∈x.heaps,h.fits
 s0:x.fStroke.size<=maxLen
 s4:x.fLog.size<=maxLen
def DeskV.wt (x:DeskV):Int:=x.fStroke.size+Kind.tot x.kinds+Heap.tot x.heaps+x.fLog.size
theorem JZ (w:World)(g i:Nat)(u:Value):w.grownBy (w.setCell ⟨g,i,none⟩ u) (some g):=Z4 (Xc (Below.refl _ _) _) rfl u
theorem Ze {w w':World}{g:Nat}{o:Obj}(h:w.heap[g]?=some o)(hb:Below w.heap.size w w'):w'.heap[g]?=some o:=(hb.block g (Array.getElem?_eq_some_iff.1 h).1).trans h
theorem Zs {w:World}{u0 u1 u2 u3 u4:Value}{t:TypeId}{g:Nat}(h:w.heap[g]?=some (.cells #[u0,u1,u2,u3,u4] t (0,0))) :
  w.cell? ⟨g,0,none⟩=some u0/\w.cell? ⟨g,1,none⟩=some u1/\w.cell? ⟨g,2,none⟩=some u2/\w.cell? ⟨g,3,none⟩=some u3/\w.cell? ⟨g,4,none⟩=some u4/\∀j:Nat,w.frozen? ⟨g,j,none⟩=false :=
 ⟨by rw[cell_of_row _ _ _ _ _ _ h];rfl,by rw[cell_of_row _ _ _ _ _ _ h];rfl,by rw[cell_of_row _ _ _ _ _ _ h];rfl,by rw[cell_of_row _ _ _ _ _ _ h];rfl,by rw[cell_of_row _ _ _ _ _ _ h];rfl,λj=>frozen_of_row _ _ _ _ _ h⟩
theorem Own.far {α:Type}{cells:α→List Value}{e:TypeId}{s:Nat}{w:World}{base g n c m:Nat}{l:List α}{k i:Nat}{u:Value}(hne:g≠k)(h:Own cells e s w base (.slice (some ⟨g,0,none⟩) n c) m l):Own cells e s (w.setCell ⟨k,i,none⟩ u) base (.slice (some ⟨g,0,none⟩) n c) m l :=
 h.kept (JZ w k i u) (.inr (by simpa[Value.ownBlock] using hne))
theorem Below.far {B:Nat}{a w:World}{k i:Nat}{u:Value}(hk:B<=k)(h:Below B a w):Below B a (w.setCell ⟨k,i,none⟩ u):=h.setCell (p:=⟨k,i,none⟩) hk u
def Z5 (x:DeskV):Bool:=strokeOk x.fStroke&&inB x.fStakes 3 60&&ZD x.kinds&&ZE x.heaps&&decide (ZI x.fLog=0)
theorem YH {P:Program}{co:Code}{K:Exit→Act→World→Prop}{a:Act}{W:World}{φ:World→Prop}(h:φ W)(k:∀W1,φ W1→Code.wp P co K a W1):Code.wp P co K a W:=k W h
theorem Yj (x:DeskV)(w:World)(hG:Gl w)(hx:x.good w w.heap.size)(hs0:x.fStroke.size<=maxLen) :
  Calls Tryz.prog 26 #[.agg #[.string x.fStroke,.int .i64 x.fStakes,.slice x.A x.n x.c,.slice x.A' x.n' x.c',.string x.fLog]] w λe w'=>e = .returned (.bool (Z5 x))/\Below w.heap.size w w':=by
 have hGh:=Za hG;clear hG;go_enter Tryz.func26,Tryz.ntmps26;go_upto_region 1 with fail
 refine YH (φ:=λW=>W.heap[w.heap.size]?=some (.cells #[.string x.fStroke,.int .i64 x.fStakes,.slice x.A x.n x.c,.slice x.A' x.n' x.c',.string x.fLog] 29 (0,0))/\x.good W W.heap.size/\Below w.heap.size w W) ⟨heap_alloc_new w _,hx.go ((Below.refl _ _).alloc (Nat.le_refl _) _),(Below.refl _ _).alloc (Nat.le_refl _) _⟩ ?_;rintro W0 ⟨n0,n1,n2⟩;have hK:=Za n0;have hX:=Za n1;have hB:=Za n2;clear n0 n1 n2 hx;obtain⟨k,hk⟩:∃k,k=w.heap.size:=⟨_,rfl⟩;rw[←hk] at hK ⊢;have hkk:=Za hk;clear hk;obtain⟨c0,c1,c2,c3,c4,cf⟩:=Zs hK.out;cases k0:strokeOk x.fStroke
 ·skip
  have ck:Hid (Z5 x=false):=Za (by simp[Z5,k0]);go_wp2_with (first|(go_at_call 60;refine(Ye _ _ hs0).mono ?_;rintro e w1 ⟨rfl,hb⟩;replace hB:=Za (Below.up hB.out hb);replace hK:=Za (Ze hK.out hb);replace hX:=Za (hX.out.go hb);clear hb c0 c1 c2 c3 c4 cf;obtain⟨c0,c1,c2,c3,c4,cf⟩:=Zs hK.out)|(go_at_call 61;refine(ZQ _ _).mono ?_;rintro e w' ⟨rfl,rfl⟩)|(go_at_call 62;refine(YD _ _ _ _ _ hX.out.nk hX.out.kinds).mono ?_;rintro e w1 ⟨rfl,hb⟩;replace hB:=Za (Below.up hB.out hb);replace hK:=Za (Ze hK.out hb);replace hX:=Za (hX.out.go hb);clear hb c0 c1 c2 c3 c4 cf;obtain⟨c0,c1,c2,c3,c4,cf⟩:=Zs hK.out)|(go_at_call 63;refine(Yk _ _ _ _ _ hX.out.nh hX.out.fit hX.out.heaps).mono ?_;rintro e w1 ⟨rfl,hb⟩;replace hB:=Za (Below.up hB.out hb);replace hK:=Za (Ze hK.out hb);replace hX:=Za (hX.out.go hb);clear hb c0 c1 c2 c3 c4 cf;obtain⟨c0,c1,c2,c3,c4,cf⟩:=Zs hK.out)|(go_at_call 64;refine(Xd _ _ (hGh.out.below hB.out)).mono ?_;rintro e w1 ⟨rfl,hb⟩;replace hB:=Za (Below.up hB.out hb);replace hK:=Za (Ze hK.out hb);replace hX:=Za (hX.out.go hb);clear hb c0 c1 c2 c3 c4 cf;obtain⟨c0,c1,c2,c3,c4,cf⟩:=Zs hK.out)|fail)
  go_ret;exact⟨ZW ck.out.symm,hB.out⟩
 ·skip
  cases k1:inB x.fStakes 3 60
  ·skip
   have ck:Hid (Z5 x=false):=Za (by simp[Z5,k1]);go_wp2_with (first|(go_at_call 60;refine(Ye _ _ hs0).mono ?_;rintro e w1 ⟨rfl,hb⟩;replace hB:=Za (Below.up hB.out hb);replace hK:=Za (Ze hK.out hb);replace hX:=Za (hX.out.go hb);clear hb c0 c1 c2 c3 c4 cf;obtain⟨c0,c1,c2,c3,c4,cf⟩:=Zs hK.out)|(go_at_call 61;refine(ZQ _ _).mono ?_;rintro e w' ⟨rfl,rfl⟩)|(go_at_call 62;refine(YD _ _ _ _ _ hX.out.nk hX.out.kinds).mono ?_;rintro e w1 ⟨rfl,hb⟩;replace hB:=Za (Below.up hB.out hb);replace hK:=Za (Ze hK.out hb);replace hX:=Za (hX.out.go hb);clear hb c0 c1 c2 c3 c4 cf;obtain⟨c0,c1,c2,c3,c4,cf⟩:=Zs hK.out)|(go_at_call 63;refine(Yk _ _ _ _ _ hX.out.nh hX.out.fit hX.out.heaps).mono ?_;rintro e w1 ⟨rfl,hb⟩;replace hB:=Za (Below.up hB.out hb);replace hK:=Za (Ze hK.out hb);replace hX:=Za (hX.out.go hb);clear hb c0 c1 c2 c3 c4 cf;obtain⟨c0,c1,c2,c3,c4,cf⟩:=Zs hK.out)|(go_at_call 64;refine(Xd _ _ (hGh.out.below hB.out)).mono ?_;rintro e w1 ⟨rfl,hb⟩;replace hB:=Za (Below.up hB.out hb);replace hK:=Za (Ze hK.out hb);replace hX:=Za (hX.out.go hb);clear hb c0 c1 c2 c3 c4 cf;obtain⟨c0,c1,c2,c3,c4,cf⟩:=Zs hK.out)|fail)
   go_ret;exact⟨ZW ck.out.symm,hB.out⟩
  ·skip
   cases k2:ZD x.kinds
   ·skip
    have ck:Hid (Z5 x=false):=Za (by simp[Z5,k2]);go_wp2_with (first|(go_at_call 60;refine(Ye _ _ hs0).mono ?_;rintro e w1 ⟨rfl,hb⟩;replace hB:=Za (Below.up hB.out hb);replace hK:=Za (Ze hK.out hb);replace hX:=Za (hX.out.go hb);clear hb c0 c1 c2 c3 c4 cf;obtain⟨c0,c1,c2,c3,c4,cf⟩:=Zs hK.out)|(go_at_call 61;refine(ZQ _ _).mono ?_;rintro e w' ⟨rfl,rfl⟩)|(go_at_call 62;refine(YD _ _ _ _ _ hX.out.nk hX.out.kinds).mono ?_;rintro e w1 ⟨rfl,hb⟩;replace hB:=Za (Below.up hB.out hb);replace hK:=Za (Ze hK.out hb);replace hX:=Za (hX.out.go hb);clear hb c0 c1 c2 c3 c4 cf;obtain⟨c0,c1,c2,c3,c4,cf⟩:=Zs hK.out)|(go_at_call 63;refine(Yk _ _ _ _ _ hX.out.nh hX.out.fit hX.out.heaps).mono ?_;rintro e w1 ⟨rfl,hb⟩;replace hB:=Za (Below.up hB.out hb);replace hK:=Za (Ze hK.out hb);replace hX:=Za (hX.out.go hb);clear hb c0 c1 c2 c3 c4 cf;obtain⟨c0,c1,c2,c3,c4,cf⟩:=Zs hK.out)|(go_at_call 64;refine(Xd _ _ (hGh.out.below hB.out)).mono ?_;rintro e w1 ⟨rfl,hb⟩;replace hB:=Za (Below.up hB.out hb);replace hK:=Za (Ze hK.out hb);replace hX:=Za (hX.out.go hb);clear hb c0 c1 c2 c3 c4 cf;obtain⟨c0,c1,c2,c3,c4,cf⟩:=Zs hK.out)|fail)
    go_ret;exact⟨ZW ck.out.symm,hB.out⟩
   ·skip
    cases k3:ZE x.heaps
    ·skip
     have ck:Hid (Z5 x=false):=Za (by simp[Z5,k3]);go_wp2_with (first|(go_at_call 60;refine(Ye _ _ hs0).mono ?_;rintro e w1 ⟨rfl,hb⟩;replace hB:=Za (Below.up hB.out hb);replace hK:=Za (Ze hK.out hb);replace hX:=Za (hX.out.go hb);clear hb c0 c1 c2 c3 c4 cf;obtain⟨c0,c1,c2,c3,c4,cf⟩:=Zs hK.out)|(go_at_call 61;refine(ZQ _ _).mono ?_;rintro e w' ⟨rfl,rfl⟩)|(go_at_call 62;refine(YD _ _ _ _ _ hX.out.nk hX.out.kinds).mono ?_;rintro e w1 ⟨rfl,hb⟩;replace hB:=Za (Below.up hB.out hb);replace hK:=Za (Ze hK.out hb);replace hX:=Za (hX.out.go hb);clear hb c0 c1 c2 c3 c4 cf;obtain⟨c0,c1,c2,c3,c4,cf⟩:=Zs hK.out)|(go_at_call 63;refine(Yk _ _ _ _ _ hX.out.nh hX.out.fit hX.out.heaps).mono ?_;rintro e w1 ⟨rfl,hb⟩;replace hB:=Za (Below.up hB.out hb);replace hK:=Za (Ze hK.out hb);replace hX:=Za (hX.out.go hb);clear hb c0 c1 c2 c3 c4 cf;obtain⟨c0,c1,c2,c3,c4,cf⟩:=Zs hK.out)|(go_at_call 64;refine(Xd _ _ (hGh.out.below hB.out)).mono ?_;rintro e w1 ⟨rfl,hb⟩;replace hB:=Za (Below.up hB.out hb);replace hK:=Za (Ze hK.out hb);replace hX:=Za (hX.out.go hb);clear hb c0 c1 c2 c3 c4 cf;obtain⟨c0,c1,c2,c3,c4,cf⟩:=Zs hK.out)|fail)
     go_ret;exact⟨ZW ck.out.symm,hB.out⟩
    ·skip
     by_cases hq:ZI x.fLog=0
     ·have ck0:Z5 x=true:=by simp[Z5,k0,k1,k2,k3,hq]
      have e5:(ZI x.fLog==0)=true:=by rw[hq];rfl
      clear hq;have ck:Hid (Z5 x=true):=Za (ck0);go_wp2_with (first|(go_at_call 60;refine(Ye _ _ hs0).mono ?_;rintro e w1 ⟨rfl,hb⟩;replace hB:=Za (Below.up hB.out hb);replace hK:=Za (Ze hK.out hb);replace hX:=Za (hX.out.go hb);clear hb c0 c1 c2 c3 c4 cf;obtain⟨c0,c1,c2,c3,c4,cf⟩:=Zs hK.out)|(go_at_call 61;refine(ZQ _ _).mono ?_;rintro e w' ⟨rfl,rfl⟩)|(go_at_call 62;refine(YD _ _ _ _ _ hX.out.nk hX.out.kinds).mono ?_;rintro e w1 ⟨rfl,hb⟩;replace hB:=Za (Below.up hB.out hb);replace hK:=Za (Ze hK.out hb);replace hX:=Za (hX.out.go hb);clear hb c0 c1 c2 c3 c4 cf;obtain⟨c0,c1,c2,c3,c4,cf⟩:=Zs hK.out)|(go_at_call 63;refine(Yk _ _ _ _ _ hX.out.nh hX.out.fit hX.out.heaps).mono ?_;rintro e w1 ⟨rfl,hb⟩;replace hB:=Za (Below.up hB.out hb);replace hK:=Za (Ze hK.out hb);replace hX:=Za (hX.out.go hb);clear hb c0 c1 c2 c3 c4 cf;obtain⟨c0,c1,c2,c3,c4,cf⟩:=Zs hK.out)|(go_at_call 64;refine(Xd _ _ (hGh.out.below hB.out)).mono ?_;rintro e w1 ⟨rfl,hb⟩;replace hB:=Za (Below.up hB.out hb);replace hK:=Za (Ze hK.out hb);replace hX:=Za (hX.out.go hb);clear hb c0 c1 c2 c3 c4 cf;obtain⟨c0,c1,c2,c3,c4,cf⟩:=Zs hK.out)|fail)
      go_ret;exact⟨ZW ck.out.symm,hB.out⟩
     ·have ck0:Z5 x=false:=by simp[Z5,hq]
      have e5:(ZI x.fLog==0)=false:=by simp[hq]
      clear hq;have ck:Hid (Z5 x=false):=Za (ck0);go_wp2_with (first|(go_at_call 60;refine(Ye _ _ hs0).mono ?_;rintro e w1 ⟨rfl,hb⟩;replace hB:=Za (Below.up hB.out hb);replace hK:=Za (Ze hK.out hb);replace hX:=Za (hX.out.go hb);clear hb c0 c1 c2 c3 c4 cf;obtain⟨c0,c1,c2,c3,c4,cf⟩:=Zs hK.out)|(go_at_call 61;refine(ZQ _ _).mono ?_;rintro e w' ⟨rfl,rfl⟩)|(go_at_call 62;refine(YD _ _ _ _ _ hX.out.nk hX.out.kinds).mono ?_;rintro e w1 ⟨rfl,hb⟩;replace hB:=Za (Below.up hB.out hb);replace hK:=Za (Ze hK.out hb);replace hX:=Za (hX.out.go hb);clear hb c0 c1 c2 c3 c4 cf;obtain⟨c0,c1,c2,c3,c4,cf⟩:=Zs hK.out)|(go_at_call 63;refine(Yk _ _ _ _ _ hX.out.nh hX.out.fit hX.out.heaps).mono ?_;rintro e w1 ⟨rfl,hb⟩;replace hB:=Za (Below.up hB.out hb);replace hK:=Za (Ze hK.out hb);replace hX:=Za (hX.out.go hb);clear hb c0 c1 c2 c3 c4 cf;obtain⟨c0,c1,c2,c3,c4,cf⟩:=Zs hK.out)|(go_at_call 64;refine(Xd _ _ (hGh.out.below hB.out)).mono ?_;rintro e w1 ⟨rfl,hb⟩;replace hB:=Za (Below.up hB.out hb);replace hK:=Za (Ze hK.out hb);replace hX:=Za (hX.out.go hb);clear hb c0 c1 c2 c3 c4 cf;obtain⟨c0,c1,c2,c3,c4,cf⟩:=Zs hK.out)|fail)
      go_ret;exact⟨ZW ck.out.symm,hB.out⟩
def ZaR (x:DeskV):ByteArray:=(⟨#[115,116,114,111,107,101,32]⟩:ByteArray)++x.fStroke++⟨#[44,32]⟩++decB x.fStakes++⟨#[32,115,116,97,107,101,115,44,32]⟩++decB (x.n:Int)++⟨#[32,107,105,110,100,115,44,32]⟩++decB (x.n':Int)++⟨#[32,104,101,97,112,115]⟩
def UO (x:DeskV):ByteArray:=if Z5 x=true then ZaR x else ⟨#[]⟩
theorem Zcc {s:ByteArray}(h:strokeOk s=true):s.size<=12:=by simp[strokeOk] at h;exact h.1.2
theorem J5 {x:DeskV}{w:World}{B:Nat}(hx:x.good w B)(h:Z5 x=true):x.fStroke.size<=12/\(3<=x.fStakes/\x.fStakes<=60)/\x.n<=4/\x.n'<=20:=by
 have hk:=hx.kinds.len;have hh:=hx.heaps.len;simp only[Z5,Bool.and_eq_true] at h;obtain⟨⟨⟨⟨h1,h2⟩,h3⟩,h4⟩,_⟩:=h;have h3':x.kinds.length<=4:=by unfold ZD at h3;simp at h3;exact h3.2
 have h4':x.heaps.length<=20:=by unfold ZE at h4;simp at h4;exact h4.2
 exact⟨Zcc h1,Zj.1 h2,by omega,by omega⟩
theorem Vl (x:DeskV)(w:World)(hG:Gl w)(hx:x.good w w.heap.size)(hs0:x.fStroke.size<=maxLen) :
  Calls Tryz.prog 11 #[.agg #[.string x.fStroke,.int .i64 x.fStakes,.slice x.A x.n x.c,.slice x.A' x.n' x.c',.string x.fLog]] w λe w'=>e = .returned (.string (UO x))/\Below w.heap.size w w':=by
 have hGh:=Za hG;clear hG;have hpar:=Za (λh=>J5 hx h);go_enter Tryz.func11,Tryz.ntmps11;go_upto_region 1 with fail
 refine YH (φ:=λW=>W.heap[w.heap.size]?=some (.cells #[.string x.fStroke,.int .i64 x.fStakes,.slice x.A x.n x.c,.slice x.A' x.n' x.c',.string x.fLog] 29 (0,0))/\x.good W W.heap.size/\Below w.heap.size w W) ⟨heap_alloc_new w _,hx.go ((Below.refl _ _).alloc (Nat.le_refl _) _),(Below.refl _ _).alloc (Nat.le_refl _) _⟩ ?_;rintro W0 ⟨n0,n1,n2⟩;have hK:=Za n0;have hX:=Za n1;have hB:=Za n2;clear n0 n1 n2 hx;obtain⟨k,hk⟩:∃k,k=w.heap.size:=⟨_,rfl⟩;rw[←hk] at hK ⊢;have hkk:=Za hk;clear hk;obtain⟨c0,c1,c2,c3,c4,cf⟩:=Zs hK.out;go_wp2_with fail
 refine(Yj x _ (hGh.out.below hB.out) hX.out hs0).mono ?_;rintro e w1 ⟨rfl,hb⟩;replace hB:=Za (Below.up hB.out hb);replace hK:=Za (Ze hK.out hb);clear hb c0 c1 c2 c3 c4 cf;cases hok:Z5 x
 ·have hm:Hid (UO x=⟨#[]⟩):=Za (by unfold UO;rw[hok];rfl)
  go_wp2
  go_ret;exact⟨by rw[hm.out];rfl,hB.out⟩
 ·have hm:Hid (UO x=ZaR x):=Za (by unfold UO;rw[if_pos hok])
  obtain⟨hs1,⟨q0,q1⟩,q2,q3⟩:=hpar.out hok;go_upto_region 3 with fail
  obtain⟨W1,hW1⟩:∃W1:World,W1=w1:=⟨_,rfl⟩;rw[←hW1] at hB hK ⊢;clear hW1;have s1:=Zv x.fStakes (by omega) (by omega);have s2:=Zv (x.n:Int) (by omega) (by omega);have s3:=Zv (x.n':Int) (by omega) (by omega);obtain⟨S,hS⟩:∃S,S=x.fStroke:=⟨_,rfl⟩;obtain⟨d1,hd1⟩:∃d,d=decB x.fStakes:=⟨_,rfl⟩;obtain⟨d2,hd2⟩:∃d,d=decB (x.n:Int):=⟨_,rfl⟩;obtain⟨d3,hd3⟩:∃d,d=decB (x.n':Int):=⟨_,rfl⟩;have hD1:=Za hd1.symm;have hD2:=Za hd2.symm;have hD3:=Za hd3.symm;rw[←hS] at hs1 hK;rw[←hd1] at s1;rw[←hd2] at s2;rw[←hd3] at s3;have hSS:=Za hS;clear hS hd1 hd2 hd3;have l0:(⟨#[115,116,114,111,107,101,32]⟩:ByteArray).size=7:=rfl;have l1:(⟨#[44,32]⟩:ByteArray).size=2:=rfl;have l2:(⟨#[32,115,116,97,107,101,115,44,32]⟩:ByteArray).size=9:=rfl;have l3:(⟨#[32,107,105,110,100,115,44,32]⟩:ByteArray).size=8:=rfl;have l4:(⟨#[32,104,101,97,112,115]⟩:ByteArray).size=6:=rfl;have z0:(⟨#[115,116,114,111,107,101,32]⟩:ByteArray).size<=7:=by omega
  have j1:=Zr ((⟨#[115,116,114,111,107,101,32]⟩:ByteArray)) S (by omega);have z1:((⟨#[115,116,114,111,107,101,32]⟩:ByteArray)++S).size<=19:=by rw[ByteArray.size_append];omega
  have j2:=Zr ((⟨#[115,116,114,111,107,101,32]⟩:ByteArray)++S) ⟨#[44,32]⟩ (by omega);have z2:((⟨#[115,116,114,111,107,101,32]⟩:ByteArray)++S++⟨#[44,32]⟩).size<=21:=by rw[ByteArray.size_append];omega
  have j3:=Zr ((⟨#[115,116,114,111,107,101,32]⟩:ByteArray)++S++⟨#[44,32]⟩) d1 (by omega);have z3:((⟨#[115,116,114,111,107,101,32]⟩:ByteArray)++S++⟨#[44,32]⟩++d1).size<=42:=by rw[ByteArray.size_append];omega
  have j4:=Zr ((⟨#[115,116,114,111,107,101,32]⟩:ByteArray)++S++⟨#[44,32]⟩++d1) ⟨#[32,115,116,97,107,101,115,44,32]⟩ (by omega);have z4:((⟨#[115,116,114,111,107,101,32]⟩:ByteArray)++S++⟨#[44,32]⟩++d1++⟨#[32,115,116,97,107,101,115,44,32]⟩).size<=51:=by rw[ByteArray.size_append];omega
  have j5:=Zr ((⟨#[115,116,114,111,107,101,32]⟩:ByteArray)++S++⟨#[44,32]⟩++d1++⟨#[32,115,116,97,107,101,115,44,32]⟩) d2 (by omega);have z5:((⟨#[115,116,114,111,107,101,32]⟩:ByteArray)++S++⟨#[44,32]⟩++d1++⟨#[32,115,116,97,107,101,115,44,32]⟩++d2).size<=72:=by rw[ByteArray.size_append];omega
  have j6:=Zr ((⟨#[115,116,114,111,107,101,32]⟩:ByteArray)++S++⟨#[44,32]⟩++d1++⟨#[32,115,116,97,107,101,115,44,32]⟩++d2) ⟨#[32,107,105,110,100,115,44,32]⟩ (by omega);have z6:((⟨#[115,116,114,111,107,101,32]⟩:ByteArray)++S++⟨#[44,32]⟩++d1++⟨#[32,115,116,97,107,101,115,44,32]⟩++d2++⟨#[32,107,105,110,100,115,44,32]⟩).size<=80:=by rw[ByteArray.size_append];omega
  have j7:=Zr ((⟨#[115,116,114,111,107,101,32]⟩:ByteArray)++S++⟨#[44,32]⟩++d1++⟨#[32,115,116,97,107,101,115,44,32]⟩++d2++⟨#[32,107,105,110,100,115,44,32]⟩) d3 (by omega);have z7:((⟨#[115,116,114,111,107,101,32]⟩:ByteArray)++S++⟨#[44,32]⟩++d1++⟨#[32,115,116,97,107,101,115,44,32]⟩++d2++⟨#[32,107,105,110,100,115,44,32]⟩++d3).size<=101:=by rw[ByteArray.size_append];omega
  have j8:=Zr ((⟨#[115,116,114,111,107,101,32]⟩:ByteArray)++S++⟨#[44,32]⟩++d1++⟨#[32,115,116,97,107,101,115,44,32]⟩++d2++⟨#[32,107,105,110,100,115,44,32]⟩++d3) ⟨#[32,104,101,97,112,115]⟩ (by omega);have z8:((⟨#[115,116,114,111,107,101,32]⟩:ByteArray)++S++⟨#[44,32]⟩++d1++⟨#[32,115,116,97,107,101,115,44,32]⟩++d2++⟨#[32,107,105,110,100,115,44,32]⟩++d3++⟨#[32,104,101,97,112,115]⟩).size<=107:=by rw[ByteArray.size_append];omega
  clear z0 z1 z2 z3 z4 z5 z6 z7 z8;clear l0 l1 l2 l3 l4;have hdr:Below W1.heap.size W1 W1.drew:=Zb (Below.refl _ _) 1;replace hB:=Za (Below.up hB.out hdr);replace hK:=Za (Ze hK.out hdr);clear hdr;obtain⟨c0,c1,c2,c3,_,_⟩:=Zs hK.out;go_region_held3 (λw'=>w'.cell? ⟨k,0,none⟩=some (.string S)/\w'.cell? ⟨k,1,none⟩=some (.int .i64 x.fStakes)/\w'.cell? ⟨k,2,none⟩=some (.slice x.A x.n x.c)/\w'.cell? ⟨k,3,none⟩=some (.slice x.A' x.n' x.c')) (first|go_keep|exact⟨(Zs hK.out).1,(Zs hK.out).2.1,(Zs hK.out).2.2.1,(Zs hK.out).2.2.2.1⟩) (first|(go_at_call 36;(with_reducible refine(YQ x.fStakes _ (by omega) (by omega) (hGh.out.below hB.out)).mono ?_);rw[hD1.out];rintro e w2 ⟨rfl,hb⟩;replace hB:=Za (Below.up hB.out hb);replace hK:=Za (Ze hK.out hb);clear hb c0 c1 c2 c3;obtain⟨c0,c1,c2,c3,_,_⟩:=Zs hK.out)|(go_at_call 36;(with_reducible refine(YQ (x.n:Int) _ (by omega) (by omega) (hGh.out.below hB.out)).mono ?_);rw[hD2.out];rintro e w2 ⟨rfl,hb⟩;replace hB:=Za (Below.up hB.out hb);replace hK:=Za (Ze hK.out hb);clear hb c0 c1 c2 c3;obtain⟨c0,c1,c2,c3,_,_⟩:=Zs hK.out)|(go_at_call 36;(with_reducible refine(YQ (x.n':Int) _ (by omega) (by omega) (hGh.out.below hB.out)).mono ?_);rw[hD3.out];rintro e w2 ⟨rfl,hb⟩;replace hB:=Za (Below.up hB.out hb);replace hK:=Za (Ze hK.out hb);clear hb c0 c1 c2 c3;obtain⟨c0,c1,c2,c3,_,_⟩:=Zs hK.out)|fail)
  all_goals go_wp2
  all_goals go_ret
  all_goals exact⟨by rw[hm.out];unfold ZaR;rw[←hSS.out,hD1.out,hD2.out,hD3.out];rfl,hB.out⟩
structure DeskM where
 st:ByteArray
 sk:Int
 ks:List Kind
 hs:List Heap
 lg:ByteArray
def DeskM.ok (d:DeskM):Bool:=strokeOk d.st&&inB d.sk 3 60&&ZD d.ks&&ZE d.hs&&decide (ZI d.lg=0)
def DeskM.txt (d:DeskM):ByteArray:=(⟨#[115,116,114,111,107,101,32]⟩:ByteArray)++d.st++⟨#[44,32]⟩++decB d.sk++⟨#[32,115,116,97,107,101,115,44,32]⟩++decB (d.ks.length:Int)++⟨#[32,107,105,110,100,115,44,32]⟩++decB (d.hs.length:Int)++⟨#[32,104,101,97,112,115]⟩
def DeskM.text (d:DeskM):ByteArray:=if d.ok=true then d.txt else ⟨#[]⟩
def DeskV.pure (x:DeskV):DeskM:=⟨x.fStroke,x.fStakes,x.kinds,x.heaps,x.fLog⟩
theorem ZO (x:DeskV):Z5 x=x.pure.ok:=rfl
theorem Wd {x:DeskV}{w:World}{B:Nat}(hx:x.good w B):UO x=x.pure.text:=by
 unfold UO DeskM.text ZaR DeskM.txt DeskV.pure;rw[←hx.kinds.len,←hx.heaps.len];rfl
inductive Cmd where
 | cAdd
 | cBroken
 | cEnter
 | cFew
 | cHeap
 | cHeaps
 | cJoins
 | cKinds
 | cLog
 | cRound
 | cSound
 | cStakes
 | cStroke
 | cWord
 deriving DecidableEq
def Cmd.word:Cmd→ByteArray
 | .cAdd=>⟨#[97,100,100]⟩
 | .cBroken=>⟨#[98,114,111,107,101,110]⟩
 | .cEnter=>⟨#[101,110,116,101,114]⟩
 | .cFew=>⟨#[102,101,119]⟩
 | .cHeap=>⟨#[104,101,97,112]⟩
 | .cHeaps=>⟨#[104,101,97,112,115]⟩
 | .cJoins=>⟨#[106,111,105,110,115]⟩
 | .cKinds=>⟨#[107,105,110,100,115]⟩
 | .cLog=>⟨#[108,111,103]⟩
 | .cRound=>⟨#[114,111,117,110,100]⟩
 | .cSound=>⟨#[115,111,117,110,100]⟩
 | .cStakes=>⟨#[115,116,97,107,101,115]⟩
 | .cStroke=>⟨#[115,116,114,111,107,101]⟩
 | .cWord=>⟨#[119,111,114,100]⟩
def Zdm:List Cmd:=[.cAdd,.cBroken,.cEnter,.cFew,.cHeap,.cHeaps,.cJoins,.cKinds,.cLog,.cRound,.cSound,.cStakes,.cStroke,.cWord]
theorem ZiQ (c:Cmd):c∈Zdm:=by cases c<;>simp[Zdm]
def U2 (w:ByteArray):Option Cmd:=Zdm.find? λc=>decide (w=c.word)
theorem Vq {w:ByteArray}{c:Cmd}(h:U2 w=some c):w=c.word:=by
 have:=List.find?_some h;exact of_decide_eq_true this
theorem Zw {w:ByteArray}(h:U2 w=none)(c:Cmd):¬w=c.word:=by
 have:=List.find?_eq_none.1 h c (ZiQ c);simpa using this
theorem Vp (c:Cmd):U2 c.word=some c:=by cases c<;>rfl
def Cmd.fits:Cmd→Nat→Bool
 | .cHeaps,n|.cLog,n=>decide (n=1)
 | .cStroke,n|.cStakes,n|.cRound,n|.cSound,n|.cAdd,n|.cFew,n=>decide (n=2)
 | .cWord,n=>decide (n=3)
 | .cEnter,n=>decide (n=4)
 | .cBroken,n|.cKinds,n|.cHeap,n=>decide (2<=n)
 | .cJoins,n=>decide (3<=n)
def YS (w:ByteArray)(n:Nat):Bool:=match U2 w with
 | some c=>c.fits n
 | none=>false
def Cmd.skip:Cmd→Option Nat
 | .cWord=>some 0
 | .cEnter=>some 1
 | _=>none
def ZC (sk:Option Nat)(l:List ByteArray)(k:Nat):List ByteArray:=((List.range k).filter λi=>decide (¬sk=some i)).map λi=>l.getD i ⟨#[]⟩
theorem Ve {sk:Option Nat}{l:List ByteArray}{k:Nat}{x:ByteArray}(h:¬sk=some k)(hx:l[k]?=some x):ZC sk l (k+1)=ZC sk l k++[x]:=by
 unfold ZC;rw[List.range_succ,List.filter_append,List.map_append];simp[h,List.getD_eq_getElem?_getD,hx]
theorem Zbo {sk:Option Nat}{l:List ByteArray}{k:Nat}(h:sk=some k):ZC sk l (k+1)=ZC sk l k:=by
 unfold ZC;rw[List.range_succ,List.filter_append,List.map_append];simp[h]
theorem Y4 (sk:Option Nat)(l:List ByteArray)(k:Nat):(ZC sk l k).length<=k:=by
 unfold ZC;rw[List.length_map];have h:=List.length_filter_le (λi=>decide (¬sk=some i)) (List.range k)
 rwa [List.length_range] at h
def rdB (x:ByteArray):Bool:=Yt x.data.toList
def rdI (x:ByteArray):Int:=rdNum x.data.toList
def numLine (l:List Int):ByteArray:=if l=[] then ⟨#[45]⟩ else ⟨(Lib.join (l.map λn=>(decB n).data.toList) [32]).toArray⟩
def joinSp (l:List ByteArray):ByteArray:=⟨(Lib.join (l.map (·.data.toList)) [32]).toArray⟩
def okB (n:Nat):ByteArray:=(⟨#[111,107,32]⟩:ByteArray)++decB (n:Int)
def Yq (n:List Int)(k:Nat):List Kind:=(List.range k).map λi=>⟨n.getD (2*i) 0,n.getD (2*i+1) 0⟩
theorem Zbx (n:List Int)(k:Nat):Yq n (k+1)=Yq n k++[⟨n.getD (2*k) 0,n.getD (2*k+1) 0⟩]:=by
 unfold Yq;rw[List.range_succ,List.map_append];rfl
def XY (n:List Int):List Kind:=Yq n (n.length/2)
def kindsCd (n:List Int):Int:=if n.length%2=0 then (if ZD (XY n) then 0 else 1) else 7
def Yn (n:List Int):List Kind:=if kindsCd n=0 then XY n else []
def mText (d:DeskM)(c:Cmd)(r:ByteArray):DeskM × List ByteArray × Int:=match c with
 | .cStroke=>if strokeOk r then ({ d with st:=r },[({ d with st:=r }:DeskM).text],0) else (d,[],1)
 | .cHeap=>if rhOk r then ({ d with hs:=mPutL d.hs (rhHeap r) },[({ d with hs:=mPutL d.hs (rhHeap r) }:DeskM).text],mPutC d.hs (rhHeap r)) else (d,[],7)
 | .cHeaps=>(d,d.hs.map mHeapT++[okB d.hs.length],0)
 | .cLog=>(d,(mEnts d.lg).map entB++[okB (mEnts d.lg).length],0)
 | _=>(d,[],0)
def mAsk (d:DeskM)(c:Cmd)(ws:List ByteArray)(n:List Int):ByteArray × Int:=match c with
 | .cRound=>(mRoundT d.st d.sk.toNat (n.getD 0 0),mRoundC (n.getD 0 0))
 | .cWord=>(mRowT (ws.getD 1 ⟨#[]⟩) d.sk.toNat (n.getD 0 0),mRowC (ws.getD 1 ⟨#[]⟩) (n.getD 0 0))
 | .cSound=>(if mSound d.st d.sk.toNat (n.getD 0 0) then ⟨#[121,101,115]⟩ else ⟨#[110,111]⟩,mSoundC (n.getD 0 0))
 | .cAdd=>(numLine [mStk d.st d.sk.toNat (n.getD 0 0)],mStkC d.st d.sk.toNat (n.getD 0 0))
 | .cJoins=>(numLine (ordL d.sk (n.getD 0 0) (n.drop 1)),ordC d.sk (n.getD 0 0) (n.drop 1))
 | .cBroken=>(numLine (newL d.sk n),newC d.sk n)
 | .cFew=>(numLine (fewL d.ks (n.getD 0 0)),fewC d.ks (n.getD 0 0))
 | _=>(⟨#[45]⟩,0)
def mWork (d:DeskM)(c:Cmd)(ws:List ByteArray)(n:List Int):DeskM × ByteArray × Int:=match c with
 | .cStakes=>if inB (n.getD 0 0) 3 60 then ({ d with sk:=n.getD 0 0 },({ d with sk:=n.getD 0 0 }:DeskM).text,0) else (d,⟨#[]⟩,1)
 | .cKinds=>({ d with ks:=Yn n },({ d with ks:=Yn n }:DeskM).text,kindsCd n)
 | .cEnter=>({ d with lg:=(mAdd d.lg ⟨n.getD 0 0,ws.getD 2 ⟨#[]⟩,n.getD 1 0⟩).1 },numLine [sumOf id (Yu (mAdd d.lg ⟨n.getD 0 0,ws.getD 2 ⟨#[]⟩,n.getD 1 0⟩).1 (ws.getD 2 ⟨#[]⟩))],(mAdd d.lg ⟨n.getD 0 0,ws.getD 2 ⟨#[]⟩,n.getD 1 0⟩).2)
 | _=>(d,(mAsk d c ws n).1,(mAsk d c ws n).2)
def Cmd.plain:Cmd→Bool
 | .cStroke|.cHeap|.cHeaps|.cLog=>true
 | _=>false
def Cmd.nums (c:Cmd)(ws:List ByteArray):List ByteArray:=ZC c.skip ws.tail ws.tail.length
def mDo (d:DeskM)(c:Cmd)(ws:List ByteArray):DeskM × List ByteArray × Int :=
 if c.plain then mText d c (joinSp ws.tail)
 else if (c.nums ws).all rdB then ((mWork d c ws ((c.nums ws).map rdI)).1,[(mWork d c ws ((c.nums ws).map rdI)).2.1],(mWork d c ws ((c.nums ws).map rdI)).2.2)
 else (d,[⟨#[]⟩],7)
def XA (n:Int):ByteArray:=if n=0 then ⟨#[111,107]⟩ else if n=1 then ⟨#[105,110,118,97,108,105,100]⟩ else if n=2 then ⟨#[114,97,110,103,101]⟩ else if n=3 then ⟨#[110,111,116,45,102,111,117,110,100]⟩ else if n=4 then ⟨#[101,120,105,115,116,115]⟩ else if n=5 then ⟨#[102,117,108,108]⟩ else if n=6 then ⟨#[115,116,97,116,101]⟩ else if n=7 then ⟨#[115,121,110,116,97,120]⟩ else if n=8 then ⟨#[102,111,114,109,97,116]⟩ else if n=9 then ⟨#[99,108,97,115,104]⟩ else if n=10 then ⟨#[108,111,111,115,101]⟩ else ⟨#[]⟩
def errB (n:Int):ByteArray:=(⟨#[101,114,114,111,114,32]⟩:ByteArray)++XA n
def mLine (d:DeskM)(s:ByteArray):Option (DeskM × List ByteArray):=match U2 ((words 32 s).headD ⟨#[]⟩) with
 | none=>none
 | some c=>if c.fits (words 32 s).length then (if (mDo d c (words 32 s)).2.2=0 then some ((mDo d c (words 32 s)).1,(mDo d c (words 32 s)).2.1) else some (d,[errB (mDo d c (words 32 s)).2.2])) else none
theorem Z2 {a:ByteArray}{l:List UInt8}(h:¬a=⟨l.toArray⟩):(a.toList==l)=false:=by
 have h1:=Xn h;rw[ByteArray.toList_eq ⟨l.toArray⟩] at h1;exact h1
theorem XR (c:Cmd)(n:Nat):YS c.word n=c.fits n:=by unfold YS;rw[Vp]
theorem ZaU (n:Nat)(z:Int)(k:Nat)(h:z=(k:Int)):((n:Int)==z)=decide (n=k):=by
 subst h;rw[Bool.eq_iff_iff,beq_iff_eq,decide_eq_true_eq];omega
theorem Zi7 (n:Nat)(z:Int)(k:Nat)(h:z=(k:Int)):decide (z<=(n:Int))=decide (k<=n):=by
 subst h;rw[Bool.eq_iff_iff,decide_eq_true_eq,decide_eq_true_eq];omega
theorem YE (s:ByteArray)(n:Nat)(w:World):Calls Tryz.prog 28 #[.string s,.int .i64 (n:Int)] w λe w'=>e = .returned (.bool (YS s n))/\w=w':=by
 cases hc:U2 s with
 | some c =>
  have hs:=Vq hc;subst hs;have hM:=Za (XR c n);clear hc;cases c<;>(
   simp only[Cmd.word];go_enter Tryz.func28,Tryz.ntmps28;go_wp2
   go_ret;exact⟨ZW (Eq.trans (by first|exact ZaU n 1 1 rfl|exact ZaU n 2 2 rfl|exact ZaU n 3 3 rfl|exact ZaU n 4 4 rfl|exact Zi7 n 2 2 rfl|exact Zi7 n 3 3 rfl) hM.out.symm),rfl⟩)
 | none =>
  have hM:Hid (YS s n=false):=Za (by unfold YS;rw[hc]);have e0:=Z2 (l:=[97,100,100]) (Zw hc .cAdd);have e1:=Z2 (l:=[98,114,111,107,101,110]) (Zw hc .cBroken);have e2:=Z2 (l:=[101,110,116,101,114]) (Zw hc .cEnter);have e3:=Z2 (l:=[102,101,119]) (Zw hc .cFew);have e4:=Z2 (l:=[104,101,97,112]) (Zw hc .cHeap);have e5:=Z2 (l:=[104,101,97,112,115]) (Zw hc .cHeaps);have e6:=Z2 (l:=[106,111,105,110,115]) (Zw hc .cJoins);have e7:=Z2 (l:=[107,105,110,100,115]) (Zw hc .cKinds);have e8:=Z2 (l:=[108,111,103]) (Zw hc .cLog);have e9:=Z2 (l:=[114,111,117,110,100]) (Zw hc .cRound);have e10:=Z2 (l:=[115,111,117,110,100]) (Zw hc .cSound);have e11:=Z2 (l:=[115,116,97,107,101,115]) (Zw hc .cStakes);have e12:=Z2 (l:=[115,116,114,111,107,101]) (Zw hc .cStroke);have e13:=Z2 (l:=[119,111,114,100]) (Zw hc .cWord);clear hc;go_enter Tryz.func28,Tryz.ntmps28;go_wp2
  go_ret;exact⟨ZW hM.out.symm,rfl⟩
end Go.Proofs.YtfpaejlipaainaaGreatDoor
