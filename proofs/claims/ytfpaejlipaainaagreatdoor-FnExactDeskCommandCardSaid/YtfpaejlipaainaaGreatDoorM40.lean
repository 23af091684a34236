/- Texts that belong together, joined: contracts and plain laws. No statement is proved here. -/
import Derived.Test.YtfpaejlipaainaaGreatDoorM39
set_option maxRecDepth 100000
namespace Go.Proofs.YtfpaejlipaainaaGreatDoor
open Go.ChangeShapes Go.WideShapes Go.ChangeAt Go.RowKit Go.Deep
theorem Vc (A:Option Addr)(n c:Nat)(l:List Int)(y:Int)(w:World)(hn:n<=1048576)(hr:Arr ZB 1 w w.heap.size A n l) :
  Calls Tryz.prog 282 #[.slice A n c,.int .i64 y] w λe w'=>e = .returned (.bool (decide (y∈l)))/\Below w.heap.size w w':=by
 have hl:=Za hr.len;go_enter Tryz.func282,Tryz.ntmps282;go_wp2
 go_loopw [5] (λi wr=>∃k:Nat,k<=n/\i = .int .i64 k/\Below w.heap.size w wr/\Hid (¬y∈l.take k)) (λi _=>n-(intOf i).toNat)
 case atStart=>exact⟨0,Nat.zero_le _,rfl,Below.refl _ _,Za (by simp)⟩
 case round =>
  obtain⟨k,hk,rfl,hb,hall⟩:=hrel;by_cases hlt:k<n
  ·obtain⟨b,o,x,rfl,hbl,hx,c0⟩:=hr.int hlt
   have d0:wr.cell? ⟨b,o+k,none⟩=some (.int .i64 x):=(hb.cell (p:=⟨b,o+k,none⟩) hbl).trans c0;have hX:=Za hx;clear hx c0;have hB:=Za hb;clear hr hb;by_cases hxy:x=y
   ·have hd:Hid (decide (y∈l)=true):=Za (decide_eq_true (by rw[←hxy];exact List.mem_of_getElem? hX.out))
    subst hxy;go_wp2
    go_ret;exact⟨ZW hd.out.symm,hB.out⟩
   ·have hxe:(x==y)=false:=by rw[beq_eq_false_iff_ne];exact hxy
    have hnx:Hid (¬y∈l.take (k+1)):=Za (by
     rw[Zo hX.out,List.mem_append,List.mem_singleton];exact λh=>h.elim hall.out (λh=>hxy h.symm))
    go_wp2
    go_roundw
    case rel=>exact⟨k+1,by omega,by go_num,hB.out,hnx⟩
    case measure=>simp[intOf];omega
  ·have hkn:k=n:=by omega
   have hd:Hid (decide (y∈l)=false):=Za (decide_eq_false (by
    have e:=hall.out
    rwa [List.take_of_length_le (by rw[hl.out];omega)] at e))
   have hB:=Za hb;clear hb hkn;go_wp2
   go_ret;exact⟨ZW hd.out.symm,hB.out⟩
theorem U6 (A:Option Addr)(n c:Nat)(l:List Int)(w:World)(hn:n<=1048576)(hr:Arr ZB 1 w w.heap.size A n l) :
  Calls Tryz.prog 284 #[.slice A n c] w λe w'=>∃v,e = .returned v/\Own ZB 2 1 w' w.heap.size v n l/\Below w.heap.size w w':=by
 have hB0:=Za ((Below.refl w.heap.size w).alloc (Nat.le_refl _) (.cells #[] 2));have hO0:=Za (Own.none_made (cells:=ZB) (e:=2) (s:=1) (base:=w.heap.size) w (Nat.le_refl _));have hR:=Za (hr.go hB0.out);clear hr;go_enter Tryz.func284,Tryz.ntmps284;go_wp2_with (at_builtin;refine Z1 rfl (.tmp 3) (.tmp 4) rfl Tryz.underlying60 Zz rfl (by omega) (by omega) Zh ZJ rfl hO0.out rfl hR.out (by omega) hB0.out.size ?_;intro v5 w5 ho5 hg5 _;have hB5:=Za (Zi hB0.out hO0.out hg5 hB0.out.size);have hO5:=Za ho5;clear ho5 hg5)
 go_ret;exact⟨_,rfl,by have h:=hO5.out;rw[Nat.zero_add,List.nil_append] at h;exact h,hB5.out⟩
structure WS (w:World)(base g:Nat)(S bd:Int)(A:Option Addr)(n c:Nat)(rods:List Int)(vb:Value)(st:List Int × Int):Prop where
 box:w.heap[g]?=some (.cells #[.int .i64 S,.slice A n c,.int .i64 bd,vb,.int .i64 st.2] 233 (0,0))
 best:Res ZB 2 1 w base vb st.1.length st.1
 rods:Arr ZB 1 w base A n rods
 hg:base<=g
theorem Zb0 {w:World}{u0 u1 u2 u3 u4:Value}{t:TypeId}{g:Nat}(h:w.heap[g]?=some (.cells #[u0,u1,u2,u3,u4] t (0,0))) :
  w.cell? ⟨g,0,none⟩=some u0/\w.cell? ⟨g,1,none⟩=some u1/\w.cell? ⟨g,2,none⟩=some u2/\w.cell? ⟨g,3,none⟩=some u3/\w.cell? ⟨g,4,none⟩=some u4/\∀j:Nat,w.frozen? ⟨g,j,none⟩=false :=
 ⟨by rw[cell_of_row _ _ _ _ _ _ h];rfl,by rw[cell_of_row _ _ _ _ _ _ h];rfl,by rw[cell_of_row _ _ _ _ _ _ h];rfl,by rw[cell_of_row _ _ _ _ _ _ h];rfl,by rw[cell_of_row _ _ _ _ _ _ h];rfl,λj=>frozen_of_row _ _ _ _ _ h⟩
theorem Jn {w w':World}{g:Nat}{o:Obj}(h:w.heap[g]?=some o)(hb:Below w.heap.size w w'):w'.heap[g]?=some o:=(hb.block g (Array.getElem?_eq_some_iff.1 h).1).trans h
section
variable {w w':World}{base g:Nat}{S bd:Int}{A:Option Addr}{n c:Nat}{rods:List Int}{vb:Value}{st:List Int × Int}
theorem WS.lt (h:WS w base g S bd A n c rods vb st):g<w.heap.size:=(Array.getElem?_eq_some_iff.1 h.box).1
theorem WS.bw (h:WS w base g S bd A n c rods vb st):base<=w.heap.size:=Nat.le_trans h.hg (Nat.le_of_lt h.lt)
theorem WS.below (h:WS w base g S bd A n c rods vb st)(hb:Below w.heap.size w w'):WS w' base g S bd A n c rods vb st :=
 ⟨Jn h.box hb,h.best.below hb,h.rods.below (hb.mono h.bw),h.hg⟩
theorem Own.farW {α:Type}{cells:α→List Value}{e s base' m:Nat}{v:Value}{l:List α}{cs:Array Value}(h:Own cells e s w base' v m l)(hb:w.heap[g]?=some (.cells cs 233 (0,0)))(he:e≠233)(hg:w.grownBy w' (some g)):Own cells e s w' base' v m l :=
 h.kept hg (.inr (Z0 h hb he))
theorem WS.put (h:WS w base g S bd A n c rods vb st){vo:Value}{o:List Int}{y:Int}(ho:Own ZB 2 1 w base vo o.length o):WS ((w.setCell ⟨g,3,none⟩ vo).setCell ⟨g,4,none⟩ (.int .i64 y)) base g S bd A n c rods vo (o,y):=by
 have h1:=Zk h.box 3 vo;have h2:=Zk h1 4 (.int .i64 y);have g1:=Zl w g 3 vo;have g2:=Zl (w.setCell ⟨g,3,none⟩ vo) g 4 (.int .i64 y);have k1:=ho.farW h.box (by decide) g1;have k2:=k1.farW h1 (by decide) g2;exact⟨h2,k2.res,(h.rods.below (((Below.refl base w).setCell (p:=⟨g,3,none⟩) h.hg vo).setCell (p:=⟨g,4,none⟩) h.hg _)),h.hg⟩
end
def Apt (a b:Value):Prop:=∀q,a.ownBlock=some q→b.ownBlock≠some q
theorem Apt.symm {a b:Value}(h:Apt a b):Apt b a:=λq hq he=>h q he hq
theorem Apt.or {a b:Value}(h:Apt a b):a.ownBlock=none\/a.ownBlock≠b.ownBlock:=by
 cases ha:a.ownBlock with
 | none=>exact .inl rfl
 | some q=>exact .inr (λe=>h q ha e.symm)
theorem Apt.new {w w':World}{b b' m m':Nat}{u v:Value}{l l':List Int}(h:Own ZB 2 1 w b u m l)(h':Own ZB 2 1 w' b' v m' l')(hb:w.heap.size<=b'):Apt u v:=λq hq he=>by
 have h1:=(h.2.lt q hq).2;have h2:=(h'.2.lt q he).1;omega
theorem Apt.app {w:World}{b m:Nat}{u v v':Value}{l:List Int}{H:Nat}(h:Apt u v)(hu:Own ZB 2 1 w b u m l)(hat:v'.ownBlock=v.ownBlock\/v'.ownBlock=some H)(hH:w.heap.size<=H):Apt u v':=λq hq he=>by
 rcases hat with e|e
 ·exact h q hq (e ▸ he)
 ·have h1:=(hu.2.lt q hq).2
  rw[e] at he;injection he with he
  omega
structure W10 (wr:World)(u1:Value)(L1:List Int)(u2:Value)(L2:List Int)(u3:Value)(k:Int)(u4:Value)(x:Int)(E1 E2 E3 E4:Bool)(w:World):Prop where
 b:Below wr.heap.size wr w
 r1:E1=true→Own ZB 2 1 w wr.heap.size u1 L1.length L1
 r2:E2=true→Own ZB 2 1 w wr.heap.size u2 L2.length L2
 r3:E3=true→Own ZB 2 1 w wr.heap.size u3 1 [k]
 r4:E4=true→Own ZB 2 1 w wr.heap.size u4 1 [x]
 d12:E1=true→E2=true→Apt u1 u2
 d14:E1=true→E4=true→Apt u1 u4
 d23:E2=true→E3=true→Apt u2 u3
section
variable {wr w w':World}{u1 u2 u3 u4 v:Value}{L1 L2 l:List Int}{k x:Int}{E1 E2 E3 E4:Bool}
theorem W10.start:W10 wr u1 L1 u2 L2 u3 k u4 x false false false false wr.drew :=
 ⟨Zb (Below.refl _ _) 1,λe=>(by cases e),λe=>(by cases e),λe=>(by cases e),λe=>(by cases e),λe=>(by cases e),λe=>(by cases e),λe=>(by cases e)⟩
theorem W10.more (h:W10 wr u1 L1 u2 L2 u3 k u4 x E1 E2 E3 E4 w)(hb:Below w.heap.size w w'):W10 wr u1 L1 u2 L2 u3 k u4 x E1 E2 E3 E4 w' :=
 ⟨h.b.trans (hb.mono h.b.size),λe=>(h.r1 e).below hb,λe=>(h.r2 e).below hb,λe=>(h.r3 e).below hb,λe=>(h.r4 e).below hb,h.d12,h.d14,h.d23⟩
theorem W10.one (h:W10 wr u1 L1 u2 L2 u3 k u4 x E1 E2 E3 E4 w)(ho:Own ZB 2 1 w' w.heap.size v l.length l)(hb:Below w.heap.size w w'):W10 wr v l u2 L2 u3 k u4 x true E2 E3 E4 w':=by
 have m:=h.more hb;exact⟨m.b,λ_=>ho.less h.b.size,m.r2,m.r3,m.r4,λ_ e=>(Apt.new (h.r2 e) ho (Nat.le_refl _)).symm,λ_ e=>(Apt.new (h.r4 e) ho (Nat.le_refl _)).symm,m.d23⟩
theorem W10.two (h:W10 wr u1 L1 u2 L2 u3 k u4 x E1 E2 E3 E4 w)(ho:Own ZB 2 1 w' w.heap.size v l.length l)(hb:Below w.heap.size w w'):W10 wr u1 L1 v l u3 k u4 x E1 true E3 E4 w':=by
 have m:=h.more hb;exact⟨m.b,m.r1,λ_=>ho.less h.b.size,m.r3,m.r4,λe _=>Apt.new (h.r1 e) ho (Nat.le_refl _),m.d14,λ_ e=>(Apt.new (h.r3 e) ho (Nat.le_refl _)).symm⟩
theorem W10.three (h:W10 wr u1 L1 u2 L2 u3 k u4 x E1 E2 E3 E4 w):W10 wr u1 L1 u2 L2 (.slice (some ⟨w.heap.size,0,none⟩) 1 1) k u4 x E1 E2 true E4 (w.alloc (.cells #[.int .i64 k] 2)):=by
 have m:=h.more ((Below.refl w.heap.size w).alloc (Nat.le_refl _) (.cells #[.int .i64 k] 2));have ho:=Own.lit (cells:=ZB) (e:=2) (s:=1) w (Nat.le_refl w.heap.size) k #[.int .i64 k] rfl rfl;exact⟨m.b,m.r1,m.r2,λ_=>ho.less h.b.size,m.r4,m.d12,m.d14,λe _=>Apt.new (h.r2 e) ho (Nat.le_refl _)⟩
theorem W10.four (h:W10 wr u1 L1 u2 L2 u3 k u4 x E1 E2 E3 E4 w):W10 wr u1 L1 u2 L2 u3 k (.slice (some ⟨w.heap.size,0,none⟩) 1 1) x E1 E2 E3 true (w.alloc (.cells #[.int .i64 x] 2)):=by
 have m:=h.more ((Below.refl w.heap.size w).alloc (Nat.le_refl _) (.cells #[.int .i64 x] 2));have ho:=Own.lit (cells:=ZB) (e:=2) (s:=1) w (Nat.le_refl w.heap.size) x #[.int .i64 x] rfl rfl;exact⟨m.b,m.r1,m.r2,m.r3,λ_=>ho.less h.b.size,m.d12,λe _=>Apt.new (h.r1 e) ho (Nat.le_refl _),m.d23⟩
theorem W10.app1 {H:Nat}(h:W10 wr u1 L1 u2 L2 u3 k u4 x true E2 E3 E4 w)(ho:Own ZB 2 1 w' wr.heap.size v l.length l)(hg:w.grownBy w' u1.ownBlock)(hat:v.ownBlock=u1.ownBlock\/v.ownBlock=some H)(hH:w.heap.size<=H):W10 wr v l u2 L2 u3 k u4 x true E2 false E4 w' :=
 ⟨Zi h.b (h.r1 rfl) hg h.b.size,λ_=>ho,λe=>(h.r2 e).kept hg (h.d12 rfl e).symm.or,λe=>(by cases e),λe=>(h.r4 e).kept hg (h.d14 rfl e).symm.or,
  λ_ e=>((h.d12 rfl e).symm.app (h.r2 e) hat hH).symm,λ_ e=>((h.d14 rfl e).symm.app (h.r4 e) hat hH).symm,λ_ e=>(by cases e)⟩
theorem W10.app2 {H:Nat}(h:W10 wr u1 L1 u2 L2 u3 k u4 x E1 true E3 E4 w)(ho:Own ZB 2 1 w' wr.heap.size v l.length l)(hg:w.grownBy w' u2.ownBlock)(hat:v.ownBlock=u2.ownBlock\/v.ownBlock=some H)(hH:w.heap.size<=H):W10 wr u1 L1 v l u3 k u4 x E1 true E3 false w' :=
 ⟨Zi h.b (h.r2 rfl) hg h.b.size,λe=>(h.r1 e).kept hg (h.d12 e rfl).or,λ_=>ho,λe=>(h.r3 e).kept hg (h.d23 rfl e).symm.or,λe=>(by cases e),
  λe _=>(h.d12 e rfl).app (h.r1 e) hat hH,λ_ e=>(by cases e),λ_ e=>((h.d23 rfl e).symm.app (h.r3 e) hat hH).symm⟩
end
end Go.Proofs.YtfpaejlipaainaaGreatDoor
