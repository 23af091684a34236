/- Texts that belong together, joined: contracts and plain laws. No statement is proved here. -/
import Derived.Test.YtfpaejlipaainaaGreatDoorM25
import Derived.Laws.EntriesVeiled
set_option maxRecDepth 100000
set_option maxHeartbeats 4000000
namespace Go.Proofs.YtfpaejlipaainaaGreatDoor
open Go.ChangeShapes Go.WideShapes Go.ChangeAt Go.RowKit Go.Deep
theorem Zc {w:World}{O o:Obj}{k:Nat}(h:w.heap[k]?=some o):(w.alloc O).heap[k]?=some o:=((World.grownBy_alloc w O none).block k (Array.getElem?_eq_some_iff.1 h).1 (λe=>by cases e)).trans h
theorem ZA {w:World}{O:Obj}{k:Nat}(h:w.heap.size=k):(w.alloc O).heap[k]?=some O:=by subst h;exact heap_alloc_new w O
def NW (w1 w:World)(q:Nat)(a:Array Value)(t:TypeId):Prop:=w.heap[q]?=some (.cells a t (0,0))/\w1.heap.size<=q
section
variable {ws w1 w:World}{q n base:Nat}{a cu:Array Value}{t:TypeId}
theorem NW.lt (h:NW w1 w q a t):q<w.heap.size:=(Array.getElem?_eq_some_iff.1 h.1).1
theorem NW.alloc (h:NW w1 w q a t)(O:Obj):NW w1 (w.alloc O) q a t:=⟨((World.grownBy_alloc w O none).block q h.lt (λe=>by cases e)).trans h.1,h.2⟩
theorem NW.new (hf:w1.heap.size<=w.heap.size)(a:Array Value)(t:TypeId):NW w1 (w.alloc (.cells a t)) w.heap.size a t:=⟨heap_alloc_new w _,hf⟩
theorem NW.set {k:Nat}(h:NW w1 w q a t)(u:Value)(hne:q≠k):NW w1 (w.setCell ⟨k,0,none⟩ u) q a t:=⟨Zm h.1 hne,h.2⟩
theorem NW.put (h:NW w1 w q a t)(u:Value):NW w1 (w.setCell ⟨q,0,none⟩ u) q (a.setIfInBounds 0 u) t:=⟨Zk h.1 0 u,h.2⟩
theorem NW.ne {q':Nat}{a':Array Value}{t':TypeId}(h:NW w1 w q a t)(h':NW w1 w q' a' t')(hne:t≠t'):q≠q':=YR h.1 h'.1 hne
structure K2 (w1:World)(n:Nat)(cu:Array Value)(B0 B1 B4 B5 B6 B7 B8 B9 B10:Bool)(v15 v16 v19 v10 v11 v12:Value)(w:World):Prop where
 a0:B0=true→∃q,v15 = .slice (some ⟨q,0,none⟩) 0 0/\NW w1 w q #[] 2
 a1:B1=true→∃q,v16 = .slice (some ⟨q,0,none⟩) 0 0/\NW w1 w q #[] 2
 a4:B4=true→∃q,v19 = .slice (some ⟨q,0,none⟩) n n/\NW w1 w q cu 4
 a5:B5=true→∃q,v10 = .pointer (some ⟨q,0,none⟩)/\(B8=false→NW w1 w q #[.slice none 0 0] 60)/\(B8=true→NW w1 w q #[v15] 60)
 a6:B6=true→∃q,v11 = .pointer (some ⟨q,0,none⟩)/\(B9=false→NW w1 w q #[.slice none 0 0] 60)/\(B9=true→NW w1 w q #[v16] 60)
 a7:B7=true→∃q,v12 = .pointer (some ⟨q,0,none⟩)/\(B10=false→NW w1 w q #[.slice none 0 0] 240)/\(B10=true→NW w1 w q #[v19] 240)
 d01:B0=true→B1=true→v15≠v16
 d56:B5=true→B6=true→v10≠v11
 c8:B8=true→B5=true/\B0=true
 c9:B9=true→B6=true/\B1=true
 c10:B10=true→B7=true/\B4=true
 far:w1.heap.size<=w.heap.size
 b:Below w1.heap.size w1 w
variable {B0 B1 B4 B5 B6 B7 B8 B9 B10:Bool}{v15 v16 v19 v10 v11 v12:Value}
theorem Zke {p q n m c d:Nat}(h:p≠q):Value.slice (some ⟨p,0,none⟩) n c≠.slice (some ⟨q,0,none⟩) m d:=by
 intro e;injection e with e;injection e with e;injection e with e;exact h e
theorem Zkh {p q:Nat}(h:p≠q):Value.pointer (some ⟨p,0,none⟩)≠.pointer (some ⟨q,0,none⟩):=by
 intro e;injection e with e;injection e with e;injection e with e;exact h e
theorem K2.start (w:World)(v15 v16 v19 v10 v11 v12:Value):K2 w n cu false false false false false false false false false v15 v16 v19 v10 v11 v12 w.drew :=
 ⟨λe=>(by cases e),λe=>(by cases e),λe=>(by cases e),λe=>(by cases e),λe=>(by cases e),λe=>(by cases e),λe=>(by cases e),λe=>(by cases e),λe=>(by cases e),λe=>(by cases e),λe=>(by cases e),(Zb (Below.refl w.heap.size w) 1).size,Zb (Below.refl _ _) 1⟩
theorem K2.n0 (h:K2 w1 n cu B0 B1 B4 B5 B6 B7 B8 B9 B10 v15  v16  v19  v10  v11  v12 w)(hb:B0=false):K2 w1 n cu true B1 B4 B5 B6 B7 B8 B9 B10 (.slice (some ⟨w.heap.size,0,none⟩) 0 0)  v16  v19  v10  v11  v12 (w.alloc (.cells #[] 2)):=by
 have hd:B8=false:=by cases hx:B8;rfl;(have:=(h.c8 hx).2;rw[hb] at this;cases this)
 exact⟨λ_=>⟨_,rfl,NW.new h.far _ _⟩,λe=>(let ⟨q,h1,h2⟩:=h.a1 e;⟨q,h1,h2.alloc _⟩),λe=>(let ⟨q,h1,h2⟩:=h.a4 e;⟨q,h1,h2.alloc _⟩),λe=>(let ⟨q,h1,h2,h3⟩:=h.a5 e;⟨q,h1,λf=>(h2 f).alloc _,λf=>(by rw[hd] at f;cases f)⟩),λe=>(let ⟨q,h1,h2,h3⟩:=h.a6 e;⟨q,h1,λf=>(h2 f).alloc _,λf=>(h3 f).alloc _⟩),λe=>(let ⟨q,h1,h2,h3⟩:=h.a7 e;⟨q,h1,λf=>(h2 f).alloc _,λf=>(h3 f).alloc _⟩),λ_ e=>(by obtain⟨q,rfl,h2⟩:=h.a1 e;have:=h2.lt;exact Zke (by omega)),h.d56,λf=>(by rw[hd] at f;cases f),h.c9,h.c10,Nat.le_trans h.far (by simp),h.b.alloc h.far _⟩
theorem K2.n1 (h:K2 w1 n cu B0 B1 B4 B5 B6 B7 B8 B9 B10 v15  v16  v19  v10  v11  v12 w)(hb:B1=false):K2 w1 n cu B0 true B4 B5 B6 B7 B8 B9 B10 v15  (.slice (some ⟨w.heap.size,0,none⟩) 0 0)  v19  v10  v11  v12 (w.alloc (.cells #[] 2)):=by
 have hd:B9=false:=by cases hx:B9;rfl;(have:=(h.c9 hx).2;rw[hb] at this;cases this)
 exact⟨λe=>(let ⟨q,h1,h2⟩:=h.a0 e;⟨q,h1,h2.alloc _⟩),λ_=>⟨_,rfl,NW.new h.far _ _⟩,λe=>(let ⟨q,h1,h2⟩:=h.a4 e;⟨q,h1,h2.alloc _⟩),λe=>(let ⟨q,h1,h2,h3⟩:=h.a5 e;⟨q,h1,λf=>(h2 f).alloc _,λf=>(h3 f).alloc _⟩),λe=>(let ⟨q,h1,h2,h3⟩:=h.a6 e;⟨q,h1,λf=>(h2 f).alloc _,λf=>(by rw[hd] at f;cases f)⟩),λe=>(let ⟨q,h1,h2,h3⟩:=h.a7 e;⟨q,h1,λf=>(h2 f).alloc _,λf=>(h3 f).alloc _⟩),λe _=>(by obtain⟨q,rfl,h2⟩:=h.a0 e;have:=h2.lt;exact Zke (by omega)),h.d56,h.c8,λf=>(by rw[hd] at f;cases f),h.c10,Nat.le_trans h.far (by simp),h.b.alloc h.far _⟩
theorem K2.n4 (h:K2 w1 n cu B0 B1 B4 B5 B6 B7 B8 B9 B10 v15  v16  v19  v10  v11  v12 w)(hb:B4=false):K2 w1 n cu B0 B1 true B5 B6 B7 B8 B9 B10 v15  v16  (.slice (some ⟨w.heap.size,0,none⟩) n n)  v10  v11  v12 (w.alloc (.cells cu 4)):=by
 have hd:B10=false:=by cases hx:B10;rfl;(have:=(h.c10 hx).2;rw[hb] at this;cases this)
 exact⟨λe=>(let ⟨q,h1,h2⟩:=h.a0 e;⟨q,h1,h2.alloc _⟩),λe=>(let ⟨q,h1,h2⟩:=h.a1 e;⟨q,h1,h2.alloc _⟩),λ_=>⟨_,rfl,NW.new h.far _ _⟩,λe=>(let ⟨q,h1,h2,h3⟩:=h.a5 e;⟨q,h1,λf=>(h2 f).alloc _,λf=>(h3 f).alloc _⟩),λe=>(let ⟨q,h1,h2,h3⟩:=h.a6 e;⟨q,h1,λf=>(h2 f).alloc _,λf=>(h3 f).alloc _⟩),λe=>(let ⟨q,h1,h2,h3⟩:=h.a7 e;⟨q,h1,λf=>(h2 f).alloc _,λf=>(by rw[hd] at f;cases f)⟩),h.d01,h.d56,h.c8,h.c9,λf=>(by rw[hd] at f;cases f),Nat.le_trans h.far (by simp),h.b.alloc h.far _⟩
theorem K2.n5 (h:K2 w1 n cu B0 B1 B4 B5 B6 B7 B8 B9 B10 v15  v16  v19  v10  v11  v12 w)(hb:B5=false):K2 w1 n cu B0 B1 B4 true B6 B7 B8 B9 B10 v15  v16  v19  (.pointer (some ⟨w.heap.size,0,none⟩))  v11  v12 (w.alloc (.cells #[.slice none 0 0] 60)):=by
 have hd:B8=false:=by cases hx:B8;rfl;(have:=(h.c8 hx).1;rw[hb] at this;cases this)
 exact⟨λe=>(let ⟨q,h1,h2⟩:=h.a0 e;⟨q,h1,h2.alloc _⟩),λe=>(let ⟨q,h1,h2⟩:=h.a1 e;⟨q,h1,h2.alloc _⟩),λe=>(let ⟨q,h1,h2⟩:=h.a4 e;⟨q,h1,h2.alloc _⟩),λ_=>⟨_,rfl,λ_=>NW.new h.far _ _,λf=>(by rw[hd] at f;cases f)⟩,λe=>(let ⟨q,h1,h2,h3⟩:=h.a6 e;⟨q,h1,λf=>(h2 f).alloc _,λf=>(h3 f).alloc _⟩),λe=>(let ⟨q,h1,h2,h3⟩:=h.a7 e;⟨q,h1,λf=>(h2 f).alloc _,λf=>(h3 f).alloc _⟩),h.d01,λ_ e=>(by obtain⟨q,rfl,h2,h3⟩:=h.a6 e;have hq:q<w.heap.size:=(by cases hx:B9;exact(h2 hx).lt;exact(h3 hx).lt);exact Zkh (by omega)),λf=>(by rw[hd] at f;cases f),h.c9,h.c10,Nat.le_trans h.far (by simp),h.b.alloc h.far _⟩
theorem K2.n6 (h:K2 w1 n cu B0 B1 B4 B5 B6 B7 B8 B9 B10 v15  v16  v19  v10  v11  v12 w)(hb:B6=false):K2 w1 n cu B0 B1 B4 B5 true B7 B8 B9 B10 v15  v16  v19  v10  (.pointer (some ⟨w.heap.size,0,none⟩))  v12 (w.alloc (.cells #[.slice none 0 0] 60)):=by
 have hd:B9=false:=by cases hx:B9;rfl;(have:=(h.c9 hx).1;rw[hb] at this;cases this)
 exact⟨λe=>(let ⟨q,h1,h2⟩:=h.a0 e;⟨q,h1,h2.alloc _⟩),λe=>(let ⟨q,h1,h2⟩:=h.a1 e;⟨q,h1,h2.alloc _⟩),λe=>(let ⟨q,h1,h2⟩:=h.a4 e;⟨q,h1,h2.alloc _⟩),λe=>(let ⟨q,h1,h2,h3⟩:=h.a5 e;⟨q,h1,λf=>(h2 f).alloc _,λf=>(h3 f).alloc _⟩),λ_=>⟨_,rfl,λ_=>NW.new h.far _ _,λf=>(by rw[hd] at f;cases f)⟩,λe=>(let ⟨q,h1,h2,h3⟩:=h.a7 e;⟨q,h1,λf=>(h2 f).alloc _,λf=>(h3 f).alloc _⟩),h.d01,λe _=>(by obtain⟨q,rfl,h2,h3⟩:=h.a5 e;have hq:q<w.heap.size:=(by cases hx:B8;exact(h2 hx).lt;exact(h3 hx).lt);exact Zkh (by omega)),h.c8,λf=>(by rw[hd] at f;cases f),h.c10,Nat.le_trans h.far (by simp),h.b.alloc h.far _⟩
theorem K2.n7 (h:K2 w1 n cu B0 B1 B4 B5 B6 B7 B8 B9 B10 v15  v16  v19  v10  v11  v12 w)(hb:B7=false):K2 w1 n cu B0 B1 B4 B5 B6 true B8 B9 B10 v15  v16  v19  v10  v11  (.pointer (some ⟨w.heap.size,0,none⟩)) (w.alloc (.cells #[.slice none 0 0] 240)):=by
 have hd:B10=false:=by cases hx:B10;rfl;(have:=(h.c10 hx).1;rw[hb] at this;cases this)
 exact⟨λe=>(let ⟨q,h1,h2⟩:=h.a0 e;⟨q,h1,h2.alloc _⟩),λe=>(let ⟨q,h1,h2⟩:=h.a1 e;⟨q,h1,h2.alloc _⟩),λe=>(let ⟨q,h1,h2⟩:=h.a4 e;⟨q,h1,h2.alloc _⟩),λe=>(let ⟨q,h1,h2,h3⟩:=h.a5 e;⟨q,h1,λf=>(h2 f).alloc _,λf=>(h3 f).alloc _⟩),λe=>(let ⟨q,h1,h2,h3⟩:=h.a6 e;⟨q,h1,λf=>(h2 f).alloc _,λf=>(h3 f).alloc _⟩),λ_=>⟨_,rfl,λ_=>NW.new h.far _ _,λf=>(by rw[hd] at f;cases f)⟩,h.d01,h.d56,h.c8,h.c9,λf=>(by rw[hd] at f;cases f),Nat.le_trans h.far (by simp),h.b.alloc h.far _⟩
theorem K2.s8 {p:Nat}(h:K2 w1 n cu B0 B1 B4 B5 B6 B7 B8 B9 B10 v15  v16  v19  v10  v11  v12 w)(hb:B8=false)(hp:B5=true)(hv:B0=true)(he:v10 = .pointer (some ⟨p,0,none⟩)):NW w1 w p #[.slice none 0 0] 60/\K2 w1 n cu B0 B1 B4 B5 B6 B7 true B9 B10 v15  v16  v19  v10  v11  v12 (w.setCell ⟨p,0,none⟩ v15):=by
 obtain⟨p',h1,h2,_⟩:=h.a5 hp;have hpe:p'=p:=by rw[h1] at he;injection he with he;injection he with he;injection he with he
 subst hpe;have hc:=h2 hb;exact⟨hc,⟨λe=>(let ⟨q,g1,g2⟩:=h.a0 e;⟨q,g1,g2.set _ (g2.ne hc (by decide))⟩),λe=>(let ⟨q,g1,g2⟩:=h.a1 e;⟨q,g1,g2.set _ (g2.ne hc (by decide))⟩),λe=>(let ⟨q,g1,g2⟩:=h.a4 e;⟨q,g1,g2.set _ (g2.ne hc (by decide))⟩),λ_=>⟨_,h1,λf=>(by cases f),λ_=>hc.put _⟩,λe=>(let ⟨q,g1,g2,g3⟩:=h.a6 e;⟨q,g1,λf=>(g2 f).set _ (λe2=>(by subst e2;exact h.d56 hp e (h1.trans g1.symm))),λf=>(g3 f).set _ (λe2=>(by subst e2;exact h.d56 hp e (h1.trans g1.symm)))⟩),λe=>(let ⟨q,g1,g2,g3⟩:=h.a7 e;⟨q,g1,λf=>(g2 f).set _ ((g2 f).ne hc (by decide)),λf=>(g3 f).set _ ((g3 f).ne hc (by decide))⟩),h.d01,h.d56,λ_=>⟨hp,hv⟩,h.c9,h.c10,(by simpa using h.far),h.b.setCell (p:=⟨_,0,none⟩) hc.2 _⟩⟩
theorem K2.s9 {p:Nat}(h:K2 w1 n cu B0 B1 B4 B5 B6 B7 B8 B9 B10 v15  v16  v19  v10  v11  v12 w)(hb:B9=false)(hp:B6=true)(hv:B1=true)(he:v11 = .pointer (some ⟨p,0,none⟩)):NW w1 w p #[.slice none 0 0] 60/\K2 w1 n cu B0 B1 B4 B5 B6 B7 B8 true B10 v15  v16  v19  v10  v11  v12 (w.setCell ⟨p,0,none⟩ v16):=by
 obtain⟨p',h1,h2,_⟩:=h.a6 hp;have hpe:p'=p:=by rw[h1] at he;injection he with he;injection he with he;injection he with he
 subst hpe;have hc:=h2 hb;exact⟨hc,⟨λe=>(let ⟨q,g1,g2⟩:=h.a0 e;⟨q,g1,g2.set _ (g2.ne hc (by decide))⟩),λe=>(let ⟨q,g1,g2⟩:=h.a1 e;⟨q,g1,g2.set _ (g2.ne hc (by decide))⟩),λe=>(let ⟨q,g1,g2⟩:=h.a4 e;⟨q,g1,g2.set _ (g2.ne hc (by decide))⟩),λe=>(let ⟨q,g1,g2,g3⟩:=h.a5 e;⟨q,g1,λf=>(g2 f).set _ (λe2=>(by subst e2;exact h.d56 e hp (g1.trans h1.symm))),λf=>(g3 f).set _ (λe2=>(by subst e2;exact h.d56 e hp (g1.trans h1.symm)))⟩),λ_=>⟨_,h1,λf=>(by cases f),λ_=>hc.put _⟩,λe=>(let ⟨q,g1,g2,g3⟩:=h.a7 e;⟨q,g1,λf=>(g2 f).set _ ((g2 f).ne hc (by decide)),λf=>(g3 f).set _ ((g3 f).ne hc (by decide))⟩),h.d01,h.d56,h.c8,λ_=>⟨hp,hv⟩,h.c10,(by simpa using h.far),h.b.setCell (p:=⟨_,0,none⟩) hc.2 _⟩⟩
theorem K2.s10 {p:Nat}(h:K2 w1 n cu B0 B1 B4 B5 B6 B7 B8 B9 B10 v15  v16  v19  v10  v11  v12 w)(hb:B10=false)(hp:B7=true)(hv:B4=true)(he:v12 = .pointer (some ⟨p,0,none⟩)):NW w1 w p #[.slice none 0 0] 240/\K2 w1 n cu B0 B1 B4 B5 B6 B7 B8 B9 true v15  v16  v19  v10  v11  v12 (w.setCell ⟨p,0,none⟩ v19):=by
 obtain⟨p',h1,h2,_⟩:=h.a7 hp;have hpe:p'=p:=by rw[h1] at he;injection he with he;injection he with he;injection he with he
 subst hpe;have hc:=h2 hb;exact⟨hc,⟨λe=>(let ⟨q,g1,g2⟩:=h.a0 e;⟨q,g1,g2.set _ (g2.ne hc (by decide))⟩),λe=>(let ⟨q,g1,g2⟩:=h.a1 e;⟨q,g1,g2.set _ (g2.ne hc (by decide))⟩),λe=>(let ⟨q,g1,g2⟩:=h.a4 e;⟨q,g1,g2.set _ (g2.ne hc (by decide))⟩),λe=>(let ⟨q,g1,g2,g3⟩:=h.a5 e;⟨q,g1,λf=>(g2 f).set _ ((g2 f).ne hc (by decide)),λf=>(g3 f).set _ ((g3 f).ne hc (by decide))⟩),λe=>(let ⟨q,g1,g2,g3⟩:=h.a6 e;⟨q,g1,λf=>(g2 f).set _ ((g2 f).ne hc (by decide)),λf=>(g3 f).set _ ((g3 f).ne hc (by decide))⟩),λ_=>⟨_,h1,λf=>(by cases f),λ_=>hc.put _⟩,h.d01,h.d56,h.c8,h.c9,λ_=>⟨hp,hv⟩,(by simpa using h.far),h.b.setCell (p:=⟨_,0,none⟩) hc.2 _⟩⟩
end
theorem Zfa:(Tryz.prog.info? 4).map (λi=>(i.zero,i.size,i.bytes))=some (some (.bool false),1,1):=by kernel_rfl
theorem ZiX {w w1 wx:World}{S bd:Int}{A:Option Addr}{n c:Nat}{rods:List Int}{q0 q1 q4 q5 q6 q7:Nat}{cu:Array Value}(vf:Value)(hs1:w1.heap.size=w.heap.size+6)(hBw:Below w.heap.size w w1)
  (r0:w1.heap[w.heap.size]?=some (.cells #[.int .i64 S] 2 (0,0))) (r1:w1.heap[w.heap.size+1]?=some (.cells #[.slice A n c] 60 (0,0))) (r2:w1.heap[w.heap.size+1+1]?=some (.cells #[.int .i64 bd] 2 (0,0)))
  (r3:w1.heap[w.heap.size+1+1+1]?=some (.cells #[] 2 (0,0))) (r4:w1.heap[w.heap.size+1+1+1+1]?=some (.cells #[.slice (some ⟨w.heap.size+1+1+1,0,none⟩) 0 0] 60 (0,0))) (r5:w1.heap[w.heap.size+1+1+1+1+1]?=some (.cells #[.int .i64 (-1)] 2 (0,0)))
  (hb:Below w1.heap.size w1 wx) (m0:NW w1 wx q0 #[] 2) (m1:NW w1 wx q1 #[] 2) (m4:NW w1 wx q4 cu 4) (m5:NW w1 wx q5 #[.slice (some ⟨q0,0,none⟩) 0 0] 60) (m6:NW w1 wx q6 #[.slice (some ⟨q1,0,none⟩) 0 0] 60) (m7:NW w1 wx q7 #[.slice (some ⟨q4,0,none⟩) n n] 240)
  (d01:q0≠q1) (d56:q5≠q6) (hr:Arr ZB 1 w w.heap.size A n rods) (hcl:cu.toList=(List.replicate n false).flatMap U3) (hn7:n<=7) :
  JS (wx.alloc (.cells #[vf] 1)) w.heap.size (w.heap.size+1+1+1+1+1) w.heap.size q6 (w.heap.size+1+1) q5 (w.heap.size+1) (w.heap.size+1+1+1+1) q7 wx.heap.size S bd A n c rods vf (.slice (some ⟨q0,0,none⟩) 0 0) (.slice (some ⟨q1,0,none⟩) 0 0) (.slice (some ⟨w.heap.size+1+1+1,0,none⟩) 0 0) q4 [] ([],-1):=by
 have up:∀{k:Nat} {o:Obj},w1.heap[k]?=some o→(wx.alloc (.cells #[vf] 1)).heap[k]?=some o:=λh=>Zc ((hb.block _ (Array.getElem?_eq_some_iff.1 h).1).trans h)
 have g0:=m0.2;have g1:=m1.2;have g4:=m4.2;have g5:=m5.2;have g6:=m6.2;have g7:=m7.2;have hsz:=hb.size;have hu:Wh n []=List.replicate n false:=by
  unfold Wh;rw[List.eq_replicate_iff];exact⟨by simp,λb hb=>by obtain⟨k,_,rfl⟩:=List.mem_map.1 hb;simp⟩
 have hcs:cu.size=n*1:=by rw[←Array.length_toList,hcl,Yb Wf,List.length_replicate]
 have ow:∀{W:World} {g:Nat},w.heap.size<=g→W.heap[g]?=some (.cells #[] 2 (0,0))→Own ZB 2 1 W w.heap.size (.slice (some ⟨g,0,none⟩) 0 0) 0 []:=λhle h=>⟨rfl,rfl,.inr ⟨_,0,_,rfl,hle,h,Nat.le_refl _,by decide,rfl,rfl⟩⟩
 refine⟨⟨up r5,up r0,Zc m6.1,up r2,Zc m5.1,up r1,up r4,Zc m7.1,heap_alloc_new wx _,?_,?_⟩,⟨ow (by omega) (Zc m0.1),ow (by omega) (Zc m1.1),ow (by omega) (up r3),?_,?_,?_⟩,?_,?_,?_,?_,?_,by simp;omega⟩
 ·exact⟨by omega,by omega,λe=>d56 e.symm,by omega,by omega,by omega,by omega,by omega⟩
 ·exact⟨by omega,by omega,by omega,by omega,by omega,by omega,by omega,by omega,by omega⟩
 ·intro g h1 h2;cases h1;cases h2;exact d01 rfl
 ·intro g h1 h2;have e1:=Option.some.inj (show some q0=some g from h1);have e2:=Option.some.inj (show some (w.heap.size+1+1+1)=some g from h2);omega
 ·intro g h1 h2;have e1:=Option.some.inj (show some q1=some g from h1);have e2:=Option.some.inj (show some (w.heap.size+1+1+1)=some g from h2);omega
 ·rw[hu]
  exact⟨by simp,by rw[Yb Wf];simp,.inr ⟨q4,n,cu,rfl,by omega,Zc m4.1,Nat.le_refl _,by unfold maxLen;omega,hcs,by rw[hcl,List.take_of_length_le (by rw[Yb Wf];simp)]⟩⟩
 ·exact hr.below (hBw.trans ((hb.mono (by omega)).trans ((Below.refl _ _).alloc (by omega) _)))
 ·refine⟨λe=>?_,λe=>?_,λe=>?_⟩<;>(have h3:=Option.some.inj (show some q0=some _ from e);omega)
 ·refine⟨λe=>?_,λe=>?_,λe=>?_⟩<;>(have h3:=Option.some.inj (show some q1=some _ from e);omega)
 ·refine⟨λe=>?_,λe=>?_,λe=>?_⟩<;>(have h3:=Option.some.inj (show some (w.heap.size+1+1+1)=some _ from e);omega)
theorem Q3 (S bd:Int)(A:Option Addr)(n c:Nat)(rods:List Int)(w:World)(hS:3<=S/\S<=60)(hR:RB7 rods)(hn:rods.length=n)(hr:Arr ZB 1 w w.heap.size A n rods) :
  Calls Tryz.prog 189 #[.int .i64 S,.slice A n c,.int .i64 bd] w λe w'=>∃v,e = .returned (.tuple #[v,.int .i64 (mOrd S bd rods).2])/\Own ZB 2 1 w' w.heap.size v (mOrd S bd rods).1.length (mOrd S bd rods).1/\Below w.heap.size w w':=by
 have hn7:n<=7:=by rw[←hn];exact hR.1
 have hRh:=Za hR;have hnh:=Za hn;have hrh:=Za hr;clear hR hn hr;go_enter Tryz.func189,Tryz.ntmps189;go_upto_region 2 with fail
 obtain⟨w1,hw1⟩:∃w1,w1=((((((w.alloc (Obj.cells #[Value.int IntKind.i64 S] 2)).alloc (Obj.cells #[Value.slice A n c] 60)).alloc (Obj.cells #[Value.int IntKind.i64 bd] 2)).alloc (Obj.cells #[] 2)).alloc (Obj.cells #[Value.slice (some { block:=w.heap.size+1+1+1,off:=0 }) 0 0] 60)).alloc (Obj.cells #[Value.int IntKind.i64 (-1)] 2)):=⟨_,rfl⟩;have hBw:Below w.heap.size w w1:=by rw[hw1];go_grown
 have hs1:w1.heap.size=w.heap.size+6:=by rw[hw1];simp
 have r0:w1.heap[w.heap.size]?=some (.cells #[.int .i64 S] 2 (0,0)):=by rw[hw1];exact Zc (Zc (Zc (Zc (Zc (ZA (by simp))))))
 have r1:w1.heap[w.heap.size+1]?=some (.cells #[.slice A n c] 60 (0,0)):=by rw[hw1];exact Zc (Zc (Zc (Zc (ZA (by simp)))))
 have r2:w1.heap[w.heap.size+1+1]?=some (.cells #[.int .i64 bd] 2 (0,0)):=by rw[hw1];exact Zc (Zc (Zc (ZA (by simp))))
 have r3:w1.heap[w.heap.size+1+1+1]?=some (.cells #[] 2 (0,0)):=by rw[hw1];exact Zc (Zc (ZA (by simp)))
 have r4:w1.heap[w.heap.size+1+1+1+1]?=some (.cells #[.slice (some ⟨w.heap.size+1+1+1,0,none⟩) 0 0] 60 (0,0)):=by rw[hw1];exact Zc (ZA (by simp))
 have r5:w1.heap[w.heap.size+1+1+1+1+1]?=some (.cells #[.int .i64 (-1)] 2 (0,0)):=by rw[hw1];exact ZA (by simp)
 obtain⟨i0,hi0,hz0,hz1,hz2⟩:=info_parts Zfa;have hmk:=λW=>Y8 (P:=Tryz.prog) 240 4 i0 _ Tryz.underlying240 hi0 hz0 .i64 .i64 n n (Nat.le_refl _) (by rw[hz2];omega) (by omega) W
 rw[hz1] at hmk;obtain⟨cu,hcu⟩:∃cu,cu=madeCells (Value.bool false).cells (n*1):=⟨_,rfl⟩;rw[←hcu] at hmk;have hcl:=Za (show cu.toList=(List.replicate n false).flatMap U3 by rw[hcu];exact WP Wf (by omega) #[.bool false] false rfl n);clear hcu;have hwh:=Za hw1;rw[←hw1];clear hw1;have c4:=(Yf r1).1;refine Xw (by kernel_rfl) (λl a wx=>∃(B0 B1 B2 B3 B4 B5 B6 B7 B8 B9 B10:Bool) (v10 v11 v12 v15 v16 v17 v18 v19:Value),l=#[B0,B1,B2,B3,B4,B5,B6,B7,B8,B9,B10]/\a={ tmps:=#[Value.int IntKind.i64 S,Value.slice A n c,Value.int IntKind.i64 bd,Value.pointer (some { block:=w.heap.size,off:=0 }),Value.pointer (some { block:=w.heap.size+1,off:=0 }),Value.pointer (some { block:=w.heap.size+1+1,off:=0 }),Value.slice none 0 0,Value.int IntKind.i64 0,Value.pointer (some { block:=w.heap.size+1+1+1+1,off:=0 }),Value.pointer (some { block:=w.heap.size+1+1+1+1+1,off:=0 }),v10,v11,v12,undef,Value.slice (some { block:=w.heap.size+1+1+1,off:=0 }) 0 0,v15,v16,v17,v18,v19,undef,undef,undef,undef,undef],defers:=[] }/\(B2=true→v17 = .slice A n c)/\(B3=true→v18 = .int .i64 (n:Int))/\K2 w1 n cu B0 B1 B4 B5 B6 B7 B8 B9 B10 v15 v16 v19 v10 v11 v12 wx) ?_ ?_ ?_
 ·exact⟨false,false,false,false,false,false,false,false,false,false,false,undef,undef,undef,undef,undef,undef,undef,undef,rfl,rfl,λe=>(by cases e),λe=>(by cases e),K2.start w1 _ _ _ _ _ _⟩
 ·rintro l a wx ⟨B0,B1,B2,B3,B4,B5,B6,B7,B8,B9,B10,v10,v11,v12,v15,v16,v17,v18,v19,rfl,rfl,f2,f3,hE⟩ i hi hl ha
  have hi11:i<11:=hi;have hEh:=Za hE;clear hE hi;rcases(by omega:i=0\/i=1\/i=2\/i=3\/i=4\/i=5\/i=6\/i=7\/i=8\/i=9\/i=10) with rfl|rfl|rfl|rfl|rfl|rfl|rfl|rfl|rfl|rfl|rfl
  ·have hb:B0=false:=hl
   clear hl;obtain rfl:=hb;clear ha;refine Zn rfl rfl λK hK=>?_
   go_simp
   refine hK _ _ ?_;exact⟨true,B1,B2,B3,B4,B5,B6,B7,B8,B9,B10,v10,v11,v12,_,v16,v17,v18,v19,rfl,rfl,f2,f3,hEh.out.n0 rfl⟩
  ·have hb:B1=false:=hl
   clear hl;obtain rfl:=hb;clear ha;refine Zn rfl rfl λK hK=>?_
   go_simp
   refine hK _ _ ?_;exact⟨B0,true,B2,B3,B4,B5,B6,B7,B8,B9,B10,v10,v11,v12,v15,_,v17,v18,v19,rfl,rfl,f2,f3,hEh.out.n1 rfl⟩
  ·have hb:B2=false:=hl
   clear hl;obtain rfl:=hb;clear ha;have c4x:=(hEh.out.b.cell (p:=⟨w.heap.size+1,0,none⟩) (by show w.heap.size+1<_;omega)).trans c4;refine Zn rfl rfl λK hK=>?_
   go_simp
   refine hK _ _ ?_;exact⟨B0,B1,true,B3,B4,B5,B6,B7,B8,B9,B10,v10,v11,v12,v15,v16,_,v18,v19,rfl,rfl,λ_=>rfl,f3,hEh.out⟩
  ·have hb:B3=false:=hl
   clear hl;obtain rfl:=hb;simp[Region.binds] at ha;obtain rfl:=f2 ha;refine Zn rfl rfl λK hK=>?_
   go_simp
   refine hK _ _ ?_;exact⟨B0,B1,B2,true,B4,B5,B6,B7,B8,B9,B10,v10,v11,v12,v15,v16,_,_,v19,rfl,rfl,f2,λ_=>rfl,hEh.out⟩
  ·have hb:B4=false:=hl
   clear hl;obtain rfl:=hb;simp[Region.binds] at ha;obtain rfl:=f3 ha;refine Zn rfl rfl λK hK=>?_
   go_simp
   refine hK _ _ ?_;exact⟨B0,B1,B2,B3,true,B5,B6,B7,B8,B9,B10,v10,v11,v12,v15,v16,v17,_,_,rfl,rfl,f2,f3,hEh.out.n4 rfl⟩
  ·have hb:B5=false:=hl
   clear hl;obtain rfl:=hb;clear ha;refine Zn rfl rfl λK hK=>?_
   go_simp
   refine hK _ _ ?_;exact⟨B0,B1,B2,B3,B4,true,B6,B7,B8,B9,B10,_,v11,v12,v15,v16,v17,v18,v19,rfl,rfl,f2,f3,hEh.out.n5 rfl⟩
  ·have hb:B6=false:=hl
   clear hl;obtain rfl:=hb;clear ha;refine Zn rfl rfl λK hK=>?_
   go_simp
   refine hK _ _ ?_;exact⟨B0,B1,B2,B3,B4,B5,true,B7,B8,B9,B10,v10,_,v12,v15,v16,v17,v18,v19,rfl,rfl,f2,f3,hEh.out.n6 rfl⟩
  ·have hb:B7=false:=hl
   clear hl;obtain rfl:=hb;clear ha;refine Zn rfl rfl λK hK=>?_
   go_simp
   refine hK _ _ ?_;exact⟨B0,B1,B2,B3,B4,B5,B6,true,B8,B9,B10,v10,v11,_,v15,v16,v17,v18,v19,rfl,rfl,f2,f3,hEh.out.n7 rfl⟩
  ·have hb:B8=false:=hl
   clear hl;obtain rfl:=hb;simp[Region.binds] at ha;have hp:=ha.1;have hv:=ha.2.1;clear ha;obtain⟨p,rfl,_,_⟩:=hEh.out.a5 hp;obtain⟨q,rfl,_⟩:=hEh.out.a0 hv;have hs:=Za (hEh.out.s8 rfl hp hv rfl);obtain⟨cz,fz⟩:=Yf hs.out.1.1;have fz0:=fz 0;clear fz;refine Zn rfl rfl λK hK=>?_
   go_simp
   refine hK _ _ ?_;exact⟨B0,B1,B2,B3,B4,B5,B6,B7,true,B9,B10,_,v11,v12,_,v16,_,_,v19,rfl,rfl,(by first|exact f2|exact λ_=>rfl),(by first|exact f3|exact λ_=>rfl),hs.out.2⟩
  ·have hb:B9=false:=hl
   clear hl;obtain rfl:=hb;simp[Region.binds] at ha;have hp:=ha.1;have hv:=ha.2.1;clear ha;obtain⟨p,rfl,_,_⟩:=hEh.out.a6 hp;obtain⟨q,rfl,_⟩:=hEh.out.a1 hv;have hs:=Za (hEh.out.s9 rfl hp hv rfl);obtain⟨cz,fz⟩:=Yf hs.out.1.1;have fz0:=fz 0;clear fz;refine Zn rfl rfl λK hK=>?_
   go_simp
   refine hK _ _ ?_;exact⟨B0,B1,B2,B3,B4,B5,B6,B7,B8,true,B10,v10,_,v12,v15,_,_,_,v19,rfl,rfl,(by first|exact f2|exact λ_=>rfl),(by first|exact f3|exact λ_=>rfl),hs.out.2⟩
  ·have hb:B10=false:=hl
   clear hl;obtain rfl:=hb;simp[Region.binds] at ha;have hp:=ha.1;have hv:=ha.2.1;clear ha;obtain⟨p,rfl,_,_⟩:=hEh.out.a7 hp;obtain⟨q,rfl,_⟩:=hEh.out.a4 hv;have hs:=Za (hEh.out.s10 rfl hp hv rfl);obtain⟨cz,fz⟩:=Yf hs.out.1.1;have fz0:=fz 0;clear fz;refine Zn rfl rfl λK hK=>?_
   go_simp
   refine hK _ _ ?_;exact⟨B0,B1,B2,B3,B4,B5,B6,B7,B8,B9,true,v10,v11,_,v15,v16,_,_,_,rfl,rfl,(by first|exact f2|exact λ_=>rfl),(by first|exact f3|exact λ_=>rfl),hs.out.2⟩
 ·rintro l a wx ⟨B0,B1,B2,B3,B4,B5,B6,B7,B8,B9,B10,v10,v11,v12,v15,v16,v17,v18,v19,rfl,rfl,f2,f3,hE⟩ hr
  have h10:=Yl (by kernel_rfl) rfl hr 11 10 (by decide) (by decide);have h9:=Yl (by kernel_rfl) rfl hr 11 9 (by decide) (by decide);have h8:=Yl (by kernel_rfl) rfl hr 11 8 (by decide) (by decide);change B10=true at h10;change B9=true at h9;change B8=true at h8;obtain⟨h5,h0⟩:=hE.c8 h8;obtain⟨h6,h1⟩:=hE.c9 h9;obtain⟨h7,h4⟩:=hE.c10 h10;obtain⟨q5,rfl,_,n5⟩:=hE.a5 h5;obtain⟨q6,rfl,_,n6⟩:=hE.a6 h6;obtain⟨q7,rfl,_,n7⟩:=hE.a7 h7;obtain⟨q0,rfl,n0⟩:=hE.a0 h0;obtain⟨q1,rfl,n1⟩:=hE.a1 h1;obtain⟨q4,rfl,n4⟩:=hE.a4 h4;have d01:=hE.d01 h0 h1;have d56:=hE.d56 h5 h6;have hEb:=Za hE.b;have m5:=Za (n5 h8);have m6:=Za (n6 h9);have m7:=Za (n7 h10);have m0:=Za n0;have m1:=Za n1;have m4:=Za n4;clear n0 n1 n4 n5 n6 n7 hE hr f2 f3 h0 h1 h4 h5 h6 h7 h8 h9 h10 hmk c4;obtain⟨x1,x2⟩:=Yf (heap_alloc_new wx (.cells #[Value.nilFunc] 1));have x3:=x2 0;clear x2;have hJ0:=ZiX (.func (.func 240) #[] #[Value.pointer (some { block:=w.heap.size+1+1+1+1+1,off:=0 }),Value.pointer (some { block:=w.heap.size,off:=0 }),Value.pointer (some { block:=q6,off:=0 }),Value.pointer (some { block:=w.heap.size+1+1,off:=0 }),Value.pointer (some { block:=q5,off:=0 }),Value.pointer (some { block:=w.heap.size+1,off:=0 }),Value.pointer (some { block:=w.heap.size+1+1+1+1,off:=0 }),Value.pointer (some { block:=q7,off:=0 }),Value.pointer (some { block:=wx.heap.size,off:=0 })]) hs1 hBw r0 r1 r2 r3 r4 r5 hEb.out m0.out m1.out m4.out m5.out m6.out m7.out (λe=>d01 (by rw[e])) (λe=>d56 (by rw[e])) hrh.out hcl.out hn7 (S:=S) (bd:=bd);have hJ:=Za hJ0;have hB8:=Za (Wg hBw (by omega) (hEb.out.alloc hEb.out.size (.cells #[.func (.func 240) #[] #[Value.pointer (some { block:=w.heap.size+1+1+1+1+1,off:=0 }),Value.pointer (some { block:=w.heap.size,off:=0 }),Value.pointer (some { block:=q6,off:=0 }),Value.pointer (some { block:=w.heap.size+1+1,off:=0 }),Value.pointer (some { block:=q5,off:=0 }),Value.pointer (some { block:=w.heap.size+1,off:=0 }),Value.pointer (some { block:=w.heap.size+1+1+1+1,off:=0 }),Value.pointer (some { block:=q7,off:=0 }),Value.pointer (some { block:=wx.heap.size,off:=0 })]] 1)));clear hJ0 r0 r1 r2 r3 r4 r5 hBw hs1;go_wp2_with fail
  refine(ZgA _ _ _ _ _ _ _ _ _ _ S bd A n c rods _ _ hS hRh.out hnh.out rfl (n+1) [] ([],-1) _ _ _ _ (by simp) (by simp) (Nat.zero_le _) hJ.out).mono ?_;rintro e w5 ⟨rfl,vo,vl,vb,hj,hb⟩;have hJ5:=Za hj;have hB5:=Za (J7 hB8.out hb);have hm:Hid (plc S bd rods (n+1) [] ([],-1)=mOrd S bd rods):=Za (by unfold mOrd;rw[hnh.out]);clear hj hb;rw[hm.out] at hJ5;obtain⟨Ab,cb,hvb,_⟩:=hJ5.out.t.o2.slice;subst hvb;obtain⟨c0,c1,c2,c3,c4,c5,c6,c7,c8⟩:=hJ5.out.cells.1;clear hJ hB8 x1 x3 m0 m1 m4 m5 m6 m7 hEb d01 d56 c1 c2 c3 c4 c5 c7 c8;go_wp2_with fail
  go_quiet (fail)
  go_wp2_with fail
  go_ret2
  exact⟨_,rfl,hJ5.out.t.o2.below (Zb (Below.refl _ _) nq),Zb hB5.out nq⟩
theorem Zff (S b:Int)(A:Option Addr)(n c:Nat)(l:List Int)(w:World)(hn:n<=1048576)(hS:inB S 3 60=true)(hr:Arr ZB 1 w w.heap.size A n l) :
  Calls Tryz.prog 131 #[.int .i64 S,.slice A n c,.int .i64 b] w λe w'=>∃v,e = .returned (.tuple #[v,.int .i64 (ordC S b l)])/\Res ZB 2 1 w' w.heap.size v (ordL S b l).length (ordL S b l)/\Below w.heap.size w w':=by
 have hrh:=Za hr;have hSb:=Zj.1 hS;have hlen:=Za hr.len;have hLC:=Za (Zfi S b A n c l w hn hS hr);clear hr hS;cases h1:Y9 l
 ·have hC:Hid (ordC S b l=1):=Za (by unfold ordC;rw[h1];rfl)
  have hO:Hid (ordL S b l=[]):=Za (by unfold ordL;rw[hC.out];rfl);rw[h1] at hLC;go_enter Tryz.func131,Tryz.ntmps131;go_wp2_with fail
  refine hLC.out.mono ?_;rintro e w1 ⟨rfl,hb⟩;have hB:=Za hb;clear hb;go_wp2
  go_ret2
  exact⟨_,by rw[hC.out];rfl,by rw[hO.out];exact Res.empty (Nat.zero_le _),hB.out⟩
 ·cases h2:inB b 0 5
  ·have hC:Hid (ordC S b l=2):=Za (by unfold ordC;rw[h1,h2];rfl)
   have hO:Hid (ordL S b l=[]):=Za (by unfold ordL;rw[hC.out];rfl);rw[h1,h2] at hLC;go_enter Tryz.func131,Tryz.ntmps131;go_wp2_with fail
   refine hLC.out.mono ?_;rintro e w1 ⟨rfl,hb⟩;have hB:=Za hb;clear hb;go_wp2
   go_ret2
   exact⟨_,by rw[hC.out];rfl,by rw[hO.out];exact Res.empty (Nat.zero_le _),hB.out⟩
  ·rw[h1,h2] at hLC
   have hR:=Za (Qr h1);obtain⟨q,hq⟩:∃q,q=(mOrd S b l).2:=⟨_,rfl⟩;by_cases h3:0<q
   ·have hC:Hid (ordC S b l=3):=Za (by unfold ordC;rw[h1,h2,←hq,if_pos h3];rfl)
    have hO:Hid (ordL S b l=[]):=Za (by unfold ordL;rw[hC.out];rfl);have hQ:=Za hq;clear hq;go_enter Tryz.func131,Tryz.ntmps131;go_wp2_with fail
    refine hLC.out.mono ?_;rintro e w1 ⟨rfl,hb⟩;have hB:=Za hb;clear hb;go_wp2_with fail
    refine(Q3 S b A n c l _ hSb hR.out hlen.out (hrh.out.go hB.out)).mono ?_;rw[←hQ.out];rintro e w2 ⟨v,rfl,ho,hb⟩;have hB2:=Za (Below.up hB.out hb);clear ho hb;go_wp2
    go_ret2
    exact⟨_,by rw[hC.out];rfl,by rw[hO.out];exact Res.empty (Nat.zero_le _),hB2.out⟩
   ·have hC:Hid (ordC S b l=0):=Za (by unfold ordC;rw[h1,h2,←hq,if_neg h3];rfl)
    have hO:Hid (ordL S b l=(mOrd S b l).1):=Za (by unfold ordL;rw[hC.out,if_pos rfl]);have hQ:=Za hq;clear hq;go_enter Tryz.func131,Tryz.ntmps131;go_wp2_with fail
    refine hLC.out.mono ?_;rintro e w1 ⟨rfl,hb⟩;have hB:=Za hb;clear hb;go_wp2_with fail
    refine(Q3 S b A n c l _ hSb hR.out hlen.out (hrh.out.go hB.out)).mono ?_;rw[←hQ.out];rintro e w2 ⟨v,rfl,ho,hb⟩;have hB2:=Za (Below.up hB.out hb);have hO2:=Za (ho.less hB.out.size);clear ho hb;obtain⟨Av,cv,hv,_⟩:=hO2.out.slice;subst hv;go_wp2
    go_ret2
    exact⟨_,by rw[hC.out];rfl,by rw[hO.out];exact hO2.out.res,hB2.out⟩
end Go.Proofs.YtfpaejlipaainaaGreatDoor
