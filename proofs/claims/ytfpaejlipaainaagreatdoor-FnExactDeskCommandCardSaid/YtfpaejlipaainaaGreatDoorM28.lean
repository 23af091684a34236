/- Texts that belong together, joined: contracts and plain laws. No statement is proved here. -/
import Derived.Test.YtfpaejlipaainaaGreatDoorM27
set_option maxRecDepth 100000
set_option maxHeartbeats 4000000
namespace Go.Proofs.YtfpaejlipaainaaGreatDoor
open Go.ChangeShapes Go.WideShapes Go.ChangeAt Go.RowKit Go.Deep
section
open Go.Shelf
attribute [local go_sem] Oper.semAt_some
def kAt (N:List Int)(k:Nat):Kind:=⟨N.getD (2*k) 0,N.getD (2*k+1) 0⟩
def IRk (w:World)(N:List Int)(m:Nat)(sv:Value)(pre:List (Fin m))(W:World):Prop :=
 (∃v,W.heap[w.heap.size+1]?=some (.cells #[v] 26 (0,0))/\Own Kind.cells 103 2 W w.heap.size v pre.length (pre.map λi=>kAt N i.1)) /\
 W.heap[w.heap.size+1+1]?=some (.cells #[sv] 60 (0,0))/\W.heap[w.heap.size+1+1+1]?=some (.cells #[.int .i64 2] 3 (0,0))/\Below w.heap.size w W/\w.heap.size+4<=W.heap.size
theorem Zax {W W':World}{row:Option Nat}{k:Nat}{cs:Array Value}{t:TypeId}(h:W.heap[k]?=some (.cells cs t (0,0)))(hg:W.grownBy W' row)(hr:∀r,row=some r→∃o:Obj,W.heap[r]?=some o/\o.isCells=false):W'.heap[k]?=some (.cells cs t (0,0)):=by
 refine(hg.block k (Array.getElem?_eq_some_iff.1 h).1 ?_).trans h;intro e;obtain⟨o,ho,hc⟩:=hr k e.symm;rw[h] at ho;cases ho;cases hc
theorem QE {α:Type}{cells:α→List Value}{e s:Nat}{w:World}{base n g:Nat}{v:Value}{l:List α}(h:Own cells e s w base v n l)(hv:v.ownBlock=some g):∃o:Obj,w.heap[g]?=some o/\o.isCells=true:=by
 rcases h.2.2 with ⟨rfl,_⟩|⟨g',cap,cur,rfl,_,hh,_⟩
 ·simp[Value.ownBlock] at hv
 ·have e:g'=g:=by simpa[Value.ownBlock] using hv
  subst e;exact⟨_,hh,rfl⟩
theorem IRk.own {w:World}{N:List Int}{m:Nat}{sv:Value}:OwnFrom (w.heap.size+4) (IRk w N m sv):=by
 rintro s W W' row⟨⟨v,h1,h2⟩,h3,h4,h5,h6⟩ hg hr;have hr':∀r,row=some r→∃o:Obj,W.heap[r]?=some o/\o.isCells=false:=λr e=>(hr r e).2
 refine⟨⟨v,Zax h1 hg hr',h2.kept hg ?_⟩,Zax h3 hg hr',Zax h4 hg hr',h5.grown hg (by omega) (λr e=>by have:=(hr r e).1;omega),Nat.le_trans h6 hg.size⟩;cases hv:v.ownBlock with
 | none=>exact .inl rfl
 | some g =>
  right
  intro e;obtain⟨o,ho,hc⟩:=QE h2 hv;obtain⟨o',ho',hc'⟩:=hr' g e.symm;rw[ho] at ho';cases ho';rw[hc] at hc';cases hc'
theorem Zk0 {s:Sem Value}{P:Program}{w w':World}{r:String}{x:Array Value}:¬(do pure (Next.value (←s)):Sem Next).run P w = .ok (.row r x) w':=by
 intro h;rw[Sem.run_bind] at h;cases hs:s.run P w<;>(rw[hs] at h;cases h)
theorem Zk1 {s:Sem Unit}{P:Program}{w w':World}{r:String}{x:Array Value}:¬(do s;pure Next.skip:Sem Next).run P w = .ok (.row r x) w':=by
 intro h;rw[Sem.run_bind] at h;cases hs:s.run P w<;>(rw[hs] at h;cases h)
theorem Zk2 {v:Value}{P:Program}{w w':World}{r:String}{x:Array Value}:¬(pure (Next.value v):Sem Next).run P w = .ok (.row r x) w':=by
 intro h;cases h
theorem Zk3 {ρ:Operand→Value}{o:Oper}{P:Program}{w w':World}{r:String}{x:Array Value}(ho:∃so y t,o.op = .call { callee:=.builtin .append,args:=#[so,y],argTypes:=#[t,t] }):¬(execOp ρ o).run P w = .ok (.row r x) w':=by
 obtain⟨so,y,t,ho⟩:=ho;intro h;unfold execOp at h;simp only[ho,resolve,invoke,builtin,Sem.run_bind,Sem.run_pure,Result.andThen_ok,List.map_toArray,List.map_cons,List.map_nil] at h;cases hs:(Builtin.append_ #[t,t] o.type #[ρ so,ρ y]).run P w<;>(rw[hs] at h;cases h)
theorem ZgU:∀x,∀u∈Kind.cells x,u.oneCell'=true:=by
 intro x u hu;simp[Kind.cells] at hu;rcases hu with rfl|rfl<;>rfl
structure ER (w:World)(W:World)(v v22 v23:Value)(len:Nat)(L:List Kind)(y0 y1:Int)(B0 B3 B6 B7 B8 B9 B10:Bool)(wx:World):Prop where
 c8:B8=true→B3=true/\B6=true
 c7:B7=true→B3=true/\B6=true
 c90:B9=true→B0=true
 e0:B8=false→wx=W.drew
 e8:B8=true→B9=false→v22 = .slice (some ⟨W.heap.size,0,none⟩) 1 1/\wx=(W.alloc (.cells #[.int .i64 y0,.int .i64 y1] 103)).drew
 e9:B9=true→∃w5,Own Kind.cells 103 2 w5 w.heap.size v23 (len+1) (L++[⟨y0,y1⟩])/\W.grownBy w5 v.ownBlock/\wx=(if B10 then w5.setCell ⟨w.heap.size+1,0,none⟩ v23 else w5)
 c9:B9=true→B8=true
 c10:B10=true→B9=true
theorem Zfd (A:Option Addr)(n c:Nat)(l:List Int)(w:World)(hn:n<=1048576)(hnc:n<=c)(hc:c<=9223372036854775807)(hr:Arr ZB 1 w w.heap.size A n l) :
  Calls Tryz.prog 75 #[.slice A n c] w λe w'=>∃v,e = .returned (.tuple #[v,.int .i64 (kindsCd l)])/\Res Kind.cells 103 2 w' w.heap.size v (Yn l).length (Yn l)/\Below w.heap.size w w':=by
 have hlen:=Za hr.len;by_cases hev:n%2=0
 ·obtain⟨m,rfl⟩:∃m,n=2*m:=⟨n/2,by omega⟩
  have hrh:=Za hr;obtain⟨b,o,hAbo,hcs⟩:∃b o,(0<m→A=some ⟨b,o,none⟩/\b<w.heap.size)/\∀k,k<2*m→w.cell? ⟨b,o+k,none⟩=some (.int .i64 (l.getD k 0)):=by
   by_cases h0:0<m
   ·obtain⟨b,o,x,hA,hb,_,_⟩:=hr.int (k:=0) (by omega)
    refine⟨b,o,λ_=>⟨hA,hb⟩,λk hk=>?_⟩;obtain⟨b',o',x',hA',_,hx',hc'⟩:=hr.int hk;rw[hA] at hA';injection hA' with hA';injection hA' with h1 h2;subst h1 h2
    rw[List.getD_eq_getElem?_getD,hx'];exact hc'
   ·exact⟨0,0,λh=>absurd h h0,λk hk=>by omega⟩
  have hcsh:=Za hcs;have hAboh:=Za hAbo;clear hr hev hcs hAbo;refine(callsIn_wide (n:=6)).1 ?_;refine callsIn_of_wp_marks Tryz.func75 rfl trivial ?_ rfl;simp only[Tryz.ntmps75,List.size_toArray,List.length_cons,List.length_nil,Nat.reduceAdd,Nat.reduceSub,Array.replicate_succ,Array.replicate_zero,List.push_toArray,List.append_toArray,List.nil_append,List.cons_append];have hrem:(((2*m:Nat):Int)).tmod 2=0:=by rw[Int.tmod_eq_emod_of_nonneg (by omega)];omega
  gi_wp2
  refine⟨trivial,?_⟩;refine(callsIn_wide.2 (Zfm _ _ _ _)).mono ?_;rintro e w' ⟨rfl,rfl⟩
  gi_wp2
  obtain⟨W0,hW0⟩:∃W0,W0=((((w.alloc (Obj.cells #[] 103)).alloc (Obj.cells #[Value.slice (some { block:=w.heap.size,off:=0 }) 0 0] 26)).alloc (Obj.cells #[Value.slice A (2*m) c] 60)).alloc (Obj.cells #[Value.int IntKind.i64 2] 3)):=⟨_,rfl⟩;have hI0:IRk w l m (.slice A (2*m) c) [] W0:=by
   rw[hW0];refine⟨⟨_,Zc (Zc (ZA (by simp))),?_⟩,Zc (ZA (by simp)),ZA (by simp),by go_grown,by simp⟩;exact⟨rfl,rfl,.inr ⟨_,0,_,rfl,Nat.le_refl _,Zc (Zc (Zc (ZA rfl))),Nat.le_refl _,by decide,rfl,rfl⟩⟩
  have hs0:W0.heap.size=w.heap.size+4:=by rw[hW0];simp
  rw[←hW0];clear hW0;have hOwn:OwnFrom W0.heap.size (IRk w l m (.slice A (2*m) c)):=by rw[hs0];exact IRk.own
  refine wpIn_rangeFunc_ownF rfl (by omega) (gf:=182) (lb:=#[.pointer (some ⟨w.heap.size+1+1,0,none⟩),.pointer (some ⟨w.heap.size+1+1+1,0,none⟩)]) rfl trivial (enters_of Tryz.func182 (by kernel_rfl) rfl)
   (ZbS (6-1) (w.heap.size+1+1) (w.heap.size+1+1+1) w.heap.size b o m c (by omega) A (λh=>(hAboh.out h).1) hnc hc W0 (by omega) (by omega) hI0.2.1 hI0.2.2.1) (λh k=>h.trans k) (λW l o o' hl h hc hw=>KpC.put (by omega) (by omega) (by omega) W l o o' hl h hc hw) (Below.refl _ _) (λ_=>rfl)
   (IRk w l m (.slice A (2*m) c)) (λ_ _ _=>False) hOwn (λ_ _ _ _ _ hs _ _=>hs) hI0
   (λx=>{ tmps:=#[Value.slice A (2*m) c,undef,Value.slice none 0 0,Value.int IntKind.i64 0,Value.pointer (some { block:=w.heap.size+1,off:=0 }),Value.slice (some { block:=b,off:=o+2*x.1 }) 2 2,Value.slice A (2*m) c,Value.int IntKind.i64 (2*(m:Int)),Value.int IntKind.i64 0,Value.bool false,Value.slice (some { block:=w.heap.size,off:=0 }) 0 0,Value.slice A (2*m) c,Value.func (Fn.func 182) #[] #[Value.pointer (some { block:=w.heap.size+1+1,off:=0 }),Value.pointer (some { block:=w.heap.size+1+1+1,off:=0 })],Value.slice (some { block:=b,off:=o+2*x.1 }) 2 2,undef,undef,undef,undef,undef,undef,undef,undef,undef,undef,undef,undef,undef,undef],defers:=[] }) ?assign ?body ?done ?stop
  case assign =>
   intro l x W K hK
   gi_wp2
   exact hK
  case body =>
   rintro ll pre x W hI hpre;obtain⟨⟨v,h1,h2⟩,h3,h4,h5,h6⟩:=hI;have hx:=x.2;have hbl:=(hAboh.out (by omega)).2;have hO2:=Za h2;have hB5:=Za h5;have k1:=Za h1;have hvK:=Z0 h2 h1 (by decide);have ce0:=(h5.cell (p:=⟨b,o+2*x.1,none⟩) hbl).trans (hcsh.out (2*x.1) (by omega));have ce1:=(h5.cell (p:=⟨b,o+2*x.1+1,none⟩) hbl).trans (hcsh.out (2*x.1+1) (by omega));obtain⟨ck,fk⟩:=Yf h1;have fk0:=fk 0;have hfin:∀w5 v5,Own Kind.cells 103 2 w5 w.heap.size v5 (pre.length+1) ((pre.map λi=>kAt l i.1)++[⟨l.getD (2*x.1) 0,l.getD (2*x.1+1) 0⟩])→W.grownBy w5 v.ownBlock→KeepsOthers W (w5.setCell ⟨w.heap.size+1,0,none⟩ v5)/\KpC w.heap.size (w.heap.size+1+1) (w.heap.size+1+1+1) W (w5.setCell ⟨w.heap.size+1,0,none⟩ v5)/\IRk w l m (.slice A (2*m) c) (pre++[x]) (w5.setCell ⟨w.heap.size+1,0,none⟩ v5):=by
    intro w5 v5 ho5 hg5;have hb5:Below w.heap.size W w5:=(Below.refl _ _).grown hg5 (by omega) (λg e=>(h2.2.lt g e).1);have g1:∀{k:Nat} {cs:Array Value} {t:TypeId},W.heap[k]?=some (.cells cs t (0,0))→t≠103→w5.heap[k]?=some (.cells cs t (0,0)):=fun {k cs t} h ht=>(hg5.block k (Array.getElem?_eq_some_iff.1 h).1 (λe=>Z0 h2 h (Ne.symm ht) e.symm)).trans h
    have q1:=g1 h1 (by decide);have q3:=g1 h3 (by decide);have q4:=g1 h4 (by decide);have hset:=Zl w5 (w.heap.size+1) 0 v5;have s3:=(hset.block (w.heap.size+1+1) (Array.getElem?_eq_some_iff.1 q3).1 (λe=>by injection e with e;omega)).trans q3;have s4:=(hset.block (w.heap.size+1+1+1) (Array.getElem?_eq_some_iff.1 q4).1 (λe=>by injection e with e;omega)).trans q4;have hbs:Below w.heap.size W (w5.setCell ⟨w.heap.size+1,0,none⟩ v5):=hb5.setCell (p:=⟨w.heap.size+1,0,none⟩) (Nat.le_succ _) _;refine⟨?_,⟨hbs,s3.trans h3.symm,s4.trans h4.symm⟩,⟨v5,Zk q1 0 v5,?_⟩,s3,s4,h5.trans hbs,Nat.le_trans h6 (Nat.le_trans hg5.size hset.size)⟩
    ·exact(KeepsOthers.of_grownBy hg5 (λj o e h=>by obtain⟨o',ho',hc'⟩:=QE h2 e;rw[h] at ho';cases ho';exact hc')).trans (KeepsOthers.setCell _ _ _)
    ·rw[List.length_append,List.map_append]
     exact ho5.kept hset (.inr (Z0 ho5 q1 (by decide)))
   have hfinh:=Za hfin;clear hfin h1 h2 h3 h4 h5 fk
   gi_wp2
   refine Zgm (by kernel_rfl) ?_ ?_ ?_ ?_
   ·intro i o ho c e
    have hi:i<11:=(Array.getElem?_eq_some_iff.1 ho).1;rcases(by omega:i=0\/i=1\/i=2\/i=3\/i=4\/i=5\/i=6\/i=7\/i=8\/i=9\/i=10) with rfl|rfl|rfl|rfl|rfl|rfl|rfl|rfl|rfl|rfl|rfl<;>(have ho':=Option.some.inj (show some _=some o from ho);subst ho';cases e)
   ·intro i o ho ρ w r x w' h
    have hi:i<11:=(Array.getElem?_eq_some_iff.1 ho).1;rcases(by omega:i=0\/i=1\/i=2\/i=3\/i=4\/i=5\/i=6\/i=7\/i=8\/i=9\/i=10) with rfl|rfl|rfl|rfl|rfl|rfl|rfl|rfl|rfl|rfl|rfl<;>(have ho':=Option.some.inj (show some _=some o from ho);subst ho';first|exact Zk0 h|exact Zk1 h|exact Zk2 h|exact Zk3 ⟨_,_,_,rfl⟩ h|fail)
   ·rintro⟨_,_,h⟩;exact h
   ·refine Za1 (λlx a wx=>∃(B0 B1 B2 B3 B4 B5 B6 B7 B8 B9 B10:Bool) (v14 v15 v16 v17 v18 v19 v20 v21 v22 v23:Value),lx=#[B0,B1,B2,B3,B4,B5,B6,B7,B8,B9,B10]/\a={ tmps:=#[Value.slice A (2*m) c,undef,Value.slice none 0 0,Value.int IntKind.i64 0,Value.pointer (some { block:=w.heap.size+1,off:=0 }),Value.slice (some { block:=b,off:=o+2*x.1 }) 2 2,Value.slice A (2*m) c,Value.int IntKind.i64 (2*(m:Int)),Value.int IntKind.i64 0,Value.bool false,Value.slice (some { block:=w.heap.size,off:=0 }) 0 0,Value.slice A (2*m) c,Value.func (Fn.func 182) #[] #[Value.pointer (some { block:=w.heap.size+1+1,off:=0 }),Value.pointer (some { block:=w.heap.size+1+1+1,off:=0 })],Value.slice (some { block:=b,off:=o+2*x.1 }) 2 2,v14,v15,v16,v17,v18,v19,v20,v21,v22,v23,undef,undef,undef,undef],defers:=[] }/\(B0=true→v14=v)/\(B1=true→v15=Value.slice (some { block:=b,off:=o+2*x.1 }) 2 2)/\(B2=true→v16 = .pointer (some ⟨b,o+2*x.1,none⟩))/\(B3=true→v17 = .int .i64 (l.getD (2*x.1) 0))/\(B4=true→v18=Value.slice (some { block:=b,off:=o+2*x.1 }) 2 2)/\(B5=true→v19 = .pointer (some ⟨b,o+2*x.1+1,none⟩))/\(B6=true→v20 = .int .i64 (l.getD (2*x.1+1) 0))/\(B7=true→v21 = .agg #[.int .i64 (l.getD (2*x.1) 0),.int .i64 (l.getD (2*x.1+1) 0)])/\ER w W v v22 v23 pre.length (pre.map λi=>kAt l i.1) (l.getD (2*x.1) 0) (l.getD (2*x.1+1) 0) B0 B3 B6 B7 B8 B9 B10 wx) ?_ ?_ _ _ _ _ (UQ _ _) ?_
    ·rintro lx a wx ⟨B0,B1,B2,B3,B4,B5,B6,B7,B8,B9,B10,v14,v15,v16,v17,v18,v19,v20,v21,v22,v23,rfl,rfl,f0,f1,f2,f3,f4,f5,f6,f7,hE⟩ i hi hl ha
     have hi11:i<11:=hi;have hEh:=Za hE;clear hE hi;rcases(by omega:i=0\/i=1\/i=2\/i=3\/i=4\/i=5\/i=6\/i=7\/i=8\/i=9\/i=10) with rfl|rfl|rfl|rfl|rfl|rfl|rfl|rfl|rfl|rfl|rfl
     ·have hb:B0=false:=hl
      clear hl;obtain rfl:=hb;clear ha;have h9:B9=false:=by cases hB:B9;rfl;(have:=hEh.out.c90 hB;cases this)
      have ckx:wx.cell? ⟨w.heap.size+1,0,none⟩=some v:=by
       cases hB:B8
       ·rw[hEh.out.e0 hB];exact ck
       ·rw[(hEh.out.e8 hB h9).2];exact(((Zb ((Below.refl W.heap.size W).alloc (Nat.le_refl _) _) 1).cell (p:=⟨w.heap.size+1,0,none⟩) (by show w.heap.size+1<_;omega)).trans ck)
      refine Zn rfl rfl λK hK=>?_
      go_simp
      refine hK _ _ ?_;exact⟨true,B1,B2,B3,B4,B5,B6,B7,B8,B9,B10,_,_,_,_,_,_,_,_,_,_,rfl,rfl,(by first|exact f0|exact λ_=>rfl|fail),(by first|exact f1|exact λ_=>rfl|fail),(by first|exact f2|exact λ_=>rfl|fail),(by first|exact f3|exact λ_=>rfl|fail),(by first|exact f4|exact λ_=>rfl|fail),(by first|exact f5|exact λ_=>rfl|fail),(by first|exact f6|exact λ_=>rfl|fail),(by first|exact f7|exact λ_=>rfl|fail),⟨hEh.out.c8,hEh.out.c7,λ_=>rfl,hEh.out.e0,hEh.out.e8,hEh.out.e9,hEh.out.c9,hEh.out.c10⟩⟩
     ·have hb:B1=false:=hl
      clear hl;obtain rfl:=hb;clear ha;refine Zn rfl rfl λK hK=>?_
      go_simp
      refine hK _ _ ?_;exact⟨B0,true,B2,B3,B4,B5,B6,B7,B8,B9,B10,_,_,_,_,_,_,_,_,_,_,rfl,rfl,(by first|exact f0|exact λ_=>rfl|fail),(by first|exact f1|exact λ_=>rfl|fail),(by first|exact f2|exact λ_=>rfl|fail),(by first|exact f3|exact λ_=>rfl|fail),(by first|exact f4|exact λ_=>rfl|fail),(by first|exact f5|exact λ_=>rfl|fail),(by first|exact f6|exact λ_=>rfl|fail),(by first|exact f7|exact λ_=>rfl|fail),hEh.out⟩
     ·have hb:B2=false:=hl
      clear hl;obtain rfl:=hb;simp[Region.binds] at ha;obtain rfl:=f1 ha;refine Zn rfl rfl λK hK=>?_
      go_simp
      refine hK _ _ ?_;exact⟨B0,B1,true,B3,B4,B5,B6,B7,B8,B9,B10,_,_,_,_,_,_,_,_,_,_,rfl,rfl,(by first|exact f0|exact λ_=>rfl|fail),(by first|exact f1|exact λ_=>rfl|fail),(by first|exact f2|exact λ_=>rfl|fail),(by first|exact f3|exact λ_=>rfl|fail),(by first|exact f4|exact λ_=>rfl|fail),(by first|exact f5|exact λ_=>rfl|fail),(by first|exact f6|exact λ_=>rfl|fail),(by first|exact f7|exact λ_=>rfl|fail),hEh.out⟩
     ·have hb:B3=false:=hl
      clear hl;obtain rfl:=hb;simp[Region.binds] at ha;obtain rfl:=f2 ha;have h8:B8=false:=by cases hB:B8;rfl;(have:=(hEh.out.c8 hB).1;cases this)
      have hwx:=hEh.out.e0 h8;subst hwx;refine Zn rfl rfl λK hK=>?_
      go_simp
      refine hK _ _ ?_;exact⟨B0,B1,B2,true,B4,B5,B6,B7,B8,B9,B10,_,_,_,_,_,_,_,_,_,_,rfl,rfl,(by first|exact f0|exact λ_=>rfl|fail),(by first|exact f1|exact λ_=>rfl|fail),(by first|exact f2|exact λ_=>rfl|fail),(by first|exact f3|exact λ_=>rfl|fail),(by first|exact f4|exact λ_=>rfl|fail),(by first|exact f5|exact λ_=>rfl|fail),(by first|exact f6|exact λ_=>rfl|fail),(by first|exact f7|exact λ_=>rfl|fail),⟨λe=>⟨rfl,(hEh.out.c8 e).2⟩,λe=>⟨rfl,(hEh.out.c7 e).2⟩,hEh.out.c90,hEh.out.e0,hEh.out.e8,hEh.out.e9,hEh.out.c9,hEh.out.c10⟩⟩
     ·have hb:B4=false:=hl
      clear hl;obtain rfl:=hb;clear ha;refine Zn rfl rfl λK hK=>?_
      go_simp
      refine hK _ _ ?_;exact⟨B0,B1,B2,B3,true,B5,B6,B7,B8,B9,B10,_,_,_,_,_,_,_,_,_,_,rfl,rfl,(by first|exact f0|exact λ_=>rfl|fail),(by first|exact f1|exact λ_=>rfl|fail),(by first|exact f2|exact λ_=>rfl|fail),(by first|exact f3|exact λ_=>rfl|fail),(by first|exact f4|exact λ_=>rfl|fail),(by first|exact f5|exact λ_=>rfl|fail),(by first|exact f6|exact λ_=>rfl|fail),(by first|exact f7|exact λ_=>rfl|fail),hEh.out⟩
     ·have hb:B5=false:=hl
      clear hl;obtain rfl:=hb;simp[Region.binds] at ha;obtain rfl:=f4 ha;refine Zn rfl rfl λK hK=>?_
      go_simp
      refine hK _ _ ?_;exact⟨B0,B1,B2,B3,B4,true,B6,B7,B8,B9,B10,_,_,_,_,_,_,_,_,_,_,rfl,rfl,(by first|exact f0|exact λ_=>rfl|fail),(by first|exact f1|exact λ_=>rfl|fail),(by first|exact f2|exact λ_=>rfl|fail),(by first|exact f3|exact λ_=>rfl|fail),(by first|exact f4|exact λ_=>rfl|fail),(by first|exact f5|exact λ_=>rfl|fail),(by first|exact f6|exact λ_=>rfl|fail),(by first|exact f7|exact λ_=>rfl|fail),hEh.out⟩
     ·have hb:B6=false:=hl
      clear hl;obtain rfl:=hb;simp[Region.binds] at ha;obtain rfl:=f5 ha;have h8:B8=false:=by cases hB:B8;rfl;(have:=(hEh.out.c8 hB).2;cases this)
      have hwx:=hEh.out.e0 h8;subst hwx;refine Zn rfl rfl λK hK=>?_
      go_simp
      refine hK _ _ ?_;exact⟨B0,B1,B2,B3,B4,B5,true,B7,B8,B9,B10,_,_,_,_,_,_,_,_,_,_,rfl,rfl,(by first|exact f0|exact λ_=>rfl|fail),(by first|exact f1|exact λ_=>rfl|fail),(by first|exact f2|exact λ_=>rfl|fail),(by first|exact f3|exact λ_=>rfl|fail),(by first|exact f4|exact λ_=>rfl|fail),(by first|exact f5|exact λ_=>rfl|fail),(by first|exact f6|exact λ_=>rfl|fail),(by first|exact f7|exact λ_=>rfl|fail),⟨λe=>⟨(hEh.out.c8 e).1,rfl⟩,λe=>⟨(hEh.out.c7 e).1,rfl⟩,hEh.out.c90,hEh.out.e0,hEh.out.e8,hEh.out.e9,hEh.out.c9,hEh.out.c10⟩⟩
     ·have hb:B7=false:=hl
      clear hl;obtain rfl:=hb;simp[Region.binds] at ha;obtain rfl:=f3 ha.1;obtain rfl:=f6 ha.2;refine Zn rfl rfl λK hK=>?_
      go_simp
      refine hK _ _ ?_;exact⟨B0,B1,B2,B3,B4,B5,B6,true,B8,B9,B10,_,_,_,_,_,_,_,_,_,_,rfl,rfl,(by first|exact f0|exact λ_=>rfl|fail),(by first|exact f1|exact λ_=>rfl|fail),(by first|exact f2|exact λ_=>rfl|fail),(by first|exact f3|exact λ_=>rfl|fail),(by first|exact f4|exact λ_=>rfl|fail),(by first|exact f5|exact λ_=>rfl|fail),(by first|exact f6|exact λ_=>rfl|fail),(by first|exact f7|exact λ_=>rfl|fail),⟨hEh.out.c8,λ_=>ha,hEh.out.c90,hEh.out.e0,hEh.out.e8,hEh.out.e9,hEh.out.c9,hEh.out.c10⟩⟩
     ·have hb:B8=false:=hl
      clear hl;obtain rfl:=hb;simp[Region.binds] at ha;obtain rfl:=f7 ha;have hwx:=hEh.out.e0 rfl;subst hwx;refine Zn rfl rfl λK hK=>?_
      go_simp
      refine hK _ _ ?_;refine⟨B0,B1,B2,B3,B4,B5,B6,B7,true,B9,B10,_,_,_,_,_,_,_,_,_,_,rfl,rfl,(by first|exact f0|exact λ_=>rfl|fail),(by first|exact f1|exact λ_=>rfl|fail),(by first|exact f2|exact λ_=>rfl|fail),(by first|exact f3|exact λ_=>rfl|fail),(by first|exact f4|exact λ_=>rfl|fail),(by first|exact f5|exact λ_=>rfl|fail),(by first|exact f6|exact λ_=>rfl|fail),(by first|exact f7|exact λ_=>rfl|fail),?_⟩;exact⟨λ_=>hEh.out.c7 ha,hEh.out.c7,hEh.out.c90,λe=>(by cases e),λ_ _=>⟨rfl,rfl⟩,λe=>(by have:=hEh.out.c9 e;cases this),λ_=>rfl,hEh.out.c10⟩
     ·have hb:B9=false:=hl
      clear hl;obtain rfl:=hb;simp[Region.binds] at ha;obtain rfl:=f0 ha.1;obtain⟨hv22,hwx⟩:=hEh.out.e8 ha.2 rfl;subst hv22;subst hwx;have h10:B10=false:=by cases hB:B10;rfl;(have:=hEh.out.c10 hB;cases this)
      have hbd:Below W.heap.size W (W.alloc (.cells #[.int .i64 (l.getD (2*x.1) 0),.int .i64 (l.getD (2*x.1+1) 0)] 103)).drew:=Zb ((Below.refl _ _).alloc (Nat.le_refl _) _) 1;have hbdh:=Za hbd;have hrow:=Za (Arr.below (Arr.one_new (cells:=Kind.cells) (s:=2) (w:=W) (e:=103) (y:=⟨l.getD (2*x.1) 0,l.getD (2*x.1+1) 0⟩) (arr:=#[.int .i64 (l.getD (2*x.1) 0),.int .i64 (l.getD (2*x.1+1) 0)]) rfl) (Zb (Below.refl _ _) 1));clear hbd;refine WH rfl rfl ?_;refine X5 rfl (.tmp 14) (.tmp 22) (by rfl) Tryz.underlying26 ZbK rfl (by omega) (by omega) Kind.len ZgU (by rfl) (hO2.out.below hbdh.out) (by rfl) hrow.out (by omega) (Nat.le_trans (Nat.le_trans (Nat.le_add_right _ 4) h6) hbdh.out.size) ?_;intro v5 w5 ho5 hg5 _;refine⟨B0,B1,B2,B3,B4,B5,B6,B7,B8,true,B10,_,_,_,_,_,_,_,_,_,_,rfl,rfl,(by first|exact f0|exact λ_=>rfl|fail),(by first|exact f1|exact λ_=>rfl|fail),(by first|exact f2|exact λ_=>rfl|fail),(by first|exact f3|exact λ_=>rfl|fail),(by first|exact f4|exact λ_=>rfl|fail),(by first|exact f5|exact λ_=>rfl|fail),(by first|exact f6|exact λ_=>rfl|fail),(by first|exact f7|exact λ_=>rfl|fail),?_⟩;exact⟨hEh.out.c8,hEh.out.c7,λ_=>ha.1,λe=>(by rw[ha.2] at e;cases e),λ_ e=>(by cases e),λ_=>⟨w5,ho5,Ur (Xc hbdh.out _) hg5,(by rw[h10];rfl)⟩,λ_=>ha.2,λ_=>rfl⟩
     ·have hb:B10=false:=hl
      clear hl;obtain rfl:=hb;simp[Region.binds] at ha;have h9:B9=true:=by first|exact ha.1|exact ha|fail
      obtain⟨w5,ho5,hg5,hwx⟩:=hEh.out.e9 h9;rw[if_neg (by decide)] at hwx;subst hwx;obtain⟨A5,c5,hv5,_⟩:=ho5.slice;subst hv5;have q1:=(hg5.block _ (Array.getElem?_eq_some_iff.1 k1.out).1 (λe=>hvK e.symm)).trans k1.out;obtain⟨cq,fq⟩:=Yf q1;have fq0:=fq 0;have ho5h:=Za ho5;have hg5h:=Za hg5;clear fq q1 ho5 hg5;refine Zn rfl rfl λK hK=>?_
      go_simp
      refine hK _ _ ?_;refine⟨B0,B1,B2,B3,B4,B5,B6,B7,B8,B9,true,_,_,_,_,_,_,_,_,_,_,rfl,rfl,(by first|exact f0|exact λ_=>rfl|fail),(by first|exact f1|exact λ_=>rfl|fail),(by first|exact f2|exact λ_=>rfl|fail),(by first|exact f3|exact λ_=>rfl|fail),(by first|exact f4|exact λ_=>rfl|fail),(by first|exact f5|exact λ_=>rfl|fail),(by first|exact f6|exact λ_=>rfl|fail),(by first|exact f7|exact λ_=>rfl|fail),?_⟩;exact⟨hEh.out.c8,hEh.out.c7,hEh.out.c90,λe=>(by rw[hEh.out.c9 h9] at e;cases e),λ_ e=>(by rw[h9] at e;cases e),λ_=>⟨wx,ho5h.out,hg5h.out,by rw[if_pos rfl]⟩,hEh.out.c9,λ_=>h9⟩
    ·rintro lx a wx ⟨B0,B1,B2,B3,B4,B5,B6,B7,B8,B9,B10,v14,v15,v16,v17,v18,v19,v20,v21,v22,v23,rfl,rfl,f0,f1,f2,f3,f4,f5,f6,f7,hE⟩ hr
     have h10:=Yl (by kernel_rfl) rfl hr 11 10 (by decide) (by decide);change B10=true at h10;subst h10;obtain⟨w5,ho5,hg5,hwx⟩:=hE.e9 (hE.c10 rfl);rw[if_pos rfl] at hwx;subst hwx;exact hfinh.out _ _ ho5 hg5
    ·exact⟨false,false,false,false,false,false,false,false,false,false,false,undef,undef,undef,undef,undef,undef,undef,undef,undef,undef,rfl,rfl,λe=>(by cases e),λe=>(by cases e),λe=>(by cases e),λe=>(by cases e),λe=>(by cases e),λe=>(by cases e),λe=>(by cases e),λe=>(by cases e),⟨λe=>(by cases e),λe=>(by cases e),λe=>(by cases e),λ_=>rfl,λe=>(by cases e),λe=>(by cases e),λe=>(by cases e),λe=>(by cases e)⟩⟩
  case done =>
   rintro D ys W hD rfl hI hK;obtain⟨⟨v,h1,h2⟩,h3,h4,h5,h6⟩:=hI;have hN:Hid ((List.finRange m).map (λi=>kAt l i.1)=XY l):=Za (by
    unfold XY Yq;rw[show l.length/2=m by rw[hlen.out];omega];refine List.ext_getElem (by simp) λi h1 h2=>?_
    simp[kAt])
   have hl2:Hid (kindsCd l=if ZD (XY l) then 0 else 1):=Za (by unfold kindsCd;rw[if_pos (by rw[hlen.out];omega)]);rw[hN.out,List.length_finRange] at h2;have hO2:=Za h2;have hB5:=Za h5;have hKh:=Za hK;obtain⟨A5,c5,hv5,_⟩:=h2.slice;subst hv5;obtain⟨ck,_⟩:=Yf h1;have hA2:=Za (h2.arr Kind.len);have k1:=Za h1;clear h1 h2 h3 h4 h5 hK
   gi_wp2
   refine⟨trivial,?_⟩;cases hok:ZD (XY l)
   ·have hk:=YD A5 m c5 (XY l) W (by omega) hA2.out
    rw[hok] at hk;refine(callsIn_wide.2 hk).mono ?_;rintro e w1 ⟨rfl,hb⟩;have hbh:=Za hb;have hK1:=Za (Ze hKh.out hb);clear hb
    gi_wp2
    refine⟨by simp,.inl ⟨_,_,rfl,run_takeDeferred hK1.out,?_⟩⟩;refine⟨.tuple #[.slice none 0 0,.int .i64 1],by simp[results,Tryz.f75,go_sem],.slice none 0 0,?_,?_,?_⟩
    ·rw[hl2.out,hok];rfl
    ·have hkl:Yn l=[]:=by unfold Yn;rw[hl2.out,hok];rfl
     rw[hkl];exact Res.empty (Nat.zero_le _)
    ·exact(hB5.out.trans (hbh.out.mono (by omega))).trans (belowK_b (w:=w) (Nat.le_refl _) w1 D _ _ (by omega) hK1.out rfl rfl)
   ·have hk:=YD A5 m c5 (XY l) W (by omega) hA2.out
    rw[hok] at hk;refine(callsIn_wide.2 hk).mono ?_;rintro e w1 ⟨rfl,hb⟩;have hbh:=Za hb;have hK1:=Za (Ze hKh.out hb);obtain⟨ck1,_⟩:=Yf (Ze k1.out hb);clear hb
    gi_wp2
    refine⟨by simp,.inl ⟨_,_,rfl,run_takeDeferred hK1.out,?_⟩⟩;refine⟨.tuple #[.slice A5 m c5,.int .i64 0],by simp[results,Tryz.f75,go_sem],.slice A5 m c5,?_,?_,?_⟩
    ·rw[hl2.out,hok];rfl
    ·have hkl:Yn l=XY l:=by unfold Yn;rw[hl2.out,hok];rfl
     have hkn:(XY l).length=m:=hO2.out.len;rw[hkl,hkn];refine((hO2.out.below hbh.out).kept (grownBy_putObj' w1 D (.deferred none)) (.inr ?_)).res;intro e;obtain⟨o',ho',hc'⟩:=QE (hO2.out.below hbh.out) e;rw[hK1.out] at ho';cases ho';cases hc'
    ·exact(hB5.out.trans (hbh.out.mono (by omega))).trans (belowK_b (w:=w) (Nat.le_refl _) w1 D _ _ (by omega) hK1.out rfl rfl)
  case stop =>
   rintro D c pre W _ _ h _;exact h.elim
 ·have hcd:Hid (kindsCd l=7):=Za (by unfold kindsCd;rw[if_neg (by rw[hlen.out];exact hev)])
  have hkl:Hid (Yn l=[]):=Za (by unfold Yn;rw[hcd.out];rfl);have hrem:((n:Int)).tmod 2=1:=by rw[Int.tmod_eq_emod_of_nonneg (by omega)];omega
  clear hr;go_enter Tryz.func75,Tryz.ntmps75;go_wp2
  go_ret2
  exact⟨_,by rw[hcd.out];rfl,by rw[hkl.out];exact Res.empty (Nat.zero_le _),Below.refl _ _⟩
end
structure DG (w:World)(base g:Nat)(x:DeskV):Prop where
 hK:w.heap[g]?=some (.cells #[.string x.fStroke,.int .i64 x.fStakes,.slice x.A x.n x.c,.slice x.A' x.n' x.c',.string x.fLog] 29 (0,0))
 k:Res Kind.cells 103 2 w base (.slice x.A x.n x.c) x.n x.kinds
 h:Res Heap.cells 106 3 w base (.slice x.A' x.n' x.c') x.n' x.heaps
 nk:x.n<=1048576
 nh:x.n'<=1048576
 fit:∀h∈x.heaps,h.fits
 hb:base<=g
theorem Res.set {α:Type}{cells:α→List Value}{e s:Nat}{w:World}{base n g i:Nat}{v u:Value}{l:List α}{cs:Array Value}{t:TypeId}(h:Res cells e s w base v n l)(hK:w.heap[g]?=some (.cells cs t (0,0)))(hne:e≠t):Res cells e s (w.setCell ⟨g,i,none⟩ u) base v n l :=
 ⟨h.1,h.2.1,λhn=>(h.2.2 hn).kept (Zl w g i u) (.inr (Z0 (h.2.2 hn) hK hne))⟩
section
variable {w w':World}{base g:Nat}{x:DeskV}
theorem DG.good (h:DG w base g x):x.good w w.heap.size:=⟨h.k.arr Kind.len,h.h.arr Heap.len,h.nk,h.nh,h.fit⟩
theorem DG.below (h:DG w base g x)(hb:Below w.heap.size w w'):DG w' base g x:=⟨Ze h.hK hb,h.k.below hb,h.h.below hb,h.nk,h.nh,h.fit,h.hb⟩
theorem DG.set0 (h:DG w base g x)(r:ByteArray):DG (w.setCell ⟨g,0,none⟩ (.string r)) base g { x with fStroke:=r }:=⟨Zk h.hK 0 _,h.k.set h.hK (by decide),h.h.set h.hK (by decide),h.nk,h.nh,h.fit,h.hb⟩
theorem DG.set1 (h:DG w base g x)(r:Int):DG (w.setCell ⟨g,1,none⟩ (.int .i64 r)) base g { x with fStakes:=r }:=⟨Zk h.hK 1 _,h.k.set h.hK (by decide),h.h.set h.hK (by decide),h.nk,h.nh,h.fit,h.hb⟩
theorem DG.set4 (h:DG w base g x)(r:ByteArray):DG (w.setCell ⟨g,4,none⟩ (.string r)) base g { x with fLog:=r }:=⟨Zk h.hK 4 _,h.k.set h.hK (by decide),h.h.set h.hK (by decide),h.nk,h.nh,h.fit,h.hb⟩
theorem DG.set2 (h:DG w base g x){A:Option Addr}{n c:Nat}{l:List Kind}(hr:Res Kind.cells 103 2 w base (.slice A n c) n l)(hn:n<=1048576):DG (w.setCell ⟨g,2,none⟩ (.slice A n c)) base g { x with A:=A,n:=n,c:=c,kinds:=l } :=
 ⟨Zk h.hK 2 _,hr.set h.hK (by decide),h.h.set h.hK (by decide),hn,h.nh,h.fit,h.hb⟩
theorem DG.set3 (h:DG w base g x){A:Option Addr}{n c:Nat}{l:List Heap}(hr:Res Heap.cells 106 3 w base (.slice A n c) n l)(hn:n<=1048576)(hf:∀h∈l,h.fits):DG (w.setCell ⟨g,3,none⟩ (.slice A n c)) base g { x with A':=A,n':=n,c':=c,heaps:=l } :=
 ⟨Zk h.hK 3 _,h.k.set h.hK (by decide),hr.set h.hK (by decide),h.nk,hn,hf,h.hb⟩
end
theorem Wi {base:Nat}(w:World)(s:ByteArray)(hb:base<=w.heap.size):Own ZY 9 1 (w.alloc (.cells #[.string s] 9)) base (.slice (some ⟨w.heap.size,0,none⟩) 1 1) 1 [s] :=
 ⟨rfl,rfl,.inr ⟨w.heap.size,1,#[.string s],rfl,hb,heap_alloc_new w _,Nat.le_refl _,by unfold maxLen;omega,rfl,rfl⟩⟩
def ZaZ (w0 w:World)(base g:Nat)(r:DeskM × List ByteArray × Int)(e:Ending)(w':World):Prop :=
 ∃v x',e = .returned (.tuple #[v,.int .i64 r.2.2])/\DG w' base g x'/\x'.pure=r.1/\Res ZY 9 1 w' base v r.2.1.length r.2.1/\w.grownBy w' (some g)/\Below w0.heap.size w0 w'
theorem YY {w W w':World}{row:Option Nat}(h:w.grownBy W row)(hb:Below W.heap.size W w'):w.grownBy w' row:=Zx h (Zd hb)
theorem Ys {w0 w w':World}{g:Nat}(hB0:Below w0.heap.size w0 w)(hg:w0.heap.size<=g)(h:w.grownBy w' (some g)):Below w0.heap.size w0 w':=hB0.grown h hB0.size (λk e=>by cases e;exact hg)
theorem UT (r:ByteArray)(g:Nat)(x:DeskV)(w0 w:World)(hr:r.size<=maxLen)(hG:Gl w0)(hB0:Below w0.heap.size w0 w)(h:DG w w0.heap.size g x) :
  Calls Tryz.prog 30 #[.pointer (some ⟨g,0,none⟩),.string ⟨#[115,116,114,111,107,101]⟩,.string r] w λe w'=>ZaZ w0 w w0.heap.size g (mText x.pure .cStroke r) e w':=by
 have hH:=Za h;have hGh:=Za hG;have hB0h:=Za hB0;have hA:=Za ((Below.refl w.heap.size w).alloc (Nat.le_refl _) (.cells #[] 9));clear h hG hB0;cases hs:strokeOk r
 ·have hM:Hid (mText x.pure .cStroke r=(x.pure,[],1)):=Za (by unfold mText;rw[hs];rfl)
  go_enter Tryz.func30,Tryz.ntmps30;go_wp2_with fail
  refine(Ye r _ hr).mono ?_;rw[hs];rintro e w1 ⟨rfl,hb⟩;have hB:=Za (Below.up hA.out hb);clear hb;go_wp2
  go_ret2
  exact⟨_,x,by rw[hM.out];rfl,hH.out.below hB.out,by rw[hM.out],by rw[hM.out];exact Res.empty (Nat.zero_le _),Zd hB.out,Ys hB0h.out hH.out.hb (Zd hB.out)⟩
 ·obtain⟨x',hx'⟩:∃x':DeskV,x'={ x with fStroke:=r }:=⟨_,rfl⟩
  have hM:Hid (mText x.pure .cStroke r=(x'.pure,[x'.pure.text],0)):=Za (by unfold mText;rw[hs,hx'];rfl);have hxs:Hid (x'.fStroke=r):=Za (by rw[hx']);have hset:Hid (∀W,DG W w0.heap.size g x→DG (W.setCell ⟨g,0,none⟩ (.string r)) w0.heap.size g x'):=Za (λW hW=>by rw[hx'];exact hW.set0 r);clear hx';obtain⟨c0,c1,c2,c3,c4,cf⟩:=Zs hH.out.hK;go_enter Tryz.func30,Tryz.ntmps30;go_wp2_with fail
  refine(Ye r _ hr).mono ?_;rw[hs];rintro e w1 ⟨rfl,hb⟩;have hB:=Za (Below.up hA.out hb);have hH1:=Za (hH.out.below hB.out);clear hb c0 c1 c2 c3 c4 cf;obtain⟨c0,c1,c2,c3,c4,cf⟩:=Zs hH1.out.hK;go_upto_region 7 with fail
  refine YH (φ:=λW=>DG W w0.heap.size g x'/\w.grownBy W (some g)) ⟨hset.out _ hH1.out,Zx (Zd hB.out) (Zl _ _ _ _)⟩ ?_;rintro W0 ⟨n0,n1⟩;have hH2:=Za n0;have hg2:=Za n1;clear n0 n1 c0 c1 c2 c3 c4 cf;obtain⟨c0,c1,c2,c3,c4,cf⟩:=Zs hH2.out.hK;go_wp2_with fail
  refine(Vl x' _ (hGh.out.below (Ys hB0h.out hH.out.hb hg2.out)) hH2.out.good (by rw[hxs.out];exact hr)).mono ?_;rw[Wd hH2.out.good];rintro e w3 ⟨rfl,hb⟩;have hH3:=Za (hH2.out.below hb);have hg3:=Za (YY hg2.out hb);have hO3:=Za (Wi (base:=w0.heap.size) w3 x'.pure.text (Nat.le_trans hB0h.out.size hg3.out.size));clear hb;go_wp2
  go_ret2
  exact⟨_,x',by rw[hM.out];rfl,hH3.out.below ((Below.refl _ _).alloc (Nat.le_refl _) _),by rw[hM.out],by rw[hM.out];exact hO3.out.res,YY hg3.out ((Below.refl _ _).alloc (Nat.le_refl _) _),Ys hB0h.out hH.out.hb (YY hg3.out ((Below.refl _ _).alloc (Nat.le_refl _) _))⟩
end Go.Proofs.YtfpaejlipaainaaGreatDoor
