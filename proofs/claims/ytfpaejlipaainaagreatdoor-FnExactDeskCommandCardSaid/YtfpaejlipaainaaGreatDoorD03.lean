/- Texts that belong together, joined: contracts and plain laws. No statement is proved here. -/
import Derived.Test.YtfpaejlipaainaaGreatDoorD02
import Derived.Test.YtfpaejlipaainaaGreatDoorM47
import Derived.BigRegion
set_option maxRecDepth 100000
set_option maxHeartbeats 8000000
namespace Go.Proofs.YtfpaejlipaainaaGreatDoor
open Go.ChangeShapes Go.WideShapes Go.ChangeAt Go.RowKit Go.Deep
theorem Zcp (k:Nat)(x:DeskV)(w:World)(hk:w.heap[k]?=some (.cells #[.string x.fStroke,.int .i64 x.fStakes,.slice x.A x.n x.c,.slice x.A' x.n' x.c',.string x.fLog] 29 (0,0)))(hx:x.good w w.heap.size)(hs0:x.fStroke.size<=maxLen) :
  Calls Tryz.prog 35 #[.pointer (some ⟨k,0,none⟩)] w λe w'=>e = .returned (.bool (Z5 x))/\Below w.heap.size w w':=by
 have hK:=Za hk;have hX:=Za hx;have hB:=Za (Below.refl w.heap.size w);clear hk hx;obtain⟨c0,c1,c2,c3,c4,cf⟩:=Zs hK.out;go_enter Tryz.func35,Tryz.ntmps35;go_wp2_with fail
 refine(V0 x.fLog _).mono ?_;rintro e w1 ⟨g,rfl,_,_,hb⟩;replace hB:=Za (Below.up hB.out hb);replace hK:=Za (Ze hK.out hb);replace hX:=Za (hX.out.go hb);clear hb c0 c1 c2 c3 c4 cf;obtain⟨c0,c1,c2,c3,c4,cf⟩:=Zs hK.out;cases k0:strokeOk x.fStroke
 ·skip
  have ck:Hid (Z5 x=false):=Za (by simp[Z5,k0]);go_wp2_with (first|(go_at_call 82;refine(Yv _ _ hs0).mono ?_;rintro e w' ⟨rfl,rfl⟩)|(go_at_call 83;refine(Z8 _ _).mono ?_;rintro e w' ⟨rfl,rfl⟩)|(go_at_call 84;refine(YM _ _ _ _ _ hX.out.nk hX.out.kinds).mono ?_;rintro e w1 ⟨rfl,hb⟩;replace hB:=Za (Below.up hB.out hb);replace hK:=Za (Ze hK.out hb);replace hX:=Za (hX.out.go hb);clear hb c0 c1 c2 c3 c4 cf;obtain⟨c0,c1,c2,c3,c4,cf⟩:=Zs hK.out)|(go_at_call 85;refine(ZT _ _ _ _ _ hX.out.nh hX.out.fit hX.out.heaps).mono ?_;rintro e w1 ⟨rfl,hb⟩;replace hB:=Za (Below.up hB.out hb);replace hK:=Za (Ze hK.out hb);replace hX:=Za (hX.out.go hb);clear hb c0 c1 c2 c3 c4 cf;obtain⟨c0,c1,c2,c3,c4,cf⟩:=Zs hK.out)|fail)
  go_ret;exact⟨ZW ck.out.symm,hB.out⟩
 ·skip
  cases k1:inB x.fStakes 3 60
  ·skip
   have ck:Hid (Z5 x=false):=Za (by simp[Z5,k1]);go_wp2_with (first|(go_at_call 82;refine(Yv _ _ hs0).mono ?_;rintro e w' ⟨rfl,rfl⟩)|(go_at_call 83;refine(Z8 _ _).mono ?_;rintro e w' ⟨rfl,rfl⟩)|(go_at_call 84;refine(YM _ _ _ _ _ hX.out.nk hX.out.kinds).mono ?_;rintro e w1 ⟨rfl,hb⟩;replace hB:=Za (Below.up hB.out hb);replace hK:=Za (Ze hK.out hb);replace hX:=Za (hX.out.go hb);clear hb c0 c1 c2 c3 c4 cf;obtain⟨c0,c1,c2,c3,c4,cf⟩:=Zs hK.out)|(go_at_call 85;refine(ZT _ _ _ _ _ hX.out.nh hX.out.fit hX.out.heaps).mono ?_;rintro e w1 ⟨rfl,hb⟩;replace hB:=Za (Below.up hB.out hb);replace hK:=Za (Ze hK.out hb);replace hX:=Za (hX.out.go hb);clear hb c0 c1 c2 c3 c4 cf;obtain⟨c0,c1,c2,c3,c4,cf⟩:=Zs hK.out)|fail)
   go_ret;exact⟨ZW ck.out.symm,hB.out⟩
  ·skip
   cases k2:ZD x.kinds
   ·skip
    have ck:Hid (Z5 x=false):=Za (by simp[Z5,k2]);go_wp2_with (first|(go_at_call 82;refine(Yv _ _ hs0).mono ?_;rintro e w' ⟨rfl,rfl⟩)|(go_at_call 83;refine(Z8 _ _).mono ?_;rintro e w' ⟨rfl,rfl⟩)|(go_at_call 84;refine(YM _ _ _ _ _ hX.out.nk hX.out.kinds).mono ?_;rintro e w1 ⟨rfl,hb⟩;replace hB:=Za (Below.up hB.out hb);replace hK:=Za (Ze hK.out hb);replace hX:=Za (hX.out.go hb);clear hb c0 c1 c2 c3 c4 cf;obtain⟨c0,c1,c2,c3,c4,cf⟩:=Zs hK.out)|(go_at_call 85;refine(ZT _ _ _ _ _ hX.out.nh hX.out.fit hX.out.heaps).mono ?_;rintro e w1 ⟨rfl,hb⟩;replace hB:=Za (Below.up hB.out hb);replace hK:=Za (Ze hK.out hb);replace hX:=Za (hX.out.go hb);clear hb c0 c1 c2 c3 c4 cf;obtain⟨c0,c1,c2,c3,c4,cf⟩:=Zs hK.out)|fail)
    go_ret;exact⟨ZW ck.out.symm,hB.out⟩
   ·skip
    cases k3:ZE x.heaps
    ·skip
     have ck:Hid (Z5 x=false):=Za (by simp[Z5,k3]);go_wp2_with (first|(go_at_call 82;refine(Yv _ _ hs0).mono ?_;rintro e w' ⟨rfl,rfl⟩)|(go_at_call 83;refine(Z8 _ _).mono ?_;rintro e w' ⟨rfl,rfl⟩)|(go_at_call 84;refine(YM _ _ _ _ _ hX.out.nk hX.out.kinds).mono ?_;rintro e w1 ⟨rfl,hb⟩;replace hB:=Za (Below.up hB.out hb);replace hK:=Za (Ze hK.out hb);replace hX:=Za (hX.out.go hb);clear hb c0 c1 c2 c3 c4 cf;obtain⟨c0,c1,c2,c3,c4,cf⟩:=Zs hK.out)|(go_at_call 85;refine(ZT _ _ _ _ _ hX.out.nh hX.out.fit hX.out.heaps).mono ?_;rintro e w1 ⟨rfl,hb⟩;replace hB:=Za (Below.up hB.out hb);replace hK:=Za (Ze hK.out hb);replace hX:=Za (hX.out.go hb);clear hb c0 c1 c2 c3 c4 cf;obtain⟨c0,c1,c2,c3,c4,cf⟩:=Zs hK.out)|fail)
     go_ret;exact⟨ZW ck.out.symm,hB.out⟩
    ·skip
     by_cases hq:ZI x.fLog=0
     ·have ck0:Z5 x=true:=by simp[Z5,k0,k1,k2,k3,hq]
      have e5:(ZI x.fLog==0)=true:=by rw[hq];rfl
      clear hq;have ck:Hid (Z5 x=true):=Za (ck0);go_wp2_with (first|(go_at_call 82;refine(Yv _ _ hs0).mono ?_;rintro e w' ⟨rfl,rfl⟩)|(go_at_call 83;refine(Z8 _ _).mono ?_;rintro e w' ⟨rfl,rfl⟩)|(go_at_call 84;refine(YM _ _ _ _ _ hX.out.nk hX.out.kinds).mono ?_;rintro e w1 ⟨rfl,hb⟩;replace hB:=Za (Below.up hB.out hb);replace hK:=Za (Ze hK.out hb);replace hX:=Za (hX.out.go hb);clear hb c0 c1 c2 c3 c4 cf;obtain⟨c0,c1,c2,c3,c4,cf⟩:=Zs hK.out)|(go_at_call 85;refine(ZT _ _ _ _ _ hX.out.nh hX.out.fit hX.out.heaps).mono ?_;rintro e w1 ⟨rfl,hb⟩;replace hB:=Za (Below.up hB.out hb);replace hK:=Za (Ze hK.out hb);replace hX:=Za (hX.out.go hb);clear hb c0 c1 c2 c3 c4 cf;obtain⟨c0,c1,c2,c3,c4,cf⟩:=Zs hK.out)|fail)
      go_ret;exact⟨ZW ck.out.symm,hB.out⟩
     ·have ck0:Z5 x=false:=by simp[Z5,hq]
      have e5:(ZI x.fLog==0)=false:=by simp[hq]
      clear hq;have ck:Hid (Z5 x=false):=Za (ck0);go_wp2_with (first|(go_at_call 82;refine(Yv _ _ hs0).mono ?_;rintro e w' ⟨rfl,rfl⟩)|(go_at_call 83;refine(Z8 _ _).mono ?_;rintro e w' ⟨rfl,rfl⟩)|(go_at_call 84;refine(YM _ _ _ _ _ hX.out.nk hX.out.kinds).mono ?_;rintro e w1 ⟨rfl,hb⟩;replace hB:=Za (Below.up hB.out hb);replace hK:=Za (Ze hK.out hb);replace hX:=Za (hX.out.go hb);clear hb c0 c1 c2 c3 c4 cf;obtain⟨c0,c1,c2,c3,c4,cf⟩:=Zs hK.out)|(go_at_call 85;refine(ZT _ _ _ _ _ hX.out.nh hX.out.fit hX.out.heaps).mono ?_;rintro e w1 ⟨rfl,hb⟩;replace hB:=Za (Below.up hB.out hb);replace hK:=Za (Ze hK.out hb);replace hX:=Za (hX.out.go hb);clear hb c0 c1 c2 c3 c4 cf;obtain⟨c0,c1,c2,c3,c4,cf⟩:=Zs hK.out)|fail)
      go_ret;exact⟨ZW ck.out.symm,hB.out⟩
theorem Order.same_true {x y:Order}:x.same y=true↔x=y:=by simp[Order.same]
theorem Order.same_false {x y:Order}:x.same y=false↔¬x=y:=by simp[Order.same]
theorem Order.wt_nonneg (x:Order):0<=x.wt:=by unfold Order.wt;omega
theorem Order.pre_nonneg (l:List Order):0<=Order.pre l:=by
 unfold Order.pre
 induction l with
 | nil=>simp
 | cons a l ih=>have:=a.wt_nonneg;simp only[List.map_cons,List.sum_cons];omega
theorem Order.pre_snoc {l:List Order}{k:Nat}{x:Order}(h:l[k]?=some x):Order.pre (l.take (k+1))=Order.pre (l.take k)+x.wt:=by
 unfold Order.pre;rw[Zo h];simp
theorem Order.pre_le (l:List Order)(k:Nat):Order.pre (l.take k)<=Order.pre l:=by
 have h:=Order.pre_nonneg (l.drop k);have:Order.pre l=Order.pre (l.take k)+Order.pre (l.drop k):=by unfold Order.pre;rw[←List.sum_append,←List.map_append,List.take_append_drop]
 omega
section
variable {w:World}{D:Nat}{x:DeskV}{t:TypeId}
theorem ZkV {base n c c0 m:Nat}{A A0:Option Addr}{l:List Heap}{st lg:ByteArray}{sk:Int}{L:List Kind}(h:Own Heap.cells 106 3 w base (.slice A n c) n l):HS ⟨st,sk,A0,m,c0,L,A,n,c,l,lg⟩:=by
 rcases h.form with ⟨e,h1,_⟩|⟨g,cap,e,_,_,hc,_⟩
 ·injection e with e1 e2 e3
  subst e1 e3;exact⟨Nat.le_of_eq h1,.inr ⟨rfl,h1,rfl⟩⟩
 ·injection e with e1 e2 e3
  subst e1 e3;exact⟨hc,.inl ⟨_,_,rfl⟩⟩
end
theorem Zbl (k:Nat)(x:DeskV)(w:World)(hk:w.heap[k]?=some (.cells #[.string x.fStroke,.int .i64 x.fStakes,.slice x.A x.n x.c,.slice x.A' x.n' x.c',.string x.fLog] 29 (0,0)))(hx:x.good w w.heap.size) :
  Calls Tryz.prog 42 #[.pointer (some ⟨k,0,none⟩)] w λe w'=>∃x',e = .returned (.agg #[.string x'.fStroke,.int .i64 x'.fStakes,.slice x'.A x'.n x'.c,.slice x'.A' x'.n' x'.c',.string x'.fLog])/\x'.pure=x.pure/\DV w' w.heap.size x'/\HS x'/\Below w.heap.size w w':=by
 have hX:=Za hx;have hklt:=Za (Array.getElem?_eq_some_iff.1 hk).1;have hK:=Za hk;clear hk hx;go_enter Tryz.func42,Tryz.ntmps42;go_upto_region 1 with fail
 obtain⟨W0,hW0⟩:∃W0,W0=(w.alloc (Obj.cells #[Value.string ⟨#[]⟩,Value.int IntKind.i64 0,Value.slice none 0 0,Value.slice none 0 0,Value.string ⟨#[]⟩] 29)):=⟨_,rfl⟩;have hB0:=Za (show Below w.heap.size w W0 by rw[hW0];go_grown);have k0:=Za (show W0.heap[k]?=some (.cells #[Value.string x.fStroke,Value.int IntKind.i64 x.fStakes,Value.slice x.A x.n x.c,Value.slice x.A' x.n' x.c',Value.string x.fLog] 29 (0,0)) by rw[hW0];exact Zc hK.out);have k1:=Za (show W0.heap[w.heap.size]?=some (.cells #[Value.string ⟨#[]⟩,Value.int IntKind.i64 0,Value.slice none 0 0,Value.slice none 0 0,Value.string ⟨#[]⟩] 29 (0,0)) by rw[hW0];exact heap_alloc_new w _);have hz0:W0.heap.size=w.heap.size+1:=by rw[hW0];simp
 have hz0h:=Za hz0;rw[←hW0];clear hW0 hz0;obtain⟨c0,c1,c2,c3,c4,cf⟩:=Zs k0.out;obtain⟨d0,d1,d2,d3,d4,df⟩:=Zs (Ze k0.out ((Below.refl W0.heap.size W0).alloc (Nat.le_refl _) (Obj.cells #[Value.string ⟨#[]⟩,Value.int IntKind.i64 0,Value.slice none 0 0,Value.slice none 0 0,Value.string ⟨#[]⟩] 29)));clear c2 c3 d2 d3 cf df;go_region
 obtain⟨W2,hW2⟩:∃W2,W2=(W0.alloc (Obj.cells #[Value.string x.fStroke,Value.int IntKind.i64 x.fStakes,Value.slice none 0 0,Value.slice none 0 0,Value.string x.fLog] 29)).drew:=⟨_,rfl⟩;have hdr:Below W0.heap.size W0 W2:=by rw[hW2];exact Zb ((Below.refl W0.heap.size W0).alloc (Nat.le_refl _) _) 1
 have hB2:=Za (hB0.out.trans (hdr.mono hB0.out.size));have k2:=Za (Ze k0.out hdr);have r2:=Za (Ze k1.out hdr);obtain⟨D,hD⟩:∃D,D=W0.heap.size:=⟨_,rfl⟩;have m2:=Za (show W2.heap[D]?=some (.cells #[Value.string x.fStroke,Value.int IntKind.i64 x.fStakes,Value.slice none 0 0,Value.slice none 0 0,Value.string x.fLog] 29 (0,0)) by rw[hW2,hD];exact heap_alloc_new W0 _);rw[←hW2];rw[←hD];have hDw:=Za (show D=w.heap.size+1 by rw[hD];exact hz0h.out);have hz2:=Za (show W2.heap.size=D+1 by rw[hW2,hD];simp[World.drew]);clear hW2 hdr c0 c1 c4 d0 d1 d4 k0 k1 hD hB0;have hX2:=Za (hX.out.go hB2.out);obtain⟨e0,e1,e2,e3,e4,ef⟩:=Zs (Ze k2.out ((Below.refl W2.heap.size W2).alloc (Nat.le_refl _) (Obj.cells #[] 103)));clear e0 e1 e4 ef;have a2:=Za ((Below.refl W2.heap.size W2).alloc (Nat.le_refl _) (Obj.cells #[] 103));go_upto_region 3 with (at_builtin;refine Z1 rfl (.tmp 17) (.tmp 21) rfl Tryz.underlying26 Uw rfl (by omega) (by omega) Kind.len Kind.one rfl (Own.none_made (cells:=Kind.cells) (e:=103) (s:=2) W2 (Nat.le_refl _)) rfl (hX2.out.kinds.go a2.out) (by have:=hX2.out.nk;omega) a2.out.size ?_;intro v3 w3 ho3 hg3 hat3;rw[Nat.zero_add,List.nil_append] at ho3;obtain⟨A3,n3,rfl,_⟩:=ho3.slice;have m3:=Za ((hg3.block D (by have:=a2.out.size;have:=hz2.out;omega) (λe=>Qs (Own.none_made (cells:=Kind.cells) (e:=103) (s:=2) W2 (Nat.le_refl _)).2 (Ze m2.out a2.out) (by decide) e.symm)).trans (Ze m2.out a2.out));have hO3:=Za ho3;have hg3h:=Za hg3;have f2:=(Zs m3.out).2.2.1;have ff:=(Zs m3.out).2.2.2.2.2;clear ho3 hg3 hat3)
 have hB3:=Za ((Own.none_made (cells:=Kind.cells) (e:=103) (s:=2) W2 hB2.out.size).grown (hB2.out.alloc hB2.out.size _) hg3h.out);obtain⟨W4,hW4⟩:∃W4,W4=w3.setCell ⟨D,2,none⟩ (.slice A3 x.n n3):=⟨_,rfl⟩;rw[←hW4];have s4:=Za (show w3.grownBy W4 (some D) by rw[hW4];exact Zl w3 D 2 _);have m4:=Za (show W4.heap[D]?=some (.cells #[Value.string x.fStroke,Value.int IntKind.i64 x.fStakes,Value.slice A3 x.n n3,Value.slice none 0 0,Value.string x.fLog] 29 (0,0)) by rw[hW4];exact Zk m3.out 2 _);have hB4:=Za (show Below w.heap.size w W4 by rw[hW4];exact hB3.out.setCell (p:=⟨D,2,none⟩) (by have:=hDw.out;show w.heap.size<=D;omega) _);have hne:w.heap.size≠W2.heap.size:=by have:=hz2.out;have:=hDw.out;omega
 have r3:=Za ((hg3h.out.block w.heap.size (by have:=a2.out.size;have:=hz2.out;have:=hDw.out;omega) (λe=>hne (Option.some.inj e))).trans (Ze r2.out a2.out));have r4:=Za (ZX r3.out s4.out (by have:=hDw.out;omega));have hO4:=Za ((hO3.out.less hB2.out.size).kept s4.out (.inr (Z0 hO3.out m3.out (by decide))));have k4:=Za ((hB4.out.block k hklt.out).trans hK.out);clear hW4 s4 r3 hO3 m3 f2 ff hB3 hg3h r2 m2 k2 hX2 e2 e3 a2 hne;have hX4:=Za (hX.out.go hB4.out);have a4:=Za ((Below.refl W4.heap.size W4).alloc (Nat.le_refl _) (Obj.cells #[] 106));have e3:=(Zs (Ze k4.out a4.out)).2.2.2.1;have hz4:=Za (Array.getElem?_eq_some_iff.1 m4.out).1;go_upto_region 4 with (at_builtin;refine Z1 rfl (.tmp 24) (.tmp 28) rfl Tryz.underlying27 Zt rfl (by omega) (by omega) Heap.len Heap.one rfl (Own.none_made (cells:=Heap.cells) (e:=106) (s:=3) W4 (Nat.le_refl _)) rfl (hX4.out.heaps.go a4.out) (by have:=hX4.out.nh;omega) a4.out.size ?_;intro v5 w5 ho5 hg5 hat5;rw[Nat.zero_add,List.nil_append] at ho5;obtain⟨A5,n5,rfl,_⟩:=ho5.slice;have m5:=Za ((hg5.block D (by have:=a4.out.size;have:=hz4.out;omega) (λe=>Qs (Own.none_made (cells:=Heap.cells) (e:=106) (s:=3) W4 (Nat.le_refl _)).2 (Ze m4.out a4.out) (by decide) e.symm)).trans (Ze m4.out a4.out));have hO5:=Za ho5;have hg5h:=Za hg5;have f3:=(Zs m5.out).2.2.2.1;have ff:=(Zs m5.out).2.2.2.2.2;clear ho5 hg5 hat5)
 have hB5:=Za ((Own.none_made (cells:=Heap.cells) (e:=106) (s:=3) W4 hB4.out.size).grown (hB4.out.alloc hB4.out.size _) hg5h.out);obtain⟨W6,hW6⟩:∃W6,W6=w5.setCell ⟨D,3,none⟩ (.slice A5 x.n' n5):=⟨_,rfl⟩;rw[←hW6];have s6:=Za (show w5.grownBy W6 (some D) by rw[hW6];exact Zl w5 D 3 _);have m6:=Za (show W6.heap[D]?=some (.cells #[Value.string x.fStroke,Value.int IntKind.i64 x.fStakes,Value.slice A3 x.n n3,Value.slice A5 x.n' n5,Value.string x.fLog] 29 (0,0)) by rw[hW6];exact Zk m5.out 3 _);have hB6:=Za (show Below w.heap.size w W6 by rw[hW6];exact hB5.out.setCell (p:=⟨D,3,none⟩) (by have:=hDw.out;show w.heap.size<=D;omega) _);have hne:w.heap.size≠W4.heap.size:=by have:=hz4.out;have:=hDw.out;omega
 have r5:=Za ((hg5h.out.block w.heap.size (by have:=a4.out.size;have:=hz4.out;have:=hDw.out;omega) (λe=>hne (Option.some.inj e))).trans (Ze r4.out a4.out));have r6:=Za (ZX r5.out s6.out (by have:=hDw.out;omega));have hK5:=Za ((hO4.out.below a4.out).kept hg5h.out (YB (hO4.out.below a4.out) (Own.none_made (cells:=Heap.cells) (e:=106) (s:=3) W4 (Nat.le_refl _)) (by decide)));have hK6:=Za (hK5.out.kept s6.out (.inr (Z0 hK5.out m5.out (by decide))));have hO6:=Za ((hO5.out.less hB4.out.size).kept s6.out (.inr (Z0 hO5.out m5.out (by decide))));have hn:=Za hX4.out;clear hW6 s6 r5 hO5 m5 f3 ff hB5 hg5h r4 m4 k4 hX4 e3 a4 hne hz4 hK5 hO4 hB4 hX hK;obtain⟨c0,c1,c2,c3,c4,_⟩:=Zs m6.out;obtain⟨r0,r1,r2,r3,r4,rf⟩:=Zs r6.out;have rf0:=rf 0;have rf1:=rf 1;have rf2:=rf 2;have rf3:=rf 3;have rf4:=rf 4;clear rf;go_wp2_with fail
 have hrow:=Yp (a0:=.string x.fStroke) (a1:=.int .i64 x.fStakes) (a2:=.slice A3 x.n n3) (a3:=.slice A5 x.n' n5) (a4:=.string x.fLog) r6.out;obtain⟨q0,q1,q2,q3,q4,_⟩:=Zs hrow;unfold Jl at q0 q1 q2 q3 q4;refine bodyPost_ret (v:=.agg #[Value.string x.fStroke,Value.int IntKind.i64 x.fStakes,Value.slice A3 x.n n3,Value.slice A5 x.n' n5,Value.string x.fLog]) (by simp[results,Tryz.results42,go_sem,q0,q1,q2,q3,q4]) rfl ?_;exact⟨⟨x.fStroke,x.fStakes,A3,x.n,n3,x.kinds,A5,x.n',n5,x.heaps,x.fLog⟩,rfl,rfl,Xu r6.out ⟨hK6.out.res,hO6.out.res,hn.out.nk,hn.out.nh,hn.out.fit⟩,ZkV hO6.out,ZZ hB6.out (Nat.le_refl _)⟩
theorem ZjA (x:DeskV)(s:ByteArray)(w:World)(hx:x.good w w.heap.size)(hs0:x.fStroke.size<=maxLen)(_:s.size<=1048576)(hok:x.pure.ok=false) :
  Calls Tryz.prog 14 #[.agg #[.string x.fStroke,.int .i64 x.fStakes,.slice x.A x.n x.c,.slice x.A' x.n' x.c',.string x.fLog],.string s] w λe w'=>DcPost w (dcRes x.pure s) e w':=by
 have hM:Hid (dcRes x.pure s=(noM,[],1)):=Za (by unfold dcRes;rw[hok];rfl);have hxh:=Za hx;clear hx;go_enter Tryz.func14,Tryz.ntmps14;go_upto_region 1 with fail
 obtain⟨W0,hW0⟩:∃W0,W0=((w.alloc (Obj.cells #[Value.string x.fStroke,Value.int IntKind.i64 x.fStakes,Value.slice x.A x.n x.c,Value.slice x.A' x.n' x.c',Value.string x.fLog] 29)).alloc (Obj.cells #[Value.string ⟨#[]⟩,Value.int IntKind.i64 0,Value.slice none 0 0,Value.slice none 0 0,Value.string ⟨#[]⟩] 29)):=⟨_,rfl⟩;have hB0:=Za (show Below w.heap.size w W0 by rw[hW0];go_grown);have k0:=Za (show W0.heap[w.heap.size]?=some (.cells #[Value.string x.fStroke,Value.int IntKind.i64 x.fStakes,Value.slice x.A x.n x.c,Value.slice x.A' x.n' x.c',Value.string x.fLog] 29 (0,0)) by rw[hW0];exact Zc (heap_alloc_new w _));have k1:=Za (show W0.heap[w.heap.size+1]?=some (.cells #[Value.string ⟨#[]⟩,Value.int IntKind.i64 0,Value.slice none 0 0,Value.slice none 0 0,Value.string ⟨#[]⟩] 29 (0,0)) by rw[hW0];exact ZA (by simp));rw[←hW0];clear hW0;obtain⟨c0,c1,c2,c3,c4,cf⟩:=Zs k0.out;go_wp2_with fail
 refine(Zcp w.heap.size x _ k0.out (hxh.out.go hB0.out) hs0).mono ?_;rw[ZO,hok];rintro e w1 ⟨rfl,hb⟩;have hB1:=Za (hB0.out.trans (hb.mono hB0.out.size));have k0b:=Za (Ze k0.out hb);have k1b:=Za (Ze k1.out hb);clear hb c0 c1 c2 c3 c4 cf k0 k1;obtain⟨r0,r1,r2,r3,r4,rf⟩:=Zs k1b.out;have rf0:=rf 0;have rf1:=rf 1;have rf2:=rf 2;have rf3:=rf 3;have rf4:=rf 4;clear rf;go_wp2_with fail
 have hrow:=Yp (a0:=.string ⟨#[]⟩) (a1:=.int .i64 0) (a2:=.slice none 0 0) (a3:=.slice none 0 0) (a4:=.string ⟨#[]⟩) k1b.out;obtain⟨q0,q1,q2,q3,q4,_⟩:=Zs hrow;unfold Jl at q0 q1 q2 q3 q4;refine bodyPost_ret (v:=.tuple #[.agg #[Value.string ⟨#[]⟩,Value.int IntKind.i64 0,Value.slice none 0 0,Value.slice none 0 0,Value.string ⟨#[]⟩],.slice none 0 0,.int .i64 1]) (by simp[results,Tryz.results14,go_sem,q0,q1,q2,q3,q4]) rfl ?_;exact⟨_,_,by rw[hM.out],by rw[hM.out];rfl,DV.none _ _,by rw[hM.out];exact Res.empty (Nat.zero_le _),ZZ hB1.out (by omega)⟩
theorem Zh5 (x:DeskV)(s:ByteArray)(w:World)(hx:x.good w w.heap.size)(hs0:x.fStroke.size<=maxLen)(hls:s.size<=1048576)(hok:x.pure.ok=true)(hq:mLine x.pure s=none) :
  Calls Tryz.prog 14 #[.agg #[.string x.fStroke,.int .i64 x.fStakes,.slice x.A x.n x.c,.slice x.A' x.n' x.c',.string x.fLog],.string s] w λe w'=>DcPost w (dcRes x.pure s) e w':=by
 have hM:Hid (dcRes x.pure s=(noM,[],7)):=Za (by unfold dcRes;rw[hok,hq];rfl);have hQ:=Za hq;clear hq;have hxh:=Za hx;clear hx;go_enter Tryz.func14,Tryz.ntmps14;go_upto_region 1 with fail
 obtain⟨W0,hW0⟩:∃W0,W0=((w.alloc (Obj.cells #[Value.string x.fStroke,Value.int IntKind.i64 x.fStakes,Value.slice x.A x.n x.c,Value.slice x.A' x.n' x.c',Value.string x.fLog] 29)).alloc (Obj.cells #[Value.string ⟨#[]⟩,Value.int IntKind.i64 0,Value.slice none 0 0,Value.slice none 0 0,Value.string ⟨#[]⟩] 29)):=⟨_,rfl⟩;have hB0:=Za (show Below w.heap.size w W0 by rw[hW0];go_grown);have k0:=Za (show W0.heap[w.heap.size]?=some (.cells #[Value.string x.fStroke,Value.int IntKind.i64 x.fStakes,Value.slice x.A x.n x.c,Value.slice x.A' x.n' x.c',Value.string x.fLog] 29 (0,0)) by rw[hW0];exact Zc (heap_alloc_new w _));have k1:=Za (show W0.heap[w.heap.size+1]?=some (.cells #[Value.string ⟨#[]⟩,Value.int IntKind.i64 0,Value.slice none 0 0,Value.slice none 0 0,Value.string ⟨#[]⟩] 29 (0,0)) by rw[hW0];exact ZA (by simp));rw[←hW0];clear hW0;obtain⟨c0,c1,c2,c3,c4,cf⟩:=Zs k0.out;go_wp2_with fail
 refine(Zcp w.heap.size x _ k0.out (hxh.out.go hB0.out) hs0).mono ?_;rw[ZO,hok];rintro e w1 ⟨rfl,hb⟩;have hB1:=Za (hB0.out.trans (hb.mono hB0.out.size));have k0b:=Za (Ze k0.out hb);have k1b:=Za (Ze k1.out hb);clear hb c0 c1 c2 c3 c4 cf k0 k1;have hR:=Za (Array.getElem?_eq_some_iff.1 k1b.out).1;have hs1:=Za hB1.out.size;go_wp2_with fail
 refine(Zbl w.heap.size x w1 k0b.out (hxh.out.go hB1.out)).mono ?_;rintro e w2 ⟨x1,rfl,hp,hdv,hhs,hb⟩;have hP1:=Za hp;have hH1:=Za hhs;have hB2:=Za (hB1.out.trans (hb.mono hB1.out.size));have hD2:=Za hdv;have hs2:=Za hb.size;have k1c:=Za (Ze k1b.out hb);clear hb hp hhs hdv k0b k1b;go_upto_region 4 with fail
 obtain⟨g,hg⟩:∃g,g=w2.heap.size:=⟨_,rfl⟩;obtain⟨W3,hW3⟩:∃W3,W3=w2.alloc (Obj.cells #[Value.string x1.fStroke,Value.int IntKind.i64 x1.fStakes,Value.slice x1.A x1.n x1.c,Value.slice x1.A' x1.n' x1.c',Value.string x1.fLog,Value.slice none 0 0,Value.slice none 0 0,Value.slice none 0 0] 81):=⟨_,rfl⟩;have hb23:Below w2.heap.size w2 W3:=by rw[hW3];exact(Below.refl w2.heap.size w2).alloc (Nat.le_refl _) _
 have hB3:=Za (hB2.out.trans (hb23.mono hB2.out.size));have k1d:=Za (Ze k1c.out hb23);have hgl:=Za (show w1.heap.size<=g by have:=hs2.out;omega);have hS3:Hid (SG ⟨.slice none 0 0,0,[]⟩ W3 w1.heap.size g x1 [] (.slice none 0 0) (.slice none 0 0) (.slice none 0 0)):=Za ⟨by rw[hW3,hg];exact heap_alloc_new w2 _,hD2.out.below hb23,Own.nil_ W3 _,hgl.out,Own.nil_ W3 _,.inl rfl⟩;rw[←hW3];rw[←hg];clear hW3 hg hb23 hD2 k1c;go_wp2_with fail
 refine(Uo W3 w1.heap.size g x1 [] (.slice none 0 0) (.slice none 0 0) (.slice none 0 0) s hS3.out (by rw[hP1.out];exact hok) (by simp) hH1.out hls).mono ?_;rw[hP1.out,hQ.out];rintro e w4 ⟨rfl,vn,vt,x4,vo4,hs4,hp4,hh4,hb4⟩;have hB4:=Za (hB3.out.trans (hb4.mono hs1.out));have k1e:=Za ((hb4.block (w.heap.size+1) hR.out).trans k1d.out);clear hb4 hs4 hp4 hh4;obtain⟨r0,r1,r2,r3,r4,rf⟩:=Zs k1e.out;have rf0:=rf 0;have rf1:=rf 1;have rf2:=rf 2;have rf3:=rf 3;have rf4:=rf 4;clear rf;go_wp2_with fail
 have hrow:=Yp (a0:=.string ⟨#[]⟩) (a1:=.int .i64 0) (a2:=.slice none 0 0) (a3:=.slice none 0 0) (a4:=.string ⟨#[]⟩) k1e.out;obtain⟨q0,q1,q2,q3,q4,_⟩:=Zs hrow;unfold Jl at q0 q1 q2 q3 q4;refine bodyPost_ret (v:=.tuple #[.agg #[Value.string ⟨#[]⟩,Value.int IntKind.i64 0,Value.slice none 0 0,Value.slice none 0 0,Value.string ⟨#[]⟩],.slice none 0 0,.int .i64 7]) (by simp[results,Tryz.results14,go_sem,q0,q1,q2,q3,q4]) rfl ?_;exact⟨_,_,by rw[hM.out],by rw[hM.out];rfl,DV.none _ _,by rw[hM.out];exact Res.empty (Nat.zero_le _),ZZ hB4.out (by omega)⟩
theorem Zh4 (x:DeskV)(s:ByteArray)(w:World)(hx:x.good w w.heap.size)(hs0:x.fStroke.size<=maxLen)(hls:s.size<=1048576)(hok:x.pure.ok=true)(q:DeskM × List ByteArray)(hq:mLine x.pure s=some q) :
  Calls Tryz.prog 14 #[.agg #[.string x.fStroke,.int .i64 x.fStakes,.slice x.A x.n x.c,.slice x.A' x.n' x.c',.string x.fLog],.string s] w λe w'=>DcPost w (dcRes x.pure s) e w':=by
 have hM:Hid (dcRes x.pure s=(q.1,q.2,0)):=Za (by unfold dcRes;rw[hok,hq];rfl);have hQ:=Za hq;clear hq;have hxh:=Za hx;clear hx;go_enter Tryz.func14,Tryz.ntmps14;go_upto_region 1 with fail
 obtain⟨W0,hW0⟩:∃W0,W0=((w.alloc (Obj.cells #[Value.string x.fStroke,Value.int IntKind.i64 x.fStakes,Value.slice x.A x.n x.c,Value.slice x.A' x.n' x.c',Value.string x.fLog] 29)).alloc (Obj.cells #[Value.string ⟨#[]⟩,Value.int IntKind.i64 0,Value.slice none 0 0,Value.slice none 0 0,Value.string ⟨#[]⟩] 29)):=⟨_,rfl⟩;have hB0:=Za (show Below w.heap.size w W0 by rw[hW0];go_grown);have k0:=Za (show W0.heap[w.heap.size]?=some (.cells #[Value.string x.fStroke,Value.int IntKind.i64 x.fStakes,Value.slice x.A x.n x.c,Value.slice x.A' x.n' x.c',Value.string x.fLog] 29 (0,0)) by rw[hW0];exact Zc (heap_alloc_new w _));have k1:=Za (show W0.heap[w.heap.size+1]?=some (.cells #[Value.string ⟨#[]⟩,Value.int IntKind.i64 0,Value.slice none 0 0,Value.slice none 0 0,Value.string ⟨#[]⟩] 29 (0,0)) by rw[hW0];exact ZA (by simp));rw[←hW0];clear hW0;obtain⟨c0,c1,c2,c3,c4,cf⟩:=Zs k0.out;go_wp2_with fail
 refine(Zcp w.heap.size x _ k0.out (hxh.out.go hB0.out) hs0).mono ?_;rw[ZO,hok];rintro e w1 ⟨rfl,hb⟩;have hB1:=Za (hB0.out.trans (hb.mono hB0.out.size));have k0b:=Za (Ze k0.out hb);have k1b:=Za (Ze k1.out hb);clear hb c0 c1 c2 c3 c4 cf k0 k1;have hR:=Za (Array.getElem?_eq_some_iff.1 k1b.out).1;have hs1:=Za hB1.out.size;go_wp2_with fail
 refine(Zbl w.heap.size x w1 k0b.out (hxh.out.go hB1.out)).mono ?_;rintro e w2 ⟨x1,rfl,hp,hdv,hhs,hb⟩;have hP1:=Za hp;have hH1:=Za hhs;have hB2:=Za (hB1.out.trans (hb.mono hB1.out.size));have hD2:=Za hdv;have hs2:=Za hb.size;have k1c:=Za (Ze k1b.out hb);clear hb hp hhs hdv k0b k1b;go_upto_region 4 with fail
 obtain⟨g,hg⟩:∃g,g=w2.heap.size:=⟨_,rfl⟩;obtain⟨W3,hW3⟩:∃W3,W3=w2.alloc (Obj.cells #[Value.string x1.fStroke,Value.int IntKind.i64 x1.fStakes,Value.slice x1.A x1.n x1.c,Value.slice x1.A' x1.n' x1.c',Value.string x1.fLog,Value.slice none 0 0,Value.slice none 0 0,Value.slice none 0 0] 81):=⟨_,rfl⟩;have hb23:Below w2.heap.size w2 W3:=by rw[hW3];exact(Below.refl w2.heap.size w2).alloc (Nat.le_refl _) _
 have hB3:=Za (hB2.out.trans (hb23.mono hB2.out.size));have k1d:=Za (Ze k1c.out hb23);have hgl:=Za (show w1.heap.size<=g by have:=hs2.out;omega);have hS3:Hid (SG ⟨.slice none 0 0,0,[]⟩ W3 w1.heap.size g x1 [] (.slice none 0 0) (.slice none 0 0) (.slice none 0 0)):=Za ⟨by rw[hW3,hg];exact heap_alloc_new w2 _,hD2.out.below hb23,Own.nil_ W3 _,hgl.out,Own.nil_ W3 _,.inl rfl⟩;rw[←hW3];rw[←hg];clear hW3 hg hb23 hD2 k1c;go_wp2_with fail
 refine(Uo W3 w1.heap.size g x1 [] (.slice none 0 0) (.slice none 0 0) (.slice none 0 0) s hS3.out (by rw[hP1.out];exact hok) (by simp) hH1.out hls).mono ?_;rw[hP1.out,hQ.out];rintro e w4 ⟨rfl,vn,vt,x4,vo4,hs4,hp4,hh4,hb4⟩;have hB4:=Za (hB3.out.trans (hb4.mono hs1.out));have k1e:=Za ((hb4.block (w.heap.size+1) hR.out).trans k1d.out);rw[Option.getD_some,List.nil_append] at hs4;rw[Option.getD_some] at hp4;have hS4:=Za hs4;have hP4:=Za hp4;clear hb4 hs4 hp4 hh4 k1d;obtain⟨c0,c1,c2,c3,c4,c5,_⟩:=ZL hS4.out.box;obtain⟨r0,r1,r2,r3,r4,rf⟩:=Zs k1e.out;have rf0:=rf 0;have rf1:=rf 1;have rf2:=rf 2;have rf3:=rf 3;have rf4:=rf 4;clear rf;have hne1:¬w.heap.size+1=g:=by have:=hR.out;have:=hgl.out;omega
 have hne2:¬g=w.heap.size+1:=λe=>hne1 e.symm
 go_upto_region 6 with fail
 go_region
 have hrow:=Yp (a0:=.string x4.fStroke) (a1:=.int .i64 x4.fStakes) (a2:=.slice x4.A x4.n x4.c) (a3:=.slice x4.A' x4.n' x4.c') (a4:=.string x4.fLog) k1e.out;have hd5:=Xu (a0:=.string x4.fStroke) (a1:=.int .i64 x4.fStakes) (a2:=.slice x4.A x4.n x4.c) (a3:=.slice x4.A' x4.n' x4.c') (a4:=.string x4.fLog) k1e.out hS4.out.dv;have ho5:=YX (a0:=.string x4.fStroke) (a1:=.int .i64 x4.fStakes) (a2:=.slice x4.A x4.n x4.c) (a3:=.slice x4.A' x4.n' x4.c') (a4:=.string x4.fLog) k1e.out hS4.out.out.res;have hb5:=ZZ (a0:=.string x4.fStroke) (a1:=.int .i64 x4.fStakes) (a2:=.slice x4.A x4.n x4.c) (a3:=.slice x4.A' x4.n' x4.c') (a4:=.string x4.fLog) hB4.out (Nat.le_succ w.heap.size);unfold Jl at hrow hd5 ho5 hb5;obtain⟨W5,hW5⟩:∃W5,W5=((((w4.setCell ⟨w.heap.size+1,0,none⟩ (.string x4.fStroke)).setCell ⟨w.heap.size+1,1,none⟩ (.int .i64 x4.fStakes)).setCell ⟨w.heap.size+1,2,none⟩ (.slice x4.A x4.n x4.c)).setCell ⟨w.heap.size+1,3,none⟩ (.slice x4.A' x4.n' x4.c')).setCell ⟨w.heap.size+1,4,none⟩ (.string x4.fLog):=⟨_,rfl⟩;rw[←hW5] at hrow hd5 ho5 hb5 ⊢;have hdr:Below W5.heap.size W5 W5.drew:=Zb (Below.refl _ _) 1;have hF:=Za (show DV W5.drew w.heap.size x4/\Res ZY 9 1 W5.drew w.heap.size vo4 q.2.length q.2/\Below w.heap.size w W5.drew from⟨(hd5.below hdr).less hs1.out,(ho5.below hdr).less hs1.out,hb5.trans (hdr.mono hb5.size)⟩);obtain⟨q0,q1,q2,q3,q4,_⟩:=Zs (Ze hrow hdr);clear hW5 hrow hd5 ho5 hb5 hdr c0 c1 c2 c3 c4 c5 r0 r1 r2 r3 r4 rf0 rf1 rf2 rf3 rf4;go_wp2
 refine bodyPost_ret (v:=.tuple #[.agg #[Value.string x4.fStroke,Value.int IntKind.i64 x4.fStakes,Value.slice x4.A x4.n x4.c,Value.slice x4.A' x4.n' x4.c',Value.string x4.fLog],vo4,.int .i64 0]) (by simp[results,Tryz.results14,go_sem,q0,q1,q2,q3,q4]) rfl ?_;exact⟨x4,vo4,by rw[hM.out],by rw[hM.out];exact hP4.out,hF.out.1,by rw[hM.out];exact hF.out.2.1,hF.out.2.2⟩
theorem ZjB (x:DeskV)(s:ByteArray)(w:World)(hx:x.good w w.heap.size)(hs0:x.fStroke.size<=maxLen)(hls:s.size<=1048576) :
  Calls Tryz.prog 14 #[.agg #[.string x.fStroke,.int .i64 x.fStakes,.slice x.A x.n x.c,.slice x.A' x.n' x.c',.string x.fLog],.string s] w λe w'=>DcPost w (dcRes x.pure s) e w':=by
 cases hok:x.pure.ok with
 | false=>exact ZjA x s w hx hs0 hls hok
 | true =>
  cases hq:mLine x.pure s with
  | none=>exact Zh5 x s w hx hs0 hls hok hq
  | some q=>exact Zh4 x s w hx hs0 hls hok q hq
theorem Own.str_at {e:TypeId}{w:World}{base g n c:Nat}{l:List ByteArray}(h:Own ZY e 1 w base (.slice (some ⟨g,0,none⟩) n c) n l){k:Nat}(hk:k<n) :
  ∃x,l[k]?=some x/\w.cell? ⟨g,k,none⟩=some (.string x)/\w.frozen? ⟨g,k,none⟩=false:=by
 obtain⟨b,o,x,hA,_,hx,c0⟩:=(h.arr Zf).str hk;injection hA with hA;injection hA with h1 h2;subst h1 h2
 simp only[Nat.zero_add] at c0;exact⟨x,hx,c0,h.2.frozenAt _⟩
theorem UC (A A':Option Addr)(n c n' c':Nat)(l l':List ByteArray)(w:World)(hn:n<=1048576)(hr:Arr ZY 1 w w.heap.size A n l)(hr':Arr ZY 1 w w.heap.size A' n' l') :
  Calls Tryz.prog 17 #[.slice A n c,.slice A' n' c'] w λe w'=>e = .returned (.bool (decide (l=l')))/\Below w.heap.size w w':=by
 have hl:=Za hr.len;have hl':=Za hr'.len;by_cases hne:n=n'
 ·subst hne
  have hpost:Hid (l=l'↔l.take n=l'.take n):=by
   have h1:=hl.out;have h2:=hl'.out;show _↔_
   rw[List.take_of_length_le (by omega),List.take_of_length_le (by omega)]
  go_enter Tryz.func17,Tryz.ntmps17;go_wp2
  go_loopw [5] (λi wr=>∃k:Nat,k<=n/\i = .int .i64 k/\Below w.heap.size w wr/\Hid (l.take k=l'.take k)) (λi _=>n-(intOf i).toNat)
  case atStart=>exact⟨0,Nat.zero_le _,rfl,Below.refl _ _,Za (by simp)⟩
  case round =>
   obtain⟨k,hk,rfl,hb,hpre⟩:=hrel;by_cases hlt:k<n
   ·obtain⟨b,o,x,rfl,hbl,hx,c0⟩:=hr.str hlt
    obtain⟨b',o',y,rfl,hbl',hy,f0⟩:=hr'.str hlt;have d0:wr.cell? ⟨b,o+k,none⟩=some (.string x):=(hb.cell (p:=⟨b,o+k,none⟩) hbl).trans c0;have g0:wr.cell? ⟨b',o' + k,none⟩=some (.string y):=(hb.cell (p:=⟨b',o' + k,none⟩) hbl').trans f0;have hX:=Za hx;have hY:=Za hy;have hB:=Za hb;clear c0 f0 hr hr' hx hy hb;have hlt':(k:Int)<(n:Int):=by omega
    have hk0:(0:Int)<=(k:Int):=by omega
    by_cases hxy:x=y
    ·subst hxy
     go_wp2
     go_quiet (fail)
     go_wp2
     go_roundw
     case rel=>exact⟨k+1,by omega,by go_num,Zb hB.out _,Za (by rw[Zo hX.out,Zo hY.out,hpre.out])⟩
     case measure=>simp[intOf];omega
    ·have e1:=Xn hxy
     have hd:Hid (decide (l=l')=false):=decide_eq_false λhe=>by
      subst he;rw[hX.out] at hY;exact hxy (Option.some.inj hY.out)
     clear hxy;go_wp2
     go_quiet (fail)
     go_wp2
     go_ret;exact⟨ZW hd.out.symm,Zb hB.out _⟩
   ·have hkn:k=n:=by omega
    subst hkn;have hB:=Za hb;clear hb;go_wp2
    go_ret;exact⟨ZW (Eq.symm (decide_eq_true (hpost.out.2 hpre.out))),hB.out⟩
 ·have e1:((n:Int) != (n':Int))=true:=by simp;omega
  have hd:Hid (decide (l=l')=false):=decide_eq_false λhe=>hne (by rw[←hl.out,←hl'.out,he])
  clear hne;go_enter Tryz.func17,Tryz.ntmps17;go_wp2
  go_ret;exact⟨ZW hd.out.symm,Below.refl _ _⟩
end Go.Proofs.YtfpaejlipaainaaGreatDoor
