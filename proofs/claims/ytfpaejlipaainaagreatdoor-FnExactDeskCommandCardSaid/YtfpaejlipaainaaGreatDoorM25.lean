/- Texts that belong together, joined: contracts and plain laws. No statement is proved here. -/
import Derived.Test.YtfpaejlipaainaaGreatDoorM24
set_option maxRecDepth 100000
set_option maxHeartbeats 4000000
namespace Go.Proofs.YtfpaejlipaainaaGreatDoor
open Go.ChangeShapes Go.WideShapes Go.ChangeAt Go.RowKit Go.Deep
section
variable {w w':World}{base b0 b1 b2 b3 b4 b5 b6 b7 b8:Nat}{S bd:Int}{A Al:Option Addr}{n c cl:Nat}{rods:List Int}{vf vo vl vb:Value}{gu:Nat}{o:List Int}{st:List Int × Int}
theorem Wg {B:Nat}{w w1 w2:World}(h:Below B w w1)(hB:B<=w1.heap.size)(k:Below w1.heap.size w1 w2):Below B w w2:=h.trans (k.mono hB)
theorem J7 {B:Nat}{w w1 w2:World}(h:Below B w w1)(k:Below B w1 w2):Below B w w2:=h.trans k
theorem Z7 (rods o:List Int):(laidOf rods o).length=o.length:=by unfold laidOf;rw[List.length_map]
theorem JS.laid (h:JS w base b0 b1 b2 b3 b4 b5 b6 b7 b8 S bd A n c rods vf vo (.slice Al o.length cl) vb gu o st):Arr ZB 1 w w.heap.size Al o.length (laidOf rods o):=by
 have h1:=h.t.o1;rw[Z7] at h1;exact h1.arr Zh
theorem JS.four (h:JS w base b0 b1 b2 b3 b4 b5 b6 b7 b8 S bd A n c rods vf vo vl vb gu o st):w.cell? ⟨b0,0,none⟩=some (.int .i64 st.2)/\w.cell? ⟨b1,0,none⟩=some (.int .i64 S)/\w.cell? ⟨b2,0,none⟩=some vl/\w.cell? ⟨b3,0,none⟩=some (.int .i64 bd) :=
 ⟨h.cells.1.1,h.cells.1.2.1,h.cells.1.2.2.1,h.cells.1.2.2.2.1⟩
theorem JX.four {vr vu:Value}{least:Int}(h:JX w base b0 b1 b2 b3 b4 b5 b6 b7 b8 S bd least vl vo vr vb vu vf):w.cell? ⟨b4,0,none⟩=some vo/\w.cell? ⟨b1,0,none⟩=some (.int .i64 S)/\w.cell? ⟨b2,0,none⟩=some vl/\w.cell? ⟨b3,0,none⟩=some (.int .i64 bd) :=
 ⟨(Yf h.h4).1,(Yf h.h1).1,(Yf h.h2).1,(Yf h.h3).1⟩
theorem JS.four' (h:JS w base b0 b1 b2 b3 b4 b5 b6 b7 b8 S bd A n c rods vf vo vl vb gu o st):w.cell? ⟨b4,0,none⟩=some vo/\w.cell? ⟨b1,0,none⟩=some (.int .i64 S)/\w.cell? ⟨b2,0,none⟩=some vl/\w.cell? ⟨b3,0,none⟩=some (.int .i64 bd) :=
 ⟨h.cells.1.2.2.2.2.1,h.cells.1.2.1,h.cells.1.2.2.1,h.cells.1.2.2.2.1⟩
end
theorem ZgA (base b0 b1 b2 b3 b4 b5 b6 b7 b8:Nat)(S bd:Int)(A:Option Addr)(n c:Nat)(rods:List Int)(vf:Value)(gu:Nat)(hS:3<=S/\S<=60)(hR:RB7 rods)(hn:rods.length=n)
  (hvf:vf = .func (.func 240) #[] #[.pointer (some ⟨b0,0,none⟩),.pointer (some ⟨b1,0,none⟩),.pointer (some ⟨b2,0,none⟩),.pointer (some ⟨b3,0,none⟩),.pointer (some ⟨b4,0,none⟩),.pointer (some ⟨b5,0,none⟩),.pointer (some ⟨b6,0,none⟩),.pointer (some ⟨b7,0,none⟩),.pointer (some ⟨b8,0,none⟩)]) :
  ∀(f:Nat) (o:List Int) (st:List Int × Int) (vo vl vb:Value) (w:World),o.length+f=n+1→(∀z∈o,0<=z/\z<(n:Int))→o.length<=n→JS w base b0 b1 b2 b3 b4 b5 b6 b7 b8 S bd A n c rods vf vo vl vb gu o st →
  Calls Tryz.prog 240 #[.pointer (some ⟨b0,0,none⟩),.pointer (some ⟨b1,0,none⟩),.pointer (some ⟨b2,0,none⟩),.pointer (some ⟨b3,0,none⟩),.pointer (some ⟨b4,0,none⟩),.pointer (some ⟨b5,0,none⟩),.pointer (some ⟨b6,0,none⟩),.pointer (some ⟨b7,0,none⟩),.pointer (some ⟨b8,0,none⟩)] w λe w' =>
   e = .returned (.tuple #[])/\∃vo' vl' vb',JS w' base b0 b1 b2 b3 b4 b5 b6 b7 b8 S bd A n c rods vf vo' vl' vb' gu o (plc S bd rods f o st)/\Below base w w':=by
 have hn7:n<=7:=by rw[←hn];exact hR.1
 have hRh:=Za hR;have hnh:=Za hn;clear hR hn;have hvfh:=Za hvf;clear hvf;intro f
 induction f with
 | zero=>intro o st vo vl vb w h1 _ h2;omega
 | succ f ih =>
  intro o st vo vl vb w hf hv hol hJ;have hvh:=Za hv;have hJh:=Za hJ;have hfh:=Za hf;have hlr:=Za (ZgS hRh.out hnh.out hol hv);have hihh:=Za ih;obtain⟨Ao,co,hvo,hco⟩:=hJ.t.o0.slice;subst hvo;obtain⟨Al,cl,hvl,hcl⟩:=hJ.t.o1.slice;have hlen1:(laidOf rods o).length=o.length:=by unfold laidOf;rw[List.length_map]
  rw[hlen1] at hvl;subst hvl;clear ih hv hJ hf hlen1;obtain⟨m,hm⟩:∃m,m=mAbv S bd (laidOf rods o):=⟨_,rfl⟩;have hmh:=Za hm;clear hm;go_enter Tryz.func240,Tryz.ntmps240;go_upto_region 0 with fail
  go_cut [20] (λv wx=>v = .bool (decide (0<=st.2/\st.2<=(m:Int)))/\JS wx base b0 b1 b2 b3 b4 b5 b6 b7 b8 S bd A n c rods vf (.slice Ao o.length co) (.slice Al o.length cl) vb gu o st/\Below base w wx)
  case first =>
   have hdr:Below w.heap.size w w.drew:=Zb (Below.refl _ _) 1;have hJ2:=Za (hJh.out.below hdr);have hB2:=Za (hdr.mono hJh.out.hb);obtain⟨c0,c1,c2,c3⟩:=hJ2.out.four;clear hdr;by_cases hl:0<=st.2
   ·have hd:decide (0<=st.2)=true:=decide_eq_true hl
    go_region_held3 (λw'=>w'.cell? ⟨b0,0,none⟩=some (.int .i64 st.2)/\w'.cell? ⟨b1,0,none⟩=some (.int .i64 S)/\w'.cell? ⟨b2,0,none⟩=some (.slice Al o.length cl)/\w'.cell? ⟨b3,0,none⟩=some (.int .i64 bd)) (first|go_keep|exact JS.four hJ3.out) (first|(go_at_call 241;refine(Q5 S bd Al o.length cl (laidOf rods o) _ hS hlr.out hJ2.out.laid).mono ?_;rw[←hmh.out];rintro e w4 ⟨rfl,hb4⟩;have hJ3:=Za (hJ2.out.below hb4);have hB3:=Za (Wg hB2.out hJ2.out.hb hb4);clear hb4)|fail)
    go_wp2_with fail
    go_meet
    exact⟨congrArg Value.bool (by simp[hl]),hJ3.out,hB3.out⟩
   ·have hd:decide (0<=st.2)=false:=decide_eq_false hl
    have hd2:Hid (decide (0<=st.2/\st.2<=(m:Int))=false):=Za (by simp[hl]);obtain⟨e0,e1,e2,e3⟩:=hJh.out.four;clear c0 c1 c2 c3;go_quiet (fail)
    go_wp2_with fail
    go_meet
    exact⟨congrArg Value.bool hd2.out.symm,hJh.out.below (Zb (Below.refl _ _) _),Zb (Below.refl _ _) _⟩
  case rest =>
   obtain⟨rfl,hJ1,hB1⟩:=hcut;have hJ:=Za hJ1;have hB:=Za hB1;clear hJ1 hB1 hJh;by_cases hp:0<=st.2/\st.2<=(m:Int)
   ·have hpl:Hid (plc S bd rods (f+1) o st=st):=Za (by rw[plc,if_pos (by rw[←hmh.out];exact hp)])
    have hd:decide (0<=st.2/\st.2<=(m:Int))=true:=decide_eq_true hp;rw[hd];clear hd hp;go_wp2
    refine bodyPost_ret (results_none rfl _ _ _) rfl ?_;exact⟨rfl,_,_,_,by rw[hpl.out];exact hJ.out,hB.out⟩
   have hd:decide (0<=st.2/\st.2<=(m:Int))=false:=decide_eq_false hp;rw[hd];clear hd;obtain⟨c0,c1,c2,c3,c4,c5,c6,c7,c8⟩:=hJ.out.cells.1;by_cases hl:o.length=n
   ·have hpl:Hid (plc S bd rods (f+1) o st=(o,(m:Int))):=Za (by rw[plc,if_neg (by rw[←hmh.out];exact hp),if_pos (by rw[hnh.out];exact hl),←hmh.out])
    have hq:((o.length:Int)==(n:Int))=true:=by rw[hl];simp
    clear hp hl;go_wp2_with fail
    have hdr:Below wc.heap.size wc wc.drew:=Zb (Below.refl _ _) 1;have hJ2:=Za (hJ.out.below hdr);have hB2:=Za (Wg hB.out hJ.out.hb hdr);clear c0 c1 c2 c3 c4 c5 c6 c7 c8 hdr;have ho4:=Za (hJ2.out.t.o0.arr Zh);have hJA:Hid (∀O,JS (wc.alloc O).drew base b0 b1 b2 b3 b4 b5 b6 b7 b8 S bd A n c rods vf (.slice Ao o.length co) (.slice Al o.length cl) vb gu o st):=Za (λO=>hJ2.out.below ((Below.refl _ _).alloc (Nat.le_refl _) O));obtain⟨d1,d2,d3,d4⟩:=hJ2.out.cells.2;obtain⟨c0,c1,c2,c3,c4,c5,c6,c7,c8⟩:=hJ2.out.cells.1;have hA0:Hid (Own ZB 2 1 ((wc.alloc (.cells #[] 2)).drew) base (.slice (some ⟨wc.heap.size,0,none⟩) 0 0) 0 []):=Za (Own.none_made (base:=base) wc.drew hJ2.out.hb);have hA1:Hid (Arr ZB 1 ((wc.alloc (.cells #[] 2)).drew) wc.heap.size Ao o.length o):=Za (ho4.out.below ((Below.refl _ _).alloc (Nat.le_refl _) _));have hA2:base<=((wc.alloc (.cells #[] 2)).drew).heap.size:=(hJA.out _).hb;have hkA:=Za (JS.four' (hJA.out (.cells #[] 2)));go_region_held3 (λw'=>w'.cell? ⟨b4,0,none⟩=some (.slice Ao o.length co)/\w'.cell? ⟨b1,0,none⟩=some (.int .i64 S)/\w'.cell? ⟨b2,0,none⟩=some (.slice Al o.length cl)/\w'.cell? ⟨b3,0,none⟩=some (.int .i64 bd)) (first|exact hkA.out|exact JS.four' hJ6.out|exact JS.four' hJ5.out|exact(hJ6.out.x.set6 _).four|exact((hJ6.out.x.set6 _).set0 _).four|go_keep) (first|(refine X5 rfl (.tmp 26) (.tmp 27) (by rfl) Tryz.underlying60 Zz rfl (by omega) (by omega) Zh ZJ (by rfl) hA0.out (by rfl) hA1.out (by omega) hA2 ?_;intro v5 w5 ho5 hg5 hat5;rw[Nat.zero_add,List.nil_append] at ho5;have hs5:=ZR hat5 rfl;obtain⟨g5,c5,hv5,_,_,_,_⟩:=ho5.formS hs5;subst hv5;clear hs5;have hQ:=Za (JS.copied hJ2.out ho5 hg5 hat5);have hO5:=Za ho5;have hJ5:=Za hQ.out.1;clear ho5 hg5 hat5)|(go_at_call 241;refine(Q5 S bd Al o.length cl (laidOf rods o) _ hS hlr.out hJ5.out.laid).mono ?_;rw[←hmh.out];rintro e w6 ⟨rfl,hb6⟩;have hJ6:=Za (hJ5.out.below hb6);have hO6:=Za (hO5.out.below hb6);have hB6:=Za (Wg (Wg hB2.out hJ2.out.hb hQ.out.2.2.2.2) hJ5.out.hb hb6);obtain⟨q1,q2,q3,q4⟩:=hJ6.out.cells.2;obtain⟨k0,k1,k2,k3,k4,k5,k6,k7,k8⟩:=hJ6.out.cells.1;have z0:=Yf (hJ6.out.x.set6 (.slice (some ⟨g5,0,none⟩) o.length c5)).h0;have z1:=z0.1;have z2:=z0.2 0;clear z0 hb6))
    go_wp2
    refine bodyPost_ret (results_none rfl _ _ _) rfl ?_;exact⟨rfl,_,_,_,by rw[hpl.out];exact JS.best hJ6.out hO6.out hQ.out.2.1 hQ.out.2.2.1 hQ.out.2.2.2.1 (m:Int),(hB6.out.setCell (p:=⟨b6,0,none⟩) hJ6.out.x.lo.2.2.2.2.2.2.1 _).setCell (p:=⟨b0,0,none⟩) hJ6.out.x.lo.1 _⟩
   ·have hpl:Hid (plc S bd rods (f+1) o st=U1 S bd rods f o st n):=Za (by rw[plc,if_neg (by rw[←hmh.out];exact hp),if_neg (by rw[hnh.out];exact hl),hnh.out];rfl)
    have hq:((o.length:Int)==(n:Int))=false:=by rw[beq_eq_false_iff_ne];omega
    have hlt0:o.length<n:=by omega
    clear hp hl;go_wp2
    clear c0 c1 c2 c3 c4 c5 c6 c7 c8;go_loopw [35] (λi wr=>∃(k:Nat) (vo' vl' vb':Value),k<=n/\i = .int .i64 k/\JS wr base b0 b1 b2 b3 b4 b5 b6 b7 b8 S bd A n c rods vf vo' vl' vb' gu o (U1 S bd rods f o st k)/\Below base w wr) (λi _=>n-(intOf i).toNat)
    case atStart=>exact⟨0,_,_,_,Nat.zero_le _,rfl,hJ.out,hB.out⟩
    case round =>
     clear hJ hB hq;obtain⟨k,vo',vl',vb',hk,rfl,hj,hb⟩:=hrel;have hJ:=Za hj;have hB:=Za hb;clear hj hb;by_cases hlt:k<n
     ·obtain⟨rb,ro,x,hA,hrb,hx,cx⟩:=hJ.out.r.int hlt
      subst hA;obtain⟨y,hy,e0,ef⟩:=hJ.out.u.bool_at hlt;rw[WI hlt] at hy;have hy2:decide ((k:Int)∈o)=y:=Option.some.inj hy;have hX:=Za hx;obtain⟨Ao',co',hvo',hco'⟩:=hJ.out.t.o0.slice;subst hvo';obtain⟨Al',cl',hvl',hcl'⟩:=hJ.out.t.o1.slice;rw[Z7] at hvl' hcl';subst hvl';obtain⟨c0,c1,c2,c3,c4,c5,c6,c7,c8⟩:=hJ.out.cells.1;have hk0:(0:Int)<=(k:Int):=by omega
      have hkn:(k:Int)<(n:Int):=by omega
      clear hy hx;cases y with
      | true =>
       have hst:=Za (Zgx (S:=S) (b:=bd) (rods:=rods) (n:=f) (st:=st) (of_decide_eq_true hy2));clear hy2;go_wp2
       go_roundw
       case rel=>exact⟨k+1,_,_,_,by omega,by go_num,by rw[hst.out];exact hJ.out,hB.out⟩
       case measure=>simp[intOf];omega
      | false =>
       have hno:=Za (of_decide_eq_false hy2);have hst:=Za (Zie (S:=S) (b:=bd) (rods:=rods) (n:=f) (st:=st) hno.out);clear hy2;go_upto_region 7 with fail
       go_cut [50] (λ_ wx=>∃vo2 vl2,JS wx base b0 b1 b2 b3 b4 b5 b6 b7 b8 S bd (some ⟨rb,ro,none⟩) n c rods vf vo2 vl2 vb' gu (o++[(k:Int)]) (U1 S bd rods f o st k)/\Below base w wx)
       case first =>
        have hRs:=Za (R7.start (k:=(k:Int)) (x:=x) hJ.out hB.out u49 u50 u53 u54);have hown:=Za hJ.out.t;clear c0 c1 c2 c3 c4 c5 c6 c7 c8 cx e0 ef;refine Xw (by kernel_rfl) (λl a wx=>∃(B0 B1 B2 B3 B4 B5 B6 B7 B8 B9 B10 B11 B12 B13:Bool) (v45 v46 v47 v48 v49 v50 v51 v52 v53 v54 v55:Value),l=#[B0,B1,B2,B3,B4,B5,B6,B7,B8,B9,B10,B11,B12,B13]/\a={ tmps:=#[Value.pointer (some { block:=b0,off:=0 }),Value.pointer (some { block:=b1,off:=0 }),Value.pointer (some { block:=b2,off:=0 }),Value.pointer (some { block:=b3,off:=0 }),Value.pointer (some { block:=b4,off:=0 }),Value.pointer (some { block:=b5,off:=0 }),Value.pointer (some { block:=b6,off:=0 }),Value.pointer (some { block:=b7,off:=0 }),Value.pointer (some { block:=b8,off:=0 }),Value.int IntKind.i64 (k:Int),Value.int IntKind.i64 x,u11,u12,u13,u14,u15,u16,u17,u18,u19,Value.bool false,Value.slice Ao o.length co,Value.int IntKind.i64 (o.length:Int),Value.slice (some { block:=rb,off:=ro }) n c,Value.int IntKind.i64 (n:Int),Value.bool false,u26,u27,u28,u29,u30,u31,u32,Value.slice (some { block:=rb,off:=ro }) n c,Value.int IntKind.i64 (n:Int),Value.int IntKind.i64 (k:Int),Value.bool true,Value.int IntKind.i64 (k:Int),Value.pointer (some { block:=rb,off:=ro+k }),Value.int IntKind.i64 x,Value.slice (some { block:=gu,off:=0 }) n n,Value.int IntKind.i64 (k:Int),Value.pointer (some { block:=gu,off:=k }),Value.bool false,Value.bool true,v45,v46,v47,v48,v49,v50,v51,v52,v53,v54,v55,u56,u57,u58,u59,u60,u61,u62,u63,u64,u65,u66,u67,u68,u69,u70,u71],defers:=[] }/\(B0=true→v45 = .slice (some ⟨gu,0,none⟩) n n)/\(B1=true→v46 = .int .i64 (k:Int))/\(B2=true→v47 = .slice Ao' o.length co')/\(B3=true→v48 = .int .i64 (k:Int))/\(B6=true→v51 = .slice Al' o.length cl')/\(B7=true→v52 = .int .i64 x)/\(B10=true→v55 = .pointer (some ⟨gu,k,none⟩))/\(B5=true→B2=true)/\(B4=true→B3=true)/\(B9=true→B6=true)/\(B8=true→B7=true)/\E7 w wr base b0 b1 b2 b3 b4 b5 b6 b7 b8 S bd (some ⟨rb,ro,none⟩) n c rods vf (.slice Ao' o.length co') (.slice Al' o.length cl') vb' gu o (U1 S bd rods f o st k) k x B0 B1 B2 B3 B4 B5 B6 B7 B8 B9 B10 B11 B12 B13 v49 v50 v53 v54 wx) ?_ ?_ ?_
        ·exact⟨false,false,false,false,false,false,false,false,false,false,false,false,false,false,u45,u46,u47,u48,u49,u50,u51,u52,u53,u54,u55,rfl,rfl,λe=>(by cases e),λe=>(by cases e),λe=>(by cases e),λe=>(by cases e),λe=>(by cases e),λe=>(by cases e),λe=>(by cases e),λe=>(by cases e),λe=>(by cases e),λe=>(by cases e),λe=>(by cases e),⟨λ_=>hRs.out,λe=>(by cases e),λe=>(by cases e),λe=>(by cases e),λe=>(by cases e)⟩⟩
        ·rintro l a wx ⟨B0,B1,B2,B3,B4,B5,B6,B7,B8,B9,B10,B11,B12,B13,v45,v46,v47,v48,v49,v50,v51,v52,v53,v54,v55,rfl,rfl,f0,f1,f2,f3,f6,f7,f10,g5,g4,g9,g8,hE⟩ i hi hl ha
         have hi14:i<14:=hi;have hEh:=Za hE;clear hE hi hRs;rcases(by omega:i=0\/i=1\/i=2\/i=3\/i=4\/i=5\/i=6\/i=7\/i=8\/i=9\/i=10\/i=11\/i=12\/i=13) with rfl|rfl|rfl|rfl|rfl|rfl|rfl|rfl|rfl|rfl|rfl|rfl|rfl|rfl
         ·have hb:B0=false:=hl
          clear hl;obtain rfl:=hb;clear ha;have h11:B11=false:=by cases hx:B11;rfl;(have:=hEh.out.d hx;simp at this)
          obtain rfl:=h11;have hRr:=Za (hEh.out.r rfl);have hE12:B12=false:=by cases hx:B12;rfl;(have:=hEh.out.c12 hx;cases this)
          have hE13:B13=false:=by cases hx:B13;rfl;(have:=hEh.out.c13 hx;rw[hE12] at this;cases this)
          obtain rfl:=hE12;obtain rfl:=hE13;clear hEh;obtain⟨c7,c2,c4⟩:=hRr.out.cells;refine Zn rfl rfl λK hK=>?_
          go_simp
          refine hK _ _ ?_;exact⟨true,B1,B2,B3,B4,B5,B6,B7,B8,B9,B10,false,false,false,_,v46,v47,v48,v49,v50,v51,v52,v53,v54,v55,rfl,rfl,λ_=>rfl,f1,f2,f3,f6,f7,f10,g5,g4,g9,g8,⟨λ_=>hRr.out,λe=>(by cases e),λe=>(by cases e),λe=>(by cases e),λe=>(by cases e)⟩⟩
         ·have hb:B1=false:=hl
          clear hl;obtain rfl:=hb;clear ha;have h11:B11=false:=by cases hx:B11;rfl;(have:=hEh.out.d hx;simp at this)
          obtain rfl:=h11;have hRr:=Za (hEh.out.r rfl);have hE12:B12=false:=by cases hx:B12;rfl;(have:=hEh.out.c12 hx;cases this)
          have hE13:B13=false:=by cases hx:B13;rfl;(have:=hEh.out.c13 hx;rw[hE12] at this;cases this)
          obtain rfl:=hE12;obtain rfl:=hE13;clear hEh;refine Zn rfl rfl λK hK=>?_
          go_simp
          refine hK _ _ ?_;exact⟨B0,true,B2,B3,B4,B5,B6,B7,B8,B9,B10,false,false,false,v45,_,v47,v48,v49,v50,v51,v52,v53,v54,v55,rfl,rfl,f0,λ_=>rfl,f2,f3,f6,f7,f10,g5,g4,g9,g8,⟨λ_=>hRr.out,λe=>(by cases e),λe=>(by cases e),λe=>(by cases e),λe=>(by cases e)⟩⟩
         ·have hb:B2=false:=hl
          clear hl;obtain rfl:=hb;clear ha;have h11:B11=false:=by cases hx:B11;rfl;(have:=hEh.out.d hx;simp at this)
          obtain rfl:=h11;have hRr:=Za (hEh.out.r rfl);have hE12:B12=false:=by cases hx:B12;rfl;(have:=hEh.out.c12 hx;cases this)
          have hE13:B13=false:=by cases hx:B13;rfl;(have:=hEh.out.c13 hx;rw[hE12] at this;cases this)
          obtain rfl:=hE12;obtain rfl:=hE13;clear hEh;obtain⟨c7,c2,c4⟩:=hRr.out.cells;refine Zn rfl rfl λK hK=>?_
          go_simp
          refine hK _ _ ?_;exact⟨B0,B1,true,B3,B4,B5,B6,B7,B8,B9,B10,false,false,false,v45,v46,_,v48,v49,v50,v51,v52,v53,v54,v55,rfl,rfl,f0,f1,λ_=>rfl,f3,f6,f7,f10,λ_=>rfl,g4,g9,g8,⟨λ_=>hRr.out,λe=>(by cases e),λe=>(by cases e),λe=>(by cases e),λe=>(by cases e)⟩⟩
         ·have hb:B3=false:=hl
          clear hl;obtain rfl:=hb;clear ha;have h11:B11=false:=by cases hx:B11;rfl;(have:=hEh.out.d hx;simp at this)
          obtain rfl:=h11;have hRr:=Za (hEh.out.r rfl);have hE12:B12=false:=by cases hx:B12;rfl;(have:=hEh.out.c12 hx;cases this)
          have hE13:B13=false:=by cases hx:B13;rfl;(have:=hEh.out.c13 hx;rw[hE12] at this;cases this)
          obtain rfl:=hE12;obtain rfl:=hE13;clear hEh;refine Zn rfl rfl λK hK=>?_
          go_simp
          refine hK _ _ ?_;exact⟨B0,B1,B2,true,B4,B5,B6,B7,B8,B9,B10,false,false,false,v45,v46,v47,_,v49,v50,v51,v52,v53,v54,v55,rfl,rfl,f0,f1,f2,λ_=>rfl,f6,f7,f10,g5,λ_=>rfl,g9,g8,⟨λ_=>hRr.out,λe=>(by cases e),λe=>(by cases e),λe=>(by cases e),λe=>(by cases e)⟩⟩
         ·have hb:B4=false:=hl
          clear hl;obtain rfl:=hb;simp[Region.binds] at ha;have h11:B11=false:=by cases hx:B11;rfl;(have:=hEh.out.d hx;simp at this)
          obtain rfl:=h11;have hRr:=Za (hEh.out.r rfl);have hE12:B12=false:=by cases hx:B12;rfl;(have:=hEh.out.c12 hx;cases this)
          have hE13:B13=false:=by cases hx:B13;rfl;(have:=hEh.out.c13 hx;rw[hE12] at this;cases this)
          obtain rfl:=hE12;obtain rfl:=hE13;clear hEh;obtain rfl:=f3 ha;refine Zn rfl rfl λK hK=>?_
          go_simp
          refine hK _ _ ?_;exact⟨B0,B1,B2,B3,true,B5,B6,B7,B8,B9,B10,false,false,false,v45,v46,v47,_,_,v50,v51,v52,v53,v54,v55,rfl,rfl,f0,f1,f2,f3,f6,f7,f10,g5,λ_=>ha,g9,g8,⟨λ_=>hRr.out.four,λe=>(by cases e),λe=>(by cases e),λe=>(by cases e),λe=>(by cases e)⟩⟩
         ·have hb:B5=false:=hl
          clear hl;obtain rfl:=hb;simp[Region.binds] at ha;have h11:B11=false:=by cases hx:B11;rfl;(have:=hEh.out.d hx;simp at this)
          obtain rfl:=h11;have hRr:=Za (hEh.out.r rfl);have hE12:B12=false:=by cases hx:B12;rfl;(have:=hEh.out.c12 hx;cases this)
          have hE13:B13=false:=by cases hx:B13;rfl;(have:=hEh.out.c13 hx;rw[hE12] at this;cases this)
          obtain rfl:=hE12;obtain rfl:=hE13;clear hEh;obtain⟨h2,h4⟩:=ha;obtain rfl:=f2 h2;obtain rfl:=h4;obtain⟨q,rfl,hq,hql⟩:=hRr.out.q4 rfl rfl;refine WH rfl rfl ?_;refine X5 rfl (.tmp 47) (.tmp 49) (by rfl) Tryz.underlying60 Zz rfl (by omega) (by omega) Zh ZJ (by rfl) (hRr.out.m0 rfl).t.o0 (by rfl) (Qh hq) (by omega) hRr.out.hb ?_;intro v5 w5 ho5 hg5 hat5;exact⟨B0,B1,B2,B3,true,true,B6,B7,B8,B9,B10,false,false,false,v45,v46,_,v48,_,_,v51,v52,v53,v54,v55,rfl,rfl,f0,f1,f2,f3,f6,f7,f10,λ_=>h2,g4,g9,g8,⟨λ_=>hRr.out.five rfl rfl ho5 hg5 hat5 (Nat.le_refl _),λe=>(by cases e),λe=>(by cases e),λe=>(by cases e),λe=>(by cases e)⟩⟩
         ·have hb:B6=false:=hl
          clear hl;obtain rfl:=hb;clear ha;have h11:B11=false:=by cases hx:B11;rfl;(have:=hEh.out.d hx;simp at this)
          obtain rfl:=h11;have hRr:=Za (hEh.out.r rfl);have hE12:B12=false:=by cases hx:B12;rfl;(have:=hEh.out.c12 hx;cases this)
          have hE13:B13=false:=by cases hx:B13;rfl;(have:=hEh.out.c13 hx;rw[hE12] at this;cases this)
          obtain rfl:=hE12;obtain rfl:=hE13;clear hEh;obtain⟨c7,c2,c4⟩:=hRr.out.cells;refine Zn rfl rfl λK hK=>?_
          go_simp
          refine hK _ _ ?_;exact⟨B0,B1,B2,B3,B4,B5,true,B7,B8,B9,B10,false,false,false,v45,v46,v47,v48,v49,v50,_,v52,v53,v54,v55,rfl,rfl,f0,f1,f2,f3,λ_=>rfl,f7,f10,g5,g4,λ_=>rfl,g8,⟨λ_=>hRr.out,λe=>(by cases e),λe=>(by cases e),λe=>(by cases e),λe=>(by cases e)⟩⟩
         ·have hb:B7=false:=hl
          clear hl;obtain rfl:=hb;clear ha;have h11:B11=false:=by cases hx:B11;rfl;(have:=hEh.out.d hx;simp at this)
          obtain rfl:=h11;have hRr:=Za (hEh.out.r rfl);have hE12:B12=false:=by cases hx:B12;rfl;(have:=hEh.out.c12 hx;cases this)
          have hE13:B13=false:=by cases hx:B13;rfl;(have:=hEh.out.c13 hx;rw[hE12] at this;cases this)
          obtain rfl:=hE12;obtain rfl:=hE13;clear hEh;refine Zn rfl rfl λK hK=>?_
          go_simp
          refine hK _ _ ?_;exact⟨B0,B1,B2,B3,B4,B5,B6,true,B8,B9,B10,false,false,false,v45,v46,v47,v48,v49,v50,v51,_,v53,v54,v55,rfl,rfl,f0,f1,f2,f3,f6,λ_=>rfl,f10,g5,g4,g9,λ_=>rfl,⟨λ_=>hRr.out,λe=>(by cases e),λe=>(by cases e),λe=>(by cases e),λe=>(by cases e)⟩⟩
         ·have hb:B8=false:=hl
          clear hl;obtain rfl:=hb;simp[Region.binds] at ha;have h11:B11=false:=by cases hx:B11;rfl;(have:=hEh.out.d hx;simp at this)
          obtain rfl:=h11;have hRr:=Za (hEh.out.r rfl);have hE12:B12=false:=by cases hx:B12;rfl;(have:=hEh.out.c12 hx;cases this)
          have hE13:B13=false:=by cases hx:B13;rfl;(have:=hEh.out.c13 hx;rw[hE12] at this;cases this)
          obtain rfl:=hE12;obtain rfl:=hE13;clear hEh;obtain rfl:=f7 ha;refine Zn rfl rfl λK hK=>?_
          go_simp
          refine hK _ _ ?_;exact⟨B0,B1,B2,B3,B4,B5,B6,B7,true,B9,B10,false,false,false,v45,v46,v47,v48,v49,v50,v51,_,_,v54,v55,rfl,rfl,f0,f1,f2,f3,f6,f7,f10,g5,g4,g9,λ_=>ha,⟨λ_=>hRr.out.eight,λe=>(by cases e),λe=>(by cases e),λe=>(by cases e),λe=>(by cases e)⟩⟩
         ·have hb:B9=false:=hl
          clear hl;obtain rfl:=hb;simp[Region.binds] at ha;have h11:B11=false:=by cases hx:B11;rfl;(have:=hEh.out.d hx;simp at this)
          obtain rfl:=h11;have hRr:=Za (hEh.out.r rfl);have hE12:B12=false:=by cases hx:B12;rfl;(have:=hEh.out.c12 hx;cases this)
          have hE13:B13=false:=by cases hx:B13;rfl;(have:=hEh.out.c13 hx;rw[hE12] at this;cases this)
          obtain rfl:=hE12;obtain rfl:=hE13;clear hEh;obtain⟨h6,h8,h5⟩:=ha;obtain rfl:=f6 h6;obtain rfl:=h8;obtain rfl:=h5;obtain⟨q,rfl,hq,hql⟩:=hRr.out.q8 rfl rfl;have hlo:=(hRr.out.m1 rfl rfl).t.o1;rw[Z7] at hlo;refine WH rfl rfl ?_;refine X5 rfl (.tmp 51) (.tmp 53) (by rfl) Tryz.underlying60 Zz rfl (by omega) (by omega) Zh ZJ (by rfl) hlo (by rfl) (Qh hq) (by omega) hRr.out.hb ?_;intro v5 w5 ho5 hg5 hat5;exact⟨B0,B1,B2,B3,B4,true,B6,B7,true,true,B10,false,false,false,v45,v46,v47,v48,v49,v50,_,v52,_,_,v55,rfl,rfl,f0,f1,f2,f3,f6,f7,f10,g5,g4,λ_=>h6,g8,⟨λ_=>hRr.out.nine rfl rfl rfl (by rw[Z7];exact ho5) hg5 hat5 (Nat.le_refl _),λe=>(by cases e),λe=>(by cases e),λe=>(by cases e),λe=>(by cases e)⟩⟩
         ·have hb:B10=false:=hl
          clear hl;obtain rfl:=hb;simp[Region.binds] at ha;have h11:B11=false:=by cases hx:B11;rfl;(have:=hEh.out.d hx;simp at this)
          obtain rfl:=h11;have hRr:=Za (hEh.out.r rfl);have hE12:B12=false:=by cases hx:B12;rfl;(have:=hEh.out.c12 hx;cases this)
          have hE13:B13=false:=by cases hx:B13;rfl;(have:=hEh.out.c13 hx;rw[hE12] at this;cases this)
          obtain rfl:=hE12;obtain rfl:=hE13;clear hEh;obtain⟨h0,h1,_,_,h5,h9⟩:=ha;obtain rfl:=f0 h0;obtain rfl:=f1 h1;refine Zn rfl rfl λK hK=>?_
          go_simp
          refine hK _ _ ?_;exact⟨B0,B1,B2,B3,B4,B5,B6,B7,B8,B9,true,false,false,false,_,_,_,_,v49,v50,_,_,v53,v54,_,rfl,rfl,(by first|exact λ_=>rfl|exact f0),(by first|exact λ_=>rfl|exact f1),(by first|exact λ_=>rfl|exact f2),(by first|exact λ_=>rfl|exact f3),(by first|exact λ_=>rfl|exact f6),(by first|exact λ_=>rfl|exact f7),λ_=>rfl,g5,g4,g9,g8,⟨λ_=>hRr.out,λe=>(by cases e),λe=>(by cases e),λe=>(by cases e),λe=>(by cases e)⟩⟩
         ·have hb:B11=false:=hl
          clear hl;obtain rfl:=hb;simp[Region.binds] at ha;obtain⟨h10,h9,h0,h1,h5,_⟩:=ha;have hE12:B12=false:=by cases hx:B12;rfl;(have:=hEh.out.c12 hx;cases this)
          have hE13:B13=false:=by cases hx:B13;rfl;(have:=hEh.out.c13 hx;rw[hE12] at this;cases this)
          obtain rfl:=hE12;obtain rfl:=hE13;have hRr:=Za (hEh.out.r rfl);have h8:=hRr.out.c98 h9;have h4:=hRr.out.c54 h5;have hm:=Za (hRr.out.m2 h9);obtain rfl:=f10 h10;obtain⟨_,_,⟨z,e1⟩,e2,_,_,_,_⟩:=hm.out.facts hlt true;refine Zn rfl rfl λK hK=>?_
          go_simp
          refine hK _ _ ?_;exact⟨B0,B1,B2,B3,B4,B5,B6,B7,B8,B9,B10,true,false,false,_,_,_,_,v49,v50,_,_,v53,v54,_,rfl,rfl,(by first|exact λ_=>rfl|exact f0),(by first|exact λ_=>rfl|exact f1),(by first|exact λ_=>rfl|exact f2),(by first|exact λ_=>rfl|exact f3),(by first|exact λ_=>rfl|exact f6),(by first|exact λ_=>rfl|exact f7),(by first|exact λ_=>rfl|exact f10),g5,g4,g9,g8,⟨λe=>(by cases e),λ_=>⟨h0,h1,g5 h5,g4 h4,h4,h5,g9 h9,g8 h8,h8,h9,h10⟩,λ_=>rfl,λe=>(by cases e),λ_=>⟨_,hm.out,hRr.out.b,λ_=>rfl,λe=>(by cases e),λe=>(by cases e)⟩⟩⟩
         ·have hb:B12=false:=hl
          clear hl;obtain rfl:=hb;simp[Region.binds] at ha;have h11:B11=true:=ha.2.1;have hd:=hEh.out.d h11;obtain⟨w1,hm0,hbw,q0,q1,q2⟩:=hEh.out.e h11;have hm:=Za hm0;have hf:=hm0.facts hlt true;have hB1:=Za hbw;clear hm0 hbw;have hoA:=hm.out.t.o0;rw[List.length_append,List.length_singleton] at hoA;have hoB:=hm.out.t.o1;rw[List.length_append,List.length_singleton,Z7] at hoB;obtain⟨gA,cA,rfl⟩:=U7 hoA;obtain⟨gB,cB,rfl⟩:=U7 hoB;clear hoA hoB;obtain rfl:=q0 rfl;have hE13:B13=false:=by cases hx:B13;rfl;(have:=hEh.out.c13 hx;cases this)
          obtain rfl:=hE13;obtain⟨_,_,_,_,e3,e4,e5,e6⟩:=hf;clear q0 q1 q2 ha hEh;refine Zn rfl rfl λK hK=>?_
          go_simp
          refine hK _ _ ?_;exact⟨B0,B1,B2,B3,B4,B5,B6,B7,B8,B9,B10,B11,true,false,_,_,_,_,v49,_,_,_,v53,_,_,rfl,rfl,(by first|exact λ_=>rfl|exact f0),(by first|exact λ_=>rfl|exact f1),(by first|exact λ_=>rfl|exact f2),(by first|exact λ_=>rfl|exact f3),(by first|exact λ_=>rfl|exact f6),(by first|exact λ_=>rfl|exact f7),(by first|exact λ_=>rfl|exact f10),g5,g4,g9,g8,⟨λe=>(by rw[h11] at e;cases e),λ_=>hd,λ_=>h11,λe=>(by cases e),λ_=>⟨w1,hm.out,hB1.out,λe=>(by cases e),λ_ _=>rfl,λe=>(by cases e)⟩⟩⟩
         ·have hb:B13=false:=hl
          clear hl;obtain rfl:=hb;simp[Region.binds] at ha;have h11:B11=true:=hEh.out.c12 ha.2.1;have hd:=hEh.out.d h11;obtain⟨w1,hm0,hbw,q0,q1,q2⟩:=hEh.out.e h11;have hm:=Za hm0;have hf:=hm0.facts hlt true;have hB1:=Za hbw;clear hm0 hbw;have hoA:=hm.out.t.o0;rw[List.length_append,List.length_singleton] at hoA;have hoB:=hm.out.t.o1;rw[List.length_append,List.length_singleton,Z7] at hoB;obtain⟨gA,cA,rfl⟩:=U7 hoA;obtain⟨gB,cB,rfl⟩:=U7 hoB;clear hoA hoB;have h12:B12=true:=ha.2.1;obtain rfl:=q1 h12 rfl;obtain⟨_,_,_,_,e3,e4,e5,e6⟩:=hf;clear q0 q1 q2 ha hEh;refine Zn rfl rfl λK hK=>?_
          go_simp
          refine hK _ _ ?_;exact⟨B0,B1,B2,B3,B4,B5,B6,B7,B8,B9,B10,B11,B12,true,_,_,_,_,v49,_,_,_,v53,_,_,rfl,rfl,(by first|exact λ_=>rfl|exact f0),(by first|exact λ_=>rfl|exact f1),(by first|exact λ_=>rfl|exact f2),(by first|exact λ_=>rfl|exact f3),(by first|exact λ_=>rfl|exact f6),(by first|exact λ_=>rfl|exact f7),(by first|exact λ_=>rfl|exact f10),g5,g4,g9,g8,⟨λe=>(by rw[h11] at e;cases e),λ_=>hd,λ_=>h11,λ_=>h12,λ_=>⟨w1,hm.out,hB1.out,λe=>(by rw[h12] at e;cases e),λ_ e=>(by cases e),λ_=>rfl⟩⟩⟩
        ·rintro l a wx ⟨B0,B1,B2,B3,B4,B5,B6,B7,B8,B9,B10,B11,B12,B13,v45,v46,v47,v48,v49,v50,v51,v52,v53,v54,v55,rfl,rfl,_,_,_,_,_,_,_,_,_,_,_,hE⟩ hr
         have h13:B13=true:=Yl (by kernel_rfl) rfl hr 14 13 (by decide) (by decide);obtain⟨w1,hm0,hbw,q0,q1,q2⟩:=hE.e (hE.c12 (hE.c13 h13));have hm:=Za hm0;have hB1:=Za hbw;obtain rfl:=q2 h13;clear hm0 hbw q0 q1 q2 hE hr h13;go_wp2_with fail
         go_meet
         exact⟨_,_,hm.out.stored hlt true (Jr hlt) (Wt hX.out).symm,((hB1.out.setCell (p:=⟨gu,k,none⟩) (hm.out.u.2.lt _ rfl).1 _).setCell (p:=⟨b4,0,none⟩) hm.out.x.lo.2.2.2.2.1 _).setCell (p:=⟨b2,0,none⟩) hm.out.x.lo.2.2.1 _⟩
       case rest =>
        obtain⟨vo2,vl2,hj2,hb2⟩:=hcut;have hJ2:=Za hj2;have hB2:=Za hb2;clear hj2 hb2 hJ hB c0 c1 c2 c3 c4 c5 c6 c7 c8 e0 ef cx;obtain⟨c0,c1,c2,c3,c4,c5,c6,c7,c8⟩:=hJ2.out.cells.1;rw[hvfh.out] at c8;go_wp2_with fail
        refine(hihh.out (o++[(k:Int)]) (U1 S bd rods f o st k) vo2 vl2 vb' _ ?_ ?_ ?_ hJ2.out).mono ?_
        ·rw[List.length_append,List.length_singleton];have:=hfh.out;omega
        ·intro z hz
         rcases List.mem_append.1 hz with hz|hz
         ·exact hvh.out z hz
         ·rw[List.mem_singleton.1 hz];omega
        ·rw[List.length_append,List.length_singleton];omega
        rintro e w5⟨rfl,vo3,vl3,vb3,hj3,hb3⟩;rw[←hst.out] at hj3;have hJ3:=Za hj3;have hB3:=Za (J7 hB2.out hb3);clear hj3 hb3 hJ2 hB2 c0 c1 c2 c3 c4 c5 c6 c7 c8;go_upto_region 9 with fail
        have hl3:(o++[(k:Int)]).length=o.length+1:=by simp
        obtain⟨g3,k3,x3,rfl,_,_,_⟩:=hJ3.out.t.o0.at' (k:=0) (by rw[hl3];omega);obtain⟨g4,k4,x4,rfl,_,_,_⟩:=hJ3.out.t.o1.at' (k:=0) (by rw[Z7,hl3];omega);have hm3:o.length+1<=k3:=by
         rcases hJ3.out.t.o0.form with ⟨h,_⟩|⟨_,_,h,_,_,h5,_⟩
         ·cases h
         ·injection h with _ _ h6;rw[h6];omega
        have hm4:o.length+1<=k4:=by
         rcases hJ3.out.t.o1.form with ⟨h,_⟩|⟨_,_,h,_,_,h5,_⟩
         ·cases h
         ·injection h with _ _ h6;rw[h6];rw[Z7] at h5;omega
        have hcell:=hJ3.out.cells;rw[Z7,hl3] at hcell;obtain⟨⟨c0,c1,c2,c3,c4,c5,c6,c7,c8⟩,d1,d2,d3,d4⟩:=hcell;obtain⟨y3,_,e0,ef⟩:=hJ3.out.u.bool_at hlt;have hr3:=Wn (P:=Tryz.prog) Tryz.underlying60 Zz g3 0 (o.length+1) k3 o.length (by omega);have hr4:=Wn (P:=Tryz.prog) Tryz.underlying60 Zz g4 0 (o.length+1) k4 o.length (by omega);have hw9:IntKind.i64.wrap (((o.length+1:Nat):Int)-1)=(o.length:Int):=by rw[show((o.length+1:Nat):Int)-1=(o.length:Int) by omega];exact IntWalk.i64_in _ (by omega)
        have xU:=hJ3.out.x.bool hJ3.out.u (Zl w5 gu k (.bool false));rw[Z7,hl3] at xU;have z0:=Yf xU.h4;have z1:=z0.1;have z2:=z0.2 0;have z3:=Yf (xU.set4 (.slice (some ⟨g3,0,none⟩) o.length k3)).h2;have z4:=z3.1;have z5:=z3.2 0;have z6:=(Yf xU.h2).1;clear hl3 hm3 hm4 z0 z3 xU;go_region
        have hJ4:=Za ((JS.popped hJ3.out hlt hno.out hX.out).below (Zb (Below.refl _ _) 1));have hlo:=hJ3.out.x.lo;have hB4:=Za (Zb (((hB3.out.setCell (p:=⟨gu,k,none⟩) (hJ3.out.u.2.lt _ rfl).1 (.bool false)).setCell (p:=⟨b4,0,none⟩) hlo.2.2.2.2.1 (.slice (some ⟨g3,0,none⟩) o.length k3)).setCell (p:=⟨b2,0,none⟩) hlo.2.2.1 (.slice (some ⟨g4,0,none⟩) o.length k4)) 1);clear hlo c0 c1 c2 c3 c4 c5 c6 c7 c8 d1 d2 d3 d4 e0 ef hr3 hr4 hw9 z1 z2 z4 z5 z6;go_wp2
        go_roundw
        case rel=>exact⟨k+1,_,_,_,by omega,by go_num,hJ4.out,hB4.out⟩
        case measure=>simp[intOf];omega
     ·have hkn:k=n:=by omega
      have hfin:Hid (U1 S bd rods f o st k=plc S bd rods (f+1) o st):=Za (by rw[hpl.out,hkn]);have hnk:¬(k:Int)<(n:Int):=by omega
      clear hkn;go_wp2
      refine bodyPost_end (results_none rfl _ _ _) rfl ?_;exact⟨rfl,⟨_,_,_,by rw[←hfin.out];exact hJ.out⟩,hB.out⟩
end Go.Proofs.YtfpaejlipaainaaGreatDoor
