/- Texts that belong together, joined: contracts and plain laws. No statement is proved here. -/
import Derived.Test.YtfpaejlipaainaaGreatDoorM10
import Derived.Deep.LoopGhost
set_option maxRecDepth 100000
set_option maxHeartbeats 1000000
namespace Go.Proofs.YtfpaejlipaainaaGreatDoor
open Go.ChangeShapes Go.WideShapes Go.ChangeAt Go.RowKit Go.Deep
theorem QY:(Tryz.prog.info? 116).map (λi=>(i.zero,i.size,i.bytes))=some (some (.agg #[.int .i64 0,.string ByteArray.empty,.int .i64 0]),3,32):=by kernel_rfl
theorem Entry.one:∀x,∀u∈Entry.cells x,u.oneCell'=true:=by intro x u hu;simp[Entry.cells] at hu;rcases hu with rfl|rfl|rfl<;>rfl
theorem ZbG {w w8:World}{B g:Nat}{s:ByteArray}{at_:Nat}{st:Int}{v:Value}{done:List Entry}{X:Entry}{A8:Option Addr}{c8:Nat}
  (hb:w8.heap[g]?=some (.cells #[.string s,.int .i64 at_,.int .i64 st,v] 166 (0,0))) (ho:Own Entry.cells 116 3 w8 B (.slice A8 (done.length+1) c8) (done.length+1) (done++[X])) (hB:Below B w w8) (hBg:B<=g) (st':Int) (k:Nat) :
  RB (((w8.setCell ⟨g,3,none⟩ (.slice A8 (done.length+1) c8)).setCell ⟨g,2,none⟩ (.int .i64 st')).setCell ⟨g,1,none⟩ (.int .i64 ((k:Int)+1))) B g s (done++[X]) (k+1) st' /\
  Below B w (((w8.setCell ⟨g,3,none⟩ (.slice A8 (done.length+1) c8)).setCell ⟨g,2,none⟩ (.int .i64 st')).setCell ⟨g,1,none⟩ (.int .i64 ((k:Int)+1))):=by
 have hne:=Zby ho hb (by decide);refine⟨⟨.slice A8 (done.length+1) c8,?_,?_⟩,((hB.setCell (p:=⟨g,3,none⟩) hBg _).setCell (p:=⟨g,2,none⟩) hBg _).setCell (p:=⟨g,1,none⟩) hBg _⟩
 ·exact Zdf (Zdf (Zdf hb 3 _) 2 _) 1 _
 ·rw[List.length_append]
  exact((ho.setFar (p:=⟨g,3,none⟩) hne _).setFar (p:=⟨g,2,none⟩) hne _).setFar (p:=⟨g,1,none⟩) hne _
theorem Zcr (g at_ B:Nat)(s:ByteArray)(st:Int)(v:Value)(done:List Entry)(w:World)(hs:s.size<=1000000)(hm:done.length<=1000000)(h0:0<=st)(h1:st<=65518)
  (hb:w.heap[g]?=some (.cells #[.string s,.int .i64 at_,.int .i64 st,v] 166 (0,0))) (ho:Own Entry.cells 116 3 w B v done.length done) (p:Nat) (hp1:at_<=p) (a b c d:ByteArray) (ha:a.size<=maxLen) (hc:c.size<=maxLen) (hbz:b.size<=maxLen) (hp2:p<s.size) (hp10:s[p]=10) (hp3:Hid (∀j (h:j<s.size),at_<=j→j<p→s[j]≠10)) (hL:[a,b,c,d]=words 32 (s.extract at_ p)) (k1:Yt a.data.toList=true) (k2:Yt c.data.toList=true) (hX:Hid ((⟨rdNum a.data.toList,b,rdNum c.data.toList⟩:Entry).ok=true)) (kd:lastDay done<=rdNum a.data.toList) (hst:¬YP (stampB st (entB (⟨rdNum a.data.toList,b,rdNum c.data.toList⟩:Entry))) (⟨rdNum a.data.toList,b,rdNum c.data.toList⟩:Entry)=s.extract at_ (p+1)) :
  Calls Tryz.prog 195 #[.pointer (some ⟨g,0,none⟩)] w λe w'=>e = .returned (.bool false)/\Below w.heap.size w w':=by
 have kd2:decide (rdNum a.data.toList<lastDay done)=false:=decide_eq_false (by omega);have q0:Hid (w.cell? ⟨g,0,none⟩=some (.string s)):=Za (by rw[cell_of_row _ _ _ _ _ _ hb];rfl);have q1:Hid (w.cell? ⟨g,1,none⟩=some (.int .i64 at_)):=Za (by rw[cell_of_row _ _ _ _ _ _ hb];rfl);have q2:Hid (w.cell? ⟨g,2,none⟩=some (.int .i64 st)):=Za (by rw[cell_of_row _ _ _ _ _ _ hb];rfl);have hgl:=Yg hb;have hbh:=Za hb;have hoh:=Za ho;clear hb ho;have c0:=q0.out;have c1:=q1.out;have hu:=And.intro hm (And.intro h0 h1);clear hu;go_enter Tryz.func195,Tryz.ntmps195;go_wp2
 go_loopw [3] (λi wr=>∃k:Nat,at_<=k/\k<=p/\i = .int .i64 k/\w=wr) (λi _=>s.size-(intOf i).toNat)
 case atStart=>exact⟨at_,Nat.le_refl _,hp1,rfl,rfl⟩
 case round =>
  obtain⟨k,hk1,hk2,rfl,rfl⟩:=hrel;by_cases hlt:k<p
  ·have hks:k<s.size:=by omega
   have e1:((s[k].toNat:Int) != 10)=true:=by
    rw[bne_iff_ne];intro h;exact hp3.out k hks hk1 hlt (UInt8.toNat_inj.1 (by show _=10;omega))
   go_wp2
   go_round
   case rel=>exact⟨k+1,by omega,by omega,by go_num,trivial⟩
   case measure=>simp[intOf];omega
  ·obtain rfl:k=p:=by omega
   have hsp:∀W:World,Hid (Calls Tryz.prog 54 #[.string (s.extract at_ k),.int .u8 32] W λe w'=>∃v,e = .returned v/\Own ZY 9 1 w' W.heap.size v [a,b,c,d].length [a,b,c,d]/\Below W.heap.size W w'):=λW=>Za (by rw[hL];exact ZS 32 (s.extract at_ k) W (by rw[ByteArray.size_extract];omega))
   have hLh:=Za hL;have hSP:=Za hsp;clear hL hsp;have e10:((s[k].toNat:Int) != 10)=false:=by rw[hp10];rfl
   have b1:(0:Int)<=(at_:Int):=by omega
   have b2:(at_:Int)<=(k:Int):=by omega
   have b3:(k:Int)<=(s.size:Int):=by omega
   go_wp2_with fail
   have hC:=Za (Zb (Below.refl w.heap.size w) 1);go_region_held3 (λw'=>w'.cell? ⟨g,0,none⟩=some (.string s)/\w'.cell? ⟨g,1,none⟩=some (.int .i64 at_)) (first|go_keep|exact⟨Zg hC.out hgl q0.out,Zg hC.out hgl q1.out⟩)
    (first|(go_at_call 54;refine(hSP.out _).out.mono ?_;rintro e w2 ⟨v2,rfl,ho2,hb⟩;have hO2:=Za ho2;replace hC:=Za (Below.up hC.out hb);clear hb ho2)|fail)
   have hu:=hbz;clear hu;obtain⟨Aw,cw,rfl,_⟩:=hO2.out.slice;have hR:=hO2.out.arr Zf;obtain⟨bw,ow,x0,rfl,hbl,hx0,z0⟩:=hR.str (k:=0) (by show 0<4;omega);obtain⟨_,_,x1,hA1,_,hx1,z1⟩:=hR.str (k:=1) (by show 1<4;omega);cases hA1
   obtain⟨_,_,x2,hA2,_,hx2,z2⟩:=hR.str (k:=2) (by show 2<4;omega);cases hA2
   obtain rfl:a=x0:=by simpa using hx0
   obtain rfl:b=x1:=by simpa using hx1
   obtain rfl:c=x2:=by simpa using hx2
   clear hx0 hx1 hx2 hR hO2;rw[Nat.add_zero] at z0;have y1:=Za z1;have y2:=Za z2;have hD:=Za (Below.refl w2.heap.size w2);clear z1 z2;go_wp2_with fail
   refine(ZN a _ ha).mono ?_;rintro e w3 ⟨rfl,hb⟩;replace hC:=Za (Below.up hC.out hb);replace hD:=Za (Below.up hD.out hb);clear hb z0;have z2:=Zg hD.out hbl y2.out;go_wp2_with fail
   refine(ZN c _ hc).mono ?_;rintro e w4 ⟨rfl,hb⟩;replace hC:=Za (Below.up hC.out hb);replace hD:=Za (Below.up hD.out hb);clear hb z2;have z1:=Zg hD.out hbl y1.out;have j0:(w4.alloc (.cells #[.int .i64 (rdNum a.data.toList),.string b,.int .i64 (rdNum c.data.toList)] 116)).cell? ⟨w4.heap.size,0,none⟩=some (.int .i64 (rdNum a.data.toList)):=by rw[cell_of_row _ _ _ _ _ _ (heap_alloc_new w4 _)];rfl
   have j1:(w4.alloc (.cells #[.int .i64 (rdNum a.data.toList),.string b,.int .i64 (rdNum c.data.toList)] 116)).cell? ⟨w4.heap.size,1,none⟩=some (.string b):=by rw[cell_of_row _ _ _ _ _ _ (heap_alloc_new w4 _)];rfl
   have j2:(w4.alloc (.cells #[.int .i64 (rdNum a.data.toList),.string b,.int .i64 (rdNum c.data.toList)] 116)).cell? ⟨w4.heap.size,2,none⟩=some (.int .i64 (rdNum c.data.toList)):=by rw[cell_of_row _ _ _ _ _ _ (heap_alloc_new w4 _)];rfl
   have hnb:=Za (heap_alloc_new w4 (.cells #[.int .i64 (rdNum a.data.toList),.string b,.int .i64 (rdNum c.data.toList)] 116));have hC4:=Za (hC.out.alloc hC.out.size (.cells #[.int .i64 (rdNum a.data.toList),.string b,.int .i64 (rdNum c.data.toList)] 116));have hj:w4.heap.size<(w4.alloc (.cells #[.int .i64 (rdNum a.data.toList),.string b,.int .i64 (rdNum c.data.toList)] 116)).heap.size:=by simp
   go_wp2_with fail
   clear z1;obtain⟨h,hh⟩:∃h,h=w4.heap.size:=⟨_,rfl⟩;obtain⟨W5,hW5⟩:∃W5,W5=w4.alloc (.cells #[.int .i64 (rdNum a.data.toList),.string b,.int .i64 (rdNum c.data.toList)] 116):=⟨_,rfl⟩;rw[←hW5] at j0 j1 j2 hC4 hj hnb ⊢;rw[←hh] at j0 j1 j2 hj hnb ⊢;have hge:w.heap.size<=h:=by rw[hh];exact hC.out.size
   have hge2:=Za hge;clear hW5 hh hC hge;have hb5:=Za (ZG hbh.out hC4.out);have ho5:=Za (hoh.out.below hC4.out);have i0:=Za j0;have i1:=Za j1;have i2:=Za j2;go_quiet ((first|(go_at_call 207;exact quiet_leftb (Y3 h 0 (⟨rdNum a.data.toList,b,rdNum c.data.toList⟩:Entry) _ hbz i0.out i1.out i2.out) (by first|exact hX.out|rfl))|(go_at_call 208;exact Yx (Vd g _ B at_ s st v done (by omega) hb5.out ho5.out))|fail))
   have q25:=Za (Zg hC4.out hgl q2.out);have q05:=Za (Zg hC4.out hgl q0.out);have q15:=Za (Zg hC4.out hgl q1.out);have hg5:g<W5.heap.size:=Nat.lt_of_lt_of_le hgl hC4.out.size;have hk:=hX.out;obtain⟨r1,r2⟩:=Z3 st (entB (⟨rdNum a.data.toList,b,rdNum c.data.toList⟩:Entry));have hzE:=Xe hk;have hstp:=λW=>Za (Va st (entB (⟨rdNum a.data.toList,b,rdNum c.data.toList⟩:Entry)) W h0 h1 hzE)
   have hSTP:=Za hstp;obtain⟨st',hst'⟩:∃st',st'=stampB st (entB (⟨rdNum a.data.toList,b,rdNum c.data.toList⟩:Entry)):=⟨_,rfl⟩;rw[←hst'] at hst r1 r2 hSTP;have hSt:=Za hst';clear hst' hstp j0 j1 j2;have c2:=q25.out;go_wp2_with fail
   go_region_held3 (λw'=>w'.cell? ⟨g,2,none⟩=some (.int .i64 st)) (first|go_keep|exact Zg hE.out hg5 q25.out)
    (first|(go_at_call 157;refine(XC h 0 (⟨rdNum a.data.toList,b,rdNum c.data.toList⟩:Entry) _ hk (by exact hj) (by exact i0.out) (by exact i1.out) (by exact i2.out)).mono ?_;rintro e w6 ⟨rfl,hb⟩;have hE:=Za (Below.up (Zb (Below.refl W5.heap.size W5) _) hb);clear hb)|(go_at_call 210;refine(hSTP.out _).out.mono ?_;rintro e w' ⟨rfl,rfl⟩)|fail)
   go_wp2_with fail
   clear c2;have hj6:h<w6.heap.size:=Nat.lt_of_lt_of_le hj hE.out.size;have hg6:g<w6.heap.size:=Nat.lt_of_lt_of_le hg5 hE.out.size;have p0:=Za (Zg hE.out hj i0.out);have p1:=Za (Zg hE.out hj i1.out);have p2:=Za (Zg hE.out hj i2.out);have q06:=Za (Zg hE.out hg5 q05.out);have q16:=Za (Zg hE.out hg5 q15.out);have q26:=Za (Zg hE.out hg5 q25.out);have c0:=q06.out;have c1:=q16.out;have hF:=Za (Zb (Below.refl w6.heap.size w6) 1);have b4:(at_:Int)<=(k:Int)+1:=by omega
   have b5:(k:Int)+1<=(s.size:Int):=by omega
   have b6:IntKind.i64.wrap ((k:Int)+1)=(k:Int)+1:=IntWalk.i64_in _ (by omega);have b7:((k:Int)+1).toNat=k+1:=by omega
   have b8:(0:Int)<=(k:Int)+1:=by omega
   have e5:=Xn hst;go_region_held3 (λw'=>w'.cell? ⟨g,0,none⟩=some (.string s)/\w'.cell? ⟨g,1,none⟩=some (.int .i64 at_)) (first|go_keep|exact⟨Zg hF.out hg6 q06.out,Zg hF.out hg6 q16.out⟩)
    (first|(go_at_call 209;refine(VZ st' h 0 (⟨rdNum a.data.toList,b,rdNum c.data.toList⟩:Entry) _ r1 r2 hk (by exact hj6) (by exact p0.out) (by exact p1.out) (by exact p2.out)).mono ?_;rintro e w7 ⟨rfl,hb⟩;replace hF:=Za (Below.up hF.out hb);clear hb)|fail)
   clear b6 b7;go_wp2
   go_ret;exact⟨rfl,Below.up (Below.up hC4.out hE.out) hF.out⟩
theorem Zgc (g at_ B:Nat)(s:ByteArray)(st:Int)(v:Value)(done:List Entry)(w:World)(hs:s.size<=1000000)(hm:done.length<=1000000)(h0:0<=st)(h1:st<=65518)
  (hb:w.heap[g]?=some (.cells #[.string s,.int .i64 at_,.int .i64 st,v] 166 (0,0))) (ho:Own Entry.cells 116 3 w B v done.length done) (p:Nat) (hp1:at_<=p) (a b c d:ByteArray) (ha:a.size<=maxLen) (hc:c.size<=maxLen) (hbz:b.size<=maxLen) (hp2:p<s.size) (hp10:s[p]=10) (hp3:Hid (∀j (h:j<s.size),at_<=j→j<p→s[j]≠10)) (hL:[a,b,c,d]=words 32 (s.extract at_ p)) (k1:Yt a.data.toList=true) (k2:Yt c.data.toList=true) (hX:Hid ((⟨rdNum a.data.toList,b,rdNum c.data.toList⟩:Entry).ok=true)) (kd:lastDay done<=rdNum a.data.toList) (hst:YP (stampB st (entB (⟨rdNum a.data.toList,b,rdNum c.data.toList⟩:Entry))) (⟨rdNum a.data.toList,b,rdNum c.data.toList⟩:Entry)=s.extract at_ (p+1)) (hBg:B<=g) :
  Calls Tryz.prog 195 #[.pointer (some ⟨g,0,none⟩)] w λe w'=>e = .returned (.bool true)/\RB w' B g s (done++[(⟨rdNum a.data.toList,b,rdNum c.data.toList⟩:Entry)]) (p+1) (stampB st (entB (⟨rdNum a.data.toList,b,rdNum c.data.toList⟩:Entry)))/\Below B w w':=by
 have kd2:decide (rdNum a.data.toList<lastDay done)=false:=decide_eq_false (by omega);have q0:Hid (w.cell? ⟨g,0,none⟩=some (.string s)):=Za (by rw[cell_of_row _ _ _ _ _ _ hb];rfl);have q1:Hid (w.cell? ⟨g,1,none⟩=some (.int .i64 at_)):=Za (by rw[cell_of_row _ _ _ _ _ _ hb];rfl);have q2:Hid (w.cell? ⟨g,2,none⟩=some (.int .i64 st)):=Za (by rw[cell_of_row _ _ _ _ _ _ hb];rfl);have hgl:=Yg hb;have hbh:=Za hb;have hoh:=Za ho;clear hb ho;have c0:=q0.out;have c1:=q1.out;have hu:=And.intro hm (And.intro h0 h1);clear hu;go_enter Tryz.func195,Tryz.ntmps195;go_wp2
 go_loopw [3] (λi wr=>∃k:Nat,at_<=k/\k<=p/\i = .int .i64 k/\w=wr) (λi _=>s.size-(intOf i).toNat)
 case atStart=>exact⟨at_,Nat.le_refl _,hp1,rfl,rfl⟩
 case round =>
  obtain⟨k,hk1,hk2,rfl,rfl⟩:=hrel;by_cases hlt:k<p
  ·have hks:k<s.size:=by omega
   have e1:((s[k].toNat:Int) != 10)=true:=by
    rw[bne_iff_ne];intro h;exact hp3.out k hks hk1 hlt (UInt8.toNat_inj.1 (by show _=10;omega))
   go_wp2
   go_round
   case rel=>exact⟨k+1,by omega,by omega,by go_num,trivial⟩
   case measure=>simp[intOf];omega
  ·obtain rfl:k=p:=by omega
   have hsp:∀W:World,Hid (Calls Tryz.prog 54 #[.string (s.extract at_ k),.int .u8 32] W λe w'=>∃v,e = .returned v/\Own ZY 9 1 w' W.heap.size v [a,b,c,d].length [a,b,c,d]/\Below W.heap.size W w'):=λW=>Za (by rw[hL];exact ZS 32 (s.extract at_ k) W (by rw[ByteArray.size_extract];omega))
   have hLh:=Za hL;have hSP:=Za hsp;clear hL hsp;have e10:((s[k].toNat:Int) != 10)=false:=by rw[hp10];rfl
   have b1:(0:Int)<=(at_:Int):=by omega
   have b2:(at_:Int)<=(k:Int):=by omega
   have b3:(k:Int)<=(s.size:Int):=by omega
   go_wp2_with fail
   have hC:=Za (Zb (Below.refl w.heap.size w) 1);go_region_held3 (λw'=>w'.cell? ⟨g,0,none⟩=some (.string s)/\w'.cell? ⟨g,1,none⟩=some (.int .i64 at_)) (first|go_keep|exact⟨Zg hC.out hgl q0.out,Zg hC.out hgl q1.out⟩)
    (first|(go_at_call 54;refine(hSP.out _).out.mono ?_;rintro e w2 ⟨v2,rfl,ho2,hb⟩;have hO2:=Za ho2;replace hC:=Za (Below.up hC.out hb);clear hb ho2)|fail)
   have hu:=hbz;clear hu;obtain⟨Aw,cw,rfl,_⟩:=hO2.out.slice;have hR:=hO2.out.arr Zf;obtain⟨bw,ow,x0,rfl,hbl,hx0,z0⟩:=hR.str (k:=0) (by show 0<4;omega);obtain⟨_,_,x1,hA1,_,hx1,z1⟩:=hR.str (k:=1) (by show 1<4;omega);cases hA1
   obtain⟨_,_,x2,hA2,_,hx2,z2⟩:=hR.str (k:=2) (by show 2<4;omega);cases hA2
   obtain rfl:a=x0:=by simpa using hx0
   obtain rfl:b=x1:=by simpa using hx1
   obtain rfl:c=x2:=by simpa using hx2
   clear hx0 hx1 hx2 hR hO2;rw[Nat.add_zero] at z0;have y1:=Za z1;have y2:=Za z2;have hD:=Za (Below.refl w2.heap.size w2);clear z1 z2;go_wp2_with fail
   refine(ZN a _ ha).mono ?_;rintro e w3 ⟨rfl,hb⟩;replace hC:=Za (Below.up hC.out hb);replace hD:=Za (Below.up hD.out hb);clear hb z0;have z2:=Zg hD.out hbl y2.out;go_wp2_with fail
   refine(ZN c _ hc).mono ?_;rintro e w4 ⟨rfl,hb⟩;replace hC:=Za (Below.up hC.out hb);replace hD:=Za (Below.up hD.out hb);clear hb z2;have z1:=Zg hD.out hbl y1.out;have j0:(w4.alloc (.cells #[.int .i64 (rdNum a.data.toList),.string b,.int .i64 (rdNum c.data.toList)] 116)).cell? ⟨w4.heap.size,0,none⟩=some (.int .i64 (rdNum a.data.toList)):=by rw[cell_of_row _ _ _ _ _ _ (heap_alloc_new w4 _)];rfl
   have j1:(w4.alloc (.cells #[.int .i64 (rdNum a.data.toList),.string b,.int .i64 (rdNum c.data.toList)] 116)).cell? ⟨w4.heap.size,1,none⟩=some (.string b):=by rw[cell_of_row _ _ _ _ _ _ (heap_alloc_new w4 _)];rfl
   have j2:(w4.alloc (.cells #[.int .i64 (rdNum a.data.toList),.string b,.int .i64 (rdNum c.data.toList)] 116)).cell? ⟨w4.heap.size,2,none⟩=some (.int .i64 (rdNum c.data.toList)):=by rw[cell_of_row _ _ _ _ _ _ (heap_alloc_new w4 _)];rfl
   have hnb:=Za (heap_alloc_new w4 (.cells #[.int .i64 (rdNum a.data.toList),.string b,.int .i64 (rdNum c.data.toList)] 116));have hC4:=Za (hC.out.alloc hC.out.size (.cells #[.int .i64 (rdNum a.data.toList),.string b,.int .i64 (rdNum c.data.toList)] 116));have hj:w4.heap.size<(w4.alloc (.cells #[.int .i64 (rdNum a.data.toList),.string b,.int .i64 (rdNum c.data.toList)] 116)).heap.size:=by simp
   go_wp2_with fail
   clear z1;obtain⟨h,hh⟩:∃h,h=w4.heap.size:=⟨_,rfl⟩;obtain⟨W5,hW5⟩:∃W5,W5=w4.alloc (.cells #[.int .i64 (rdNum a.data.toList),.string b,.int .i64 (rdNum c.data.toList)] 116):=⟨_,rfl⟩;rw[←hW5] at j0 j1 j2 hC4 hj hnb ⊢;rw[←hh] at j0 j1 j2 hj hnb ⊢;have hge:w.heap.size<=h:=by rw[hh];exact hC.out.size
   have hge2:=Za hge;clear hW5 hh hC hge;have hb5:=Za (ZG hbh.out hC4.out);have ho5:=Za (hoh.out.below hC4.out);have i0:=Za j0;have i1:=Za j1;have i2:=Za j2;go_quiet ((first|(go_at_call 207;exact quiet_leftb (Y3 h 0 (⟨rdNum a.data.toList,b,rdNum c.data.toList⟩:Entry) _ hbz i0.out i1.out i2.out) (by first|exact hX.out|rfl))|(go_at_call 208;exact Yx (Vd g _ B at_ s st v done (by omega) hb5.out ho5.out))|fail))
   have q25:=Za (Zg hC4.out hgl q2.out);have q05:=Za (Zg hC4.out hgl q0.out);have q15:=Za (Zg hC4.out hgl q1.out);have hg5:g<W5.heap.size:=Nat.lt_of_lt_of_le hgl hC4.out.size;have hk:=hX.out;obtain⟨r1,r2⟩:=Z3 st (entB (⟨rdNum a.data.toList,b,rdNum c.data.toList⟩:Entry));have hzE:=Xe hk;have hstp:=λW=>Za (Va st (entB (⟨rdNum a.data.toList,b,rdNum c.data.toList⟩:Entry)) W h0 h1 hzE)
   have hSTP:=Za hstp;obtain⟨st',hst'⟩:∃st',st'=stampB st (entB (⟨rdNum a.data.toList,b,rdNum c.data.toList⟩:Entry)):=⟨_,rfl⟩;rw[←hst'] at hst r1 r2 hSTP;have hSt:=Za hst';clear hst' hstp j0 j1 j2;have c2:=q25.out;go_wp2_with fail
   go_region_held3 (λw'=>w'.cell? ⟨g,2,none⟩=some (.int .i64 st)) (first|go_keep|exact Zg hE.out hg5 q25.out)
    (first|(go_at_call 157;refine(XC h 0 (⟨rdNum a.data.toList,b,rdNum c.data.toList⟩:Entry) _ hk (by exact hj) (by exact i0.out) (by exact i1.out) (by exact i2.out)).mono ?_;rintro e w6 ⟨rfl,hb⟩;have hE:=Za (Below.up (Zb (Below.refl W5.heap.size W5) _) hb);clear hb)|(go_at_call 210;refine(hSTP.out _).out.mono ?_;rintro e w' ⟨rfl,rfl⟩)|fail)
   go_wp2_with fail
   clear c2;have hj6:h<w6.heap.size:=Nat.lt_of_lt_of_le hj hE.out.size;have hg6:g<w6.heap.size:=Nat.lt_of_lt_of_le hg5 hE.out.size;have p0:=Za (Zg hE.out hj i0.out);have p1:=Za (Zg hE.out hj i1.out);have p2:=Za (Zg hE.out hj i2.out);have q06:=Za (Zg hE.out hg5 q05.out);have q16:=Za (Zg hE.out hg5 q15.out);have q26:=Za (Zg hE.out hg5 q25.out);have c0:=q06.out;have c1:=q16.out;have hF:=Za (Zb (Below.refl w6.heap.size w6) 1);have b4:(at_:Int)<=(k:Int)+1:=by omega
   have b5:(k:Int)+1<=(s.size:Int):=by omega
   have b6:IntKind.i64.wrap ((k:Int)+1)=(k:Int)+1:=IntWalk.i64_in _ (by omega);have b7:((k:Int)+1).toNat=k+1:=by omega
   have b8:(0:Int)<=(k:Int)+1:=by omega
   have e5:=XG hst;go_region_held3 (λw'=>w'.cell? ⟨g,0,none⟩=some (.string s)/\w'.cell? ⟨g,1,none⟩=some (.int .i64 at_)) (first|go_keep|exact⟨Zg hF.out hg6 q06.out,Zg hF.out hg6 q16.out⟩)
    (first|(go_at_call 209;refine(VZ st' h 0 (⟨rdNum a.data.toList,b,rdNum c.data.toList⟩:Entry) _ r1 r2 hk (by exact hj6) (by exact p0.out) (by exact p1.out) (by exact p2.out)).mono ?_;rintro e w7 ⟨rfl,hb⟩;replace hF:=Za (Below.up hF.out hb);clear hb)|fail)
   clear b6 b7;go_wp2_with fail
   clear e5 c0 c1;have hU:=Za (Below.up hE.out hF.out);have g0:=Zg hF.out hj6 p0.out;have g1:=Zg hF.out hj6 p1.out;have g2:=Zg hF.out hj6 p2.out;have hb7:=Za (ZG hb5.out hU.out);have ho7:=Za (ho5.out.below hU.out);have hne:=Za (Zby ho7.out hb7.out (by decide));have f3:w7.cell? ⟨g,3,none⟩=some v:=by rw[cell_of_row _ _ _ _ _ _ hb7.out];rfl
   have f3b:∀O,(w7.alloc O).cell? ⟨g,3,none⟩=some v:=λO=>(World.cell?_alloc_lt w7 O ⟨g,3,none⟩ (by exact Yg hb7.out)).trans f3
   have hB7:B<=w7.heap.size:=by have:=Yg hb7.out;omega
   have hBU:=Za (((Below.up hC4.out hU.out).mono (show B<=w.heap.size by omega)));have hd:Below w7.heap.size w7 w7.drew:=Zb (Below.refl _ _) 1
   go_region_law ((refine Zba rfl (.tmp 115) (.tmp 117) (by rfl) Tryz.underlying112 QY rfl (by omega) (by omega) Entry.len Entry.one (by rfl) (ho7.out.below hd) (⟨rdNum a.data.toList,b,rdNum c.data.toList⟩:Entry) _ (by rfl) (by rfl) (by omega) hB7 ?_;intro v8 w8 ho8 hg8 _;obtain⟨A8,c8,rfl,_⟩:=ho8.slice;have hb8:=(hg8.block g (by exact Yg hb7.out) (λe=>hne.out e.symm)).trans hb7.out;have f8:w8.cell? ⟨g,3,none⟩=some v:=(by rw[cell_of_row _ _ _ _ _ _ hb8];rfl);have f9:w8.cell? ⟨g,2,none⟩=some (.int .i64 st):=(by rw[cell_of_row _ _ _ _ _ _ hb8];rfl);have f10:w8.cell? ⟨g,1,none⟩=some (.int .i64 at_):=(by rw[cell_of_row _ _ _ _ _ _ hb8];rfl);have f11:∀o,w8.frozen? ⟨g,o,none⟩=false:=(λo=>frozen_of_row w8 _ _ _ _ hb8);have hB8:=Za (Zi (hBU.out.drew) (ho7.out.below hd) hg8 hB7);have hb8h:=Za hb8;have ho8h:=Za ho8;clear hb8 ho8 hg8))
   all_goals go_wp2
   all_goals go_ret
   all_goals exact⟨rfl,by rw[←hSt.out];exact(ZbG hb8h.out ho8h.out hB8.out hBg st' k).1,(ZbG hb8h.out ho8h.out hB8.out hBg st' k).2⟩
def Zd6 (B g at_:Nat)(s:ByteArray)(done:List Entry)(w:World)(o:Option (Entry × List UInt8))(st:Int)(e:Ending)(w':World):Prop:=match o with
 | none=>e = .returned (.bool false)/\Below w.heap.size w w'
 | some x=>e = .returned (.bool true)/\RB w' B g s (done++[x.1]) (at_+(x.2.length+1)) (stampB st (entB x.1))/\Below B w w'
theorem Zeu (g at_ B:Nat)(s:ByteArray)(st:Int)(done:List Entry)(w:World)(hs:s.size<=1000000)(hm:done.length<=1000000)(h0:0<=st)(h1:st<=65518)(hat:at_<=s.size)(hrb:RB w B g s done at_ st)(hBg:B<=g) :
  Calls Tryz.prog 195 #[.pointer (some ⟨g,0,none⟩)] w (Zd6 B g at_ s done w (Yo st (lastDay done) (s.data.toList.drop at_)) st):=by
 obtain⟨v,hb,ho⟩:=hrb;obtain⟨p,hp1,hp2,hp3,hp4⟩:=ZkY s _ at_ rfl hat;have no:∀{P:Prop},Yo st (lastDay done) (s.data.toList.drop at_)=none→(Calls Tryz.prog 195 #[.pointer (some ⟨g,0,none⟩)] w λe w'=>e = .returned (.bool false)/\Below w.heap.size w w')→P\/Calls Tryz.prog 195 #[.pointer (some ⟨g,0,none⟩)] w (Zd6 B g at_ s done w (Yo st (lastDay done) (s.data.toList.drop at_)) st):=by
  intro P hn hc;rw[hn];exact .inr hc
 have get:∀{Q:Prop},False\/Q→Q:=λh=>h.elim False.elim id
 rcases hp4 with ⟨rfl,hl⟩|⟨hp,hp10,hl⟩
 ·exact get (no (Wj hl) (Zes g at_ s st v w hs hb s.size hp1 rfl hp3))
 have hx:(s.extract at_ p).data.toList=(s.data.toList.take p).drop at_:=JJ s at_ p;by_cases h4:(words 32 (s.extract at_ p)).length≠4
 ·have he:=Zd1 h4
  rw[hx] at he;exact get (no (X4 hl he) (Zer g at_ B s st v done w hs hm h0 h1 hb ho p hp1 hp hp10 hp3 _ rfl h4))
 obtain⟨a,b,c,d,hw⟩:∃a b c d,words 32 (s.extract at_ p)=[a,b,c,d]:=by
  match hww:words 32 (s.extract at_ p),h4 with
  | [a,b,c,d],_=>exact⟨a,b,c,d,rfl⟩
  | [],h4=>exact absurd (by decide) h4
  | [_],h4=>exact absurd (by simp) h4
  | [_,_],h4=>exact absurd (by simp) h4
  | [_,_,_],h4=>exact absurd (by simp) h4
  | _ :: _ :: _ :: _ :: _ :: _,h4=>exact absurd (by simp) h4
 clear h4;have hsz:∀y∈words 32 (s.extract at_ p),y.size<=maxLen:=λy hy=>by
  have h5:=Z6 32 (s.extract at_ p) hy;have h6:(s.extract at_ p).size<=s.size:=by rw[ByteArray.size_extract];omega
  unfold maxLen;omega
 have ha:=hsz a (by rw[hw];simp);have hb':=hsz b (by rw[hw];simp);have hc':=hsz c (by rw[hw];simp);have he:=Jh hw;rw[hx] at he;cases k1:Yt a.data.toList
 ·rw[k1,if_neg (by simp)] at he
  exact get (no (X4 hl he) (Zge g at_ B s st v done w hs hm h0 h1 hb ho p hp1 a b c d ha hc' hb' hp hp10 hp3 hw.symm k1))
 cases k2:Yt c.data.toList
 ·rw[k2,if_neg (by simp)] at he
  exact get (no (X4 hl he) (Zgd g at_ B s st v done w hs hm h0 h1 hb ho p hp1 a b c d ha hc' hb' hp hp10 hp3 hw.symm k1 k2))
 cases k3:(⟨rdNum a.data.toList,b,rdNum c.data.toList⟩:Entry).ok
 ·rw[k3,if_neg (by simp)] at he
  exact get (no (X4 hl he) (Zcs g at_ B s st v done w hs hm h0 h1 hb ho p hp1 a b c d ha hc' hb' hp hp10 hp3 hw.symm k1 k2 k3))
 rw[k1,k2,k3,if_pos (by simp)] at he;by_cases kd:rdNum a.data.toList<lastDay done
 ·exact get (no (U4 hl he (by unfold Vv;rw[decide_eq_false (by show ¬lastDay done<=rdNum a.data.toList;omega)];rfl)) (Zet g at_ B s st v done w hs hm h0 h1 hb ho p hp1 a b c d ha hc' hb' hp hp10 hp3 hw.symm k1 k2 k3 kd))
 have hq:s.extract at_ (p+1)=⟨((s.data.toList.take p).drop at_++[10]).toArray⟩:=by
  rw[←QI,←JK hp1 hp,hp10];rfl
 by_cases ks:YP (stampB st (entB ⟨rdNum a.data.toList,b,rdNum c.data.toList⟩)) ⟨rdNum a.data.toList,b,rdNum c.data.toList⟩=s.extract at_ (p+1)
 ·have hg:Yo st (lastDay done) (s.data.toList.drop at_)=some (⟨rdNum a.data.toList,b,rdNum c.data.toList⟩,(s.data.toList.take p).drop at_):=VU hl he (by
   unfold Vv;rw[decide_eq_true (by show lastDay done<=rdNum a.data.toList;omega),decide_eq_true (by rw[←hq];exact ks)];rfl)
  rw[hg];have hlen:at_+(((s.data.toList.take p).drop at_).length+1)=p+1:=by rw[List.length_drop,List.length_take,ZM];omega
  refine(Zgc g at_ B s st v done w hs hm h0 h1 hb ho p hp1 a b c d ha hc' hb' hp hp10 hp3 hw.symm k1 k2 k3 (by omega) ks hBg).mono λe w' h=>?_
  show e = .returned (.bool true)/\RB w' B g s _ (at_+(((s.data.toList.take p).drop at_).length+1)) _/\Below B w w'
  rw[hlen];exact h
 ·exact get (no (U4 hl he (by unfold Vv;rw[decide_eq_false (p:=YP _ _=_) (by rw[←hq];exact ks)];simp)) (Zcr g at_ B s st v done w hs hm h0 h1 hb ho p hp1 a b c d ha hc' hb' hp hp10 hp3 hw.symm k1 k2 k3 (by omega) ks))
theorem ZhP {s:ByteArray}{at_:Nat}{st day:Int}{e:Entry}{l:List UInt8}(hs:Yo st day (s.data.toList.drop at_)=some (e,l)):at_+(l.length+1)<=s.size:=by
 unfold Yo at hs;split at hs
 ·cases hs
 ·rename_i x hx
  have:=Vg hx;rw[List.length_drop,ZM] at this;split at hs
  ·cases hs
  ·split at hs
   ·injection hs with hs;injection hs with _ hs;subst hs;omega
   ·cases hs
theorem Zhw {B:Nat}{w w1 w2:World}(h:Below B w w1)(k:Below B w1 w2):Below B w w2 :=
 ⟨k.os.trans h.os,k.tape.trans h.tape,k.output.trans h.output,Nat.le_trans h.size k.size,λi hi=>(k.block i hi).trans (h.block i hi)⟩
def ZkS (s:ByteArray)(w w':World)(e:Ending):Prop:=∃g,e = .returned (.pointer (some ⟨g,0,none⟩))/\w.heap.size<=g/\RB w' w.heap.size g s (rdLog s).1 (rdLog s).2.1 (rdLog s).2.2/\Below w.heap.size w w'
theorem Zf8 (s:ByteArray)(w:World)(hs:s.size<=1000000):Calls Tryz.prog 134 #[.string s] w λe w'=>ZkS s w w' e:=by
 go_enter Tryz.func134,Tryz.ntmps134;go_wp2
 go_loopg [9] s.size (λgk _ wr=>∃(done:List Entry) (at_:Nat) (st:Int),gk=s.size-at_/\at_<=s.size/\done.length<=at_/\0<=st/\st<=65518/\RB wr w.heap.size (w.heap.size+1) s done at_ st/\Hid (Zag s done at_ st (lastDay done))/\Below w.heap.size w wr)
 case atStart =>
  refine⟨[],0,0,by omega,Nat.zero_le _,Nat.le_refl _,by omega,by omega,⟨.slice (some ⟨w.heap.size,0,none⟩) 0 0,?_,?_⟩,Za (ZbE s),((Below.refl _ _).alloc (Nat.le_refl _) _).alloc (by simp) _⟩
  ·have:=heap_alloc_new (w.alloc (.cells #[] 116)) (.cells #[.string s,.int .i64 ((0:Nat):Int),.int .i64 0,.slice (some ⟨w.heap.size,0,none⟩) 0 0] 166)
   simpa using this
  ·exact(Own.none_made w (Nat.le_refl _)).below ((Below.refl _ _).alloc (Nat.le_refl _) _)
 case round =>
  obtain⟨done,at_,st,rfl,hat,hdl,h0,h1,hrb,hinv,hb⟩:=hrel;have hc:=Za (Zeu (w.heap.size+1) at_ w.heap.size s st done wr hs (by omega) h0 h1 hat hrb (by omega));have hR:=Za hrb;have hB:=Za hb;clear hrb hb;cases hst:Yo st (lastDay done) (s.data.toList.drop at_) with
  | none =>
   rw[hst] at hc;have hE:=Za (QP hinv.out hst);clear hst hinv;go_wp2_with fail
   refine hc.out.mono ?_;rintro e w2 ⟨rfl,hb2⟩;have hB2:=Za (Below.up hB.out hb2);have hR2:=Za (show RB w2 w.heap.size (w.heap.size+1) s done at_ st from by
    obtain⟨v,h2,h3⟩:=hR.out;exact⟨v,ZG h2 hb2,h3.below hb2⟩)
   clear hb2;go_wp2
   go_ret;exact⟨w.heap.size+1,rfl,by omega,by rw[hE.out];exact hR2.out,hB2.out⟩
  | some x =>
   obtain⟨x,l⟩:=x;rw[hst] at hc;have hE:=Za (ZdP hinv.out hst);have hlen:=ZhP hst;obtain⟨r1,r2⟩:=Z3 st (entB x);clear hst hinv;go_wp2_with fail
   refine hc.out.mono ?_;rintro e w2 ⟨rfl,hR2,hb2⟩;have hB2:=Za (Zhw hB.out hb2);have hR2h:=Za hR2;clear hb2 hR2;go_wp2
   go_roundg (s.size-(at_+(l.length+1)))
   case rel=>exact⟨done++[x],at_+(l.length+1),stampB st (entB x),rfl,hlen,by simp;omega,r1,r2,hR2h.out,by rw[WT];exact hE,hB2.out⟩
   case measure=>omega
end Go.Proofs.YtfpaejlipaainaaGreatDoor
