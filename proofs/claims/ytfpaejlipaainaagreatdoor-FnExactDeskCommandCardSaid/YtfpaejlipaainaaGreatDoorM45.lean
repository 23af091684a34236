/- Texts that belong together, joined: contracts and plain laws. No statement is proved here. -/
import Derived.Test.YtfpaejlipaainaaGreatDoorM44
set_option maxRecDepth 100000
set_option maxHeartbeats 4000000
namespace Go.Proofs.YtfpaejlipaainaaGreatDoor
open Go.ChangeShapes Go.WideShapes Go.ChangeAt Go.RowKit Go.Deep
section
variable {R:RowS}
theorem ZeA (w:World)(base g:Nat)(x:DeskV)(O:List ByteArray)(vo vn vt:Value)(N:List Int)(T:List ByteArray)(h:SX R w base g x O vo vn vt N T)(hok:x.pure.ok=true)(hO:O.length<=1000000)(h0:0<N.length) :
  Calls Tryz.prog 99 #[.pointer (some ⟨g,0,none⟩)] w λe w'=>e = .returned (.tuple #[])/\Said R w base g x (O++[sayB (ordC x.fStakes (N.getD 0 0) (N.drop 1)) (numLine (ordL x.fStakes (N.getD 0 0) (N.drop 1)))]) vn vt w':=by
 obtain⟨p1,p2,p3,p4,p5⟩:=DeskM.ok_parts.1 hok;replace p1:strokeOk x.fStroke=true:=p1;replace p2:inB x.fStakes 3 60=true:=p2;replace p3:ZD x.kinds=true:=p3;obtain⟨q,hq⟩:∃q:Nat,x.fStakes=(q:Int):=⟨x.fStakes.toNat,by have:=Zj.1 p2;omega⟩;have hqn:x.fStakes.toNat=q:=by omega
 have hqh:=Za hq;rw[hq] at p2;have hqb:=Zj.1 p2;have hdr:Below w.heap.size w w.drew:=Zb (Below.refl _ _) 1;have hDR:=Za hdr;obtain⟨gn,cn,z0,rfl,hcn,hgn,hz0,cz0⟩:=h.num (k:=0) h0;have hZ0:Hid (N.getD 0 0=z0):=Za (by rw[List.getD_eq_getElem?_getD,hz0];rfl);have hi0:(0:Int)<(N.length:Int):=by omega
 have zb:=h.nb z0 (List.mem_of_getElem? hz0);have hS:=Za h;have hcell:Hid (∀W,Below w.heap.size w W→W.cell? ⟨g,1,none⟩=some (.int .i64 (q:Int))/\W.cell? ⟨g,6,none⟩=some (.slice (some ⟨gn,0,none⟩) N.length cn)/\W.cell? ⟨gn,0,none⟩=some (.int .i64 z0)):=Za (λW hb=>⟨by rw[←hqh.out];exact(ZL (Ze hS.out.sg.box hb)).2.1,(ZL (Ze hS.out.sg.box hb)).2.2.2.2.2.2.1,(hb.cell (p:=⟨gn,0,none⟩) hgn).trans cz0⟩);have hcut:∀W,(Instr.slice 60 (.slice (some ⟨gn,0,none⟩) N.length cn) (some (.int .i64 1)) none none).run Tryz.prog W = .ok (.slice (cutA (some ⟨gn,0,none⟩) cn 1 1) (N.length-1) (cn-1)) W:=λW=>Y0 (P:=Tryz.prog) Tryz.underlying60 Zz (some ⟨gn,0,none⟩) N.length cn 1 (by omega) W
 have hAc:=Za ((h.nm.arr Zh).cut (k:=1) (by omega) hcn);obtain⟨A1,hA1⟩:∃A1,A1=cutA (some ⟨gn,0,none⟩) cn 1 1:=⟨_,rfl⟩;rw[←hA1] at hcut hAc;obtain⟨m1,hm1⟩:∃m1,m1=N.length-1:=⟨_,rfl⟩;rw[←hm1] at hcut hAc;obtain⟨c1n,hc1n⟩:∃c1,c1=cn-1:=⟨_,rfl⟩;rw[←hc1n] at hcut;have hm1b:m1<=1048576:=by have:=h.nl;omega
 have hm1c:m1<=c1n:=by omega
 obtain⟨TN,hTN⟩:∃TN,TN=N.drop 1:=⟨_,rfl⟩;rw[←hTN] at hAc;have hTNh:=Za hTN;clear hA1 hm1 hc1n hTN;have hM:Hid (sayB (ordC x.fStakes (N.getD 0 0) (N.drop 1)) (numLine (ordL x.fStakes (N.getD 0 0) (N.drop 1)))=sayB (ordC (q:Int) z0 TN) (numLine (ordL (q:Int) z0 TN))):=Za (by rw[hZ0.out,hqh.out,hTNh.out]);obtain⟨Z,hZ⟩:∃Z,Z=(sayB (ordC x.fStakes (N.getD 0 0) (N.drop 1)) (numLine (ordL x.fStakes (N.getD 0 0) (N.drop 1)))):=⟨_,rfl⟩;rw[←hZ] at hM ⊢;clear hZ;clear h hq hdr hz0 hok;go_enter Tryz.func99,Tryz.ntmps99;go_upto_region 0 with fail
 obtain⟨e0,e1,e2⟩:=hcell.out _ hDR.out;go_region_held3 (λw'=>w'.cell? ⟨g,1,none⟩=some (.int .i64 (q:Int))/\w'.cell? ⟨g,6,none⟩=some (.slice (some ⟨gn,0,none⟩) N.length cn)/\w'.cell? ⟨gn,0,none⟩=some (.int .i64 z0)) (first|exact hcell.out _ hB4.out|exact hcell.out _ hDR.out|go_keep) (first|(go_at_call 156;refine(Zeo (q:Int) z0 A1 m1 c1n TN _ hm1b hm1c p2 (hAc.out.go hDR.out)).mono ?_;rintro e w4 ⟨v4,rfl,hr4,hb4⟩;have hB4:=Za (hDR.out.trans (hb4.mono hDR.out.size));have hR4:=Za hr4;obtain⟨A4,c4,hv4,_⟩:=hr4.slice;subst hv4;clear hb4 hr4)|fail)
 go_wp2_with fail
 refine(WM _ base g x O vo (.slice (some ⟨gn,0,none⟩) N.length cn) vt A4 _ c4 (ordL (q:Int) z0 TN) (ordC (q:Int) z0 TN) (hS.out.sg.below hB4.out) (by omega) (Zi2 (q:Int) z0 TN).1 (Zi2 (q:Int) z0 TN).2 (ZcJ (q:Int) z0 TN) (ZcK (q:Int) z0 TN) (hR4.out.arr Zh)).mono ?_;rintro e w5 ⟨rfl,hs⟩;have hR:=Za (Said.from hS.out.sg hB4.out hs);clear hs;go_wp2
 go_end0
 exact⟨rfl,by rw[hM.out];exact hR.out⟩
theorem Zh7 (w:World)(base g:Nat)(x:DeskV)(O:List ByteArray)(vo vn vt:Value)(N:List Int)(T:List ByteArray)(h:SX R w base g x O vo vn vt N T)(hok:x.pure.ok=true)(hO:O.length<=1000000)(h0:0<N.length) :
  Calls Tryz.prog 96 #[.pointer (some ⟨g,0,none⟩)] w λe w'=>e = .returned (.tuple #[])/\Said R w base g x (O++[sayB (fewC x.kinds (N.getD 0 0)) (numLine (fewL x.kinds (N.getD 0 0)))]) vn vt w':=by
 obtain⟨p1,p2,p3,p4,p5⟩:=DeskM.ok_parts.1 hok;replace p1:strokeOk x.fStroke=true:=p1;replace p2:inB x.fStakes 3 60=true:=p2;replace p3:ZD x.kinds=true:=p3;obtain⟨q,hq⟩:∃q:Nat,x.fStakes=(q:Int):=⟨x.fStakes.toNat,by have:=Zj.1 p2;omega⟩;have hqn:x.fStakes.toNat=q:=by omega
 have hqh:=Za hq;rw[hq] at p2;have hqb:=Zj.1 p2;have hdr:Below w.heap.size w w.drew:=Zb (Below.refl _ _) 1;have hDR:=Za hdr;obtain⟨gn,cn,z0,rfl,hcn,hgn,hz0,cz0⟩:=h.num (k:=0) h0;have hZ0:Hid (N.getD 0 0=z0):=Za (by rw[List.getD_eq_getElem?_getD,hz0];rfl);have hi0:(0:Int)<(N.length:Int):=by omega
 have zb:=h.nb z0 (List.mem_of_getElem? hz0);have hS:=Za h;have hcell:Hid (∀W,Below w.heap.size w W→W.cell? ⟨g,2,none⟩=some (.slice x.A x.n x.c)/\W.cell? ⟨g,6,none⟩=some (.slice (some ⟨gn,0,none⟩) N.length cn)/\W.cell? ⟨gn,0,none⟩=some (.int .i64 z0)):=Za (λW hb=>⟨(ZL (Ze hS.out.sg.box hb)).2.2.1,(ZL (Ze hS.out.sg.box hb)).2.2.2.2.2.2.1,(hb.cell (p:=⟨gn,0,none⟩) hgn).trans cz0⟩);have hM:Hid (sayB (fewC x.kinds (N.getD 0 0)) (numLine (fewL x.kinds (N.getD 0 0)))=sayB (fewC x.kinds z0) (numLine (fewL x.kinds z0))):=Za (by rw[hZ0.out]);obtain⟨Z,hZ⟩:∃Z,Z=(sayB (fewC x.kinds (N.getD 0 0)) (numLine (fewL x.kinds (N.getD 0 0)))):=⟨_,rfl⟩;rw[←hZ] at hM ⊢;clear hZ;clear h hq hdr hz0 hok;go_enter Tryz.func96,Tryz.ntmps96;go_upto_region 0 with fail
 obtain⟨e0,e1,e2⟩:=hcell.out _ hDR.out;go_region_held3 (λw'=>w'.cell? ⟨g,2,none⟩=some (.slice x.A x.n x.c)/\w'.cell? ⟨g,6,none⟩=some (.slice (some ⟨gn,0,none⟩) N.length cn)/\w'.cell? ⟨gn,0,none⟩=some (.int .i64 z0)) (first|exact hcell.out _ hB4.out|exact hcell.out _ hDR.out|go_keep) (first|(go_at_call 150;refine(ZhZ x.A x.n x.c x.kinds z0 _ p3 (hS.out.sg.below hDR.out).dv.good.kinds).mono ?_;rintro e w4 ⟨v4,s4,rfl,hr4,hb4⟩;have hB4:=Za (hDR.out.trans (hb4.mono hDR.out.size));have hR4:=Za hr4;obtain⟨A4,c4,hv4,_⟩:=hr4.slice;subst hv4;clear hb4 hr4)|fail)
 go_wp2_with fail
 refine(WM _ base g x O vo (.slice (some ⟨gn,0,none⟩) N.length cn) vt A4 _ c4 (fewL x.kinds z0) (fewC x.kinds z0) (hS.out.sg.below hB4.out) (by omega) (Zjb x.kinds z0).1 (Zjb x.kinds z0).2 (Zc9 _ p3) (Zda _ p3) (hR4.out.arr Zh)).mono ?_;rintro e w5 ⟨rfl,hs⟩;have hR:=Za (Said.from hS.out.sg hB4.out hs);clear hs;go_wp2
 go_end0
 exact⟨rfl,by rw[hM.out];exact hR.out⟩
theorem Zcw (w:World)(base g:Nat)(x:DeskV)(O:List ByteArray)(vo vn vt:Value)(N:List Int)(T:List ByteArray)(h:SX R w base g x O vo vn vt N T)(hok:x.pure.ok=true)(hO:O.length<=1000000) :
  Calls Tryz.prog 94 #[.pointer (some ⟨g,0,none⟩)] w λe w'=>e = .returned (.tuple #[])/\Said R w base g x (O++[sayB (newC x.fStakes N) (numLine (newL x.fStakes N))]) vn vt w':=by
 obtain⟨p1,p2,p3,p4,p5⟩:=DeskM.ok_parts.1 hok;replace p1:strokeOk x.fStroke=true:=p1;replace p2:inB x.fStakes 3 60=true:=p2;replace p3:ZD x.kinds=true:=p3;obtain⟨q,hq⟩:∃q:Nat,x.fStakes=(q:Int):=⟨x.fStakes.toNat,by have:=Zj.1 p2;omega⟩;have hqn:x.fStakes.toNat=q:=by omega
 have hqh:=Za hq;rw[hq] at p2;have hqb:=Zj.1 p2;have hdr:Below w.heap.size w w.drew:=Zb (Below.refl _ _) 1;have hDR:=Za hdr;obtain⟨An,cn,rfl,hcn⟩:=h.nm.slice;have hS:=Za h;have hcell:Hid (∀W,Below w.heap.size w W→W.cell? ⟨g,1,none⟩=some (.int .i64 (q:Int))/\W.cell? ⟨g,6,none⟩=some (.slice An N.length cn)):=Za (λW hb=>⟨by rw[←hqh.out];exact(ZL (Ze hS.out.sg.box hb)).2.1,(ZL (Ze hS.out.sg.box hb)).2.2.2.2.2.2.1⟩);have hM:Hid (sayB (newC x.fStakes N) (numLine (newL x.fStakes N))=sayB (newC (q:Int) N) (numLine (newL (q:Int) N))):=Za (by rw[hqh.out]);obtain⟨Z,hZ⟩:∃Z,Z=(sayB (newC x.fStakes N) (numLine (newL x.fStakes N))):=⟨_,rfl⟩;rw[←hZ] at hM ⊢;clear hZ;clear h hq hdr hok;go_enter Tryz.func94,Tryz.ntmps94;go_upto_region 0 with fail
 obtain⟨e0,e1⟩:=hcell.out _ hDR.out;go_region_held3 (λw'=>w'.cell? ⟨g,1,none⟩=some (.int .i64 (q:Int))/\w'.cell? ⟨g,6,none⟩=some (.slice An N.length cn)) (first|exact hcell.out _ hB4.out|exact hcell.out _ hDR.out|go_keep) (first|(go_at_call 144;refine(Zjw (q:Int) An N.length cn N _ hS.out.nl p2 ((hS.out.nm.below hDR.out).arr Zh)).mono ?_;rintro e w4 ⟨v4,rfl,hr4,hb4⟩;have hB4:=Za (hDR.out.trans (hb4.mono hDR.out.size));have hR4:=Za hr4;obtain⟨A4,c4,hv4,_⟩:=hr4.slice;subst hv4;clear hb4 hr4)|fail)
 go_wp2_with fail
 refine(WM _ base g x O vo (.slice An N.length cn) vt A4 _ c4 (newL (q:Int) N) (newC (q:Int) N) (hS.out.sg.below hB4.out) (by omega) (Zi5 (q:Int) N).1 (Zi5 (q:Int) N).2 (ZcM N (by omega)) (ZcN N (by omega)) (hR4.out.arr Zh)).mono ?_;rintro e w5 ⟨rfl,hs⟩;have hR:=Za (Said.from hS.out.sg hB4.out hs);clear hs;go_wp2
 go_end0
 exact⟨rfl,by rw[hM.out];exact hR.out⟩
end
theorem ZkG (W:World):(Instr.slice 27 (.slice none 0 0) none (some (.int .i64 0)) none).run Tryz.prog W = .ok (.slice none 0 0) W:=by
 obtain⟨i,hi,_,hs,_⟩:=info_parts Zt;have he:Tryz.prog.elem 27=106:=by simp[Program.elem,Tryz.underlying27]
 have h:=run_slice_h (P:=Tryz.prog) W 27 none 0 0 (by rw[he];exact Tryz.underlying27) .i64 0 (by omega) (by omega);rw[h,he];simp[sizeOf,typeInfo,hi,Result.andThen,sliced]
theorem Zk6 (W:World):(Instr.slice 27 (.slice none 0 0) (some (.int .i64 0)) none none).run Tryz.prog W = .ok (.slice none 0 0) W:=by
 have h:=Y0 (P:=Tryz.prog) Tryz.underlying27 Zt none 0 0 0 (by omega) W;exact h.trans (by simp[cutA])
theorem Zbi (x:Heap)(w:World):Calls Tryz.prog 214 #[.slice none 0 0,.agg #[.string x.fSort,.int .i64 x.fYear,.int .i64 x.fBundles]] w λe w'=>ZkZ w [] x e w':=by
 have hK0:=Za (heap_alloc_new w (.cells #[.string x.fSort,.int .i64 x.fYear,.int .i64 x.fBundles] 106));have hB0:Hid (Below w.heap.size w (w.alloc (.cells #[.string x.fSort,.int .i64 x.fYear,.int .i64 x.fBundles] 106))):=Za ((Below.refl _ _).alloc (Nat.le_refl _) _);have hhead:=ZkG;have hcut:=Zk6;have hres:Hid (X2 [] x=[x]):=Za rfl;go_enter Tryz.func214,Tryz.ntmps214;go_wp2
 go_loopw [5] (λi wr=>i = .int .i64 0/\Below w.heap.size w wr/\wr.heap[w.heap.size]?=some (.cells #[.string x.fSort,.int .i64 x.fYear,.int .i64 x.fBundles] 106 (0,0))) (λ_ _=>0)
 case atStart=>exact⟨rfl,hB0.out,hK0.out⟩
 case round =>
  clear hB0 hK0;obtain⟨rfl,hb,hk⟩:=hrel;have hB:=Za hb;have hK:=Za hk;have hsz:w.heap.size+1<=wr.heap.size:=(Array.getElem?_eq_some_iff.1 hk).1;obtain⟨x0,x1,x2,xf⟩:=V2 hk;clear hb hk;have hO1:=Za (Own.none_made (cells:=Heap.cells) (e:=106) (s:=3) (base:=w.heap.size+1) wr hsz);have hbW:=Za ((Below.refl wr.heap.size wr).alloc (Nat.le_refl wr.heap.size) (.cells #[] 106));have hB1:=Za (Below.up hB.out hbW.out);have hK1:=Za (Ya hK.out hbW.out);go_upto_region 5 with (at_builtin;refine Z1 rfl (.tmp 19) (.tmp 22) rfl Tryz.underlying27 Zt rfl (by omega) (by omega) Heap.len Heap.one rfl hO1.out rfl (Arr.nil_ (B:=0) none) (by omega) (Nat.le_trans hsz hbW.out.size) ?_;intro v6 w6 ho6 hg6 hat6;have hP6:=Za (Y1 hB1.out hK1.out hO1.out hg6);have hs6:=ZR hat6 rfl;have hO6:=Za ho6;clear ho6 hg6 hat6)
  go_quiet (fail)
  go_upto_region 8 with fail
  refine Zih (φ:=λW=>Below w.heap.size w W/\W.heap[w.heap.size]?=some (.cells #[.string x.fSort,.int .i64 x.fYear,.int .i64 x.fBundles] 106 (0,0))/\Own Heap.cells 106 3 W (w.heap.size+1) v6 0 []) ⟨Zb hP6.out.1 _,Ya hP6.out.2 (Zb (Below.refl _ _) _),hO6.out.below (Zb (Below.refl _ _) _)⟩ ?_;rintro w7 ⟨hb7,hk7,ho7⟩;obtain⟨z0,z1,z2,zf⟩:=V2 hk7;have hB7:=Za hb7;have hK7:=Za hk7;have hO7:=Za ho7;have hz7:Hid (w.heap.size+1<=w7.heap.size):=Za (Array.getElem?_eq_some_iff.1 hk7).1;clear hb7 hk7 ho7 x0 x1 x2 xf;go_wp2_with (first|(at_builtin;refine Zp w7.heap.size rfl rfl (.tmp 59) (.tmp 61) rfl Tryz.underlying27 Zt rfl (by omega) (by omega) Heap.len Heap.one rfl hO7.out x _ rfl rfl (by omega) hz7.out ?_;intro v8 w8 ho8 hg8 hat8;have hP8:=Za (Y1 hB7.out hK7.out hO7.out hg8);have hs8:=ZR hat8 hs6;have hz8:=Za (Nat.le_trans hz7.out hg8.size);have hO8:=Za ho8;clear ho8 hg8 hat8)|(at_builtin;refine Z1 rfl (.tmp 63) (.tmp 66) rfl Tryz.underlying27 Zt rfl (by omega) (by omega) Heap.len Heap.one rfl hO8.out rfl (Arr.nil_ (B:=0) none) (by omega) hz8.out ?_;intro v9 w9 ho9 hg9 hat9;have hP9:=Za (Y1 hP8.out.1 hP8.out.2 hO8.out hg9);have hs9:=ZR hat9 hs8;have hO9:=Za ho9;clear ho9 hg9 hat9)|fail)
  go_ret;exact⟨v9,rfl,by rw[hres.out];exact hO9.out.less (by omega),hP9.out.1,hs9⟩
theorem okN:ZE ([]:List Heap)=true:=rfl
theorem Zem (w:World)(x:Heap)(hx:x.fits) :
  Calls Tryz.prog 152 #[.slice none 0 0,.agg #[.string x.fSort,.int .i64 x.fYear,.int .i64 x.fBundles]] w λe w'=>∃v,e = .returned (.tuple #[v,.int .i64 (mPutC [] x)])/\Res Heap.cells 106 3 w' w.heap.size v (mPutL [] x).length (mPutL [] x)/\Below w.heap.size w w':=by
 have hr:Arr Heap.cells 3 w w.heap.size none 0 []:=Arr.nil_ none;have hf:∀z∈([]:List Heap),z.fits:=λz hz=>by cases hz
 have hK:=Za (heap_alloc_new w (.cells #[.string x.fSort,.int .i64 x.fYear,.int .i64 x.fBundles] 106));have hB:Hid (Below w.heap.size w (w.alloc (.cells #[.string x.fSort,.int .i64 x.fYear,.int .i64 x.fBundles] 106))):=Za ((Below.refl _ _).alloc (Nat.le_refl _) _);have hok:=Za okN;cases hxo0:x.ok
 ·have hxo:=Za hxo0
  have hm:Hid (mPutC [] x=2):=Za (by unfold mPutC;rw[hok.out,hxo0];rfl);clear hxo0;have hm2:Hid (mPutL [] x=[]):=Za (Xq hm.out (by omega));go_enter Tryz.func152,Tryz.ntmps152;go_wp2_with (first|(go_at_call 85;refine(ZT none 0 0 [] _ (by omega) hf (hr.go hB.out)).mono ?_;rw[hok.out];rintro e w1 ⟨rfl,hb⟩;replace hK:=Za (Ya hK.out hb);replace hB:=Za (Below.up hB.out hb);clear hb;obtain⟨k0,k1,k2⟩:=Zcy hK.out)|(go_at_call 136;refine(YL w.heap.size 0 x _ hx k0 k1 k2).mono ?_;rw[hxo.out];rintro e w2 ⟨rfl,rfl⟩)|fail)
  go_ret2;exact⟨_,by rw[hm.out];rfl,by rw[hm2.out];exact Res.empty (Nat.zero_le _),hB.out⟩
 have hxo:=Za hxo0;have hpf:∀z∈X2 [] x,z.fits:=U9 hf hx;have hpl:(X2 [] x).length<=1:=Nat.le_refl 1;cases hok20:ZE (X2 [] x)
 ·have hok2:=Za hok20
  have hm:Hid (mPutC [] x=5):=Za (by unfold mPutC;rw[hok.out,hxo0,hok20];rfl);have hm2:Hid (mPutL [] x=[]):=Za (Xq hm.out (by omega));clear hxo0 hok20;go_enter Tryz.func152,Tryz.ntmps152;go_upto_region 5 with (first|(go_at_call 85;refine(ZT none 0 0 [] _ (by omega) hf (hr.go hB.out)).mono ?_;rw[hok.out];rintro e w1 ⟨rfl,hb⟩;replace hK:=Za (Ya hK.out hb);replace hB:=Za (Below.up hB.out hb);clear hb;obtain⟨k0,k1,k2⟩:=Zcy hK.out)|(go_at_call 136;refine(YL w.heap.size 0 x _ hx k0 k1 k2).mono ?_;rw[hxo.out];rintro e w2 ⟨rfl,rfl⟩)|fail)
  obtain⟨q0,q1,q2,qf⟩:=V2 hK.out;go_wp2_with (first|(go_at_call 214;refine(Zbi x _).mono ?_;rintro e w3 ⟨V,rfl,hoV,hb,_⟩;have hO:=Za (hoV.less hB.out.size);obtain⟨A2,c2,rfl,_⟩:=hoV.slice;replace hB:=Za (Below.up hB.out hb);clear hb hoV)|(go_at_call 85;refine(ZT A2 _ c2 (X2 [] x) _ (by omega) hpf (hO.out.arr Heap.len)).mono ?_;rw[hok2.out];rintro e w4 ⟨rfl,hb⟩;replace hO:=Za (hO.out.below hb);replace hB:=Za (Below.up hB.out hb);clear hb)|fail)
  go_ret2;exact⟨_,by rw[hm.out];rfl,by rw[hm2.out];exact Res.empty (Nat.zero_le _),hB.out⟩
 ·have hok2:=Za hok20
  have hm:Hid (mPutC [] x=0):=Za (by unfold mPutC;rw[hok.out,hxo0,hok20];rfl);have hm2:Hid (mPutL [] x=X2 [] x):=Za (by unfold mPutL;rw[hm.out];rfl);clear hxo0 hok20;go_enter Tryz.func152,Tryz.ntmps152;go_upto_region 5 with (first|(go_at_call 85;refine(ZT none 0 0 [] _ (by omega) hf (hr.go hB.out)).mono ?_;rw[hok.out];rintro e w1 ⟨rfl,hb⟩;replace hK:=Za (Ya hK.out hb);replace hB:=Za (Below.up hB.out hb);clear hb;obtain⟨k0,k1,k2⟩:=Zcy hK.out)|(go_at_call 136;refine(YL w.heap.size 0 x _ hx k0 k1 k2).mono ?_;rw[hxo.out];rintro e w2 ⟨rfl,rfl⟩)|fail)
  obtain⟨q0,q1,q2,qf⟩:=V2 hK.out;go_wp2_with (first|(go_at_call 214;refine(Zbi x _).mono ?_;rintro e w3 ⟨V,rfl,hoV,hb,_⟩;have hO:=Za (hoV.less hB.out.size);obtain⟨A2,c2,rfl,_⟩:=hoV.slice;replace hB:=Za (Below.up hB.out hb);clear hb hoV)|(go_at_call 85;refine(ZT A2 _ c2 (X2 [] x) _ (by omega) hpf (hO.out.arr Heap.len)).mono ?_;rw[hok2.out];rintro e w4 ⟨rfl,hb⟩;replace hO:=Za (hO.out.below hb);replace hB:=Za (Below.up hB.out hb);clear hb)|fail)
  go_ret2;exact⟨_,by rw[hm.out];rfl,by rw[hm2.out];exact hO.out.res,hB.out⟩
section
variable {R:RowS}
theorem Zhg {l:List Heap}{x:Heap}(h:mPutC l x=0):0<(mPutL l x).length:=by
 unfold mPutL;rw[if_pos h];unfold X2;split
 ·rename_i hf
  obtain⟨_,_,_,_,h5,_⟩:=Qe hf;simp;omega
 ·simp;omega
theorem Zkg (l:List Heap)(x:Heap):0<=mPutC l x/\mPutC l x<=10:=by
 unfold mPutC;repeat' split
 all_goals omega
theorem Zgg (w:World)(base g:Nat)(x:DeskV)(O:List ByteArray)(vo vn vt:Value)(N:List Int)(T:List ByteArray)(h:SX R w base g x O vo vn vt N T)(hok:x.pure.ok=true)(hO:O.length<=1000000)(hh:HS x)(ht:0<T.length) :
  Calls Tryz.prog 97 #[.pointer (some ⟨g,0,none⟩)] w λe w'=>e = .returned (.tuple #[])/\Did R w base g (if rhOk (T.getD 0 ⟨#[]⟩)=true then (if mPutC x.heaps (rhHeap (T.getD 0 ⟨#[]⟩))=0 then ({ x.pure with hs:=mPutL x.heaps (rhHeap (T.getD 0 ⟨#[]⟩)) },[({ x.pure with hs:=mPutL x.heaps (rhHeap (T.getD 0 ⟨#[]⟩)) }:DeskM).text]) else (x.pure,[errB (mPutC x.heaps (rhHeap (T.getD 0 ⟨#[]⟩)))])) else (x.pure,[errB 7])) O vn vt w':=by
 obtain⟨p1,p2,p3,p4,p5⟩:=DeskM.ok_parts.1 hok;obtain⟨gt,ct,y0,rfl,hct,hgt,hy0,cy0⟩:=h.txt (k:=0) ht;have hY0:Hid (T.getD 0 ⟨#[]⟩=y0):=Za (by rw[List.getD_eq_getElem?_getD,hy0];rfl);have hit:(0:Int)<(T.length:Int):=by omega
 have ysz:=h.tz y0 (List.mem_of_getElem? hy0);obtain⟨Z,hZ⟩:∃Z,Z=(if rhOk (T.getD 0 ⟨#[]⟩)=true then (if mPutC x.heaps (rhHeap (T.getD 0 ⟨#[]⟩))=0 then ({ x.pure with hs:=mPutL x.heaps (rhHeap (T.getD 0 ⟨#[]⟩)) },[({ x.pure with hs:=mPutL x.heaps (rhHeap (T.getD 0 ⟨#[]⟩)) }:DeskM).text]) else (x.pure,[errB (mPutC x.heaps (rhHeap (T.getD 0 ⟨#[]⟩)))])) else (x.pure,[errB 7])):=⟨_,rfl⟩;rw[←hZ];have hM:=Za (hZ.trans (show(if rhOk (T.getD 0 ⟨#[]⟩)=true then (if mPutC x.heaps (rhHeap (T.getD 0 ⟨#[]⟩))=0 then ({ x.pure with hs:=mPutL x.heaps (rhHeap (T.getD 0 ⟨#[]⟩)) },[({ x.pure with hs:=mPutL x.heaps (rhHeap (T.getD 0 ⟨#[]⟩)) }:DeskM).text]) else (x.pure,[errB (mPutC x.heaps (rhHeap (T.getD 0 ⟨#[]⟩)))])) else (x.pure,[errB 7]))=if rhOk y0=true then (if mPutC x.heaps (rhHeap y0)=0 then ({ x.pure with hs:=mPutL x.heaps (rhHeap y0) },[({ x.pure with hs:=mPutL x.heaps (rhHeap y0) }:DeskM).text]) else (x.pure,[errB (mPutC x.heaps (rhHeap y0))])) else (x.pure,[errB 7]) from by rw[hY0.out]));clear hZ;have hS:=Za h;have hHS:=Za hh;obtain⟨c0,c1,c2,c3,c4,c5,c6,c7,cf⟩:=ZL h.sg.box;cases hs:rhOk y0
 ·have hM2:Hid (Z=(x.pure,[errB 7])):=Za (by rw[hM.out,hs];rfl)
  clear h hok hh hy0 p1 p2 p3 p4 p5;go_enter Tryz.func97,Tryz.ntmps97;go_wp2_with fail
  refine(Zf7 y0 _ ysz).mono ?_;rw[hs];rintro e w1 ⟨rfl,hb⟩;have hBz:=Za (fun(O:Obj)=>hb.alloc hb.size O);clear hb;go_wp2_with fail
  refine(YK _ base g x O vo _ _ 7 (hS.out.sg.below (hBz.out _)) (by omega) (by omega) (by omega)).mono ?_;rintro e w2 ⟨rfl,hs⟩;have hR:=Za (Said.from hS.out.sg (hBz.out _) hs);clear hs;go_wp2
  refine bodyPost_ret (results_none rfl _ _ _) rfl ?_;exact⟨rfl,by rw[hM2.out];exact hR.out.didL hHS.out⟩
 ·obtain⟨y,hy⟩:∃y,y=rhHeap y0:=⟨_,rfl⟩
  have hyf:y.fits:=by rw[hy];exact Zgl hs
  obtain⟨C,hC⟩:∃C,C=mPutC x.heaps y:=⟨_,rfl⟩;obtain⟨L,hL⟩:∃L,L=mPutL x.heaps y:=⟨_,rfl⟩;have hM2:Hid (Z=if C=0 then ({ x.pure with hs:=L },[({ x.pure with hs:=L }:DeskM).text]) else (x.pure,[errB C])):=Za (by rw[hM.out,hs,hC,hL,hy];rfl);have hLl:Hid (L.length<=1048576/\(∀z∈L,z.fits)/\(C=0→0<L.length)):=Za (by rw[hL,hC];exact⟨ZcC,Zbq h.sg.dv.fit hyf,Zhg⟩);have hLok:Hid (C=0→ZE L=true):=Za (by
   intro h0;rw[hC] at h0;rw[hL];unfold mPutL;rw[if_pos h0];unfold mPutC at h0;split at h0
   ·split at h0
    ·split at h0
     ·assumption
     ·cases h0
    ·cases h0
   ·cases h0)
  have hCb:0<=C/\C<=10:=by rw[hC];exact Zkg _ _
  have hput:Hid (∀W,SG R W base g x O vo vn (.slice (some ⟨gt,0,none⟩) T.length ct)→Calls Tryz.prog 152 #[.slice x.A' x.n' x.c',.agg #[.string y.fSort,.int .i64 y.fYear,.int .i64 y.fBundles]] W λe w'=>∃v,e = .returned (.tuple #[v,.int .i64 C])/\Res Heap.cells 106 3 w' W.heap.size v L.length L/\Below W.heap.size W w'):=Za (λW hw=>by
   rw[hC,hL];rcases hh.2 with ⟨b,o,hA⟩|⟨hA,hn0,hc0⟩
   ·have ha:=hw.dv.good.heaps
    rw[hA] at ha ⊢;exact Zga b o x.n' x.c' x.heaps W hw.dv.nh hh.1 hw.dv.fit ha y hyf
   ·have hl:=hw.dv.h.len
    rw[hn0] at hl;have hl0:x.heaps=[]:=List.eq_nil_of_length_eq_zero hl;rw[hA,hn0,hc0,hl0];exact Zem W y hyf)
  have hpar:=Za (⟨p1,p2,p3,p5⟩:strokeOk x.pure.st=true/\inB x.pure.sk 3 60=true/\ZD x.pure.ks=true/\ZI x.pure.lg=0);have hokh:=Za hok;clear h hok hh hy0 p1 p2 p3 p4 p5 hC hL;go_enter Tryz.func97,Tryz.ntmps97;go_wp2_with fail
  refine(Zf7 y0 _ ysz).mono ?_;rw[hs,←hy];rintro e w1 ⟨rfl,hb⟩;have hBz:=Za (fun(O:Obj)=>hb.alloc hb.size O);clear hb hy hs;go_upto_region 3 with fail
  refine QH (φ:=λW=>Below w.heap.size w W/\W.heap[w1.heap.size]?=some (.cells #[.string y.fSort,.int .i64 y.fYear,.int .i64 y.fBundles] 106 (0,0))) ⟨hBz.out _,heap_alloc_new w1 _⟩ ?_;rintro W0 ⟨n0,n1⟩;obtain⟨kx,hkx⟩:∃kx,kx=w1.heap.size:=⟨_,rfl⟩;rw[←hkx] at n1 ⊢;have hB1:=Za n0;have hX1:=Za n1;have hS1:=Za (hS.out.sg.below n0);clear n0 n1 hkx hBz c0 c1 c2 c3 c4 c5 c6 c7 cf;have hdr:Below W0.heap.size W0 W0.drew:=Zb (Below.refl _ _) 1;have hDR:=Za hdr;have hcell:Hid (∀W,Below W0.heap.size W0 W→W.cell? ⟨g,3,none⟩=some (.slice x.A' x.n' x.c')/\W.cell? ⟨kx,0,none⟩=some (.string y.fSort)/\W.cell? ⟨kx,1,none⟩=some (.int .i64 y.fYear)/\W.cell? ⟨kx,2,none⟩=some (.int .i64 y.fBundles)):=Za (λW hb=>⟨(ZL (Ze hS1.out.box hb)).2.2.2.1,(Zfy (Ze hX1.out hb)).1,(Zfy (Ze hX1.out hb)).2.1,(Zfy (Ze hX1.out hb)).2.2.1⟩);obtain⟨e3,f0,f1,f2⟩:=hcell.out _ hdr;clear hdr;have hSd:=Za (hS1.out.below hDR.out);go_region_held3 (λw'=>w'.cell? ⟨g,3,none⟩=some (.slice x.A' x.n' x.c')/\w'.cell? ⟨kx,0,none⟩=some (.string y.fSort)/\w'.cell? ⟨kx,1,none⟩=some (.int .i64 y.fYear)/\w'.cell? ⟨kx,2,none⟩=some (.int .i64 y.fBundles)) (first|exact hcell.out _ hB4.out|exact hcell.out _ hDR.out|go_keep) (first|(go_at_call 152;refine(hput.out _ hSd.out).mono ?_;rintro e w4 ⟨v4,rfl,hr4,hb4⟩;have hB4:=Za (hDR.out.trans (hb4.mono hDR.out.size));have hR4:=Za hr4;obtain⟨A4,c4,hv4,hnc4⟩:=hr4.slice;subst hv4;clear hb4 hr4)|fail)
  have hS4:=Za (hS1.out.below hB4.out);have hBw:Hid (Below base w w4):=Za ((hB1.out.mono hS.out.sg.bw).trans (hB4.out.mono (Nat.le_trans hS.out.sg.bw hB1.out.size)));clear e3 f0 f1 f2 hcell;obtain⟨c0,c1,c2,c3,c4',c5,c6,c7,cf⟩:=ZL hS4.out.box;by_cases hc0:C=0
  ·obtain⟨x2,hx2⟩:∃x2:DeskV,x2={ x with A':=A4,n':=L.length,c':=c4,heaps:=L }:=⟨_,rfl⟩
   have hM3:Hid (Z=(x2.pure,[x2.pure.text])):=Za (by rw[hM2.out,if_pos hc0,hx2];rfl);have hok2:x2.pure.ok=true:=by rw[hx2];exact DeskM.ok_parts.2 ⟨hpar.out.1,hpar.out.2.1,hpar.out.2.2.1,hLok.out hc0,hpar.out.2.2.2⟩
   have hh2:Hid (HS x2):=Za (by
    rw[hx2];refine⟨hnc4,.inl ?_⟩;rcases(hR4.out.2.2 (hLl.out.2.2 hc0)).form with ⟨e,_⟩|⟨gq,cap,e,_⟩
    ·have:=hLl.out.2.2 hc0
     injection e with _ e2
     omega
    ·injection e with e
     exact⟨gq,0,e⟩)
   have hset:Hid (SG R (w4.setCell ⟨g,3,none⟩ (.slice A4 L.length c4)) base g x2 O vo vn (.slice (some ⟨gt,0,none⟩) T.length ct)):=Za (by rw[hx2];exact hS4.out.set3 (hR4.out.less (Nat.le_trans hS.out.sg.bw (Nat.le_trans hB1.out.size hDR.out.size))) hLl.out.1 hLl.out.2.1);subst hc0;clear hx2;go_upto_region 6 with fail
   refine QH (φ:=λW=>SG R W base g x2 O vo vn (.slice (some ⟨gt,0,none⟩) T.length ct)/\Below base w W) ⟨hset.out,hBw.out.setCell (p:=⟨g,3,none⟩) hS4.out.hg _⟩ ?_;rintro W1 ⟨n0,n1⟩;have hS5:=Za n0;have hB5:=Za n1;clear n0 n1 c0 c1 c2 c3 c4' c5 c6 c7 cf;go_wp2_with fail
   refine(X7 _ base g x2 O vo _ _ 0 hS5.out (by omega) (by omega) (by omega) hok2).mono ?_;rintro e w2 ⟨rfl,hs⟩;have hR:=Za (Said.then hB5.out hs);clear hs;go_wp2
   go_end0
   exact⟨rfl,by rw[hM3.out];exact hR.out.didL hh2.out⟩
  ·have hcz:(C==0)=false:=by simpa using hc0
   have hM3:Hid (Z=(x.pure,[sayB C x.pure.text])):=Za (by rw[hM2.out,if_neg hc0];unfold sayB;rw[if_neg hc0]);clear hc0;go_wp2_with fail
   refine(X7 _ base g x O vo _ _ C hS4.out (by omega) hCb.1 hCb.2 hokh.out).mono ?_;rintro e w2 ⟨rfl,hs⟩;have hR:=Za (Said.then hBw.out hs);clear hs;go_wp2
   go_end0
   exact⟨rfl,by rw[hM3.out];exact hR.out.didL hHS.out⟩
theorem ZeB (w:World)(base g:Nat)(x:DeskV)(O:List ByteArray)(vo vn vt:Value)(N:List Int)(T:List ByteArray)(h:SX R w base g x O vo vn vt N T)(hok:x.pure.ok=true)(hO:O.length<=1000000)(hh:HS x) :
  Calls Tryz.prog 98 #[.pointer (some ⟨g,0,none⟩)] w λe w'=>e = .returned (.tuple #[])/\Did R w base g ((x.pure,x.heaps.map mHeapT++[okB x.heaps.length])) O vn vt w':=by
 obtain⟨p1,p2,p3,p4,p5⟩:=DeskM.ok_parts.1 hok;have hS:=Za h;have hHS:=Za hh;obtain⟨L,hL⟩:∃L,L=x.heaps:=⟨_,rfl⟩;obtain⟨AH,hAH⟩:∃A,A=x.A':=⟨_,rfl⟩;obtain⟨N',hN⟩:∃N',N'=x.n':=⟨_,rfl⟩;have hrN:Arr Heap.cells 3 w w.heap.size AH N' L:=by rw[hAH,hN,hL];exact h.sg.dv.good.heaps
 have hNl:=Za hrN.len;have hat:Hid (∀y∈L,y.ok=true):=Za (by
  intro y hy;rw[hL] at hy;replace p4:ZE x.heaps=true:=p4;unfold ZE at p4;rw[Bool.and_eq_true] at p4;obtain⟨k,hk⟩:=List.mem_iff_getElem?.1 hy;exact VH p4.1 (Zq hk) hk)
 have h20:N'<=20:=by rw[hN,←h.sg.dv.h.len];exact Wu p4
 have hE:=Za (Own.none_made (cells:=ZY) (e:=9) (s:=1) (base:=w.heap.size) w (Nat.le_refl _));have hOO:=Za hO;obtain⟨Z,hZ⟩:∃Z,Z=(x.pure,x.heaps.map mHeapT++[okB x.heaps.length]):=⟨_,rfl⟩;have hM:Hid (Z=(x.pure,L.map mHeapT++[okB L.length])):=Za (by rw[hZ,hL]);rw[←hZ];have hbx:Hid (∀W,Below w.heap.size w W→W.cell? ⟨g,3,none⟩=some (.slice AH N' x.c')):=Za (λW hb=>by rw[hAH,hN];exact(ZL (Ze hS.out.sg.box hb)).2.2.2.1);clear h hok hh p1 p2 p3 p4 p5 hZ hL hAH hN;go_enter Tryz.func98,Tryz.ntmps98;go_wp2
 go_loopw [2,3] (λv i wr=>∃k:Nat,k<=N'/\i = .int .i64 (k:Int)/\Own ZY 9 1 wr w.heap.size v k ((L.take k).map mHeapT)/\Below w.heap.size w wr) (λ_ i _=>N' - (intOf i).toNat)
 case atStart=>exact⟨0,Nat.zero_le _,rfl,hE.out,(Below.refl w.heap.size w).alloc (Nat.le_refl _) _⟩
 case round =>
  obtain⟨k,hk,rfl,ho,hb⟩:=hrel;have hO:=Za ho;have c3:=hbx.out _ hb;clear ho;by_cases hlt:k<N'
  ·have hki:(k:Int)<(N':Int):=by omega
   obtain⟨b,o,y,rfl,hbl,hx,c0,c1,c2⟩:=hrN.Heap hlt;have d0:wr.cell? ⟨b,o+k*3,none⟩=some (.string y.fSort):=(hb.cell (p:=⟨b,o+k*3,none⟩) hbl).trans c0;have d1:wr.cell? ⟨b,o+k*3+1,none⟩=some (.int .i64 y.fYear):=(hb.cell (p:=⟨b,o+k*3+1,none⟩) hbl).trans c1;have d2:wr.cell? ⟨b,o+k*3+2,none⟩=some (.int .i64 y.fBundles):=(hb.cell (p:=⟨b,o+k*3+2,none⟩) hbl).trans c2;have hX:=Za hx;clear hx c0 c1 c2;have hB:=Za hb;have hyo:=hat.out y (List.mem_of_getElem? hX.out);have hnx:Hid ((L.take (k+1)).map mHeapT=(L.take k).map mHeapT++[Zft y]):=Za (by rw[Zo hX.out,List.map_append];unfold mHeapT;simp[hyo]);have hbl2:b<wr.heap.size:=Nat.lt_of_lt_of_le hbl hb.size;clear hb;go_wp2_with fail
   refine(Zbe b (o+k*3) y _ hyo hbl2 d0 d1 d2).mono ?_;rintro e w1 ⟨rfl,hb⟩;have hO1:=Za (hO.out.below hb);have hB3:=Za (Below.up hB.out hb);clear hb;go_wp2_with (at_builtin;refine Zp w1.heap.size rfl rfl (.tmp 15) (.tmp 24) rfl Tryz.underlying24 Wa rfl (by omega) (by omega) Zf YJ rfl hO1.out (Zft y) _ rfl rfl (by omega) hB3.out.size ?_;intro v5 w5 ho5 hg5 _;have hC5:=Za (Zi hB3.out hO1.out hg5 hB3.out.size);have hO5:=Za ho5;clear ho5 hg5)
   go_roundw
   case rel=>exact⟨k+1,by omega,by go_num,by rw[hnx.out];exact hO5.out,hC5.out⟩
   case measure=>simp[intOf];omega
  ·have hkn:k=N':=by omega
   have hki:¬(k:Int)<(N':Int):=by omega
   rw[hkn,List.take_of_length_le (by rw[hNl.out];exact Nat.le_refl _)] at hO;have hB:=Za hb;obtain⟨A5,c5,hv5,_⟩:=hO.out.slice;subst hv5;have hln:Hid ((L.map mHeapT).length=N'):=Za (by rw[List.length_map,hNl.out]);clear hb hkn;go_wp2_with fail
   refine(Zbj _ base g x O vo vn vt A5 N' c5 (L.map mHeapT) (hS.out.sg.below hB.out) hOO.out (by omega) (hO.out.arr Zf)).mono ?_;rintro e w2 ⟨rfl,hs⟩;have hR:=Za (Said.from hS.out.sg hB.out hs);clear hs;go_wp2
   go_end0
   exact⟨rfl,by rw[hM.out];have h5:=hR.out;rw[List.append_assoc] at h5;rw[hNl.out];exact h5.didL hHS.out⟩
end
end Go.Proofs.YtfpaejlipaainaaGreatDoor
