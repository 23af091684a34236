/- Texts that belong together, joined: contracts and plain laws. No statement is proved here. -/
import Derived.Test.YtfpaejlipaainaaGreatDoorM18
set_option maxRecDepth 100000
set_option maxHeartbeats 1000000
namespace Go.Proofs.YtfpaejlipaainaaGreatDoor
open Go.ChangeShapes Go.WideShapes Go.ChangeAt Go.RowKit Go.Deep
def hz0:Heap:=⟨⟨#[]⟩,0,0⟩
def rhOk (x:ByteArray):Bool:=match words 32 x with
 | [a,b,c]=>Yt b.data.toList&&Yt c.data.toList&&(⟨a,rdNum b.data.toList,rdNum c.data.toList⟩:Heap).ok
 | _=>false
def rhHeap (x:ByteArray):Heap:=match words 32 x with
 | [a,b,c]=>if rhOk x=true then ⟨a,rdNum b.data.toList,rdNum c.data.toList⟩ else hz0
 | _=>hz0
theorem Zgk {x:ByteArray}(h:(words 32 x).length≠3):rhHeap x=hz0/\rhOk x=false:=by
 constructor
 ·unfold rhHeap;split
  ·rename_i hw;rw[hw] at h;exact absurd rfl h
  ·rfl
 ·unfold rhOk;split
  ·rename_i hw;rw[hw] at h;exact absurd rfl h
  ·rfl
theorem Zat {x a b c:ByteArray}(h:words 32 x=[a,b,c]):rhOk x=(Yt b.data.toList&&Yt c.data.toList&&(⟨a,rdNum b.data.toList,rdNum c.data.toList⟩:Heap).ok):=by
 unfold rhOk;rw[h]
theorem JG {x:ByteArray}(h:rhOk x=false):rhHeap x=hz0:=by
 unfold rhHeap;split
 ·rw[h];rfl
 ·rfl
theorem Zcz {x a b c:ByteArray}(hw:words 32 x=[a,b,c])(h:rhOk x=true):rhHeap x=⟨a,rdNum b.data.toList,rdNum c.data.toList⟩:=by
 unfold rhHeap;rw[hw];simp only;rw[if_pos h]
theorem W9 {w w4:World}(h:Below w.heap.size w w4)(a b c:Value)(O:Obj):Below w.heap.size w ((((w4.setCell ⟨w.heap.size,0,none⟩ a).setCell ⟨w.heap.size,1,none⟩ b).setCell ⟨w.heap.size,2,none⟩ c).alloc O):=by
 have h5:=((h.setCell (p:=⟨w.heap.size,0,none⟩) (Nat.le_refl _) a).setCell (p:=⟨w.heap.size,1,none⟩) (Nat.le_refl _) b).setCell (p:=⟨w.heap.size,2,none⟩) (Nat.le_refl _) c;exact h5.alloc h5.size O
def RH (x:Heap)(ok:Bool)(w:World)(e:Ending)(w':World):Prop:=e = .returned (.tuple #[.agg #[.string x.fSort,.int .i64 x.fYear,.int .i64 x.fBundles],.bool ok])/\Below w.heap.size w w'
theorem YF {w w':World}{g:Nat}{o:Obj}(h:w.heap[g]?=some o)(hb:Below w.heap.size w w'):w'.heap[g]?=some o:=(hb.block g (Array.getElem?_eq_some_iff.1 h).1).trans h
theorem Zis (x:ByteArray)(w:World)(hs:x.size<=1048576)(L:List ByteArray)(hL:L=words 32 x)(h3:L.length≠3)(hG:Gl w) :
  Calls Tryz.prog 68 #[.string x] w (RH hz0 false w):=by
 have e4:((L.length:Int) != 3)=true:=by rw[bne_iff_ne];omega
 clear h3;have hsp:∀W:World,Gl W→Hid (Calls Tryz.prog 27 #[.string x,.string ⟨#[32]⟩] W λe w'=>∃v,e = .returned v/\Own ZY 9 1 w' W.heap.size v L.length L/\Below W.heap.size W w'):=λW hg=>Za (by rw[hL];exact ZH 32 x W (by omega) hg)
 have hLh:=Za hL;have hSP:=Za hsp;have hGh:=Za hG;clear hL hsp hG;have hB:=Za ((Below.refl w.heap.size w).alloc (Nat.le_refl _) (.cells #[.string ⟨#[]⟩,.int .i64 0,.int .i64 0] 106));go_enter Tryz.func68,Tryz.ntmps68;go_wp2_with fail
 have hres:=Za (heap_alloc_new w (.cells #[.string ⟨#[]⟩,.int .i64 0,.int .i64 0] 106));obtain⟨W1,hW1⟩:∃W1,W1=w.alloc (.cells #[.string ⟨#[]⟩,.int .i64 0,.int .i64 0] 106):=⟨_,rfl⟩;rw[←hW1] at hB hres ⊢;clear hW1;refine(hSP.out _ (hGh.out.below hB.out)).out.mono ?_;rintro e w2 ⟨v2,rfl,ho2,hb⟩;have hO2:=Za ho2;replace hB:=Za (Below.up hB.out hb);replace hres:=Za (YF hres.out hb);clear hb ho2;obtain⟨Aw,cw,rfl,_⟩:=hO2.out.slice;have f0:w2.cell? ⟨w.heap.size,0,none⟩=some (.string ⟨#[]⟩):=by rw[cell_of_row _ _ _ _ _ _ hres.out];rfl
 have f1:w2.cell? ⟨w.heap.size,1,none⟩=some (.int .i64 0):=by rw[cell_of_row _ _ _ _ _ _ hres.out];rfl
 have f2:w2.cell? ⟨w.heap.size,2,none⟩=some (.int .i64 0):=by rw[cell_of_row _ _ _ _ _ _ hres.out];rfl
 have ff:∀o:Nat,World.frozen? w2 (⟨w.heap.size,o,none⟩:Addr)=false:=λo=>frozen_of_row w2 _ _ _ _ hres.out
 go_wp2
 exact bodyPost_ret (v:=.tuple #[.agg #[.string ⟨#[]⟩,.int .i64 0,.int .i64 0],.bool false]) (by simp[results,Tryz.results68,go_sem,f0,f1,f2]) rfl ⟨rfl,((hB.out.setCell (p:=⟨w.heap.size,0,none⟩) (Nat.le_refl _) _).setCell (p:=⟨w.heap.size,1,none⟩) (Nat.le_refl _) _).setCell (p:=⟨w.heap.size,2,none⟩) (Nat.le_refl _) _⟩
theorem ZjT (x:ByteArray)(w:World)(hs:x.size<=1048576)(a b c:ByteArray)(hL:[a,b,c]=words 32 x)(ha:a.size<=maxLen)(hG:Gl w)(k1:Yt b.data.toList=false) :
  Calls Tryz.prog 68 #[.string x] w (RH hz0 false w):=by
 have hu:=ha;clear hu;have hsp:∀W:World,Gl W→Hid (Calls Tryz.prog 27 #[.string x,.string ⟨#[32]⟩] W λe w'=>∃v,e = .returned v/\Own ZY 9 1 w' W.heap.size v [a,b,c].length [a,b,c]/\Below W.heap.size W w'):=λW hg=>Za (by rw[hL];exact ZH 32 x W (by omega) hg)
 have hLh:=Za hL;have hSP:=Za hsp;have hGh:=Za hG;clear hL hsp hG;have hB:=Za ((Below.refl w.heap.size w).alloc (Nat.le_refl _) (.cells #[.string ⟨#[]⟩,.int .i64 0,.int .i64 0] 106));go_enter Tryz.func68,Tryz.ntmps68;go_wp2_with fail
 have hres:=Za (heap_alloc_new w (.cells #[.string ⟨#[]⟩,.int .i64 0,.int .i64 0] 106));obtain⟨W1,hW1⟩:∃W1,W1=w.alloc (.cells #[.string ⟨#[]⟩,.int .i64 0,.int .i64 0] 106):=⟨_,rfl⟩;rw[←hW1] at hB hres ⊢;clear hW1;refine(hSP.out _ (hGh.out.below hB.out)).out.mono ?_;rintro e w2 ⟨v2,rfl,ho2,hb⟩;have hO2:=Za ho2;replace hB:=Za (Below.up hB.out hb);replace hres:=Za (YF hres.out hb);clear hb ho2;obtain⟨Aw,cw,rfl,_⟩:=hO2.out.slice;have hR:=hO2.out.arr Zf;obtain⟨bw,ow,x0,rfl,hbl,hx0,z0⟩:=hR.str (k:=0) (by show 0<3;omega);obtain⟨_,_,x1,hA1,_,hx1,z1⟩:=hR.str (k:=1) (by show 1<3;omega);cases hA1
 obtain⟨_,_,x2,hA2,_,hx2,z2⟩:=hR.str (k:=2) (by show 2<3;omega);cases hA2
 obtain rfl:a=x0:=by simpa using hx0
 obtain rfl:b=x1:=by simpa using hx1
 obtain rfl:c=x2:=by simpa using hx2
 clear hx0 hx1 hx2 hR hO2;rw[Nat.add_zero] at z0;have y0:=Za z0;have y2:=Za z2;have hD:=Za (Below.refl w2.heap.size w2);clear z0 z2;go_wp2_with fail
 refine(ZV b _ (hGh.out.below hB.out)).mono ?_;rintro e w3 ⟨rfl,hb⟩;replace hB:=Za (Below.up hB.out hb);replace hD:=Za (Below.up hD.out hb);replace hres:=Za (YF hres.out hb);clear hb z1;have z2:=Zg hD.out hbl y2.out;go_wp2_with fail
 refine(ZV c _ (hGh.out.below hB.out)).mono ?_;rintro e w4 ⟨rfl,hb⟩;replace hB:=Za (Below.up hB.out hb);replace hD:=Za (Below.up hD.out hb);replace hres:=Za (YF hres.out hb);clear hb z2;have z0:=Zg hD.out hbl y0.out;have j0:(w4.alloc (.cells #[.string a,.int .i64 (rdNum b.data.toList),.int .i64 (rdNum c.data.toList)] 106)).cell? ⟨w4.heap.size,0,none⟩=some (.string a):=by rw[cell_of_row _ _ _ _ _ _ (heap_alloc_new w4 _)];rfl
 have j1:(w4.alloc (.cells #[.string a,.int .i64 (rdNum b.data.toList),.int .i64 (rdNum c.data.toList)] 106)).cell? ⟨w4.heap.size,1,none⟩=some (.int .i64 (rdNum b.data.toList)):=by rw[cell_of_row _ _ _ _ _ _ (heap_alloc_new w4 _)];rfl
 have j2:(w4.alloc (.cells #[.string a,.int .i64 (rdNum b.data.toList),.int .i64 (rdNum c.data.toList)] 106)).cell? ⟨w4.heap.size,2,none⟩=some (.int .i64 (rdNum c.data.toList)):=by rw[cell_of_row _ _ _ _ _ _ (heap_alloc_new w4 _)];rfl
 have hlt4:w.heap.size<w4.heap.size:=Yg hres.out;have g0:w4.cell? ⟨w.heap.size,0,none⟩=some (.string ⟨#[]⟩):=by rw[cell_of_row _ _ _ _ _ _ hres.out];rfl
 have g1:w4.cell? ⟨w.heap.size,1,none⟩=some (.int .i64 0):=by rw[cell_of_row _ _ _ _ _ _ hres.out];rfl
 have g2:w4.cell? ⟨w.heap.size,2,none⟩=some (.int .i64 0):=by rw[cell_of_row _ _ _ _ _ _ hres.out];rfl
 have gf:∀o,w4.frozen? ⟨w.heap.size,o,none⟩=false:=λo=>frozen_of_row w4 _ _ _ _ hres.out
 have hne2:w4.heap.size≠w.heap.size:=by omega
 have hB4:=Za hB.out;have hj:w4.heap.size<(w4.alloc (.cells #[.string a,.int .i64 (rdNum b.data.toList),.int .i64 (rdNum c.data.toList)] 106)).heap.size:=by simp
 replace hres:=Za (YF hres.out ((Below.refl w4.heap.size w4).alloc (Nat.le_refl _) (.cells #[.string a,.int .i64 (rdNum b.data.toList),.int .i64 (rdNum c.data.toList)] 106)));replace hB:=Za (hB.out.alloc hB.out.size (.cells #[.string a,.int .i64 (rdNum b.data.toList),.int .i64 (rdNum c.data.toList)] 106));have hne0:w.heap.size≠w4.heap.size:=by omega
 have f0:(w4.alloc (.cells #[.string a,.int .i64 (rdNum b.data.toList),.int .i64 (rdNum c.data.toList)] 106)).cell? ⟨w.heap.size,0,none⟩=some (.string ⟨#[]⟩):=by rw[cell_of_row _ _ _ _ _ _ hres.out];rfl
 have f1:(w4.alloc (.cells #[.string a,.int .i64 (rdNum b.data.toList),.int .i64 (rdNum c.data.toList)] 106)).cell? ⟨w.heap.size,1,none⟩=some (.int .i64 0):=by rw[cell_of_row _ _ _ _ _ _ hres.out];rfl
 have f2:(w4.alloc (.cells #[.string a,.int .i64 (rdNum b.data.toList),.int .i64 (rdNum c.data.toList)] 106)).cell? ⟨w.heap.size,2,none⟩=some (.int .i64 0):=by rw[cell_of_row _ _ _ _ _ _ hres.out];rfl
 have ff:∀o:Nat,World.frozen? (w4.alloc (.cells #[.string a,.int .i64 (rdNum b.data.toList),.int .i64 (rdNum c.data.toList)] 106)) (⟨w.heap.size,o,none⟩:Addr)=false:=λo=>frozen_of_row (w4.alloc (.cells #[.string a,.int .i64 (rdNum b.data.toList),.int .i64 (rdNum c.data.toList)] 106)) _ _ _ _ hres.out
 go_wp2
 exact bodyPost_ret (v:=.tuple #[.agg #[.string ⟨#[]⟩,.int .i64 0,.int .i64 0],.bool false]) (by simp[results,Tryz.results68,go_sem,g0,g1,g2,hlt4]) rfl ⟨rfl,W9 hB4.out _ _ _ _⟩
theorem ZjS (x:ByteArray)(w:World)(hs:x.size<=1048576)(a b c:ByteArray)(hL:[a,b,c]=words 32 x)(ha:a.size<=maxLen)(hG:Gl w)(k1:Yt b.data.toList=true)(k2:Yt c.data.toList=false) :
  Calls Tryz.prog 68 #[.string x] w (RH hz0 false w):=by
 have hu:=ha;clear hu;have hsp:∀W:World,Gl W→Hid (Calls Tryz.prog 27 #[.string x,.string ⟨#[32]⟩] W λe w'=>∃v,e = .returned v/\Own ZY 9 1 w' W.heap.size v [a,b,c].length [a,b,c]/\Below W.heap.size W w'):=λW hg=>Za (by rw[hL];exact ZH 32 x W (by omega) hg)
 have hLh:=Za hL;have hSP:=Za hsp;have hGh:=Za hG;clear hL hsp hG;have hB:=Za ((Below.refl w.heap.size w).alloc (Nat.le_refl _) (.cells #[.string ⟨#[]⟩,.int .i64 0,.int .i64 0] 106));go_enter Tryz.func68,Tryz.ntmps68;go_wp2_with fail
 have hres:=Za (heap_alloc_new w (.cells #[.string ⟨#[]⟩,.int .i64 0,.int .i64 0] 106));obtain⟨W1,hW1⟩:∃W1,W1=w.alloc (.cells #[.string ⟨#[]⟩,.int .i64 0,.int .i64 0] 106):=⟨_,rfl⟩;rw[←hW1] at hB hres ⊢;clear hW1;refine(hSP.out _ (hGh.out.below hB.out)).out.mono ?_;rintro e w2 ⟨v2,rfl,ho2,hb⟩;have hO2:=Za ho2;replace hB:=Za (Below.up hB.out hb);replace hres:=Za (YF hres.out hb);clear hb ho2;obtain⟨Aw,cw,rfl,_⟩:=hO2.out.slice;have hR:=hO2.out.arr Zf;obtain⟨bw,ow,x0,rfl,hbl,hx0,z0⟩:=hR.str (k:=0) (by show 0<3;omega);obtain⟨_,_,x1,hA1,_,hx1,z1⟩:=hR.str (k:=1) (by show 1<3;omega);cases hA1
 obtain⟨_,_,x2,hA2,_,hx2,z2⟩:=hR.str (k:=2) (by show 2<3;omega);cases hA2
 obtain rfl:a=x0:=by simpa using hx0
 obtain rfl:b=x1:=by simpa using hx1
 obtain rfl:c=x2:=by simpa using hx2
 clear hx0 hx1 hx2 hR hO2;rw[Nat.add_zero] at z0;have y0:=Za z0;have y2:=Za z2;have hD:=Za (Below.refl w2.heap.size w2);clear z0 z2;go_wp2_with fail
 refine(ZV b _ (hGh.out.below hB.out)).mono ?_;rintro e w3 ⟨rfl,hb⟩;replace hB:=Za (Below.up hB.out hb);replace hD:=Za (Below.up hD.out hb);replace hres:=Za (YF hres.out hb);clear hb z1;have z2:=Zg hD.out hbl y2.out;go_wp2_with fail
 refine(ZV c _ (hGh.out.below hB.out)).mono ?_;rintro e w4 ⟨rfl,hb⟩;replace hB:=Za (Below.up hB.out hb);replace hD:=Za (Below.up hD.out hb);replace hres:=Za (YF hres.out hb);clear hb z2;have z0:=Zg hD.out hbl y0.out;have j0:(w4.alloc (.cells #[.string a,.int .i64 (rdNum b.data.toList),.int .i64 (rdNum c.data.toList)] 106)).cell? ⟨w4.heap.size,0,none⟩=some (.string a):=by rw[cell_of_row _ _ _ _ _ _ (heap_alloc_new w4 _)];rfl
 have j1:(w4.alloc (.cells #[.string a,.int .i64 (rdNum b.data.toList),.int .i64 (rdNum c.data.toList)] 106)).cell? ⟨w4.heap.size,1,none⟩=some (.int .i64 (rdNum b.data.toList)):=by rw[cell_of_row _ _ _ _ _ _ (heap_alloc_new w4 _)];rfl
 have j2:(w4.alloc (.cells #[.string a,.int .i64 (rdNum b.data.toList),.int .i64 (rdNum c.data.toList)] 106)).cell? ⟨w4.heap.size,2,none⟩=some (.int .i64 (rdNum c.data.toList)):=by rw[cell_of_row _ _ _ _ _ _ (heap_alloc_new w4 _)];rfl
 have hlt4:w.heap.size<w4.heap.size:=Yg hres.out;have g0:w4.cell? ⟨w.heap.size,0,none⟩=some (.string ⟨#[]⟩):=by rw[cell_of_row _ _ _ _ _ _ hres.out];rfl
 have g1:w4.cell? ⟨w.heap.size,1,none⟩=some (.int .i64 0):=by rw[cell_of_row _ _ _ _ _ _ hres.out];rfl
 have g2:w4.cell? ⟨w.heap.size,2,none⟩=some (.int .i64 0):=by rw[cell_of_row _ _ _ _ _ _ hres.out];rfl
 have gf:∀o,w4.frozen? ⟨w.heap.size,o,none⟩=false:=λo=>frozen_of_row w4 _ _ _ _ hres.out
 have hne2:w4.heap.size≠w.heap.size:=by omega
 have hB4:=Za hB.out;have hj:w4.heap.size<(w4.alloc (.cells #[.string a,.int .i64 (rdNum b.data.toList),.int .i64 (rdNum c.data.toList)] 106)).heap.size:=by simp
 replace hres:=Za (YF hres.out ((Below.refl w4.heap.size w4).alloc (Nat.le_refl _) (.cells #[.string a,.int .i64 (rdNum b.data.toList),.int .i64 (rdNum c.data.toList)] 106)));replace hB:=Za (hB.out.alloc hB.out.size (.cells #[.string a,.int .i64 (rdNum b.data.toList),.int .i64 (rdNum c.data.toList)] 106));have hne0:w.heap.size≠w4.heap.size:=by omega
 have f0:(w4.alloc (.cells #[.string a,.int .i64 (rdNum b.data.toList),.int .i64 (rdNum c.data.toList)] 106)).cell? ⟨w.heap.size,0,none⟩=some (.string ⟨#[]⟩):=by rw[cell_of_row _ _ _ _ _ _ hres.out];rfl
 have f1:(w4.alloc (.cells #[.string a,.int .i64 (rdNum b.data.toList),.int .i64 (rdNum c.data.toList)] 106)).cell? ⟨w.heap.size,1,none⟩=some (.int .i64 0):=by rw[cell_of_row _ _ _ _ _ _ hres.out];rfl
 have f2:(w4.alloc (.cells #[.string a,.int .i64 (rdNum b.data.toList),.int .i64 (rdNum c.data.toList)] 106)).cell? ⟨w.heap.size,2,none⟩=some (.int .i64 0):=by rw[cell_of_row _ _ _ _ _ _ hres.out];rfl
 have ff:∀o:Nat,World.frozen? (w4.alloc (.cells #[.string a,.int .i64 (rdNum b.data.toList),.int .i64 (rdNum c.data.toList)] 106)) (⟨w.heap.size,o,none⟩:Addr)=false:=λo=>frozen_of_row (w4.alloc (.cells #[.string a,.int .i64 (rdNum b.data.toList),.int .i64 (rdNum c.data.toList)] 106)) _ _ _ _ hres.out
 go_wp2
 exact bodyPost_ret (v:=.tuple #[.agg #[.string ⟨#[]⟩,.int .i64 0,.int .i64 0],.bool false]) (by simp[results,Tryz.results68,go_sem,g0,g1,g2,hlt4]) rfl ⟨rfl,W9 hB4.out _ _ _ _⟩
theorem ZgZ (x:ByteArray)(w:World)(hs:x.size<=1048576)(a b c:ByteArray)(hL:[a,b,c]=words 32 x)(ha:a.size<=maxLen)(hG:Gl w)(k1:Yt b.data.toList=true)(k2:Yt c.data.toList=true)(k3:(⟨a,rdNum b.data.toList,rdNum c.data.toList⟩:Heap).ok=false) :
  Calls Tryz.prog 68 #[.string x] w (RH hz0 false w):=by
 have hsp:∀W:World,Gl W→Hid (Calls Tryz.prog 27 #[.string x,.string ⟨#[32]⟩] W λe w'=>∃v,e = .returned v/\Own ZY 9 1 w' W.heap.size v [a,b,c].length [a,b,c]/\Below W.heap.size W w'):=λW hg=>Za (by rw[hL];exact ZH 32 x W (by omega) hg)
 have hLh:=Za hL;have hSP:=Za hsp;have hGh:=Za hG;clear hL hsp hG;have hB:=Za ((Below.refl w.heap.size w).alloc (Nat.le_refl _) (.cells #[.string ⟨#[]⟩,.int .i64 0,.int .i64 0] 106));go_enter Tryz.func68,Tryz.ntmps68;go_wp2_with fail
 have hres:=Za (heap_alloc_new w (.cells #[.string ⟨#[]⟩,.int .i64 0,.int .i64 0] 106));obtain⟨W1,hW1⟩:∃W1,W1=w.alloc (.cells #[.string ⟨#[]⟩,.int .i64 0,.int .i64 0] 106):=⟨_,rfl⟩;rw[←hW1] at hB hres ⊢;clear hW1;refine(hSP.out _ (hGh.out.below hB.out)).out.mono ?_;rintro e w2 ⟨v2,rfl,ho2,hb⟩;have hO2:=Za ho2;replace hB:=Za (Below.up hB.out hb);replace hres:=Za (YF hres.out hb);clear hb ho2;obtain⟨Aw,cw,rfl,_⟩:=hO2.out.slice;have hR:=hO2.out.arr Zf;obtain⟨bw,ow,x0,rfl,hbl,hx0,z0⟩:=hR.str (k:=0) (by show 0<3;omega);obtain⟨_,_,x1,hA1,_,hx1,z1⟩:=hR.str (k:=1) (by show 1<3;omega);cases hA1
 obtain⟨_,_,x2,hA2,_,hx2,z2⟩:=hR.str (k:=2) (by show 2<3;omega);cases hA2
 obtain rfl:a=x0:=by simpa using hx0
 obtain rfl:b=x1:=by simpa using hx1
 obtain rfl:c=x2:=by simpa using hx2
 clear hx0 hx1 hx2 hR hO2;rw[Nat.add_zero] at z0;have y0:=Za z0;have y2:=Za z2;have hD:=Za (Below.refl w2.heap.size w2);clear z0 z2;go_wp2_with fail
 refine(ZV b _ (hGh.out.below hB.out)).mono ?_;rintro e w3 ⟨rfl,hb⟩;replace hB:=Za (Below.up hB.out hb);replace hD:=Za (Below.up hD.out hb);replace hres:=Za (YF hres.out hb);clear hb z1;have z2:=Zg hD.out hbl y2.out;go_wp2_with fail
 refine(ZV c _ (hGh.out.below hB.out)).mono ?_;rintro e w4 ⟨rfl,hb⟩;replace hB:=Za (Below.up hB.out hb);replace hD:=Za (Below.up hD.out hb);replace hres:=Za (YF hres.out hb);clear hb z2;have z0:=Zg hD.out hbl y0.out;have j0:(w4.alloc (.cells #[.string a,.int .i64 (rdNum b.data.toList),.int .i64 (rdNum c.data.toList)] 106)).cell? ⟨w4.heap.size,0,none⟩=some (.string a):=by rw[cell_of_row _ _ _ _ _ _ (heap_alloc_new w4 _)];rfl
 have j1:(w4.alloc (.cells #[.string a,.int .i64 (rdNum b.data.toList),.int .i64 (rdNum c.data.toList)] 106)).cell? ⟨w4.heap.size,1,none⟩=some (.int .i64 (rdNum b.data.toList)):=by rw[cell_of_row _ _ _ _ _ _ (heap_alloc_new w4 _)];rfl
 have j2:(w4.alloc (.cells #[.string a,.int .i64 (rdNum b.data.toList),.int .i64 (rdNum c.data.toList)] 106)).cell? ⟨w4.heap.size,2,none⟩=some (.int .i64 (rdNum c.data.toList)):=by rw[cell_of_row _ _ _ _ _ _ (heap_alloc_new w4 _)];rfl
 have hlt4:w.heap.size<w4.heap.size:=Yg hres.out;have g0:w4.cell? ⟨w.heap.size,0,none⟩=some (.string ⟨#[]⟩):=by rw[cell_of_row _ _ _ _ _ _ hres.out];rfl
 have g1:w4.cell? ⟨w.heap.size,1,none⟩=some (.int .i64 0):=by rw[cell_of_row _ _ _ _ _ _ hres.out];rfl
 have g2:w4.cell? ⟨w.heap.size,2,none⟩=some (.int .i64 0):=by rw[cell_of_row _ _ _ _ _ _ hres.out];rfl
 have gf:∀o,w4.frozen? ⟨w.heap.size,o,none⟩=false:=λo=>frozen_of_row w4 _ _ _ _ hres.out
 have hne2:w4.heap.size≠w.heap.size:=by omega
 have hB4:=Za hB.out;have hj:w4.heap.size<(w4.alloc (.cells #[.string a,.int .i64 (rdNum b.data.toList),.int .i64 (rdNum c.data.toList)] 106)).heap.size:=by simp
 replace hres:=Za (YF hres.out ((Below.refl w4.heap.size w4).alloc (Nat.le_refl _) (.cells #[.string a,.int .i64 (rdNum b.data.toList),.int .i64 (rdNum c.data.toList)] 106)));replace hB:=Za (hB.out.alloc hB.out.size (.cells #[.string a,.int .i64 (rdNum b.data.toList),.int .i64 (rdNum c.data.toList)] 106));have hne0:w.heap.size≠w4.heap.size:=by omega
 go_wp2_with (first|(go_at_call 114;refine(YA (⟨a,rdNum b.data.toList,rdNum c.data.toList⟩:Heap) _ ha).mono ?_;rintro e w6 ⟨rfl,hb⟩;have hB0:=Za (Below.up hB.out hb);have hres6:=Za (YF hres.out hb);have i0:=Zg hb hj j0;have i1:=Zg hb hj j1;have i2:=Zg hb hj j2;clear hb;have f0:w6.cell? ⟨w.heap.size,0,none⟩=some (.string ⟨#[]⟩):=(by rw[cell_of_row _ _ _ _ _ _ hres6.out];rfl);have f1:w6.cell? ⟨w.heap.size,1,none⟩=some (.int .i64 0):=(by rw[cell_of_row _ _ _ _ _ _ hres6.out];rfl);have f2:w6.cell? ⟨w.heap.size,2,none⟩=some (.int .i64 0):=(by rw[cell_of_row _ _ _ _ _ _ hres6.out];rfl);have ff:∀o:Nat,World.frozen? w6 (⟨w.heap.size,o,none⟩:Addr)=false:=(λo=>frozen_of_row w6 _ _ _ _ hres6.out))|fail)
 replace hres:=hres6;replace hB:=hB0;exact bodyPost_ret (v:=.tuple #[.agg #[.string ⟨#[]⟩,.int .i64 0,.int .i64 0],.bool false]) (by simp[results,Tryz.results68,go_sem,f0,f1,f2]) rfl ⟨rfl,((hB.out.setCell (p:=⟨w.heap.size,0,none⟩) (Nat.le_refl _) _).setCell (p:=⟨w.heap.size,1,none⟩) (Nat.le_refl _) _).setCell (p:=⟨w.heap.size,2,none⟩) (Nat.le_refl _) _⟩
theorem Zit (x:ByteArray)(w:World)(hs:x.size<=1048576)(a b c:ByteArray)(hL:[a,b,c]=words 32 x)(ha:a.size<=maxLen)(hG:Gl w)(k1:Yt b.data.toList=true)(k2:Yt c.data.toList=true)(k3:(⟨a,rdNum b.data.toList,rdNum c.data.toList⟩:Heap).ok=true) :
  Calls Tryz.prog 68 #[.string x] w (RH (⟨a,rdNum b.data.toList,rdNum c.data.toList⟩:Heap) true w):=by
 have hsp:∀W:World,Gl W→Hid (Calls Tryz.prog 27 #[.string x,.string ⟨#[32]⟩] W λe w'=>∃v,e = .returned v/\Own ZY 9 1 w' W.heap.size v [a,b,c].length [a,b,c]/\Below W.heap.size W w'):=λW hg=>Za (by rw[hL];exact ZH 32 x W (by omega) hg)
 have hLh:=Za hL;have hSP:=Za hsp;have hGh:=Za hG;clear hL hsp hG;have hB:=Za ((Below.refl w.heap.size w).alloc (Nat.le_refl _) (.cells #[.string ⟨#[]⟩,.int .i64 0,.int .i64 0] 106));go_enter Tryz.func68,Tryz.ntmps68;go_wp2_with fail
 have hres:=Za (heap_alloc_new w (.cells #[.string ⟨#[]⟩,.int .i64 0,.int .i64 0] 106));obtain⟨W1,hW1⟩:∃W1,W1=w.alloc (.cells #[.string ⟨#[]⟩,.int .i64 0,.int .i64 0] 106):=⟨_,rfl⟩;rw[←hW1] at hB hres ⊢;clear hW1;refine(hSP.out _ (hGh.out.below hB.out)).out.mono ?_;rintro e w2 ⟨v2,rfl,ho2,hb⟩;have hO2:=Za ho2;replace hB:=Za (Below.up hB.out hb);replace hres:=Za (YF hres.out hb);clear hb ho2;obtain⟨Aw,cw,rfl,_⟩:=hO2.out.slice;have hR:=hO2.out.arr Zf;obtain⟨bw,ow,x0,rfl,hbl,hx0,z0⟩:=hR.str (k:=0) (by show 0<3;omega);obtain⟨_,_,x1,hA1,_,hx1,z1⟩:=hR.str (k:=1) (by show 1<3;omega);cases hA1
 obtain⟨_,_,x2,hA2,_,hx2,z2⟩:=hR.str (k:=2) (by show 2<3;omega);cases hA2
 obtain rfl:a=x0:=by simpa using hx0
 obtain rfl:b=x1:=by simpa using hx1
 obtain rfl:c=x2:=by simpa using hx2
 clear hx0 hx1 hx2 hR hO2;rw[Nat.add_zero] at z0;have y0:=Za z0;have y2:=Za z2;have hD:=Za (Below.refl w2.heap.size w2);clear z0 z2;go_wp2_with fail
 refine(ZV b _ (hGh.out.below hB.out)).mono ?_;rintro e w3 ⟨rfl,hb⟩;replace hB:=Za (Below.up hB.out hb);replace hD:=Za (Below.up hD.out hb);replace hres:=Za (YF hres.out hb);clear hb z1;have z2:=Zg hD.out hbl y2.out;go_wp2_with fail
 refine(ZV c _ (hGh.out.below hB.out)).mono ?_;rintro e w4 ⟨rfl,hb⟩;replace hB:=Za (Below.up hB.out hb);replace hD:=Za (Below.up hD.out hb);replace hres:=Za (YF hres.out hb);clear hb z2;have z0:=Zg hD.out hbl y0.out;have j0:(w4.alloc (.cells #[.string a,.int .i64 (rdNum b.data.toList),.int .i64 (rdNum c.data.toList)] 106)).cell? ⟨w4.heap.size,0,none⟩=some (.string a):=by rw[cell_of_row _ _ _ _ _ _ (heap_alloc_new w4 _)];rfl
 have j1:(w4.alloc (.cells #[.string a,.int .i64 (rdNum b.data.toList),.int .i64 (rdNum c.data.toList)] 106)).cell? ⟨w4.heap.size,1,none⟩=some (.int .i64 (rdNum b.data.toList)):=by rw[cell_of_row _ _ _ _ _ _ (heap_alloc_new w4 _)];rfl
 have j2:(w4.alloc (.cells #[.string a,.int .i64 (rdNum b.data.toList),.int .i64 (rdNum c.data.toList)] 106)).cell? ⟨w4.heap.size,2,none⟩=some (.int .i64 (rdNum c.data.toList)):=by rw[cell_of_row _ _ _ _ _ _ (heap_alloc_new w4 _)];rfl
 have hlt4:w.heap.size<w4.heap.size:=Yg hres.out;have g0:w4.cell? ⟨w.heap.size,0,none⟩=some (.string ⟨#[]⟩):=by rw[cell_of_row _ _ _ _ _ _ hres.out];rfl
 have g1:w4.cell? ⟨w.heap.size,1,none⟩=some (.int .i64 0):=by rw[cell_of_row _ _ _ _ _ _ hres.out];rfl
 have g2:w4.cell? ⟨w.heap.size,2,none⟩=some (.int .i64 0):=by rw[cell_of_row _ _ _ _ _ _ hres.out];rfl
 have gf:∀o,w4.frozen? ⟨w.heap.size,o,none⟩=false:=λo=>frozen_of_row w4 _ _ _ _ hres.out
 have hne2:w4.heap.size≠w.heap.size:=by omega
 have hB4:=Za hB.out;have hj:w4.heap.size<(w4.alloc (.cells #[.string a,.int .i64 (rdNum b.data.toList),.int .i64 (rdNum c.data.toList)] 106)).heap.size:=by simp
 replace hres:=Za (YF hres.out ((Below.refl w4.heap.size w4).alloc (Nat.le_refl _) (.cells #[.string a,.int .i64 (rdNum b.data.toList),.int .i64 (rdNum c.data.toList)] 106)));replace hB:=Za (hB.out.alloc hB.out.size (.cells #[.string a,.int .i64 (rdNum b.data.toList),.int .i64 (rdNum c.data.toList)] 106));have hne0:w.heap.size≠w4.heap.size:=by omega
 go_wp2_with (first|(go_at_call 114;refine(YA (⟨a,rdNum b.data.toList,rdNum c.data.toList⟩:Heap) _ ha).mono ?_;rintro e w6 ⟨rfl,hb⟩;have hB0:=Za (Below.up hB.out hb);have hres6:=Za (YF hres.out hb);have i0:=Zg hb hj j0;have i1:=Zg hb hj j1;have i2:=Zg hb hj j2;clear hb;have f0:w6.cell? ⟨w.heap.size,0,none⟩=some (.string ⟨#[]⟩):=(by rw[cell_of_row _ _ _ _ _ _ hres6.out];rfl);have f1:w6.cell? ⟨w.heap.size,1,none⟩=some (.int .i64 0):=(by rw[cell_of_row _ _ _ _ _ _ hres6.out];rfl);have f2:w6.cell? ⟨w.heap.size,2,none⟩=some (.int .i64 0):=(by rw[cell_of_row _ _ _ _ _ _ hres6.out];rfl);have ff:∀o:Nat,World.frozen? w6 (⟨w.heap.size,o,none⟩:Addr)=false:=(λo=>frozen_of_row w6 _ _ _ _ hres6.out))|fail)
 replace hres:=hres6;replace hB:=hB0;exact bodyPost_ret (v:=.tuple #[.agg #[.string a,.int .i64 (rdNum b.data.toList),.int .i64 (rdNum c.data.toList)],.bool true]) (by simp[results,Tryz.results68,go_sem,f0,f1,f2]) rfl ⟨rfl,((hB.out.setCell (p:=⟨w.heap.size,0,none⟩) (Nat.le_refl _) _).setCell (p:=⟨w.heap.size,1,none⟩) (Nat.le_refl _) _).setCell (p:=⟨w.heap.size,2,none⟩) (Nat.le_refl _) _⟩
theorem Zg0 (x:ByteArray)(w:World)(hs:x.size<=1048576)(hG:Gl w) :
  Calls Tryz.prog 68 #[.string x] w (RH (rhHeap x) (rhOk x) w):=by
 by_cases h3:(words 32 x).length≠3
 ·obtain⟨e1,e2⟩:=Zgk h3
  rw[e1,e2];exact Zis x w hs _ rfl h3 hG
 obtain⟨a,b,c,hw⟩:∃a b c,words 32 x=[a,b,c]:=by
  match hww:words 32 x,h3 with
  | [a,b,c],_=>exact⟨a,b,c,rfl⟩
  | [],h3=>exact absurd (by decide) h3
  | [_],h3=>exact absurd (by simp) h3
  | [_,_],h3=>exact absurd (by simp) h3
  | _ :: _ :: _ :: _ :: _,h3=>exact absurd (by simp) h3
 have hsz:∀y∈words 32 x,y.size<=maxLen:=λy hy=>by have h5:=Z6 32 x hy;unfold maxLen;omega
 have ha:=hsz a (by rw[hw];simp);have hb:=hsz b (by rw[hw];simp);have hc:=hsz c (by rw[hw];simp);have e2:=Zat hw;cases k1:Yt b.data.toList
 ·rw[k1] at e2
  have e3:rhOk x=false:=e2;rw[JG e3,e3];exact ZjT x w hs a b c hw.symm ha hG k1
 cases k2:Yt c.data.toList
 ·rw[k1,k2] at e2
  have e3:rhOk x=false:=e2;rw[JG e3,e3];exact ZjS x w hs a b c hw.symm ha hG k1 k2
 cases k3:(⟨a,rdNum b.data.toList,rdNum c.data.toList⟩:Heap).ok
 ·rw[k1,k2,k3] at e2
  have e3:rhOk x=false:=e2;rw[JG e3,e3];exact ZgZ x w hs a b c hw.symm ha hG k1 k2 k3
 ·rw[k1,k2,k3] at e2
  have e3:rhOk x=true:=e2;rw[Zcz hw e3,e3];exact Zit x w hs a b c hw.symm ha hG k1 k2 k3
theorem ZhV (x:ByteArray)(w:World)(hs:x.size<=1048576)(L:List ByteArray)(hL:L=words 32 x)(h3:L.length≠3) :
  Calls Tryz.prog 151 #[.string x] w (RH hz0 false w):=by
 have e4:((L.length:Int) != 3)=true:=by rw[bne_iff_ne];omega
 clear h3;have hsp:∀W:World,Hid (Calls Tryz.prog 54 #[.string x,.int .u8 32] W λe w'=>∃v,e = .returned v/\Own ZY 9 1 w' W.heap.size v L.length L/\Below W.heap.size W w'):=λW=>Za (by rw[hL];exact ZS 32 x W (by omega))
 have hLh:=Za hL;have hSP:=Za hsp;clear hL hsp;have hB:=Za ((Below.refl w.heap.size w).alloc (Nat.le_refl _) (.cells #[.string ⟨#[]⟩,.int .i64 0,.int .i64 0] 106));go_enter Tryz.func151,Tryz.ntmps151;go_wp2_with fail
 have hres:=Za (heap_alloc_new w (.cells #[.string ⟨#[]⟩,.int .i64 0,.int .i64 0] 106));obtain⟨W1,hW1⟩:∃W1,W1=w.alloc (.cells #[.string ⟨#[]⟩,.int .i64 0,.int .i64 0] 106):=⟨_,rfl⟩;rw[←hW1] at hB hres ⊢;clear hW1;refine(hSP.out _).out.mono ?_;rintro e w2 ⟨v2,rfl,ho2,hb⟩;have hO2:=Za ho2;replace hB:=Za (Below.up hB.out hb);replace hres:=Za (YF hres.out hb);clear hb ho2;obtain⟨Aw,cw,rfl,_⟩:=hO2.out.slice;have f0:w2.cell? ⟨w.heap.size,0,none⟩=some (.string ⟨#[]⟩):=by rw[cell_of_row _ _ _ _ _ _ hres.out];rfl
 have f1:w2.cell? ⟨w.heap.size,1,none⟩=some (.int .i64 0):=by rw[cell_of_row _ _ _ _ _ _ hres.out];rfl
 have f2:w2.cell? ⟨w.heap.size,2,none⟩=some (.int .i64 0):=by rw[cell_of_row _ _ _ _ _ _ hres.out];rfl
 have ff:∀o:Nat,World.frozen? w2 (⟨w.heap.size,o,none⟩:Addr)=false:=λo=>frozen_of_row w2 _ _ _ _ hres.out
 go_wp2
 exact bodyPost_ret (v:=.tuple #[.agg #[.string ⟨#[]⟩,.int .i64 0,.int .i64 0],.bool false]) (by simp[results,Tryz.results151,go_sem,f0,f1,f2]) rfl ⟨rfl,((hB.out.setCell (p:=⟨w.heap.size,0,none⟩) (Nat.le_refl _) _).setCell (p:=⟨w.heap.size,1,none⟩) (Nat.le_refl _) _).setCell (p:=⟨w.heap.size,2,none⟩) (Nat.le_refl _) _⟩
theorem Zjv (x:ByteArray)(w:World)(hs:x.size<=1048576)(a b c:ByteArray)(hL:[a,b,c]=words 32 x)(ha:a.size<=maxLen)(hzb:b.size<=maxLen)(hzc:c.size<=maxLen)(k1:Yt b.data.toList=false) :
  Calls Tryz.prog 151 #[.string x] w (RH hz0 false w):=by
 have hu:=ha;clear hu;have hsp:∀W:World,Hid (Calls Tryz.prog 54 #[.string x,.int .u8 32] W λe w'=>∃v,e = .returned v/\Own ZY 9 1 w' W.heap.size v [a,b,c].length [a,b,c]/\Below W.heap.size W w'):=λW=>Za (by rw[hL];exact ZS 32 x W (by omega))
 have hLh:=Za hL;have hSP:=Za hsp;clear hL hsp;have hB:=Za ((Below.refl w.heap.size w).alloc (Nat.le_refl _) (.cells #[.string ⟨#[]⟩,.int .i64 0,.int .i64 0] 106));go_enter Tryz.func151,Tryz.ntmps151;go_wp2_with fail
 have hres:=Za (heap_alloc_new w (.cells #[.string ⟨#[]⟩,.int .i64 0,.int .i64 0] 106));obtain⟨W1,hW1⟩:∃W1,W1=w.alloc (.cells #[.string ⟨#[]⟩,.int .i64 0,.int .i64 0] 106):=⟨_,rfl⟩;rw[←hW1] at hB hres ⊢;clear hW1;refine(hSP.out _).out.mono ?_;rintro e w2 ⟨v2,rfl,ho2,hb⟩;have hO2:=Za ho2;replace hB:=Za (Below.up hB.out hb);replace hres:=Za (YF hres.out hb);clear hb ho2;obtain⟨Aw,cw,rfl,_⟩:=hO2.out.slice;have hR:=hO2.out.arr Zf;obtain⟨bw,ow,x0,rfl,hbl,hx0,z0⟩:=hR.str (k:=0) (by show 0<3;omega);obtain⟨_,_,x1,hA1,_,hx1,z1⟩:=hR.str (k:=1) (by show 1<3;omega);cases hA1
 obtain⟨_,_,x2,hA2,_,hx2,z2⟩:=hR.str (k:=2) (by show 2<3;omega);cases hA2
 obtain rfl:a=x0:=by simpa using hx0
 obtain rfl:b=x1:=by simpa using hx1
 obtain rfl:c=x2:=by simpa using hx2
 clear hx0 hx1 hx2 hR hO2;rw[Nat.add_zero] at z0;have y0:=Za z0;have y2:=Za z2;have hD:=Za (Below.refl w2.heap.size w2);clear z0 z2;go_wp2_with fail
 refine(ZN b _ hzb).mono ?_;rintro e w3 ⟨rfl,hb⟩;replace hB:=Za (Below.up hB.out hb);replace hD:=Za (Below.up hD.out hb);replace hres:=Za (YF hres.out hb);clear hb z1;have z2:=Zg hD.out hbl y2.out;go_wp2_with fail
 refine(ZN c _ hzc).mono ?_;rintro e w4 ⟨rfl,hb⟩;replace hB:=Za (Below.up hB.out hb);replace hD:=Za (Below.up hD.out hb);replace hres:=Za (YF hres.out hb);clear hb z2;have z0:=Zg hD.out hbl y0.out;have j0:(w4.alloc (.cells #[.string a,.int .i64 (rdNum b.data.toList),.int .i64 (rdNum c.data.toList)] 106)).cell? ⟨w4.heap.size,0,none⟩=some (.string a):=by rw[cell_of_row _ _ _ _ _ _ (heap_alloc_new w4 _)];rfl
 have j1:(w4.alloc (.cells #[.string a,.int .i64 (rdNum b.data.toList),.int .i64 (rdNum c.data.toList)] 106)).cell? ⟨w4.heap.size,1,none⟩=some (.int .i64 (rdNum b.data.toList)):=by rw[cell_of_row _ _ _ _ _ _ (heap_alloc_new w4 _)];rfl
 have j2:(w4.alloc (.cells #[.string a,.int .i64 (rdNum b.data.toList),.int .i64 (rdNum c.data.toList)] 106)).cell? ⟨w4.heap.size,2,none⟩=some (.int .i64 (rdNum c.data.toList)):=by rw[cell_of_row _ _ _ _ _ _ (heap_alloc_new w4 _)];rfl
 have hlt4:w.heap.size<w4.heap.size:=Yg hres.out;have g0:w4.cell? ⟨w.heap.size,0,none⟩=some (.string ⟨#[]⟩):=by rw[cell_of_row _ _ _ _ _ _ hres.out];rfl
 have g1:w4.cell? ⟨w.heap.size,1,none⟩=some (.int .i64 0):=by rw[cell_of_row _ _ _ _ _ _ hres.out];rfl
 have g2:w4.cell? ⟨w.heap.size,2,none⟩=some (.int .i64 0):=by rw[cell_of_row _ _ _ _ _ _ hres.out];rfl
 have gf:∀o,w4.frozen? ⟨w.heap.size,o,none⟩=false:=λo=>frozen_of_row w4 _ _ _ _ hres.out
 have hne2:w4.heap.size≠w.heap.size:=by omega
 have hB4:=Za hB.out;have hj:w4.heap.size<(w4.alloc (.cells #[.string a,.int .i64 (rdNum b.data.toList),.int .i64 (rdNum c.data.toList)] 106)).heap.size:=by simp
 replace hres:=Za (YF hres.out ((Below.refl w4.heap.size w4).alloc (Nat.le_refl _) (.cells #[.string a,.int .i64 (rdNum b.data.toList),.int .i64 (rdNum c.data.toList)] 106)));replace hB:=Za (hB.out.alloc hB.out.size (.cells #[.string a,.int .i64 (rdNum b.data.toList),.int .i64 (rdNum c.data.toList)] 106));have hne0:w.heap.size≠w4.heap.size:=by omega
 have f0:(w4.alloc (.cells #[.string a,.int .i64 (rdNum b.data.toList),.int .i64 (rdNum c.data.toList)] 106)).cell? ⟨w.heap.size,0,none⟩=some (.string ⟨#[]⟩):=by rw[cell_of_row _ _ _ _ _ _ hres.out];rfl
 have f1:(w4.alloc (.cells #[.string a,.int .i64 (rdNum b.data.toList),.int .i64 (rdNum c.data.toList)] 106)).cell? ⟨w.heap.size,1,none⟩=some (.int .i64 0):=by rw[cell_of_row _ _ _ _ _ _ hres.out];rfl
 have f2:(w4.alloc (.cells #[.string a,.int .i64 (rdNum b.data.toList),.int .i64 (rdNum c.data.toList)] 106)).cell? ⟨w.heap.size,2,none⟩=some (.int .i64 0):=by rw[cell_of_row _ _ _ _ _ _ hres.out];rfl
 have ff:∀o:Nat,World.frozen? (w4.alloc (.cells #[.string a,.int .i64 (rdNum b.data.toList),.int .i64 (rdNum c.data.toList)] 106)) (⟨w.heap.size,o,none⟩:Addr)=false:=λo=>frozen_of_row (w4.alloc (.cells #[.string a,.int .i64 (rdNum b.data.toList),.int .i64 (rdNum c.data.toList)] 106)) _ _ _ _ hres.out
 go_wp2
 exact bodyPost_ret (v:=.tuple #[.agg #[.string ⟨#[]⟩,.int .i64 0,.int .i64 0],.bool false]) (by simp[results,Tryz.results151,go_sem,g0,g1,g2,hlt4]) rfl ⟨rfl,W9 hB4.out _ _ _ _⟩
theorem Zju (x:ByteArray)(w:World)(hs:x.size<=1048576)(a b c:ByteArray)(hL:[a,b,c]=words 32 x)(ha:a.size<=maxLen)(hzb:b.size<=maxLen)(hzc:c.size<=maxLen)(k1:Yt b.data.toList=true)(k2:Yt c.data.toList=false) :
  Calls Tryz.prog 151 #[.string x] w (RH hz0 false w):=by
 have hu:=ha;clear hu;have hsp:∀W:World,Hid (Calls Tryz.prog 54 #[.string x,.int .u8 32] W λe w'=>∃v,e = .returned v/\Own ZY 9 1 w' W.heap.size v [a,b,c].length [a,b,c]/\Below W.heap.size W w'):=λW=>Za (by rw[hL];exact ZS 32 x W (by omega))
 have hLh:=Za hL;have hSP:=Za hsp;clear hL hsp;have hB:=Za ((Below.refl w.heap.size w).alloc (Nat.le_refl _) (.cells #[.string ⟨#[]⟩,.int .i64 0,.int .i64 0] 106));go_enter Tryz.func151,Tryz.ntmps151;go_wp2_with fail
 have hres:=Za (heap_alloc_new w (.cells #[.string ⟨#[]⟩,.int .i64 0,.int .i64 0] 106));obtain⟨W1,hW1⟩:∃W1,W1=w.alloc (.cells #[.string ⟨#[]⟩,.int .i64 0,.int .i64 0] 106):=⟨_,rfl⟩;rw[←hW1] at hB hres ⊢;clear hW1;refine(hSP.out _).out.mono ?_;rintro e w2 ⟨v2,rfl,ho2,hb⟩;have hO2:=Za ho2;replace hB:=Za (Below.up hB.out hb);replace hres:=Za (YF hres.out hb);clear hb ho2;obtain⟨Aw,cw,rfl,_⟩:=hO2.out.slice;have hR:=hO2.out.arr Zf;obtain⟨bw,ow,x0,rfl,hbl,hx0,z0⟩:=hR.str (k:=0) (by show 0<3;omega);obtain⟨_,_,x1,hA1,_,hx1,z1⟩:=hR.str (k:=1) (by show 1<3;omega);cases hA1
 obtain⟨_,_,x2,hA2,_,hx2,z2⟩:=hR.str (k:=2) (by show 2<3;omega);cases hA2
 obtain rfl:a=x0:=by simpa using hx0
 obtain rfl:b=x1:=by simpa using hx1
 obtain rfl:c=x2:=by simpa using hx2
 clear hx0 hx1 hx2 hR hO2;rw[Nat.add_zero] at z0;have y0:=Za z0;have y2:=Za z2;have hD:=Za (Below.refl w2.heap.size w2);clear z0 z2;go_wp2_with fail
 refine(ZN b _ hzb).mono ?_;rintro e w3 ⟨rfl,hb⟩;replace hB:=Za (Below.up hB.out hb);replace hD:=Za (Below.up hD.out hb);replace hres:=Za (YF hres.out hb);clear hb z1;have z2:=Zg hD.out hbl y2.out;go_wp2_with fail
 refine(ZN c _ hzc).mono ?_;rintro e w4 ⟨rfl,hb⟩;replace hB:=Za (Below.up hB.out hb);replace hD:=Za (Below.up hD.out hb);replace hres:=Za (YF hres.out hb);clear hb z2;have z0:=Zg hD.out hbl y0.out;have j0:(w4.alloc (.cells #[.string a,.int .i64 (rdNum b.data.toList),.int .i64 (rdNum c.data.toList)] 106)).cell? ⟨w4.heap.size,0,none⟩=some (.string a):=by rw[cell_of_row _ _ _ _ _ _ (heap_alloc_new w4 _)];rfl
 have j1:(w4.alloc (.cells #[.string a,.int .i64 (rdNum b.data.toList),.int .i64 (rdNum c.data.toList)] 106)).cell? ⟨w4.heap.size,1,none⟩=some (.int .i64 (rdNum b.data.toList)):=by rw[cell_of_row _ _ _ _ _ _ (heap_alloc_new w4 _)];rfl
 have j2:(w4.alloc (.cells #[.string a,.int .i64 (rdNum b.data.toList),.int .i64 (rdNum c.data.toList)] 106)).cell? ⟨w4.heap.size,2,none⟩=some (.int .i64 (rdNum c.data.toList)):=by rw[cell_of_row _ _ _ _ _ _ (heap_alloc_new w4 _)];rfl
 have hlt4:w.heap.size<w4.heap.size:=Yg hres.out;have g0:w4.cell? ⟨w.heap.size,0,none⟩=some (.string ⟨#[]⟩):=by rw[cell_of_row _ _ _ _ _ _ hres.out];rfl
 have g1:w4.cell? ⟨w.heap.size,1,none⟩=some (.int .i64 0):=by rw[cell_of_row _ _ _ _ _ _ hres.out];rfl
 have g2:w4.cell? ⟨w.heap.size,2,none⟩=some (.int .i64 0):=by rw[cell_of_row _ _ _ _ _ _ hres.out];rfl
 have gf:∀o,w4.frozen? ⟨w.heap.size,o,none⟩=false:=λo=>frozen_of_row w4 _ _ _ _ hres.out
 have hne2:w4.heap.size≠w.heap.size:=by omega
 have hB4:=Za hB.out;have hj:w4.heap.size<(w4.alloc (.cells #[.string a,.int .i64 (rdNum b.data.toList),.int .i64 (rdNum c.data.toList)] 106)).heap.size:=by simp
 replace hres:=Za (YF hres.out ((Below.refl w4.heap.size w4).alloc (Nat.le_refl _) (.cells #[.string a,.int .i64 (rdNum b.data.toList),.int .i64 (rdNum c.data.toList)] 106)));replace hB:=Za (hB.out.alloc hB.out.size (.cells #[.string a,.int .i64 (rdNum b.data.toList),.int .i64 (rdNum c.data.toList)] 106));have hne0:w.heap.size≠w4.heap.size:=by omega
 have f0:(w4.alloc (.cells #[.string a,.int .i64 (rdNum b.data.toList),.int .i64 (rdNum c.data.toList)] 106)).cell? ⟨w.heap.size,0,none⟩=some (.string ⟨#[]⟩):=by rw[cell_of_row _ _ _ _ _ _ hres.out];rfl
 have f1:(w4.alloc (.cells #[.string a,.int .i64 (rdNum b.data.toList),.int .i64 (rdNum c.data.toList)] 106)).cell? ⟨w.heap.size,1,none⟩=some (.int .i64 0):=by rw[cell_of_row _ _ _ _ _ _ hres.out];rfl
 have f2:(w4.alloc (.cells #[.string a,.int .i64 (rdNum b.data.toList),.int .i64 (rdNum c.data.toList)] 106)).cell? ⟨w.heap.size,2,none⟩=some (.int .i64 0):=by rw[cell_of_row _ _ _ _ _ _ hres.out];rfl
 have ff:∀o:Nat,World.frozen? (w4.alloc (.cells #[.string a,.int .i64 (rdNum b.data.toList),.int .i64 (rdNum c.data.toList)] 106)) (⟨w.heap.size,o,none⟩:Addr)=false:=λo=>frozen_of_row (w4.alloc (.cells #[.string a,.int .i64 (rdNum b.data.toList),.int .i64 (rdNum c.data.toList)] 106)) _ _ _ _ hres.out
 go_wp2
 exact bodyPost_ret (v:=.tuple #[.agg #[.string ⟨#[]⟩,.int .i64 0,.int .i64 0],.bool false]) (by simp[results,Tryz.results151,go_sem,g0,g1,g2,hlt4]) rfl ⟨rfl,W9 hB4.out _ _ _ _⟩
theorem Zf6 (x:ByteArray)(w:World)(hs:x.size<=1048576)(a b c:ByteArray)(hL:[a,b,c]=words 32 x)(ha:a.size<=maxLen)(hzb:b.size<=maxLen)(hzc:c.size<=maxLen)(k1:Yt b.data.toList=true)(k2:Yt c.data.toList=true)(k3:(⟨a,rdNum b.data.toList,rdNum c.data.toList⟩:Heap).ok=false) :
  Calls Tryz.prog 151 #[.string x] w (RH hz0 false w):=by
 have hsp:∀W:World,Hid (Calls Tryz.prog 54 #[.string x,.int .u8 32] W λe w'=>∃v,e = .returned v/\Own ZY 9 1 w' W.heap.size v [a,b,c].length [a,b,c]/\Below W.heap.size W w'):=λW=>Za (by rw[hL];exact ZS 32 x W (by omega))
 have hLh:=Za hL;have hSP:=Za hsp;clear hL hsp;have hB:=Za ((Below.refl w.heap.size w).alloc (Nat.le_refl _) (.cells #[.string ⟨#[]⟩,.int .i64 0,.int .i64 0] 106));go_enter Tryz.func151,Tryz.ntmps151;go_wp2_with fail
 have hres:=Za (heap_alloc_new w (.cells #[.string ⟨#[]⟩,.int .i64 0,.int .i64 0] 106));obtain⟨W1,hW1⟩:∃W1,W1=w.alloc (.cells #[.string ⟨#[]⟩,.int .i64 0,.int .i64 0] 106):=⟨_,rfl⟩;rw[←hW1] at hB hres ⊢;clear hW1;refine(hSP.out _).out.mono ?_;rintro e w2 ⟨v2,rfl,ho2,hb⟩;have hO2:=Za ho2;replace hB:=Za (Below.up hB.out hb);replace hres:=Za (YF hres.out hb);clear hb ho2;obtain⟨Aw,cw,rfl,_⟩:=hO2.out.slice;have hR:=hO2.out.arr Zf;obtain⟨bw,ow,x0,rfl,hbl,hx0,z0⟩:=hR.str (k:=0) (by show 0<3;omega);obtain⟨_,_,x1,hA1,_,hx1,z1⟩:=hR.str (k:=1) (by show 1<3;omega);cases hA1
 obtain⟨_,_,x2,hA2,_,hx2,z2⟩:=hR.str (k:=2) (by show 2<3;omega);cases hA2
 obtain rfl:a=x0:=by simpa using hx0
 obtain rfl:b=x1:=by simpa using hx1
 obtain rfl:c=x2:=by simpa using hx2
 clear hx0 hx1 hx2 hR hO2;rw[Nat.add_zero] at z0;have y0:=Za z0;have y2:=Za z2;have hD:=Za (Below.refl w2.heap.size w2);clear z0 z2;go_wp2_with fail
 refine(ZN b _ hzb).mono ?_;rintro e w3 ⟨rfl,hb⟩;replace hB:=Za (Below.up hB.out hb);replace hD:=Za (Below.up hD.out hb);replace hres:=Za (YF hres.out hb);clear hb z1;have z2:=Zg hD.out hbl y2.out;go_wp2_with fail
 refine(ZN c _ hzc).mono ?_;rintro e w4 ⟨rfl,hb⟩;replace hB:=Za (Below.up hB.out hb);replace hD:=Za (Below.up hD.out hb);replace hres:=Za (YF hres.out hb);clear hb z2;have z0:=Zg hD.out hbl y0.out;have j0:(w4.alloc (.cells #[.string a,.int .i64 (rdNum b.data.toList),.int .i64 (rdNum c.data.toList)] 106)).cell? ⟨w4.heap.size,0,none⟩=some (.string a):=by rw[cell_of_row _ _ _ _ _ _ (heap_alloc_new w4 _)];rfl
 have j1:(w4.alloc (.cells #[.string a,.int .i64 (rdNum b.data.toList),.int .i64 (rdNum c.data.toList)] 106)).cell? ⟨w4.heap.size,1,none⟩=some (.int .i64 (rdNum b.data.toList)):=by rw[cell_of_row _ _ _ _ _ _ (heap_alloc_new w4 _)];rfl
 have j2:(w4.alloc (.cells #[.string a,.int .i64 (rdNum b.data.toList),.int .i64 (rdNum c.data.toList)] 106)).cell? ⟨w4.heap.size,2,none⟩=some (.int .i64 (rdNum c.data.toList)):=by rw[cell_of_row _ _ _ _ _ _ (heap_alloc_new w4 _)];rfl
 have hlt4:w.heap.size<w4.heap.size:=Yg hres.out;have g0:w4.cell? ⟨w.heap.size,0,none⟩=some (.string ⟨#[]⟩):=by rw[cell_of_row _ _ _ _ _ _ hres.out];rfl
 have g1:w4.cell? ⟨w.heap.size,1,none⟩=some (.int .i64 0):=by rw[cell_of_row _ _ _ _ _ _ hres.out];rfl
 have g2:w4.cell? ⟨w.heap.size,2,none⟩=some (.int .i64 0):=by rw[cell_of_row _ _ _ _ _ _ hres.out];rfl
 have gf:∀o,w4.frozen? ⟨w.heap.size,o,none⟩=false:=λo=>frozen_of_row w4 _ _ _ _ hres.out
 have hne2:w4.heap.size≠w.heap.size:=by omega
 have hB4:=Za hB.out;have hj:w4.heap.size<(w4.alloc (.cells #[.string a,.int .i64 (rdNum b.data.toList),.int .i64 (rdNum c.data.toList)] 106)).heap.size:=by simp
 replace hres:=Za (YF hres.out ((Below.refl w4.heap.size w4).alloc (Nat.le_refl _) (.cells #[.string a,.int .i64 (rdNum b.data.toList),.int .i64 (rdNum c.data.toList)] 106)));replace hB:=Za (hB.out.alloc hB.out.size (.cells #[.string a,.int .i64 (rdNum b.data.toList),.int .i64 (rdNum c.data.toList)] 106));have hne0:w.heap.size≠w4.heap.size:=by omega
 have f0:(w4.alloc (.cells #[.string a,.int .i64 (rdNum b.data.toList),.int .i64 (rdNum c.data.toList)] 106)).cell? ⟨w.heap.size,0,none⟩=some (.string ⟨#[]⟩):=by rw[cell_of_row _ _ _ _ _ _ hres.out];rfl
 have f1:(w4.alloc (.cells #[.string a,.int .i64 (rdNum b.data.toList),.int .i64 (rdNum c.data.toList)] 106)).cell? ⟨w.heap.size,1,none⟩=some (.int .i64 0):=by rw[cell_of_row _ _ _ _ _ _ hres.out];rfl
 have f2:(w4.alloc (.cells #[.string a,.int .i64 (rdNum b.data.toList),.int .i64 (rdNum c.data.toList)] 106)).cell? ⟨w.heap.size,2,none⟩=some (.int .i64 0):=by rw[cell_of_row _ _ _ _ _ _ hres.out];rfl
 have ff:∀o:Nat,World.frozen? (w4.alloc (.cells #[.string a,.int .i64 (rdNum b.data.toList),.int .i64 (rdNum c.data.toList)] 106)) (⟨w.heap.size,o,none⟩:Addr)=false:=λo=>frozen_of_row (w4.alloc (.cells #[.string a,.int .i64 (rdNum b.data.toList),.int .i64 (rdNum c.data.toList)] 106)) _ _ _ _ hres.out
 go_wp2_with (first|(go_at_call 136;refine(YL w4.heap.size 0 (⟨a,rdNum b.data.toList,rdNum c.data.toList⟩:Heap) _ ha j0 j1 j2).mono ?_;rintro e w' ⟨rfl,rfl⟩)|fail)
 exact bodyPost_ret (v:=.tuple #[.agg #[.string ⟨#[]⟩,.int .i64 0,.int .i64 0],.bool false]) (by simp[results,Tryz.results151,go_sem,g0,g1,g2,hlt4]) rfl ⟨rfl,W9 hB4.out _ _ _ _⟩
theorem ZhW (x:ByteArray)(w:World)(hs:x.size<=1048576)(a b c:ByteArray)(hL:[a,b,c]=words 32 x)(ha:a.size<=maxLen)(hzb:b.size<=maxLen)(hzc:c.size<=maxLen)(k1:Yt b.data.toList=true)(k2:Yt c.data.toList=true)(k3:(⟨a,rdNum b.data.toList,rdNum c.data.toList⟩:Heap).ok=true) :
  Calls Tryz.prog 151 #[.string x] w (RH (⟨a,rdNum b.data.toList,rdNum c.data.toList⟩:Heap) true w):=by
 have hsp:∀W:World,Hid (Calls Tryz.prog 54 #[.string x,.int .u8 32] W λe w'=>∃v,e = .returned v/\Own ZY 9 1 w' W.heap.size v [a,b,c].length [a,b,c]/\Below W.heap.size W w'):=λW=>Za (by rw[hL];exact ZS 32 x W (by omega))
 have hLh:=Za hL;have hSP:=Za hsp;clear hL hsp;have hB:=Za ((Below.refl w.heap.size w).alloc (Nat.le_refl _) (.cells #[.string ⟨#[]⟩,.int .i64 0,.int .i64 0] 106));go_enter Tryz.func151,Tryz.ntmps151;go_wp2_with fail
 have hres:=Za (heap_alloc_new w (.cells #[.string ⟨#[]⟩,.int .i64 0,.int .i64 0] 106));obtain⟨W1,hW1⟩:∃W1,W1=w.alloc (.cells #[.string ⟨#[]⟩,.int .i64 0,.int .i64 0] 106):=⟨_,rfl⟩;rw[←hW1] at hB hres ⊢;clear hW1;refine(hSP.out _).out.mono ?_;rintro e w2 ⟨v2,rfl,ho2,hb⟩;have hO2:=Za ho2;replace hB:=Za (Below.up hB.out hb);replace hres:=Za (YF hres.out hb);clear hb ho2;obtain⟨Aw,cw,rfl,_⟩:=hO2.out.slice;have hR:=hO2.out.arr Zf;obtain⟨bw,ow,x0,rfl,hbl,hx0,z0⟩:=hR.str (k:=0) (by show 0<3;omega);obtain⟨_,_,x1,hA1,_,hx1,z1⟩:=hR.str (k:=1) (by show 1<3;omega);cases hA1
 obtain⟨_,_,x2,hA2,_,hx2,z2⟩:=hR.str (k:=2) (by show 2<3;omega);cases hA2
 obtain rfl:a=x0:=by simpa using hx0
 obtain rfl:b=x1:=by simpa using hx1
 obtain rfl:c=x2:=by simpa using hx2
 clear hx0 hx1 hx2 hR hO2;rw[Nat.add_zero] at z0;have y0:=Za z0;have y2:=Za z2;have hD:=Za (Below.refl w2.heap.size w2);clear z0 z2;go_wp2_with fail
 refine(ZN b _ hzb).mono ?_;rintro e w3 ⟨rfl,hb⟩;replace hB:=Za (Below.up hB.out hb);replace hD:=Za (Below.up hD.out hb);replace hres:=Za (YF hres.out hb);clear hb z1;have z2:=Zg hD.out hbl y2.out;go_wp2_with fail
 refine(ZN c _ hzc).mono ?_;rintro e w4 ⟨rfl,hb⟩;replace hB:=Za (Below.up hB.out hb);replace hD:=Za (Below.up hD.out hb);replace hres:=Za (YF hres.out hb);clear hb z2;have z0:=Zg hD.out hbl y0.out;have j0:(w4.alloc (.cells #[.string a,.int .i64 (rdNum b.data.toList),.int .i64 (rdNum c.data.toList)] 106)).cell? ⟨w4.heap.size,0,none⟩=some (.string a):=by rw[cell_of_row _ _ _ _ _ _ (heap_alloc_new w4 _)];rfl
 have j1:(w4.alloc (.cells #[.string a,.int .i64 (rdNum b.data.toList),.int .i64 (rdNum c.data.toList)] 106)).cell? ⟨w4.heap.size,1,none⟩=some (.int .i64 (rdNum b.data.toList)):=by rw[cell_of_row _ _ _ _ _ _ (heap_alloc_new w4 _)];rfl
 have j2:(w4.alloc (.cells #[.string a,.int .i64 (rdNum b.data.toList),.int .i64 (rdNum c.data.toList)] 106)).cell? ⟨w4.heap.size,2,none⟩=some (.int .i64 (rdNum c.data.toList)):=by rw[cell_of_row _ _ _ _ _ _ (heap_alloc_new w4 _)];rfl
 have hlt4:w.heap.size<w4.heap.size:=Yg hres.out;have g0:w4.cell? ⟨w.heap.size,0,none⟩=some (.string ⟨#[]⟩):=by rw[cell_of_row _ _ _ _ _ _ hres.out];rfl
 have g1:w4.cell? ⟨w.heap.size,1,none⟩=some (.int .i64 0):=by rw[cell_of_row _ _ _ _ _ _ hres.out];rfl
 have g2:w4.cell? ⟨w.heap.size,2,none⟩=some (.int .i64 0):=by rw[cell_of_row _ _ _ _ _ _ hres.out];rfl
 have gf:∀o,w4.frozen? ⟨w.heap.size,o,none⟩=false:=λo=>frozen_of_row w4 _ _ _ _ hres.out
 have hne2:w4.heap.size≠w.heap.size:=by omega
 have hB4:=Za hB.out;have hj:w4.heap.size<(w4.alloc (.cells #[.string a,.int .i64 (rdNum b.data.toList),.int .i64 (rdNum c.data.toList)] 106)).heap.size:=by simp
 replace hres:=Za (YF hres.out ((Below.refl w4.heap.size w4).alloc (Nat.le_refl _) (.cells #[.string a,.int .i64 (rdNum b.data.toList),.int .i64 (rdNum c.data.toList)] 106)));replace hB:=Za (hB.out.alloc hB.out.size (.cells #[.string a,.int .i64 (rdNum b.data.toList),.int .i64 (rdNum c.data.toList)] 106));have hne0:w.heap.size≠w4.heap.size:=by omega
 have f0:(w4.alloc (.cells #[.string a,.int .i64 (rdNum b.data.toList),.int .i64 (rdNum c.data.toList)] 106)).cell? ⟨w.heap.size,0,none⟩=some (.string ⟨#[]⟩):=by rw[cell_of_row _ _ _ _ _ _ hres.out];rfl
 have f1:(w4.alloc (.cells #[.string a,.int .i64 (rdNum b.data.toList),.int .i64 (rdNum c.data.toList)] 106)).cell? ⟨w.heap.size,1,none⟩=some (.int .i64 0):=by rw[cell_of_row _ _ _ _ _ _ hres.out];rfl
 have f2:(w4.alloc (.cells #[.string a,.int .i64 (rdNum b.data.toList),.int .i64 (rdNum c.data.toList)] 106)).cell? ⟨w.heap.size,2,none⟩=some (.int .i64 0):=by rw[cell_of_row _ _ _ _ _ _ hres.out];rfl
 have ff:∀o:Nat,World.frozen? (w4.alloc (.cells #[.string a,.int .i64 (rdNum b.data.toList),.int .i64 (rdNum c.data.toList)] 106)) (⟨w.heap.size,o,none⟩:Addr)=false:=λo=>frozen_of_row (w4.alloc (.cells #[.string a,.int .i64 (rdNum b.data.toList),.int .i64 (rdNum c.data.toList)] 106)) _ _ _ _ hres.out
 go_wp2_with (first|(go_at_call 136;refine(YL w4.heap.size 0 (⟨a,rdNum b.data.toList,rdNum c.data.toList⟩:Heap) _ ha j0 j1 j2).mono ?_;rintro e w' ⟨rfl,rfl⟩)|fail)
 exact bodyPost_ret (v:=.tuple #[.agg #[.string a,.int .i64 (rdNum b.data.toList),.int .i64 (rdNum c.data.toList)],.bool true]) (by simp[results,Tryz.results151,go_sem,g0,g1,g2,hlt4]) rfl ⟨rfl,W9 hB4.out _ _ _ _⟩
theorem Zf7 (x:ByteArray)(w:World)(hs:x.size<=1048576) :
  Calls Tryz.prog 151 #[.string x] w (RH (rhHeap x) (rhOk x) w):=by
 by_cases h3:(words 32 x).length≠3
 ·obtain⟨e1,e2⟩:=Zgk h3
  rw[e1,e2];exact ZhV x w hs _ rfl h3
 obtain⟨a,b,c,hw⟩:∃a b c,words 32 x=[a,b,c]:=by
  match hww:words 32 x,h3 with
  | [a,b,c],_=>exact⟨a,b,c,rfl⟩
  | [],h3=>exact absurd (by decide) h3
  | [_],h3=>exact absurd (by simp) h3
  | [_,_],h3=>exact absurd (by simp) h3
  | _ :: _ :: _ :: _ :: _,h3=>exact absurd (by simp) h3
 have hsz:∀y∈words 32 x,y.size<=maxLen:=λy hy=>by have h5:=Z6 32 x hy;unfold maxLen;omega
 have ha:=hsz a (by rw[hw];simp);have hb:=hsz b (by rw[hw];simp);have hc:=hsz c (by rw[hw];simp);have e2:=Zat hw;cases k1:Yt b.data.toList
 ·rw[k1] at e2
  have e3:rhOk x=false:=e2;rw[JG e3,e3];exact Zjv x w hs a b c hw.symm ha hb hc k1
 cases k2:Yt c.data.toList
 ·rw[k1,k2] at e2
  have e3:rhOk x=false:=e2;rw[JG e3,e3];exact Zju x w hs a b c hw.symm ha hb hc k1 k2
 cases k3:(⟨a,rdNum b.data.toList,rdNum c.data.toList⟩:Heap).ok
 ·rw[k1,k2,k3] at e2
  have e3:rhOk x=false:=e2;rw[JG e3,e3];exact Zf6 x w hs a b c hw.symm ha hb hc k1 k2 k3
 ·rw[k1,k2,k3] at e2
  have e3:rhOk x=true:=e2;rw[Zcz hw e3,e3];exact ZhW x w hs a b c hw.symm ha hb hc k1 k2 k3
end Go.Proofs.YtfpaejlipaainaaGreatDoor
