/- Texts that belong together, joined: contracts and plain laws. No statement is proved here. -/
import Derived.Test.YtfpaejlipaainaaGreatDoorM10
set_option maxRecDepth 100000
set_option maxHeartbeats 1000000
namespace Go.Proofs.YtfpaejlipaainaaGreatDoor
open Go.ChangeShapes Go.WideShapes Go.ChangeAt Go.RowKit Go.Deep
def rlEnt (x:ByteArray):Entry:=match words 32 x with
 | [a,b,c,_]=>⟨rdNum a.data.toList,b,rdNum c.data.toList⟩
 | _=>⟨0,⟨#[]⟩,0⟩
def ZfD (x:ByteArray):Bool:=match words 32 x with
 | [a,b,c,_]=>Yt a.data.toList&&Yt c.data.toList&&(⟨rdNum a.data.toList,b,rdNum c.data.toList⟩:Entry).ok
 | _=>false
theorem Zkf {x:ByteArray}(h:ZfD x=true):Vt x.data.toList=some (rlEnt x)/\(rlEnt x).ok=true:=by
 unfold ZfD at h;split at h
 ·rename_i a b c d hw
  simp only[Bool.and_eq_true] at h;have he:=Jh hw;rw[if_pos ⟨h.1.1,h.1.2,h.2⟩] at he;unfold rlEnt;rw[hw];exact⟨he,h.2⟩
 ·cases h
theorem ZjD {x:ByteArray}(h:ZfD x=false):Vt x.data.toList=none:=by
 unfold ZfD at h;split at h
 ·rename_i a b c d hw
  rw[Jh hw,if_neg];intro hh;rw[hh.1,hh.2.1,hh.2.2] at h;cases h
 ·rename_i hne
  refine Zd1 λh4=>?_
  match hw:words 32 x,h4 with
  | [a,b,c,d],_=>exact hne a b c d hw
theorem ZjC {x:ByteArray}(h:(words 32 x).length≠4):rlEnt x=⟨0,⟨#[]⟩,0⟩/\ZfD x=false:=by
 constructor
 ·unfold rlEnt;split
  ·rename_i hw;rw[hw] at h;exact absurd rfl h
  ·rfl
 ·unfold ZfD;split
  ·rename_i hw;rw[hw] at h;exact absurd rfl h
  ·rfl
theorem ZjE {x a b c d:ByteArray}(h:words 32 x=[a,b,c,d]):rlEnt x=⟨rdNum a.data.toList,b,rdNum c.data.toList⟩/\ZfD x=(Yt a.data.toList&&Yt c.data.toList&&(⟨rdNum a.data.toList,b,rdNum c.data.toList⟩:Entry).ok):=by
 constructor
 ·unfold rlEnt;rw[h]
 ·unfold ZfD;rw[h]
def RL (x:Entry)(ok:Bool)(w:World)(e:Ending)(w':World):Prop:=e = .returned (.tuple #[.agg #[.int .i64 x.fDay,.string x.fWhat,.int .i64 x.fValue],.bool ok])/\Below w.heap.size w w'
theorem Zfh (x:ByteArray)(w:World)(hs:x.size<=1000000)(L:List ByteArray)(hL:L=words 32 x)(h4:L.length≠4)(hG:Gl w) :
  Calls Tryz.prog 172 #[.string x] w λe w'=>e = .returned (.tuple #[.agg #[.int .i64 0,.string ⟨#[]⟩,.int .i64 0],.bool false])/\Below w.heap.size w w':=by
 have e4:((L.length:Int) != 4)=true:=by rw[bne_iff_ne];omega
 clear h4;have hsp:∀W:World,Gl W→Hid (Calls Tryz.prog 27 #[.string x,.string ⟨#[32]⟩] W λe w'=>∃v,e = .returned v/\Own ZY 9 1 w' W.heap.size v L.length L/\Below W.heap.size W w'):=λW hg=>Za (by rw[hL];exact ZH 32 x W (by omega) hg)
 have hLh:=Za hL;have hSP:=Za hsp;have hGh:=Za hG;clear hL hsp hG;have hB:=Za ((Below.refl w.heap.size w).alloc (Nat.le_refl _) (.cells #[.int .i64 0,.string ⟨#[]⟩,.int .i64 0] 116));go_enter Tryz.func172,Tryz.ntmps172;go_wp2_with fail
 have hres:=Za (heap_alloc_new w (.cells #[.int .i64 0,.string ⟨#[]⟩,.int .i64 0] 116));obtain⟨W1,hW1⟩:∃W1,W1=w.alloc (.cells #[.int .i64 0,.string ⟨#[]⟩,.int .i64 0] 116):=⟨_,rfl⟩;rw[←hW1] at hB hres ⊢;clear hW1;refine(hSP.out _ (hGh.out.below hB.out)).out.mono ?_;rintro e w2 ⟨v2,rfl,ho2,hb⟩;have hO2:=Za ho2;replace hB:=Za (Below.up hB.out hb);replace hres:=Za (ZG hres.out hb);clear hb ho2;obtain⟨Aw,cw,rfl,_⟩:=hO2.out.slice;have f0:w2.cell? ⟨w.heap.size,0,none⟩=some (.int .i64 0):=by rw[cell_of_row _ _ _ _ _ _ hres.out];rfl
 have f1:w2.cell? ⟨w.heap.size,1,none⟩=some (.string ⟨#[]⟩):=by rw[cell_of_row _ _ _ _ _ _ hres.out];rfl
 have f2:w2.cell? ⟨w.heap.size,2,none⟩=some (.int .i64 0):=by rw[cell_of_row _ _ _ _ _ _ hres.out];rfl
 have ff:∀o,w2.frozen? ⟨w.heap.size,o,none⟩=false:=λo=>frozen_of_row w2 _ _ _ _ hres.out
 go_wp2
 exact bodyPost_ret (v:=.tuple #[.agg #[.int .i64 0,.string ⟨#[]⟩,.int .i64 0],.bool false]) (by simp[results,Tryz.results172,go_sem,f0,f1,f2]) rfl ⟨rfl,((hB.out.setCell (p:=⟨w.heap.size,0,none⟩) (Nat.le_refl _) _).setCell (p:=⟨w.heap.size,1,none⟩) (Nat.le_refl _) _).setCell (p:=⟨w.heap.size,2,none⟩) (Nat.le_refl _) _⟩
theorem Zg5 (x:ByteArray)(w:World)(hs:x.size<=1000000)(a b c d:ByteArray)(hL:[a,b,c,d]=words 32 x)(hG:Gl w)(k1:Yt a.data.toList=false) :
  Calls Tryz.prog 172 #[.string x] w (RL (⟨rdNum a.data.toList,b,rdNum c.data.toList⟩:Entry) false w):=by
 have hsp:∀W:World,Gl W→Hid (Calls Tryz.prog 27 #[.string x,.string ⟨#[32]⟩] W λe w'=>∃v,e = .returned v/\Own ZY 9 1 w' W.heap.size v [a,b,c,d].length [a,b,c,d]/\Below W.heap.size W w'):=λW hg=>Za (by rw[hL];exact ZH 32 x W (by omega) hg)
 have hLh:=Za hL;have hSP:=Za hsp;have hGh:=Za hG;clear hL hsp hG;have hB:=Za ((Below.refl w.heap.size w).alloc (Nat.le_refl _) (.cells #[.int .i64 0,.string ⟨#[]⟩,.int .i64 0] 116));go_enter Tryz.func172,Tryz.ntmps172;go_wp2_with fail
 have hres:=Za (heap_alloc_new w (.cells #[.int .i64 0,.string ⟨#[]⟩,.int .i64 0] 116));obtain⟨W1,hW1⟩:∃W1,W1=w.alloc (.cells #[.int .i64 0,.string ⟨#[]⟩,.int .i64 0] 116):=⟨_,rfl⟩;rw[←hW1] at hB hres ⊢;clear hW1;refine(hSP.out _ (hGh.out.below hB.out)).out.mono ?_;rintro e w2 ⟨v2,rfl,ho2,hb⟩;have hO2:=Za ho2;replace hB:=Za (Below.up hB.out hb);replace hres:=Za (ZG hres.out hb);clear hb ho2;obtain⟨Aw,cw,rfl,_⟩:=hO2.out.slice;have hR:=hO2.out.arr Zf;obtain⟨bw,ow,x0,rfl,hbl,hx0,z0⟩:=hR.str (k:=0) (by show 0<4;omega);obtain⟨_,_,x1,hA1,_,hx1,z1⟩:=hR.str (k:=1) (by show 1<4;omega);cases hA1
 obtain⟨_,_,x2,hA2,_,hx2,z2⟩:=hR.str (k:=2) (by show 2<4;omega);cases hA2
 obtain rfl:a=x0:=by simpa using hx0
 obtain rfl:b=x1:=by simpa using hx1
 obtain rfl:c=x2:=by simpa using hx2
 clear hx0 hx1 hx2 hR hO2;rw[Nat.add_zero] at z0;have y1:=Za z1;have y2:=Za z2;have hD:=Za (Below.refl w2.heap.size w2);clear z1 z2;go_wp2_with fail
 refine(ZV a _ (hGh.out.below hB.out)).mono ?_;rintro e w3 ⟨rfl,hb⟩;replace hB:=Za (Below.up hB.out hb);replace hD:=Za (Below.up hD.out hb);replace hres:=Za (ZG hres.out hb);clear hb z0;have z2:=Zg hD.out hbl y2.out;go_wp2_with fail
 refine(ZV c _ (hGh.out.below hB.out)).mono ?_;rintro e w4 ⟨rfl,hb⟩;replace hB:=Za (Below.up hB.out hb);replace hD:=Za (Below.up hD.out hb);replace hres:=Za (ZG hres.out hb);clear hb z2;have z1:=Zg hD.out hbl y1.out;have j0:(w4.alloc (.cells #[.int .i64 (rdNum a.data.toList),.string b,.int .i64 (rdNum c.data.toList)] 116)).cell? ⟨w4.heap.size,0,none⟩=some (.int .i64 (rdNum a.data.toList)):=by rw[cell_of_row _ _ _ _ _ _ (heap_alloc_new w4 _)];rfl
 have j1:(w4.alloc (.cells #[.int .i64 (rdNum a.data.toList),.string b,.int .i64 (rdNum c.data.toList)] 116)).cell? ⟨w4.heap.size,1,none⟩=some (.string b):=by rw[cell_of_row _ _ _ _ _ _ (heap_alloc_new w4 _)];rfl
 have j2:(w4.alloc (.cells #[.int .i64 (rdNum a.data.toList),.string b,.int .i64 (rdNum c.data.toList)] 116)).cell? ⟨w4.heap.size,2,none⟩=some (.int .i64 (rdNum c.data.toList)):=by rw[cell_of_row _ _ _ _ _ _ (heap_alloc_new w4 _)];rfl
 have hlt4:w.heap.size<w4.heap.size:=Yg hres.out;have hj:w4.heap.size<(w4.alloc (.cells #[.int .i64 (rdNum a.data.toList),.string b,.int .i64 (rdNum c.data.toList)] 116)).heap.size:=by simp
 replace hres:=Za (ZG hres.out ((Below.refl w4.heap.size w4).alloc (Nat.le_refl _) (.cells #[.int .i64 (rdNum a.data.toList),.string b,.int .i64 (rdNum c.data.toList)] 116)));replace hB:=Za (hB.out.alloc hB.out.size (.cells #[.int .i64 (rdNum a.data.toList),.string b,.int .i64 (rdNum c.data.toList)] 116));have hlt0:w.heap.size<(w4.alloc (.cells #[.int .i64 (rdNum a.data.toList),.string b,.int .i64 (rdNum c.data.toList)] 116)).heap.size:=Yg hres.out;have hne0:w.heap.size≠w4.heap.size:=by omega
 go_wp2_with fail
 clear z1;obtain⟨h,hh⟩:∃h,h=w4.heap.size:=⟨_,rfl⟩;obtain⟨W5,hW5⟩:∃W5,W5=w4.alloc (.cells #[.int .i64 (rdNum a.data.toList),.string b,.int .i64 (rdNum c.data.toList)] 116):=⟨_,rfl⟩;rw[←hW5] at j0 j1 j2 hB hj hres hlt0 ⊢;rw[←hh] at j0 j1 j2 hj hne0 ⊢;clear hW5 hh hlt4;have f0:W5.cell? ⟨w.heap.size,0,none⟩=some (.int .i64 0):=by rw[cell_of_row _ _ _ _ _ _ hres.out];rfl
 have f1:W5.cell? ⟨w.heap.size,1,none⟩=some (.string ⟨#[]⟩):=by rw[cell_of_row _ _ _ _ _ _ hres.out];rfl
 have f2:W5.cell? ⟨w.heap.size,2,none⟩=some (.int .i64 0):=by rw[cell_of_row _ _ _ _ _ _ hres.out];rfl
 have ff:∀o,W5.frozen? ⟨w.heap.size,o,none⟩=false:=λo=>frozen_of_row W5 _ _ _ _ hres.out
 have hne1:h≠w.heap.size:=by omega
 go_region
 all_goals go_wp2
 all_goals exact bodyPost_ret (v:=.tuple #[.agg #[.int .i64 (rdNum a.data.toList),.string b,.int .i64 (rdNum c.data.toList)],.bool false]) (by simp[results,Tryz.results172,go_sem,f0,f1,f2]) rfl ⟨rfl,(((hB.out.drew).setCell (p:=⟨w.heap.size,0,none⟩) (Nat.le_refl _) _).setCell (p:=⟨w.heap.size,1,none⟩) (Nat.le_refl _) _).setCell (p:=⟨w.heap.size,2,none⟩) (Nat.le_refl _) _⟩
theorem Zg4 (x:ByteArray)(w:World)(hs:x.size<=1000000)(a b c d:ByteArray)(hL:[a,b,c,d]=words 32 x)(hG:Gl w)(k1:Yt a.data.toList=true)(k2:Yt c.data.toList=false) :
  Calls Tryz.prog 172 #[.string x] w (RL (⟨rdNum a.data.toList,b,rdNum c.data.toList⟩:Entry) false w):=by
 have hsp:∀W:World,Gl W→Hid (Calls Tryz.prog 27 #[.string x,.string ⟨#[32]⟩] W λe w'=>∃v,e = .returned v/\Own ZY 9 1 w' W.heap.size v [a,b,c,d].length [a,b,c,d]/\Below W.heap.size W w'):=λW hg=>Za (by rw[hL];exact ZH 32 x W (by omega) hg)
 have hLh:=Za hL;have hSP:=Za hsp;have hGh:=Za hG;clear hL hsp hG;have hB:=Za ((Below.refl w.heap.size w).alloc (Nat.le_refl _) (.cells #[.int .i64 0,.string ⟨#[]⟩,.int .i64 0] 116));go_enter Tryz.func172,Tryz.ntmps172;go_wp2_with fail
 have hres:=Za (heap_alloc_new w (.cells #[.int .i64 0,.string ⟨#[]⟩,.int .i64 0] 116));obtain⟨W1,hW1⟩:∃W1,W1=w.alloc (.cells #[.int .i64 0,.string ⟨#[]⟩,.int .i64 0] 116):=⟨_,rfl⟩;rw[←hW1] at hB hres ⊢;clear hW1;refine(hSP.out _ (hGh.out.below hB.out)).out.mono ?_;rintro e w2 ⟨v2,rfl,ho2,hb⟩;have hO2:=Za ho2;replace hB:=Za (Below.up hB.out hb);replace hres:=Za (ZG hres.out hb);clear hb ho2;obtain⟨Aw,cw,rfl,_⟩:=hO2.out.slice;have hR:=hO2.out.arr Zf;obtain⟨bw,ow,x0,rfl,hbl,hx0,z0⟩:=hR.str (k:=0) (by show 0<4;omega);obtain⟨_,_,x1,hA1,_,hx1,z1⟩:=hR.str (k:=1) (by show 1<4;omega);cases hA1
 obtain⟨_,_,x2,hA2,_,hx2,z2⟩:=hR.str (k:=2) (by show 2<4;omega);cases hA2
 obtain rfl:a=x0:=by simpa using hx0
 obtain rfl:b=x1:=by simpa using hx1
 obtain rfl:c=x2:=by simpa using hx2
 clear hx0 hx1 hx2 hR hO2;rw[Nat.add_zero] at z0;have y1:=Za z1;have y2:=Za z2;have hD:=Za (Below.refl w2.heap.size w2);clear z1 z2;go_wp2_with fail
 refine(ZV a _ (hGh.out.below hB.out)).mono ?_;rintro e w3 ⟨rfl,hb⟩;replace hB:=Za (Below.up hB.out hb);replace hD:=Za (Below.up hD.out hb);replace hres:=Za (ZG hres.out hb);clear hb z0;have z2:=Zg hD.out hbl y2.out;go_wp2_with fail
 refine(ZV c _ (hGh.out.below hB.out)).mono ?_;rintro e w4 ⟨rfl,hb⟩;replace hB:=Za (Below.up hB.out hb);replace hD:=Za (Below.up hD.out hb);replace hres:=Za (ZG hres.out hb);clear hb z2;have z1:=Zg hD.out hbl y1.out;have j0:(w4.alloc (.cells #[.int .i64 (rdNum a.data.toList),.string b,.int .i64 (rdNum c.data.toList)] 116)).cell? ⟨w4.heap.size,0,none⟩=some (.int .i64 (rdNum a.data.toList)):=by rw[cell_of_row _ _ _ _ _ _ (heap_alloc_new w4 _)];rfl
 have j1:(w4.alloc (.cells #[.int .i64 (rdNum a.data.toList),.string b,.int .i64 (rdNum c.data.toList)] 116)).cell? ⟨w4.heap.size,1,none⟩=some (.string b):=by rw[cell_of_row _ _ _ _ _ _ (heap_alloc_new w4 _)];rfl
 have j2:(w4.alloc (.cells #[.int .i64 (rdNum a.data.toList),.string b,.int .i64 (rdNum c.data.toList)] 116)).cell? ⟨w4.heap.size,2,none⟩=some (.int .i64 (rdNum c.data.toList)):=by rw[cell_of_row _ _ _ _ _ _ (heap_alloc_new w4 _)];rfl
 have hlt4:w.heap.size<w4.heap.size:=Yg hres.out;have hj:w4.heap.size<(w4.alloc (.cells #[.int .i64 (rdNum a.data.toList),.string b,.int .i64 (rdNum c.data.toList)] 116)).heap.size:=by simp
 replace hres:=Za (ZG hres.out ((Below.refl w4.heap.size w4).alloc (Nat.le_refl _) (.cells #[.int .i64 (rdNum a.data.toList),.string b,.int .i64 (rdNum c.data.toList)] 116)));replace hB:=Za (hB.out.alloc hB.out.size (.cells #[.int .i64 (rdNum a.data.toList),.string b,.int .i64 (rdNum c.data.toList)] 116));have hlt0:w.heap.size<(w4.alloc (.cells #[.int .i64 (rdNum a.data.toList),.string b,.int .i64 (rdNum c.data.toList)] 116)).heap.size:=Yg hres.out;have hne0:w.heap.size≠w4.heap.size:=by omega
 go_wp2_with fail
 clear z1;obtain⟨h,hh⟩:∃h,h=w4.heap.size:=⟨_,rfl⟩;obtain⟨W5,hW5⟩:∃W5,W5=w4.alloc (.cells #[.int .i64 (rdNum a.data.toList),.string b,.int .i64 (rdNum c.data.toList)] 116):=⟨_,rfl⟩;rw[←hW5] at j0 j1 j2 hB hj hres hlt0 ⊢;rw[←hh] at j0 j1 j2 hj hne0 ⊢;clear hW5 hh hlt4;have f0:W5.cell? ⟨w.heap.size,0,none⟩=some (.int .i64 0):=by rw[cell_of_row _ _ _ _ _ _ hres.out];rfl
 have f1:W5.cell? ⟨w.heap.size,1,none⟩=some (.string ⟨#[]⟩):=by rw[cell_of_row _ _ _ _ _ _ hres.out];rfl
 have f2:W5.cell? ⟨w.heap.size,2,none⟩=some (.int .i64 0):=by rw[cell_of_row _ _ _ _ _ _ hres.out];rfl
 have ff:∀o,W5.frozen? ⟨w.heap.size,o,none⟩=false:=λo=>frozen_of_row W5 _ _ _ _ hres.out
 have hne1:h≠w.heap.size:=by omega
 go_region
 all_goals go_wp2
 all_goals exact bodyPost_ret (v:=.tuple #[.agg #[.int .i64 (rdNum a.data.toList),.string b,.int .i64 (rdNum c.data.toList)],.bool false]) (by simp[results,Tryz.results172,go_sem,f0,f1,f2]) rfl ⟨rfl,(((hB.out.drew).setCell (p:=⟨w.heap.size,0,none⟩) (Nat.le_refl _) _).setCell (p:=⟨w.heap.size,1,none⟩) (Nat.le_refl _) _).setCell (p:=⟨w.heap.size,2,none⟩) (Nat.le_refl _) _⟩
theorem Ziu (x:ByteArray)(w:World)(hs:x.size<=1000000)(a b c d:ByteArray)(hL:[a,b,c,d]=words 32 x)(hG:Gl w)(hbz:b.size<=maxLen)(k1:Yt a.data.toList=true)(k2:Yt c.data.toList=true) :
  Calls Tryz.prog 172 #[.string x] w (RL (⟨rdNum a.data.toList,b,rdNum c.data.toList⟩:Entry) (⟨rdNum a.data.toList,b,rdNum c.data.toList⟩:Entry).ok w):=by
 have hsp:∀W:World,Gl W→Hid (Calls Tryz.prog 27 #[.string x,.string ⟨#[32]⟩] W λe w'=>∃v,e = .returned v/\Own ZY 9 1 w' W.heap.size v [a,b,c,d].length [a,b,c,d]/\Below W.heap.size W w'):=λW hg=>Za (by rw[hL];exact ZH 32 x W (by omega) hg)
 have hLh:=Za hL;have hSP:=Za hsp;have hGh:=Za hG;clear hL hsp hG;have hB:=Za ((Below.refl w.heap.size w).alloc (Nat.le_refl _) (.cells #[.int .i64 0,.string ⟨#[]⟩,.int .i64 0] 116));go_enter Tryz.func172,Tryz.ntmps172;go_wp2_with fail
 have hres:=Za (heap_alloc_new w (.cells #[.int .i64 0,.string ⟨#[]⟩,.int .i64 0] 116));obtain⟨W1,hW1⟩:∃W1,W1=w.alloc (.cells #[.int .i64 0,.string ⟨#[]⟩,.int .i64 0] 116):=⟨_,rfl⟩;rw[←hW1] at hB hres ⊢;clear hW1;refine(hSP.out _ (hGh.out.below hB.out)).out.mono ?_;rintro e w2 ⟨v2,rfl,ho2,hb⟩;have hO2:=Za ho2;replace hB:=Za (Below.up hB.out hb);replace hres:=Za (ZG hres.out hb);clear hb ho2;obtain⟨Aw,cw,rfl,_⟩:=hO2.out.slice;have hR:=hO2.out.arr Zf;obtain⟨bw,ow,x0,rfl,hbl,hx0,z0⟩:=hR.str (k:=0) (by show 0<4;omega);obtain⟨_,_,x1,hA1,_,hx1,z1⟩:=hR.str (k:=1) (by show 1<4;omega);cases hA1
 obtain⟨_,_,x2,hA2,_,hx2,z2⟩:=hR.str (k:=2) (by show 2<4;omega);cases hA2
 obtain rfl:a=x0:=by simpa using hx0
 obtain rfl:b=x1:=by simpa using hx1
 obtain rfl:c=x2:=by simpa using hx2
 clear hx0 hx1 hx2 hR hO2;rw[Nat.add_zero] at z0;have y1:=Za z1;have y2:=Za z2;have hD:=Za (Below.refl w2.heap.size w2);clear z1 z2;go_wp2_with fail
 refine(ZV a _ (hGh.out.below hB.out)).mono ?_;rintro e w3 ⟨rfl,hb⟩;replace hB:=Za (Below.up hB.out hb);replace hD:=Za (Below.up hD.out hb);replace hres:=Za (ZG hres.out hb);clear hb z0;have z2:=Zg hD.out hbl y2.out;go_wp2_with fail
 refine(ZV c _ (hGh.out.below hB.out)).mono ?_;rintro e w4 ⟨rfl,hb⟩;replace hB:=Za (Below.up hB.out hb);replace hD:=Za (Below.up hD.out hb);replace hres:=Za (ZG hres.out hb);clear hb z2;have z1:=Zg hD.out hbl y1.out;have j0:(w4.alloc (.cells #[.int .i64 (rdNum a.data.toList),.string b,.int .i64 (rdNum c.data.toList)] 116)).cell? ⟨w4.heap.size,0,none⟩=some (.int .i64 (rdNum a.data.toList)):=by rw[cell_of_row _ _ _ _ _ _ (heap_alloc_new w4 _)];rfl
 have j1:(w4.alloc (.cells #[.int .i64 (rdNum a.data.toList),.string b,.int .i64 (rdNum c.data.toList)] 116)).cell? ⟨w4.heap.size,1,none⟩=some (.string b):=by rw[cell_of_row _ _ _ _ _ _ (heap_alloc_new w4 _)];rfl
 have j2:(w4.alloc (.cells #[.int .i64 (rdNum a.data.toList),.string b,.int .i64 (rdNum c.data.toList)] 116)).cell? ⟨w4.heap.size,2,none⟩=some (.int .i64 (rdNum c.data.toList)):=by rw[cell_of_row _ _ _ _ _ _ (heap_alloc_new w4 _)];rfl
 have hlt4:w.heap.size<w4.heap.size:=Yg hres.out;have hj:w4.heap.size<(w4.alloc (.cells #[.int .i64 (rdNum a.data.toList),.string b,.int .i64 (rdNum c.data.toList)] 116)).heap.size:=by simp
 replace hres:=Za (ZG hres.out ((Below.refl w4.heap.size w4).alloc (Nat.le_refl _) (.cells #[.int .i64 (rdNum a.data.toList),.string b,.int .i64 (rdNum c.data.toList)] 116)));replace hB:=Za (hB.out.alloc hB.out.size (.cells #[.int .i64 (rdNum a.data.toList),.string b,.int .i64 (rdNum c.data.toList)] 116));have hlt0:w.heap.size<(w4.alloc (.cells #[.int .i64 (rdNum a.data.toList),.string b,.int .i64 (rdNum c.data.toList)] 116)).heap.size:=Yg hres.out;have hne0:w.heap.size≠w4.heap.size:=by omega
 go_wp2_with fail
 clear z1;obtain⟨h,hh⟩:∃h,h=w4.heap.size:=⟨_,rfl⟩;obtain⟨W5,hW5⟩:∃W5,W5=w4.alloc (.cells #[.int .i64 (rdNum a.data.toList),.string b,.int .i64 (rdNum c.data.toList)] 116):=⟨_,rfl⟩;rw[←hW5] at j0 j1 j2 hB hj hres hlt0 ⊢;rw[←hh] at j0 j1 j2 hj hne0 ⊢;clear hW5 hh hlt4;have f0:W5.cell? ⟨w.heap.size,0,none⟩=some (.int .i64 0):=by rw[cell_of_row _ _ _ _ _ _ hres.out];rfl
 have f1:W5.cell? ⟨w.heap.size,1,none⟩=some (.string ⟨#[]⟩):=by rw[cell_of_row _ _ _ _ _ _ hres.out];rfl
 have f2:W5.cell? ⟨w.heap.size,2,none⟩=some (.int .i64 0):=by rw[cell_of_row _ _ _ _ _ _ hres.out];rfl
 have ff:∀o,W5.frozen? ⟨w.heap.size,o,none⟩=false:=λo=>frozen_of_row W5 _ _ _ _ hres.out
 have hne1:h≠w.heap.size:=by omega
 have q0:=Za f0;have q1:=Za f1;have q2:=Za f2;have i0:=Za j0;have i1:=Za j1;have i2:=Za j2
 go_region_with ((go_at_call 124;refine(Wc (⟨rdNum a.data.toList,b,rdNum c.data.toList⟩:Entry) _ hbz).mono ?_;rintro e w6 ⟨rfl,hb⟩;have hU:=Below.up (Zb (Below.refl W5.heap.size W5) _) hb;have hE:=Za (Below.up hB.out hU);have f0:=Zg hU hlt0 q0.out;have f1:=Zg hU hlt0 q1.out;have f2:=Zg hU hlt0 q2.out;have ff:∀o,w6.frozen? ⟨w.heap.size,o,none⟩=false:=(λo=>frozen_of_row w6 _ _ _ _ (ZG hres.out hU));have j0:=Zg hU hj i0.out;have j1:=Zg hU hj i1.out;have j2:=Zg hU hj i2.out;clear hb hU))
 all_goals go_wp2
 all_goals exact bodyPost_ret (v:=.tuple #[.agg #[.int .i64 (rdNum a.data.toList),.string b,.int .i64 (rdNum c.data.toList)],.bool (⟨rdNum a.data.toList,b,rdNum c.data.toList⟩:Entry).ok]) (by simp[results,Tryz.results172,go_sem,f0,f1,f2]) rfl ⟨rfl,(((hE.out).setCell (p:=⟨w.heap.size,0,none⟩) (Nat.le_refl _) _).setCell (p:=⟨w.heap.size,1,none⟩) (Nat.le_refl _) _).setCell (p:=⟨w.heap.size,2,none⟩) (Nat.le_refl _) _⟩
theorem JT (x:ByteArray)(w:World)(hs:x.size<=1000000)(hG:Gl w) :
  Calls Tryz.prog 172 #[.string x] w (RL (rlEnt x) (ZfD x) w):=by
 by_cases h4:(words 32 x).length≠4
 ·obtain⟨e1,e2⟩:=ZjC h4
  rw[e1,e2];exact Zfh x w hs _ rfl h4 hG
 obtain⟨a,b,c,d,hw⟩:∃a b c d,words 32 x=[a,b,c,d]:=by
  match hww:words 32 x,h4 with
  | [a,b,c,d],_=>exact⟨a,b,c,d,rfl⟩
  | [],h4=>exact absurd (by decide) h4
  | [_],h4=>exact absurd (by simp) h4
  | [_,_],h4=>exact absurd (by simp) h4
  | [_,_,_],h4=>exact absurd (by simp) h4
  | _ :: _ :: _ :: _ :: _ :: _,h4=>exact absurd (by simp) h4
 obtain⟨e1,e2⟩:=ZjE hw;have hbz:b.size<=maxLen:=by
  have:=Z6 32 x (show b∈words 32 x by rw[hw];simp);unfold maxLen;omega
 rw[e1,e2];cases k1:Yt a.data.toList
 ·exact Zg5 x w hs a b c d hw.symm hG k1
 cases k2:Yt c.data.toList
 ·exact Zg4 x w hs a b c d hw.symm hG k1 k2
 exact Ziu x w hs a b c d hw.symm hG hbz k1 k2
end Go.Proofs.YtfpaejlipaainaaGreatDoor
