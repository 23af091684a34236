/- Texts that belong together, joined: contracts and plain laws. No statement is proved here. -/
import Derived.Test.YtfpaejlipaainaaGreatDoorM26
import Derived.RangeFuncNested
import Derived.RangeFuncBound
import Derived.RangeFuncLeaves
import Derived.Shelf.Abstract
import Derived.Shelf.RegionOpen
import Derived.OwnWalkIn
import Derived.TacticsInMore
import Derived.LoopNIn
import Derived.LoopIn
set_option maxRecDepth 100000
set_option maxHeartbeats 4000000
namespace Go.Proofs.YtfpaejlipaainaaGreatDoor
open Go.ChangeShapes Go.WideShapes Go.ChangeAt Go.RowKit Go.Deep
structure AskIn (w:World)(g:Nat)(x:DeskV)(Aw:Option Addr)(nw cw:Nat)(ws:List ByteArray)(An:Option Addr)(m cn:Nat)(N:List Int):Prop where
 hG:Gl w
 hK:w.heap[g]?=some (.cells #[.string x.fStroke,.int .i64 x.fStakes,.slice x.A x.n x.c,.slice x.A' x.n' x.c',.string x.fLog] 29 (0,0))
 hx:x.good w w.heap.size
 ok:x.pure.ok=true
 hw:Arr ZY 1 w w.heap.size Aw nw ws
 hn:Arr ZB 1 w w.heap.size An m N
 nw:nw<=1048577
 mm:m<=1048576
 mc:m<=cn
 wsz:∀s∈ws,s.size<=maxLen
 nb:∀z∈N,-1000000000000000000<=z/\z<=1000000000000000000
section
variable {w w':World}{g:Nat}{x:DeskV}{Aw:Option Addr}{nw cw:Nat}{ws:List ByteArray}{An:Option Addr}{m cn:Nat}{N:List Int}
theorem AskIn.below (h:AskIn w g x Aw nw cw ws An m cn N)(hb:Below w.heap.size w w'):AskIn w' g x Aw nw cw ws An m cn N :=
 ⟨h.hG.below hb,Ze h.hK hb,h.hx.go hb,h.ok,h.hw.go hb,h.hn.go hb,h.nw,h.mm,h.mc,h.wsz,h.nb⟩
theorem AskIn.parts (h:AskIn w g x Aw nw cw ws An m cn N):strokeOk x.fStroke=true/\inB x.fStakes 3 60=true/\ZD x.kinds=true/\ZE x.heaps=true/\ZI x.fLog=0:=by
 have:=h.ok;simp only[DeskM.ok,DeskV.pure,Bool.and_eq_true] at this;exact⟨this.1.1.1.1,this.1.1.1.2,this.1.1.2,this.1.2,of_decide_eq_true this.2⟩
end
theorem Zfp {w:World}{g:Nat}{x:DeskV}{Aw:Option Addr}{nw cw:Nat}{ws:List ByteArray}{An:Option Addr}{m cn:Nat}{N:List Int}(h:AskIn w g x Aw nw cw ws An m cn N)(hw0:ws[0]?=some Cmd.cRound.word)(h0:0<nw)(hm:0<m) :
  Calls Tryz.prog 80 #[.pointer (some ⟨g,0,none⟩),.slice Aw nw cw,.slice An m cn] w λe w'=>e = .returned (.tuple #[.string (mAsk x.pure .cRound ws N).1,.int .i64 (mAsk x.pure .cRound ws N).2])/\Below w.heap.size w w':=by
 obtain⟨p1,p2,p3,p4,p5⟩:=h.parts;obtain⟨q,hq⟩:∃q:Nat,x.fStakes=(q:Int):=⟨x.fStakes.toNat,by have:=Zj.1 p2;omega⟩;have hqn:x.fStakes.toNat=q:=by omega
 rw[hq] at p2;have hqb:=Zj.1 p2;obtain⟨bw,ow,y0,hAw,hbw,hy0,cw0⟩:=h.hw.str h0;subst hAw;rw[hw0] at hy0;have hy00:y0=Cmd.cRound.word:=(Option.some.inj hy0).symm;subst hy00;simp only[Cmd.word,Nat.add_zero] at cw0;have hH:=Za h;have hdr:Below w.heap.size w w.drew:=Zb (Below.refl _ _) 1;have hH2:=Za (h.below hdr);have hDR:=Za hdr;obtain⟨bn0,on0,z0,hA0,hb0,hz0,cn0⟩:=h.hn.int (k:=0) hm;subst hA0;simp only[Nat.add_zero] at cn0;have hZ0:Hid (N.getD 0 0=z0):=Za (by rw[List.getD_eq_getElem?_getD,hz0];rfl);have hcell:Hid (∀W,Below w.heap.size w W→W.cell? ⟨g,0,none⟩=some (.string x.fStroke)/\W.cell? ⟨g,1,none⟩=some (.int .i64 (q:Int))/\W.cell? ⟨bn0,on0,none⟩=some (.int .i64 z0)):=Za (λW hb=>⟨(Zs (Ze hH.out.hK hb)).1,by rw[←hq];exact(Zs (Ze hH.out.hK hb)).2.1,(hb.cell (p:=⟨bn0,on0,none⟩) hb0).trans cn0⟩);have hM:Hid (mAsk x.pure .cRound ws N=(mRoundT x.fStroke q z0,mRoundC z0)):=Za (by unfold mAsk DeskV.pure;simp only;rw[hqn,hZ0.out]);have hi0:(0:Int)<(m:Int):=by omega
 have kw:=cw0;clear h hw0 hy0 hdr hz0;go_enter Tryz.func80,Tryz.ntmps80;go_wp2_with fail
 obtain⟨c0,c1,c2,c3,c4,cf⟩:=Zs hH2.out.hK;rw[hq] at c1;go_region_held3 (λw'=>w'.cell? ⟨g,0,none⟩=some (.string x.fStroke)/\w'.cell? ⟨g,1,none⟩=some (.int .i64 (q:Int))/\w'.cell? ⟨bn0,on0,none⟩=some (.int .i64 z0)) (first|exact hcell.out _ hB4.out|exact hcell.out _ hDR.out|go_keep) (first|(go_at_call 127;refine(Zfb x.fStroke q z0 _ p1 p2).mono ?_;rintro e w4 ⟨rfl,hb4⟩;have hB4:=Za (hDR.out.trans (hb4.mono hDR.out.size));clear hb4)|fail)
 go_wp2
 go_ret2
 exact⟨by rw[hM.out];rfl,hB4.out⟩
theorem Zhf {w:World}{g:Nat}{x:DeskV}{Aw:Option Addr}{nw cw:Nat}{ws:List ByteArray}{An:Option Addr}{m cn:Nat}{N:List Int}(h:AskIn w g x Aw nw cw ws An m cn N)(hw0:ws[0]?=some Cmd.cWord.word)(h0:0<nw)(hm:0<m)(h1:1<nw) :
  Calls Tryz.prog 80 #[.pointer (some ⟨g,0,none⟩),.slice Aw nw cw,.slice An m cn] w λe w'=>e = .returned (.tuple #[.string (mAsk x.pure .cWord ws N).1,.int .i64 (mAsk x.pure .cWord ws N).2])/\Below w.heap.size w w':=by
 obtain⟨p1,p2,p3,p4,p5⟩:=h.parts;obtain⟨q,hq⟩:∃q:Nat,x.fStakes=(q:Int):=⟨x.fStakes.toNat,by have:=Zj.1 p2;omega⟩;have hqn:x.fStakes.toNat=q:=by omega
 rw[hq] at p2;have hqb:=Zj.1 p2;obtain⟨bw,ow,y0,hAw,hbw,hy0,cw0⟩:=h.hw.str h0;subst hAw;rw[hw0] at hy0;have hy00:y0=Cmd.cWord.word:=(Option.some.inj hy0).symm;subst hy00;simp only[Cmd.word,Nat.add_zero] at cw0;have hH:=Za h;have hdr:Below w.heap.size w w.drew:=Zb (Below.refl _ _) 1;have hH2:=Za (h.below hdr);have hDR:=Za hdr;obtain⟨bn0,on0,z0,hA0,hb0,hz0,cn0⟩:=h.hn.int (k:=0) hm;subst hA0;simp only[Nat.add_zero] at cn0;have hZ0:Hid (N.getD 0 0=z0):=Za (by rw[List.getD_eq_getElem?_getD,hz0];rfl);obtain⟨bw1,ow1,y1,hAw1,hbw1,hy1,cw1⟩:=h.hw.str (k:=1) h1;cases hAw1
 have hY1:Hid (ws.getD 1 ⟨#[]⟩=y1):=Za (by rw[List.getD_eq_getElem?_getD,hy1];rfl);have hy1s:=h.wsz y1 (List.mem_of_getElem? hy1);have hi1:(1:Int)<(nw:Int):=by omega
 have hcell:Hid (∀W,Below w.heap.size w W→W.cell? ⟨g,1,none⟩=some (.int .i64 (q:Int))/\W.cell? ⟨bn0,on0,none⟩=some (.int .i64 z0)/\W.cell? ⟨bw,ow+1,none⟩=some (.string y1)):=Za (λW hb=>⟨by rw[←hq];exact(Zs (Ze hH.out.hK hb)).2.1,(hb.cell (p:=⟨bn0,on0,none⟩) hb0).trans cn0,(hb.cell (p:=⟨bw,ow+1,none⟩) hbw).trans cw1⟩);have hM:Hid (mAsk x.pure .cWord ws N=(mRowT y1 q z0,mRowC y1 z0)):=Za (by unfold mAsk DeskV.pure;simp only;rw[hqn,hZ0.out,hY1.out]);have hi0:(0:Int)<(m:Int):=by omega
 clear h hw0 hy0 hdr hz0 hy1 cw1;go_enter Tryz.func80,Tryz.ntmps80;go_wp2_with fail
 obtain⟨c0,c1,c2,c3,c4,cf⟩:=Zs hH2.out.hK;rw[hq] at c1;go_region_held3 (λw'=>w'.cell? ⟨g,1,none⟩=some (.int .i64 (q:Int))/\w'.cell? ⟨bn0,on0,none⟩=some (.int .i64 z0)/\w'.cell? ⟨bw,ow+1,none⟩=some (.string y1)) (first|exact hcell.out _ hB4.out|exact hcell.out _ hDR.out|go_keep) (first|(go_at_call 128;refine(Zir y1 q z0 _ hy1s p2).mono ?_;rintro e w4 ⟨rfl,hb4⟩;have hB4:=Za (hDR.out.trans (hb4.mono hDR.out.size));clear hb4)|fail)
 go_wp2
 go_ret2
 exact⟨by rw[hM.out];rfl,hB4.out⟩
theorem Zfo {w:World}{g:Nat}{x:DeskV}{Aw:Option Addr}{nw cw:Nat}{ws:List ByteArray}{An:Option Addr}{m cn:Nat}{N:List Int}(h:AskIn w g x Aw nw cw ws An m cn N)(hw0:ws[0]?=some Cmd.cSound.word)(h0:0<nw)(hm:0<m) :
  Calls Tryz.prog 80 #[.pointer (some ⟨g,0,none⟩),.slice Aw nw cw,.slice An m cn] w λe w'=>e = .returned (.tuple #[.string (mAsk x.pure .cSound ws N).1,.int .i64 (mAsk x.pure .cSound ws N).2])/\Below w.heap.size w w':=by
 obtain⟨p1,p2,p3,p4,p5⟩:=h.parts;obtain⟨q,hq⟩:∃q:Nat,x.fStakes=(q:Int):=⟨x.fStakes.toNat,by have:=Zj.1 p2;omega⟩;have hqn:x.fStakes.toNat=q:=by omega
 rw[hq] at p2;have hqb:=Zj.1 p2;obtain⟨bw,ow,y0,hAw,hbw,hy0,cw0⟩:=h.hw.str h0;subst hAw;rw[hw0] at hy0;have hy00:y0=Cmd.cSound.word:=(Option.some.inj hy0).symm;subst hy00;simp only[Cmd.word,Nat.add_zero] at cw0;have hH:=Za h;have hdr:Below w.heap.size w w.drew:=Zb (Below.refl _ _) 1;have hH2:=Za (h.below hdr);have hDR:=Za hdr;obtain⟨bn0,on0,z0,hA0,hb0,hz0,cn0⟩:=h.hn.int (k:=0) hm;subst hA0;simp only[Nat.add_zero] at cn0;have hZ0:Hid (N.getD 0 0=z0):=Za (by rw[List.getD_eq_getElem?_getD,hz0];rfl);have hcell:Hid (∀W,Below w.heap.size w W→W.cell? ⟨g,0,none⟩=some (.string x.fStroke)/\W.cell? ⟨g,1,none⟩=some (.int .i64 (q:Int))/\W.cell? ⟨bn0,on0,none⟩=some (.int .i64 z0)):=Za (λW hb=>⟨(Zs (Ze hH.out.hK hb)).1,by rw[←hq];exact(Zs (Ze hH.out.hK hb)).2.1,(hb.cell (p:=⟨bn0,on0,none⟩) hb0).trans cn0⟩);have hi0:(0:Int)<(m:Int):=by omega
 cases hs:mSound x.fStroke q z0
 ·have hM:Hid (mAsk x.pure .cSound ws N=(⟨#[110,111]⟩,mSoundC z0)):=Za (by unfold mAsk DeskV.pure;simp only;rw[hqn,hZ0.out,hs];rfl)
  clear h hw0 hy0 hdr hz0;go_enter Tryz.func80,Tryz.ntmps80;go_wp2_with fail
  obtain⟨c0,c1,c2,c3,c4,cf⟩:=Zs hH2.out.hK;rw[hq] at c1;go_region_held3 (λw'=>w'.cell? ⟨g,0,none⟩=some (.string x.fStroke)/\w'.cell? ⟨g,1,none⟩=some (.int .i64 (q:Int))/\w'.cell? ⟨bn0,on0,none⟩=some (.int .i64 z0)) (first|exact hcell.out _ hB4.out|exact hcell.out _ hDR.out|go_keep) (first|(go_at_call 129;refine(UU x.fStroke q z0 _ p1 p2).mono ?_;rw[hs];rintro e w4 ⟨rfl,hb4⟩;have hB4:=Za (hDR.out.trans (hb4.mono hDR.out.size));clear hb4)|fail)
  go_wp2
  go_ret2
  exact⟨by rw[hM.out];rfl,hB4.out⟩
 ·have hM:Hid (mAsk x.pure .cSound ws N=(⟨#[121,101,115]⟩,mSoundC z0)):=Za (by unfold mAsk DeskV.pure;simp only;rw[hqn,hZ0.out,hs];rfl)
  clear h hw0 hy0 hdr hz0;go_enter Tryz.func80,Tryz.ntmps80;go_wp2_with fail
  obtain⟨c0,c1,c2,c3,c4,cf⟩:=Zs hH2.out.hK;rw[hq] at c1;go_region_held3 (λw'=>w'.cell? ⟨g,0,none⟩=some (.string x.fStroke)/\w'.cell? ⟨g,1,none⟩=some (.int .i64 (q:Int))/\w'.cell? ⟨bn0,on0,none⟩=some (.int .i64 z0)) (first|exact hcell.out _ hB4.out|exact hcell.out _ hDR.out|go_keep) (first|(go_at_call 129;refine(UU x.fStroke q z0 _ p1 p2).mono ?_;rw[hs];rintro e w4 ⟨rfl,hb4⟩;have hB4:=Za (hDR.out.trans (hb4.mono hDR.out.size));clear hb4)|fail)
  go_wp2
  go_ret2
  exact⟨by rw[hM.out];rfl,hB4.out⟩
theorem ZiA {w:World}{g:Nat}{x:DeskV}{Aw:Option Addr}{nw cw:Nat}{ws:List ByteArray}{An:Option Addr}{m cn:Nat}{N:List Int}(h:AskIn w g x Aw nw cw ws An m cn N)(hw0:ws[0]?=some Cmd.cAdd.word)(h0:0<nw)(hm:0<m) :
  Calls Tryz.prog 80 #[.pointer (some ⟨g,0,none⟩),.slice Aw nw cw,.slice An m cn] w λe w'=>e = .returned (.tuple #[.string (mAsk x.pure .cAdd ws N).1,.int .i64 (mAsk x.pure .cAdd ws N).2])/\Below w.heap.size w w':=by
 obtain⟨p1,p2,p3,p4,p5⟩:=h.parts;obtain⟨q,hq⟩:∃q:Nat,x.fStakes=(q:Int):=⟨x.fStakes.toNat,by have:=Zj.1 p2;omega⟩;have hqn:x.fStakes.toNat=q:=by omega
 rw[hq] at p2;have hqb:=Zj.1 p2;obtain⟨bw,ow,y0,hAw,hbw,hy0,cw0⟩:=h.hw.str h0;subst hAw;rw[hw0] at hy0;have hy00:y0=Cmd.cAdd.word:=(Option.some.inj hy0).symm;subst hy00;simp only[Cmd.word,Nat.add_zero] at cw0;have hH:=Za h;have hdr:Below w.heap.size w w.drew:=Zb (Below.refl _ _) 1;have hH2:=Za (h.below hdr);have hDR:=Za hdr;obtain⟨bn0,on0,z0,hA0,hb0,hz0,cn0⟩:=h.hn.int (k:=0) hm;subst hA0;simp only[Nat.add_zero] at cn0;have hZ0:Hid (N.getD 0 0=z0):=Za (by rw[List.getD_eq_getElem?_getD,hz0];rfl);have hcell:Hid (∀W,Below w.heap.size w W→W.cell? ⟨g,0,none⟩=some (.string x.fStroke)/\W.cell? ⟨g,1,none⟩=some (.int .i64 (q:Int))/\W.cell? ⟨bn0,on0,none⟩=some (.int .i64 z0)):=Za (λW hb=>⟨(Zs (Ze hH.out.hK hb)).1,by rw[←hq];exact(Zs (Ze hH.out.hK hb)).2.1,(hb.cell (p:=⟨bn0,on0,none⟩) hb0).trans cn0⟩);have hM:Hid (mAsk x.pure .cAdd ws N=(numLine [mStk x.fStroke q z0],mStkC x.fStroke q z0)):=Za (by unfold mAsk DeskV.pure;simp only;rw[hqn,hZ0.out]);have hi0:(0:Int)<(m:Int):=by omega
 clear h hw0 hy0 hdr hz0;go_enter Tryz.func80,Tryz.ntmps80;go_wp2_with fail
 obtain⟨c0,c1,c2,c3,c4,cf⟩:=Zs hH2.out.hK;rw[hq] at c1;go_region_held3 (λw'=>w'.cell? ⟨g,0,none⟩=some (.string x.fStroke)/\w'.cell? ⟨g,1,none⟩=some (.int .i64 (q:Int))/\w'.cell? ⟨bn0,on0,none⟩=some (.int .i64 z0)) (first|exact hcell.out _ hB4.out|exact hcell.out _ hDR.out|go_keep) (first|(go_at_call 130;refine(Zip x.fStroke q z0 _ p1 p2).mono ?_;rintro e w4 ⟨rfl,hb4⟩;have hB4:=Za (hDR.out.trans (hb4.mono hDR.out.size));clear hb4)|fail)
 go_wp2_with fail
 have hB5:=Za (hB4.out.trans (((Below.refl w4.heap.size w4).alloc (Nat.le_refl _) (.cells #[.int .i64 (mStk x.fStroke q z0)] 2)).mono hB4.out.size));have hA5:=Za (Qh (y:=mStk x.fStroke q z0) (heap_alloc_new w4 _));refine(Xr (some ⟨w4.heap.size,0,none⟩) 1 1 [mStk x.fStroke q z0] _ (by omega) (Zcf x.fStroke q z0) (hH.out.hG.below hB5.out) hA5.out).mono ?_;rintro e w6 ⟨rfl,hb6⟩;have hB6:=Za (hB5.out.trans (hb6.mono hB5.out.size));clear hb6;go_wp2
 go_ret2
 exact⟨by rw[hM.out];rfl,hB6.out⟩
theorem Zfq {w:World}{g:Nat}{x:DeskV}{Aw:Option Addr}{nw cw:Nat}{ws:List ByteArray}{An:Option Addr}{m cn:Nat}{N:List Int}(h:AskIn w g x Aw nw cw ws An m cn N)(hw0:ws[0]?=some Cmd.cJoins.word)(h0:0<nw)(hm:0<m) :
  Calls Tryz.prog 80 #[.pointer (some ⟨g,0,none⟩),.slice Aw nw cw,.slice An m cn] w λe w'=>e = .returned (.tuple #[.string (mAsk x.pure .cJoins ws N).1,.int .i64 (mAsk x.pure .cJoins ws N).2])/\Below w.heap.size w w':=by
 obtain⟨p1,p2,p3,p4,p5⟩:=h.parts;obtain⟨q,hq⟩:∃q:Nat,x.fStakes=(q:Int):=⟨x.fStakes.toNat,by have:=Zj.1 p2;omega⟩;have hqn:x.fStakes.toNat=q:=by omega
 rw[hq] at p2;have hqb:=Zj.1 p2;obtain⟨bw,ow,y0,hAw,hbw,hy0,cw0⟩:=h.hw.str h0;subst hAw;rw[hw0] at hy0;have hy00:y0=Cmd.cJoins.word:=(Option.some.inj hy0).symm;subst hy00;simp only[Cmd.word,Nat.add_zero] at cw0;have hH:=Za h;have hdr:Below w.heap.size w w.drew:=Zb (Below.refl _ _) 1;have hH2:=Za (h.below hdr);have hDR:=Za hdr;obtain⟨bn0,on0,z0,hA0,hb0,hz0,cn0⟩:=h.hn.int (k:=0) hm;subst hA0;simp only[Nat.add_zero] at cn0;have hZ0:Hid (N.getD 0 0=z0):=Za (by rw[List.getD_eq_getElem?_getD,hz0];rfl);have hcut:∀W,(Instr.slice 60 (.slice (some ⟨bn0,on0,none⟩) m cn) (some (.int .i64 1)) none none).run Tryz.prog W = .ok (.slice (cutA (some ⟨bn0,on0,none⟩) cn 1 1) (m-1) (cn-1)) W:=λW=>Y0 (P:=Tryz.prog) Tryz.underlying60 Zz (some ⟨bn0,on0,none⟩) m cn 1 (by omega) W
 have hAc:=Za (h.hn.cut (k:=1) (by omega) h.mc);obtain⟨A1,hA1⟩:∃A1,A1=cutA (some ⟨bn0,on0,none⟩) cn 1 1:=⟨_,rfl⟩;rw[←hA1] at hcut hAc;obtain⟨m1,hm1⟩:∃m1,m1=m-1:=⟨_,rfl⟩;rw[←hm1] at hcut hAc;obtain⟨c1n,hc1n⟩:∃c1,c1=cn-1:=⟨_,rfl⟩;rw[←hc1n] at hcut;have hm1b:m1<=1048576:=by have:=h.mm;omega
 obtain⟨TN,hTN⟩:∃TN,TN=N.drop 1:=⟨_,rfl⟩;rw[←hTN] at hAc;clear hA1 hm1 hc1n;have hcell:Hid (∀W,Below w.heap.size w W→W.cell? ⟨g,1,none⟩=some (.int .i64 (q:Int))/\W.cell? ⟨bn0,on0,none⟩=some (.int .i64 z0)):=Za (λW hb=>⟨by rw[←hq];exact(Zs (Ze hH.out.hK hb)).2.1,(hb.cell (p:=⟨bn0,on0,none⟩) hb0).trans cn0⟩);have hM:Hid (mAsk x.pure .cJoins ws N=(numLine (ordL (q:Int) z0 TN),ordC (q:Int) z0 TN)):=Za (by unfold mAsk DeskV.pure;simp only;rw[hq,hZ0.out,←hTN]);have hi0:(0:Int)<(m:Int):=by omega
 clear h hw0 hy0 hdr hz0 hTN;go_enter Tryz.func80,Tryz.ntmps80;go_wp2_with fail
 obtain⟨c0,c1,c2,c3,c4,cf⟩:=Zs hH2.out.hK;rw[hq] at c1;go_region_held3 (λw'=>w'.cell? ⟨g,1,none⟩=some (.int .i64 (q:Int))/\w'.cell? ⟨bn0,on0,none⟩=some (.int .i64 z0)) (first|exact hcell.out _ hB4.out|exact hcell.out _ hDR.out|go_keep) (first|(go_at_call 131;refine(Zff (q:Int) z0 A1 m1 c1n TN _ hm1b p2 ((hAc.out.go hDR.out))).mono ?_;rintro e w4 ⟨v4,rfl,hr4,hb4⟩;have hB4:=Za (hDR.out.trans (hb4.mono hDR.out.size));have hR4:=Za hr4;obtain⟨A4,c4,hv4,_⟩:=hr4.slice;subst hv4;clear hb4 hr4)|fail)
 go_wp2_with fail
 refine(Xr A4 _ c4 (ordL (q:Int) z0 TN) _ (ZcJ (q:Int) z0 TN) (ZcK (q:Int) z0 TN) (hH.out.hG.below hB4.out) (hR4.out.arr Zh)).mono ?_;rintro e w6 ⟨rfl,hb6⟩;have hB6:=Za (hB4.out.trans (hb6.mono hB4.out.size));clear hb6;go_wp2
 go_ret2
 exact⟨by rw[hM.out];rfl,hB6.out⟩
theorem Ziz {w:World}{g:Nat}{x:DeskV}{Aw:Option Addr}{nw cw:Nat}{ws:List ByteArray}{An:Option Addr}{m cn:Nat}{N:List Int}(h:AskIn w g x Aw nw cw ws An m cn N)(hw0:ws[0]?=some Cmd.cFew.word)(h0:0<nw)(hm:0<m) :
  Calls Tryz.prog 80 #[.pointer (some ⟨g,0,none⟩),.slice Aw nw cw,.slice An m cn] w λe w'=>e = .returned (.tuple #[.string (mAsk x.pure .cFew ws N).1,.int .i64 (mAsk x.pure .cFew ws N).2])/\Below w.heap.size w w':=by
 obtain⟨p1,p2,p3,p4,p5⟩:=h.parts;obtain⟨q,hq⟩:∃q:Nat,x.fStakes=(q:Int):=⟨x.fStakes.toNat,by have:=Zj.1 p2;omega⟩;have hqn:x.fStakes.toNat=q:=by omega
 rw[hq] at p2;have hqb:=Zj.1 p2;obtain⟨bw,ow,y0,hAw,hbw,hy0,cw0⟩:=h.hw.str h0;subst hAw;rw[hw0] at hy0;have hy00:y0=Cmd.cFew.word:=(Option.some.inj hy0).symm;subst hy00;simp only[Cmd.word,Nat.add_zero] at cw0;have hH:=Za h;have hdr:Below w.heap.size w w.drew:=Zb (Below.refl _ _) 1;have hH2:=Za (h.below hdr);have hDR:=Za hdr;obtain⟨bn0,on0,z0,hA0,hb0,hz0,cn0⟩:=h.hn.int (k:=0) hm;subst hA0;simp only[Nat.add_zero] at cn0;have hZ0:Hid (N.getD 0 0=z0):=Za (by rw[List.getD_eq_getElem?_getD,hz0];rfl);have hcell:Hid (∀W,Below w.heap.size w W→W.cell? ⟨g,2,none⟩=some (.slice x.A x.n x.c)/\W.cell? ⟨bn0,on0,none⟩=some (.int .i64 z0)):=Za (λW hb=>⟨(Zs (Ze hH.out.hK hb)).2.2.1,(hb.cell (p:=⟨bn0,on0,none⟩) hb0).trans cn0⟩);have hM:Hid (mAsk x.pure .cFew ws N=(numLine (fewL x.kinds z0),fewC x.kinds z0)):=Za (by unfold mAsk DeskV.pure;simp only;rw[hZ0.out]);have hi0:(0:Int)<(m:Int):=by omega
 clear h hw0 hy0 hdr hz0;go_enter Tryz.func80,Tryz.ntmps80;go_wp2_with fail
 obtain⟨c0,c1,c2,c3,c4,cf⟩:=Zs hH2.out.hK;rw[hq] at c1;go_region_held3 (λw'=>w'.cell? ⟨g,2,none⟩=some (.slice x.A x.n x.c)/\w'.cell? ⟨bn0,on0,none⟩=some (.int .i64 z0)) (first|exact hcell.out _ hB4.out|exact hcell.out _ hDR.out|go_keep) (first|(go_at_call 133;refine(Ziv x.A x.n x.c x.kinds z0 _ p3 hH2.out.hx.kinds).mono ?_;rintro e w4 ⟨v4,s4,rfl,hr4,hb4⟩;have hB4:=Za (hDR.out.trans (hb4.mono hDR.out.size));have hR4:=Za hr4;obtain⟨A4,c4,hv4,_⟩:=hr4.slice;subst hv4;clear hb4 hr4)|fail)
 go_wp2_with fail
 refine(Xr A4 _ c4 (fewL x.kinds z0) _ (Zc9 _ p3) (Zda _ p3) (hH.out.hG.below hB4.out) (hR4.out.arr Zh)).mono ?_;rintro e w6 ⟨rfl,hb6⟩;have hB6:=Za (hB4.out.trans (hb6.mono hB4.out.size));clear hb6;go_wp2
 go_ret2
 exact⟨by rw[hM.out];rfl,hB6.out⟩
theorem Zc7 {w:World}{g:Nat}{x:DeskV}{Aw:Option Addr}{nw cw:Nat}{ws:List ByteArray}{An:Option Addr}{m cn:Nat}{N:List Int}(h:AskIn w g x Aw nw cw ws An m cn N)(hw0:ws[0]?=some Cmd.cBroken.word)(h0:0<nw) :
  Calls Tryz.prog 80 #[.pointer (some ⟨g,0,none⟩),.slice Aw nw cw,.slice An m cn] w λe w'=>e = .returned (.tuple #[.string (mAsk x.pure .cBroken ws N).1,.int .i64 (mAsk x.pure .cBroken ws N).2])/\Below w.heap.size w w':=by
 obtain⟨p1,p2,p3,p4,p5⟩:=h.parts;obtain⟨q,hq⟩:∃q:Nat,x.fStakes=(q:Int):=⟨x.fStakes.toNat,by have:=Zj.1 p2;omega⟩;have hqn:x.fStakes.toNat=q:=by omega
 rw[hq] at p2;have hqb:=Zj.1 p2;obtain⟨bw,ow,y0,hAw,hbw,hy0,cw0⟩:=h.hw.str h0;subst hAw;rw[hw0] at hy0;have hy00:y0=Cmd.cBroken.word:=(Option.some.inj hy0).symm;subst hy00;simp only[Cmd.word,Nat.add_zero] at cw0;have hH:=Za h;have hdr:Below w.heap.size w w.drew:=Zb (Below.refl _ _) 1;have hH2:=Za (h.below hdr);have hDR:=Za hdr;have hM:Hid (mAsk x.pure .cBroken ws N=(numLine (newL (q:Int) N),newC (q:Int) N)):=Za (by unfold mAsk DeskV.pure;simp only;rw[hq]);obtain⟨c0,c1,c2,c3,c4,cf⟩:=Zs h.hK;rw[hq] at c1;clear h hw0 hy0 hdr;go_enter Tryz.func80,Tryz.ntmps80;go_wp2_with fail
 refine(ZjU (q:Int) An m cn N _ hH.out.mm p2 hH.out.hn).mono ?_;rintro e w4 ⟨v4,rfl,hr4,hb4⟩;have hB4:=Za hb4;have hR4:=Za hr4;obtain⟨A4,c4,hv4,_⟩:=hr4.slice;subst hv4;clear hb4 hr4 hDR hH2;go_wp2_with fail
 refine(Xr A4 _ c4 (newL (q:Int) N) _ (ZcM N (by omega)) (ZcN N (by omega)) (hH.out.hG.below hB4.out) (hR4.out.arr Zh)).mono ?_;rintro e w6 ⟨rfl,hb6⟩;have hB6:=Za (hB4.out.trans (hb6.mono hB4.out.size));clear hb6;go_wp2
 go_ret2
 exact⟨by rw[hM.out];rfl,hB6.out⟩
section
open Go.Shelf
attribute [local go_sem] Oper.semAt_some
def KpC (n0 bs bn:Nat)(W W':World):Prop:=Below n0 W W'/\W'.heap[bs]?=W.heap[bs]?/\W'.heap[bn]?=W.heap[bn]?
theorem KpC.trans {n0 bs bn:Nat}{A B C:World}(h:KpC n0 bs bn A B)(k:KpC n0 bs bn B C):KpC n0 bs bn A C:=⟨h.1.trans k.1,k.2.1.trans h.2.1,k.2.2.trans h.2.2⟩
theorem KpC.put {n0 bs bn:Nat}{w:World}(h0:n0<=w.heap.size)(h1:bs<w.heap.size)(h2:bn<w.heap.size)(W:World)(l:Nat)(o o':Obj)(hl:w.heap.size<=l)(h:W.heap[l]?=some o)(hc:o.isCells=false)(hw:o.isWalk=false):KpC n0 bs bn W (W.putObj l o') :=
 ⟨belowK_b h0 W l o o' hl h hc hw,World.putObj_heap_other (by omega),World.putObj_heap_other (by omega)⟩
theorem Zfm (A:Option Addr)(n c:Nat)(w:World) :
  Calls Tryz.prog 123 #[.slice A n c,.int .i64 2] w λe w'=>e = .returned (.func (.func 182) #[] #[.pointer (some ⟨w.heap.size,0,none⟩),.pointer (some ⟨w.heap.size+1,0,none⟩)])/\w'=(w.alloc (.cells #[.slice A n c] 60)).alloc (.cells #[.int .i64 2] 3):=by
 go_enter Tryz.func123,Tryz.ntmps123;go_wp2
 go_ret;exact⟨rfl,rfl⟩
def upF (m k:Nat):List (Fin m):=(List.finRange m).take k
theorem ZhM {m k:Nat}(h:k<m):upF m (k+1)=upF m k++[⟨k,h⟩]:=by
 unfold upF;refine Zo ?_;rw[List.getElem?_eq_getElem (by simpa using h)];simp
theorem Zji {m k:Nat}(h:k<=m):(upF m k).length=k:=by unfold upF;simp;omega
theorem Zjj (m:Nat):upF m m=List.finRange m:=by unfold upF;exact List.take_of_length_le (by simp)
theorem Zfn (F:Fence)(n:Nat)(hf:F.fn 182)(hro:F.round=none)(hn:1<=n)(l bs bn n0 b o m cap:Nat)(A:Option Addr)(hA:0<m→A=some ⟨b,o,none⟩)(hm:2*m<=cap)(hcap:cap<=9223372036854775807)(J Jx:List (Fin m)→World→Prop)
  (hY:∀pre x W,J pre W→pre.length<m→YieldAt F (n-1) Tryz.prog l #[.slice (some ⟨b,o+2*x.1,none⟩) 2 2] W λe W' =>
   (e = .returned (.bool true)/\J (pre++[x]) W'/\KpC n0 bs bn W W')\/(e = .returned (.bool false)/\Jx (pre++[x]) W'))
  (hJd:∀pre W,J pre W→J pre W.drew) (W:World) (hs:W.heap[bs]?=some (.cells #[.slice A (2*m) cap] 60 (0,0))) (hb2:W.heap[bn]?=some (.cells #[.int .i64 2] 3 (0,0))) (h0:J [] W) :
  CallsIn F n Tryz.prog 182 #[.func (.yield l) #[] #[],.pointer (some ⟨bs,0,none⟩),.pointer (some ⟨bn,0,none⟩)] W λe W'=>(∃v,e = .returned v) /\
   ((∃ys,ys=List.finRange m/\J ys W')\/(∃pre,True/\Jx pre W')):=by
 have hs3:∀(k:Nat) W,k<m→(Instr.slice 60 (.slice (some ⟨b,o,none⟩) (2*m) cap) (some (.int .i64 ((2*k:Nat):Int))) none none).run Tryz.prog W = .ok (.slice (some ⟨b,o+2*k,none⟩) (2*m-2*k) (cap-2*k)) W:=by
  intro k W hk;rw[Y0 (P:=Tryz.prog) Tryz.underlying60 Zz (some ⟨b,o,none⟩) (2*m) cap (2*k) (by omega) W];unfold cutA;rw[if_neg (by omega),Option.map_some,Addr.add_lit,Nat.mul_one]
 have hs4:∀(k:Nat) W,k<m→(Instr.slice 60 (.slice (some ⟨b,o,none⟩) (2*m) cap) (some (.int .i64 (2*(k:Int)))) (some (.int .i64 (2*(k:Int)+2))) (some (.int .i64 (2*(k:Int)+2)))).run Tryz.prog W = .ok (.slice (some ⟨b,o+2*k,none⟩) 2 2) W:=by
  intro k W hk;obtain⟨i,hi,_,hz,_⟩:=info_parts Zz;have he:Tryz.prog.elem 60=2:=by simp[Program.elem,Tryz.underlying60]
  rw[run_slice_lhm W 60 _ _ cap (by rw[he];exact Tryz.underlying60) .i64 .i64 .i64 _ _ _ (by omega) (by omega) (by omega) (by omega),he];simp[sizeOf,typeInfo,hi,Result.andThen,sliced,hz];rw[if_neg (by omega),Addr.add_lit];exact⟨by rw[show(2*(k:Int)).toNat=2*k by omega],by omega⟩
 refine callsIn_of_wp Tryz.func182 rfl hf ?_ hro;simp only[Tryz.ntmps182,List.size_toArray,List.length_cons,List.length_nil,Nat.reduceAdd,Nat.reduceSub,Array.replicate_succ,Array.replicate_zero,List.push_toArray,List.append_toArray,List.nil_append,List.cons_append]
 gi_wp2
 gi_loopw [4] (λi wr=>∃k:Nat,k<=m/\i = .int .i64 ((2*k:Nat):Int)/\J (upF m k) wr/\KpC n0 bs bn W wr)
  (λi _=>2*m-(intOf i).toNat)
 case atStart=>exact⟨0,Nat.zero_le _,rfl,h0,Below.refl _ _,rfl,rfl⟩
 case round =>
  obtain⟨k,hk,rfl,hJs,hnx⟩:=hrel;obtain⟨cs,_⟩:=Yf (hnx.2.1.trans hs);obtain⟨cn,_⟩:=Yf (hnx.2.2.trans hb2);by_cases hlt:k<m
  ·have hA1:=hA (by omega)
   subst hA1;obtain⟨fn,tmps,assign,body,hy,hR⟩:=hY _ ⟨k,hlt⟩ wr.drew (hJd _ _ hJs) (by rw[Zji hk];exact hlt);have hs3k:=λW=>hs3 k W hlt
   have hs4k:=λW=>hs4 k W hlt
   have hlt2:((2*k:Nat):Int)<((2*m:Nat):Int):=by omega
   have hmin:¬(((2*m-2*k:Nat):Int)<2):=by omega
   have hmin2:min 2 (((2*m-2*k:Nat):Int))=2:=by omega
   have hn3:KpC n0 bs bn W wr.drew:=hnx.trans ⟨Zb (Below.refl _ _) 1,rfl,rfl⟩
   gi_wp2
   gi_region
   all_goals (
    gi_wp2
    refine hR.mono ?_;rintro e W3 (⟨rfl,hJ3,hk3⟩|⟨rfl,hJx3⟩)
    ·have cn3:=(Yf ((hn3.trans hk3).2.2.trans hb2)).1
     gi_wp2
     go_roundw
     case rel=>exact⟨k+1,by omega,by go_num,by rw[ZhM hlt];exact hJ3,hn3.trans hk3⟩
     case measure=>simp[intOf];omega
    ·gi_wp2
     refine bodyPost_ret (results_none rfl _ _ _) rfl ?_;exact⟨⟨_,rfl⟩,.inr ⟨_,trivial,hJx3⟩⟩)
  ·obtain rfl:k=m:=by omega
   gi_wp2
   go_end0
   exact⟨⟨_,rfl⟩,.inl ⟨_,Zjj _,hJs⟩⟩
theorem ZbS (n bs bn n0 b o m cap:Nat)(hn:1<=n)(A:Option Addr)(hA:0<m→A=some ⟨b,o,none⟩)(hm:2*m<=cap)(hcap:cap<=9223372036854775807)(w:World)(hbs:bs<w.heap.size)(hbn:bn<w.heap.size)
  (hs:w.heap[bs]?=some (.cells #[.slice A (2*m) cap] 60 (0,0))) (hb2:w.heap[bn]?=some (.cells #[.int .i64 2] 3 (0,0))) :
  SeqStopsK Fence.wide n Tryz.prog 182 #[.pointer (some ⟨bs,0,none⟩),.pointer (some ⟨bn,0,none⟩)] (λx:Fin m=>#[.slice (some ⟨b,o+2*x.1,none⟩) 2 2]) (KpC n0 bs bn) (λys=>ys=List.finRange m) (λ_=>True) m w:=λl J Jx W hW hJ hJx hY h0 =>
 Zfn Fence.wide n trivial rfl hn l bs bn n0 b o m cap A hA hm hcap J Jx hY (λpre W' h=>hJ pre W' W'.drew none h (ZeT (World.grownBy.refl _ _) 1) (λr e=>by cases e)) W ((hW.block _ hbs).trans hs) ((hW.block _ hbn).trans hb2) h0
end
end Go.Proofs.YtfpaejlipaainaaGreatDoor
