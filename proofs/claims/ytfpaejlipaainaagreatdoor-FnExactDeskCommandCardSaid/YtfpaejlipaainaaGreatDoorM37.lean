/- Texts that belong together, joined: contracts and plain laws. No statement is proved here. -/
import Derived.Test.YtfpaejlipaainaaGreatDoorM36
set_option maxRecDepth 100000
set_option maxHeartbeats 4000000
namespace Go.Proofs.YtfpaejlipaainaaGreatDoor
open Go.ChangeShapes Go.WideShapes Go.ChangeAt Go.RowKit Go.Deep
section
variable {R:RowS}
theorem QH {P:Program}{co:Code}{K:Exit→Act→World→Prop}{a:Act}{W:World}{φ:World→Prop}(h:φ W)(k:∀W1,φ W1→Code.wp P co K a W1):Code.wp P co K a W:=k W h
def HS (x:DeskV):Prop:=x.n'<=x.c'/\((∃b o,x.A'=some ⟨b,o,none⟩)\/(x.A'=none/\x.n'=0/\x.c'=0))
def Did (R:RowS)(w:World)(base g:Nat)(r:DeskM × List ByteArray)(O:List ByteArray)(vn vt:Value)(w':World):Prop:=∃x vo,SG R w' base g x (O++r.2) vo vn vt/\x.pure=r.1/\HS x/\Below base w w'
section
variable {w w':World}{base g:Nat}{x:DeskV}{O:List ByteArray}{vo vn vt:Value}{t:ByteArray}{L:List ByteArray}
theorem Said.didL (h:Said R w base g x (O++L) vn vt w')(hs:HS x):Did R w base g (x.pure,L) O vn vt w':=let ⟨vo,h1,h2⟩:=h;⟨x,vo,h1,rfl,hs,h2⟩
theorem SG.outset (h:SG R w base g x O vo vn vt)(i:Nat)(u:Value):Own ZY 9 1 (w.setCell ⟨g,i,none⟩ u) base vo O.length O:=h.out.kept (Zl w g i u) (.inr (Z0 h.out h.box (by decide)))
theorem SG.prset (h:SG R w base g x O vo vn vt)(i:Nat)(u:Value):Own ZY 9 1 (w.setCell ⟨g,i,none⟩ u) base R.v R.n R.l:=h.pr.kept (Zl w g i u) (.inr (Z0 h.pr h.box (by decide)))
theorem SG.set0 (h:SG R w base g x O vo vn vt)(r:ByteArray):SG R (w.setCell ⟨g,0,none⟩ (.string r)) base g { x with fStroke:=r } O vo vn vt :=
 ⟨Zk h.box 0 _,⟨h.dv.k.set h.box (by decide),h.dv.h.set h.box (by decide),h.dv.nk,h.dv.nh,h.dv.fit⟩,h.outset 0 _,h.hg,h.prset 0 _,h.ap⟩
theorem SG.set1 (h:SG R w base g x O vo vn vt)(r:Int):SG R (w.setCell ⟨g,1,none⟩ (.int .i64 r)) base g { x with fStakes:=r } O vo vn vt :=
 ⟨Zk h.box 1 _,⟨h.dv.k.set h.box (by decide),h.dv.h.set h.box (by decide),h.dv.nk,h.dv.nh,h.dv.fit⟩,h.outset 1 _,h.hg,h.prset 1 _,h.ap⟩
theorem SG.set4 (h:SG R w base g x O vo vn vt)(r:ByteArray):SG R (w.setCell ⟨g,4,none⟩ (.string r)) base g { x with fLog:=r } O vo vn vt :=
 ⟨Zk h.box 4 _,⟨h.dv.k.set h.box (by decide),h.dv.h.set h.box (by decide),h.dv.nk,h.dv.nh,h.dv.fit⟩,h.outset 4 _,h.hg,h.prset 4 _,h.ap⟩
theorem SG.set2 (h:SG R w base g x O vo vn vt){A:Option Addr}{n c:Nat}{l:List Kind}(hr:Res Kind.cells 103 2 w base (.slice A n c) n l)(hn:n<=1048576):SG R (w.setCell ⟨g,2,none⟩ (.slice A n c)) base g { x with A:=A,n:=n,c:=c,kinds:=l } O vo vn vt :=
 ⟨Zk h.box 2 _,⟨hr.set h.box (by decide),h.dv.h.set h.box (by decide),hn,h.dv.nh,h.dv.fit⟩,h.outset 2 _,h.hg,h.prset 2 _,h.ap⟩
theorem SG.set3 (h:SG R w base g x O vo vn vt){A:Option Addr}{n c:Nat}{l:List Heap}(hr:Res Heap.cells 106 3 w base (.slice A n c) n l)(hn:n<=1048576)(hf:∀h∈l,h.fits):SG R (w.setCell ⟨g,3,none⟩ (.slice A n c)) base g { x with A':=A,n':=n,c':=c,heaps:=l } O vo vn vt :=
 ⟨Zk h.box 3 _,⟨h.dv.k.set h.box (by decide),hr.set h.box (by decide),h.dv.nk,hn,hf⟩,h.outset 3 _,h.hg,h.prset 3 _,h.ap⟩
theorem Said.then {w1:World}{O':List ByteArray}(hB:Below base w w1)(k:Said R w1 base g x O' vn vt w'):Said R w base g x O' vn vt w':=by
 obtain⟨v,h1,h2⟩:=k;exact⟨v,h1,hB.trans h2⟩
end
theorem Zcu (w:World)(base g:Nat)(x:DeskV)(O:List ByteArray)(vo vn vt:Value)(N:List Int)(T:List ByteArray)(h:SX R w base g x O vo vn vt N T)(hok:x.pure.ok=true)(hO:O.length<=1000000)(hh:HS x)(ht:0<T.length) :
  Calls Tryz.prog 105 #[.pointer (some ⟨g,0,none⟩)] w λe w'=>e = .returned (.tuple #[])/\Did R w base g (if strokeOk (T.getD 0 ⟨#[]⟩)=true then ({ x.pure with st:=T.getD 0 ⟨#[]⟩ },[({ x.pure with st:=T.getD 0 ⟨#[]⟩ }:DeskM).text]) else (x.pure,[errB 1])) O vn vt w':=by
 obtain⟨p1,p2,p3,p4,p5⟩:=DeskM.ok_parts.1 hok;obtain⟨gt,ct,y0,rfl,hct,hgt,hy0,cy0⟩:=h.txt (k:=0) ht;have hY0:Hid (T.getD 0 ⟨#[]⟩=y0):=Za (by rw[List.getD_eq_getElem?_getD,hy0];rfl);have hit:(0:Int)<(T.length:Int):=by omega
 have ysz:=h.tz y0 (List.mem_of_getElem? hy0);obtain⟨Z,hZ⟩:∃Z,Z=(if strokeOk (T.getD 0 ⟨#[]⟩)=true then ({ x.pure with st:=T.getD 0 ⟨#[]⟩ },[({ x.pure with st:=T.getD 0 ⟨#[]⟩ }:DeskM).text]) else (x.pure,[errB 1])):=⟨_,rfl⟩;rw[←hZ];have hM:=Za (hZ.trans (show(if strokeOk (T.getD 0 ⟨#[]⟩)=true then ({ x.pure with st:=T.getD 0 ⟨#[]⟩ },[({ x.pure with st:=T.getD 0 ⟨#[]⟩ }:DeskM).text]) else (x.pure,[errB 1]))=if strokeOk y0=true then ({ x.pure with st:=y0 },[({ x.pure with st:=y0 }:DeskM).text]) else (x.pure,[errB 1]) from by rw[hY0.out]));clear hZ;have hS:=Za h;have hHS:=Za hh;have hym:y0.size<=maxLen:=by unfold maxLen;omega
 obtain⟨c0,c1,c2,c3,c4,c5,c6,c7,cf⟩:=ZL h.sg.box;cases hb:strokeOk y0
 ·have hM2:Hid (Z=(x.pure,[errB 1])):=Za (by rw[hM.out,hb];rfl)
  clear h hok hh hy0 p1 p2 p3 p4 p5;go_enter Tryz.func105,Tryz.ntmps105;go_wp2_with fail
  refine(Yv y0 _ hym).mono ?_;rw[hb];rintro e w1 ⟨rfl,rfl⟩;go_wp2_with fail
  refine(YK _ base g x O vo _ _ 1 hS.out.sg (by omega) (by omega) (by omega)).mono ?_;rintro e w2 ⟨rfl,hs⟩;have hR:=Za hs;clear hs;go_wp2
  refine bodyPost_ret (results_none rfl _ _ _) rfl ?_;exact⟨rfl,by rw[hM2.out];exact hR.out.didL hHS.out⟩
 ·obtain⟨x2,hx2⟩:∃x2:DeskV,x2={ x with fStroke:=y0 }:=⟨_,rfl⟩
  have hM2:Hid (Z=(x2.pure,[x2.pure.text])):=Za (by rw[hM.out,hb,hx2];rfl);have hok2:x2.pure.ok=true:=by rw[hx2];exact DeskM.ok_parts.2 ⟨hb,p2,p3,p4,p5⟩
  have hh2:Hid (HS x2):=Za (by rw[hx2];exact hHS.out);have hst:Hid (∀W,SG R W base g x O vo _ _→SG R _ base g x2 O vo _ _):=Za (λW (h:SG R W base g x O vo vn (.slice (some ⟨gt,0,none⟩) T.length ct))=>(by rw[hx2];exact h.set0 y0:SG R (W.setCell ⟨g,0,none⟩ (.string y0)) base g x2 O vo vn (.slice (some ⟨gt,0,none⟩) T.length ct)));clear h hok hh hy0 hx2 p1 p2 p3 p4 p5;go_enter Tryz.func105,Tryz.ntmps105;go_wp2_with fail
  refine(Yv y0 _ hym).mono ?_;rw[hb];rintro e w1 ⟨rfl,rfl⟩;go_upto_region 3 with fail
  refine QH (φ:=λW=>SG R W base g x2 O vo vn (.slice (some ⟨gt,0,none⟩) T.length ct)/\Below base w W) ⟨hst.out _ hS.out.sg,(Below.refl base w).setCell (p:=⟨g,0,none⟩) hS.out.sg.hg _⟩ ?_;rintro W1 ⟨n0,n1⟩;have hS1:=Za n0;have hB1:=Za n1;clear n0 n1 c0 c1 c2 c3 c4 c5 c6 c7 cf;go_wp2_with fail
  refine(X7 _ base g x2 O vo _ _ 0 hS1.out (by omega) (by omega) (by omega) hok2).mono ?_;rintro e w2 ⟨rfl,hs⟩;have hR:=Za (Said.then hB1.out hs);clear hs;go_wp2
  go_end0
  exact⟨rfl,by rw[hM2.out];exact hR.out.didL hh2.out⟩
theorem Zcv (w:World)(base g:Nat)(x:DeskV)(O:List ByteArray)(vo vn vt:Value)(N:List Int)(T:List ByteArray)(h:SX R w base g x O vo vn vt N T)(hok:x.pure.ok=true)(hO:O.length<=1000000)(hh:HS x)(h0:0<N.length) :
  Calls Tryz.prog 104 #[.pointer (some ⟨g,0,none⟩)] w λe w'=>e = .returned (.tuple #[])/\Did R w base g (if inB (N.getD 0 0) 3 60=true then ({ x.pure with sk:=N.getD 0 0 },[({ x.pure with sk:=N.getD 0 0 }:DeskM).text]) else (x.pure,[errB 1])) O vn vt w':=by
 obtain⟨p1,p2,p3,p4,p5⟩:=DeskM.ok_parts.1 hok;obtain⟨gn,cn,z0,rfl,hcn,hgn,hz0,cz0⟩:=h.num (k:=0) h0;have hZ0:Hid (N.getD 0 0=z0):=Za (by rw[List.getD_eq_getElem?_getD,hz0];rfl);have hi0:(0:Int)<(N.length:Int):=by omega
 have zb:=h.nb z0 (List.mem_of_getElem? hz0);obtain⟨Z,hZ⟩:∃Z,Z=(if inB (N.getD 0 0) 3 60=true then ({ x.pure with sk:=N.getD 0 0 },[({ x.pure with sk:=N.getD 0 0 }:DeskM).text]) else (x.pure,[errB 1])):=⟨_,rfl⟩;rw[←hZ];have hM:=Za (hZ.trans (show(if inB (N.getD 0 0) 3 60=true then ({ x.pure with sk:=N.getD 0 0 },[({ x.pure with sk:=N.getD 0 0 }:DeskM).text]) else (x.pure,[errB 1]))=if inB z0 3 60=true then ({ x.pure with sk:=z0 },[({ x.pure with sk:=z0 }:DeskM).text]) else (x.pure,[errB 1]) from by rw[hZ0.out]));clear hZ;have hS:=Za h;have hHS:=Za hh;obtain⟨c0,c1,c2,c3,c4,c5,c6,c7,cf⟩:=ZL h.sg.box;cases hb:inB z0 3 60
 ·have hM2:Hid (Z=(x.pure,[errB 1])):=Za (by rw[hM.out,hb];rfl)
  clear h hok hh hz0 p1 p2 p3 p4 p5;go_enter Tryz.func104,Tryz.ntmps104;go_wp2_with fail
  refine(Z8 z0 _).mono ?_;rw[hb];rintro e w1 ⟨rfl,rfl⟩;go_wp2_with fail
  refine(YK _ base g x O vo _ _ 1 hS.out.sg (by omega) (by omega) (by omega)).mono ?_;rintro e w2 ⟨rfl,hs⟩;have hR:=Za hs;clear hs;go_wp2
  refine bodyPost_ret (results_none rfl _ _ _) rfl ?_;exact⟨rfl,by rw[hM2.out];exact hR.out.didL hHS.out⟩
 ·obtain⟨x2,hx2⟩:∃x2:DeskV,x2={ x with fStakes:=z0 }:=⟨_,rfl⟩
  have hM2:Hid (Z=(x2.pure,[x2.pure.text])):=Za (by rw[hM.out,hb,hx2];rfl);have hok2:x2.pure.ok=true:=by rw[hx2];exact DeskM.ok_parts.2 ⟨p1,hb,p3,p4,p5⟩
  have hh2:Hid (HS x2):=Za (by rw[hx2];exact hHS.out);have hst:Hid (∀W,SG R W base g x O vo _ _→SG R _ base g x2 O vo _ _):=Za (λW (h:SG R W base g x O vo (.slice (some ⟨gn,0,none⟩) N.length cn) vt)=>(by rw[hx2];exact h.set1 z0:SG R (W.setCell ⟨g,1,none⟩ (.int .i64 z0)) base g x2 O vo (.slice (some ⟨gn,0,none⟩) N.length cn) vt));clear h hok hh hz0 hx2 p1 p2 p3 p4 p5;go_enter Tryz.func104,Tryz.ntmps104;go_wp2_with fail
  refine(Z8 z0 _).mono ?_;rw[hb];rintro e w1 ⟨rfl,rfl⟩;go_upto_region 3 with fail
  refine QH (φ:=λW=>SG R W base g x2 O vo (.slice (some ⟨gn,0,none⟩) N.length cn) vt/\Below base w W) ⟨hst.out _ hS.out.sg,(Below.refl base w).setCell (p:=⟨g,1,none⟩) hS.out.sg.hg _⟩ ?_;rintro W1 ⟨n0,n1⟩;have hS1:=Za n0;have hB1:=Za n1;clear n0 n1 c0 c1 c2 c3 c4 c5 c6 c7 cf;go_wp2_with fail
  refine(X7 _ base g x2 O vo _ _ 0 hS1.out (by omega) (by omega) (by omega) hok2).mono ?_;rintro e w2 ⟨rfl,hs⟩;have hR:=Za (Said.then hB1.out hs);clear hs;go_wp2
  go_end0
  exact⟨rfl,by rw[hM2.out];exact hR.out.didL hh2.out⟩
theorem Zez (w:World)(base g:Nat)(x:DeskV)(O:List ByteArray)(vo vn vt:Value)(N:List Int)(T:List ByteArray)(h:SX R w base g x O vo vn vt N T)(hok:x.pure.ok=true)(hO:O.length<=1000000)(hh:HS x) :
  Calls Tryz.prog 100 #[.pointer (some ⟨g,0,none⟩)] w λe w'=>e = .returned (.tuple #[])/\Did R w base g (if kindsCd N=0 then ({ x.pure with ks:=Yn N },[({ x.pure with ks:=Yn N }:DeskM).text]) else (x.pure,[errB (kindsCd N)])) O vn vt w':=by
 obtain⟨p1,p2,p3,p4,p5⟩:=DeskM.ok_parts.1 hok;have hnl:=h.nl;obtain⟨Z,hZ⟩:∃Z,Z=(if kindsCd N=0 then ({ x.pure with ks:=Yn N },[({ x.pure with ks:=Yn N }:DeskM).text]) else (x.pure,[errB (kindsCd N)])):=⟨_,rfl⟩;rw[←hZ];have hM:=Za hZ;clear hZ;have hS:=Za h;have hHS:=Za hh;have hNm:=Za h.nm;obtain⟨An,cn,rfl,hcn⟩:=h.nm.slice;obtain⟨c0,c1,c2,c3,c4,c5,c6,c7,cf⟩:=ZL h.sg.box;obtain⟨m,hm⟩:∃m,m=N.length:=⟨_,rfl⟩;have hmh:=Za hm;have hmb:m<=1048576:=by omega
 by_cases hpar:m%2=0
 case neg =>
  have hcd:kindsCd N=7:=by unfold kindsCd;rw[if_neg (by omega)]
  have hM2:Hid (Z=(x.pure,[errB 7])):=Za (by rw[hM.out,hcd];rfl);have hr1:(((m:Int)%2) != 0)=true:=by rw[bne_iff_ne];omega
  rw[←hm] at c6 ⊢;have hSg:Hid (SG R w base g x O vo (.slice An m cn) vt):=Za (by rw[hm];exact h.sg);clear h hok hh hpar hcd hm p1 p2 p3 p4 p5;go_enter Tryz.func100,Tryz.ntmps100;go_wp2_with fail
  refine(YK _ base g x O vo _ _ 7 hSg.out (by omega) (by omega) (by omega)).mono ?_;rintro e w2 ⟨rfl,hs⟩;have hR:=Za hs;clear hs;go_wp2
  refine bodyPost_ret (results_none rfl _ _ _) rfl ?_;exact⟨rfl,by rw[hM2.out];exact hR.out.didL hHS.out⟩
 case pos =>
  have hr1:(((m:Int)%2) != 0)=false:=by rw[bne_eq_false_iff_eq];omega
  obtain⟨H,hH⟩:∃H,m=2*H:=⟨m/2,by omega⟩;have hkn:XY N=Yq N H:=by unfold XY;congr 1;omega
  have hcd:kindsCd N=if ZD (Yq N H) then 0 else 1:=by unfold kindsCd;rw[if_pos (by omega),hkn]
  have hHh:=Za hH;have hHb:H<=524288:=by omega
  have hO0:=Za (Own.none_made (cells:=Kind.cells) (e:=103) (s:=2) (base:=w.heap.size) w (Nat.le_refl _));have hbd:=Za (fun(k:Nat) (z:Int) (h1:N[k]?=some z)=>h.nb z (List.mem_of_getElem? h1));rw[←hm] at c6 ⊢;have hSg:Hid (SG R w base g x O vo (.slice An m cn) vt):=Za (by rw[hm];exact h.sg);have hSm:Hid (Own ZB 2 1 w base (.slice An m cn) m N):=Za (by rw[hm];exact h.nm);have hcdh:=Za hcd;have hknh:=Za hkn;have hpl:Hid (∀k,(Yq N k).length=k):=Za (λk=>by unfold Yq;rw[List.length_map,List.length_range]);have hq:=Za (⟨p1,p2,p4,p5⟩:strokeOk x.pure.st=true/\inB x.pure.sk 3 60=true/\ZE x.pure.hs=true/\ZI x.pure.lg=0);clear h hok hh hpar hcd hkn hm hH hNm p1 p2 p3 p4 p5;go_enter Tryz.func100,Tryz.ntmps100;go_wp2
  go_loopw [2,3] (λv i wr=>∃k:Nat,k<=H/\i = .int .i64 ((2*k:Nat):Int)/\Own Kind.cells 103 2 wr w.heap.size v k (Yq N k)/\Below w.heap.size w wr) (λ_ i _=>2*H-(intOf i).toNat)
  case atStart=>exact⟨0,Nat.zero_le _,rfl,hO0.out,(Below.refl w.heap.size w).alloc (Nat.le_refl _) _⟩
  case round =>
   obtain⟨k,hk,rfl,ho,hb⟩:=hrel;have hO2:=Za ho;have hB2:=Za hb;have hS2:=Za (hSg.out.below hb);have hN2:=Za (hSm.out.below hb);clear ho hb c0 c1 c2 c3 c4 c5 c6 c7 cf;obtain⟨J,hJ⟩:∃J,J=2*k:=⟨_,rfl⟩;have hJh:=Za hJ;obtain⟨c0,c1,c2,c3,c4,c5,c6,c7,cf⟩:=ZL hS2.out.box;rw[←hJ];by_cases hkl:k<H
   ·have hmm:2*k+1<m:=by have:=hHh.out;omega
    have hJm:(J:Int)<(m:Int):=by omega
    have hJ0:(0:Int)<=(J:Int):=by omega
    have hw1:IntKind.i64.wrap ((J:Int)+1)=(J:Int)+1:=IntWalk.i64_in _ (by omega);have hJ1:(0:Int)<=(J:Int)+1:=by omega
    have hJ2:(J:Int)+1<(m:Int):=by omega
    have hJt:((J:Int)+1).toNat=J+1:=by omega
    obtain⟨bn,on,y0,hAn,hbn,hy0,_⟩:=(hN2.out.arr Zh).int (k:=J) (by omega);subst hAn;obtain⟨_,_,y1,hAn2,_,hy1,_⟩:=(hN2.out.arr Zh).int (k:=J+1) (by omega);cases hAn2
    have hyb0:=hbd.out _ _ hy0;have hyb1:=hbd.out _ _ hy1;have hnx:Hid (Yq N (k+1)=Yq N k++[⟨y0,y1⟩]):=Za (by
     rw[Zbx,←hJ,List.getD_eq_getElem?_getD,List.getD_eq_getElem?_getD,hy0,hy1];rfl)
    have hcel:Hid (∀W,W.heap[g]?=some (.cells #[.string x.fStroke,.int .i64 x.fStakes,.slice x.A x.n x.c,.slice x.A' x.n' x.c',.string x.fLog,vo,.slice (some ⟨bn,on,none⟩) m cn,vt] 81 (0,0))→Own ZB 2 1 W base (.slice (some ⟨bn,on,none⟩) m cn) m N→W.cell? ⟨g,6,none⟩=some (.slice (some ⟨bn,on,none⟩) m cn)/\W.cell? ⟨bn,on+J,none⟩=some (.int .i64 y0)/\W.cell? ⟨bn,on+(J+1),none⟩=some (.int .i64 y1)):=Za (λW hbx hn=>by
     obtain⟨_,_,z0,e0,_,g0,q0⟩:=(hn.arr Zh).int (k:=J) (by omega);cases e0
     obtain⟨_,_,z1,e1,_,g1,q1⟩:=(hn.arr Zh).int (k:=J+1) (by omega);cases e1
     rw[hy0] at g0;rw[hy1] at g1;obtain rfl:=Option.some.inj g0;obtain rfl:=Option.some.inj g1;exact⟨(ZL hbx).2.2.2.2.2.2.1,q0,q1⟩)
    have hB3:Below wr.heap.size wr wr.drew:=Zb (Below.refl _ _) 1;have hda:Below wr.heap.size wr (wr.alloc (.cells #[.int .i64 y0,.int .i64 y1] 103)).drew:=((Below.refl _ _).alloc (Nat.le_refl _) _).trans ((Zb (Below.refl _ _) 1:Below (wr.alloc (.cells #[.int .i64 y0,.int .i64 y1] 103)).heap.size _ _).mono (by simp));have hC1:=Za (hcel.out _ (Ze hS2.out.box hB3) (hN2.out.below hB3));have hC2:=Za (hcel.out _ (Ze hS2.out.box hda) (hN2.out.below hda));have hO3:=Za (hO2.out.below hB3);have hS3:=Za (hS2.out.below hB3);have hN3:=Za (hN2.out.below hB3);have hbs:Hid (w.heap.size<=wr.drew.heap.size):=Za (Nat.le_trans hB2.out.size hB3.size);have hB23:=Za (Below.up hB2.out hB3);have hown:=Za (YB hN3.out hO3.out (by decide));clear hda hJ hy0 hy1 hbn;go_upto_region 6 with fail
    clear c0 c1 c2 c3 c4 c5 c6 c7 cf;obtain⟨c6,d0,d1⟩:=hC1.out;go_region_held3 (λw'=>w'.cell? ⟨g,6,none⟩=some (.slice (some ⟨bn,on,none⟩) m cn)/\w'.cell? ⟨bn,on+J,none⟩=some (.int .i64 y0)/\w'.cell? ⟨bn,on+(J+1),none⟩=some (.int .i64 y1)) (first|exact hC4.out|with_reducible exact hC2.out|with_reducible exact hC1.out|go_keep) (first|(refine Zba (w:=wr.drew) rfl (.tmp 23) (.tmp 40) (by rfl) Tryz.underlying26 Uw rfl (by omega) (by omega) Kind.len Kind.one (by rfl) hO3.out (⟨y0,y1⟩:Kind) _ (by rfl) (by rfl) (by omega) hbs.out ?_;intro v4 w4 ho4 hg4 _;have hO4:=Za ho4;have hB4:=Za (Zi hB23.out hO3.out hg4 hbs.out);have hC4:=Za (hcel.out _ ((hg4.block g hS3.out.lt (λe=>Qs hO3.out.2 hS3.out.box (by decide) e.symm)).trans hS3.out.box) (hN3.out.kept hg4 hown.out));clear ho4 hg4)|fail)
    go_wp2
    go_roundw
    case rel=>exact⟨k+1,by omega,by have:=hJh.out;go_num,by rw[hnx.out];exact hO4.out,hB4.out⟩
    case measure=>have:=hJh.out;simp[intOf];omega
   ·obtain rfl:k=H:=by omega
    have hJm:¬(J:Int)<(m:Int):=by have:=hHh.out;omega
    obtain⟨Av,cv,hvv,_⟩:=hO2.out.slice;subst hvv;have hbw:Hid (base<=w.heap.size):=Za hSg.out.bw;cases hkd:ZD (Yq N k)
    ·have hcd:kindsCd N=1:=by rw[hcdh.out,hkd];rfl
     have hM2:Hid (Z=(x.pure,[errB 1])):=Za (by rw[hM.out,hcd];rfl);clear hJ hcd;go_wp2_with fail
     refine(YM Av k cv (Yq N k) _ (by omega) (hO2.out.arr Kind.len)).mono ?_;rw[hkd];rintro e w4 ⟨rfl,hb4⟩;have hS4:=Za (hS2.out.below hb4);have hB4:=Za ((hB2.out.mono hbw.out).trans (hb4.mono (Nat.le_trans hbw.out hB2.out.size)));clear hb4;go_wp2_with fail
     refine(YK _ base g x O vo _ _ 1 hS4.out (by omega) (by omega) (by omega)).mono ?_;rintro e w5 ⟨rfl,hs⟩;have hR:=Za (Said.then hB4.out hs);clear hs;go_wp2
     refine bodyPost_ret (results_none rfl _ _ _) rfl ?_;exact⟨rfl,by rw[hM2.out];exact hR.out.didL hHS.out⟩
    ·have hcd:kindsCd N=0:=by rw[hcdh.out,hkd];rfl
     obtain⟨x2,hx2⟩:∃x2:DeskV,x2={ x with A:=Av,n:=k,c:=cv,kinds:=Yq N k }:=⟨_,rfl⟩;have hkL:Yn N=Yq N k:=by unfold Yn;rw[if_pos hcd,hknh.out]
     have hM2:Hid (Z=(x2.pure,[x2.pure.text])):=Za (by rw[hM.out,hcd,if_pos rfl,hkL,hx2];rfl);have hok2:x2.pure.ok=true:=by rw[hx2];exact DeskM.ok_parts.2 ⟨hq.out.1,hq.out.2.1,hkd,hq.out.2.2.1,hq.out.2.2.2⟩
     have hh2:Hid (HS x2):=Za (by rw[hx2];exact hHS.out);have hset:Hid (∀W,SG R W base g x O vo (.slice An m cn) vt→Own Kind.cells 103 2 W w.heap.size (.slice Av k cv) k (Yq N k)→SG R (W.setCell ⟨g,2,none⟩ (.slice Av k cv)) base g x2 O vo (.slice An m cn) vt):=Za (λW h ho=>by rw[hx2];exact h.set2 (ho.res.less hbw.out) (by omega));clear hJ hcd hkL hx2;go_wp2_with fail
     refine(YM Av k cv (Yq N k) _ (by omega) (hO2.out.arr Kind.len)).mono ?_;rw[hkd];rintro e w4 ⟨rfl,hb4⟩;have hS4:=Za (hS2.out.below hb4);have hO4:=Za (hO2.out.below hb4);have hB4:=Za ((hB2.out.mono hbw.out).trans (hb4.mono (Nat.le_trans hbw.out hB2.out.size)));clear hb4 c0 c1 c2 c3 c4 c5 c6 c7 cf;obtain⟨c0,c1,c2,c3,c4,c5,c6,c7,cf⟩:=ZL hS4.out.box;go_upto_region 10 with fail
     refine QH (φ:=λW=>SG R W base g x2 O vo (.slice An m cn) vt/\Below base w W) ⟨hset.out _ hS4.out hO4.out,hB4.out.setCell (p:=⟨g,2,none⟩) hS4.out.hg _⟩ ?_;rintro W1 ⟨n0,n1⟩;have hS1:=Za n0;have hB1:=Za n1;clear n0 n1 c0 c1 c2 c3 c4 c5 c6 c7 cf;go_wp2_with fail
     refine(X7 _ base g x2 O vo _ _ 0 hS1.out (by omega) (by omega) (by omega) hok2).mono ?_;rintro e w5 ⟨rfl,hs⟩;have hR:=Za (Said.then hB1.out hs);clear hs;go_wp2
     go_end0
     exact⟨rfl,by rw[hM2.out];exact hR.out.didL hh2.out⟩
end
end Go.Proofs.YtfpaejlipaainaaGreatDoor
