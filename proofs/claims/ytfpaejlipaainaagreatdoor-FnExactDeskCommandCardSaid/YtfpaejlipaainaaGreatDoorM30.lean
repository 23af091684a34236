/- Texts that belong together, joined: contracts and plain laws. No statement is proved here. -/
import Derived.Test.YtfpaejlipaainaaGreatDoorM29
set_option maxRecDepth 100000
set_option maxHeartbeats 4000000
namespace Go.Proofs.YtfpaejlipaainaaGreatDoor
open Go.ChangeShapes Go.WideShapes Go.ChangeAt Go.RowKit Go.Deep
structure WorkIn (w0 w:World)(g:Nat)(x:DeskV)(Aw:Option Addr)(nw cw:Nat)(ws:List ByteArray)(An:Option Addr)(m cn:Nat)(N:List Int):Prop where
 hG:Gl w0
 hB0:Below w0.heap.size w0 w
 h:DG w w0.heap.size g x
 ok:x.pure.ok=true
 hw:Res ZY 9 1 w w0.heap.size (.slice Aw nw cw) nw ws
 hn:Res ZB 2 1 w w0.heap.size (.slice An m cn) m N
 nw:nw<=1048577
 mm:m<=1048576
 wsz:∀s∈ws,s.size<=maxLen
 nb:∀z∈N,-1000000000000000000<=z/\z<=1000000000000000000
def Ui (w0 w:World)(g:Nat)(r:DeskM × ByteArray × Int)(e:Ending)(w':World):Prop :=
 ∃x',e = .returned (.tuple #[.string r.2.1,.int .i64 r.2.2])/\DG w' w0.heap.size g x'/\x'.pure=r.1/\w.grownBy w' (some g)/\Below w0.heap.size w0 w'
section
variable {w0 w w':World}{g:Nat}{x:DeskV}{Aw:Option Addr}{nw cw:Nat}{ws:List ByteArray}{An:Option Addr}{m cn:Nat}{N:List Int}
theorem WorkIn.gl (h:WorkIn w0 w g x Aw nw cw ws An m cn N)(hg:w.grownBy w' (some g)):Gl w':=h.hG.below (Ys h.hB0 h.h.hb hg)
theorem WorkIn.cap (h:WorkIn w0 w g x Aw nw cw ws An m cn N):m<=cn/\cn<=maxLen:=by
 obtain⟨A,c,hv,h1,h2⟩:=h.hn.2.1;injection hv with _ _ hc
 subst hc;exact⟨h1,h2⟩
theorem WorkIn.ask (h:WorkIn w0 w g x Aw nw cw ws An m cn N):AskIn w g x Aw nw cw ws An m cn N :=
 ⟨h.hG.below h.hB0,h.h.hK,h.h.good,h.ok,h.hw.arr Zf,h.hn.arr Zh,h.nw,h.mm,h.cap.1,h.wsz,h.nb⟩
theorem WorkIn.parts (h:WorkIn w0 w g x Aw nw cw ws An m cn N):strokeOk x.fStroke=true/\inB x.fStakes 3 60=true/\ZD x.kinds=true/\ZE x.heaps=true/\ZI x.fLog=0:=DeskM.ok_parts.1 h.ok
theorem WorkIn.stroke (h:WorkIn w0 w g x Aw nw cw ws An m cn N):x.fStroke.size<=maxLen:=by
 have h1:=h.parts.1;unfold strokeOk at h1;rw[Bool.and_eq_true,Bool.and_eq_true] at h1;have:=of_decide_eq_true h1.1.2;unfold maxLen;omega
end
theorem ZbL {w0 w:World}{g:Nat}{x:DeskV}{Aw:Option Addr}{nw cw:Nat}{ws:List ByteArray}{An:Option Addr}{m cn:Nat}{N:List Int}(h:WorkIn w0 w g x Aw nw cw ws An m cn N)(hw0:ws[0]?=some Cmd.cStakes.word)(h0:0<nw)(hm:0<m) :
  Calls Tryz.prog 33 #[.pointer (some ⟨g,0,none⟩),.slice Aw nw cw,.slice An m cn] w λe w'=>Ui w0 w g (mWork x.pure .cStakes ws N) e w':=by
 have hIn:=Za h;obtain⟨bw,ow,y0,hAw,hbw,hy0,cw0⟩:=h.ask.hw.str h0;subst hAw;rw[hw0] at hy0;have hy00:y0=Cmd.cStakes.word:=(Option.some.inj hy0).symm;subst hy00;simp only[Cmd.word,Nat.add_zero] at cw0;obtain⟨bn0,on0,z0,hA0,hb0,hz0,cn0⟩:=h.ask.hn.int (k:=0) hm;subst hA0;simp only[Nat.add_zero] at cn0;have hZ0:N.getD 0 0=z0:=by rw[List.getD_eq_getElem?_getD,hz0];rfl
 have hi0:(0:Int)<(m:Int):=by omega
 have hi1:(0:Int)<(nw:Int):=by omega
 have hdk:=Zs h.h.hK;cases hs:inB z0 3 60
 ·have hM:Hid (mWork x.pure .cStakes ws N=(x.pure,⟨#[]⟩,1)):=Za (by unfold mWork;simp only;rw[hZ0,hs];rfl)
  clear h hw0 hy0 hz0 hZ0 hdk;go_enter Tryz.func33,Tryz.ntmps33;go_wp2_with (go_at_call 61;refine(ZQ z0 _).mono ?_;rw[hs];rintro e w1 ⟨rfl,rfl⟩)
  go_ret2
  exact⟨x,by rw[hM.out];rfl,hIn.out.h,by rw[hM.out],World.grownBy.refl _ _,hIn.out.hB0⟩
 ·obtain⟨x',hx'⟩:∃x':DeskV,x'={ x with fStakes:=z0 }:=⟨_,rfl⟩
  have hM:Hid (mWork x.pure .cStakes ws N=(x'.pure,x'.pure.text,0)):=Za (by unfold mWork;simp only;rw[hZ0,hs,hx'];rfl);have hxs:Hid (x'.fStroke.size<=maxLen):=Za (by rw[hx'];exact hIn.out.stroke);have hset:Hid (DG (w.setCell ⟨g,1,none⟩ (.int .i64 z0)) w0.heap.size g x'):=Za (by rw[hx'];exact hIn.out.h.set1 z0);clear h hw0 hy0 hz0 hZ0 hx';obtain⟨c0,c1,c2,c3,c4,cf⟩:=hdk;go_enter Tryz.func33,Tryz.ntmps33;go_upto_region 6 with (go_at_call 61;refine(ZQ z0 _).mono ?_;rw[hs];rintro e w1 ⟨rfl,rfl⟩)
  refine YH (φ:=λW=>DG W w0.heap.size g x'/\w.grownBy W (some g)) ⟨hset.out,Zl _ _ _ _⟩ ?_;rintro W0 ⟨n0,n1⟩;have hH2:=Za n0;have hg2:=Za n1;clear n0 n1 c0 c1 c2 c3 c4 cf cw0 cn0;obtain⟨c0,c1,c2,c3,c4,cf⟩:=Zs hH2.out.hK;go_wp2_with fail
  refine(Vl x' _ (hIn.out.gl hg2.out) hH2.out.good hxs.out).mono ?_;rw[Wd hH2.out.good];rintro e w3 ⟨rfl,hb⟩;have hH3:=Za (hH2.out.below hb);have hg3:=Za (YY hg2.out hb);clear hb;go_wp2
  go_ret2
  exact⟨x',by rw[hM.out];rfl,hH3.out,by rw[hM.out],hg3.out,Ys hIn.out.hB0 hIn.out.h.hb hg3.out⟩
theorem ZcZ {w0 w:World}{g:Nat}{x:DeskV}{Aw:Option Addr}{nw cw:Nat}{ws:List ByteArray}{An:Option Addr}{m cn:Nat}{N:List Int}(h:WorkIn w0 w g x Aw nw cw ws An m cn N)(hw0:ws[0]?=some Cmd.cKinds.word)(h0:0<nw) :
  Calls Tryz.prog 33 #[.pointer (some ⟨g,0,none⟩),.slice Aw nw cw,.slice An m cn] w λe w'=>Ui w0 w g (mWork x.pure .cKinds ws N) e w':=by
 have hIn:=Za h;obtain⟨bw,ow,y0,hAw,hbw,hy0,cw0⟩:=h.ask.hw.str h0;subst hAw;rw[hw0] at hy0;have hy00:y0=Cmd.cKinds.word:=(Option.some.inj hy0).symm;subst hy00;simp only[Cmd.word,Nat.add_zero] at cw0;have hi1:(0:Int)<(nw:Int):=by omega
 have hM:Hid (mWork x.pure .cKinds ws N=({ x.pure with ks:=Yn N },({ x.pure with ks:=Yn N }:DeskM).text,kindsCd N)):=Za rfl;have hkl:(Yn N).length<=1048576:=by
  unfold Yn;split
  ·unfold XY Yq
   rw[List.length_map,List.length_range];have:=h.hn.1;have:=h.mm;omega
  ·exact Nat.zero_le _
 clear h hw0 hy0;go_enter Tryz.func33,Tryz.ntmps33;go_wp2_with fail
 refine(Zfd An m cn N _ hIn.out.mm hIn.out.cap.1 (by have:=hIn.out.cap.2;unfold maxLen at this;omega) hIn.out.ask.hn).mono ?_;rintro e w1 ⟨v1,rfl,hr1,hb1⟩;obtain⟨A4,c4v,hv4,_⟩:=hr1.slice;subst hv4;have hB1:=Za hb1;have hH1:=Za (hIn.out.h.below hb1);obtain⟨x',hx'⟩:∃x':DeskV,x'={ x with A:=A4,n:=(Yn N).length,c:=c4v,kinds:=Yn N }:=⟨_,rfl⟩;have hxp:Hid (x'.pure={ x.pure with ks:=Yn N }):=Za (by rw[hx'];rfl);have hxs:Hid (x'.fStroke.size<=maxLen):=Za (by rw[hx'];exact hIn.out.stroke);have hH5:=Za (hH1.out.set2 (hr1.less hIn.out.hB0.size) hkl);rw[←hx'] at hH5;obtain⟨d0,d1,d2,d3,d4,df⟩:=Zs hH1.out.hK;clear hx' hr1 hb1 cw0;go_upto_region 10 with fail
 refine YH (φ:=λW=>DG W w0.heap.size g x'/\w.grownBy W (some g)) ⟨hH5.out,Zx (Zd hB1.out) (Zl _ _ _ _)⟩ ?_;rintro W2 ⟨n0,n1⟩;have hH2:=Za n0;have hg2:=Za n1;clear n0 n1 d0 d1 d2 d3 d4 df;obtain⟨c0,c1,c2,c3,c4,cf⟩:=Zs hH2.out.hK;go_wp2_with fail
 refine(Vl x' _ (hIn.out.gl hg2.out) hH2.out.good hxs.out).mono ?_;rw[Wd hH2.out.good];rintro e w3 ⟨rfl,hb⟩;have hH3:=Za (hH2.out.below hb);have hg3:=Za (YY hg2.out hb);clear hb;go_wp2
 go_ret2
 exact⟨x',by rw[hM.out,hxp.out];rfl,hH3.out,by rw[hM.out,hxp.out],hg3.out,Ys hIn.out.hB0 hIn.out.h.hb hg3.out⟩
theorem ZcP (s what:ByteArray):∀z∈Yu s what,-1000000<=z/\z<=1000000:=by
 intro z hz;unfold Yu Xf at hz;split at hz
 ·obtain⟨e,he,rfl⟩:=List.mem_map.1 hz
  exact(Entry.ok_iff.1 ((XL s).2.2.1 e (List.mem_filter.1 he).1)).2.2
 ·cases hz
theorem Jv {M:Int}(hM:0<=M):∀(l:List Int),(∀z∈l,-M<=z/\z<=M)→-(M*l.length)<=sumOf id l/\sumOf id l<=M*l.length
 | [],_=>by simp[sumOf]
 | z :: l,h=>by
  have h1:=h z (by simp);have h2:=Jv hM l (λy hy=>h y (by simp[hy]));have e:M*((l.length+1:Nat):Int)=M*l.length+M:=by rw[Int.natCast_add,Int.mul_add];simp
  have e2:sumOf id (z :: l)=z+sumOf id l:=by unfold sumOf;simp
  rw[List.length_cons,e,e2];omega
theorem QL (s what:ByteArray)(k:Nat) : -1048576000000<=sumOf id ((Yu s what).take k)/\sumOf id ((Yu s what).take k)<=1048576000000:=by
 have h1:=Jv (M:=1000000) (by omega) ((Yu s what).take k) (λz hz=>ZcP s what z (List.mem_of_mem_take hz));have h2:=QM s what;have h3:((Yu s what).take k).length<=1048576:=by rw[List.length_take];omega
 omega
theorem Zak (s what:ByteArray):I64 [sumOf id (Yu s what)]:=by
 intro z hz;rw[List.mem_singleton.1 hz];have h:=QL s what (Yu s what).length;rw[List.take_of_length_le (Nat.le_refl _)] at h;omega
theorem Zc0 {w0 w:World}{g:Nat}{x:DeskV}{Aw:Option Addr}{nw cw:Nat}{ws:List ByteArray}{An:Option Addr}{m cn:Nat}{N:List Int}(h:WorkIn w0 w g x Aw nw cw ws An m cn N)(hw0:ws[0]?=some Cmd.cEnter.word)(h0:0<nw)(h2:2<nw)(hm:1<m) :
  Calls Tryz.prog 33 #[.pointer (some ⟨g,0,none⟩),.slice Aw nw cw,.slice An m cn] w λe w'=>Ui w0 w g (mWork x.pure .cEnter ws N) e w':=by
 have hIn:=Za h;obtain⟨bw,ow,y0,hAw,hbw,hy0,cw0⟩:=h.ask.hw.str h0;subst hAw;rw[hw0] at hy0;have hy00:y0=Cmd.cEnter.word:=(Option.some.inj hy0).symm;subst hy00;simp only[Cmd.word,Nat.add_zero] at cw0;have hi1:(0:Int)<(nw:Int):=by omega
 obtain⟨bw2,ow2,y2,hA2,hbw2,hy2,cw2⟩:=h.ask.hw.str h2;injection hA2 with hA2;injection hA2 with e1 e2;subst e1 e2
 obtain⟨bn0,on0,z0,hA0,hb0,hz0,cn0⟩:=h.ask.hn.int (k:=0) (by omega);subst hA0;simp only[Nat.add_zero] at cn0;obtain⟨bn1,on1,z1,hA1,hb1,hz1,cn1⟩:=h.ask.hn.int (k:=1) hm;injection hA1 with hA1;injection hA1 with e1 e2;subst e1 e2
 have hm0:(0:Int)<(m:Int):=by omega
 have hmn:0<m:=by omega
 have hnn:0<nw:=by omega
 have hm1:(1:Int)<(m:Int):=by omega
 have hi2:(2:Int)<(nw:Int):=by omega
 obtain⟨y,hy⟩:∃y:Entry,y=⟨z0,y2,z1⟩:=⟨_,rfl⟩;obtain⟨T,hT⟩:∃T,T=mAdd x.fLog y:=⟨_,rfl⟩;have hTh:=Za hT;have hyf:y.fits:=by rw[hy];exact h.wsz y2 (List.mem_of_getElem? hy2)
 have hy2f:y2.size<=maxLen:=h.wsz y2 (List.mem_of_getElem? hy2);have hM:Hid (mWork x.pure .cEnter ws N=({ x.pure with lg:=T.1 },numLine [sumOf id (Yu T.1 y2)],T.2)):=Za (by
  have g0:N.getD 0 0=z0:=by rw[List.getD_eq_getElem?_getD,hz0];rfl
  have g1:N.getD 1 0=z1:=by rw[List.getD_eq_getElem?_getD,hz1];rfl
  have g2:ws.getD 2 ⟨#[]⟩=y2:=by rw[List.getD_eq_getElem?_getD,hy2];rfl
  unfold mWork;simp only;rw[g0,g1,g2,hT,hy];rfl)
 have hyh:=Za hy;have hdr:Below w.heap.size w w.drew:=Zb (Below.refl _ _) 1;have hDR:=Za hdr;have hcell:Hid (∀W,Below w.heap.size w W→W.cell? ⟨g,4,none⟩=some (.string x.fLog)/\W.cell? ⟨bn0,on0,none⟩=some (.int .i64 z0)/\W.cell? ⟨bw,ow+2,none⟩=some (.string y2)/\W.cell? ⟨bn0,on0+1,none⟩=some (.int .i64 z1)):=Za (λW hb=>⟨(Zs (Ze hIn.out.h.hK hb)).2.2.2.2.1,(hb.cell (p:=⟨bn0,on0,none⟩) hb0).trans cn0,(hb.cell (p:=⟨bw,ow+2,none⟩) hbw).trans cw2,(hb.cell (p:=⟨bn0,on0+1,none⟩) hb0).trans cn1⟩);obtain⟨e4,f0,f2,f1⟩:=hcell.out _ hdr;have hy2h:=Za hy2;clear h hw0 hy0 hz0 hz1 hy2 hy hT hdr cw2 cn0 cn1;go_enter Tryz.func33,Tryz.ntmps33;go_wp2_with fail
 go_region_held3 (λw'=>w'.cell? ⟨g,4,none⟩=some (.string x.fLog)/\w'.cell? ⟨bn0,on0,none⟩=some (.int .i64 z0)/\w'.cell? ⟨bw,ow+2,none⟩=some (.string y2)/\w'.cell? ⟨bn0,on0+1,none⟩=some (.int .i64 z1)) (first|exact hcell.out _ hB4.out|exact hcell.out _ hDR.out|go_keep) (first|(go_at_call 76;have hc:=ZiB x.fLog y _ hyf (hIn.out.gl (Zd hDR.out));rw[hyh.out] at hc;refine hc.mono ?_;rw[←hyh.out,←hTh.out];rintro e w4 ⟨rfl,hb4⟩;have hB4:=Za (hDR.out.trans (hb4.mono hDR.out.size));clear hb4)|fail)
 have hH4:=Za (hIn.out.h.below hB4.out);obtain⟨x',hx'⟩:∃x':DeskV,x'={ x with fLog:=T.1 }:=⟨_,rfl⟩;have hxp:Hid (x'.pure={ x.pure with lg:=T.1 }):=Za (by rw[hx'];rfl);have hH5:=Za (hH4.out.set4 T.1);rw[←hx'] at hH5;have hW5:=Za ((hIn.out.hw.below hB4.out).set (i:=4) (u:=.string T.1) hH4.out.hK (by decide));obtain⟨d0,d1,d2,d3,d4,df⟩:=Zs hH4.out.hK;clear hx' e4 f0 f1 f2 cw0;go_upto_region 14 with fail
 refine YH (φ:=λW=>DG W w0.heap.size g x'/\w.grownBy W (some g)/\Res ZY 9 1 W w0.heap.size (.slice (some ⟨bw,ow,none⟩) nw cw) nw ws) ⟨hH5.out,Zx (Zd hB4.out) (Zl _ _ _ _),hW5.out⟩ ?_;rintro W2 ⟨n0,n1,n2⟩;have hH2:=Za n0;have hg2:=Za n1;obtain⟨b',o',y',hA',_,hy',cw2⟩:=(n2.arr Zf).str h2;injection hA' with hA';injection hA' with e1 e2;subst e1 e2
 rw[hy2h.out] at hy';have hyy:=Option.some.inj hy';subst hyy;clear n0 n1 n2 d0 d1 d2 d3 d4 df hy';go_wp2_with fail
 refine(ZgX T.1 y2 _ hy2f (hIn.out.gl hg2.out)).mono ?_;rintro e w3 ⟨v3,rfl,hr3,hb⟩;obtain⟨A3,c3,hv3,_⟩:=hr3.slice;subst hv3;have hH3:=Za (hH2.out.below hb);have hg3:=Za (YY hg2.out hb);have hR3:=Za hr3;clear hb hr3;go_wp2_with fail
 refine(Ua A3 _ c3 (Yu T.1 y2) _ (QM _ _) (λk=>by have:=QL T.1 y2 k;omega) (hR3.out.arr Zh)).mono ?_;rintro e w4' ⟨rfl,hb⟩;have hH4':=Za (hH3.out.below hb);have hg4':=Za (YY hg3.out hb);clear hb;go_wp2_with fail
 have hbz:=Za ((Below.refl w4'.heap.size w4').alloc (Nat.le_refl _) (.cells #[.int .i64 (sumOf id (Yu T.1 y2))] 2));have hH5':=Za (hH4'.out.below hbz.out);have hg5':=Za (YY hg4'.out hbz.out);have hA5:=Za (Qh (y:=sumOf id (Yu T.1 y2)) (heap_alloc_new w4' _));refine(Xr (some ⟨w4'.heap.size,0,none⟩) 1 1 [sumOf id (Yu T.1 y2)] _ (by omega) (Zak T.1 y2) (hIn.out.gl hg5'.out) hA5.out).mono ?_;rintro e w6 ⟨rfl,hb⟩;have hH6:=Za (hH5'.out.below hb);have hg6:=Za (YY hg5'.out hb);clear hb;go_wp2
 go_ret2
 exact⟨x',by rw[hM.out];rfl,hH6.out,by rw[hM.out];exact hxp.out,hg6.out,Ys hIn.out.hB0 hIn.out.h.hb hg6.out⟩
theorem XM {w0 w:World}{g:Nat}{x:DeskV}{Aw:Option Addr}{nw cw:Nat}{ws:List ByteArray}{An:Option Addr}{m cn:Nat}{N:List Int}(h:WorkIn w0 w g x Aw nw cw ws An m cn N)(c:Cmd)(hw0:ws[0]?=some c.word)(h0:0<nw)(hc:c≠.cStakes/\c≠.cKinds/\c≠.cEnter)
  (hk:Calls Tryz.prog 80 #[.pointer (some ⟨g,0,none⟩),.slice Aw nw cw,.slice An m cn] w λe w'=>e = .returned (.tuple #[.string (mAsk x.pure c ws N).1,.int .i64 (mAsk x.pure c ws N).2])/\Below w.heap.size w w') :
  Calls Tryz.prog 33 #[.pointer (some ⟨g,0,none⟩),.slice Aw nw cw,.slice An m cn] w λe w'=>Ui w0 w g (mWork x.pure c ws N) e w':=by
 have hIn:=Za h;have hkh:=Za hk;have hM:Hid (mWork x.pure c ws N=(x.pure,(mAsk x.pure c ws N).1,(mAsk x.pure c ws N).2)):=Za (by clear hk hkh hIn h hw0;cases c<;>first|exact absurd rfl hc.1|exact absurd rfl hc.2.1|exact absurd rfl hc.2.2|rfl|fail);obtain⟨R,hR⟩:∃R,R=mAsk x.pure c ws N:=⟨_,rfl⟩;rw[←hR] at hkh hM;obtain⟨bw,ow,y0,hAw,hbw,hy0,cw0⟩:=h.ask.hw.str h0;subst hAw;rw[hw0] at hy0;have hy00:y0=c.word:=(Option.some.inj hy0).symm;subst hy00;simp only[Nat.add_zero] at cw0;have hi1:(0:Int)<(nw:Int):=by omega
 have s1:(c.word.toList == [115,116,97,107,101,115])=false:=Z2 (by clear hk hkh hIn h hw0 hR hM hy0 cw0;cases c<;>first|exact absurd rfl hc.1|decide|fail);have s2:(c.word.toList == [107,105,110,100,115])=false:=Z2 (by clear hk hkh hIn h hw0 hR hM hy0 cw0;cases c<;>first|exact absurd rfl hc.2.1|decide|fail);have s3:(c.word.toList == [101,110,116,101,114])=false:=Z2 (by clear hk hkh hIn h hw0 hR hM hy0 cw0;cases c<;>first|exact absurd rfl hc.2.2|decide|fail);clear h hw0 hy0 hR hk hc;obtain⟨W0,hW0⟩:∃W0,W0=c.word:=⟨_,rfl⟩;rw[←hW0] at cw0 s1 s2 s3;clear hW0;go_enter Tryz.func33,Tryz.ntmps33;go_wp2_with fail
 refine hkh.out.mono ?_;rintro e w1 ⟨rfl,hb⟩;have hb1:=Za hb;clear hb;go_wp2
 go_ret2
 exact⟨x,by rw[hM.out];rfl,hIn.out.h.below hb1.out,by rw[hM.out],Zd hb1.out,Ys hIn.out.hB0 hIn.out.h.hb (Zd hb1.out)⟩
def Cmd.least:Cmd→Nat
 | .cEnter=>2
 | .cBroken=>0
 | .cKinds=>0
 | _=>1
def Cmd.leastW:Cmd→Nat
 | .cEnter=>4
 | .cWord=>3
 | _=>1
theorem ZbM {w0 w:World}{g:Nat}{x:DeskV}{Aw:Option Addr}{nw cw:Nat}{ws:List ByteArray}{An:Option Addr}{m cn:Nat}{N:List Int}(h:WorkIn w0 w g x Aw nw cw ws An m cn N)(c:Cmd)(hw0:ws[0]?=some c.word)(hp:c.plain=false)(h0:c.leastW<=nw)(hm:c.least<=m) :
  Calls Tryz.prog 33 #[.pointer (some ⟨g,0,none⟩),.slice Aw nw cw,.slice An m cn] w λe w'=>Ui w0 w g (mWork x.pure c ws N) e w':=by
 cases c
 case cStakes=>exact ZbL h hw0 h0 hm
 case cKinds=>exact ZcZ h hw0 h0
 case cEnter=>exact Zc0 h hw0 (by have:4<=nw:=h0;omega) (by have:4<=nw:=h0;omega) hm
 case cRound=>exact XM h _ hw0 h0 (by decide) (Zfp h.ask hw0 h0 hm)
 case cWord=>exact XM h _ hw0 (by have:3<=nw:=h0;omega) (by decide) (Zhf h.ask hw0 (by have:3<=nw:=h0;omega) hm (by have:3<=nw:=h0;omega))
 case cSound=>exact XM h _ hw0 h0 (by decide) (Zfo h.ask hw0 h0 hm)
 case cAdd=>exact XM h _ hw0 h0 (by decide) (ZiA h.ask hw0 h0 hm)
 case cJoins=>exact XM h _ hw0 h0 (by decide) (Zfq h.ask hw0 h0 hm)
 case cFew=>exact XM h _ hw0 h0 (by decide) (Ziz h.ask hw0 h0 hm)
 case cBroken=>exact XM h _ hw0 h0 (by decide) (Zc7 h.ask hw0 h0)
 all_goals cases hp
structure DV (w:World)(base:Nat)(x:DeskV):Prop where
 k:Res Kind.cells 103 2 w base (.slice x.A x.n x.c) x.n x.kinds
 h:Res Heap.cells 106 3 w base (.slice x.A' x.n' x.c') x.n' x.heaps
 nk:x.n<=1048576
 nh:x.n'<=1048576
 fit:∀h∈x.heaps,h.fits
theorem DV.good {w:World}{base:Nat}{x:DeskV}(h:DV w base x):x.good w w.heap.size:=⟨h.k.arr Kind.len,h.h.arr Heap.len,h.nk,h.nh,h.fit⟩
theorem DV.below {w w':World}{base:Nat}{x:DeskV}(h:DV w base x)(hb:Below w.heap.size w w'):DV w' base x:=⟨h.k.below hb,h.h.below hb,h.nk,h.nh,h.fit⟩
theorem DV.dg {w:World}{base g:Nat}{x:DeskV}(h:DV w base x)(hK:w.heap[g]?=some (.cells #[.string x.fStroke,.int .i64 x.fStakes,.slice x.A x.n x.c,.slice x.A' x.n' x.c',.string x.fLog] 29 (0,0)))(hb:base<=g):DG w base g x:=⟨hK,h.k,h.h,h.nk,h.nh,h.fit,hb⟩
theorem DG.dv {w:World}{base g:Nat}{x:DeskV}(h:DG w base g x):DV w base x:=⟨h.k,h.h,h.nk,h.nh,h.fit⟩
def DeskV.agg (x:DeskV):Value:=.agg #[.string x.fStroke,.int .i64 x.fStakes,.slice x.A x.n x.c,.slice x.A' x.n' x.c',.string x.fLog]
theorem Kind.one:∀x,∀u∈Kind.cells x,u.oneCell'=true:=by intro x u hu;simp[Kind.cells] at hu;rcases hu with rfl|rfl<;>rfl
theorem Uw:(Tryz.prog.info? 103).map (λi=>(i.zero,i.size,i.bytes))=some (some (.agg #[.int .i64 0,.int .i64 0]),2,16):=by kernel_rfl
theorem ZaT (A:Option Addr)(n c:Nat)(l:List Kind)(w:World)(hn:n<=1048576)(hr:Arr Kind.cells 2 w w.heap.size A n l) :
  Calls Tryz.prog 66 #[.slice A n c] w λe w'=>∃v,e = .returned v/\Res Kind.cells 103 2 w' w.heap.size v n l/\Below w.heap.size w w':=by
 cases A with
 | none =>
  have hn0:n=0:=by
   rcases Nat.eq_zero_or_pos n with h|h
   ·exact h
   ·obtain⟨b,o,hA,_⟩:=hr.2 h
    cases hA
  subst hn0;obtain rfl:l=[]:=List.eq_nil_of_length_eq_zero hr.1;have hq:∀W,(binOp .eql 26 (.slice none 0 c) (.slice none 0 0)).run Tryz.prog W = .ok (.bool true) W:=λW=>Lib.run_eql_slice_nil (P:=Tryz.prog) W 26 103 none 0 c 0 0 Tryz.underlying26
  clear hr;go_enter Tryz.func66,Tryz.ntmps66;go_wp2
  go_ret;exact⟨_,rfl,Res.empty (Nat.zero_le _),Below.refl _ _⟩
 | some ad =>
  have hq:∀W,(binOp .eql 26 (.slice (some ad) n c) (.slice none 0 0)).run Tryz.prog W = .ok (.bool false) W:=λW=>Lib.run_eql_slice_nil (P:=Tryz.prog) W 26 103 (some ad) n c 0 0 Tryz.underlying26
  have hB:=Za ((Below.refl w.heap.size w).alloc (Nat.le_refl _) (.cells #[] 103));have hO:=Za (Own.none_made (cells:=Kind.cells) (e:=103) (s:=2) w (Nat.le_refl _));go_enter Tryz.func66,Tryz.ntmps66;go_wp2_with (at_builtin;refine Z1 rfl (.tmp 5) (.tmp 6) rfl Tryz.underlying26 Uw rfl (by omega) (by omega) Kind.len Kind.one rfl hO.out rfl (hr.below hB.out) (by omega) hB.out.size ?_;intro v2 w2 ho2 hg2 _)
  go_ret;rw[Nat.zero_add,List.nil_append] at ho2;exact⟨v2,rfl,ho2.res,Zi hB.out hO.out hg2 hB.out.size⟩
structure CK (w:World)(g g1:Nat)(x:DeskV)(B1 B2 B4 B5 B7 B9:Bool)(v5 v8:Value)(wx:World):Prop where
 b:Below w.heap.size w wx
 box:wx.heap[g]?=some (.cells #[.string x.fStroke,.int .i64 x.fStakes,(if B7 then v5 else .slice x.A x.n x.c),(if B9 then v8 else .slice x.A' x.n' x.c'),.string x.fLog] 29 (0,0))
 res:wx.heap[g1]?=some (.cells #[.string ⟨#[]⟩,.int .i64 0,.slice none 0 0,.slice none 0 0,.string ⟨#[]⟩] 29 (0,0))
 k:B2=true→Res Kind.cells 103 2 wx w.heap.size v5 x.n x.kinds
 h:B5=true→Res Heap.cells 106 3 wx w.heap.size v8 x.n' x.heaps
 c2:B2=true→B1=true
 c5:B5=true→B4=true
 c7:B7=true→B2=true/\B5=true
 c9:B9=true→B2=true/\B5=true
section
variable {w wx w':World}{g g1:Nat}{x:DeskV}{B1 B2 B4 B5 B7 B9:Bool}{v5 v8:Value}
theorem CK.clK (h:CK w g g1 x B1 false B4 B5 B7 B9 v5 v8 wx)(h1:B1=true){v:Value}(hr:Res Kind.cells 103 2 w' wx.heap.size v x.n x.kinds)(hb:Below wx.heap.size wx w'):CK w g g1 x B1 true B4 B5 B7 B9 v v8 w':=by
 have h7:B7=false:=by cases hB:B7;rfl;(have:=(h.c7 hB).1;cases this)
 refine⟨h.b.trans (hb.mono h.b.size),?_,Ze h.res hb,λ_=>hr.less h.b.size,λe=>(h.h e).below hb,λ_=>h1,h.c5,λe=>⟨rfl,(h.c7 e).2⟩,λe=>⟨rfl,(h.c9 e).2⟩⟩;have:=Ze h.box hb;rw[h7] at this ⊢;exact this
theorem CK.clH (h:CK w g g1 x B1 B2 B4 false B7 B9 v5 v8 wx)(h4:B4=true){v:Value}(hr:Res Heap.cells 106 3 w' wx.heap.size v x.n' x.heaps)(hb:Below wx.heap.size wx w'):CK w g g1 x B1 B2 B4 true B7 B9 v5 v w':=by
 have h9:B9=false:=by cases hB:B9;rfl;(have:=(h.c9 hB).2;cases this)
 refine⟨h.b.trans (hb.mono h.b.size),?_,Ze h.res hb,λe=>(h.k e).below hb,λ_=>hr.less h.b.size,h.c2,λ_=>h4,λe=>⟨(h.c7 e).1,rfl⟩,λe=>⟨(h.c9 e).1,rfl⟩⟩;have:=Ze h.box hb;rw[h9] at this ⊢;exact this
theorem CK.st7 (h:CK w g g1 x B1 B2 B4 B5 false B9 v5 v8 wx)(h2:B2=true)(h5:B5=true)(hg:w.heap.size<=g)(hne:g1≠g):CK w g g1 x B1 B2 B4 B5 true B9 v5 v8 (wx.setCell ⟨g,2,none⟩ v5) :=
 ⟨h.b.setCell (p:=⟨g,2,none⟩) hg _,Zk h.box 2 v5,ZX h.res (Zl wx g 2 v5) hne,λe=>(h.k e).set h.box (by decide),λe=>(h.h e).set h.box (by decide),h.c2,h.c5,λ_=>⟨h2,h5⟩,h.c9⟩
theorem CK.st9 (h:CK w g g1 x B1 B2 B4 B5 B7 false v5 v8 wx)(h2:B2=true)(h5:B5=true)(hg:w.heap.size<=g)(hne:g1≠g):CK w g g1 x B1 B2 B4 B5 B7 true v5 v8 (wx.setCell ⟨g,3,none⟩ v8) :=
 ⟨h.b.setCell (p:=⟨g,3,none⟩) hg _,Zk h.box 3 v8,ZX h.res (Zl wx g 3 v8) hne,λe=>(h.k e).set h.box (by decide),λe=>(h.h e).set h.box (by decide),h.c2,h.c5,h.c7,λ_=>⟨h2,h5⟩⟩
theorem CK.free1 (h:CK w g g1 x false B2 B4 B5 B7 B9 v5 v8 wx):B2=false/\B7=false/\B9=false:=by
 have h2:B2=false:=by cases hB:B2;rfl;(have:=h.c2 hB;cases this)
 refine⟨h2,?_,?_⟩
 ·cases hB:B7;rfl;(have:=(h.c7 hB).1;rw[h2] at this;cases this)
 ·cases hB:B9;rfl;(have:=(h.c9 hB).1;rw[h2] at this;cases this)
theorem CK.free4 (h:CK w g g1 x B1 B2 false B5 B7 B9 v5 v8 wx):B5=false/\B7=false/\B9=false:=by
 have h2:B5=false:=by cases hB:B5;rfl;(have:=h.c5 hB;cases this)
 refine⟨h2,?_,?_⟩
 ·cases hB:B7;rfl;(have:=(h.c7 hB).2;rw[h2] at this;cases this)
 ·cases hB:B9;rfl;(have:=(h.c9 hB).2;rw[h2] at this;cases this)
end
theorem Yr (x:DeskV)(w:World)(hx:x.good w w.heap.size) :
  Calls Tryz.prog 29 #[.agg #[.string x.fStroke,.int .i64 x.fStakes,.slice x.A x.n x.c,.slice x.A' x.n' x.c',.string x.fLog]] w λe w'=>∃x':DeskV,e = .returned (.agg #[.string x'.fStroke,.int .i64 x'.fStakes,.slice x'.A x'.n x'.c,.slice x'.A' x'.n' x'.c',.string x'.fLog])/\x'.pure=x.pure/\DV w' w.heap.size x'/\Below w.heap.size w w':=by
 have hxh:=Za hx;clear hx;go_enter Tryz.func29,Tryz.ntmps29;go_upto_region 1 with fail
 obtain⟨W0,hW0⟩:∃W0,W0=((w.alloc (Obj.cells #[Value.string x.fStroke,Value.int IntKind.i64 x.fStakes,Value.slice x.A x.n x.c,Value.slice x.A' x.n' x.c',Value.string x.fLog] 29)).alloc (Obj.cells #[Value.string ⟨#[]⟩,Value.int IntKind.i64 0,Value.slice none 0 0,Value.slice none 0 0,Value.string ⟨#[]⟩] 29)):=⟨_,rfl⟩;have hB0:=Za (show Below w.heap.size w W0 by rw[hW0];go_grown);have k0:W0.heap[w.heap.size]?=some (.cells #[Value.string x.fStroke,Value.int IntKind.i64 x.fStakes,Value.slice x.A x.n x.c,Value.slice x.A' x.n' x.c',Value.string x.fLog] 29 (0,0)):=by rw[hW0];exact Zc (heap_alloc_new w _)
 have k1:W0.heap[w.heap.size+1]?=some (.cells #[Value.string ⟨#[]⟩,Value.int IntKind.i64 0,Value.slice none 0 0,Value.slice none 0 0,Value.string ⟨#[]⟩] 29 (0,0)):=by rw[hW0];exact ZA (by simp)
 rw[←hW0];clear hW0;have hk0:=Za k0;have hk1:=Za k1;refine Xw (by kernel_rfl) (λlx a wx=>∃(B0 B1 B2 B3 B4 B5 B6 B7 B8 B9:Bool) (v3 v4 v5 v6 v7 v8 v9 v10:Value),lx=#[B0,B1,B2,B3,B4,B5,B6,B7,B8,B9]/\a={ tmps:=#[Value.agg #[Value.string x.fStroke,Value.int IntKind.i64 x.fStakes,Value.slice x.A x.n x.c,Value.slice x.A' x.n' x.c',Value.string x.fLog],Value.pointer (some { block:=w.heap.size,off:=0 }),Value.pointer (some { block:=w.heap.size+1,off:=0 }),v3,v4,v5,v6,v7,v8,v9,v10,undef],defers:=[] }/\(B0=true→v3 = .pointer (some ⟨w.heap.size,2,none⟩))/\(B1=true→v4 = .slice x.A x.n x.c)/\(B3=true→v6 = .pointer (some ⟨w.heap.size,3,none⟩))/\(B4=true→v7 = .slice x.A' x.n' x.c')/\(B6=true→v9 = .pointer (some ⟨w.heap.size,2,none⟩))/\(B8=true→v10 = .pointer (some ⟨w.heap.size,3,none⟩))/\CK w w.heap.size (w.heap.size+1) x B1 B2 B4 B5 B7 B9 v5 v8 wx) ?_ ?_ ?_
 ·exact⟨false,false,false,false,false,false,false,false,false,false,undef,undef,undef,undef,undef,undef,undef,undef,rfl,rfl,λe=>(by cases e),λe=>(by cases e),λe=>(by cases e),λe=>(by cases e),λe=>(by cases e),λe=>(by cases e),⟨Zb hB0.out 1,Ze hk0.out (Zb (Below.refl _ _) 1),Ze hk1.out (Zb (Below.refl _ _) 1),λe=>(by cases e),λe=>(by cases e),λe=>(by cases e),λe=>(by cases e),λe=>(by cases e),λe=>(by cases e)⟩⟩
 ·rintro lx a wx ⟨B0,B1,B2,B3,B4,B5,B6,B7,B8,B9,v3,v4,v5,v6,v7,v8,v9,v10,rfl,rfl,f0,f1,f3,f4,f6,f8,hE⟩ i hi hl ha
  have hi10:i<10:=hi;have hEh:=Za hE;clear hE hi;rcases(by omega:i=0\/i=1\/i=2\/i=3\/i=4\/i=5\/i=6\/i=7\/i=8\/i=9) with rfl|rfl|rfl|rfl|rfl|rfl|rfl|rfl|rfl|rfl
  ·have hb:B0=false:=hl
   clear hl;obtain rfl:=hb;clear ha;refine Zn rfl rfl λK hK=>?_
   go_simp
   refine hK _ _ ?_;exact⟨true,B1,B2,B3,B4,B5,B6,B7,B8,B9,_,_,_,_,_,_,_,_,rfl,rfl,(by first|exact f0|exact λ_=>rfl|fail),(by first|exact f1|exact λ_=>rfl|fail),(by first|exact f3|exact λ_=>rfl|fail),(by first|exact f4|exact λ_=>rfl|fail),(by first|exact f6|exact λ_=>rfl|fail),(by first|exact f8|exact λ_=>rfl|fail),hEh.out⟩
  ·have hb:B1=false:=hl
   clear hl;obtain rfl:=hb;simp[Region.binds] at ha;obtain rfl:=f0 ha;obtain⟨q2,q7,q9⟩:=hEh.out.free1;have bx:=hEh.out.box;rw[q7,q9] at bx;have cc:=(Zs bx).2.2.1;simp only[Bool.false_eq_true,if_false] at cc;clear bx;refine Zn rfl rfl λK hK=>?_
   go_simp
   refine hK _ _ ?_;exact⟨B0,true,B2,B3,B4,B5,B6,B7,B8,B9,_,_,_,_,_,_,_,_,rfl,rfl,(by first|exact f0|exact λ_=>rfl|fail),(by first|exact f1|exact λ_=>rfl|fail),(by first|exact f3|exact λ_=>rfl|fail),(by first|exact f4|exact λ_=>rfl|fail),(by first|exact f6|exact λ_=>rfl|fail),(by first|exact f8|exact λ_=>rfl|fail),⟨hEh.out.b,hEh.out.box,hEh.out.res,hEh.out.k,hEh.out.h,λ_=>rfl,hEh.out.c5,hEh.out.c7,hEh.out.c9⟩⟩
  ·have hb:B2=false:=hl
   clear hl;obtain rfl:=hb;simp[Region.binds] at ha;have h1:B1=true:=by first|exact ha|exact ha.1|fail
   obtain rfl:=f1 h1;refine Zn rfl rfl λK hK=>?_
   go_simp
   refine(ZaT x.A x.n x.c x.kinds _ hxh.out.nk (hxh.out.go hEh.out.b).kinds).mono ?_;rintro e w4 ⟨u,rfl,hr4,hb4⟩;refine hK _ _ ?_;exact⟨B0,B1,true,B3,B4,B5,B6,B7,B8,B9,_,_,_,_,_,_,_,_,rfl,rfl,(by first|exact f0|exact λ_=>rfl|fail),(by first|exact f1|exact λ_=>rfl|fail),(by first|exact f3|exact λ_=>rfl|fail),(by first|exact f4|exact λ_=>rfl|fail),(by first|exact f6|exact λ_=>rfl|fail),(by first|exact f8|exact λ_=>rfl|fail),hEh.out.clK h1 hr4 hb4⟩
  ·have hb:B3=false:=hl
   clear hl;obtain rfl:=hb;clear ha;refine Zn rfl rfl λK hK=>?_
   go_simp
   refine hK _ _ ?_;exact⟨B0,B1,B2,true,B4,B5,B6,B7,B8,B9,_,_,_,_,_,_,_,_,rfl,rfl,(by first|exact f0|exact λ_=>rfl|fail),(by first|exact f1|exact λ_=>rfl|fail),(by first|exact f3|exact λ_=>rfl|fail),(by first|exact f4|exact λ_=>rfl|fail),(by first|exact f6|exact λ_=>rfl|fail),(by first|exact f8|exact λ_=>rfl|fail),hEh.out⟩
  ·have hb:B4=false:=hl
   clear hl;obtain rfl:=hb;simp[Region.binds] at ha;obtain rfl:=f3 ha;obtain⟨q5,q7,q9⟩:=hEh.out.free4;have bx:=hEh.out.box;rw[q7,q9] at bx;have cc:=(Zs bx).2.2.2.1;simp only[Bool.false_eq_true,if_false] at cc;clear bx;refine Zn rfl rfl λK hK=>?_
   go_simp
   refine hK _ _ ?_;exact⟨B0,B1,B2,B3,true,B5,B6,B7,B8,B9,_,_,_,_,_,_,_,_,rfl,rfl,(by first|exact f0|exact λ_=>rfl|fail),(by first|exact f1|exact λ_=>rfl|fail),(by first|exact f3|exact λ_=>rfl|fail),(by first|exact f4|exact λ_=>rfl|fail),(by first|exact f6|exact λ_=>rfl|fail),(by first|exact f8|exact λ_=>rfl|fail),⟨hEh.out.b,hEh.out.box,hEh.out.res,hEh.out.k,hEh.out.h,hEh.out.c2,λ_=>rfl,hEh.out.c7,hEh.out.c9⟩⟩
  ·have hb:B5=false:=hl
   clear hl;obtain rfl:=hb;simp[Region.binds] at ha;have h4:B4=true:=by first|exact ha|exact ha.1|fail
   obtain rfl:=f4 h4;refine Zn rfl rfl λK hK=>?_
   go_simp
   refine(Uh x.A' x.n' x.c' x.heaps _ hxh.out.nh (hxh.out.go hEh.out.b).heaps).mono ?_;rintro e w4 ⟨u,rfl,hr4,hb4⟩;refine hK _ _ ?_;exact⟨B0,B1,B2,B3,B4,true,B6,B7,B8,B9,_,_,_,_,_,_,_,_,rfl,rfl,(by first|exact f0|exact λ_=>rfl|fail),(by first|exact f1|exact λ_=>rfl|fail),(by first|exact f3|exact λ_=>rfl|fail),(by first|exact f4|exact λ_=>rfl|fail),(by first|exact f6|exact λ_=>rfl|fail),(by first|exact f8|exact λ_=>rfl|fail),hEh.out.clH h4 hr4.res hb4⟩
  ·have hb:B6=false:=hl
   clear hl;obtain rfl:=hb;clear ha;refine Zn rfl rfl λK hK=>?_
   go_simp
   refine hK _ _ ?_;exact⟨B0,B1,B2,B3,B4,B5,true,B7,B8,B9,_,_,_,_,_,_,_,_,rfl,rfl,(by first|exact f0|exact λ_=>rfl|fail),(by first|exact f1|exact λ_=>rfl|fail),(by first|exact f3|exact λ_=>rfl|fail),(by first|exact f4|exact λ_=>rfl|fail),(by first|exact f6|exact λ_=>rfl|fail),(by first|exact f8|exact λ_=>rfl|fail),hEh.out⟩
  ·have hb:B7=false:=hl
   clear hl;obtain rfl:=hb;simp[Region.binds] at ha;have h6:B6=true:=by first|exact ha.1|exact ha.2.1|fail
   have q2:B2=true:=by first|exact ha.1|exact ha.2.1|exact ha.2.2.1|exact ha.2.2.2|exact ha.2.2.2.1|exact ha.2.2.2.2.2.1|fail
   have q5:B5=true:=by first|exact ha.1|exact ha.2.1|exact ha.2.2.1|exact ha.2.2.2|exact ha.2.2.2.1|exact ha.2.2.2.2.2.1|fail
   obtain rfl:=f6 h6;obtain⟨Au,cu,hu,_⟩:=(hEh.out.k q2).slice;subst hu;have bx:=hEh.out.box;obtain⟨_,_,cc2,cc3,_,ff⟩:=Zs bx;have ff2:=ff 2;clear ff bx;have hnx:=Za (hEh.out.st7 q2 q5 (Nat.le_refl _) (by omega));refine Zn rfl rfl λK hK=>?_
   go_simp
   refine hK _ _ ?_;exact⟨B0,B1,B2,B3,B4,B5,B6,true,B8,B9,_,_,_,_,_,_,_,_,rfl,rfl,(by first|exact f0|exact λ_=>rfl|fail),(by first|exact f1|exact λ_=>rfl|fail),(by first|exact f3|exact λ_=>rfl|fail),(by first|exact f4|exact λ_=>rfl|fail),(by first|exact f6|exact λ_=>rfl|fail),(by first|exact f8|exact λ_=>rfl|fail),hnx.out⟩
  ·have hb:B8=false:=hl
   clear hl;obtain rfl:=hb;clear ha;refine Zn rfl rfl λK hK=>?_
   go_simp
   refine hK _ _ ?_;exact⟨B0,B1,B2,B3,B4,B5,B6,B7,true,B9,_,_,_,_,_,_,_,_,rfl,rfl,(by first|exact f0|exact λ_=>rfl|fail),(by first|exact f1|exact λ_=>rfl|fail),(by first|exact f3|exact λ_=>rfl|fail),(by first|exact f4|exact λ_=>rfl|fail),(by first|exact f6|exact λ_=>rfl|fail),(by first|exact f8|exact λ_=>rfl|fail),hEh.out⟩
  ·have hb:B9=false:=hl
   clear hl;obtain rfl:=hb;simp[Region.binds] at ha;have h8:B8=true:=by first|exact ha.1|exact ha.2.1|fail
   have q2:B2=true:=by first|exact ha.1|exact ha.2.1|exact ha.2.2.1|exact ha.2.2.2|exact ha.2.2.2.1|exact ha.2.2.2.2.2.1|fail
   have q5:B5=true:=by first|exact ha.1|exact ha.2.1|exact ha.2.2.1|exact ha.2.2.2|exact ha.2.2.2.1|exact ha.2.2.2.2.2.1|fail
   obtain rfl:=f8 h8;obtain⟨Au,cu,hu,_⟩:=(hEh.out.h q5).slice;subst hu;have bx:=hEh.out.box;obtain⟨_,_,cc2,cc3,_,ff⟩:=Zs bx;have ff2:=ff 3;clear ff bx;have hnx:=Za (hEh.out.st9 q2 q5 (Nat.le_refl _) (by omega));refine Zn rfl rfl λK hK=>?_
   go_simp
   refine hK _ _ ?_;exact⟨B0,B1,B2,B3,B4,B5,B6,B7,B8,true,_,_,_,_,_,_,_,_,rfl,rfl,(by first|exact f0|exact λ_=>rfl|fail),(by first|exact f1|exact λ_=>rfl|fail),(by first|exact f3|exact λ_=>rfl|fail),(by first|exact f4|exact λ_=>rfl|fail),(by first|exact f6|exact λ_=>rfl|fail),(by first|exact f8|exact λ_=>rfl|fail),hnx.out⟩
 ·rintro lx a wx ⟨B0,B1,B2,B3,B4,B5,B6,B7,B8,B9,v3,v4,v5,v6,v7,v8,v9,v10,rfl,rfl,f0,f1,f3,f4,f6,f8,hE⟩ hr
  have h9:=Yl (by kernel_rfl) rfl hr 10 9 (by decide) (by decide);have h7:=Yl (by kernel_rfl) rfl hr 10 7 (by decide) (by decide);change B9=true at h9;change B7=true at h7;subst h9 h7;obtain⟨h2,h5⟩:=hE.c7 rfl;have hK:=Za (hE.k h2);have hH:=Za (hE.h h5);obtain⟨A4,c4,hv4,_⟩:=hK.out.slice;obtain⟨A5,c5,hv5,_⟩:=hH.out.slice;subst hv4 hv5;have bx:=hE.box;rw[if_pos rfl,if_pos rfl] at bx;obtain⟨d0,d1,d2,d3,d4,_⟩:=Zs bx;obtain⟨r0,r1,r2,r3,r4,rf⟩:=Zs hE.res;have hBx:=Za hE.b;have hE0:=Za hE;have rf0:=rf 0;have rf1:=rf 1;have rf2:=rf 2;have rf3:=rf 3;have rf4:=rf 4;clear hE hr f0 f1 f3 f4 f6 f8 bx rf h2 h5;go_wp2_with fail
  have hres:=Zk (Zk (Zk (Zk (Zk hE0.out.res 0 (.string x.fStroke)) 1 (.int .i64 x.fStakes)) 2 (.slice A4 x.n c4)) 3 (.slice A5 x.n' c5)) 4 (.string x.fLog);obtain⟨b0,b1,b2,b3,b4,_⟩:=Zs hres;refine bodyPost_ret (v:=.agg #[.string x.fStroke,.int .i64 x.fStakes,.slice A4 x.n c4,.slice A5 x.n' c5,.string x.fLog]) (by simp[results,Tryz.results29,go_sem,b0,b1,b2,b3,b4]) rfl ?_;have hg1:w.heap.size<w.heap.size+1:=by omega
  have hb5:Below w.heap.size w _:=((((hBx.out.setCell (p:=⟨w.heap.size+1,0,none⟩) (by show w.heap.size<=w.heap.size+1;omega) (.string x.fStroke)).setCell (p:=⟨w.heap.size+1,1,none⟩) (by show w.heap.size<=w.heap.size+1;omega) (.int .i64 x.fStakes)).setCell (p:=⟨w.heap.size+1,2,none⟩) (by show w.heap.size<=w.heap.size+1;omega) (.slice A4 x.n c4)).setCell (p:=⟨w.heap.size+1,3,none⟩) (by show w.heap.size<=w.heap.size+1;omega) (.slice A5 x.n' c5)).setCell (p:=⟨w.heap.size+1,4,none⟩) (by show w.heap.size<=w.heap.size+1;omega) (.string x.fLog);have e0:=hE0.out.res;have e1:=Zk e0 0 (.string x.fStroke);have e2:=Zk e1 1 (.int .i64 x.fStakes);have e3:=Zk e2 2 (.slice A4 x.n c4);have e4:=Zk e3 3 (.slice A5 x.n' c5);exact⟨{ x with A:=A4,c:=c4,A':=A5,c':=c5 },rfl,rfl,⟨((((hK.out.set e0 (by decide)).set e1 (by decide)).set e2 (by decide)).set e3 (by decide)).set e4 (by decide),((((hH.out.set e0 (by decide)).set e1 (by decide)).set e2 (by decide)).set e3 (by decide)).set e4 (by decide),hxh.out.nk,hxh.out.nh,hxh.out.fit⟩,hb5⟩
end Go.Proofs.YtfpaejlipaainaaGreatDoor
