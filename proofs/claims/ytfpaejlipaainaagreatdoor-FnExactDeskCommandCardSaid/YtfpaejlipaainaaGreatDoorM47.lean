/- Texts that belong together, joined: contracts and plain laws. No statement is proved here. -/
import Derived.Test.YtfpaejlipaainaaGreatDoorM45
import Derived.Test.YtfpaejlipaainaaGreatDoorM46
import Derived.Test.YtfpaejlipaainaaGreatDoorCards
import Derived.Test.YtfpaejlipaainaaGreatDoorTie
import Derived.Deep.DeepHandedRow
import Derived.Lay
set_option maxRecDepth 100000
set_option maxHeartbeats 8000000
namespace Go.Proofs.YtfpaejlipaainaaGreatDoor
open Go.ChangeShapes Go.WideShapes Go.ChangeAt Go.RowKit Go.Deep
section
variable {R:RowS}
section
variable {w w1 w2:World}{base g:Nat}{O:List ByteArray}{vn vt:Value}{r:DeskM × List ByteArray}
theorem Did.from(h:Did R w1 base g r O vn vt w2)(hb:Below base w w1):Did R w base g r O vn vt w2:=let ⟨x,vo,h1,h2,h3,h4⟩:=h;⟨x,vo,h1,h2,h3,hb.trans h4⟩
end
theorem Za2 {W:World}{B n c:Nat}{A:Option Addr}{T:List ByteArray}{y:ByteArray}(h:Own ZY 9 1 W B (.slice A (n+1) c) (n+1) (y :: T)):∃b o,A=some ⟨b,o,none⟩/\W.cell? ⟨b,o,none⟩=some (.string y):=by
 obtain⟨b,o,z,hA,_,hz,hc⟩:=(h.arr Zf).str (Nat.succ_pos n);have:z=y:=(Option.some.inj hz).symm;subst this;exact⟨b,o,hA,hc⟩
theorem ZfK {c:Cmd}{s y0:ByteArray}{T:List ByteArray}(hf:c.fits (T.length+1)=true)(hT:words 32 s=y0 :: T)(hs:s.size<=1048576):∀z∈WF c.form (y0 :: T) c.form.size,z.size<=1048576:=by
 have key:∀k,((y0 :: T).getD k ⟨#[]⟩).size<=1048576:=by
  intro k;rw[List.getD_eq_getElem?_getD];rcases hk:(y0 :: T)[k]? with _|z
  ·exact Nat.zero_le _
  ·have:=Z6 32 s (x:=z) (by rw[hT];exact List.mem_of_getElem? hk)
   show z.size<=_
   omega
 have hj:=(XF hT).2;intro z hz;cases c
 case cAdd =>
  cases hz
 case cBroken =>
  cases hz
 case cEnter =>
  rw[show WF Cmd.cEnter.form (y0 :: T) Cmd.cEnter.form.size=_ from Za5 hf] at hz;cases List.mem_singleton.1 hz
  exact key 2
 case cFew =>
  cases hz
 case cHeap =>
  rw[show WF Cmd.cHeap.form (y0 :: T) Cmd.cHeap.form.size=_ from Zdt] at hz;cases List.mem_singleton.1 hz
  omega
 case cHeaps =>
  cases hz
 case cJoins =>
  cases hz
 case cKinds =>
  cases hz
 case cLog =>
  cases hz
 case cRound =>
  cases hz
 case cSound =>
  cases hz
 case cStakes =>
  cases hz
 case cStroke =>
  rw[show WF Cmd.cStroke.form (y0 :: T) Cmd.cStroke.form.size=_ from Js hf] at hz;cases List.mem_singleton.1 hz
  omega
 case cWord =>
  rw[show WF Cmd.cWord.form (y0 :: T) Cmd.cWord.form.size=_ from Zds hf] at hz;cases List.mem_singleton.1 hz
  exact key 1
theorem Zh0 (w:World)(base g:Nat)(x:DeskV)(O:List ByteArray)(vo v0 v1:Value)(s y0:ByteArray)(T:List ByteArray)(h:SG R w base g x O vo v0 v1)(_:x.pure.ok=true)(_:O.length<=1000000)(hh:HS x)(hs:s.size<=1048576)(hT:words 32 s=y0 :: T)(hc:U2 y0=none) :
  Calls Tryz.prog 43 #[.pointer (some ⟨g,0,none⟩),.string s] w λe w'=>e = .returned (.bool (mLine x.pure s).isSome)/\∃vn vt,Did R w base g ((mLine x.pure s).getD (x.pure,[])) O vn vt w':=by
 have hM:Hid (mLine x.pure s=none):=Za (ZeW hc hT);have hS:=Za h;have hHS:=Za hh;have hbw:=Za h.bw;have hTh:=Za hT;have hmb:T.length<=1048576:=by have:=Yh 32 s;rw[hT] at this;simp only[List.length_cons] at this;omega
 obtain⟨m,hm⟩:∃m,m=T.length:=⟨_,rfl⟩;have hme:(y0 :: T).length=m+1:=by rw[hm];rfl
 rw[←hm] at hmb;have hFo:Hid (Vx y0=⟨#[45]⟩):=Za (by unfold Vx;rw[hc]);clear h hh;go_enter Tryz.func43,Tryz.ntmps43;go_wp2_with fail
 refine(ZS 32 s _ hs).mono ?_;rw[hT,hme];rintro e w1 ⟨v,rfl,ho,hb⟩;obtain⟨Aw,cw,rfl,_⟩:=ho.slice;obtain⟨b0,o0,rfl,c0⟩:=Za2 ho;have hOw:=Za ho;have hSz:Hid (∀y∈y0 :: T,y.size<=1048576):=Za (λy hy=>by have:=Z6 32 s (x:=y) (by rw[hT];exact hy);omega);have hB1:=Za (hb.mono hbw.out);have hS1:=Za (hS.out.below hb);have hme0:=Za hme;have hmh:=Za hm;clear ho hb hT hm hme;go_wp2_with fail
 refine(Wl y0 _).mono ?_;rw[hFo.out];rintro e w2 ⟨rfl,rfl⟩;go_wp2
 go_ret;exact⟨by rw[hM.out];rfl,v0,v1,by rw[hM.out];exact⟨x,vo,by rw[Option.getD_none,List.append_nil];exact hS1.out,rfl,hHS.out,hB1.out⟩⟩
theorem Zh1 (w:World)(base g:Nat)(x:DeskV)(O:List ByteArray)(vo v0 v1:Value)(s y0:ByteArray)(T:List ByteArray)(h:SG R w base g x O vo v0 v1)(_:x.pure.ok=true)(_:O.length<=1000000)(hh:HS x)(hs:s.size<=1048576)(hT:words 32 s=y0 :: T)(c:Cmd)(hc:y0=c.word)(hf:c.fits (T.length+1)=false) :
  Calls Tryz.prog 43 #[.pointer (some ⟨g,0,none⟩),.string s] w λe w'=>e = .returned (.bool (mLine x.pure s).isSome)/\∃vn vt,Did R w base g ((mLine x.pure s).getD (x.pure,[])) O vn vt w':=by
 have hM:Hid (mLine x.pure s=none):=Za (ZeX hT hc hf);have hS:=Za h;have hHS:=Za hh;have hbw:=Za h.bw;have hTh:=Za hT;have hmb:T.length<=1048576:=by have:=Yh 32 s;rw[hT] at this;simp only[List.length_cons] at this;omega
 obtain⟨m,hm⟩:∃m,m=T.length:=⟨_,rfl⟩;have hme:(y0 :: T).length=m+1:=by rw[hm];rfl
 rw[←hm] at hmb;obtain⟨F,hF⟩:∃F,F=c.form:=⟨_,rfl⟩;have hFh:=Za hF;have hFo:Hid (Vx y0=F):=Za (by rw[hc,hF];exact Wz c);have hnd:(F.toList == [45])=false:=by rw[hF];exact VJ c
 have hFt:Hid (∀W,Calls Tryz.prog 91 #[.string F,.int .i64 (m:Int)] W λe w'=>e = .returned (.bool false)/\W=w'):=Za (λW=>by have q:=Vz c m W (by omega);rw[show c.fits (m+1)=false by rw[hm];exact hf,←hF] at q;exact q);clear hF;have hch:=Za hc;clear hc;clear h hh;go_enter Tryz.func43,Tryz.ntmps43;go_wp2_with fail
 refine(ZS 32 s _ hs).mono ?_;rw[hT,hme];rintro e w1 ⟨v,rfl,ho,hb⟩;obtain⟨Aw,cw,rfl,_⟩:=ho.slice;obtain⟨b0,o0,rfl,c0⟩:=Za2 ho;have hOw:=Za ho;have hSz:Hid (∀y∈y0 :: T,y.size<=1048576):=Za (λy hy=>by have:=Z6 32 s (x:=y) (by rw[hT];exact hy);omega);have hB1:=Za (hb.mono hbw.out);have hS1:=Za (hS.out.below hb);have hme0:=Za hme;have hmh:=Za hm;clear ho hb hT hm hme;go_wp2_with fail
 refine(Wl y0 _).mono ?_;rw[hFo.out];rintro e w2 ⟨rfl,rfl⟩;go_wp2_with fail
 refine(hFt.out _).mono ?_;rintro e w3 ⟨rfl,rfl⟩;go_wp2
 go_ret;exact⟨by rw[hM.out];rfl,v0,v1,by rw[hM.out];exact⟨x,vo,by rw[Option.getD_none,List.append_nil];exact hS1.out,rfl,hHS.out,hB1.out⟩⟩
theorem Zjy (w:World)(base g:Nat)(x:DeskV)(O:List ByteArray)(vo v0 v1:Value)(s y0:ByteArray)(T:List ByteArray)(h:SG R w base g x O vo v0 v1)(_:x.pure.ok=true)(hO:O.length<=1000000)(hh:HS x)(hs:s.size<=1048576)(hT:words 32 s=y0 :: T)(c:Cmd)(hc:y0=c.word)(hf:c.fits (T.length+1)=true)(hp:c.plain=false)(hb:Xy c.skip T=false) :
  Calls Tryz.prog 43 #[.pointer (some ⟨g,0,none⟩),.string s] w λe w'=>e = .returned (.bool (mLine x.pure s).isSome)/\∃vn vt,Did R w base g ((mLine x.pure s).getD (x.pure,[])) O vn vt w':=by
 have hM:Hid (mLine x.pure s=some (x.pure,[errB 7])):=Za (ZgH hT hc hf hp hb);have hS:=Za h;have hHS:=Za hh;have hbw:=Za h.bw;have hTh:=Za hT;have hmb:T.length<=1048576:=by have:=Yh 32 s;rw[hT] at this;simp only[List.length_cons] at this;omega
 obtain⟨m,hm⟩:∃m,m=T.length:=⟨_,rfl⟩;have hme:(y0 :: T).length=m+1:=by rw[hm];rfl
 rw[←hm] at hmb;obtain⟨F,hF⟩:∃F,F=c.form:=⟨_,rfl⟩;have hFh:=Za hF;have hFo:Hid (Vx y0=F):=Za (by rw[hc,hF];exact Wz c);have hnd:(F.toList == [45])=false:=by rw[hF];exact VJ c
 have hFt:Hid (∀W,Calls Tryz.prog 91 #[.string F,.int .i64 (m:Int)] W λe w'=>e = .returned (.bool true)/\W=w'):=Za (λW=>by have q:=Vz c m W (by omega);rw[show c.fits (m+1)=true by rw[hm];exact hf,←hF] at q;exact q);clear hF;have hAll:Hid ((nmUp F (y0 :: T) F.size).all rdB=false):=Za (by rw[hFh.out,J0 hf,hp,hb];rfl);rw[←hm] at hf;have hfh:=Za hf;have hch:=Za hc;clear hc;clear h hh hb hp hf;go_enter Tryz.func43,Tryz.ntmps43;go_wp2_with fail
 refine(ZS 32 s _ hs).mono ?_;rw[hT,hme];rintro e w1 ⟨v,rfl,ho,hb⟩;obtain⟨Aw,cw,rfl,_⟩:=ho.slice;obtain⟨b0,o0,rfl,c0⟩:=Za2 ho;have hOw:=Za ho;have hSz:Hid (∀y∈y0 :: T,y.size<=1048576):=Za (λy hy=>by have:=Z6 32 s (x:=y) (by rw[hT];exact hy);omega);have hB1:=Za (hb.mono hbw.out);have hS1:=Za (hS.out.below hb);have hme0:=Za hme;have hmh:=Za hm;clear ho hb hT hm hme;go_wp2_with fail
 refine(Wl y0 _).mono ?_;rw[hFo.out];rintro e w2 ⟨rfl,rfl⟩;go_wp2_with fail
 refine(hFt.out _).mono ?_;rintro e w3 ⟨rfl,rfl⟩;go_wp2_with fail
 refine(UK w1 base g x O vo v0 v1 F (some ⟨b0,o0,none⟩) (m+1) cw (y0 :: T) w.heap.size hS1.out hOw.out (by rw[hFh.out];exact ZbY hfh.out) (by rw[hFh.out];exact Zhi c) (by rw[hFh.out,Wy (by rw[←hmh.out];exact hfh.out)];split<;>first|exact Nat.zero_le _|exact Nat.le_trans (Y4 _ _ _) (by have:=hmh.out;omega)) (by omega) hSz.out (by rw[hFh.out];exact J1 c)).mono ?_;rw[hAll.out];rintro e w3 ⟨rfl,vn,vt,_,hg3,hb3⟩;have hS3:=Za hg3;have hB3:=Za (hB1.out.trans hb3);clear hg3 hb3;go_wp2_with fail
 refine(YK w3 base g x O vo vn vt 7 hS3.out (by omega) (by omega) (by omega)).mono ?_;rintro e w4 ⟨rfl,hsd⟩;have hSd:=Za hsd;clear hsd;go_wp2
 go_ret;exact⟨by rw[hM.out];rfl,vn,vt,by rw[hM.out];exact(Said.didL hSd.out hHS.out).from hB3.out⟩
structure AH (c:Cmd)(R:RowS)(w:World)(base g:Nat)(x:DeskV)(O:List ByteArray)(vo vn vt:Value)(s y0:ByteArray)(T:List ByteArray):Prop where
 hx:SX R w base g x O vo vn vt ((nmUp c.form (y0 :: T) c.form.size).map rdI) (WF c.form (y0 :: T) c.form.size)
 hok:x.pure.ok=true
 hO:O.length<=1000000
 hh:HS x
 hT:words 32 s=y0 :: T
 hc:y0=c.word
 hf:c.fits (T.length+1)=true
 hb:c.plain=false→Xy c.skip T=true
def Ans (c:Cmd)(f:Nat):Prop:=∀(R:RowS) (w:World) (base g:Nat) (x:DeskV) (O:List ByteArray) (vo vn vt:Value) (s y0:ByteArray) (T:List ByteArray),AH c R w base g x O vo vn vt s y0 T →
  Calls Tryz.prog f #[.pointer (some ⟨g,0,none⟩)] w λe w'=>e = .returned (.tuple #[])/\Did R w base g ((mLine x.pure s).getD (x.pure,[])) O vn vt w'
theorem Ws {f:Nat}{vs:Array Value}{w:World}{base g:Nat}{r r':DeskM × List ByteArray}{O:List ByteArray}{vn vt:Value}(h:Calls Tryz.prog f vs w λe w'=>e = .returned (.tuple #[])/\Did R w base g r O vn vt w')(e:r'=r):Calls Tryz.prog f vs w λe w'=>e = .returned (.tuple #[])/\Did R w base g r' O vn vt w':=by rw[e];exact h
theorem Wr {f:Nat}{vs:Array Value}{w:World}{base g:Nat}{x:DeskV}{t:ByteArray}{r':DeskM × List ByteArray}{O:List ByteArray}{vn vt:Value}(hh:HS x)(h:Calls Tryz.prog f vs w λe w'=>e = .returned (.tuple #[])/\Said R w base g x (O++[t]) vn vt w')(e:r'=(x.pure,[t])):Calls Tryz.prog f vs w λe w'=>e = .returned (.tuple #[])/\Did R w base g r' O vn vt w':=by
 rw[e];exact h.mono λe w' h=>⟨h.1,Said.didL h.2 hh⟩
theorem Zj9:Ans .cAdd 93:=by
 intro R w base g x O vo vn vt s y0 T h;have hT:=h.hT;have hX:=h.hx;rw[show List.map rdI _=_ from Vw h.hf rfl (h.hb rfl)] at hX;have hl0:0<(numsL Cmd.cAdd.skip T).length:=Nat.lt_of_lt_of_le (by decide) (YC h.hf rfl rfl (h.hb rfl)).1;obtain⟨N,hN⟩:∃N,N=numsL Cmd.cAdd.skip T:=⟨_,rfl⟩;rw[←hN] at hX hl0;refine Wr h.hh (Zh8 w base g x O vo vn vt _ _ hX h.hok h.hO hl0) ?_;rw[YO hT h.hc h.hf rfl (h.hb rfl) (d':=x.pure) (t:=numLine [mStk x.fStroke x.fStakes.toNat (N.getD 0 0)]) (k:=mStkC x.fStroke x.fStakes.toNat (N.getD 0 0)) (by rw[←hN,hT];rfl),Wp];rfl
theorem ZfB:Ans .cBroken 94:=by
 intro R w base g x O vo vn vt s y0 T h;have hT:=h.hT;have hX:=h.hx;rw[show List.map rdI _=_ from Vw h.hf rfl (h.hb rfl)] at hX;obtain⟨N,hN⟩:∃N,N=numsL Cmd.cBroken.skip T:=⟨_,rfl⟩;rw[←hN] at hX;refine Wr h.hh (Zcw w base g x O vo vn vt _ _ hX h.hok h.hO) ?_;rw[YO hT h.hc h.hf rfl (h.hb rfl) (d':=x.pure) (t:=numLine (newL x.fStakes N)) (k:=newC x.fStakes N) (by rw[←hN,hT];rfl),Wp];rfl
theorem ZhE:Ans .cEnter 95:=by
 intro R w base g x O vo vn vt s y0 T h;have hT:=h.hT;have hX:=h.hx;rw[show List.map rdI _=_ from Vw h.hf rfl (h.hb rfl)] at hX;rw[show WF Cmd.cEnter.form (y0 :: T) Cmd.cEnter.form.size=[(y0 :: T).getD 2 ⟨#[]⟩] from Za5 h.hf] at hX;have hl1:1<(numsL Cmd.cEnter.skip T).length:=Nat.lt_of_lt_of_le (by decide) (YC h.hf rfl rfl (h.hb rfl)).1;obtain⟨N,hN⟩:∃N,N=numsL Cmd.cEnter.skip T:=⟨_,rfl⟩;rw[←hN] at hX hl1;refine Ws (ZeC w base g x O vo vn vt _ _ hX h.hok h.hO h.hh hl1 Nat.zero_lt_one) ?_;rw[YO hT h.hc h.hf rfl (h.hb rfl) (d':={ x.pure with lg:=(mAdd x.fLog (⟨N.getD 0 0,((y0 :: T).getD 2 ⟨#[]⟩),N.getD 1 0⟩:Entry)).1 }) (t:=numLine [sumOf id (Yu (mAdd x.fLog (⟨N.getD 0 0,((y0 :: T).getD 2 ⟨#[]⟩),N.getD 1 0⟩:Entry)).1 ((y0 :: T).getD 2 ⟨#[]⟩))]) (k:=(mAdd x.fLog (⟨N.getD 0 0,((y0 :: T).getD 2 ⟨#[]⟩),N.getD 1 0⟩:Entry)).2) (by rw[←hN,hT];rfl),VD];rfl
theorem Zj8:Ans .cFew 96:=by
 intro R w base g x O vo vn vt s y0 T h;have hT:=h.hT;have hX:=h.hx;rw[show List.map rdI _=_ from Vw h.hf rfl (h.hb rfl)] at hX;have hl0:0<(numsL Cmd.cFew.skip T).length:=Nat.lt_of_lt_of_le (by decide) (YC h.hf rfl rfl (h.hb rfl)).1;obtain⟨N,hN⟩:∃N,N=numsL Cmd.cFew.skip T:=⟨_,rfl⟩;rw[←hN] at hX hl0;refine Wr h.hh (Zh7 w base g x O vo vn vt _ _ hX h.hok h.hO hl0) ?_;rw[YO hT h.hc h.hf rfl (h.hb rfl) (d':=x.pure) (t:=numLine (fewL x.kinds (N.getD 0 0))) (k:=fewC x.kinds (N.getD 0 0)) (by rw[←hN,hT];rfl),Wp];rfl
theorem ZiO:Ans .cHeap 97:=by
 intro R w base g x O vo vn vt s y0 T h;have hT:=h.hT;have hX:=h.hx;rw[show nmUp _ _ _=_ from Wy h.hf] at hX;rw[show WF Cmd.cHeap.form (y0 :: T) Cmd.cHeap.form.size=[joinSp T] from Zdt] at hX;refine Ws (Zgg w base g x O vo vn vt _ _ hX h.hok h.hO h.hh Nat.zero_lt_one) ?_;rw[Vf (d':=(mText x.pure .cHeap (joinSp T)).1) (L:=(mText x.pure .cHeap (joinSp T)).2.1) (k:=(mText x.pure .cHeap (joinSp T)).2.2) hT h.hc h.hf rfl rfl];simp only[mText,List.getD_cons_zero];split<;>rfl
theorem ZhD:Ans .cHeaps 98:=by
 intro R w base g x O vo vn vt s y0 T h;have hT:=h.hT;have hX:=h.hx;rw[show nmUp _ _ _=_ from Wy h.hf] at hX;refine Ws (ZeB w base g x O vo vn vt _ _ hX h.hok h.hO h.hh) ?_;rw[Vf hT h.hc h.hf rfl rfl];rfl
theorem ZhC:Ans .cJoins 99:=by
 intro R w base g x O vo vn vt s y0 T h;have hT:=h.hT;have hX:=h.hx;rw[show List.map rdI _=_ from Vw h.hf rfl (h.hb rfl)] at hX;have hl0:0<(numsL Cmd.cJoins.skip T).length:=Nat.lt_of_lt_of_le (by decide) (YC h.hf rfl rfl (h.hb rfl)).1;obtain⟨N,hN⟩:∃N,N=numsL Cmd.cJoins.skip T:=⟨_,rfl⟩;rw[←hN] at hX hl0;refine Wr h.hh (ZeA w base g x O vo vn vt _ _ hX h.hok h.hO hl0) ?_;rw[YO hT h.hc h.hf rfl (h.hb rfl) (d':=x.pure) (t:=numLine (ordL x.fStakes (N.getD 0 0) (N.drop 1))) (k:=ordC x.fStakes (N.getD 0 0) (N.drop 1)) (by rw[←hN,hT];rfl),Wp];rfl
theorem ZhB:Ans .cKinds 100:=by
 intro R w base g x O vo vn vt s y0 T h;have hT:=h.hT;have hX:=h.hx;rw[show List.map rdI _=_ from Vw h.hf rfl (h.hb rfl)] at hX;obtain⟨N,hN⟩:∃N,N=numsL Cmd.cKinds.skip T:=⟨_,rfl⟩;rw[←hN] at hX;refine Ws (Zez w base g x O vo vn vt _ _ hX h.hok h.hO h.hh) ?_;rw[YO hT h.hc h.hf rfl (h.hb rfl) (d':={ x.pure with ks:=Yn N }) (t:=({ x.pure with ks:=Yn N }:DeskM).text) (k:=kindsCd N) (by rw[←hN];rfl)];rfl
theorem Zj7:Ans .cLog 101:=by
 intro R w base g x O vo vn vt s y0 T h;have hT:=h.hT;have hX:=h.hx;rw[show nmUp _ _ _=_ from Wy h.hf] at hX;refine Ws (Zh6 w base g x O vo vn vt _ _ hX h.hok h.hO h.hh) ?_;rw[Vf hT h.hc h.hf rfl rfl];rfl
theorem ZhA:Ans .cRound 102:=by
 intro R w base g x O vo vn vt s y0 T h;have hT:=h.hT;have hX:=h.hx;rw[show List.map rdI _=_ from Vw h.hf rfl (h.hb rfl)] at hX;have hl0:0<(numsL Cmd.cRound.skip T).length:=Nat.lt_of_lt_of_le (by decide) (YC h.hf rfl rfl (h.hb rfl)).1;obtain⟨N,hN⟩:∃N,N=numsL Cmd.cRound.skip T:=⟨_,rfl⟩;rw[←hN] at hX hl0;refine Wr h.hh (Zey w base g x O vo vn vt _ _ hX h.hok h.hO hl0) ?_;rw[YO hT h.hc h.hf rfl (h.hb rfl) (d':=x.pure) (t:=mRoundT x.fStroke x.fStakes.toNat (N.getD 0 0)) (k:=mRoundC (N.getD 0 0)) (by rw[←hN,hT];rfl),Wp];rfl
theorem Zhz:Ans .cSound 103:=by
 intro R w base g x O vo vn vt s y0 T h;have hT:=h.hT;have hX:=h.hx;rw[show List.map rdI _=_ from Vw h.hf rfl (h.hb rfl)] at hX;have hl0:0<(numsL Cmd.cSound.skip T).length:=Nat.lt_of_lt_of_le (by decide) (YC h.hf rfl rfl (h.hb rfl)).1;obtain⟨N,hN⟩:∃N,N=numsL Cmd.cSound.skip T:=⟨_,rfl⟩;rw[←hN] at hX hl0;refine Wr h.hh (Zex w base g x O vo vn vt _ _ hX h.hok h.hO hl0) ?_;rw[YO hT h.hc h.hf rfl (h.hb rfl) (d':=x.pure) (t:=if mSound x.fStroke x.fStakes.toNat (N.getD 0 0)=true then ⟨#[121,101,115]⟩ else ⟨#[110,111]⟩) (k:=mSoundC (N.getD 0 0)) (by rw[←hN,hT];rfl),Wp];rfl
theorem ZfA:Ans .cStakes 104:=by
 intro R w base g x O vo vn vt s y0 T h;have hT:=h.hT;have hX:=h.hx;rw[show List.map rdI _=_ from Vw h.hf rfl (h.hb rfl)] at hX;have hl0:0<(numsL Cmd.cStakes.skip T).length:=Nat.lt_of_lt_of_le (by decide) (YC h.hf rfl rfl (h.hb rfl)).1;obtain⟨N,hN⟩:∃N,N=numsL Cmd.cStakes.skip T:=⟨_,rfl⟩;rw[←hN] at hX hl0;refine Ws (Zcv w base g x O vo vn vt _ _ hX h.hok h.hO h.hh hl0) ?_;rw[V6 hT h.hc h.hf (Qb hT rfl (h.hb rfl)),←hN];simp only[mWork];split<;>rfl
theorem Zfz:Ans .cStroke 105:=by
 intro R w base g x O vo vn vt s y0 T h;have hT:=h.hT;have hX:=h.hx;rw[show nmUp _ _ _=_ from Wy h.hf] at hX;rw[show WF Cmd.cStroke.form (y0 :: T) Cmd.cStroke.form.size=[joinSp T] from Js h.hf] at hX;refine Ws (Zcu w base g x O vo vn vt _ _ hX h.hok h.hO h.hh Nat.zero_lt_one) ?_;rw[Vf (d':=(mText x.pure .cStroke (joinSp T)).1) (L:=(mText x.pure .cStroke (joinSp T)).2.1) (k:=(mText x.pure .cStroke (joinSp T)).2.2) hT h.hc h.hf rfl rfl];simp only[mText,List.getD_cons_zero];split<;>rfl
theorem ZiN:Ans .cWord 106:=by
 intro R w base g x O vo vn vt s y0 T h;have hT:=h.hT;have hX:=h.hx;rw[show List.map rdI _=_ from Vw h.hf rfl (h.hb rfl)] at hX;rw[show WF Cmd.cWord.form (y0 :: T) Cmd.cWord.form.size=[(y0 :: T).getD 1 ⟨#[]⟩] from Zds h.hf] at hX;have hl0:0<(numsL Cmd.cWord.skip T).length:=Nat.lt_of_lt_of_le (by decide) (YC h.hf rfl rfl (h.hb rfl)).1;obtain⟨N,hN⟩:∃N,N=numsL Cmd.cWord.skip T:=⟨_,rfl⟩;rw[←hN] at hX hl0;refine Wr h.hh (Zgf w base g x O vo vn vt _ _ hX h.hok h.hO hl0 Nat.zero_lt_one) ?_;rw[YO hT h.hc h.hf rfl (h.hb rfl) (d':=x.pure) (t:=mRowT ((y0 :: T).getD 1 ⟨#[]⟩) x.fStakes.toNat (N.getD 0 0)) (k:=mRowC ((y0 :: T).getD 1 ⟨#[]⟩) (N.getD 0 0)) (by rw[←hN,hT];rfl),Wp];rfl
theorem Zil {d:DeskM}{s y0:ByteArray}{T:List ByteArray}{c:Cmd}(hT:words 32 s=y0 :: T)(hc:y0=c.word)(hf:c.fits (T.length+1)=true):(mLine d s).isSome=true:=by rw[V6 hT hc hf rfl];rfl
theorem Zjx (w:World)(base g:Nat)(x:DeskV)(O:List ByteArray)(vo v0 v1:Value)(s y0:ByteArray)(T:List ByteArray)(h:SG R w base g x O vo v0 v1)(hok:x.pure.ok=true)(hO:O.length<=1000000)(hh:HS x)(hs:s.size<=1048576)(hT:words 32 s=y0 :: T)(c:Cmd)(hc:y0=c.word)(hf:c.fits (T.length+1)=true)(hb:c.plain=false→Xy c.skip T=true) :
  Calls Tryz.prog 43 #[.pointer (some ⟨g,0,none⟩),.string s] w λe w'=>e = .returned (.bool (mLine x.pure s).isSome)/\∃vn vt,Did R w base g ((mLine x.pure s).getD (x.pure,[])) O vn vt w':=by
 rw[Zil (d:=x.pure) hT hc hf];obtain⟨rA,hrA⟩:∃rA,rA=(mLine x.pure s).getD (x.pure,[]):=⟨_,rfl⟩;have hrAh:=Za hrA;rw[←hrA];clear hrA;have hS:=Za h;have hHS:=Za hh;have hbw:=Za h.bw;have hTh:=Za hT;have hmb:T.length<=1048576:=by have:=Yh 32 s;rw[hT] at this;simp only[List.length_cons] at this;omega
 obtain⟨m,hm⟩:∃m,m=T.length:=⟨_,rfl⟩;have hme:(y0 :: T).length=m+1:=by rw[hm];rfl
 rw[←hm] at hmb;obtain⟨F,hF⟩:∃F,F=c.form:=⟨_,rfl⟩;have hFh:=Za hF;have hFo:Hid (Vx y0=F):=Za (by rw[hc,hF];exact Wz c);have hnd:(F.toList == [45])=false:=by rw[hF];exact VJ c
 have hFt:Hid (∀W,Calls Tryz.prog 91 #[.string F,.int .i64 (m:Int)] W λe w'=>e = .returned (.bool true)/\W=w'):=Za (λW=>by have q:=Vz c m W (by omega);rw[show c.fits (m+1)=true by rw[hm];exact hf,←hF] at q;exact q);clear hF;have hAll:Hid ((nmUp F (y0 :: T) F.size).all rdB=true):=Za (by rw[hFh.out,J0 hf];split<;>first|rfl|(rename_i hp;exact hb (by simpa using hp)));have hTz:Hid (∀z∈WF F (y0 :: T) F.size,z.size<=1048576):=Za (by rw[hFh.out];exact ZfK hf hT hs);have hNl:Hid ((nmUp F (y0 :: T) F.size).length<=T.length):=Za (by rw[hFh.out,Wy hf];split<;>first|exact Nat.zero_le _|exact Y4 _ _ _);have hfh0:=Za hf;have hbh:=Za hb;rw[←hm] at hf;have hfh:=Za hf;have hch:=Za hc;clear hc;clear h hh hb hf;go_enter Tryz.func43,Tryz.ntmps43;go_wp2_with fail
 refine(ZS 32 s _ hs).mono ?_;rw[hT,hme];rintro e w1 ⟨v,rfl,ho,hb⟩;obtain⟨Aw,cw,rfl,_⟩:=ho.slice;obtain⟨b0,o0,rfl,c0⟩:=Za2 ho;have hOw:=Za ho;have hSz:Hid (∀y∈y0 :: T,y.size<=1048576):=Za (λy hy=>by have:=Z6 32 s (x:=y) (by rw[hT];exact hy);omega);have hB1:=Za (hb.mono hbw.out);have hS1:=Za (hS.out.below hb);have hme0:=Za hme;have hmh:=Za hm;clear ho hb hT hm hme;go_wp2_with fail
 refine(Wl y0 _).mono ?_;rw[hFo.out];rintro e w2 ⟨rfl,rfl⟩;go_wp2_with fail
 refine(hFt.out _).mono ?_;rintro e w3 ⟨rfl,rfl⟩;go_wp2_with fail
 refine(UK w1 base g x O vo v0 v1 F (some ⟨b0,o0,none⟩) (m+1) cw (y0 :: T) w.heap.size hS1.out hOw.out (by rw[hFh.out];exact ZbY hfh.out) (by rw[hFh.out];exact Zhi c) (by rw[hFh.out,Wy (by rw[←hmh.out];exact hfh.out)];split<;>first|exact Nat.zero_le _|exact Nat.le_trans (Y4 _ _ _) (by have:=hmh.out;omega)) (by omega) hSz.out (by rw[hFh.out];exact J1 c)).mono ?_;rw[hAll.out];rintro e w3 ⟨rfl,vn,vt,hwd,hg3,hb3⟩;have hD3:=Za (hwd rfl);have hB3:=Za (hB1.out.trans hb3);have hA3:Hid (AH c R w3 base g x O vo vn vt s y0 T):=Za ⟨by
  rw[←hFh.out];exact⟨hg3,(by rw[List.length_map];have:=hD3.out.nm.less hS1.out.bw;rw[List.length_map] at this;exact this),hD3.out.tx.less hS1.out.bw,(by rw[List.length_map];have:=hNl.out;have:=hmh.out;omega),(λz hz=>by obtain⟨a,_,rfl⟩:=List.mem_map.1 hz;exact ZkB a),hTz.out⟩,hok,hO,hHS.out,hTh.out,hch.out,hfh0.out,hbh.out⟩
 obtain⟨b3,o3,e3,c3⟩:=Za2 (hOw.out.ty hD3.out.gr (λb e=>by cases e;exact⟨_,_,hS1.out.box,by decide⟩));cases e3
 rw[hch.out] at c3;clear hwd hg3 hb3 hD3 hAll c0 hFt hFo hnd hS hSz hOw hTz hNl;cases c
 case cAdd =>
  simp only[Cmd.word] at c3;go_wp2_with fail
  refine(Zj9 R w3 base g x O vo vn vt s y0 T hA3.out).mono ?_;rw[←hrAh.out];rintro e w4 ⟨rfl,hsd⟩;have hSd:=Za (hsd.from hB3.out);clear hsd;go_wp2
  go_ret;exact⟨rfl,vn,vt,hSd.out⟩
 case cBroken =>
  simp only[Cmd.word] at c3;go_wp2_with fail
  refine(ZfB R w3 base g x O vo vn vt s y0 T hA3.out).mono ?_;rw[←hrAh.out];rintro e w4 ⟨rfl,hsd⟩;have hSd:=Za (hsd.from hB3.out);clear hsd;go_wp2
  go_ret;exact⟨rfl,vn,vt,hSd.out⟩
 case cEnter =>
  simp only[Cmd.word] at c3;go_wp2_with fail
  refine(ZhE R w3 base g x O vo vn vt s y0 T hA3.out).mono ?_;rw[←hrAh.out];rintro e w4 ⟨rfl,hsd⟩;have hSd:=Za (hsd.from hB3.out);clear hsd;go_wp2
  go_ret;exact⟨rfl,vn,vt,hSd.out⟩
 case cFew =>
  simp only[Cmd.word] at c3;go_wp2_with fail
  refine(Zj8 R w3 base g x O vo vn vt s y0 T hA3.out).mono ?_;rw[←hrAh.out];rintro e w4 ⟨rfl,hsd⟩;have hSd:=Za (hsd.from hB3.out);clear hsd;go_wp2
  go_ret;exact⟨rfl,vn,vt,hSd.out⟩
 case cHeap =>
  simp only[Cmd.word] at c3;go_wp2_with fail
  refine(ZiO R w3 base g x O vo vn vt s y0 T hA3.out).mono ?_;rw[←hrAh.out];rintro e w4 ⟨rfl,hsd⟩;have hSd:=Za (hsd.from hB3.out);clear hsd;go_wp2
  go_ret;exact⟨rfl,vn,vt,hSd.out⟩
 case cHeaps =>
  simp only[Cmd.word] at c3;go_wp2_with fail
  refine(ZhD R w3 base g x O vo vn vt s y0 T hA3.out).mono ?_;rw[←hrAh.out];rintro e w4 ⟨rfl,hsd⟩;have hSd:=Za (hsd.from hB3.out);clear hsd;go_wp2
  go_ret;exact⟨rfl,vn,vt,hSd.out⟩
 case cJoins =>
  simp only[Cmd.word] at c3;go_wp2_with fail
  refine(ZhC R w3 base g x O vo vn vt s y0 T hA3.out).mono ?_;rw[←hrAh.out];rintro e w4 ⟨rfl,hsd⟩;have hSd:=Za (hsd.from hB3.out);clear hsd;go_wp2
  go_ret;exact⟨rfl,vn,vt,hSd.out⟩
 case cKinds =>
  simp only[Cmd.word] at c3;go_wp2_with fail
  refine(ZhB R w3 base g x O vo vn vt s y0 T hA3.out).mono ?_;rw[←hrAh.out];rintro e w4 ⟨rfl,hsd⟩;have hSd:=Za (hsd.from hB3.out);clear hsd;go_wp2
  go_ret;exact⟨rfl,vn,vt,hSd.out⟩
 case cLog =>
  simp only[Cmd.word] at c3;go_wp2_with fail
  refine(Zj7 R w3 base g x O vo vn vt s y0 T hA3.out).mono ?_;rw[←hrAh.out];rintro e w4 ⟨rfl,hsd⟩;have hSd:=Za (hsd.from hB3.out);clear hsd;go_wp2
  go_ret;exact⟨rfl,vn,vt,hSd.out⟩
 case cRound =>
  simp only[Cmd.word] at c3;go_wp2_with fail
  refine(ZhA R w3 base g x O vo vn vt s y0 T hA3.out).mono ?_;rw[←hrAh.out];rintro e w4 ⟨rfl,hsd⟩;have hSd:=Za (hsd.from hB3.out);clear hsd;go_wp2
  go_ret;exact⟨rfl,vn,vt,hSd.out⟩
 case cSound =>
  simp only[Cmd.word] at c3;go_wp2_with fail
  refine(Zhz R w3 base g x O vo vn vt s y0 T hA3.out).mono ?_;rw[←hrAh.out];rintro e w4 ⟨rfl,hsd⟩;have hSd:=Za (hsd.from hB3.out);clear hsd;go_wp2
  go_ret;exact⟨rfl,vn,vt,hSd.out⟩
 case cStakes =>
  simp only[Cmd.word] at c3;go_wp2_with fail
  refine(ZfA R w3 base g x O vo vn vt s y0 T hA3.out).mono ?_;rw[←hrAh.out];rintro e w4 ⟨rfl,hsd⟩;have hSd:=Za (hsd.from hB3.out);clear hsd;go_wp2
  go_ret;exact⟨rfl,vn,vt,hSd.out⟩
 case cStroke =>
  simp only[Cmd.word] at c3;go_wp2_with fail
  refine(Zfz R w3 base g x O vo vn vt s y0 T hA3.out).mono ?_;rw[←hrAh.out];rintro e w4 ⟨rfl,hsd⟩;have hSd:=Za (hsd.from hB3.out);clear hsd;go_wp2
  go_ret;exact⟨rfl,vn,vt,hSd.out⟩
 case cWord =>
  simp only[Cmd.word] at c3;go_wp2_with fail
  refine(ZiN R w3 base g x O vo vn vt s y0 T hA3.out).mono ?_;rw[←hrAh.out];rintro e w4 ⟨rfl,hsd⟩;have hSd:=Za (hsd.from hB3.out);clear hsd;go_wp2
  go_ret;exact⟨rfl,vn,vt,hSd.out⟩
theorem Uo (w:World)(base g:Nat)(x:DeskV)(O:List ByteArray)(vo v0 v1:Value)(s:ByteArray)(h:SG R w base g x O vo v0 v1)(hok:x.pure.ok=true)(hO:O.length<=1000000)(hh:HS x)(hs:s.size<=1048576) :
  Calls Tryz.prog 43 #[.pointer (some ⟨g,0,none⟩),.string s] w λe w'=>e = .returned (.bool (mLine x.pure s).isSome)/\∃vn vt,Did R w base g ((mLine x.pure s).getD (x.pure,[])) O vn vt w':=by
 obtain⟨y0,T,hT⟩:∃y0 T,words 32 s=y0 :: T:=List.exists_cons_of_ne_nil (λe=>by have:=VQ 32 s;rw[e] at this;simp at this);cases hc0:U2 y0 with
 | none=>exact Zh0 w base g x O vo v0 v1 s y0 T h hok hO hh hs hT hc0
 | some c =>
  have hc:=Vq hc0;cases hf:c.fits (T.length+1) with
  | false=>exact Zh1 w base g x O vo v0 v1 s y0 T h hok hO hh hs hT c hc hf
  | true =>
   by_cases hnb:c.plain=false/\Xy c.skip T=false
   ·exact Zjy w base g x O vo v0 v1 s y0 T h hok hO hh hs hT c hc hf hnb.1 hnb.2
   ·have hb:c.plain=false→Xy c.skip T=true:=λhp=>by
     cases hq:Xy c.skip T with
     | true=>rfl
     | false=>exact absurd ⟨hp,hq⟩ hnb
    exact Zjx w base g x O vo v0 v1 s y0 T h hok hO hh hs hT c hc hf hb
end
theorem UG {H:Type}{enc:TypeId × Value→H}{C:Checked}{os:Os}{f:FuncId}{fn:Func}{s:OpenSpec}{conds:List PathCond}{apart:Bool}{laid:List (String × DataW Unit)}(w0:World)(args:Array Value)(hos:w0.os=os)
  (hv:(w0.forCall (λ_ _=>0) ⟨#[],args,[]⟩).variablesZipB C.prog=true)
  (hr:((w0.forCall (λ_ _=>0) ⟨#[],args,[]⟩).heap.toList.drop C.prog.globals.size).take ((begin C.prog (λ_ _=>0) default).world.heap.size-C.prog.globals.size) =
   (begin C.prog (λ_ _=>0) default).world.heap.toList.drop C.prog.globals.size)
  (hok:Input.okWideB C.prog (w0.forCall (λ_ _=>0) ⟨#[],args,[]⟩) f ⟨#[],args,[]⟩=true)
  (hrow:s.preRow enc C.prog fn conds apart laid (w0.forCall (λ_ _=>0) ⟨#[],args,[]⟩).memory args) :
  ∃(w:World) (tape:Tape) (i:Input),w.os=os/\(w.forCall tape i).Shaped C.prog/\i.vars=[]/\Input.okWide C.prog (w.forCall tape i) .any w.heap.size f i /\
   s.preRow enc C.prog fn conds apart laid (w.forCall tape i).memory i.args/\({}:Assume).holds C.prog (lone (Frame.enter C.prog f i.args .normal) [] (w.forCall tape i)) :=
 ⟨w0,λ_ _=>0,⟨#[],args,[]⟩,hos,World.shaped_of_ZipB hv hr,(Input.okWide_of_okWideB (base:=0) hok).1,(Input.okWide_of_okWideB hok).2,hrow,by simp[Assume.holds]⟩
end Go.Proofs.YtfpaejlipaainaaGreatDoor
