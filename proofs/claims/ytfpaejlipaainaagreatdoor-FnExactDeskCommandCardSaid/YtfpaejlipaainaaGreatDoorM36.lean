/- Texts that belong together, joined: contracts and plain laws. No statement is proved here. -/
import Derived.Test.YtfpaejlipaainaaGreatDoorM34
import Derived.Test.YtfpaejlipaainaaGreatDoorM35
set_option maxRecDepth 100000
set_option maxHeartbeats 2000000
namespace Go.Proofs.YtfpaejlipaainaaGreatDoor
open Go.ChangeShapes Go.WideShapes Go.ChangeAt Go.RowKit Go.Deep
theorem Zbg (s:ByteArray)(w:World)(hs:s.size<=maxLen) :
  Calls Tryz.prog 262 #[.string s] w λe w'=>e = .returned (.bool (Y6 s))/\w=w':=by
 have hWO:Hid (∀b:Bool,s.data.toList.all Vs=b→Y6 s=(b&&(decide (1<=s.size)&&decide (s.size<=12)))):=Za λb h=>by rw[←h];rfl
 unfold maxLen at hs;go_enter Tryz.func262,Tryz.ntmps262;go_wp2
 go_loopw [3] (λi wr=>∃k:Nat,k<=s.size/\i = .int .i64 k/\w=wr/\Hid ((s.data.toList.take k).all Vs=true)) (λi _=>s.size-(intOf i).toNat)
 case atStart=>exact⟨0,Nat.zero_le _,rfl,rfl,Za rfl⟩
 case round =>
  obtain⟨k,hk,rfl,rfl,hall⟩:=hrel;by_cases hlt:k<s.size
  ·have hx:=Jf hlt
   obtain⟨c,hcc⟩:∃c:UInt8,c=s[k]:=⟨_,rfl⟩;have hlow:Vs s[k]=(decide (97<=s[k].toNat)&&decide (s[k].toNat<=122)):=rfl;by_cases h1:97<=s[k].toNat
   ·have e1:decide ((s[k].toNat:Int)<97)=false:=decide_eq_false (by omega)
    have e1':¬(s[k].toNat:Int)<97:=by omega
    by_cases h2:s[k].toNat<=122
    ·have hb:Vs s[k]=true:=by rw[hlow,decide_eq_true h1,decide_eq_true h2];rfl
     have e2:decide ((122:Int)<(s[k].toNat:Int))=false:=decide_eq_false (by omega);have e2':¬(122:Int)<(s[k].toNat:Int):=by omega
     have hnx:Hid ((s.data.toList.take (k+1)).all Vs=true):=Za (by rw[Zo hx,List.all_append,hall.out];simp[hb]);clear hx hb hlow h1 h2 hcc;go_wp2
     go_round
     case rel=>exact⟨k+1,by omega,by go_num,by trivial,hnx⟩
     case measure=>simp[intOf];omega
    ·have hb:Vs s[k]=false:=by rw[hlow,decide_eq_false h2,Bool.and_false]
     have e2:decide ((122:Int)<(s[k].toNat:Int))=true:=decide_eq_true (by omega);have e2':(122:Int)<(s[k].toNat:Int):=by omega
     have hm:Hid (Y6 s=false):=Za (by rw[hWO.out false (Xl hx hb)];rfl);clear hx hb hlow h1 h2 hcc;go_wp2
     go_ret;exact⟨ZW hm.out.symm,rfl⟩
   ·have hb:Vs s[k]=false:=by rw[hlow,decide_eq_false h1,Bool.false_and]
    have e1:decide ((s[k].toNat:Int)<97)=true:=decide_eq_true (by omega);have e1':(s[k].toNat:Int)<97:=by omega
    have hm:Hid (Y6 s=false):=Za (by rw[hWO.out false (Xl hx hb)];rfl);clear hx hb hlow h1 hcc;go_wp2
    go_ret;exact⟨ZW hm.out.symm,rfl⟩
  ·have hkn:k=s.size:=by omega
   have hm:Hid (Y6 s=inB (s.size:Int) 1 12):=Za (by
    have e:=hall.out;rw[hkn,List.take_of_length_le (by rw[Array.length_toList];exact Nat.le_refl _)] at e;rw[hWO.out true e,Bool.true_and,Bool.eq_iff_iff,Bool.and_eq_true,decide_eq_true_eq,decide_eq_true_eq,Zj];omega)
   go_wp2_with (go_at_call 135;refine(Yc _ _ _ _).mono ?_;rintro e w' ⟨rfl,rfl⟩)
   go_ret;exact⟨ZW hm.out.symm,rfl⟩
theorem Zct (s:ByteArray)(k:Nat)(w:World)(hs:s.size<=maxLen)(hk:3<=k/\k<=60) :
  Calls Tryz.prog 220 #[.string s,.int .i64 (k:Int)] w λe w'=>e = .returned (.int .i64 (if Y6 s then 0 else 1))/\w=w':=by
 have h2:inB (k:Int) 3 60=true:=Zj.2 (by omega);cases h1:Y6 s
 ·go_enter Tryz.func220,Tryz.ntmps220
  go_wp2_with fail
  refine(Zbg s _ hs).mono ?_;rw[h1];rintro e w1 ⟨rfl,rfl⟩;go_wp2
  go_ret;exact⟨rfl,rfl⟩
 ·go_enter Tryz.func220,Tryz.ntmps220
  go_wp2_with fail
  refine(Zbg s _ hs).mono ?_;rw[h1];rintro e w1 ⟨rfl,rfl⟩;go_wp2_with fail
  refine(Z8 (k:Int) _).mono ?_;rw[h2];rintro e w2 ⟨rfl,rfl⟩;go_wp2
  go_ret;exact⟨rfl,rfl⟩
theorem Zei (s:ByteArray)(k r:Nat)(w:World)(hs0:0<s.size)(hs:s.size<=12)(hk:k<=60)(hr:r<=100) :
  Calls Tryz.prog 221 #[.string s,.int .i64 (k:Int),.int .i64 (r:Int)] w λe w'=>e = .returned (.string (Xs s (r*k) 1 k))/\Below w.heap.size w w':=by
 have hX:r*k<=6000:=Nat.mul_le_mul hr hk;obtain⟨X,hX0⟩:∃X,X=r*k:=⟨_,rfl⟩;have hw1:IntKind.i64.wrap ((r:Int)*(k:Int))=(X:Int):=by
  rw[hX0,Int.natCast_mul];exact IntWalk.i64_in _ (by rw[←Int.natCast_mul];omega)
 rw[←hX0] at hX ⊢;clear hX0;have hO0:=Za (Own.none_made (cells:=u8c) (e:=5) (s:=1) w (Nat.le_refl _));have hB0:=Za ((Below.refl w.heap.size w).alloc (Nat.le_refl _) (.cells #[] 5));have hM:Hid (Xs s X 1 k=⟨(alongL s X 1 k).toArray⟩):=Za rfl;go_enter Tryz.func221,Tryz.ntmps221;go_wp2
 go_loopw [7,8] (λv i wr=>∃j:Nat,j<=k/\i = .int .i64 (j:Int)/\Own u8c 5 1 wr w.heap.size v j (bI (alongL s X 1 j))/\Below w.heap.size w wr) (λ_ i _=>k-(intOf i).toNat)
 case atStart=>exact⟨0,Nat.zero_le _,rfl,hO0.out,hB0.out⟩
 case round =>
  obtain⟨j,hj,rfl,ho,hb⟩:=hrel;have hO:=Za ho;have hB:=Za hb;clear ho hb hO0 hB0;by_cases hlt:j<k
  ·have hlt':(j:Int)<(k:Int):=by omega
   obtain⟨Y,hY⟩:∃Y,Y=X+j:=⟨_,rfl⟩;have hw2:IntKind.i64.wrap ((X:Int)+(j:Int))=(Y:Int):=by
    rw[hY,Int.natCast_add];exact IntWalk.i64_in _ (by omega)
   obtain⟨J,hJ⟩:∃J,J=Y%s.size:=⟨_,rfl⟩;have hcast:(Y:Int)%(s.size:Int)=(J:Int):=by rw[hJ];simp
   have hJs:J<s.size:=by rw[hJ];exact Nat.mod_lt _ hs0
   have hat:Hid (atB s ((X+j*1)%s.size)=s[J]):=Za (by rw[Nat.mul_one,←hY,←hJ,VM hJs]);have hJ0:(0:Int)<=(J:Int):=by omega
   have hY0:(0:Int)<=(Y:Int):=by omega
   have hs1:(0:Int)<(s.size:Int):=by omega
   clear hY hJ;go_wp2_with (first|(at_builtin;refine Zp wr.heap.size rfl rfl (.tmp 15) (.tmp 26) rfl Tryz.underlying22 WU rfl (by omega) (by omega) Y7 Uk rfl hO.out (s[J].toNat:Int) _ rfl rfl (by omega) hB.out.size ?_;intro v5 w5 ho5 hg5 _;have hB5:=Za (Zi hB.out hO.out hg5 hB.out.size);have hO5:=Za ho5;clear ho5 hg5)|fail)
   go_roundw
   case rel=>exact⟨j+1,by omega,by go_num,by rw[VN,Zdj,hat.out];exact hO5.out,hB5.out⟩
   case measure=>simp[intOf];omega
  ·obtain rfl:j=k:=by omega
   obtain⟨C0,d0,rfl,hcap⟩:=hO.out.slice;have hcv:=WC hO.out;go_wp2
   go_ret;exact⟨by rw[hM.out];try rfl,hB.out⟩
theorem ZhU (s:ByteArray)(k:Nat)(r:Int)(w:World)(hs:s.size<=maxLen)(hk:3<=k/\k<=60) :
  Calls Tryz.prog 161 #[.string s,.int .i64 (k:Int),.int .i64 r] w λe w'=>e = .returned (.tuple #[.string (mRowT s k r),.int .i64 (mRowC s r)])/\Below w.heap.size w w':=by
 have hC:=Za (λW=>Zct s k W hs hk);cases h1:Y6 s
 ·rw[h1] at hC
  have hM:Hid (mRowT s k r=⟨#[]⟩/\mRowC s r=1):=Za (by unfold mRowT mRowC;rw[h1];exact⟨rfl,rfl⟩);go_enter Tryz.func161,Tryz.ntmps161;go_wp2_with fail
  refine(hC.out _).mono ?_;rintro e w1 ⟨rfl,rfl⟩;go_wp2
  go_ret2
  exact⟨by rw[hM.out.1,hM.out.2];rfl,Below.refl _ _⟩
 have hsz:0<s.size/\s.size<=12:=by
  have h:=h1;simp[Y6] at h;omega
 obtain⟨s0,s1⟩:=hsz;rw[h1] at hC;cases h3:inB r 0 100
 ·have hM:Hid (mRowT s k r=⟨#[]⟩/\mRowC s r=2):=Za (by unfold mRowT mRowC;rw[h1,h3];exact⟨rfl,rfl⟩)
  go_enter Tryz.func161,Tryz.ntmps161;go_wp2_with fail
  refine(hC.out _).mono ?_;rintro e w1 ⟨rfl,rfl⟩;go_wp2_with fail
  refine(Yc r 0 100 _).mono ?_;rw[h3];rintro e w1 ⟨rfl,rfl⟩;go_wp2
  go_ret2
  exact⟨by rw[hM.out.1,hM.out.2];rfl,Below.refl _ _⟩
 ·obtain⟨q,hq⟩:∃q:Nat,r=(q:Int):=⟨r.toNat,by have:=Zj.1 h3;omega⟩
  subst hq;have hq2:=(Zj.1 h3).2;have hM:Hid (mRowT s k (q:Int)=Xs s (q*k) 1 k/\mRowC s (q:Int)=0):=Za (by unfold mRowT mRowC;rw[h1,h3];exact⟨rfl,rfl⟩);go_enter Tryz.func161,Tryz.ntmps161;go_wp2_with fail
  refine(hC.out _).mono ?_;rintro e w1 ⟨rfl,rfl⟩;go_wp2_with fail
  refine(Yc (q:Int) 0 100 _).mono ?_;rw[h3];rintro e w1 ⟨rfl,rfl⟩;go_wp2_with fail
  refine(Zei s k q _ s0 s1 hk.2 (by omega)).mono ?_;rintro e w2 ⟨rfl,hb⟩;have hB:=Za hb;clear hb;go_wp2
  go_ret2
  exact⟨by rw[hM.out.1,hM.out.2];rfl,hB.out⟩
section
variable {R:RowS}
structure SX (R:RowS)(w:World)(base g:Nat)(x:DeskV)(O:List ByteArray)(vo vn vt:Value)(N:List Int)(T:List ByteArray):Prop where
 sg:SG R w base g x O vo vn vt
 nm:Own ZB 2 1 w base vn N.length N
 tx:Own ZY 9 1 w base vt T.length T
 nl:N.length<=1048576
 nb:∀z∈N,-1000000000000000000<=z/\z<=1000000000000000000
 tz:∀s∈T,s.size<=1048576
section
variable {w w':World}{base g:Nat}{x:DeskV}{O:List ByteArray}{vo vn vt:Value}{N:List Int}{T:List ByteArray}
theorem SX.below (h:SX R w base g x O vo vn vt N T)(hb:Below w.heap.size w w'):SX R w' base g x O vo vn vt N T:=⟨h.sg.below hb,h.nm.below hb,h.tx.below hb,h.nl,h.nb,h.tz⟩
theorem SX.num (h:SX R w base g x O vo vn vt N T){k:Nat}(hk:k<N.length):∃gn cn y,vn = .slice (some ⟨gn,0,none⟩) N.length cn/\N.length<=cn/\gn<w.heap.size/\N[k]?=some y/\w.cell? ⟨gn,k,none⟩=some (.int .i64 y):=by
 rcases h.nm.form with ⟨_,e,_⟩|⟨gn,cn,e,_,hlt,hc,_⟩
 ·omega
 ·have ho:=h.nm
  rw[e] at ho;obtain⟨b,o,y,hA,_,hy,hcell⟩:=(ho.arr Zh).int hk;cases hA
  rw[Nat.zero_add] at hcell;exact⟨gn,cn,y,e,hc,hlt,hy,hcell⟩
theorem SX.txt (h:SX R w base g x O vo vn vt N T){k:Nat}(hk:k<T.length):∃gn cn y,vt = .slice (some ⟨gn,0,none⟩) T.length cn/\T.length<=cn/\gn<w.heap.size/\T[k]?=some y/\w.cell? ⟨gn,k,none⟩=some (.string y):=by
 rcases h.tx.form with ⟨_,e,_⟩|⟨gn,cn,e,_,hlt,hc,_⟩
 ·omega
 ·have ho:=h.tx
  rw[e] at ho;obtain⟨b,o,y,hA,_,hy,hcell⟩:=(ho.arr Zf).str hk;cases hA
  rw[Nat.zero_add] at hcell;exact⟨gn,cn,y,e,hc,hlt,hy,hcell⟩
end
theorem ZdB (r:Int):0<=mRoundC r/\mRoundC r<=10:=by
 unfold mRoundC;repeat' split
 all_goals omega
theorem U5 (r:Int):0<=mSoundC r/\mSoundC r<=10:=by
 unfold mSoundC;repeat' split
 all_goals omega
theorem Zi1 (s:ByteArray)(r:Int):0<=mRowC s r/\mRowC s r<=10:=by
 unfold mRowC;repeat' split
 all_goals omega
theorem ZiY (s:ByteArray)(k:Nat)(f:Int):0<=mStkC s k f/\mStkC s k f<=10:=by
 unfold mStkC;repeat' split
 all_goals omega
theorem Zi2 (S b:Int)(l:List Int):0<=ordC S b l/\ordC S b l<=10:=by
 unfold ordC;repeat' split
 all_goals omega
theorem Zi5 (S:Int)(l:List Int):0<=newC S l/\newC S l<=10:=by
 unfold newC;repeat' split
 all_goals omega
theorem Zjb (l:List Kind)(q:Int):0<=fewC l q/\fewC l q<=10:=by
 unfold fewC;repeat' split
 all_goals omega
theorem Zey (w:World)(base g:Nat)(x:DeskV)(O:List ByteArray)(vo vn vt:Value)(N:List Int)(T:List ByteArray)(h:SX R w base g x O vo vn vt N T)(hok:x.pure.ok=true)(hO:O.length<=1000000)(h0:0<N.length) :
  Calls Tryz.prog 102 #[.pointer (some ⟨g,0,none⟩)] w λe w'=>e = .returned (.tuple #[])/\Said R w base g x (O++[sayB (mRoundC (N.getD 0 0)) (mRoundT x.fStroke x.fStakes.toNat (N.getD 0 0))]) vn vt w':=by
 obtain⟨p1,p2,p3,p4,p5⟩:=DeskM.ok_parts.1 hok;replace p1:strokeOk x.fStroke=true:=p1;replace p2:inB x.fStakes 3 60=true:=p2;replace p3:ZD x.kinds=true:=p3;obtain⟨q,hq⟩:∃q:Nat,x.fStakes=(q:Int):=⟨x.fStakes.toNat,by have:=Zj.1 p2;omega⟩;have hqn:x.fStakes.toNat=q:=by omega
 have hqh:=Za hq;rw[hq] at p2;have hqb:=Zj.1 p2;have hdr:Below w.heap.size w w.drew:=Zb (Below.refl _ _) 1;have hDR:=Za hdr;obtain⟨gn,cn,z0,rfl,hcn,hgn,hz0,cz0⟩:=h.num (k:=0) h0;have hZ0:Hid (N.getD 0 0=z0):=Za (by rw[List.getD_eq_getElem?_getD,hz0];rfl);have hi0:(0:Int)<(N.length:Int):=by omega
 have zb:=h.nb z0 (List.mem_of_getElem? hz0);have hS:=Za h;have hcell:Hid (∀W,Below w.heap.size w W→W.cell? ⟨g,0,none⟩=some (.string x.fStroke)/\W.cell? ⟨g,1,none⟩=some (.int .i64 (q:Int))/\W.cell? ⟨g,6,none⟩=some (.slice (some ⟨gn,0,none⟩) N.length cn)/\W.cell? ⟨gn,0,none⟩=some (.int .i64 z0)):=Za (λW hb=>⟨(ZL (Ze hS.out.sg.box hb)).1,by rw[←hqh.out];exact(ZL (Ze hS.out.sg.box hb)).2.1,(ZL (Ze hS.out.sg.box hb)).2.2.2.2.2.2.1,(hb.cell (p:=⟨gn,0,none⟩) hgn).trans cz0⟩);replace p2:3<=q/\q<=60:=by omega
 have hM:Hid (sayB (mRoundC (N.getD 0 0)) (mRoundT x.fStroke x.fStakes.toNat (N.getD 0 0))=sayB (mRoundC z0) (mRoundT x.fStroke q z0)):=Za (by rw[hZ0.out,hqn]);obtain⟨Z,hZ⟩:∃Z,Z=(sayB (mRoundC (N.getD 0 0)) (mRoundT x.fStroke x.fStakes.toNat (N.getD 0 0))):=⟨_,rfl⟩;rw[←hZ] at hM ⊢;clear hZ;clear h hq hdr hz0 hok;go_enter Tryz.func102,Tryz.ntmps102;go_upto_region 0 with fail
 obtain⟨e0,e1,e2,e3⟩:=hcell.out _ hDR.out;go_region_held3 (λw'=>w'.cell? ⟨g,0,none⟩=some (.string x.fStroke)/\w'.cell? ⟨g,1,none⟩=some (.int .i64 (q:Int))/\w'.cell? ⟨g,6,none⟩=some (.slice (some ⟨gn,0,none⟩) N.length cn)/\w'.cell? ⟨gn,0,none⟩=some (.int .i64 z0)) (first|exact hcell.out _ hB4.out|exact hcell.out _ hDR.out|go_keep) (first|(go_at_call 158;refine(Zej x.fStroke q z0 _ p1 p2).mono ?_;rintro e w4 ⟨rfl,hb4⟩;have hB4:=Za (hDR.out.trans (hb4.mono hDR.out.size));clear hb4)|fail)
 go_wp2_with fail
 refine(VX _ base g x O vo (.slice (some ⟨gn,0,none⟩) N.length cn) vt (mRoundT x.fStroke q z0) (mRoundC z0) (hS.out.sg.below hB4.out) (by omega) (ZdB z0).1 (ZdB z0).2).mono ?_;rintro e w5 ⟨rfl,hs⟩;have hR:=Za (Said.from hS.out.sg hB4.out hs);clear hs;go_wp2
 go_end0
 exact⟨rfl,by rw[hM.out];exact hR.out⟩
theorem Zgf (w:World)(base g:Nat)(x:DeskV)(O:List ByteArray)(vo vn vt:Value)(N:List Int)(T:List ByteArray)(h:SX R w base g x O vo vn vt N T)(hok:x.pure.ok=true)(hO:O.length<=1000000)(h0:0<N.length)(ht:0<T.length) :
  Calls Tryz.prog 106 #[.pointer (some ⟨g,0,none⟩)] w λe w'=>e = .returned (.tuple #[])/\Said R w base g x (O++[sayB (mRowC (T.getD 0 ⟨#[]⟩) (N.getD 0 0)) (mRowT (T.getD 0 ⟨#[]⟩) x.fStakes.toNat (N.getD 0 0))]) vn vt w':=by
 obtain⟨p1,p2,p3,p4,p5⟩:=DeskM.ok_parts.1 hok;replace p1:strokeOk x.fStroke=true:=p1;replace p2:inB x.fStakes 3 60=true:=p2;replace p3:ZD x.kinds=true:=p3;obtain⟨q,hq⟩:∃q:Nat,x.fStakes=(q:Int):=⟨x.fStakes.toNat,by have:=Zj.1 p2;omega⟩;have hqn:x.fStakes.toNat=q:=by omega
 have hqh:=Za hq;rw[hq] at p2;have hqb:=Zj.1 p2;have hdr:Below w.heap.size w w.drew:=Zb (Below.refl _ _) 1;have hDR:=Za hdr;obtain⟨gn,cn,z0,rfl,hcn,hgn,hz0,cz0⟩:=h.num (k:=0) h0;have hZ0:Hid (N.getD 0 0=z0):=Za (by rw[List.getD_eq_getElem?_getD,hz0];rfl);have hi0:(0:Int)<(N.length:Int):=by omega
 have zb:=h.nb z0 (List.mem_of_getElem? hz0);obtain⟨gt,ct,y0,rfl,hct,hgt,hy0,cy0⟩:=h.txt (k:=0) ht;have hY0:Hid (T.getD 0 ⟨#[]⟩=y0):=Za (by rw[List.getD_eq_getElem?_getD,hy0];rfl);have hit:(0:Int)<(T.length:Int):=by omega
 have ysz:=h.tz y0 (List.mem_of_getElem? hy0);have hS:=Za h;have hcell:Hid (∀W,Below w.heap.size w W→W.cell? ⟨g,7,none⟩=some (.slice (some ⟨gt,0,none⟩) T.length ct)/\W.cell? ⟨gt,0,none⟩=some (.string y0)/\W.cell? ⟨g,1,none⟩=some (.int .i64 (q:Int))/\W.cell? ⟨g,6,none⟩=some (.slice (some ⟨gn,0,none⟩) N.length cn)/\W.cell? ⟨gn,0,none⟩=some (.int .i64 z0)):=Za (λW hb=>⟨(ZL (Ze hS.out.sg.box hb)).2.2.2.2.2.2.2.1,(hb.cell (p:=⟨gt,0,none⟩) hgt).trans cy0,by rw[←hqh.out];exact(ZL (Ze hS.out.sg.box hb)).2.1,(ZL (Ze hS.out.sg.box hb)).2.2.2.2.2.2.1,(hb.cell (p:=⟨gn,0,none⟩) hgn).trans cz0⟩);replace p2:3<=q/\q<=60:=by omega
 have hym:y0.size<=maxLen:=by unfold maxLen;omega
 have hM:Hid (sayB (mRowC (T.getD 0 ⟨#[]⟩) (N.getD 0 0)) (mRowT (T.getD 0 ⟨#[]⟩) x.fStakes.toNat (N.getD 0 0))=sayB (mRowC y0 z0) (mRowT y0 q z0)):=Za (by rw[hZ0.out,hY0.out,hqn]);obtain⟨Z,hZ⟩:∃Z,Z=(sayB (mRowC (T.getD 0 ⟨#[]⟩) (N.getD 0 0)) (mRowT (T.getD 0 ⟨#[]⟩) x.fStakes.toNat (N.getD 0 0))):=⟨_,rfl⟩;rw[←hZ] at hM ⊢;clear hZ;clear h hq hdr hz0 hy0 hok;go_enter Tryz.func106,Tryz.ntmps106;go_upto_region 0 with fail
 obtain⟨e0,e1,e2,e3,e4⟩:=hcell.out _ hDR.out;go_region_held3 (λw'=>w'.cell? ⟨g,7,none⟩=some (.slice (some ⟨gt,0,none⟩) T.length ct)/\w'.cell? ⟨gt,0,none⟩=some (.string y0)/\w'.cell? ⟨g,1,none⟩=some (.int .i64 (q:Int))/\w'.cell? ⟨g,6,none⟩=some (.slice (some ⟨gn,0,none⟩) N.length cn)/\w'.cell? ⟨gn,0,none⟩=some (.int .i64 z0)) (first|exact hcell.out _ hB4.out|exact hcell.out _ hDR.out|go_keep) (first|(go_at_call 161;refine(ZhU y0 q z0 _ hym p2).mono ?_;rintro e w4 ⟨rfl,hb4⟩;have hB4:=Za (hDR.out.trans (hb4.mono hDR.out.size));clear hb4)|fail)
 go_wp2_with fail
 refine(VX _ base g x O vo (.slice (some ⟨gn,0,none⟩) N.length cn) (.slice (some ⟨gt,0,none⟩) T.length ct) (mRowT y0 q z0) (mRowC y0 z0) (hS.out.sg.below hB4.out) (by omega) (Zi1 y0 z0).1 (Zi1 y0 z0).2).mono ?_;rintro e w5 ⟨rfl,hs⟩;have hR:=Za (Said.from hS.out.sg hB4.out hs);clear hs;go_wp2
 go_end0
 exact⟨rfl,by rw[hM.out];exact hR.out⟩
theorem Zex (w:World)(base g:Nat)(x:DeskV)(O:List ByteArray)(vo vn vt:Value)(N:List Int)(T:List ByteArray)(h:SX R w base g x O vo vn vt N T)(hok:x.pure.ok=true)(hO:O.length<=1000000)(h0:0<N.length) :
  Calls Tryz.prog 103 #[.pointer (some ⟨g,0,none⟩)] w λe w'=>e = .returned (.tuple #[])/\Said R w base g x (O++[sayB (mSoundC (N.getD 0 0)) (if mSound x.fStroke x.fStakes.toNat (N.getD 0 0)=true then ⟨#[121,101,115]⟩ else ⟨#[110,111]⟩)]) vn vt w':=by
 obtain⟨p1,p2,p3,p4,p5⟩:=DeskM.ok_parts.1 hok;replace p1:strokeOk x.fStroke=true:=p1;replace p2:inB x.fStakes 3 60=true:=p2;replace p3:ZD x.kinds=true:=p3;obtain⟨q,hq⟩:∃q:Nat,x.fStakes=(q:Int):=⟨x.fStakes.toNat,by have:=Zj.1 p2;omega⟩;have hqn:x.fStakes.toNat=q:=by omega
 have hqh:=Za hq;rw[hq] at p2;have hqb:=Zj.1 p2;have hdr:Below w.heap.size w w.drew:=Zb (Below.refl _ _) 1;have hDR:=Za hdr;obtain⟨gn,cn,z0,rfl,hcn,hgn,hz0,cz0⟩:=h.num (k:=0) h0;have hZ0:Hid (N.getD 0 0=z0):=Za (by rw[List.getD_eq_getElem?_getD,hz0];rfl);have hi0:(0:Int)<(N.length:Int):=by omega
 have zb:=h.nb z0 (List.mem_of_getElem? hz0);have hS:=Za h;have hcell:Hid (∀W,Below w.heap.size w W→W.cell? ⟨g,0,none⟩=some (.string x.fStroke)/\W.cell? ⟨g,1,none⟩=some (.int .i64 (q:Int))/\W.cell? ⟨g,6,none⟩=some (.slice (some ⟨gn,0,none⟩) N.length cn)/\W.cell? ⟨gn,0,none⟩=some (.int .i64 z0)):=Za (λW hb=>⟨(ZL (Ze hS.out.sg.box hb)).1,by rw[←hqh.out];exact(ZL (Ze hS.out.sg.box hb)).2.1,(ZL (Ze hS.out.sg.box hb)).2.2.2.2.2.2.1,(hb.cell (p:=⟨gn,0,none⟩) hgn).trans cz0⟩);replace p2:3<=q/\q<=60:=by omega
 have hM:Hid (sayB (mSoundC (N.getD 0 0)) (if mSound x.fStroke x.fStakes.toNat (N.getD 0 0)=true then ⟨#[121,101,115]⟩ else ⟨#[110,111]⟩)=sayB (mSoundC z0) (if mSound x.fStroke q z0=true then ⟨#[121,101,115]⟩ else ⟨#[110,111]⟩)):=Za (by rw[hZ0.out,hqn]);obtain⟨Z,hZ⟩:∃Z,Z=(sayB (mSoundC (N.getD 0 0)) (if mSound x.fStroke x.fStakes.toNat (N.getD 0 0)=true then ⟨#[121,101,115]⟩ else ⟨#[110,111]⟩)):=⟨_,rfl⟩;rw[←hZ] at hM ⊢;clear hZ;clear h hq hdr hz0 hok;go_enter Tryz.func103,Tryz.ntmps103;go_upto_region 0 with fail
 obtain⟨e0,e1,e2,e3⟩:=hcell.out _ hDR.out;go_region_held3 (λw'=>w'.cell? ⟨g,0,none⟩=some (.string x.fStroke)/\w'.cell? ⟨g,1,none⟩=some (.int .i64 (q:Int))/\w'.cell? ⟨g,6,none⟩=some (.slice (some ⟨gn,0,none⟩) N.length cn)/\w'.cell? ⟨gn,0,none⟩=some (.int .i64 z0)) (first|exact hcell.out _ hB4.out|exact hcell.out _ hDR.out|go_keep) (first|(go_at_call 160;refine(Zbk x.fStroke q z0 _ p1 p2).mono ?_;rintro e w4 ⟨rfl,hb4⟩;have hB4:=Za (hDR.out.trans (hb4.mono hDR.out.size));clear hb4)|fail)
 cases hbb:mSound x.fStroke q z0
 ·have hM2:Hid (sayB (mSoundC z0) (if mSound x.fStroke q z0=true then ⟨#[121,101,115]⟩ else ⟨#[110,111]⟩)=sayB (mSoundC z0) ⟨#[110,111]⟩):=Za (by rw[hbb];rfl)
  go_wp2_with fail
  refine(VX _ base g x O vo (.slice (some ⟨gn,0,none⟩) N.length cn) vt ⟨#[110,111]⟩ (mSoundC z0) (hS.out.sg.below hB4.out) (by omega) (U5 z0).1 (U5 z0).2).mono ?_;rintro e w5 ⟨rfl,hs⟩;have hR:=Za (Said.from hS.out.sg hB4.out hs);clear hs;go_wp2
  go_end0
  exact⟨rfl,by rw[hM.out,hM2.out];exact hR.out⟩
 ·have hM2:Hid (sayB (mSoundC z0) (if mSound x.fStroke q z0=true then ⟨#[121,101,115]⟩ else ⟨#[110,111]⟩)=sayB (mSoundC z0) ⟨#[121,101,115]⟩):=Za (by rw[hbb];rfl)
  go_wp2_with fail
  refine(VX _ base g x O vo (.slice (some ⟨gn,0,none⟩) N.length cn) vt ⟨#[121,101,115]⟩ (mSoundC z0) (hS.out.sg.below hB4.out) (by omega) (U5 z0).1 (U5 z0).2).mono ?_;rintro e w5 ⟨rfl,hs⟩;have hR:=Za (Said.from hS.out.sg hB4.out hs);clear hs;go_wp2
  go_end0
  exact⟨rfl,by rw[hM.out,hM2.out];exact hR.out⟩
theorem Zh8 (w:World)(base g:Nat)(x:DeskV)(O:List ByteArray)(vo vn vt:Value)(N:List Int)(T:List ByteArray)(h:SX R w base g x O vo vn vt N T)(hok:x.pure.ok=true)(hO:O.length<=1000000)(h0:0<N.length) :
  Calls Tryz.prog 93 #[.pointer (some ⟨g,0,none⟩)] w λe w'=>e = .returned (.tuple #[])/\Said R w base g x (O++[sayB (mStkC x.fStroke x.fStakes.toNat (N.getD 0 0)) (numLine [mStk x.fStroke x.fStakes.toNat (N.getD 0 0)])]) vn vt w':=by
 obtain⟨p1,p2,p3,p4,p5⟩:=DeskM.ok_parts.1 hok;replace p1:strokeOk x.fStroke=true:=p1;replace p2:inB x.fStakes 3 60=true:=p2;replace p3:ZD x.kinds=true:=p3;obtain⟨q,hq⟩:∃q:Nat,x.fStakes=(q:Int):=⟨x.fStakes.toNat,by have:=Zj.1 p2;omega⟩;have hqn:x.fStakes.toNat=q:=by omega
 have hqh:=Za hq;rw[hq] at p2;have hqb:=Zj.1 p2;have hdr:Below w.heap.size w w.drew:=Zb (Below.refl _ _) 1;have hDR:=Za hdr;obtain⟨gn,cn,z0,rfl,hcn,hgn,hz0,cz0⟩:=h.num (k:=0) h0;have hZ0:Hid (N.getD 0 0=z0):=Za (by rw[List.getD_eq_getElem?_getD,hz0];rfl);have hi0:(0:Int)<(N.length:Int):=by omega
 have zb:=h.nb z0 (List.mem_of_getElem? hz0);have hS:=Za h;have hcell:Hid (∀W,Below w.heap.size w W→W.cell? ⟨g,0,none⟩=some (.string x.fStroke)/\W.cell? ⟨g,1,none⟩=some (.int .i64 (q:Int))/\W.cell? ⟨g,6,none⟩=some (.slice (some ⟨gn,0,none⟩) N.length cn)/\W.cell? ⟨gn,0,none⟩=some (.int .i64 z0)):=Za (λW hb=>⟨(ZL (Ze hS.out.sg.box hb)).1,by rw[←hqh.out];exact(ZL (Ze hS.out.sg.box hb)).2.1,(ZL (Ze hS.out.sg.box hb)).2.2.2.2.2.2.1,(hb.cell (p:=⟨gn,0,none⟩) hgn).trans cz0⟩);replace p2:3<=q/\q<=60:=by omega
 have hM:Hid (sayB (mStkC x.fStroke x.fStakes.toNat (N.getD 0 0)) (numLine [mStk x.fStroke x.fStakes.toNat (N.getD 0 0)])=sayB (mStkC x.fStroke q z0) (decB (mStk x.fStroke q z0))):=Za (by rw[hZ0.out,hqn,VD]);obtain⟨Z,hZ⟩:∃Z,Z=(sayB (mStkC x.fStroke x.fStakes.toNat (N.getD 0 0)) (numLine [mStk x.fStroke x.fStakes.toNat (N.getD 0 0)])):=⟨_,rfl⟩;rw[←hZ] at hM ⊢;clear hZ;clear h hq hdr hz0 hok;go_enter Tryz.func93,Tryz.ntmps93;go_upto_region 0 with fail
 obtain⟨e0,e1,e2,e3⟩:=hcell.out _ hDR.out;go_region_held3 (λw'=>w'.cell? ⟨g,0,none⟩=some (.string x.fStroke)/\w'.cell? ⟨g,1,none⟩=some (.int .i64 (q:Int))/\w'.cell? ⟨g,6,none⟩=some (.slice (some ⟨gn,0,none⟩) N.length cn)/\w'.cell? ⟨gn,0,none⟩=some (.int .i64 z0)) (first|exact hcell.out _ hB4.out|exact hcell.out _ hDR.out|go_keep) (first|(go_at_call 142;refine(ZhS x.fStroke q z0 _ p1 p2).mono ?_;rintro e w4 ⟨rfl,hb4⟩;have hB4:=Za (hDR.out.trans (hb4.mono hDR.out.size));clear hb4)|fail)
 go_wp2_with fail
 refine(Zcq _ base g x O vo (.slice (some ⟨gn,0,none⟩) N.length cn) vt (mStk x.fStroke q z0) (mStkC x.fStroke q z0) (hS.out.sg.below hB4.out) (by omega) (ZiY _ _ _).1 (ZiY _ _ _).2 (Zcf x.fStroke q z0 _ (List.mem_singleton.2 rfl))).mono ?_;rintro e w5 ⟨rfl,hs⟩;have hR:=Za (Said.from hS.out.sg hB4.out hs);clear hs;go_wp2
 go_end0
 exact⟨rfl,by rw[hM.out];exact hR.out⟩
end
end Go.Proofs.YtfpaejlipaainaaGreatDoor
