/- Texts that belong together, joined: contracts and plain laws. No statement is proved here. -/
import Derived.Test.YtfpaejlipaainaaGreatDoorM37
set_option maxRecDepth 100000
set_option maxHeartbeats 4000000
namespace Go.Proofs.YtfpaejlipaainaaGreatDoor
open Go.ChangeShapes Go.WideShapes Go.ChangeAt Go.RowKit Go.Deep
section
variable {R:RowS}
theorem Zf2 (A:Option Addr)(n c:Nat)(l:List Int)(w:World)(hn:n<=1048576)(hbnd:∀k,-1000000000000000<=sumOf id (l.take k)/\sumOf id (l.take k)<=1000000000000000)(hr:Arr ZB 1 w w.heap.size A n l) :
  Calls Tryz.prog 149 #[.slice A n c] w λe w'=>e = .returned (.int .i64 (sumOf id l))/\Below w.heap.size w w':=by
 have hl:=Za hr.len;have hbh:=Za hbnd;clear hbnd;go_enter Tryz.func149,Tryz.ntmps149;go_wp2
 go_loopw [3,4] (λq i wr=>∃(k:Nat) (z:Int),k<=n/\i = .int .i64 k/\q = .int .i64 z/\Below w.heap.size w wr/\Hid (z=sumOf id (l.take k))) (λ_ i _=>n-(intOf i).toNat)
 case atStart=>exact⟨0,0,Nat.zero_le _,rfl,rfl,Below.refl _ _,Za rfl⟩
 case round =>
  obtain⟨k,z,hk,rfl,rfl,hb,hz2⟩:=hrel;by_cases hlt:k<n
  ·have hki:(k:Int)<(n:Int):=by omega
   obtain⟨b,o,x,rfl,hbl,hx,c0⟩:=hr.int hlt;have g0:wr.cell? ⟨b,o+k,none⟩=some (.int .i64 x):=(hb.cell (p:=⟨b,o+k,none⟩) hbl).trans c0;have hX:=Za hx;have hB:=Za hb;have hnx:Hid (z+x=sumOf id (l.take (k+1))):=Za (by rw[X3 hX.out,←hz2.out];rfl);have hzb : -1000000000000000<=z+x/\z+x<=1000000000000000:=by rw[hnx.out];exact hbh.out (k+1)
   have hw1:IntKind.i64.wrap (z+x)=z+x:=IntWalk.i64_in _ (by omega);clear hr hb hx c0;go_wp2
   go_roundw
   case rel=>exact⟨k+1,z+x,by omega,by go_num,rfl,hB.out,hnx⟩
   case measure=>simp[intOf];omega
  ·have hkn:k=n:=by omega
   have hki:¬(k:Int)<(n:Int):=by omega
   have hB:=Za hb;have hfin:Hid (z=sumOf id l):=Za (by rw[hz2.out,List.take_of_length_le (by rw[hl.out,hkn];exact Nat.le_refl _)]);clear hb hkn;go_wp2
   go_ret;exact⟨by rw[hfin.out];rfl,hB.out⟩
theorem Zky {s:ByteArray}{x:Entry}(h:ZI s=0):0<=(mAdd s x).2/\(mAdd s x).2<=10:=by
 unfold mAdd;rw[if_neg (by simp[h])];repeat' split
 all_goals (simp only;omega)
theorem ZeC (w:World)(base g:Nat)(x:DeskV)(O:List ByteArray)(vo vn vt:Value)(N:List Int)(T:List ByteArray)(h:SX R w base g x O vo vn vt N T)(hok:x.pure.ok=true)(hO:O.length<=1000000)(hh:HS x)(h1:1<N.length)(ht:0<T.length) :
  Calls Tryz.prog 95 #[.pointer (some ⟨g,0,none⟩)] w λe w'=>e = .returned (.tuple #[])/\Did R w base g (if (mAdd x.fLog (⟨N.getD 0 0,T.getD 0 ⟨#[]⟩,N.getD 1 0⟩:Entry)).2=0 then ({ x.pure with lg:=(mAdd x.fLog (⟨N.getD 0 0,T.getD 0 ⟨#[]⟩,N.getD 1 0⟩:Entry)).1 },[decB (sumOf id (Yu (mAdd x.fLog (⟨N.getD 0 0,T.getD 0 ⟨#[]⟩,N.getD 1 0⟩:Entry)).1 (T.getD 0 ⟨#[]⟩)))]) else (x.pure,[errB (mAdd x.fLog (⟨N.getD 0 0,T.getD 0 ⟨#[]⟩,N.getD 1 0⟩:Entry)).2])) O vn vt w':=by
 obtain⟨p1,p2,p3,p4,p5⟩:=DeskM.ok_parts.1 hok;replace p5:ZI x.fLog=0:=p5;have h0:0<N.length:=by omega
 obtain⟨gn,cn,z0,rfl,hcn,hgn,hz0,cz0⟩:=h.num (k:=0) h0;have hZ0:Hid (N.getD 0 0=z0):=Za (by rw[List.getD_eq_getElem?_getD,hz0];rfl);have hi0:(0:Int)<(N.length:Int):=by omega
 have zb:=h.nb z0 (List.mem_of_getElem? hz0);obtain⟨gt,ct,y0,rfl,hct,hgt,hy0,cy0⟩:=h.txt (k:=0) ht;have hY0:Hid (T.getD 0 ⟨#[]⟩=y0):=Za (by rw[List.getD_eq_getElem?_getD,hy0];rfl);have hit:(0:Int)<(T.length:Int):=by omega
 have ysz:=h.tz y0 (List.mem_of_getElem? hy0);obtain⟨gn1,cn1,z1,hvn1,_,_,hz1,cz1⟩:=h.num (k:=1) h1;injection hvn1 with hvn1 _ _
 injection hvn1 with hvn1
 injection hvn1 with hvn1
 subst hvn1;have hZ1:Hid (N.getD 1 0=z1):=Za (by rw[List.getD_eq_getElem?_getD,hz1];rfl);have hi1:(1:Int)<(N.length:Int):=by omega
 have zb1:=h.nb z1 (List.mem_of_getElem? hz1);obtain⟨y,hy⟩:∃y:Entry,y=⟨z0,y0,z1⟩:=⟨_,rfl⟩;have hym:y0.size<=maxLen:=by unfold maxLen;omega
 have hyf:y.fits:=by rw[hy];exact hym
 obtain⟨A1,hA1⟩:∃A1,A1=mAdd x.fLog y:=⟨_,rfl⟩;have hAb:0<=A1.2/\A1.2<=10:=by rw[hA1];exact Zky p5
 obtain⟨Z,hZ⟩:∃Z,Z=(if (mAdd x.fLog (⟨N.getD 0 0,T.getD 0 ⟨#[]⟩,N.getD 1 0⟩:Entry)).2=0 then ({ x.pure with lg:=(mAdd x.fLog (⟨N.getD 0 0,T.getD 0 ⟨#[]⟩,N.getD 1 0⟩:Entry)).1 },[decB (sumOf id (Yu (mAdd x.fLog (⟨N.getD 0 0,T.getD 0 ⟨#[]⟩,N.getD 1 0⟩:Entry)).1 (T.getD 0 ⟨#[]⟩)))]) else (x.pure,[errB (mAdd x.fLog (⟨N.getD 0 0,T.getD 0 ⟨#[]⟩,N.getD 1 0⟩:Entry)).2])):=⟨_,rfl⟩;have hM:Hid (Z=if A1.2=0 then ({ x.pure with lg:=A1.1 },[decB (sumOf id (Yu A1.1 y0))]) else (x.pure,[errB A1.2])):=Za (by rw[hZ,hA1,hy,hZ0.out,hZ1.out,hY0.out]);rw[←hZ];have hadd:Hid (∀W,Calls Tryz.prog 146 #[.string x.fLog,.agg #[.int .i64 z0,.string y0,.int .i64 z1]] W λe w'=>e = .returned (.tuple #[.string A1.1,.int .i64 A1.2])/\Below W.heap.size W w'):=Za (λW=>by
  have h2:=Zh9 x.fLog y W hyf;rw[←hA1,hy] at h2;exact h2)
 have hS:=Za h;have hHS:=Za hh;have hcell:Hid (∀W,Below w.heap.size w W→W.cell? ⟨g,4,none⟩=some (.string x.fLog)/\W.cell? ⟨g,6,none⟩=some (.slice (some ⟨gn,0,none⟩) N.length cn)/\W.cell? ⟨gn,0,none⟩=some (.int .i64 z0)/\W.cell? ⟨g,7,none⟩=some (.slice (some ⟨gt,0,none⟩) T.length ct)/\W.cell? ⟨gt,0,none⟩=some (.string y0)/\W.cell? ⟨gn,1,none⟩=some (.int .i64 z1)):=Za (λW hb=>⟨(ZL (Ze hS.out.sg.box hb)).2.2.2.2.1,(ZL (Ze hS.out.sg.box hb)).2.2.2.2.2.2.1,(hb.cell (p:=⟨gn,0,none⟩) hgn).trans cz0,(ZL (Ze hS.out.sg.box hb)).2.2.2.2.2.2.2.1,(hb.cell (p:=⟨gt,0,none⟩) hgt).trans cy0,(hb.cell (p:=⟨gn,1,none⟩) hgn).trans cz1⟩);have hdr:Below w.heap.size w w.drew:=Zb (Below.refl _ _) 1;have hDR:=Za hdr;have hsig:Hid (∀k,-1000000000000000<=sumOf id ((Yu A1.1 y0).take k)/\sumOf id ((Yu A1.1 y0).take k)<=1000000000000000):=Za (λk=>by have:=QL A1.1 y0 k;omega);have hvl:=Za (QM A1.1 y0);have hvi:=Za (Zak A1.1 y0 _ (List.mem_singleton.2 rfl));obtain⟨a1,a2⟩:=A1;simp only at hAb hM hadd hsig hvl hvi;clear h hok hh hdr hz0 hz1 hy0 p1 p2 p3 p4 p5 hZ hA1 hy hyf;go_enter Tryz.func95,Tryz.ntmps95;go_upto_region 0 with fail
 obtain⟨e0,e1,e2,e3,e4,e5⟩:=hcell.out _ hDR.out;go_region_held3 (λw'=>w'.cell? ⟨g,4,none⟩=some (.string x.fLog)/\w'.cell? ⟨g,6,none⟩=some (.slice (some ⟨gn,0,none⟩) N.length cn)/\w'.cell? ⟨gn,0,none⟩=some (.int .i64 z0)/\w'.cell? ⟨g,7,none⟩=some (.slice (some ⟨gt,0,none⟩) T.length ct)/\w'.cell? ⟨gt,0,none⟩=some (.string y0)/\w'.cell? ⟨gn,1,none⟩=some (.int .i64 z1)) (first|exact hcell.out _ hB4.out|exact hcell.out _ hDR.out|go_keep) (first|(go_at_call 146;refine(hadd.out _).mono ?_;rintro e w4 ⟨rfl,hb4⟩;have hB4:=Za (hDR.out.trans (hb4.mono hDR.out.size));clear hb4)|fail)
 have hS4:=Za (hS.out.sg.below hB4.out);have hT4:=Za (hS.out.tx.below hB4.out);have hBw:Hid (Below base w w4):=Za (hB4.out.mono hS.out.sg.bw);clear e0 e1 e2 e3 e4 e5;by_cases hc0:a2=0
 ·subst hc0
  obtain⟨x2,hx2⟩:∃x2:DeskV,x2={ x with fLog:=a1 }:=⟨_,rfl⟩;have hM2:Hid (Z=(x2.pure,[decB (sumOf id (Yu a1 y0))])):=Za (by rw[hM.out,if_pos rfl,hx2];rfl);have hh2:Hid (HS x2):=Za (by rw[hx2];exact hHS.out);have hset:Hid (SG R (w4.setCell ⟨g,4,none⟩ (.string a1)) base g x2 O vo (.slice (some ⟨gn,0,none⟩) N.length cn) (.slice (some ⟨gt,0,none⟩) T.length ct)):=Za (by rw[hx2];exact hS4.out.set4 a1);have htx:Hid (Own ZY 9 1 (w4.setCell ⟨g,4,none⟩ (.string a1)) base (.slice (some ⟨gt,0,none⟩) T.length ct) T.length T):=Za (hT4.out.kept (Zl w4 g 4 _) (.inr (Z0 hT4.out hS4.out.box (by decide))));have hy0c:Hid (∀W,Own ZY 9 1 W base (.slice (some ⟨gt,0,none⟩) T.length ct) T.length T→W.cell? ⟨gt,0,none⟩=some (.string y0)):=Za (λW ho=>by
   obtain⟨b,o,y,hA,_,hy,hc⟩:=(ho.arr Zf).str (k:=0) ht;cases hA
   have e:=hY0.out;rw[List.getD_eq_getElem?_getD,hy] at e;have e2:y=y0:=e;subst e2;exact hc)
  obtain⟨c0,c1,c2,c3,c4,c5,c6,c7,cf⟩:=ZL hS4.out.box;clear hx2;go_wp2_with fail
  refine(VY _ _).mono ?_;rintro e w5 ⟨rfl,rfl⟩;go_upto_region 3 with fail
  refine QH (φ:=λW=>SG R W base g x2 O vo (.slice (some ⟨gn,0,none⟩) N.length cn) (.slice (some ⟨gt,0,none⟩) T.length ct)/\Own ZY 9 1 W base (.slice (some ⟨gt,0,none⟩) T.length ct) T.length T/\Below base w W) ⟨hset.out,htx.out,hBw.out.setCell (p:=⟨g,4,none⟩) hS4.out.hg _⟩ ?_;rintro W1 ⟨n0,n1,n2⟩;have hS5:=Za n0;have hB5:=Za n2;have d0:=hy0c.out _ n1;clear n0 n1 n2 c0 c1 c2 c3 c4 c5 c6 c7 cf;obtain⟨c0,c1,c2,c3,c4,c5,c6,c7,cf⟩:=ZL hS5.out.box;go_wp2_with fail
  refine(Zf1 a1 y0 _ hym).mono ?_;rintro e w6 ⟨v6,rfl,hr6,hb6⟩;obtain⟨A6,c6',hv6,_⟩:=hr6.slice;subst hv6;have hS6:=Za (hS5.out.below hb6);have hB6:=Za (hB5.out.trans (hb6.mono hS5.out.bw));have hR6:=Za hr6;clear hr6 hb6;go_wp2_with fail
  refine(Zf2 A6 _ c6' (Yu a1 y0) _ hvl.out hsig.out (hR6.out.arr Zh)).mono ?_;rintro e w7 ⟨rfl,hb7⟩;have hS7:=Za (hS6.out.below hb7);have hB7:=Za (hB6.out.trans (hb7.mono hS6.out.bw));clear hb7;go_wp2_with fail
  refine(Yw (sumOf id (Yu a1 y0)) _ hvi.out.1 hvi.out.2).mono ?_;rintro e w8 ⟨rfl,hb8⟩;have hS8:=Za (hS7.out.below hb8);have hB8:=Za (hB7.out.trans (hb8.mono hS7.out.bw));clear hb8;go_wp2_with fail
  refine(Xx _ base g x2 O vo _ _ (decB (sumOf id (Yu a1 y0))) hS8.out (by omega)).mono ?_;rintro e w9 ⟨rfl,hs⟩;have hR:=Za (Said.then hB8.out hs);clear hs;go_wp2
  go_end0
  exact⟨rfl,by rw[hM2.out];exact hR.out.didL hh2.out⟩
 ·have hM2:Hid (Z=(x.pure,[errB a2])):=Za (by rw[hM.out,if_neg hc0])
  have h1c:1<=a2:=by omega
  clear hc0;go_wp2_with fail
  refine(YK _ base g x O vo _ _ a2 hS4.out (by omega) h1c hAb.2).mono ?_;rintro e w5 ⟨rfl,hs⟩;have hR:=Za (Said.then hBw.out hs);clear hs;go_wp2
  refine bodyPost_ret (results_none rfl _ _ _) rfl ?_;exact⟨rfl,by rw[hM2.out];exact hR.out.didL hHS.out⟩
theorem Zh6 (w:World)(base g:Nat)(x:DeskV)(O:List ByteArray)(vo vn vt:Value)(N:List Int)(T:List ByteArray)(h:SX R w base g x O vo vn vt N T)(hok:x.pure.ok=true)(hO:O.length<=1000000)(hh:HS x) :
  Calls Tryz.prog 101 #[.pointer (some ⟨g,0,none⟩)] w λe w'=>e = .returned (.tuple #[])/\Did R w base g ((x.pure,(mEnts x.fLog).map entB++[okB (mEnts x.fLog).length])) O vn vt w':=by
 obtain⟨p1,p2,p3,p4,p5⟩:=DeskM.ok_parts.1 hok;replace p5:ZI x.fLog=0:=p5;have hS:=Za h;have hHS:=Za hh;have hOO:=Za hO;have hme:mEnts x.fLog=ents x.fLog:=by unfold mEnts;rw[if_pos p5]
 obtain⟨L,hL⟩:∃L,L=mEnts x.fLog:=⟨_,rfl⟩;have hat:Hid (∀y∈L,y.ok=true):=Za (by rw[hL];exact ZaD _);have hlb:L.length<=4000:=by rw[hL,hme];exact WA p5
 obtain⟨N',hN⟩:∃N',N'=L.length:=⟨_,rfl⟩;have hNl:Hid (L.length=N'):=Za hN.symm;obtain⟨Z,hZ⟩:∃Z,Z=(x.pure,(mEnts x.fLog).map entB++[okB (mEnts x.fLog).length]):=⟨_,rfl⟩;have hM:Hid (Z=(x.pure,L.map entB++[okB L.length])):=Za (by rw[hZ,hL]);rw[←hZ];have hc:=Za (V0 x.fLog w);have hle:Hid (ents x.fLog=L):=Za (by rw[hL,hme]);have hp5:=Za p5;have hN4:N'<=4000:=by omega
 obtain⟨c0,c1,c2,c3,c4,c5,c6,c7,cf⟩:=ZL h.sg.box;clear h hok hh p1 p2 p3 p4 p5 hZ hL hme hN hlb;go_enter Tryz.func101,Tryz.ntmps101;go_wp2_with fail
 refine hc.out.mono ?_;rintro e w1 ⟨gr,rfl,_,hrb,hb⟩;obtain⟨vL,hblk,hoL⟩:=hrb hp5.out;rw[hle.out] at hoL;have hoL2:=hoL;rw[hNl.out] at hoL2;obtain⟨AL,cL,rfl,_⟩:=hoL2.slice;have hrN:Arr Entry.cells 3 w1 w1.heap.size AL N' L:=hoL2.arr Entry.len;have hB1:=Za hb;have hS1:=Za (hS.out.sg.below hb);have hbx:Hid (∀W,Below w1.heap.size w1 W→W.cell? ⟨gr,3,none⟩=some (.slice AL N' cL)):=Za (λW hb=>by rw[cell_of_row _ _ _ _ _ _ (Ze hblk hb)];rfl);have hE:=Za (Own.none_made (cells:=ZY) (e:=9) (s:=1) (base:=w1.heap.size) w1 (Nat.le_refl _));clear hb hblk hoL hoL2 hrb c0 c1 c2 c3 c4 c5 c6 c7 cf;go_wp2
 go_loopw [4,5] (λv i wr=>∃k:Nat,k<=N'/\i = .int .i64 (k:Int)/\Own ZY 9 1 wr w1.heap.size v k ((L.take k).map entB)/\Below w1.heap.size w1 wr) (λ_ i _=>N' - (intOf i).toNat)
 case atStart=>exact⟨0,Nat.zero_le _,rfl,hE.out,(Below.refl w1.heap.size w1).alloc (Nat.le_refl _) _⟩
 case round =>
  obtain⟨k,hk,rfl,ho,hb⟩:=hrel;have hO:=Za ho;have c3:=hbx.out _ hb;clear ho;by_cases hlt:k<N'
  ·have hki:(k:Int)<(N':Int):=by omega
   obtain⟨b,o,y,rfl,hbl,hx,c0,c1,c2⟩:=hrN.Entry hlt;have d0:wr.cell? ⟨b,o+k*3,none⟩=some (.int .i64 y.fDay):=(hb.cell (p:=⟨b,o+k*3,none⟩) hbl).trans c0;have d1:wr.cell? ⟨b,o+k*3+1,none⟩=some (.string y.fWhat):=(hb.cell (p:=⟨b,o+k*3+1,none⟩) hbl).trans c1;have d2:wr.cell? ⟨b,o+k*3+2,none⟩=some (.int .i64 y.fValue):=(hb.cell (p:=⟨b,o+k*3+2,none⟩) hbl).trans c2;have hX:=Za hx;clear hx c0 c1 c2;have hB:=Za hb;have hyo:=hat.out y (List.mem_of_getElem? hX.out);have hnx:Hid ((L.take (k+1)).map entB=(L.take k).map entB++[entB y]):=Za (by rw[Zo hX.out,List.map_append];rfl);have hbl2:b<wr.heap.size:=Nat.lt_of_lt_of_le hbl hb.size;clear hb;go_wp2_with fail
   refine(XC b (o+k*3) y _ hyo hbl2 d0 d1 d2).mono ?_;rintro e w2 ⟨rfl,hb⟩;have hO1:=Za (hO.out.below hb);have hB3:=Za (Below.up hB.out hb);clear hb;go_wp2_with (at_builtin;refine Zp w2.heap.size rfl rfl (.tmp 25) (.tmp 33) rfl Tryz.underlying24 Wa rfl (by omega) (by omega) Zf YJ rfl hO1.out (entB y) _ rfl rfl (by omega) hB3.out.size ?_;intro v5 w5 ho5 hg5 _;have hC5:=Za (Zi hB3.out hO1.out hg5 hB3.out.size);have hO5:=Za ho5;clear ho5 hg5)
   go_roundw
   case rel=>exact⟨k+1,by omega,by go_num,by rw[hnx.out];exact hO5.out,hC5.out⟩
   case measure=>simp[intOf];omega
  ·have hkn:k=N':=by omega
   have hki:¬(k:Int)<(N':Int):=by omega
   rw[hkn,List.take_of_length_le (by rw[hNl.out];exact Nat.le_refl _)] at hO;have hB:=Za hb;obtain⟨A5,c5,hv5,_⟩:=hO.out.slice;subst hv5;clear hb hkn;go_wp2_with fail
   refine(Zbj _ base g x O vo vn vt A5 N' c5 (L.map entB) (hS1.out.below hB.out) hOO.out (by omega) (hO.out.arr Zf)).mono ?_;rintro e w3 ⟨rfl,hs⟩;have hR:=Za (Said.then ((hB1.out.mono hS.out.sg.bw).trans (hB.out.mono hS1.out.bw)) hs);clear hs;go_wp2
   go_end0
   exact⟨rfl,by rw[hM.out];have h5:=hR.out;rw[List.append_assoc] at h5;rw[hNl.out];exact h5.didL hHS.out⟩
end
end Go.Proofs.YtfpaejlipaainaaGreatDoor
