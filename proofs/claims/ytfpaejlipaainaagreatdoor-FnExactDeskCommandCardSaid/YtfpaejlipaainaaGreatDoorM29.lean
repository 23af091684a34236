/- Texts that belong together, joined: contracts and plain laws. No statement is proved here. -/
import Derived.Test.YtfpaejlipaainaaGreatDoorM28
set_option maxRecDepth 100000
set_option maxHeartbeats 4000000
namespace Go.Proofs.YtfpaejlipaainaaGreatDoor
open Go.ChangeShapes Go.WideShapes Go.ChangeAt Go.RowKit Go.Deep
theorem ZeU {s:ByteArray}(h:ZU s=true):s.size<=maxLen:=by
 have:=XK h;unfold maxLen;omega
theorem UW {x:Heap}(h:x.ok=true):ZU x.fSort=true:=by
 unfold Heap.ok at h;rw[Bool.and_eq_true,Bool.and_eq_true] at h;exact h.1.1
theorem Zbq {l:List Heap}{x:Heap}(hl:∀z∈l,z.fits)(hx:x.fits):∀z∈mPutL l x,z.fits:=by
 intro z hz;unfold mPutL at hz;split at hz
 ·exact U9 hl hx z hz
 ·cases hz
theorem Zgl {r:ByteArray}(h:rhOk r=true):(rhHeap r).fits:=by
 obtain⟨a,b,c,hw⟩:∃a b c,words 32 r=[a,b,c]:=by
  unfold rhOk at h;split at h
  ·rename_i a b c hw;exact⟨a,b,c,hw⟩
  ·cases h
 rw[Zcz hw h];rw[Zat hw,Bool.and_eq_true] at h;exact ZeU (UW h.2)
theorem ZcC {l:List Heap}{x:Heap}:(mPutL l x).length<=1048576:=by
 unfold mPutL;split
 ·rename_i h
  have h1:ZE (X2 l x)=true:=by
   unfold mPutC at h;split at h
   ·split at h
    ·split at h
     ·assumption
     ·cases h
    ·cases h
   ·cases h
  unfold ZE at h1;rw[Bool.and_eq_true] at h1;have:=of_decide_eq_true h1.2;omega
 ·exact Nat.zero_le _
theorem JQ (r:ByteArray)(g:Nat)(x:DeskV)(w0 w:World)(hr:r.size<=1048576)(hst:x.fStroke.size<=maxLen)(hG:Gl w0)(hB0:Below w0.heap.size w0 w)(h:DG w w0.heap.size g x) :
  Calls Tryz.prog 30 #[.pointer (some ⟨g,0,none⟩),.string ⟨#[104,101,97,112]⟩,.string r] w λe w'=>ZaZ w0 w w0.heap.size g (mText x.pure .cHeap r) e w':=by
 have hH:=Za h;have hGh:=Za hG;have hB0h:=Za hB0;have hA:=Za ((Below.refl w.heap.size w).alloc (Nat.le_refl _) (.cells #[] 9));clear h hG hB0;cases hs:rhOk r
 ·have hM:Hid (mText x.pure .cHeap r=(x.pure,[],7)):=Za (by unfold mText;rw[hs];rfl)
  go_enter Tryz.func30,Tryz.ntmps30;go_wp2_with fail
  refine(Zg0 r _ hr (hGh.out.below (Ys hB0h.out hH.out.hb (Zd hA.out)))).mono ?_;rw[hs];rintro e w1 ⟨rfl,hb⟩;have hB:=Za (Below.up hA.out hb);clear hb;go_wp2
  go_ret2
  have hBz:=Za (fun(O:Obj)=>hB.out.alloc hB.out.size O);exact⟨_,x,by rw[hM.out];rfl,hH.out.below (hBz.out _),by rw[hM.out],by rw[hM.out];exact Res.empty (Nat.zero_le _),Zd (hBz.out _),Ys hB0h.out hH.out.hb (Zd (hBz.out _))⟩
 ·obtain⟨y,hy⟩:∃y,y=rhHeap r:=⟨_,rfl⟩
  obtain⟨x',hx'⟩:∃x':DeskV→Prop,x'=λX=>X.pure={ x.pure with hs:=mPutL x.heaps y }/\X.fStroke=x.fStroke:=⟨_,rfl⟩
  have hyf:y.fits:=by
   rw[hy];exact Zgl hs
  have hM:Hid (mText x.pure .cHeap r=({ x.pure with hs:=mPutL x.heaps y },[({ x.pure with hs:=mPutL x.heaps y }:DeskM).text],mPutC x.heaps y)):=Za (by unfold mText;rw[hs,hy];rfl);clear hx' x';go_enter Tryz.func30,Tryz.ntmps30;go_wp2_with fail
  refine(Zg0 r _ hr (hGh.out.below (Ys hB0h.out hH.out.hb (Zd hA.out)))).mono ?_;rw[hs,←hy];rintro e w1 ⟨rfl,hb⟩;have hB:=Za (Below.up hA.out hb);clear hb hy;go_upto_region 12 with fail
  have hBz:=Za (fun(O:Obj)=>hB.out.alloc hB.out.size O);refine YH (φ:=λW=>Below w.heap.size w W/\W.heap[w1.heap.size]?=some (.cells #[.string y.fSort,.int .i64 y.fYear,.int .i64 y.fBundles] 106 (0,0))) ⟨hBz.out _,heap_alloc_new w1 _⟩ ?_;rintro W0 ⟨n0,n1⟩;obtain⟨kx,hkx⟩:∃kx,kx=w1.heap.size:=⟨_,rfl⟩;rw[←hkx] at n1 ⊢;have hB1:=Za n0;have hX1:=Za n1;have hH1:=Za (hH.out.below n0);clear n0 n1 hkx hBz hB;have hdr:Below W0.heap.size W0 W0.drew:=Zb (Below.refl _ _) 1;have hDR:=Za hdr;have hcell:Hid (∀W,Below W0.heap.size W0 W→W.cell? ⟨g,3,none⟩=some (.slice x.A' x.n' x.c')/\W.cell? ⟨kx,0,none⟩=some (.string y.fSort)/\W.cell? ⟨kx,1,none⟩=some (.int .i64 y.fYear)/\W.cell? ⟨kx,2,none⟩=some (.int .i64 y.fBundles)):=Za (λW hb=>⟨(Zs (Ze hH1.out.hK hb)).2.2.2.1,(Zfy (Ze hX1.out hb)).1,(Zfy (Ze hX1.out hb)).2.1,(Zfy (Ze hX1.out hb)).2.2.1⟩);obtain⟨e3,f0,f1,f2⟩:=hcell.out _ hdr;clear hdr;have hgood:=Za (hH1.out.below hDR.out);go_region_held3 (λw'=>w'.cell? ⟨g,3,none⟩=some (.slice x.A' x.n' x.c')/\w'.cell? ⟨kx,0,none⟩=some (.string y.fSort)/\w'.cell? ⟨kx,1,none⟩=some (.int .i64 y.fYear)/\w'.cell? ⟨kx,2,none⟩=some (.int .i64 y.fBundles)) (first|exact hcell.out _ hB4.out|exact hcell.out _ hDR.out|go_keep) (first|(go_at_call 69;refine(Zg1 x.A' x.n' x.c' x.heaps _ hgood.out.nh hgood.out.fit hgood.out.good.heaps y hyf).mono ?_;rintro e w4 ⟨v4,rfl,hr4,hb4⟩;have hB4:=Za (hDR.out.trans (hb4.mono hDR.out.size));have hR4:=Za hr4;obtain⟨A4,c4,hv4,_⟩:=hr4.slice;subst hv4;clear hb4 hr4)|fail)
  have hH4:=Za (hH1.out.below hB4.out);have hB5:=Za (hB1.out.trans (hB4.out.mono hB1.out.size));obtain⟨x',hx'⟩:∃x':DeskV,x'={ x with A':=A4,n':=(mPutL x.heaps y).length,c':=c4,heaps:=mPutL x.heaps y }:=⟨_,rfl⟩;have hxp:Hid (x'.pure={ x.pure with hs:=mPutL x.heaps y }):=Za (by rw[hx'];rfl);have hxs:Hid (x'.fStroke=x.fStroke):=Za (by rw[hx']);have hH5:=Za (hH4.out.set3 (hR4.out.less (Nat.le_trans hB0h.out.size (Nat.le_trans hB1.out.size (by simp)))) ZcC (Zbq hH.out.fit hyf));rw[←hx'] at hH5;obtain⟨d0,d1,d2,d3,d4,df⟩:=Zs hH4.out.hK;clear hx' e3 f0 f1 f2;go_upto_region 14 with fail
  refine YH (φ:=λW=>DG W w0.heap.size g x'/\w.grownBy W (some g)) ⟨hH5.out,Zx (Zd hB5.out) (Zl _ _ _ _)⟩ ?_;rintro W2 ⟨n0,n1⟩;have hH2:=Za n0;have hg2:=Za n1;clear n0 n1 d0 d1 d2 d3 d4 df hH5;obtain⟨c0,c1,c2,c3,c4',cf⟩:=Zs hH2.out.hK;go_wp2_with fail
  refine(Vl x' _ (hGh.out.below (Ys hB0h.out hH.out.hb hg2.out)) hH2.out.good (by rw[hxs.out];exact hst)).mono ?_;rw[Wd hH2.out.good,hxp.out];rintro e w3 ⟨rfl,hb⟩;have hH3:=Za (hH2.out.below hb);have hg3:=Za (YY hg2.out hb);have hO3:=Za (Wi (base:=w0.heap.size) w3 ({ x.pure with hs:=mPutL x.heaps y }:DeskM).text (Nat.le_trans hB0h.out.size hg3.out.size));clear hb;go_wp2
  go_ret2
  exact⟨_,x',by rw[hM.out];rfl,hH3.out.below ((Below.refl _ _).alloc (Nat.le_refl _) _),by rw[hM.out,hxp.out],by rw[hM.out];exact hO3.out.res,YY hg3.out ((Below.refl _ _).alloc (Nat.le_refl _) _),Ys hB0h.out hH.out.hb (YY hg3.out ((Below.refl _ _).alloc (Nat.le_refl _) _))⟩
theorem ZcL {n:Nat}(h:n<=1048577):(⟨#[111,107,32]⟩:ByteArray).size+(decB (n:Int)).size<=9223372036854775807:=by
 have h1:=Zv (n:Int) (by omega) (by omega);have h2:(⟨#[111,107,32]⟩:ByteArray).size=3:=rfl;omega
theorem Zc1 (r:ByteArray)(g:Nat)(x:DeskV)(w0 w:World)(hG:Gl w0)(hB0:Below w0.heap.size w0 w)(h:DG w w0.heap.size g x) :
  Calls Tryz.prog 30 #[.pointer (some ⟨g,0,none⟩),.string ⟨#[104,101,97,112,115]⟩,.string r] w λe w'=>ZaZ w0 w w0.heap.size g (mText x.pure .cHeaps r) e w':=by
 have hH:=Za h;have hGh:=Za hG;have hB0h:=Za hB0;have hA:=Za ((Below.refl w.heap.size w).alloc (Nat.le_refl _) (.cells #[] 9));have hE:=Za (Own.none_made (cells:=ZY) (e:=9) (s:=1) (base:=w.heap.size) w (Nat.le_refl _));obtain⟨c0,c1,c2,c3,c4,cf⟩:=Zs (h.below hA.out).hK;obtain⟨L,hL⟩:∃L,L=x.heaps:=⟨_,rfl⟩;have hM:Hid (mText x.pure .cHeaps r=(x.pure,L.map mHeapT++[okB L.length],0)):=Za (by rw[hL];rfl);obtain⟨AH,hAH⟩:∃A,A=x.A':=⟨_,rfl⟩;obtain⟨N,hN⟩:∃N,N=x.n':=⟨_,rfl⟩;rw[←hAH,←hN] at c3;have hrN:Arr Heap.cells 3 w w.heap.size AH N L:=by rw[hAH,hN,hL];exact h.good.heaps
 have hNb:N<=1048576:=by rw[hN];exact h.nh
 have hNl:=Za hrN.len;have hLo:Hid (∀y∈L,y.fits):=Za (by rw[hL];exact h.fit);clear hL hAH hN h hG hB0;go_enter Tryz.func30,Tryz.ntmps30;go_wp2
 go_loopw [8,70] (λv i wr=>∃k:Nat,k<=N/\i = .int .i64 (k:Int)/\Own ZY 9 1 wr w.heap.size v k ((L.take k).map mHeapT)/\Below w.heap.size w wr) (λ_ i _=>N-(intOf i).toNat)
 case atStart=>exact⟨0,Nat.zero_le _,rfl,hE.out,hA.out⟩
 case round =>
  obtain⟨k,hk,rfl,ho,hb⟩:=hrel;have hO:=Za ho;clear ho;by_cases hlt:k<N
  ·obtain⟨b,o,y,rfl,hbl,hx,c0,c1,c2⟩:=hrN.Heap hlt
   have d0:wr.cell? ⟨b,o+k*3,none⟩=some (.string y.fSort):=(hb.cell (p:=⟨b,o+k*3,none⟩) hbl).trans c0;have d1:wr.cell? ⟨b,o+k*3+1,none⟩=some (.int .i64 y.fYear):=(hb.cell (p:=⟨b,o+k*3+1,none⟩) hbl).trans c1;have d2:wr.cell? ⟨b,o+k*3+2,none⟩=some (.int .i64 y.fBundles):=(hb.cell (p:=⟨b,o+k*3+2,none⟩) hbl).trans c2;have hX:=Za hx;clear hx c0 c1 c2;have hB:=Za hb;have hym:=List.mem_of_getElem? hX.out;have hnx:Hid ((L.take (k+1)).map mHeapT=(L.take k).map mHeapT++[mHeapT y]):=Za (by rw[Zo hX.out,List.map_append];rfl);have hyo:=hLo.out y hym;clear hb hym;go_wp2_with fail
   have hB2:=Za (hB.out.alloc hB.out.size (.cells #[.string y.fSort,.int .i64 y.fYear,.int .i64 y.fBundles] 106));refine(Zfj y _ hyo (hGh.out.below (Ys hB0h.out hH.out.hb (Zd hB2.out)))).mono ?_;rintro e w1 ⟨rfl,hb⟩;have hO1:=Za ((hO.out.below ((Below.refl _ _).alloc (Nat.le_refl _) (.cells #[.string y.fSort,.int .i64 y.fYear,.int .i64 y.fBundles] 106))).below hb);have hB3:=Za (Below.up hB2.out hb);clear hb;go_wp2_with (at_builtin;refine Zp w1.heap.size rfl rfl (.tmp 74) (.tmp 77) rfl Tryz.underlying24 WV rfl (by omega) (by omega) Zf YJ rfl hO1.out (mHeapT y) _ rfl rfl (by omega) hB3.out.size ?_;intro v5 w5 ho5 hg5 _;have hC5:=Za (Zi hB3.out hO1.out hg5 hB3.out.size);have hO5:=Za ho5;clear ho5 hg5)
   go_roundw
   case rel=>exact⟨k+1,by omega,by go_num,by rw[hnx.out];exact hO5.out,hC5.out⟩
   case measure=>simp[intOf];omega
  ·have hkn:k=N:=by omega
   rw[hkn,List.take_of_length_le (by rw[hNl.out];exact Nat.le_refl _)] at hO;have hB:=Za hb;obtain⟨A5,c5,hv5,_⟩:=hO.out.slice;subst hv5;have hlt2:¬(k:Int)<(N:Int):=by omega
   have hcat:=Zr ⟨#[111,107,32]⟩ (decB (N:Int)) (ZcL (by omega));clear hb hkn;go_wp2_with fail
   refine(YQ (N:Int) _ (by omega) (by omega) (hGh.out.below (Ys hB0h.out hH.out.hb (Zd hB.out)))).mono ?_;rintro e w1 ⟨rfl,hb⟩;have hO1:=Za (hO.out.below hb);have hB3:=Za (Below.up hB.out hb);clear hb;go_wp2_with (at_builtin;refine Zp w1.heap.size rfl rfl (.tmp 102) (.tmp 107) rfl Tryz.underlying24 WV rfl (by omega) (by omega) Zf YJ rfl hO1.out ((⟨#[111,107,32]⟩:ByteArray)++decB (N:Int)) _ rfl rfl (by omega) hB3.out.size ?_;intro v5 w5 ho5 hg5 _;have hB5:=Za (Zi hB3.out hO1.out hg5 hB3.out.size);have hO5:=Za ho5;clear ho5 hg5)
   go_ret2
   have hfin:Hid (L.map mHeapT++[(⟨#[111,107,32]⟩:ByteArray)++decB (N:Int)]=L.map mHeapT++[okB L.length]):=Za (by rw[←hNl.out];rfl);refine⟨_,x,by rw[hM.out];rfl,hH.out.below hB5.out,by rw[hM.out],?_,Zd hB5.out,Ys hB0h.out hH.out.hb (Zd hB5.out)⟩;rw[hM.out];have h5:=hO5.out.less hB0h.out.size;rw[hfin.out] at h5;have hl5:(L.map mHeapT++[okB L.length]).length=N+1:=by simp[hNl.out]
   show Res _ _ _ _ _ _ (L.map mHeapT++[okB L.length]).length (L.map mHeapT++[okB L.length])
   rw[hl5];exact h5.res
theorem Res.far {α:Type}{cells:α→List Value}{e s:Nat}{w w':World}{base n g:Nat}{v:Value}{l:List α}(h:Res cells e s w base v n l)(hb:g<base)(hg:w.grownBy w' (some g)):Res cells e s w' base v n l :=
 ⟨h.1,h.2.1,λhn=>(h.2.2 hn).src hb hg⟩
theorem Zd0 {wE wr w':World}{g:Nat}(h:wE.grownBy wr (some g))(hb:Below wr.heap.size wr w'):wE.grownBy w' (some g) :=
 ⟨hb.os.trans h.os,hb.tape.trans h.tape,hb.output.trans h.output,Nat.le_trans h.size hb.size,λk hk hne=>(hb.block k (Nat.lt_of_lt_of_le hk h.size)).trans (h.block k hk hne)⟩
theorem ZjX {wE wr w':World}{g:Nat}{row:Option Nat}(h:wE.grownBy wr (some g))(hg:wr.grownBy w' row)(hr:∀q,row=some q→q=g\/wE.heap.size<=q):wE.grownBy w' (some g) :=
 ⟨hg.os.trans h.os,hg.tape.trans h.tape,hg.output.trans h.output,Nat.le_trans h.size hg.size,λk hk hne=>(hg.block k (Nat.lt_of_lt_of_le hk h.size) (λe=>by
  rcases hr k e.symm with h1|h1
  ·exact hne (by rw[h1])
  ·omega)).trans (h.block k hk hne)⟩
theorem ZaD (s:ByteArray):∀y∈mEnts s,y.ok=true:=by
 intro y hy;unfold mEnts at hy;split at hy
 ·exact(XL s).2.2.1 y hy
 ·cases hy
theorem ZgY (r:ByteArray)(g:Nat)(x:DeskV)(w0 w:World)(hG:Gl w0)(hB0:Below w0.heap.size w0 w)(h:DG w w0.heap.size g x) :
  Calls Tryz.prog 30 #[.pointer (some ⟨g,0,none⟩),.string ⟨#[108,111,103]⟩,.string r] w λe w'=>ZaZ w0 w w0.heap.size g (mText x.pure .cLog r) e w':=by
 have hH:=Za h;have hGh:=Za hG;have hB0h:=Za hB0;have hA:=Za ((Below.refl w.heap.size w).alloc (Nat.le_refl _) (.cells #[] 9));have hE:=Za (Own.none_made (cells:=ZY) (e:=9) (s:=1) (base:=w.heap.size) w (Nat.le_refl _));obtain⟨c0,c1,c2,c3,c4,cf⟩:=Zs (h.below hA.out).hK;obtain⟨L,hL⟩:∃L,L=(mEnts x.fLog):=⟨_,rfl⟩;have hM:Hid (mText x.pure .cLog r=(x.pure,L.map entB++[okB L.length],0)):=Za (by rw[hL];rfl);clear h hG hB0;go_enter Tryz.func30,Tryz.ntmps30;go_wp2_with fail
 refine(Zg6 x.fLog _ (hGh.out.below (Ys hB0h.out hH.out.hb (Zd hA.out)))).mono ?_;rintro e wE ⟨vE,rfl,hr,hb⟩;have hBE:=Za (Below.up hA.out hb);have hE1:=Za (hE.out.below hb);obtain⟨AH,cH,rfl,hcH⟩:=hr.slice;rw[←hL] at hr;have hlen:L.length<=1048576:=by rw[hL];exact ZgI _
 have hLo:Hid (∀y∈L,y.ok=true):=Za (by rw[hL];exact ZaD _);obtain⟨N,hN⟩:∃N,N=L.length:=⟨_,rfl⟩;rw[←hL];rw[←hN] at hr hlen ⊢;have hNb:N<=1048576:=hlen;have hNl:=Za hN.symm;have hR:=Za (hr.less (B:=w.heap.size+1) (by simp));clear hL hN hr hb hlen;go_wp2
 go_loopw [8,92] (λv i wr=>∃k:Nat,k<=N/\i = .int .i64 (k:Int)/\Own ZY 9 1 wr w.heap.size v k ((L.take k).map entB)/\Below w.heap.size w wr/\wE.grownBy wr (some w.heap.size)/\∀q,v.ownBlock=some q→q=w.heap.size\/wE.heap.size<=q) (λ_ i _=>N-(intOf i).toNat)
 case atStart=>exact⟨0,Nat.zero_le _,rfl,hE1.out,hBE.out,World.grownBy.refl _ _,λq e=>.inl (by simpa[Value.ownBlock] using e.symm)⟩
 case round =>
  obtain⟨k,hk,rfl,ho,hb,hf,hq⟩:=hrel;have hF:=Za hf;have hQ:=Za hq;clear hf hq;have hO:=Za ho;clear ho;by_cases hlt:k<N
  ·have hrr:=(hR.out.far (Nat.lt_succ_self _) hF.out).arr (s:=3) (λ_=>rfl)
   have hrb:=Below.refl wr.heap.size wr;obtain⟨b,o,y,rfl,hbl,hx,c0,c1,c2⟩:=hrr.Entry hlt;have d0:wr.cell? ⟨b,o+k*3,none⟩=some (.int .i64 y.fDay):=(hrb.cell (p:=⟨b,o+k*3,none⟩) hbl).trans c0;have d1:wr.cell? ⟨b,o+k*3+1,none⟩=some (.string y.fWhat):=(hrb.cell (p:=⟨b,o+k*3+1,none⟩) hbl).trans c1;have d2:wr.cell? ⟨b,o+k*3+2,none⟩=some (.int .i64 y.fValue):=(hrb.cell (p:=⟨b,o+k*3+2,none⟩) hbl).trans c2;have hX:=Za hx;clear hx c0 c1 c2;clear hrb hrr;have hB:=Za hb;have hym:=List.mem_of_getElem? hX.out;have hnx:Hid ((L.take (k+1)).map entB=(L.take k).map entB++[entB y]):=Za (by rw[Zo hX.out,List.map_append];rfl);have hyo:=hLo.out y hym;clear hb hym;go_wp2_with fail
   have hB2:=Za (hB.out.alloc hB.out.size (.cells #[.int .i64 y.fDay,.string y.fWhat,.int .i64 y.fValue] 116));refine(Ux y _ hyo (hGh.out.below (Ys hB0h.out hH.out.hb (Zd hB2.out)))).mono ?_;rintro e w1 ⟨rfl,hb⟩;have hO1:=Za ((hO.out.below ((Below.refl _ _).alloc (Nat.le_refl _) (.cells #[.int .i64 y.fDay,.string y.fWhat,.int .i64 y.fValue] 116))).below hb);have hB3:=Za (Below.up hB2.out hb);have hF3:=Za (Zd0 (Zd0 hF.out ((Below.refl _ _).alloc (Nat.le_refl _) (.cells #[.int .i64 y.fDay,.string y.fWhat,.int .i64 y.fValue] 116))) hb);clear hb;go_wp2_with (at_builtin;refine Zp w1.heap.size rfl rfl (.tmp 96) (.tmp 99) rfl Tryz.underlying24 WV rfl (by omega) (by omega) Zf YJ rfl hO1.out (entB y) _ rfl rfl (by omega) hB3.out.size ?_;intro v5 w5 ho5 hg5 hw5;have hF5:=Za (ZjX hF3.out hg5 hQ.out);have hQ5:Hid (∀q,v5.ownBlock=some q→q=w.heap.size\/wE.heap.size<=q):=Za (λq e=>by rcases hw5 with h1|h1;exact hQ.out q (h1 ▸ e);(have e2:=h1.symm.trans e;cases e2;have:=hF3.out.size;right;omega));clear hw5;have hC5:=Za (Zi hB3.out hO1.out hg5 hB3.out.size);have hO5:=Za ho5;clear ho5 hg5)
   go_roundw
   case rel=>exact⟨k+1,by omega,by go_num,by rw[hnx.out];exact hO5.out,hC5.out,hF5.out,hQ5.out⟩
   case measure=>simp[intOf];omega
  ·have hkn:k=N:=by omega
   rw[hkn,List.take_of_length_le (by rw[hNl.out];exact Nat.le_refl _)] at hO;have hB:=Za hb;obtain⟨A5,c5,hv5,_⟩:=hO.out.slice;subst hv5;have hlt2:¬(k:Int)<(N:Int):=by omega
   have hcat:=Zr ⟨#[111,107,32]⟩ (decB (N:Int)) (ZcL (by omega));clear hb hkn;go_wp2_with fail
   refine(YQ (N:Int) _ (by omega) (by omega) (hGh.out.below (Ys hB0h.out hH.out.hb (Zd hB.out)))).mono ?_;rintro e w1 ⟨rfl,hb⟩;have hO1:=Za (hO.out.below hb);have hB3:=Za (Below.up hB.out hb);clear hb;go_wp2_with (at_builtin;refine Zp w1.heap.size rfl rfl (.tmp 102) (.tmp 107) rfl Tryz.underlying24 WV rfl (by omega) (by omega) Zf YJ rfl hO1.out ((⟨#[111,107,32]⟩:ByteArray)++decB (N:Int)) _ rfl rfl (by omega) hB3.out.size ?_;intro v5 w5 ho5 hg5 _;have hB5:=Za (Zi hB3.out hO1.out hg5 hB3.out.size);have hO5:=Za ho5;clear ho5 hg5)
   go_ret2
   have hfin:Hid (L.map entB++[(⟨#[111,107,32]⟩:ByteArray)++decB (N:Int)]=L.map entB++[okB L.length]):=Za (by rw[←hNl.out];rfl);refine⟨_,x,by rw[hM.out];rfl,hH.out.below hB5.out,by rw[hM.out],?_,Zd hB5.out,Ys hB0h.out hH.out.hb (Zd hB5.out)⟩;rw[hM.out];have h5:=hO5.out.less hB0h.out.size;rw[hfin.out] at h5;have hl5:(L.map entB++[okB L.length]).length=N+1:=by simp[hNl.out]
   show Res _ _ _ _ _ _ (L.map entB++[okB L.length]).length (L.map entB++[okB L.length])
   rw[hl5];exact h5.res
def lgF (a:Int × ByteArray)(e:Entry):Int × ByteArray:=(stampB a.1 (entB e),a.2++YP (stampB a.1 (entB e)) e)
def ZbI (l:List Entry):Int × ByteArray:=l.foldl lgF (0,⟨#[]⟩)
theorem ZcW (a:Int × ByteArray)(x:Entry):(lgF a x).1=stampB a.1 (entB x)/\(lgF a x).2=a.2++YP (stampB a.1 (entB x)) x:=⟨rfl,rfl⟩
theorem JO {s:ByteArray}(h:ZU s=true):∀c∈s.data.toList,c≠10/\c≠32:=by
 intro c hc;obtain⟨i,hi⟩:=List.mem_iff_getElem?.1 hc;have hlt:i<s.size:=by have:=Zq hi;rw[ZM] at this;exact this
 rw[Ww s i hlt] at hi;have hc':s[i]=c:=Option.some.inj hi;unfold ZU at h;rw[Bool.and_eq_true,List.all_eq_true] at h;have h1:=h.2 i (List.mem_range.2 hlt);have h2:ZhL s i=(c.toNat:Int):=by unfold ZhL;rw[dif_pos hlt,hc']
 have h3:(97<=(c.toNat:Int)/\(c.toNat:Int)<=122)\/(48<=(c.toNat:Int)/\(c.toNat:Int)<=57)\/(c.toNat:Int)=45:=by
  unfold WE ZfE othB at h1;rw[h2] at h1;simp only[Bool.or_eq_true,Bool.and_eq_true,Zj,beq_iff_eq] at h1;rcases h1 with h1|⟨_,h1|h1⟩
  ·exact .inl h1
  ·exact .inr (.inl h1)
  ·exact .inr (.inr h1)
 constructor
 ·intro e;subst e;revert h3;decide
 ·intro e;subst e;revert h3;decide
def lnL (st:Int)(x:Entry):List UInt8:=Lib.itoa x.fDay++32 :: (x.fWhat.data.toList++32 :: (Lib.itoa x.fValue++32 :: Lib.itoa st))
theorem ZiE (n:Int):(decB n).data.toList=Lib.itoa n:=rfl
theorem QS (st:Int)(x:Entry):(YP st x).data.toList=lnL st x++[10]:=by
 unfold YP entB lnL;simp only[Joins.data_append,ZiE,List.append_assoc,List.cons_append,List.nil_append]
theorem ZkF {c:UInt8}(hc:c=10)(st:Int){x:Entry}(hk:x.ok=true):¬c∈lnL st x:=by
 subst hc;unfold lnL;intro h;rcases List.mem_append.1 h with h|h
 ·exact(XE _ _ h).1 rfl
 rcases List.mem_cons.1 h with h|h
 ·cases h
 rcases List.mem_append.1 h with h|h
 ·exact(JO (Entry.ok_iff.1 hk).2.1 _ h).1 rfl
 rcases List.mem_cons.1 h with h|h
 ·cases h
 rcases List.mem_append.1 h with h|h
 ·exact(XE _ _ h).1 rfl
 rcases List.mem_cons.1 h with h|h
 ·cases h
 ·exact(XE _ _ h).1 rfl
theorem Zkl {st:Int}{x:Entry}(hk:x.ok=true):Vt (lnL st x)=some x:=by
 obtain⟨⟨b1,b2⟩,hn,b3,b4⟩:=Entry.ok_iff.1 hk;have hd:=Zgo (n:=x.fDay) (by omega) (by omega);have hv:=Zgo (n:=x.fValue) (by omega) (by omega);have hs:spl 32 [] (lnL st x)=[Lib.itoa x.fDay,x.fWhat.data.toList,Lib.itoa x.fValue,Lib.itoa st]:=by
  unfold lnL;rw[Zdw _ _ _ (λh=>(XE _ _ h).2 rfl),Zdw _ _ _ (λh=>(JO hn _ h).2 rfl),Zdw _ _ _ (λh=>(XE _ _ h).2 rfl),ZiZ _ _ (λh=>(XE _ _ h).2 rfl)];rfl
 have he:Zd7 (Lib.itoa x.fDay) x.fWhat.data.toList (Lib.itoa x.fValue)=x:=by
  unfold Zd7;rw[hd.2,hv.2,WO]
 unfold Vt;rw[hs];show(if Yt (Lib.itoa x.fDay)=true/\Yt (Lib.itoa x.fValue)=true/\(Zd7 (Lib.itoa x.fDay) x.fWhat.data.toList (Lib.itoa x.fValue)).ok=true then some (Zd7 (Lib.itoa x.fDay) x.fWhat.data.toList (Lib.itoa x.fValue)) else none)=some x
 rw[he,if_pos ⟨hd.1,hv.1,hk⟩]
theorem UH {c:UInt8}:∀(l r:List UInt8),¬c∈l→(l++c :: r).takeWhile (·≠c)=l
 | [],r,_=>by rw[List.nil_append];exact List.takeWhile_cons_of_neg (by simp)
 | b :: l,r,h=>by
  have hb:b≠c:=λe=>h (by rw[e];exact List.mem_cons_self)
  have e:(b :: (l++c :: r)).takeWhile (·≠c)=b :: (l++c :: r).takeWhile (·≠c):=List.takeWhile_cons_of_pos (decide_eq_true hb);rw[List.cons_append,e,UH l r (λe=>h (List.mem_cons_of_mem _ e))]
theorem ZbH {l r:List UInt8}(h:¬(10:UInt8)∈l):Yz (l++10 :: r)=some l:=by
 unfold Yz;rw[if_pos (by simp),UH l r h]
def mkL:Int→List Entry→List UInt8
 | _,[]=>[]
 | st,x :: l=>lnL (stampB st (entB x)) x++10 :: mkL (stampB st (entB x)) l
def stL:Int→List Entry→Int
 | st,[]=>st
 | st,x :: l=>stL (stampB st (entB x)) l
theorem ZgP:∀(l:List Entry) (a:Int × ByteArray),(l.foldl lgF a).2.data.toList=a.2.data.toList++mkL a.1 l/\(l.foldl lgF a).1=stL a.1 l
 | [],a=>⟨by simp[mkL],rfl⟩
 | x :: l,a=>by
  obtain⟨h1,h2⟩:=ZgP l (lgF a x);rw[List.foldl_cons];refine⟨?_,by rw[h2];rfl⟩;rw[h1,(ZcW a x).1,(ZcW a x).2,Joins.data_append,QS,mkL];simp
def Dayed:Int→List Entry→Prop
 | _,[]=>True
 | d,x :: l=>d<=x.fDay/\Dayed x.fDay l
theorem Za9 {st day:Int}{x:Entry}(r:List UInt8)(hk:x.ok=true)(hd:day<=x.fDay):Yo st day (lnL (stampB st (entB x)) x++10 :: r)=some (x,lnL (stampB st (entB x)) x):=by
 refine VU (ZbH (ZkF rfl _ hk)) (Zkl hk) ?_;unfold Vv;rw[decide_eq_true hd,decide_eq_true (YI ?_)];rfl;rw[ByteArray.toList_eq,ByteArray.toList_eq,QS]
theorem Zbp:∀(l:List Entry) (f:Nat) (st day:Int),(∀x∈l,x.ok=true)→Dayed day l→(mkL st l).length<f→readK f (mkL st l) st day=(l,(mkL st l).length,stL st l)
 | [],0,_,_,_,_,hf=>by cases hf
 | [],f+1,st,day,_,_,_=>by
  have:Yo st day (mkL st [])=none:=Wj (by unfold Yz;rfl);rw[readK];simp only[this];rfl
 | x :: l,0,_,_,_,_,hf=>by cases hf
 | x :: l,f+1,st,day,hk,hd,hf=>by
  have hs:=Za9 (st:=st) (mkL (stampB st (entB x)) l) (hk x List.mem_cons_self) hd.1;have hdr:(mkL st (x :: l)).drop ((lnL (stampB st (entB x)) x).length+1)=mkL (stampB st (entB x)) l:=by
   rw[mkL,show lnL (stampB st (entB x)) x++10 :: mkL (stampB st (entB x)) l=(lnL (stampB st (entB x)) x++[10])++mkL (stampB st (entB x)) l by simp];exact List.drop_left' (by simp)
  have hlen:(mkL st (x :: l)).length=(lnL (stampB st (entB x)) x).length+1+(mkL (stampB st (entB x)) l).length:=by rw[mkL];simp;omega
  have ih:=Zbp l f (stampB st (entB x)) x.fDay (λy hy=>hk y (List.mem_cons_of_mem _ hy)) hd.2 (by omega);rw[readK];rw[show mkL st (x :: l)=lnL (stampB st (entB x)) x++10 :: mkL (stampB st (entB x)) l from rfl] at hdr hlen ⊢;simp only[hs,hdr,ih];rw[hlen];rfl
structure DE (l:List Entry):Prop where
 ok:∀x∈l,x.ok=true
 dayed:Dayed 0 l
theorem ZgQ (l:List Entry):(ZbI l).2.data.toList=mkL 0 l:=by
 have h:=(ZgP l (0,⟨#[]⟩)).1;unfold ZbI;rw[h];rfl
theorem Zin (l:List Entry):(ZbI l).1=stL 0 l:=(ZgP l (0,⟨#[]⟩)).2
theorem Zi6 (l:List Entry):(mkL 0 l).length=(ZbI l).2.size:=by rw[←ZgQ,ZM]
theorem ZcA {l:List Entry}(h:DE l):rdLog (ZbI l).2=(l,(ZbI l).2.size,(ZbI l).1):=by
 unfold rdLog;rw[ZgQ,Zbp l _ 0 0 h.ok h.dayed (by rw[Zi6];omega),Zi6,Zin]
theorem Dayed.take:∀{l:List Entry} {d:Int} (k:Nat),Dayed d l→Dayed d (l.take k)
 | [],_,k,_=>by rw[List.take_nil];trivial
 | x :: l,d,0,_=>trivial
 | x :: l,d,k+1,h=>⟨h.1,Dayed.take k h.2⟩
theorem DE.take {l:List Entry}(h:DE l)(k:Nat):DE (l.take k):=⟨λx hx=>h.ok x (List.mem_of_mem_take hx),h.dayed.take k⟩
theorem Dayed.at_:∀{l:List Entry} {d:Int} {j:Nat} {x y:Entry},Dayed d l→l[j+1]?=some x→l[j]?=some y→y.fDay<=x.fDay
 | [],_,_,_,_,_,h,_=>by cases h
 | [_],_,j,_,_,_,h,_=>by simp at h
 | a :: b :: l,d,0,x,y,h,hx,hy=>by
  have h1:b=x:=by simpa using hx
  have h2:a=y:=by simpa using hy
  subst h1 h2;exact h.2.1
 | a :: b :: l,d,j+1,x,y,h,hx,hy=>Dayed.at_ (l:=b :: l) h.2 (by simpa using hx) (by simpa using hy)
theorem Dayed.first:∀{l:List Entry} {d:Int} {x:Entry},Dayed d l→l[0]?=some x→d<=x.fDay
 | [],_,_,_,h=>by cases h
 | a :: l,d,x,h,hx=>by
  have h1:a=x:=by simpa using hx
  subst h1;exact h.1
theorem DE.nil:DE []:=⟨by simp,trivial⟩
theorem ZgO {st:Int}{x:Entry}(h0:0<=st)(h1:st<=65518)(hk:x.ok=true):(YP st x).size<=80:=by
 obtain⟨⟨b1,b2⟩,hn,b3,b4⟩:=Entry.ok_iff.1 hk;have s1:=Zv x.fDay (by omega) (by omega);have s2:=XK hn;have s3:=Zv x.fValue (by omega) (by omega);have s4:=Zv st (by omega) (by omega);unfold YP entB;simp only[ByteArray.size_append,ZP];omega
theorem ZdQ:∀(l:List Entry) (a:Int × ByteArray),(∀x∈l,x.ok=true)→(l.foldl lgF a).2.size<=a.2.size+80*l.length
 | [],_,_=>by simp
 | x :: l,a,hx=>by
  have h1:=ZdQ l (lgF a x) (λy hy=>hx y (List.mem_cons_of_mem _ hy));obtain⟨r1,r2⟩:=Z3 a.1 (entB x);have h2:=ZgO r1 r2 (hx x List.mem_cons_self);rw[(ZcW a x).2,ByteArray.size_append] at h1;rw[List.foldl_cons,List.length_cons];omega
theorem DE.short {l:List Entry}(h:DE l)(hn:l.length<=7):(ZbI l).2.size<=560:=by
 have h1:=ZdQ l (0,⟨#[]⟩) h.ok;have h2:(⟨#[]⟩:ByteArray).size=0:=rfl;unfold ZbI;simp only[h2] at h1;omega
theorem DE.lcode {l:List Entry}(h:DE l)(hn:l.length<=7):ZI (ZbI l).2=0/\ents (ZbI l).2=l/\upTo (ZbI l).2=(ZbI l).2.size/\lastSt (ZbI l).2=(ZbI l).1:=by
 have h1:=h.short hn;have h2:upTo (ZbI l).2=(ZbI l).2.size:=by unfold upTo;rw[ZcA h]
 exact⟨by unfold Go.Proofs.YtfpaejlipaainaaGreatDoor.ZI;rw[if_neg (by omega),if_pos h2],by unfold ents;rw[ZcA h],h2,by unfold lastSt;rw[ZcA h]⟩
theorem DeskM.ok_parts {d:DeskM}:d.ok=true↔strokeOk d.st=true/\inB d.sk 3 60=true/\ZD d.ks=true/\ZE d.hs=true/\ZI d.lg=0:=by
 unfold DeskM.ok;simp only[Bool.and_eq_true,decide_eq_true_eq];exact⟨fun⟨⟨⟨⟨a,b⟩,c⟩,d⟩,e⟩=>⟨a,b,c,d,e⟩,fun⟨a,b,c,d,e⟩=>⟨⟨⟨⟨a,b⟩,c⟩,d⟩,e⟩⟩
end Go.Proofs.YtfpaejlipaainaaGreatDoor
