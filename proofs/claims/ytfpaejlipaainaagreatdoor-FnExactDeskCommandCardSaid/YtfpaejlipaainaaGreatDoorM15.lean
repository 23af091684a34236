/- Texts that belong together, joined: contracts and plain laws. No statement is proved here. -/
import Derived.Test.YtfpaejlipaainaaGreatDoorM14
import Derived.Lib.OwnBridge
import Derived.Sort.OwnSorted
set_option maxRecDepth 100000
set_option maxHeartbeats 2000000
namespace Go.Proofs.YtfpaejlipaainaaGreatDoor
open Go.ChangeShapes Go.WideShapes Go.ChangeAt Go.RowKit Go.Deep
theorem Ya {w w':World}{g:Nat}{o:Obj}(h:w.heap[g]?=some o)(hb:Below w.heap.size w w'):w'.heap[g]?=some o:=(hb.block g (Array.getElem?_eq_some_iff.1 h).1).trans h
theorem V2 {w:World}{u0 u1 u2:Value}{t:TypeId}{g:Nat}(h:w.heap[g]?=some (.cells #[u0,u1,u2] t (0,0))) :
  w.cell? ⟨g,0,none⟩=some u0/\w.cell? ⟨g,1,none⟩=some u1/\w.cell? ⟨g,2,none⟩=some u2/\∀j:Nat,w.frozen? ⟨g,j,none⟩=false :=
 ⟨by rw[cell_of_row _ _ _ _ _ _ h];rfl,by rw[cell_of_row _ _ _ _ _ _ h];rfl,by rw[cell_of_row _ _ _ _ _ _ h];rfl,λj=>frozen_of_row _ _ _ _ _ h⟩
theorem Zef {l:List Heap}(h:Srt l){x y:Heap}{m:Nat}(hy:l[m]?=some y)(hlt:hLt y x=true):∀(i:Nat) z,i<m+1→l[i]?=some z→hLt z x=true:=by
 intro i z hi hz;by_cases he:i=m
 ·subst he;rw[hy] at hz;cases hz;exact hlt
 ·have h1:=Zq hy
  have h2:=Zq hz;have h3:=(List.pairwise_iff_getElem.1 h) i m h2 h1 (by omega);rw[List.getElem?_eq_getElem h1] at hy;rw[List.getElem?_eq_getElem h2] at hz;rw[Option.some.inj hy,Option.some.inj hz] at h3;exact Q6 h3 hlt
theorem ZfW {l:List Heap}(h:Srt l){x y:Heap}{m:Nat}(hy:l[m]?=some y)(hlt:hLt y x=false):∀(i:Nat) z,m<=i→l[i]?=some z→hLt z x=false:=by
 intro i z hi hz;by_cases he:i=m
 ·subst he;rw[hy] at hz;cases hz;exact hlt
 ·have h1:=Zq hy
  have h2:=Zq hz;have h3:=(List.pairwise_iff_getElem.1 h) m i h1 h2 (by omega);rw[List.getElem?_eq_getElem h1] at hy;rw[List.getElem?_eq_getElem h2] at hz;rw[Option.some.inj hy,Option.some.inj hz] at h3;cases h4:hLt z x with
  | false=>rfl
  | true=>have:=Q6 h3 h4;rw[hlt] at this;cases this
theorem Zko (A:Option Addr)(n c:Nat)(l:List Heap)(x:Heap)(w:World)(hn:n<=1048576)(hr0:Arr Heap.cells 3 w w.heap.size A n l)(hyr0:∀y∈l,1800<=y.fYear/\y.fYear<=2100)(hx1:1800<=x.fYear)(hx2:x.fYear<=2100)(hs0:Srt l) :
  Calls Tryz.prog 178 #[.slice A n c,.agg #[.string x.fSort,.int .i64 x.fYear,.int .i64 x.fBundles],.func (.func 115) #[] #[]] w λe w'=>e = .returned (.tuple #[.int .i64 (putK l x),.bool (Ym l x)])/\Below w.heap.size w w':=by
 have hr:=Za hr0;have hyr:=Za hyr0;have hs:=Za hs0;have hl:Hid (l.length=n):=Za hr0.len;clear hr0 hyr0 hs0;have hR0:=Za (heap_alloc_new w (.cells #[.string x.fSort,.int .i64 x.fYear,.int .i64 x.fBundles] 106));have hE0:Hid (Below w.heap.size w (w.alloc (.cells #[.string x.fSort,.int .i64 x.fYear,.int .i64 x.fBundles] 106))):=Za ((Below.refl _ _).alloc (Nat.le_refl _) _);go_enter Tryz.func178,Tryz.ntmps178;go_wp2
 go_loopg [9,10] n (λkx s9 s10 wr=>∃lo hi:Nat,s9 = .int .i64 lo/\s10 = .int .i64 hi/\lo<=hi/\hi<=n/\hi-lo<=kx/\Below w.heap.size w wr/\wr.heap[w.heap.size]?=some (.cells #[.string x.fSort,.int .i64 x.fYear,.int .i64 x.fBundles] 106 (0,0))/\Hid ((∀(i:Nat) z,i<lo→l[i]?=some z→hLt z x=true)/\(∀(i:Nat) z,hi<=i→l[i]?=some z→hLt z x=false)))
 case atStart=>exact⟨0,n,rfl,rfl,Nat.zero_le _,Nat.le_refl _,by omega,hE0.out,hR0.out,Za ⟨λi z hi=>absurd hi (by omega),λi z hi hz=>absurd (Zq hz) (by have:=hl.out;omega)⟩⟩
 case round =>
  clear hE0 hR0;obtain⟨lo,hi,rfl,rfl,hlh,hin,hg,he,hrow,hI⟩:=hrel;have hE:=Za he;have hR:=Za hrow;clear he hrow;by_cases hlt:lo<hi
  ·obtain⟨m,hm⟩:∃m:Nat,(m:Int)=((lo:Int)+(hi:Int))/2:=⟨(lo+hi)/2,by omega⟩
   have hm':=hm.symm;have hml:lo<=m:=by omega
   have hmh:m<hi:=by omega
   have hmn:(m:Int)<(n:Int):=by omega
   have hm0:(0:Int)<=(m:Int):=by omega
   clear hm;have hlt':(lo:Int)<(hi:Int):=by omega
   have hw1:IntKind.i64.wrap ((lo:Int)+(hi:Int))=(lo:Int)+(hi:Int):=IntWalk.i64_in _ (by omega);obtain⟨b,o,y,rfl,hbl,hy0,c0,c1,c2⟩:=hr.out.Heap (k:=m) (by omega);have hY:=Za hy0;have hyy:=hyr.out y (List.mem_of_getElem? hy0);have hdr:Below wr.heap.size wr wr.drew:=Zb (Below.refl _ _) 1;have hE2:=Za (Below.up hE.out hdr);have hR2:=Za (Ya hR.out hdr);have key:∀(W:World),Below w.heap.size w W→W.heap[w.heap.size]?=some (.cells #[.string x.fSort,.int .i64 x.fYear,.int .i64 x.fBundles] 106 (0,0))→(W.cell? ⟨w.heap.size,0,none⟩=some (.string x.fSort)/\W.cell? ⟨w.heap.size,1,none⟩=some (.int .i64 x.fYear)/\W.cell? ⟨w.heap.size,2,none⟩=some (.int .i64 x.fBundles)/\W.cell? ⟨b,o+m*3,none⟩=some (.string y.fSort)/\W.cell? ⟨b,o+m*3+1,none⟩=some (.int .i64 y.fYear)/\W.cell? ⟨b,o+m*3+2,none⟩=some (.int .i64 y.fBundles)):=λW h h'=>by obtain⟨e0,e1,e2,_⟩:=V2 h';exact⟨e0,e1,e2,(h.cell (p:=⟨b,o+m*3,none⟩) hbl).trans c0,(h.cell (p:=⟨b,o+m*3+1,none⟩) hbl).trans c1,(h.cell (p:=⟨b,o+m*3+2,none⟩) hbl).trans c2⟩
   have hkey:=Za key;obtain⟨g0,g1,g2,g3,g4,g5⟩:=key _ hE2.out hR2.out;clear key c0 c1 c2 hy0 hdr;cases hq:hLt y x
   ·have hA:=Za hq
    clear hq;have hc:¬hCmp y x<0:=by rw[Qd,hA.out];simp
    have hc':0<=hCmp y x:=by omega
    go_wp2_with fail
    go_region_held3 (λw'=>w'.cell? ⟨w.heap.size,0,none⟩=some (.string x.fSort)/\w'.cell? ⟨w.heap.size,1,none⟩=some (.int .i64 x.fYear)/\w'.cell? ⟨w.heap.size,2,none⟩=some (.int .i64 x.fBundles)/\w'.cell? ⟨b,o+m*3,none⟩=some (.string y.fSort)/\w'.cell? ⟨b,o+m*3+1,none⟩=some (.int .i64 y.fYear)/\w'.cell? ⟨b,o+m*3+2,none⟩=some (.int .i64 y.fBundles)) (first|go_keep|exact hkey.out _ hE2.out hR2.out) (first|(go_at_call 115;refine(Vn y x _ (by omega) (by omega) (by omega) (by omega)).mono ?_;rintro e w4 ⟨rfl,hb4⟩;replace hE2:=Za (Below.up hE2.out hb4);replace hR2:=Za (Ya hR2.out hb4);clear hb4 g0 g1 g2 g3 g4 g5)|fail)
    go_wp2
    go_roundg (m-lo)
    case measure=>omega
    case rel=>exact⟨lo,m,rfl,rfl,by omega,by omega,Nat.le_refl _,hE2.out,hR2.out,Za ⟨hI.out.1,ZfW hs.out hY.out hA.out⟩⟩
   ·have hA:=Za hq
    clear hq;have hc:hCmp y x<0:=Qd.2 hA.out;go_wp2_with fail
    go_region_held3 (λw'=>w'.cell? ⟨w.heap.size,0,none⟩=some (.string x.fSort)/\w'.cell? ⟨w.heap.size,1,none⟩=some (.int .i64 x.fYear)/\w'.cell? ⟨w.heap.size,2,none⟩=some (.int .i64 x.fBundles)/\w'.cell? ⟨b,o+m*3,none⟩=some (.string y.fSort)/\w'.cell? ⟨b,o+m*3+1,none⟩=some (.int .i64 y.fYear)/\w'.cell? ⟨b,o+m*3+2,none⟩=some (.int .i64 y.fBundles)) (first|go_keep|exact hkey.out _ hE2.out hR2.out) (first|(go_at_call 115;refine(Vn y x _ (by omega) (by omega) (by omega) (by omega)).mono ?_;rintro e w4 ⟨rfl,hb4⟩;replace hE2:=Za (Below.up hE2.out hb4);replace hR2:=Za (Ya hR2.out hb4);clear hb4 g0 g1 g2 g3 g4 g5)|fail)
    go_wp2
    go_roundg (hi-(m+1))
    case measure=>omega
    case rel=>exact⟨m+1,hi,by go_num,rfl,by omega,hin,Nat.le_refl _,hE2.out,hR2.out,Za ⟨Zef hs.out hY.out hA.out,hI.out.2⟩⟩
  ·have hll:lo=hi:=by omega
   subst hll;have hput:Hid (putK l x=lo):=Za (Qy l x lo (by rw[hl.out];omega) hI.out.1 (λz hz=>hI.out.2 lo z (Nat.le_refl _) hz));by_cases hln:lo<n
   ·have hln':(lo:Int)<(n:Int):=by omega
    have hlo0:(0:Int)<=(lo:Int):=by omega
    obtain⟨b,o,y,rfl,hbl,hy0,c0,c1,c2⟩:=hr.out.Heap (k:=lo) (by omega);have hY:=Za hy0;have hyy:=hyr.out y (List.mem_of_getElem? hy0);have hdr:Below wr.heap.size wr wr.drew:=Zb (Below.refl _ _) 1;have hE2:=Za (Below.up hE.out hdr);have hR2:=Za (Ya hR.out hdr);have key:∀(W:World),Below w.heap.size w W→W.heap[w.heap.size]?=some (.cells #[.string x.fSort,.int .i64 x.fYear,.int .i64 x.fBundles] 106 (0,0))→(W.cell? ⟨w.heap.size,0,none⟩=some (.string x.fSort)/\W.cell? ⟨w.heap.size,1,none⟩=some (.int .i64 x.fYear)/\W.cell? ⟨w.heap.size,2,none⟩=some (.int .i64 x.fBundles)/\W.cell? ⟨b,o+lo*3,none⟩=some (.string y.fSort)/\W.cell? ⟨b,o+lo*3+1,none⟩=some (.int .i64 y.fYear)/\W.cell? ⟨b,o+lo*3+2,none⟩=some (.int .i64 y.fBundles)):=λW h h'=>by obtain⟨e0,e1,e2,_⟩:=V2 h';exact⟨e0,e1,e2,(h.cell (p:=⟨b,o+lo*3,none⟩) hbl).trans c0,(h.cell (p:=⟨b,o+lo*3+1,none⟩) hbl).trans c1,(h.cell (p:=⟨b,o+lo*3+2,none⟩) hbl).trans c2⟩
    have hkey:=Za key;obtain⟨g0,g1,g2,g3,g4,g5⟩:=key _ hE2.out hR2.out;clear key c0 c1 c2 hy0 hdr;have hfd:Hid (Ym l x=decide (hCmp y x=0)):=Za (by unfold Ym;rw[hput.out,hY.out];show Qp y x=_;rw[Bool.eq_iff_iff,Wk,decide_eq_true_eq,Zhh]);by_cases h0:hCmp y x=0
    ·have hfv:Hid (Ym l x=true):=Za (hfd.out.trans (decide_eq_true h0))
     have h1:(hCmp y x==0)=true:=by rw[h0];rfl
     clear h0;go_wp2_with fail
     go_region_held3 (λw'=>w'.cell? ⟨w.heap.size,0,none⟩=some (.string x.fSort)/\w'.cell? ⟨w.heap.size,1,none⟩=some (.int .i64 x.fYear)/\w'.cell? ⟨w.heap.size,2,none⟩=some (.int .i64 x.fBundles)/\w'.cell? ⟨b,o+lo*3,none⟩=some (.string y.fSort)/\w'.cell? ⟨b,o+lo*3+1,none⟩=some (.int .i64 y.fYear)/\w'.cell? ⟨b,o+lo*3+2,none⟩=some (.int .i64 y.fBundles)) (first|go_keep|exact hkey.out _ hE2.out hR2.out) (first|(go_at_call 115;refine(Vn y x _ (by omega) (by omega) (by omega) (by omega)).mono ?_;rintro e w4 ⟨rfl,hb4⟩;replace hE2:=Za (Below.up hE2.out hb4);replace hR2:=Za (Ya hR2.out hb4);clear hb4 g0 g1 g2 g3 g4 g5)|fail)
     go_wp2
     exact bodyPost_ret (v:=.tuple #[.int .i64 lo,.bool true]) (by simp[results,Tryz.results178,go_sem]) rfl ⟨by rw[hput.out,hfv.out],hE2.out⟩
    ·have hfv:Hid (Ym l x=false):=Za (hfd.out.trans (decide_eq_false h0))
     have h1:(hCmp y x==0)=false:=by simp;exact h0
     clear h0;go_wp2_with fail
     go_region_held3 (λw'=>w'.cell? ⟨w.heap.size,0,none⟩=some (.string x.fSort)/\w'.cell? ⟨w.heap.size,1,none⟩=some (.int .i64 x.fYear)/\w'.cell? ⟨w.heap.size,2,none⟩=some (.int .i64 x.fBundles)/\w'.cell? ⟨b,o+lo*3,none⟩=some (.string y.fSort)/\w'.cell? ⟨b,o+lo*3+1,none⟩=some (.int .i64 y.fYear)/\w'.cell? ⟨b,o+lo*3+2,none⟩=some (.int .i64 y.fBundles)) (first|go_keep|exact hkey.out _ hE2.out hR2.out) (first|(go_at_call 115;refine(Vn y x _ (by omega) (by omega) (by omega) (by omega)).mono ?_;rintro e w4 ⟨rfl,hb4⟩;replace hE2:=Za (Below.up hE2.out hb4);replace hR2:=Za (Ya hR2.out hb4);clear hb4 g0 g1 g2 g3 g4 g5)|fail)
     go_wp2
     exact bodyPost_ret (v:=.tuple #[.int .i64 lo,.bool false]) (by simp[results,Tryz.results178,go_sem]) rfl ⟨by rw[hput.out,hfv.out],hE2.out⟩
   ·have hfv:Hid (Ym l x=false):=Za (by unfold Ym;rw[hput.out,List.getElem?_eq_none (by rw[hl.out];omega)])
    have hln':decide ((lo:Int)<(n:Int))=false:=decide_eq_false (by omega);go_wp2_with fail
    go_quiet (fail)
    go_wp2
    exact bodyPost_ret (v:=.tuple #[.int .i64 lo,.bool false]) (by simp[results,Tryz.results178,go_sem]) rfl ⟨by rw[hput.out,hfv.out],Below.up hE.out (Zb (Below.refl _ _) _)⟩
def ZK (l:List Heap)(i:Nat):Bool:=match l[i]? with
 | some x=>x.ok&&(decide (i=0)||(match l[i-1]? with|some y=>hLt y x|none=>true))
 | none=>true
def ZE (l:List Heap):Bool:=(List.range l.length).all (ZK l)&&decide (l.length<=20)
theorem Ud {l:List Heap}{x:Heap}(h:l[0]?=some x):ZK l 0=x.ok:=by unfold ZK;rw[h];simp
theorem WY {l:List Heap}{x y:Heap}{k:Nat}(h:l[k]?=some x)(hk:0<k)(h':l[k-1]?=some y):ZK l k=(x.ok&&hLt y x):=by
 unfold ZK;rw[h,h',decide_eq_false (by omega)];simp
theorem VH {l:List Heap}{n k:Nat}(h:(List.range n).all (ZK l)=true)(hk:k<n){x:Heap}(hx:l[k]?=some x):x.ok=true:=by
 have:=List.all_eq_true.1 h k (List.mem_range.2 hk);unfold ZK at this;rw[hx] at this;simp only[Bool.and_eq_true] at this;exact this.1
theorem Yk (A:Option Addr)(n c:Nat)(l:List Heap)(w:World)(hn:n<=1048576)(hf:∀x∈l,x.fits)(hr:Arr Heap.cells 3 w w.heap.size A n l) :
  Calls Tryz.prog 63 #[.slice A n c] w λe w'=>e = .returned (.bool (ZE l))/\Below w.heap.size w w':=by
 have hl:=Za hr.len;have hF:=Za hf;clear hf;go_enter Tryz.func63,Tryz.ntmps63;go_wp2
 go_loopw [7] (λi wr=>∃k:Nat,k<=n/\i = .int .i64 k/\Below w.heap.size w wr/\Hid ((List.range k).all (ZK l)=true)) (λi _=>n-(intOf i).toNat)
 case atStart=>exact⟨0,Nat.zero_le _,rfl,Below.refl _ _,Za rfl⟩
 case round =>
  obtain⟨k,hk,rfl,hb,hall⟩:=hrel;by_cases hlt:k<n
  ·obtain⟨b,o,x,rfl,hbl,hx,c0,c1,c2⟩:=hr.Heap hlt
   have d0:wr.cell? ⟨b,o+k*3,none⟩=some (.string x.fSort):=(hb.cell (p:=⟨b,o+k*3,none⟩) hbl).trans c0;have d1:wr.cell? ⟨b,o+k*3+1,none⟩=some (.int .i64 x.fYear):=(hb.cell (p:=⟨b,o+k*3+1,none⟩) hbl).trans c1;have d2:wr.cell? ⟨b,o+k*3+2,none⟩=some (.int .i64 x.fBundles):=(hb.cell (p:=⟨b,o+k*3+2,none⟩) hbl).trans c2;have hX:=Za hx;clear hx c0 c1 c2;have hbs:b<wr.heap.size:=Nat.lt_of_lt_of_le hbl hb.size;have hy:x.fits:=hF.out x (List.mem_of_getElem? hX.out);have hbad:Hid (ZK l k=false→ZE l=false):=Za (λh=>by
    unfold ZE;rw[Xl (i:=k) (x:=k) (by rw[List.getElem?_range (by rw[hl.out];exact hlt)]) h];rfl)
   have hgood:Hid (ZK l k=true→(List.range (k+1)).all (ZK l)=true):=Za (λh=>by rw[List.range_succ,List.all_append,hall.out];simp[h]);obtain⟨O,hO⟩:∃O:Obj,O = .cells #[.string x.fSort,.int .i64 x.fYear,.int .i64 x.fBundles] 106:=⟨_,rfl⟩;have k0:(wr.alloc O).cell? ⟨wr.heap.size,0,none⟩=some (.string x.fSort):=by rw[hO,cell_of_row _ _ _ _ _ _ (heap_alloc_new wr _)];rfl
   have k1:(wr.alloc O).cell? ⟨wr.heap.size,1,none⟩=some (.int .i64 x.fYear):=by rw[hO,cell_of_row _ _ _ _ _ _ (heap_alloc_new wr _)];rfl
   have k2:(wr.alloc O).cell? ⟨wr.heap.size,2,none⟩=some (.int .i64 x.fBundles):=by rw[hO,cell_of_row _ _ _ _ _ _ (heap_alloc_new wr _)];rfl
   have hB2:=Za (hb.alloc hb.size O);have hlt2:wr.heap.size<(wr.alloc O).heap.size:=by simp
   by_cases hz:0<k
   ·obtain⟨_,_,y,hA2,_,hx2,e0,e1,e2⟩:=hr.Heap (k:=k-1) (by omega)
    cases hA2
    have q0:(wr.alloc O).cell? ⟨b,o+(k-1)*3,none⟩=some (.string y.fSort):=(World.cell?_alloc_lt wr O ⟨b,o+(k-1)*3,none⟩ hbs).trans ((hb.cell (p:=⟨b,o+(k-1)*3,none⟩) hbl).trans e0);have q1:(wr.alloc O).cell? ⟨b,o+(k-1)*3+1,none⟩=some (.int .i64 y.fYear):=(World.cell?_alloc_lt wr O ⟨b,o+(k-1)*3+1,none⟩ hbs).trans ((hb.cell (p:=⟨b,o+(k-1)*3+1,none⟩) hbl).trans e1);have q2:(wr.alloc O).cell? ⟨b,o+(k-1)*3+2,none⟩=some (.int .i64 y.fBundles):=(World.cell?_alloc_lt wr O ⟨b,o+(k-1)*3+2,none⟩ hbs).trans ((hb.cell (p:=⟨b,o+(k-1)*3+2,none⟩) hbl).trans e2);have hbs2:b<(wr.alloc O).heap.size:=by simp;omega
    have hp:=Za (WY hX.out hz hx2);have hyo:=Heap.ok_iff.1 (VH hall.out (k:=k-1) (by omega) hx2);have hyy:=hyo.2.1;have hB:=Za hb;clear hr hb hall hx2 e0 e1 e2 hyo;have hd:decide ((0:Int)<(k:Int))=true:=by simp;omega
    have hi0:(0:Int)<=(k:Int)-1:=by omega
    have hi1:(k:Int)-1<(n:Int):=by omega
    have hw:IntKind.i64.wrap ((k:Int)-1)=(k:Int)-1:=IntWalk.i64_in _ (by omega);have hi2:((k:Int)-1).toNat=k-1:=by omega
    have hi3:(1:Int)<=(k:Int):=by omega
    have hi4:(k:Int)<=(n:Int):=by omega
    have hi5:k<=n:=by omega
    have hi6:1<=k:=by omega
    cases h1:x.ok
    ·have ck:Hid (ZK l k=false):=Za (by rw[hp.out];simp[h1])
     go_wp2_with fail
     subst hO;obtain⟨w2,hw2⟩:∃w2,w2=wr.alloc (.cells #[.string x.fSort,.int .i64 x.fYear,.int .i64 x.fBundles] 106):=⟨_,rfl⟩;rw[←hw2] at k0 k1 k2 hB2 hlt2 q0 q1 q2 hbs2 ⊢;clear hw2;refine wp_region_any (by kernel_rfl) ?_
     try (change wpAny _ _ _ _ _ _ _ (World.drew _))
     refine wpAny_ready (rs:=[0]) (by kernel_rfl) (by simp) ?_;refine AllReady.cons rfl (λK hK=>?_) AllReady.nil
     go_simp
     refine hK _ _ ?_;clear hK K;refine wpAny_ready (rs:=[1]) (by kernel_rfl) (by simp) ?_;refine AllReady.cons rfl (λK hK=>?_) AllReady.nil
     go_simp
     go_wp2_with ((go_at_call 114;refine(YA x _ hy).mono ?_;rintro e w3 ⟨rfl,hb1⟩))
     try (refine hK _ _ ?_)
     try clear hK K
     refine wpAny_take (i:=2) (v:=?v1) rfl (by kernel_rfl) (by kernel_rfl) (by kernel_rfl) (λ_ _ _ h=>h) (Or.inl ⟨by kernel_rfl,?hy1⟩) ?rest1
     case hy1=>(intro W;go_simp;try (with_reducible rfl))
     refine wpAny_take (i:=3) (v:=?v2) rfl (by kernel_rfl) (by kernel_rfl) (by kernel_rfl) (λ_ _ _ h=>h) (Or.inl ⟨by kernel_rfl,?hy2⟩) ?rest2
     case hy2=>(intro W;go_simp;try (with_reducible rfl))
     refine wpAny_take (i:=4) rfl (by kernel_rfl) (by kernel_rfl) (by kernel_rfl) (λ_ _ _ h=>h) (Or.inr ⟨by kernel_rfl,rfl⟩) ?_;refine wpAny_take (i:=5) rfl (by kernel_rfl) (by kernel_rfl) (by kernel_rfl) (λ_ _ _ h=>h) (Or.inr ⟨by kernel_rfl,rfl⟩) ?_;refine wpAny_take (i:=6) rfl (by kernel_rfl) (by kernel_rfl) (by kernel_rfl) (λ_ _ _ h=>h) (Or.inr ⟨by kernel_rfl,rfl⟩) ?_;refine wpAny_take (i:=7) rfl (by kernel_rfl) (by kernel_rfl) (by kernel_rfl) (λ_ _ _ h=>h) (Or.inr ⟨by kernel_rfl,rfl⟩) ?_;refine wpAny_take (i:=8) rfl (by kernel_rfl) (by kernel_rfl) (by kernel_rfl) (λ_ _ _ h=>h) (Or.inr ⟨by kernel_rfl,rfl⟩) ?_;refine wpAny_take (i:=9) rfl (by kernel_rfl) (by kernel_rfl) (by kernel_rfl) (λ_ _ _ h=>h) (Or.inr ⟨by kernel_rfl,rfl⟩) ?_;refine wpAny_take (i:=10) rfl (by kernel_rfl) (by kernel_rfl) (by kernel_rfl) (λ_ _ _ h=>h) (Or.inr ⟨by kernel_rfl,rfl⟩) ?_;refine wpAny_take (i:=11) rfl (by kernel_rfl) (by kernel_rfl) (by kernel_rfl) (λ_ _ _ h=>h) (Or.inr ⟨by kernel_rfl,rfl⟩) ?_;refine wpAny_take (i:=12) rfl (by kernel_rfl) (by kernel_rfl) (by kernel_rfl) (λ_ _ _ h=>h) (Or.inr ⟨by kernel_rfl,rfl⟩) ?_;refine wpAny_take (i:=13) rfl (by kernel_rfl) (by kernel_rfl) (by kernel_rfl) (λ_ _ _ h=>h) (Or.inr ⟨by kernel_rfl,rfl⟩) ?_;refine wpAny_take (i:=14) rfl (by kernel_rfl) (by kernel_rfl) (by kernel_rfl) (λ_ _ _ h=>h) (Or.inr ⟨by kernel_rfl,rfl⟩) ?_;refine wpAny_take (i:=15) rfl (by kernel_rfl) (by kernel_rfl) (by kernel_rfl) (λ_ _ _ h=>h) (Or.inr ⟨by kernel_rfl,rfl⟩) ?_;refine wpAny_take (i:=16) (v:=?v3) rfl (by kernel_rfl) (by kernel_rfl) (by kernel_rfl) (λ_ _ _ h=>h) (Or.inl ⟨by kernel_rfl,?hy3⟩) ?rest3
     case hy3=>(intro W;go_simp;try (with_reducible rfl))
     refine wpAny_done (by kernel_rfl) ?_ _;simp[Act.put];go_wp2
     go_ret;exact⟨ZW (hbad.out ck.out).symm,Below.up (Below.drew hB2.out) hb1⟩
    ·have hxy:=(Heap.ok_iff.1 h1).2.1
     cases h2:hLt y x
     ·have ck:Hid (ZK l k=false):=Za (by rw[hp.out];simp[h2])
      have hc:0<=hCmp y x:=by
       rcases Int.lt_or_le (hCmp y x) 0 with h|h
       ·rw[Qd,h2] at h;cases h
       ·exact h
      go_wp2_with fail
      subst hO;obtain⟨w2,hw2⟩:∃w2,w2=wr.alloc (.cells #[.string x.fSort,.int .i64 x.fYear,.int .i64 x.fBundles] 106):=⟨_,rfl⟩;rw[←hw2] at k0 k1 k2 hB2 hlt2 q0 q1 q2 hbs2 ⊢;clear hw2;go_region_held3 (λw'=>w'.cell? ⟨wr.heap.size,0,none⟩=some (.string x.fSort)/\w'.cell? ⟨wr.heap.size,1,none⟩=some (.int .i64 x.fYear)/\w'.cell? ⟨wr.heap.size,2,none⟩=some (.int .i64 x.fBundles)/\w'.cell? ⟨b,o+(k-1)*3,none⟩=some (.string y.fSort)/\w'.cell? ⟨b,o+(k-1)*3+1,none⟩=some (.int .i64 y.fYear)/\w'.cell? ⟨b,o+(k-1)*3+2,none⟩=some (.int .i64 y.fBundles)) (first|go_keep|exact⟨Zg hb1 hlt2 k0,Zg hb1 hlt2 k1,Zg hb1 hlt2 k2,Zg hb1 hbs2 q0,Zg hb1 hbs2 q1,Zg hb1 hbs2 q2⟩|exact⟨Zg hb4 (Nat.lt_of_lt_of_le hlt2 hb1.size) (Zg hb1 hlt2 k0),Zg hb4 (Nat.lt_of_lt_of_le hlt2 hb1.size) (Zg hb1 hlt2 k1),Zg hb4 (Nat.lt_of_lt_of_le hlt2 hb1.size) (Zg hb1 hlt2 k2),Zg hb4 (Nat.lt_of_lt_of_le hbs2 hb1.size) (Zg hb1 hbs2 q0),Zg hb4 (Nat.lt_of_lt_of_le hbs2 hb1.size) (Zg hb1 hbs2 q1),Zg hb4 (Nat.lt_of_lt_of_le hbs2 hb1.size) (Zg hb1 hbs2 q2)⟩) (first|(go_at_call 114;refine(YA x _ hy).mono ?_;rintro e w3 ⟨rfl,hb1⟩)|(go_at_call 115;refine(Vn y x _ (by omega) (by omega) (by omega) (by omega)).mono ?_;rintro e w4 ⟨rfl,hb4⟩))
      go_wp2
      go_ret;exact⟨ZW (hbad.out ck.out).symm,Below.up (Below.up (Below.drew hB2.out) hb1) hb4⟩
     ·have ck:Hid (ZK l k=true):=Za (by rw[hp.out];simp[h1,h2])
      have hc:hCmp y x<0:=Qd.2 h2;go_wp2_with fail
      subst hO;obtain⟨w2,hw2⟩:∃w2,w2=wr.alloc (.cells #[.string x.fSort,.int .i64 x.fYear,.int .i64 x.fBundles] 106):=⟨_,rfl⟩;rw[←hw2] at k0 k1 k2 hB2 hlt2 q0 q1 q2 hbs2 ⊢;clear hw2;go_region_held3 (λw'=>w'.cell? ⟨wr.heap.size,0,none⟩=some (.string x.fSort)/\w'.cell? ⟨wr.heap.size,1,none⟩=some (.int .i64 x.fYear)/\w'.cell? ⟨wr.heap.size,2,none⟩=some (.int .i64 x.fBundles)/\w'.cell? ⟨b,o+(k-1)*3,none⟩=some (.string y.fSort)/\w'.cell? ⟨b,o+(k-1)*3+1,none⟩=some (.int .i64 y.fYear)/\w'.cell? ⟨b,o+(k-1)*3+2,none⟩=some (.int .i64 y.fBundles)) (first|go_keep|exact⟨Zg hb1 hlt2 k0,Zg hb1 hlt2 k1,Zg hb1 hlt2 k2,Zg hb1 hbs2 q0,Zg hb1 hbs2 q1,Zg hb1 hbs2 q2⟩|exact⟨Zg hb4 (Nat.lt_of_lt_of_le hlt2 hb1.size) (Zg hb1 hlt2 k0),Zg hb4 (Nat.lt_of_lt_of_le hlt2 hb1.size) (Zg hb1 hlt2 k1),Zg hb4 (Nat.lt_of_lt_of_le hlt2 hb1.size) (Zg hb1 hlt2 k2),Zg hb4 (Nat.lt_of_lt_of_le hbs2 hb1.size) (Zg hb1 hbs2 q0),Zg hb4 (Nat.lt_of_lt_of_le hbs2 hb1.size) (Zg hb1 hbs2 q1),Zg hb4 (Nat.lt_of_lt_of_le hbs2 hb1.size) (Zg hb1 hbs2 q2)⟩) (first|(go_at_call 114;refine(YA x _ hy).mono ?_;rintro e w3 ⟨rfl,hb1⟩)|(go_at_call 115;refine(Vn y x _ (by omega) (by omega) (by omega) (by omega)).mono ?_;rintro e w4 ⟨rfl,hb4⟩))
      go_wp2
      go_roundw
      case rel=>exact⟨k+1,by omega,by go_num,Below.up (Below.up (Below.drew hB2.out) hb1) hb4,Za (hgood.out ck.out)⟩
      case measure=>simp[intOf];omega
   ·have hp:=Za (show ZK l k=x.ok by
     have hk0:k=0:=by omega
     subst hk0;exact Ud hX.out)
    have hd:decide ((0:Int)<(k:Int))=false:=by simp;omega
    have hB:=Za hb;clear hr hb hall;cases h1:x.ok
    ·have ck:Hid (ZK l k=false):=Za (by rw[hp.out];simp[h1])
     go_wp2_with fail
     subst hO;obtain⟨w2,hw2⟩:∃w2,w2=wr.alloc (.cells #[.string x.fSort,.int .i64 x.fYear,.int .i64 x.fBundles] 106):=⟨_,rfl⟩;rw[←hw2] at k0 k1 k2 hB2 hlt2 ⊢;clear hw2;refine wp_region_any (by kernel_rfl) ?_
     try (change wpAny _ _ _ _ _ _ _ (World.drew _))
     refine wpAny_ready (rs:=[0]) (by kernel_rfl) (by simp) ?_;refine AllReady.cons rfl (λK hK=>?_) AllReady.nil
     go_simp
     refine hK _ _ ?_;clear hK K;refine wpAny_ready (rs:=[1]) (by kernel_rfl) (by simp) ?_;refine AllReady.cons rfl (λK hK=>?_) AllReady.nil
     go_simp
     go_wp2_with ((go_at_call 114;refine(YA x _ hy).mono ?_;rintro e w3 ⟨rfl,hb1⟩))
     try (refine hK _ _ ?_)
     try clear hK K
     refine wpAny_take (i:=2) (v:=?v4) rfl (by kernel_rfl) (by kernel_rfl) (by kernel_rfl) (λ_ _ _ h=>h) (Or.inl ⟨by kernel_rfl,?hy4⟩) ?rest4
     case hy4=>(intro W;go_simp;try (with_reducible rfl))
     refine wpAny_take (i:=3) (v:=?v5) rfl (by kernel_rfl) (by kernel_rfl) (by kernel_rfl) (λ_ _ _ h=>h) (Or.inl ⟨by kernel_rfl,?hy5⟩) ?rest5
     case hy5=>(intro W;go_simp;try (with_reducible rfl))
     refine wpAny_take (i:=4) rfl (by kernel_rfl) (by kernel_rfl) (by kernel_rfl) (λ_ _ _ h=>h) (Or.inr ⟨by kernel_rfl,rfl⟩) ?_;refine wpAny_take (i:=5) rfl (by kernel_rfl) (by kernel_rfl) (by kernel_rfl) (λ_ _ _ h=>h) (Or.inr ⟨by kernel_rfl,rfl⟩) ?_;refine wpAny_take (i:=6) rfl (by kernel_rfl) (by kernel_rfl) (by kernel_rfl) (λ_ _ _ h=>h) (Or.inr ⟨by kernel_rfl,rfl⟩) ?_;refine wpAny_take (i:=7) rfl (by kernel_rfl) (by kernel_rfl) (by kernel_rfl) (λ_ _ _ h=>h) (Or.inr ⟨by kernel_rfl,rfl⟩) ?_;refine wpAny_take (i:=8) rfl (by kernel_rfl) (by kernel_rfl) (by kernel_rfl) (λ_ _ _ h=>h) (Or.inr ⟨by kernel_rfl,rfl⟩) ?_;refine wpAny_take (i:=9) rfl (by kernel_rfl) (by kernel_rfl) (by kernel_rfl) (λ_ _ _ h=>h) (Or.inr ⟨by kernel_rfl,rfl⟩) ?_;refine wpAny_take (i:=10) rfl (by kernel_rfl) (by kernel_rfl) (by kernel_rfl) (λ_ _ _ h=>h) (Or.inr ⟨by kernel_rfl,rfl⟩) ?_;refine wpAny_take (i:=11) rfl (by kernel_rfl) (by kernel_rfl) (by kernel_rfl) (λ_ _ _ h=>h) (Or.inr ⟨by kernel_rfl,rfl⟩) ?_;refine wpAny_take (i:=12) rfl (by kernel_rfl) (by kernel_rfl) (by kernel_rfl) (λ_ _ _ h=>h) (Or.inr ⟨by kernel_rfl,rfl⟩) ?_;refine wpAny_take (i:=13) rfl (by kernel_rfl) (by kernel_rfl) (by kernel_rfl) (λ_ _ _ h=>h) (Or.inr ⟨by kernel_rfl,rfl⟩) ?_;refine wpAny_take (i:=14) rfl (by kernel_rfl) (by kernel_rfl) (by kernel_rfl) (λ_ _ _ h=>h) (Or.inr ⟨by kernel_rfl,rfl⟩) ?_;refine wpAny_take (i:=15) rfl (by kernel_rfl) (by kernel_rfl) (by kernel_rfl) (λ_ _ _ h=>h) (Or.inr ⟨by kernel_rfl,rfl⟩) ?_;refine wpAny_take (i:=16) (v:=?v6) rfl (by kernel_rfl) (by kernel_rfl) (by kernel_rfl) (λ_ _ _ h=>h) (Or.inl ⟨by kernel_rfl,?hy6⟩) ?rest6
     case hy6=>(intro W;go_simp;try (with_reducible rfl))
     refine wpAny_done (by kernel_rfl) ?_ _;simp[Act.put];go_wp2
     go_ret;exact⟨ZW (hbad.out ck.out).symm,Below.up (Below.drew hB2.out) hb1⟩
    ·have ck:Hid (ZK l k=true):=Za (by rw[hp.out];simp[h1])
     go_wp2_with fail
     subst hO;obtain⟨w2,hw2⟩:∃w2,w2=wr.alloc (.cells #[.string x.fSort,.int .i64 x.fYear,.int .i64 x.fBundles] 106):=⟨_,rfl⟩;rw[←hw2] at k0 k1 k2 hB2 hlt2 ⊢;clear hw2;refine wp_region_any (by kernel_rfl) ?_
     try (change wpAny _ _ _ _ _ _ _ (World.drew _))
     refine wpAny_ready (rs:=[0]) (by kernel_rfl) (by simp) ?_;refine AllReady.cons rfl (λK hK=>?_) AllReady.nil
     go_simp
     refine hK _ _ ?_;clear hK K;refine wpAny_ready (rs:=[1]) (by kernel_rfl) (by simp) ?_;refine AllReady.cons rfl (λK hK=>?_) AllReady.nil
     go_simp
     go_wp2_with ((go_at_call 114;refine(YA x _ hy).mono ?_;rintro e w3 ⟨rfl,hb1⟩))
     try (refine hK _ _ ?_)
     try clear hK K
     refine wpAny_take (i:=2) (v:=?v7) rfl (by kernel_rfl) (by kernel_rfl) (by kernel_rfl) (λ_ _ _ h=>h) (Or.inl ⟨by kernel_rfl,?hy7⟩) ?rest7
     case hy7=>(intro W;go_simp;try (with_reducible rfl))
     refine wpAny_take (i:=3) (v:=?v8) rfl (by kernel_rfl) (by kernel_rfl) (by kernel_rfl) (λ_ _ _ h=>h) (Or.inl ⟨by kernel_rfl,?hy8⟩) ?rest8
     case hy8=>(intro W;go_simp;try (with_reducible rfl))
     refine wpAny_take (i:=4) (v:=?v9) rfl (by kernel_rfl) (by kernel_rfl) (by kernel_rfl) (λ_ _ _ h=>h) (Or.inl ⟨by kernel_rfl,?hy9⟩) ?rest9
     case hy9=>(intro W;go_simp;try (with_reducible rfl))
     refine wpAny_take (i:=5) (v:=?v10) rfl (by kernel_rfl) (by kernel_rfl) (by kernel_rfl) (λ_ _ _ h=>h) (Or.inl ⟨by kernel_rfl,?hy10⟩) ?rest10
     case hy10=>(intro W;go_simp;try (with_reducible rfl))
     refine wpAny_take (i:=6) (v:=?v11) rfl (by kernel_rfl) (by kernel_rfl) (by kernel_rfl) (λ_ _ _ h=>h) (Or.inl ⟨by kernel_rfl,?hy11⟩) ?rest11
     case hy11=>(intro W;go_simp;try (with_reducible rfl))
     refine wpAny_take (i:=7) rfl (by kernel_rfl) (by kernel_rfl) (by kernel_rfl) (λ_ _ _ h=>h) (Or.inr ⟨by kernel_rfl,rfl⟩) ?_;refine wpAny_take (i:=8) rfl (by kernel_rfl) (by kernel_rfl) (by kernel_rfl) (λ_ _ _ h=>h) (Or.inr ⟨by kernel_rfl,rfl⟩) ?_;refine wpAny_take (i:=9) rfl (by kernel_rfl) (by kernel_rfl) (by kernel_rfl) (λ_ _ _ h=>h) (Or.inr ⟨by kernel_rfl,rfl⟩) ?_;refine wpAny_take (i:=10) rfl (by kernel_rfl) (by kernel_rfl) (by kernel_rfl) (λ_ _ _ h=>h) (Or.inr ⟨by kernel_rfl,rfl⟩) ?_;refine wpAny_take (i:=11) rfl (by kernel_rfl) (by kernel_rfl) (by kernel_rfl) (λ_ _ _ h=>h) (Or.inr ⟨by kernel_rfl,rfl⟩) ?_;refine wpAny_take (i:=12) rfl (by kernel_rfl) (by kernel_rfl) (by kernel_rfl) (λ_ _ _ h=>h) (Or.inr ⟨by kernel_rfl,rfl⟩) ?_;refine wpAny_take (i:=13) rfl (by kernel_rfl) (by kernel_rfl) (by kernel_rfl) (λ_ _ _ h=>h) (Or.inr ⟨by kernel_rfl,rfl⟩) ?_;refine wpAny_take (i:=14) rfl (by kernel_rfl) (by kernel_rfl) (by kernel_rfl) (λ_ _ _ h=>h) (Or.inr ⟨by kernel_rfl,rfl⟩) ?_;refine wpAny_take (i:=15) (v:=?v12) rfl (by kernel_rfl) (by kernel_rfl) (by kernel_rfl) (λ_ _ _ h=>h) (Or.inl ⟨by kernel_rfl,?hy12⟩) ?rest12
     case hy12=>(intro W;go_simp;try (with_reducible rfl))
     refine wpAny_take (i:=16) (v:=?v13) rfl (by kernel_rfl) (by kernel_rfl) (by kernel_rfl) (λ_ _ _ h=>h) (Or.inl ⟨by kernel_rfl,?hy13⟩) ?rest13
     case hy13=>(intro W;go_simp;try (with_reducible rfl))
     refine wpAny_done (by kernel_rfl) ?_ _;simp[Act.put];go_wp2
     go_roundw
     case rel=>exact⟨k+1,by omega,by go_num,Below.up (Below.drew hB2.out) hb1,Za (hgood.out ck.out)⟩
     case measure=>simp[intOf];omega
  ·have hkn:k=n:=by omega
   subst hkn;have hB:=Za hb;clear hb;have ck:Hid (ZE l=decide (k<=20)):=Za (by unfold ZE;rw[hl.out,hall.out,Bool.true_and]);go_wp2
   go_ret;exact⟨ZW (by rw[ck.out,decide_eq_decide];omega),hB.out⟩
theorem ZT (A:Option Addr)(n c:Nat)(l:List Heap)(w:World)(hn:n<=1048576)(hf:∀x∈l,x.fits)(hr:Arr Heap.cells 3 w w.heap.size A n l) :
  Calls Tryz.prog 85 #[.slice A n c] w λe w'=>e = .returned (.bool (ZE l))/\Below w.heap.size w w':=by
 have hl:=Za hr.len;have hF:=Za hf;clear hf;go_enter Tryz.func85,Tryz.ntmps85;go_wp2
 go_loopw [3] (λi wr=>∃k:Nat,k<=n/\i = .int .i64 k/\Below w.heap.size w wr/\Hid ((List.range k).all (ZK l)=true)) (λi _=>n-(intOf i).toNat)
 case atStart=>exact⟨0,Nat.zero_le _,rfl,Below.refl _ _,Za rfl⟩
 case round =>
  obtain⟨k,hk,rfl,hb,hall⟩:=hrel;by_cases hlt:k<n
  ·obtain⟨b,o,x,rfl,hbl,hx,c0,c1,c2⟩:=hr.Heap hlt
   have d0:wr.cell? ⟨b,o+k*3,none⟩=some (.string x.fSort):=(hb.cell (p:=⟨b,o+k*3,none⟩) hbl).trans c0;have d1:wr.cell? ⟨b,o+k*3+1,none⟩=some (.int .i64 x.fYear):=(hb.cell (p:=⟨b,o+k*3+1,none⟩) hbl).trans c1;have d2:wr.cell? ⟨b,o+k*3+2,none⟩=some (.int .i64 x.fBundles):=(hb.cell (p:=⟨b,o+k*3+2,none⟩) hbl).trans c2;have hX:=Za hx;clear hx c0 c1 c2;have hk0:(0:Int)<=(k:Int):=by omega
   have hk1:(k:Int)<(n:Int):=by omega
   have hy:x.fits:=hF.out x (List.mem_of_getElem? hX.out);have hbad:Hid (ZK l k=false→ZE l=false):=Za (λh=>by
    unfold ZE;rw[Xl (i:=k) (x:=k) (by rw[List.getElem?_range (by rw[hl.out];exact hlt)]) h];rfl)
   have hgood:Hid (ZK l k=true→(List.range (k+1)).all (ZK l)=true):=Za (λh=>by rw[List.range_succ,List.all_append,hall.out];simp[h]);by_cases hz:0<k
   ·obtain⟨_,_,y,hA2,_,hx2,e0,e1,e2⟩:=hr.Heap (k:=k-1) (by omega)
    cases hA2
    have q0:wr.cell? ⟨b,o+(k-1)*3,none⟩=some (.string y.fSort):=(hb.cell (p:=⟨b,o+(k-1)*3,none⟩) hbl).trans e0;have q1:wr.cell? ⟨b,o+(k-1)*3+1,none⟩=some (.int .i64 y.fYear):=(hb.cell (p:=⟨b,o+(k-1)*3+1,none⟩) hbl).trans e1;have hp:=Za (WY hX.out hz hx2);have hB:=Za hb;clear hr hb hall hx2 e0 e1 e2;have hd:decide ((0:Int)<(k:Int))=true:=by simp;omega
    have hi0:(0:Int)<=(k:Int)-1:=by omega
    have hi1:(k:Int)-1<(n:Int):=by omega
    have hw:IntKind.i64.wrap ((k:Int)-1)=(k:Int)-1:=IntWalk.i64_in _ (by omega);have hi2:((k:Int)-1).toNat=k-1:=by omega
    cases h1:x.ok
    ·have ck:Hid (ZK l k=false):=Za (by rw[hp.out];simp[h1])
     go_wp2_with fail
     go_quiet ((first|(go_at_call 136;exact Zy (YL b (o+k*3) x _ hy d0 d1 d2))|(go_at_call 137;exact Yx (YZ b (o+(k-1)*3) b (o+k*3) y x _ q0 q1 d0 d1))))
     go_wp2
     go_ret;exact⟨ZW (hbad.out ck.out).symm,Zb hB.out _⟩
    ·cases h2:hLt y x
     ·have ck:Hid (ZK l k=false):=Za (by rw[hp.out];simp[h2])
      go_wp2_with fail
      go_quiet ((first|(go_at_call 136;exact Zy (YL b (o+k*3) x _ hy d0 d1 d2))|(go_at_call 137;exact Yx (YZ b (o+(k-1)*3) b (o+k*3) y x _ q0 q1 d0 d1))))
      go_wp2
      go_ret;exact⟨ZW (hbad.out ck.out).symm,Zb hB.out _⟩
     ·have ck:Hid (ZK l k=true):=Za (by rw[hp.out];simp[h1,h2])
      go_wp2_with fail
      go_quiet ((first|(go_at_call 136;exact Zy (YL b (o+k*3) x _ hy d0 d1 d2))|(go_at_call 137;exact Yx (YZ b (o+(k-1)*3) b (o+k*3) y x _ q0 q1 d0 d1))))
      go_wp2
      go_roundw
      case rel=>exact⟨k+1,by omega,by go_num,Zb hB.out _,Za (hgood.out ck.out)⟩
      case measure=>simp[intOf];omega
   ·have hp:=Za (show ZK l k=x.ok by
     have hk0:k=0:=by omega
     subst hk0;exact Ud hX.out)
    have hd:decide ((0:Int)<(k:Int))=false:=by simp;omega
    have hB:=Za hb;clear hr hb hall;cases h1:x.ok
    ·have ck:Hid (ZK l k=false):=Za (by rw[hp.out];simp[h1])
     go_wp2_with fail
     go_quiet ((first|(go_at_call 136;exact Zy (YL b (o+k*3) x _ hy d0 d1 d2))))
     go_wp2
     go_ret;exact⟨ZW (hbad.out ck.out).symm,Zb hB.out _⟩
    ·have ck:Hid (ZK l k=true):=Za (by rw[hp.out];simp[h1])
     go_wp2_with fail
     go_quiet ((first|(go_at_call 136;exact Zy (YL b (o+k*3) x _ hy d0 d1 d2))))
     go_wp2
     go_roundw
     case rel=>exact⟨k+1,by omega,by go_num,Zb hB.out _,Za (hgood.out ck.out)⟩
     case measure=>simp[intOf];omega
  ·have hkn:k=n:=by omega
   subst hkn;have hB:=Za hb;clear hb;have ck:Hid (ZE l=decide (k<=20)):=Za (by unfold ZE;rw[hl.out,hall.out,Bool.true_and]);go_wp2
   go_ret;exact⟨ZW (by rw[ck.out,decide_eq_decide];omega),hB.out⟩
section
open Go.Sort
def ZfL (l:List ByteArray):List (List UInt8):=l.map (·.data.toList)
theorem Zdc (l:List ByteArray):(ZfL l).map encStr=l.map Value.string:=Lib.map_encStr l
theorem Own.enc {e:TypeId}{w:World}{base n:Nat}{v:Value}{l:List ByteArray}(h:Own ZY e 1 w base v n l):w.ownsRow base e 1 v n ((ZfL l).map encStr):=by
 have:=h.2
 rwa [ZbZ,←Zdc] at this
end
theorem Heap.one:∀x,∀u∈Heap.cells x,u.oneCell'=true:=by intro x u hu;simp[Heap.cells] at hu;rcases hu with rfl|rfl|rfl<;>rfl
theorem Zt:(Tryz.prog.info? 106).map (λi=>(i.zero,i.size,i.bytes))=some (some (.agg #[.string ByteArray.empty,.int .i64 0,.int .i64 0]),3,32):=by kernel_rfl
theorem JW {l:List Heap}(h:ZE l=true){x:Heap}(hx:x∈l):(1800<=x.fYear/\x.fYear<=2100)/\(1<=x.fBundles/\x.fBundles<=1000):=by
 simp only[ZE,Bool.and_eq_true] at h;obtain⟨k,hk⟩:=List.mem_iff_getElem?.1 hx;exact(Heap.ok_iff.1 (VH h.1 (Zq hk) hk)).2
theorem Wu {l:List Heap}(h:ZE l=true):l.length<=20:=by
 simp only[ZE,Bool.and_eq_true,decide_eq_true_eq] at h;exact h.2
end Go.Proofs.YtfpaejlipaainaaGreatDoor
