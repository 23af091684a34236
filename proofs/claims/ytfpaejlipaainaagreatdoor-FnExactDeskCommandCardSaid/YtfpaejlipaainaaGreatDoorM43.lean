/- Texts that belong together, joined: contracts and plain laws. No statement is proved here. -/
import Derived.Test.YtfpaejlipaainaaGreatDoorM42
set_option maxRecDepth 100000
set_option maxHeartbeats 4000000
namespace Go.Proofs.YtfpaejlipaainaaGreatDoor
open Go.ChangeShapes Go.WideShapes Go.ChangeAt Go.RowKit Go.Deep
theorem ZaL (y:Int)(l:List Int):decide (y∈l)=l.contains y:=by rw[Bool.eq_iff_iff,decide_eq_true_eq,List.contains_iff_mem]
theorem Zkj {P:Program}{co:Code}{K:Exit→Act→World→Prop}{a:Act}{W:World}{φ:World→Prop}(h:φ W)(k:∀W1,φ W1→Code.wp P co K a W1):Code.wp P co K a W:=k W h
theorem Zbw (S:Nat)(br:List Int)(k:Nat):(YN S br k).length<=k:=by
 unfold YN;rw[List.length_map];have h:=List.length_filter_le (QD S br) (br.take k);rw[List.length_take] at h;omega
theorem Zen (S:Nat)(A:Option Addr)(n c:Nat)(br:List Int)(w:World)(hS:3<=S/\S<=60)(hbr:Z9 br 0 ((S:Int)-1)=true)(hr:Arr ZB 1 w w.heap.size A n br) :
  Calls Tryz.prog 256 #[.int .i64 (S:Int),.slice A n c] w λe w'=>∃v R,e = .returned v/\PR w' w.heap.size v R/\R.map Prod.snd=WN S br/\Below w.heap.size w w':=by
 have hlen:=Za hr.len;have hbd:=Za (Yd hbr);have hn:n<=60:=by have:=X8 hbr (by omega);rw[hr.len] at this;omega
 have hR:=Za hr;clear hbr;by_cases hall:n=S
 ·have hne:((n:Int)==(S:Int))=true:=by rw[hall];simp
  have hM:Hid (WN S br=[(0,(S:Int))]):=Za (by unfold WN;rw[if_pos (by rw[hlen.out];exact hall)]);clear hall;have hP0:Hid (PR (w.alloc (.cells #[] 60)) w.heap.size (.slice (some ⟨w.heap.size,0,none⟩) 0 0) []):=Za ⟨Own.none_made w (Nat.le_refl _),by intro r hr;cases hr⟩;have hB0:=Za ((Below.refl w.heap.size w).alloc (Nat.le_refl _) (.cells #[] 60));clear hr;go_enter Tryz.func256,Tryz.ntmps256;go_upto_region 3 with fail
  refine Zkj (φ:=λW=>PR W w.heap.size (.slice (some ⟨w.heap.size,0,none⟩) 0 0) []/\Below w.heap.size w W) ⟨hP0.out,hB0.out⟩ ?_;rintro W1 ⟨n0,n1⟩;have hP1:=Za n0;have hB1:=Za n1;clear n0 n1 hP0 hB0;go_wp2_with (at_builtin;refine Zp (W1.heap.size+1) (by simp) rfl (.tmp 14) (.tmp 17) rfl Tryz.underlying242 Qc rfl (by omega) (by omega) XI V3 rfl (hP1.out.row.below ((Below.refl _ _).alloc (Nat.le_refl _) _)) ((W1.heap.size,0,(S:Int)):Nat × Int × Int) _ rfl rfl (by simp) (by have:=hB1.out.size;simp;omega) ?_;intro v5 w5 ho5 hg5 _;have hP5:=Za (PR.app (hP1.out.below ((Below.refl _ _).alloc (Nat.le_refl _) _)) hB1.out.size (heap_alloc_new _ _) ho5 hg5);have hB5:=Za (Zi (hB1.out.alloc hB1.out.size _) (hP1.out.row.below ((Below.refl _ _).alloc (Nat.le_refl _) _)) hg5 (by have:=hB1.out.size;simp;omega));clear ho5 hg5)
  go_ret;exact⟨_,_,rfl,hP5.out,by rw[hM.out];rfl,hB5.out⟩
 have hne:((n:Int)==(S:Int))=false:=by rw[beq_eq_false_iff_ne];omega
 have hM:Hid (WN S br=YN S br br.length):=Za (by unfold WN;rw[if_neg (by rw[hlen.out];exact hall)]);clear hall;go_enter Tryz.func256,Tryz.ntmps256;go_wp2
 go_loopw [5,6] (λv i wr=>∃(k:Nat) (R:List (Nat × Int × Int)),k<=n/\i = .int .i64 k/\PR wr w.heap.size v R/\R.map Prod.snd=YN S br k/\Below w.heap.size w wr) (λ_ i _=>n-(intOf i).toNat)
 case atStart=>exact⟨0,[],Nat.zero_le _,rfl,⟨Own.none_made w (Nat.le_refl _),by intro r hr;cases hr⟩,rfl,(Below.refl w.heap.size w).alloc (Nat.le_refl _) _⟩
 case round =>
  obtain⟨k,R,hk,rfl,hpr,hRm,hb⟩:=hrel;have hP:=Za hpr;have hMm:=Za hRm;have hRl:R.length<=k:=by
   have:=congrArg List.length hRm;rw[List.length_map] at this;rw[this];exact Zbw S br k
  clear hpr hRm;by_cases hlt:k<n
  ·have hki:(k:Int)<(n:Int):=by omega
   obtain⟨b,o,f,rfl,hbl,hx,c0⟩:=hr.int hlt;have d0:wr.cell? ⟨b,o+k,none⟩=some (.int .i64 f):=(hb.cell (p:=⟨b,o+k,none⟩) hbl).trans c0;have hX:=Za hx;clear hx c0;have hB:=Za hb;have hfb:=hbd.out f (List.mem_of_getElem? hX.out);have w1:IntKind.i64.wrap (f+(S:Int))=f+(S:Int):=IntWalk.i64_in _ (by omega);have w2:IntKind.i64.wrap (f+(S:Int)-1)=f+(S:Int)-1:=IntWalk.i64_in _ (by omega);obtain⟨z,hz⟩:∃z,z=(f+(S:Int)-1)%(S:Int):=⟨_,rfl⟩;have hzz:(f+(S:Int)-1)%(S:Int)=z:=hz.symm;have hzh:=Za hz;have h0:0<=f+(S:Int)-1:=by omega
   have hS0:(0:Int)<(S:Int):=by omega
   clear hr hb hz;cases hc1:br.contains z
   ·have hp6:Hid (QD S br f=true):=Za (by unfold QD;rw[hzz,hc1];rfl)
    have hu:=Za (Zbv hX.out hp6.out);have hlast:Hid (∀j:Nat,j+1=S→br.contains ((f+(j:Int))%(S:Int))=false):=Za (λj hj=>by
     rw[show f+(j:Int)=f+(S:Int)-1 by omega,hzz];exact hc1)
    have hfirst:Hid (br.contains ((f+((0:Nat):Int))%(S:Int))=true):=Za (by
     rw[show f+((0:Nat):Int)=f by omega,Int.emod_eq_of_lt (by omega) (by omega)];exact List.contains_iff_mem.2 (List.mem_of_getElem? hX.out))
    go_wp2_with fail
    refine(Vc _ n c br z _ (by omega) (hR.out.go hB.out)).mono ?_;rw[ZaL,hc1];rintro e w5 ⟨rfl,hb⟩;have hB2:=Za (Below.up hB.out hb);have hP2:=Za (hP.out.below hb);clear hb w1 w2 hzz h0 hP hB hc1;obtain⟨wo,hwo⟩:∃wo:World,wo=wr:=⟨_,rfl⟩;clear hwo;obtain⟨wa,hwa⟩:∃wa:World,wa=w5:=⟨_,rfl⟩;rw[←hwa] at hB2 hP2 ⊢;clear hwa;go_wp2
    go_loopw [8] (λq wx=>∃j:Nat,j+1<=S/\q = .int .i64 (j:Int)/\Below wa.heap.size wa wx/\Hid (∀i,i<j→br.contains ((f+(i:Int))%(S:Int))=true)) (λq _=>S-(intOf q).toNat)
    case atStart=>exact⟨0,by omega,rfl,Below.refl _ _,Za (by intro i h2;omega)⟩
    case round =>
     obtain⟨j,hjS,rfl,hb3,hall⟩:=hrel;have hB3:=Za (Below.up hB2.out hb3);have hP3:=Za (hP2.out.below hb3);have hC3:=Za hb3;clear hb3;have v1:IntKind.i64.wrap (f+(j:Int))=f+(j:Int):=IntWalk.i64_in _ (by omega);obtain⟨y,hy⟩:∃y,y=(f+(j:Int))%(S:Int):=⟨_,rfl⟩;have hyy:(f+(j:Int))%(S:Int)=y:=hy.symm;have hyh:=Za hy;have hj0:0<=f+(j:Int):=by omega
     clear hy;cases hc:br.contains y
     ·have hj1:1<=j:=by
       rcases Nat.eq_zero_or_pos j with h|h
       ·subst h
        have:=hfirst.out;rw[hyy,hc] at this;cases this
       ·exact h
      have hm:Hid (manyOf S br f=j):=Za (V4 hj1 (by omega) (λi _ hi=>hall.out i hi) (.inr (by rw[hyy];exact hc)));go_wp2_with fail
      refine(Vc _ n c br y _ (by omega) (hR.out.go hB3.out)).mono ?_;rw[ZaL,hc];rintro e w6 ⟨rfl,hb⟩;replace hB3:=Za (Below.up hB3.out hb);replace hP3:=Za (hP3.out.below hb);clear hb;go_wp2_with ((at_builtin;refine Zp (w6.heap.size+1) (by simp) rfl (.tmp 46) (.tmp 50) rfl Tryz.underlying242 Qc rfl (by omega) (by omega) XI V3 rfl (hP3.out.row.below ((Below.refl _ _).alloc (Nat.le_refl _) _)) ((w6.heap.size,f,(j:Int)):Nat × Int × Int) _ rfl rfl (by omega) (by have:=hB3.out.size;simp;omega) ?_;intro v5 w5 ho5 hg5 _;have hP5:=Za (PR.app (hP3.out.below ((Below.refl _ _).alloc (Nat.le_refl _) _)) hB3.out.size (heap_alloc_new _ _) ho5 hg5);have hB5:=Za (Zi (hB3.out.alloc hB3.out.size _) (hP3.out.row.below ((Below.refl _ _).alloc (Nat.le_refl _) _)) hg5 (by have:=hB3.out.size;simp;omega));clear ho5 hg5))
      go_roundw
      case rel=>exact⟨k+1,R++[(w6.heap.size,f,(j:Int))],by omega,by go_num,hP5.out,by rw[List.map_append,hMm.out,hu.out,hm.out];rfl,hB5.out⟩
      case measure=>simp[intOf];omega
     ·have hj2:j+2<=S:=by
       rcases Nat.lt_or_ge (j+1) S with h|h
       ·omega
       ·have:=hlast.out j (by omega)
        rw[hyy,hc] at this;cases this
      have hnx:Hid (∀i,i<j+1→br.contains ((f+(i:Int))%(S:Int))=true):=Za (by
       intro i h2;by_cases hij:i=j
       ·subst hij;rw[hyy];exact hc
       ·exact hall.out i (by omega))
      go_wp2_with fail
      refine(Vc _ n c br y _ (by omega) (hR.out.go hB3.out)).mono ?_;rw[ZaL,hc];rintro e w6 ⟨rfl,hb⟩;replace hC3:=Za (Below.up hC3.out hb);clear hb;go_wp2
      go_roundw
      case rel=>exact⟨j+1,by omega,by go_num,hC3.out,hnx⟩
      case measure=>simp[intOf];omega
   ·have hu:=Za (ZcI (S:=S) hX.out (by unfold QD;rw[hzz,hc1];rfl))
    go_wp2_with fail
    refine(Vc _ n c br z _ (by omega) (hR.out.go hB.out)).mono ?_;rw[ZaL,hc1];rintro e w5 ⟨rfl,hb⟩;have hB2:=Za (Below.up hB.out hb);have hP2:=Za (hP.out.below hb);clear hb;go_wp2
    go_roundw
    case rel=>exact⟨k+1,R,by omega,by go_num,hP2.out,by rw[hu.out];exact hMm.out,hB2.out⟩
    case measure=>simp[intOf];omega
  ·have hkn:k=n:=by omega
   have hki:¬(k:Int)<(n:Int):=by omega
   have hB:=Za hb;have hfin:Hid (R.map Prod.snd=WN S br):=Za (by rw[hMm.out,hM.out,hkn,←hlen.out]);clear hb hkn;go_wp2
   go_ret;exact⟨_,rfl,_,hP.out,hfin.out,hB.out⟩
theorem ZdF (n:Int):∀l:List Int,(WG n l).length<=l.length+1
 | []=>by simp[WG]
 | x :: l=>by
  rw[WG];split
  ·simp
  ·split
   ·simp
   ·have:=ZdF n l
    simp;omega
theorem ZeP (l:List Int):(Xb l).length<=l.length:=by
 unfold Xb;have key:∀(l o:List Int),(l.foldl (λo n=>WG n o) o).length<=o.length+l.length:=by
  intro l
  induction l with
  | nil=>intro o;simp
  | cons x l ih =>
   intro o;rw[List.foldl_cons];have h1:=ih (WG x o);have h2:=ZdF x o;simp;omega
 have:=key l [];simpa using this
theorem Zep (S:Nat)(A:Option Addr)(n c:Nat)(br:List Int)(w:World)(hS:3<=S/\S<=60)(hbr:Z9 br 0 ((S:Int)-1)=true)(hr:Arr ZB 1 w w.heap.size A n br) :
  Calls Tryz.prog 205 #[.int .i64 (S:Int),.slice A n c] w λe w'=>∃v,e = .returned v/\Own ZB 2 1 w' w.heap.size v (ZeV S br).length (ZeV S br)/\Below w.heap.size w w':=by
 have hPB:=Za (VC hS (Yd hbr));have h66:=Za (Zbu hS.1 hbr);have hres:=Za (ZjL hS.1 hbr);have hbl:(YU S br).length<=60:=by
  have h1:=X8 hbr (by omega);have h2:=Wq S br br.length;unfold YU;omega
 have hbrh:=Za hbr;have hR:=Za hr;clear hbr hr;go_enter Tryz.func205,Tryz.ntmps205;go_wp2_with fail
 have hB0:=Za ((Below.refl w.heap.size w).alloc (Nat.le_refl _) (.cells #[] 2));have hO0:=Za (Own.none_made (cells:=ZB) (e:=2) (s:=1) (base:=w.heap.size) w (Nat.le_refl _));refine(Zen S A n c br _ hS hbrh.out (hR.out.go hB0.out)).mono ?_;rintro e w1 ⟨vR,R,rfl,hp,hRm,hb⟩;have hP:=Za (hp.row.len);have hPr:=Za hp;have hB:=Za (Below.up hB0.out hb);have hO:=Za (hO0.out.below hb);rw[h66.out] at hRm;have hM:=Za hRm;have hRl:R.length<=60:=by
  have:=congrArg List.length hRm;rw[List.length_map] at this;omega
 have hRB:Hid (∀r∈R,(0<=r.2.1/\r.2.1<=60)/\1<=r.2.2/\r.2.2<=60):=Za (λr hr=>hPB.out r.2 (by rw[←hRm];exact List.mem_map_of_mem hr));have hpl:∀p∈R.map Prod.snd,p.2<=60:=by rw[hRm];exact λp hp=>(hPB.out p hp).2.2
 have hgl:=Za (Uz S (R.map Prod.snd) hpl);obtain⟨AR,cR,hvR,hcR⟩:=hp.row.slice;subst hvR;clear hp hRm hb hB0 hO0 hpl hP;go_wp2
 go_loopw [5,7] (λv i wr=>∃k:Nat,k<=R.length/\i = .int .i64 (k:Int)/\Own ZB 2 1 wr w.heap.size v (Xb (gapsUp S (R.map Prod.snd) k)).length (Xb (gapsUp S (R.map Prod.snd) k))/\PR wr (w.alloc (.cells #[] 2)).heap.size (.slice AR R.length cR) R/\Below w.heap.size w wr) (λ_ i _=>R.length-(intOf i).toNat)
 case atStart=>exact⟨0,Nat.zero_le _,rfl,by simpa[gapsUp,Xb] using hO.out,hPr.out,hB.out⟩
 case round =>
  clear hO hB hPr;obtain⟨k,hk,rfl,ho,hp,hb⟩:=hrel;have hO:=Za ho;have hP:=Za hp;have hB:=Za hb;by_cases hlt:k<R.length
  ·have hkl:(k:Int)<(R.length:Int):=by omega
   obtain⟨gb,go,r,hA,hgb,hx,hcell⟩:=(hp.row.arr XI).at_ hlt;subst hA;have hrm:=List.mem_of_getElem? hx;have hrb:=hRB.out r hrm;have hnx:Hid (gapsUp S (R.map Prod.snd) (k+1)=gapsUp S (R.map Prod.snd) k++XZ S r.2):=Za (VI (by rw[List.getElem?_map,hx];rfl));have hrh:=Za hrm;have hxh:=Za hx;obtain⟨m,hm⟩:∃m:Nat,r.2.2=(m:Int):=⟨r.2.2.toNat,by omega⟩;obtain⟨f,hf⟩:∃f,f=r.2.1:=⟨_,rfl⟩;have hgl1:=hgl.out k;obtain⟨X,hX⟩:∃X,X=gapsUp S (R.map Prod.snd) k:=⟨_,rfl⟩;rw[←hX] at hO hnx hgl1;have hr2:Hid (r.2=(f,(m:Int))):=Za (by rw[hf,←hm]);rw[hm] at hrb;rw[←hf] at hrb;have hmb:1<=m/\m<=60:=by omega
   have hfb:=hrb.1;clear hcell hp ho hb hx hrm hX hm hf hrb;obtain⟨wo,hwo⟩:∃wo:World,wo=wr:=⟨_,rfl⟩;rw[←hwo] at hO hP hB ⊢;clear hwo;go_wp2
   go_loopw [5,8] (λv q wx=>∃j:Nat,j<=(m+1)/2/\q = .int .i64 ((2*j:Nat):Int)/\Own ZB 2 1 wx w.heap.size v (Xb (X++Yi S (f,(m:Int)) j)).length (Xb (X++Yi S (f,(m:Int)) j))/\PR wx (w.alloc (.cells #[] 2)).heap.size (.slice (some ⟨gb,go,none⟩) R.length cR) R/\Below w.heap.size w wx) (λ_ q _=>2*m-(intOf q).toNat)
   case atStart=>exact⟨0,Nat.zero_le _,rfl,by simpa[Yi] using hO.out,hP.out,hB.out⟩
   case round =>
    clear hO hP hB;obtain⟨j,hj,rfl,ho,hp,hb⟩:=hrel;have hO:=Za ho;have hP:=Za hp;have hB:=Za hb;have htw:=(hp.two r hrh.out).2;rw[hr2.out] at htw;obtain⟨t0,t1,_⟩:=Zkp htw;obtain⟨_,_,r',hA',_,hx',hcell'⟩:=(hp.row.arr XI).at_ hlt;cases hA'
    have hre:r'=r:=by rw[hxh.out] at hx';exact(Option.some.inj hx').symm
    subst hre;have c0:wr.cell? ⟨gb,go+k,none⟩=some (.slice (some ⟨r'.1,0,none⟩) 2 2):=by have:=hcell' 0 _ rfl;simpa using this
    have hgt:(Yi S (f,(m:Int)) j).length=j:=by unfold Yi;rw[List.length_map,List.length_range]
    have hXl:(X++Yi S (f,(m:Int)) j).length<=2000:=by rw[List.length_append,hgt];omega
    have hAl:=ZeP (X++Yi S (f,(m:Int)) j);clear ho hp hb htw hgt hx' hcell';obtain⟨J,hJ⟩:∃J,J=2*j:=⟨_,rfl⟩;by_cases hjl:2*j<m
    ·have hJm:(J:Int)<(m:Int):=by omega
     have v1:IntKind.i64.wrap (f+(J:Int))=f+(J:Int):=IntWalk.i64_in _ (by omega);have hu:Hid (Yi S (f,(m:Int)) (j+1)=Yi S (f,(m:Int)) j++[(f+(J:Int))%(S:Int)]):=Za (by rw[Ja,hJ];simp);obtain⟨y,hy⟩:∃y,y=(f+(J:Int))%(S:Int):=⟨_,rfl⟩;have hyy:(f+(J:Int))%(S:Int)=y:=hy.symm;rw[←hy] at hu;have hpu:Hid (Xb (X++Yi S (f,(m:Int)) (j+1))=WG y (Xb (X++Yi S (f,(m:Int)) j))):=Za (by rw[hu.out,←List.append_assoc,ZcF]);have h0:0<=f+(J:Int):=by omega
     have hS0:(0:Int)<(S:Int):=by omega
     have hj1:j+1<=(m+1)/2:=by omega
     have hJ2:2*(j+1)=J+2:=by omega
     have hJ2h:=Za hJ2;have hbs:Hid (w.heap.size<=wr.heap.size):=Za hB.out.size;obtain⟨Av,cv,hvv,_⟩:=hO.out.slice;subst hvv;rw[←hJ];clear hy hJ hJ2 hjl;go_wp2_with fail
     refine(Zf9 Av _ cv (Xb (X++Yi S (f,(m:Int)) j)) y _ (by omega) (hO.out.arr Zh)).mono ?_;rintro e w5 ⟨v5,rfl,ho5,hb5⟩;have hO5:=Za (ho5.less hbs.out);have hB5:=Za (Below.up hB.out hb5);have hP5:=Za (hP.out.below hb5);clear ho5 hb5;go_wp2
     go_roundw
     case rel=>exact⟨j+1,hj1,by rw[hJ2h.out];go_num,by rw[hpu.out];exact hO5.out,hP5.out,hB5.out⟩
     case measure=>simp[intOf];omega
    ·have hje:j=(m+1)/2:=by omega
     have hJm:¬(J:Int)<(m:Int):=by omega
     have hfin:Hid (X++Yi S (f,(m:Int)) j=gapsUp S (R.map Prod.snd) (k+1)):=Za (by rw[hnx.out,hr2.out,hje];rfl);rw[←hJ];clear hJ hje hjl;go_wp2
     go_roundw
     case rel=>exact⟨k+1,by omega,by go_num,by rw[←hfin.out];exact hO.out,hP.out,hB.out⟩
     case measure=>simp[intOf];omega
  ·have hkn:k=R.length:=by omega
   have hkl:¬(k:Int)<(R.length:Int):=by omega
   have hfin:Hid (Xb (gapsUp S (R.map Prod.snd) k)=ZeV S br):=Za (by
    rw[←hres.out];unfold ZkC gapsUp;rw[h66.out,←hM.out,hkn,←List.length_map (f:=Prod.snd),List.take_length])
   rw[hfin.out] at hO;clear hp ho hb hkn;go_wp2
   go_ret;exact⟨_,rfl,hO.out,hB.out⟩
theorem Zjw (S:Int)(A:Option Addr)(n c:Nat)(br:List Int)(w:World)(hn:n<=1048576)(hS:inB S 3 60=true)(hr:Arr ZB 1 w w.heap.size A n br) :
  Calls Tryz.prog 144 #[.int .i64 S,.slice A n c] w λe w'=>∃v,e = .returned (.tuple #[v,.int .i64 (newC S br)])/\Res ZB 2 1 w' w.heap.size v (newL S br).length (newL S br)/\Below w.heap.size w w':=by
 have hSb:=Zj.1 hS;have hR:=Za hr;clear hr;cases h1:Z9 br 0 (S-1)
 ·have hM:Hid (newC S br=1/\newL S br=[]):=Za (by unfold newL newC;rw[h1];exact⟨rfl,rfl⟩)
  go_enter Tryz.func144,Tryz.ntmps144;go_wp2_with fail
  refine(Qq S A n c br _ hn hS hR.out).mono ?_;rw[h1];rintro e w1 ⟨rfl,hb⟩;have hB:=Za hb;clear hb;go_wp2
  go_ret2
  exact⟨_,by rw[hM.out.1];rfl,by rw[hM.out.2];exact Res.empty (Nat.zero_le _),hB.out⟩
 ·obtain⟨q,rfl⟩:∃q:Nat,S=(q:Int):=⟨S.toNat,by omega⟩
  have hM:Hid (newC (q:Int) br=0/\newL (q:Int) br=ZeV q br):=Za (by unfold newL newC;rw[h1];exact⟨rfl,rfl⟩);go_enter Tryz.func144,Tryz.ntmps144;go_wp2_with fail
  refine(Qq (q:Int) A n c br _ hn hS hR.out).mono ?_;rw[h1];rintro e w1 ⟨rfl,hb⟩;have hB:=Za hb;clear hb;go_wp2_with fail
  refine(Zep q A n c br _ (by omega) h1 (hR.out.go hB.out)).mono ?_;rintro e w2 ⟨v,rfl,ho,hb⟩;have hO:=Za (ho.less hB.out.size);replace hB:=Za (Below.up hB.out hb);clear hb ho;go_wp2
  go_ret2
  exact⟨_,by rw[hM.out.1];rfl,by rw[hM.out.2];exact hO.out.res,hB.out⟩
def wkS (l:List Kind)(q:Int):List Kind→List Int→Option (List Int)→Option (List Int)
 | [],t,b=>bestS l q b t
 | k :: ks,t,b=>(List.range (k.fHave.toNat+1)).foldl (λb (n:Nat)=>wkS l q ks (t++[(n:Int)]) b) b
def Zkc (l:List Kind)(q:Int)(ks:List Kind)(t:List Int)(b:Option (List Int))(m:Nat):Option (List Int):=(List.range m).foldl (λb (n:Nat)=>wkS l q ks (t++[(n:Int)]) b) b
theorem Za3 (l:List Kind)(q:Int)(ks:List Kind)(t:List Int)(b:Option (List Int))(m:Nat):Zkc l q ks t b (m+1)=wkS l q ks (t++[(m:Int)]) (Zkc l q ks t b m):=by
 unfold Zkc;rw[List.range_succ,List.foldl_append];rfl
theorem Zdp (l:List Kind)(q:Int)(k:Kind)(ks:List Kind)(t:List Int)(b:Option (List Int)):wkS l q (k :: ks) t b=Zkc l q ks t b (k.fHave.toNat+1):=rfl
theorem ZfH (l:List Kind)(q:Int):∀(ks:List Kind) (t:List Int) (b:Option (List Int)),wkS l q ks t b=((allT (ks.map λk=>k.fHave)).map (t++·)).foldl (bestS l q) b
 | [],t,b=>by
  show bestS l q b t=([[]].map (t++·)).foldl (bestS l q) b
  rw[List.map_cons,List.map_nil,List.append_nil];rfl
 | k :: ks,t,b=>by
  rw[Zdp,List.map_cons,allT];generalize k.fHave.toNat+1=m
  induction m with
  | zero=>rfl
  | succ m ih =>
   rw[Za3,ih,ZfH l q ks,UF,List.map_append,List.foldl_append,List.map_map]
   congr 1
   apply List.map_congr_left
   intro x _;show t++[(m:Int)]++x=t++((m:Int) :: x)
   rw[List.append_assoc];rfl
theorem ZiC (l:List Kind)(q:Int):wkS l q l [] none=ZeZ l q:=by
 rw[ZfH];unfold ZeZ
 congr 1
 conv=>rhs;rw[←List.map_id (allT (l.map λk=>k.fHave))]
 exact List.map_congr_left λx _=>rfl
theorem ZeJ {l:List Kind}{t:List Int}{k:Kind}(h:l[t.length]?=some k)(n:Int):reachL l (t++[n])=reachL l t+n*k.fReach:=by
 have hl:=Zq h;unfold reachL;have e:l.zip (t++[n])=(l.take t.length).zip t++[(k,n)]:=by
  have h1:l=l.take t.length++k :: l.drop (t.length+1):=by
   conv=>lhs;rw[←List.take_append_drop t.length l]
   rw[List.drop_eq_getElem_cons hl,(List.getElem?_eq_some_iff.1 h).2]
  conv=>lhs;rw[h1]
  rw[List.zip_append (by rw[List.length_take];omega),List.zip_cons_cons,List.zip_nil_right]
 have e2:l.zip t=(l.take t.length).zip t:=by
  conv=>lhs;rw[←List.take_append_drop t.length l,←List.append_nil t]
  rw[List.zip_append (by rw[List.length_take,List.append_nil];omega)];simp
 rw[e,e2];unfold sumOf;rw[List.map_append,List.sum_append];simp
end Go.Proofs.YtfpaejlipaainaaGreatDoor
