/- Texts that belong together, joined: contracts and plain laws. No statement is proved here. -/
import Derived.Test.YtfpaejlipaainaaGreatDoorM22
set_option maxRecDepth 100000
set_option maxHeartbeats 4000000
namespace Go.Proofs.YtfpaejlipaainaaGreatDoor
open Go.ChangeShapes Go.WideShapes Go.ChangeAt Go.RowKit Go.Deep
theorem Zfv (S:Nat)(p:Int × Int)(h:p.2<=60):(XZ S p).length<=30:=by
 unfold XZ Yi;rw[List.length_map,List.length_range];omega
theorem Uz (S:Nat)(L:List (Int × Int))(h:∀p∈L,p.2<=60):∀k,(gapsUp S L k).length<=30*k:=by
 intro k
 induction k with
 | zero=>simp[gapsUp]
 | succ k ih =>
  by_cases hk:k<L.length
  ·have hx:=List.getElem?_eq_getElem hk
   rw[VI hx,List.length_append];have:=Zfv S L[k] (h _ (List.getElem_mem hk));omega
  ·have e:gapsUp S L (k+1)=gapsUp S L k:=by
    unfold gapsUp;rw[List.take_of_length_le (by omega),List.take_of_length_le (by omega)]
   rw[e];omega
theorem VC {S:Nat}{br:List Int}(hS:3<=S/\S<=60)(hb:∀x∈br,0<=x/\x<=(S:Int)-1):∀p∈YU S br,(0<=p.1/\p.1<=60)/\1<=p.2/\p.2<=60:=by
 intro p hp;unfold YU Xv at hp;obtain⟨f,hf,rfl⟩:=List.mem_map.1 hp;have h1:=hb f (List.mem_of_mem_take (List.mem_filter.1 hf).1);have h2:=QK (S:=S) (br:=br) (f:=f) (by omega);simp only;omega
theorem PR.kept {w w':World}{base:Nat}{v u:Value}{R:List (Nat × Int × Int)}{base' n:Nat}{l:List Int}(h:PR w base v R)(ho:Own ZB 2 1 w base' u n l)(hne:∀r∈R,u.ownBlock≠some r.1)(hg:w.grownBy w' u.ownBlock):PR w' base v R :=
 ⟨h.row.kept hg (YB h.row ho (by decide)),λr hr=>⟨(h.two r hr).1,(hg.block r.1 (Array.getElem?_eq_some_iff.1 (h.two r hr).2).1 (λe=>hne r hr e.symm)).trans (h.two r hr).2⟩⟩
theorem ZjJ {v v':Value}{H:Nat}{R:List (Nat × Int × Int)}(hn:∀r∈R,v.ownBlock≠some r.1)(hat:v'.ownBlock=v.ownBlock\/v'.ownBlock=some (H+1))(hl:∀r∈R,r.1<H):∀r∈R,v'.ownBlock≠some r.1:=by
 intro r hr;rcases hat with e|e
 ·rw[e];exact hn r hr
 ·rw[e];intro h;injection h with h;have:=hl r hr;omega
theorem Zg2 (S:Nat)(A:Option Addr)(n c:Nat)(br:List Int)(w:World)(hS:3<=S/\S<=60)(hbr:Z9 br 0 ((S:Int)-1)=true)(hr:Arr ZB 1 w w.heap.size A n br) :
  Calls Tryz.prog 191 #[.int .i64 (S:Int),.slice A n c] w λe w'=>∃v,e = .returned v/\Own ZB 2 1 w' w.heap.size v (ZeV S br).length (ZeV S br)/\Below w.heap.size w w':=by
 have hPB:=Za (VC hS (Yd hbr));have hbl:(YU S br).length<=60:=by
  have h1:=X8 hbr (by omega);have h2:=Wq S br br.length;unfold YU;omega
 have hbrh:=Za hbr;have hR:=Za hr;clear hbr hr;go_enter Tryz.func191,Tryz.ntmps191;go_wp2_with fail
 have hB0:=Za ((Below.refl w.heap.size w).alloc (Nat.le_refl _) (.cells #[] 2));have hO0:=Za (Own.none_made (cells:=ZB) (e:=2) (s:=1) (base:=w.heap.size) w (Nat.le_refl _));refine(Zfe S A n c br _ hS hbrh.out (hR.out.go hB0.out)).mono ?_;rintro e w1 ⟨vR,R,rfl,hp,hRm,hb⟩;have hP:=Za hp;have hB:=Za (Below.up hB0.out hb);have hO:=Za (hO0.out.below hb);have hM:=Za hRm;have hRl:R.length<=60:=by
  have:=congrArg List.length hRm;rw[List.length_map] at this;omega
 have hRB:Hid (∀r∈R,(0<=r.2.1/\r.2.1<=60)/\1<=r.2.2/\r.2.2<=60):=Za (λr hr=>hPB.out r.2 (by rw[←hRm];exact List.mem_map_of_mem hr));have hNF:Hid (∀r∈R,(Value.slice (some ⟨w.heap.size,0,none⟩) 0 0).ownBlock≠some r.1):=Za (λr hr e=>by
  have h1:=(hp.two r hr).1;rw[World.size_alloc] at h1;have h2:w.heap.size=r.1:=by injection e
  omega)
 have hpl:∀p∈R.map Prod.snd,p.2<=60:=by rw[hRm];exact λp hp=>(hPB.out p hp).2.2
 have hgl:=Za (Uz S (R.map Prod.snd) hpl);obtain⟨AR,cR,hvR,hcR⟩:=hp.row.slice;subst hvR;clear hp hRm hb hB0 hO0 hpl;go_wp2
 go_loopw [5,14] (λv i wr=>∃k:Nat,k<=R.length/\i = .int .i64 (k:Int)/\Own ZB 2 1 wr w.heap.size v (gapsUp S (R.map Prod.snd) k).length (gapsUp S (R.map Prod.snd) k)/\v.ownBlock.isSome=true/\(∀r∈R,v.ownBlock≠some r.1)/\PR wr (w.heap.size+1) (.slice AR R.length cR) R/\Below w.heap.size w wr) (λ_ i _=>R.length-(intOf i).toNat)
 case atStart=>exact⟨0,Nat.zero_le _,rfl,by simpa[gapsUp] using hO.out,rfl,hNF.out,by have:=hP.out;rw[World.size_alloc] at this;exact this,hB.out⟩
 case round =>
  clear hO hNF hB hP;obtain⟨k,hk,rfl,ho,hs,hnf,hp,hb⟩:=hrel;have hO:=Za ho;have hP:=Za hp;have hB:=Za hb;have hN:=Za hnf;have hS1:=Za hs;clear hnf hs;by_cases hlt:k<R.length
  ·obtain⟨gb,go,r,hA,hgb,hx,hcell⟩:=(hp.row.arr XI).at_ hlt
   subst hA;have c0:wr.cell? ⟨gb,go+k,none⟩=some (.slice (some ⟨r.1,0,none⟩) 2 2):=by have:=hcell 0 _ rfl;simpa using this
   have hrm:=List.mem_of_getElem? hx;have hrb:=hRB.out r hrm;have hnx:Hid (gapsUp S (R.map Prod.snd) (k+1)=gapsUp S (R.map Prod.snd) k++XZ S r.2):=Za (VI (by rw[List.getElem?_map,hx];rfl));have hrh:=Za hrm;obtain⟨m,hm⟩:∃m:Nat,r.2.2=(m:Int):=⟨r.2.2.toNat,by omega⟩;obtain⟨f,hf⟩:∃f,f=r.2.1:=⟨_,rfl⟩;have hgl1:=hgl.out k;obtain⟨X,hX⟩:∃X,X=gapsUp S (R.map Prod.snd) k:=⟨_,rfl⟩;rw[←hX] at hO hnx hgl1;have hr2:Hid (r.2=(f,(m:Int))):=Za (by rw[hf,←hm]);rw[hm] at hrb;rw[←hf] at hrb;have hmb:1<=m/\m<=60:=by omega
   have hfb:=hrb.1;clear hcell hp ho hb hx hrm hX hm hf hrb;obtain⟨wo,hwo⟩:∃wo:World,wo=wr:=⟨_,rfl⟩;rw[←hwo] at hO hP hB c0 ⊢;clear hwo;go_wp2
   go_loopw [5,8] (λv q wx=>∃j:Nat,j<=(m+1)/2/\q = .int .i64 ((2*j:Nat):Int)/\Own ZB 2 1 wx w.heap.size v (X++Yi S (f,(m:Int)) j).length (X++Yi S (f,(m:Int)) j)/\v.ownBlock.isSome=true/\(∀r∈R,v.ownBlock≠some r.1)/\PR wx (w.heap.size+1) (.slice (some ⟨gb,go,none⟩) R.length cR) R/\Below w.heap.size w wx) (λ_ q _=>2*m-(intOf q).toNat)
   case atStart=>exact⟨0,Nat.zero_le _,rfl,by simpa[Yi] using hO.out,hS1.out,hN.out,hP.out,hB.out⟩
   case round =>
    clear hO hP hB hN hS1 c0;obtain⟨j,hj,rfl,ho,hs,hnf,hp,hb⟩:=hrel;have hO:=Za ho;have hP:=Za hp;have hB:=Za hb;have hN:=Za hnf;have hS1:=Za hs;have htw:=(hp.two r hrh.out).2;rw[hr2.out] at htw;obtain⟨t0,t1,_⟩:=Zkp htw;have hgt:(Yi S (f,(m:Int)) j).length=j:=by unfold Yi;rw[List.length_map,List.length_range]
    have hXl:(X++Yi S (f,(m:Int)) j).length<=2000:=by rw[List.length_append,hgt];omega
    clear ho hp hb hnf hs htw hgt;obtain⟨J,hJ⟩:∃J,J=2*j:=⟨_,rfl⟩;by_cases hjl:2*j<m
    ·have hJm:(J:Int)<(m:Int):=by omega
     have v1:IntKind.i64.wrap (f+(J:Int))=f+(J:Int):=IntWalk.i64_in _ (by omega);have hu:Hid (Yi S (f,(m:Int)) (j+1)=Yi S (f,(m:Int)) j++[(f+(J:Int))%(S:Int)]):=Za (by rw[Ja,hJ];simp);obtain⟨y,hy⟩:∃y,y=(f+(J:Int))%(S:Int):=⟨_,rfl⟩;have hyy:(f+(J:Int))%(S:Int)=y:=hy.symm;rw[←hy] at hu;have h0:0<=f+(J:Int):=by omega
     have hS0:(0:Int)<(S:Int):=by omega
     have hj1:j+1<=(m+1)/2:=by omega
     have hJ2:2*(j+1)=J+2:=by omega
     have hJ2h:=Za hJ2;rw[←hJ];clear hy hJ hJ2 hjl;go_wp2_with (at_builtin;refine Zp wr.heap.size rfl rfl (.tmp 25) (.tmp 33) rfl Tryz.underlying60 Zz rfl (by omega) (by omega) Zh ZJ rfl hO.out y _ rfl rfl (by omega) hB.out.size ?_;intro v5 w5 ho5 hg5 hat5;have hB5:=Za (Zi hB.out hO.out hg5 hB.out.size);have hP5:=Za (hP.out.kept hO.out hN.out hg5);have hs5:=Za (ZR hat5 hS1.out);have hN5:=Za (ZjJ hN.out hat5 (λr hr=>(Array.getElem?_eq_some_iff.1 (hP.out.two r hr).2).1));have hO5:=Za ho5;clear ho5 hg5 hat5)
     go_roundw
     case rel=>exact⟨j+1,hj1,by rw[hJ2h.out];go_num,by rw[hu.out,←List.append_assoc,List.length_append];exact hO5.out,hs5.out,hN5.out,hP5.out,hB5.out⟩
     case measure=>simp[intOf];omega
    ·have hje:j=(m+1)/2:=by omega
     have hJm:¬(J:Int)<(m:Int):=by omega
     have hfin:Hid (X++Yi S (f,(m:Int)) j=gapsUp S (R.map Prod.snd) (k+1)):=Za (by rw[hnx.out,hr2.out,hje];rfl);rw[←hJ];clear hJ hje hjl;go_wp2
     go_roundw
     case rel=>exact⟨k+1,by omega,by go_num,by rw[←hfin.out];exact hO.out,hS1.out,hN.out,hP.out,hB.out⟩
     case measure=>simp[intOf];omega
  ·have hkn:k=R.length:=by omega
   have hfin:Hid (gapsUp S (R.map Prod.snd) k=gapsUp S (YU S br) (YU S br).length):=Za (by rw[hM.out,hkn,←hM.out,List.length_map]);rw[hfin.out] at hO;have hln:(gapsUp S (YU S br) (YU S br).length).length<=1048576:=by
    rw[←hfin.out];have:=hgl.out k;omega
   obtain⟨g5,c5,hv5,_,_,_,_⟩:=hO.out.formS hS1.out;subst hv5;clear hp ho hb hkn;go_wp2_with fail
   refine(ZfZ _ w.heap.size g5 c5 _ _ hln hO.out).mono ?_;rintro e w5 ⟨rfl,ho5,hg5⟩;have hB5:=Za (hB.out.grown hg5 hB.out.size (λq e=>by cases e;exact(hO.out.2.lt _ rfl).1));have hO5:=Za ho5;clear ho5 hg5;go_wp2
   go_ret;exact⟨_,rfl,by unfold ZeV;rw[List.length_mergeSort];exact hO5.out,hB5.out⟩
theorem ZjU (S:Int)(A:Option Addr)(n c:Nat)(br:List Int)(w:World)(hn:n<=1048576)(hS:inB S 3 60=true)(hr:Arr ZB 1 w w.heap.size A n br) :
  Calls Tryz.prog 132 #[.int .i64 S,.slice A n c] w λe w'=>∃v,e = .returned (.tuple #[v,.int .i64 (newC S br)])/\Res ZB 2 1 w' w.heap.size v (newL S br).length (newL S br)/\Below w.heap.size w w':=by
 have hSb:=Zj.1 hS;have hR:=Za hr;clear hr;cases h1:Z9 br 0 (S-1)
 ·have hM:Hid (newC S br=1/\newL S br=[]):=Za (by unfold newL newC;rw[h1];exact⟨rfl,rfl⟩)
  go_enter Tryz.func132,Tryz.ntmps132;go_wp2_with fail
  refine(Q4 S A n c br _ hn hS hR.out).mono ?_;rw[h1];rintro e w1 ⟨rfl,hb⟩;have hB:=Za hb;clear hb;go_wp2
  go_ret2
  exact⟨_,by rw[hM.out.1];rfl,by rw[hM.out.2];exact Res.empty (Nat.zero_le _),hB.out⟩
 ·obtain⟨q,rfl⟩:∃q:Nat,S=(q:Int):=⟨S.toNat,by omega⟩
  have hM:Hid (newC (q:Int) br=0/\newL (q:Int) br=ZeV q br):=Za (by unfold newL newC;rw[h1];exact⟨rfl,rfl⟩);go_enter Tryz.func132,Tryz.ntmps132;go_wp2_with fail
  refine(Q4 (q:Int) A n c br _ hn hS hR.out).mono ?_;rw[h1];rintro e w1 ⟨rfl,hb⟩;have hB:=Za hb;clear hb;go_wp2_with fail
  refine(Zg2 q A n c br _ (by omega) h1 (hR.out.go hB.out)).mono ?_;rintro e w2 ⟨v,rfl,ho,hb⟩;have hO:=Za (ho.less hB.out.size);replace hB:=Za (Below.up hB.out hb);clear hb ho;go_wp2
  go_ret2
  exact⟨_,by rw[hM.out.1];rfl,by rw[hM.out.2];exact hO.out.res,hB.out⟩
theorem Zbr (S b:Int)(rods:List Int):∀(n:Nat) (o:List Int) (st:List Int × Int),(∀z∈o,0<=z/\z<=(rods.length:Int))→(∀z∈st.1,0<=z/\z<=(rods.length:Int))→∀z∈(plc S b rods n o st).1,0<=z/\z<=(rods.length:Int)
 | 0,_,_,_,hs=>hs
 | n+1,o,st,ho,hs=>by
  rw[plc];split
  ·exact hs
  ·split
   ·exact ho
   ·have key:∀(K:List Nat) (st:List Int × Int),(∀k∈K,k<rods.length)→(∀z∈st.1,0<=z/\z<=(rods.length:Int))→∀z∈(K.foldl (λst (k:Nat)=>if (k:Int)∈o then st else plc S b rods n (o++[(k:Int)]) st) st).1,0<=z/\z<=(rods.length:Int):=by
     intro K
     induction K with
     | nil=>intro st _ h;exact h
     | cons k K ih =>
      intro st hK h;rw[List.foldl_cons];refine ih _ (λj hj=>hK j (List.mem_cons_of_mem _ hj)) ?_;split
      ·exact h
      ·refine Zbr S b rods n _ _ (λz hz=>?_) h
       rcases List.mem_append.1 hz with hz|hz
       ·exact ho z hz
       ·rw[List.mem_singleton.1 hz]
        have:=hK k List.mem_cons_self;omega
    exact key _ st (λk hk=>List.mem_range.1 hk) hs
theorem ZcK (S b:Int)(rods:List Int):I64 (ordL S b rods):=by
 unfold ordL;split
 ·rename_i h
  have hl:rods.length<=7:=by
   unfold ordC at h;split at h
   ·rename_i h2;exact(Qr h2).1
   ·cases h
  intro z hz;have:=Zbr S b rods (rods.length+1) [] ([],-1) (λz hz=>by cases hz) (λz hz=>by cases hz) z hz;omega
 ·intro z hz;cases hz
theorem ZcN {S:Int}(br:List Int)(hS:3<=S/\S<=60):I64 (newL S br):=by
 unfold newL;split
 ·intro z hz
  unfold ZeV at hz;have h1:=(List.mergeSort_perm (gapsUp S.toNat (YU S.toNat br) (YU S.toNat br).length) λx y=>decide (x<=y)).mem_iff.1 hz;unfold gapsUp at h1;obtain⟨p,_,hp⟩:=List.mem_flatMap.1 h1;unfold XZ Yi at hp;obtain⟨j,_,rfl⟩:=List.mem_map.1 hp;have h2:((S.toNat:Nat):Int)=S:=by omega
  rw[h2];have h3:=Int.emod_nonneg (p.1+2*(j:Int)) (show S≠0 by omega);have h4:=Int.emod_lt_of_pos (p.1+2*(j:Int)) (show 0<S by omega);omega
 ·intro z hz;cases hz
theorem Zda {ks:List Kind}(q:Int)(hk:ZD ks=true):I64 (fewL ks q):=by
 obtain⟨hKB,_⟩:=V8 hk;unfold fewL;split
 ·cases h2:ZeZ ks q with
  | none=>intro z hz;cases hz
  | some u =>
   have key:∀(Q:List (List Int)) (b:Option (List Int)),(∀x∈Q,TB x)→(∀u,b=some u→TB u)→∀u,Q.foldl (bestS ks q) b=some u→TB u:=by
    intro Q
    induction Q with
    | nil=>intro b _ hb u hu;exact hb u hu
    | cons x Q ih =>
     intro b hQ hb u hu;rw[List.foldl_cons] at hu;refine ih _ (λy hy=>hQ y (List.mem_cons_of_mem _ hy)) ?_ u hu;intro v hv;rcases best_or ks q b x with e|e
     ·rw[e] at hv;rw[←Option.some.inj hv];exact hQ _ List.mem_cons_self
     ·rw[e] at hv;exact hb v hv
   have h3:=key _ none (λt ht=>Zal hKB t ht) (λu hu=>by cases hu) u h2;intro z hz;have:=h3 z hz;omega
 ·intro z hz;cases hz
theorem Zgw (S b:Int)(rods:List Int):∀(n:Nat) (o:List Int) (st:List Int × Int),st.1.length<=rods.length→(plc S b rods n o st).1.length<=rods.length
 | 0,_,_,hs=>hs
 | n+1,o,st,hs=>by
  rw[plc];split
  ·exact hs
  ·split
   ·rename_i h;rw[h];exact Nat.le_refl _
   ·have key:∀(K:List Nat) (st:List Int × Int),st.1.length<=rods.length→(K.foldl (λst (k:Nat)=>if (k:Int)∈o then st else plc S b rods n (o++[(k:Int)]) st) st).1.length<=rods.length:=by
     intro K
     induction K with
     | nil=>intro st h;exact h
     | cons k K ih =>
      intro st h;rw[List.foldl_cons];refine ih _ ?_;split
      ·exact h
      ·exact Zgw S b rods n _ _ h
    exact key _ st hs
theorem ZcJ (S b:Int)(rods:List Int):(ordL S b rods).length<=1048576:=by
 unfold ordL;split
 ·rename_i h
  have hl:rods.length<=7:=by
   unfold ordC at h;split at h
   ·rename_i h2;exact(Qr h2).1
   ·cases h
  have:=Zgw S b rods (rods.length+1) [] ([],-1) (Nat.zero_le _);unfold mOrd;omega
 ·exact Nat.zero_le _
theorem ZcM {S:Int}(br:List Int)(hS:3<=S/\S<=60):(newL S br).length<=1048576:=by
 unfold newL;split
 ·rename_i h
  unfold newC at h;split at h
  ·rename_i h2
   have h3:((S.toNat:Nat):Int)=S:=by omega
   have h4:Z9 br 0 (((S.toNat:Nat):Int)-1)=true:=by rw[h3];exact h2
   have h5:=VC (S:=S.toNat) (br:=br) (by omega) (Yd h4);have h6:=Uz S.toNat (YU S.toNat br) (λp hp=>(h5 p hp).2.2) (YU S.toNat br).length;have h7:=Wq S.toNat br br.length;have h8:=X8 h2 (by omega);unfold ZeV;rw[List.length_mergeSort];unfold YU at h6 h7 ⊢;omega
  ·cases h
 ·exact Nat.zero_le _
theorem Zc9 {ks:List Kind}(q:Int)(hk:ZD ks=true):(fewL ks q).length<=1048576:=by
 obtain⟨hKB,hl4⟩:=V8 hk;unfold fewL;split
 ·cases h2:ZeZ ks q with
  | none=>exact Nat.zero_le _
  | some u =>
   have h0:∀h∈ks.map (·.fHave),0<=h:=by
    intro h hh;obtain⟨x,hx,rfl⟩:=List.mem_map.1 hh;exact(hKB x hx).2.1
   have key:∀(Q:List (List Int)) (b:Option (List Int)),(∀x∈Q,x.length<=4)→(∀u,b=some u→u.length<=4)→∀u,Q.foldl (bestS ks q) b=some u→u.length<=4:=by
    intro Q
    induction Q with
    | nil=>intro b _ hb u hu;exact hb u hu
    | cons x Q ih =>
     intro b hQ hb u hu;rw[List.foldl_cons] at hu;refine ih _ (λy hy=>hQ y (List.mem_cons_of_mem _ hy)) ?_ u hu;intro v hv;rcases best_or ks q b x with e|e
     ·rw[e] at hv;rw[←Option.some.inj hv];exact hQ _ List.mem_cons_self
     ·rw[e] at hv;exact hb v hv
   have h3:=key _ none (λt ht=>by rw[Qi h0 t ht,List.length_map];exact hl4) (λu hu=>by cases hu) u h2;show u.length<=1048576
   omega
 ·exact Nat.zero_le _
theorem Zcf (s:ByteArray)(k:Nat)(f:Int):I64 [mStk s k f]:=by
 intro z hz;rw[List.mem_singleton.1 hz];unfold mStk;split
 ·cases h:W7 s k f (61-k) with
  | none=>simp only;omega
  | some a =>
   have h1:a<61-k:=by
    unfold W7 at h;have:=List.mem_of_find?_eq_some h;exact List.mem_range.1 this
   simp only;omega
 ·omega
theorem Own.u8_at {e:TypeId}{w:World}{base g n c:Nat}{l:List Int}(h:Own u8c e 1 w base (.slice (some ⟨g,0,none⟩) n c) n l){k:Nat}(hk:k<n) :
  ∃x,l[k]?=some x/\w.cell? ⟨g,k,none⟩=some (.int .u8 x)/\w.frozen? ⟨g,k,none⟩=false:=by
 obtain⟨b,o,x,hA,_,hx,c0⟩:=(h.arr Y7).u8 hk;injection hA with hA;injection hA with h1 h2;subst h1 h2
 simp only[Nat.zero_add] at c0;exact⟨x,hx,c0,h.2.frozenAt _⟩
theorem Own.u8_store {e:TypeId}{w:World}{base g n c:Nat}{l:List Int}(h:Own u8c e 1 w base (.slice (some ⟨g,0,none⟩) n c) n l){k:Nat}(hk:k<n)(y:Int) :
  Own u8c e 1 (w.setCell ⟨g,k,none⟩ (.int .u8 y)) base (.slice (some ⟨g,0,none⟩) n c) n (l.set k y):=by
 have hkl:k<l.length:=by rw[h.len];exact hk
 have:=h.cell (x:=l[k]) (x':=y) (k:=k) (j:=0) (u:=.int .u8 y) Y7 (List.getElem?_eq_getElem hkl) (by omega) rfl;simpa using this
theorem Zkt (l:List UInt8):(bI l).length=l.length:=by unfold bI;rw[List.length_map]
theorem Uy (s:ByteArray)(f st m:Nat)(w:World)(hs0:0<s.size)(hs:s.size<=12)(hf:f<=1000000)(hst:st<=1000)(hm:m<=1000) :
  Calls Tryz.prog 183 #[.string s,.int .i64 (f:Int),.int .i64 (st:Int),.int .i64 (m:Int)] w λe w'=>e = .returned (.string (Xs s f st m))/\Below w.heap.size w w':=by
 obtain⟨i0,hi0,hz0,hz1,hz2⟩:=info_parts WU;have hmk:=λW=>Y8 (P:=Tryz.prog) 22 5 i0 _ Tryz.underlying22 hi0 hz0 .i64 .i64 m m (Nat.le_refl _) (by rw[hz2];omega) (by omega) W
 rw[hz1] at hmk;obtain⟨cur,hcur⟩:∃cur,cur=madeCells (Value.int .u8 0).cells (m*1):=⟨_,rfl⟩;rw[←hcur] at hmk;have hcl:cur.toList=(List.replicate m (0:Int)).flatMap u8c:=by rw[hcur];exact WP Y7 (by omega) #[.int .u8 0] 0 rfl m
 clear hcur;have hmade:Hid (Own u8c 5 1 (w.alloc (.cells cur 5)) w.heap.size (.slice (some ⟨w.heap.size,0,none⟩) m m) m (List.replicate m (0:Int))) :=
  Za (Own.made w (Nat.le_refl _) (by unfold maxLen;omega) _ Y7 cur hcl)
 clear hcl;obtain⟨L,hL⟩:∃L,L=alongL s f st m:=⟨_,rfl⟩;have hLl:L.length=m:=by rw[hL];exact Zaa s f st m
 have hLb:(bI L).length=m:=by rw[Zkt];exact hLl
 have hLe:Hid ((⟨L.toArray⟩:ByteArray)=Xs s f st m):=Za (by rw[hL];rfl);have hLh:=Za hL;have hbl:=Za hLb;clear hL hLl hLb;go_enter Tryz.func183,Tryz.ntmps183;go_wp2
 go_loopw [14] (λi wr=>∃k:Nat,k<=m/\i = .int .i64 k/\Below w.heap.size w wr/\w.heap.size<wr.heap.size/\Own u8c 5 1 wr w.heap.size (.slice (some ⟨w.heap.size,0,none⟩) m m) m ((bI L).take k++List.replicate (m-k) 0)) (λi _=>m-(intOf i).toNat)
 case atStart=>exact⟨0,Nat.zero_le _,rfl,by go_grown,by simp,by simpa using hmade.out⟩
 case round =>
  obtain⟨k,hk,rfl,hb,hsz,hown⟩:=hrel;clear hmade;have hB:=Za hb;clear hb;by_cases hlt:k<m
  ·have hO:=Za hown
   obtain⟨x1,hx1,f0,z0⟩:=hown.u8_at hlt;clear hx1 hown;have hks:k*st<=1000000:=Nat.le_trans (Nat.mul_le_mul (Nat.le_of_lt (Nat.lt_of_lt_of_le hlt hm)) hst) (by omega);obtain⟨X,hX⟩:∃X,X=k*st:=⟨_,rfl⟩;have hw1:IntKind.i64.wrap ((k:Int)*(st:Int))=(X:Int):=by
    rw[hX,Int.natCast_mul];exact IntWalk.i64_in _ (by rw[←Int.natCast_mul];omega)
   rw[←hX] at hks;obtain⟨Y,hY⟩:∃Y,Y=f+X:=⟨_,rfl⟩;have hw2:IntKind.i64.wrap ((f:Int)+(X:Int))=(Y:Int):=by
    rw[hY,Int.natCast_add];exact IntWalk.i64_in _ (by omega)
   obtain⟨J,hJ⟩:∃J,J=Y%s.size:=⟨_,rfl⟩;have hcast:(Y:Int)%(s.size:Int)=(J:Int):=by rw[hJ];simp
   have hJs:J<s.size:=by rw[hJ];exact Nat.mod_lt _ hs0
   have hx:Hid ((bI L)[k]?=some ((s[J].toNat:Nat):Int)):=Za (by
    have h1:L[k]?=some (atB s ((f+k*st)%s.size)):=by
     rw[hLh.out];unfold alongL;rw[List.getElem?_map,List.getElem?_range hlt];rfl
    unfold bI;rw[List.getElem?_map,h1,←hX,←hY,←hJ,VM hJs];rfl)
   have hJ0:(0:Int)<=(J:Int):=by omega
   have hY0:(0:Int)<=(Y:Int):=by omega
   have hs1:(0:Int)<(s.size:Int):=by omega
   clear hX hY hJ;go_wp2
   go_roundw
   case rel=>exact⟨k+1,by omega,by go_num,hB.out.setCell (Nat.le_refl _) _,by simp only[World.size_setCell];exact hsz,by have:=hO.out.u8_store hlt (s[J].toNat:Int);rw[ZaM hbl.out hx.out] at this;exact this⟩
   case measure=>simp[intOf];omega
  ·have hkn:k=m:=by omega
   subst hkn;rw[Nat.sub_self,List.replicate_zero,List.append_nil,List.take_of_length_le (by rw[hbl.out];exact Nat.le_refl _)] at hown;have hc:=WC hown;rw[hLe.out] at hc;clear hown;go_wp2
   go_ret;exact⟨rfl,hB.out⟩
theorem J4 (x y:Nat)(h:0<y):0<=(x:Int)%(y:Int)/\(x:Int)%(y:Int)<y:=⟨Int.emod_nonneg _ (by omega),Int.emod_lt_of_pos _ (by omega)⟩
theorem ZbQ (a b:Nat)(w:World)(ha:a<=4000000000000000)(hb:b<=4000000000000000) :
  Calls Tryz.prog 290 #[.int .i64 a,.int .i64 b] w λe w'=>e = .returned (.int .i64 (Nat.gcd a b))/\Below w.heap.size w w':=by
 go_enter Tryz.func290,Tryz.ntmps290;go_wp2
 go_loopw [0,1] (λp q wr=>∃(x y:Nat),p = .int .i64 x/\q = .int .i64 y/\x<=4000000000000000/\y<=4000000000000000/\Below w.heap.size w wr/\Hid (Nat.gcd x y=Nat.gcd a b)) (λ_ q _=>(intOf q).toNat)
 case atStart=>exact⟨a,b,rfl,rfl,ha,hb,Below.refl _ _,Za rfl⟩
 case round =>
  obtain⟨x,y,rfl,rfl,hx,hy,hbw,hz⟩:=hrel;have hB:=Za hbw;clear hbw;rcases Nat.eq_zero_or_pos y with h0|h0
  ·subst h0
   go_wp2
   go_ret;exact⟨UL (by have:=hz.out;rw[Nat.gcd_zero_right] at this;rw[this]),hB.out⟩
  ·have e1:((y:Int) != 0)=true:=by simp;omega
   have hm:=J4 x y h0;have hy0:(1:Int)<=(y:Int):=by omega
   have hcast:Hid ((x:Int)%(y:Int)=((x%y:Nat):Int)):=Za (by simp);have hlt:=Nat.mod_lt x h0;go_wp2
   go_quiet (fail)
   go_wp2
   go_roundw
   case rel=>exact⟨y,x%y,rfl,by rw[←hcast.out],by omega,by omega,Zb hB.out _,Za (by rw[←hz.out,Nat.gcd_comm x y,Nat.gcd_rec y x,Nat.gcd_comm])⟩
   case measure =>
    have:=hcast.out;simp only[intOf];omega
theorem ZhY (a b:Nat)(w:World)(ha:a<=4000000000000000)(hb:b<=4000000000000000) :
  Calls Tryz.prog 312 #[.int .i64 a,.int .i64 b] w λe w'=>e = .returned (.int .i64 (Nat.gcd a b))/\Below w.heap.size w w':=by
 go_enter Tryz.func312,Tryz.ntmps312;go_wp2
 go_loopw [0,1] (λp q wr=>∃(x y:Nat),p = .int .i64 x/\q = .int .i64 y/\x<=4000000000000000/\y<=4000000000000000/\Below w.heap.size w wr/\Hid (Nat.gcd x y=Nat.gcd a b)) (λ_ q _=>(intOf q).toNat)
 case atStart=>exact⟨a,b,rfl,rfl,ha,hb,Below.refl _ _,Za rfl⟩
 case round =>
  obtain⟨x,y,rfl,rfl,hx,hy,hbw,hz⟩:=hrel;have hB:=Za hbw;clear hbw;rcases Nat.eq_zero_or_pos y with h0|h0
  ·subst h0
   go_wp2
   go_ret;exact⟨UL (by have:=hz.out;rw[Nat.gcd_zero_right] at this;rw[this]),hB.out⟩
  ·have e1:((y:Int) != 0)=true:=by simp;omega
   have hm:=J4 x y h0;have hy0:(1:Int)<=(y:Int):=by omega
   have hcast:Hid ((x:Int)%(y:Int)=((x%y:Nat):Int)):=Za (by simp);have hlt:=Nat.mod_lt x h0;go_wp2
   go_roundw
   case rel=>exact⟨y,x%y,rfl,by rw[←hcast.out],by omega,by omega,hB.out,Za (by rw[←hz.out,Nat.gcd_comm x y,Nat.gcd_rec y x,Nat.gcd_comm])⟩
   case measure =>
    have:=hcast.out;simp only[intOf];omega
theorem Zf3 (a:Int)(w:World)(ha : -4000000000000000<=a)(hb:a<=4000000000000000) :
  Calls Tryz.prog 305 #[.int .i64 a] w λe w'=>e = .returned (.int .i64 a.natAbs)/\w=w':=by
 by_cases h:a<0
 ·have e:Hid ((a.natAbs:Int) = -a):=Za (by omega)
  go_enter Tryz.func305,Tryz.ntmps305;go_wp2
  go_ret;exact⟨UL (by rw[e.out]),rfl⟩
 ·have e:Hid ((a.natAbs:Int)=a):=Za (by omega)
  go_enter Tryz.func305,Tryz.ntmps305;go_wp2
  go_ret;exact⟨UL (by rw[e.out]),rfl⟩
theorem ZjR (l:List UInt8)(c:UInt8):decide (0<=Lib.indexByte l c)=l.contains c:=by
 have hm:∀l:List UInt8,-1<=Lib.indexByte l c:=by
  intro l
  induction l with
  | nil=>exact Int.le_refl _
  | cons b l ih =>
   unfold Lib.indexByte;split
   ·omega
   ·split<;>omega
 induction l with
 | nil=>rfl
 | cons b l ih =>
  rw[List.contains_cons,←ih];have h1:=hm l;rw[show Lib.indexByte (b :: l) c=if b==c then 0 else if Lib.indexByte l c == -1 then -1 else Lib.indexByte l c+1 from rfl];by_cases hb:b=c
  ·subst hb;simp
  ·have hb2:(b==c)=false:=by simp[hb]
   have hb3:(c==b)=false:=by simp[Ne.symm hb]
   rw[hb2,hb3,Bool.false_or];simp only[Bool.false_eq_true,if_false];by_cases h:Lib.indexByte l c = -1
   ·rw[h];rfl
   ·rw[if_neg (by simp[h])]
    rw[decide_eq_true (by omega),decide_eq_true (by omega)]
theorem ZaI (s:ByteArray)(c:UInt8)(w:World):Calls Tryz.prog 270 #[.string s,.string ⟨#[c]⟩] w λe w'=>e = .returned (.bool (Zkd s c))/\w=w':=by
 refine(Tryz.strings_Contains_one s c w).mono ?_;rintro e w' ⟨rfl,rfl⟩;exact⟨by rw[ZjR];rfl,rfl⟩
theorem Uc (s:ByteArray)(w:World):Calls Tryz.prog 236 #[.string s] w λe w'=>e = .returned (.bool (VL s))/\w=w':=by
 cases h:Zkd s 70
 ·have hm:Hid (VL s=false):=Za (by unfold VL;rw[h];rfl)
  go_enter Tryz.func236,Tryz.ntmps236;go_wp2_with fail
  refine(ZaI s 70 _).mono ?_;rw[h];rintro e w1 ⟨rfl,rfl⟩;go_wp2
  go_ret;exact⟨ZW hm.out.symm,rfl⟩
 ·have hm:Hid (VL s=Zkd s 66):=Za (by unfold VL;rw[h];rfl)
  go_enter Tryz.func236,Tryz.ntmps236;go_wp2_with fail
  refine(ZaI s 70 _).mono ?_;rw[h];rintro e w1 ⟨rfl,rfl⟩;go_wp2_with fail
  refine(ZaI s 66 _).mono ?_;rintro e w1 ⟨rfl,rfl⟩;go_wp2
  go_ret;exact⟨ZW hm.out.symm,rfl⟩
theorem Zfr (s:ByteArray)(k:Nat)(w:World)(hs0:0<s.size)(hs:s.size<=12)(hk:k<=1000) :
  Calls Tryz.prog 271 #[.string s,.int .i64 (k:Int)] w λe w'=>e = .returned (.int .i64 (againN s k:Int))/\Below w.heap.size w w':=by
 obtain⟨g,hg⟩:∃g,g=Nat.gcd s.size k:=⟨_,rfl⟩;have hg0:0<g:=by rw[hg];exact Nat.gcd_pos_of_pos_left _ hs0
 have hG:=Za hg;have hq:Hid (againN s k=s.size/g):=Za (by rw[hg];rfl);have hqb:s.size/g<=s.size:=Nat.div_le_self _ _;obtain⟨q,hqq⟩:∃q,q=s.size/g:=⟨_,rfl⟩;rw[←hqq] at hq hqb;have hw1:IntKind.i64.wrap ((s.size:Int)/(g:Int))=(q:Int):=by
  rw[show(s.size:Int)/(g:Int)=(q:Int) by rw[hqq,Int.natCast_ediv]];exact IntWalk.i64_in _ (by omega)
 have hgn:¬(g:Int)=0:=by omega
 clear hg hqb hqq;go_enter Tryz.func271,Tryz.ntmps271;go_wp2_with fail
 refine(ZbQ s.size k _ (by omega) (by omega)).mono ?_;rw[←hG.out];rintro e w1 ⟨rfl,hb⟩;have hB:=Za hb;clear hb;go_wp2
 go_ret;exact⟨by rw[hq.out];rfl,hB.out⟩
theorem ZbO (s:ByteArray)(w:World)(hs0:0<s.size)(hs:s.size<=12) :
  Calls Tryz.prog 237 #[.string s] w λe w'=>e = .returned (.int .i64 (longRun s:Int))/\Below w.heap.size w w':=by
 obtain⟨N,hN⟩:∃N,N=2*s.size:=⟨_,rfl⟩;have hNh:=Za hN;have hw0:IntKind.i64.wrap (2*(s.size:Int))=(N:Int):=by rw[show 2*(s.size:Int)=(N:Int) by omega];exact IntWalk.i64_in _ (by omega)
 have hNb:N<=24:=by omega
 clear hN;go_enter Tryz.func237,Tryz.ntmps237;go_wp2
 clear hw0;go_loopw [3,4,9] (λmo ru i wr=>∃k M R:Nat,k<=N/\mo = .int .i64 (M:Int)/\ru = .int .i64 (R:Int)/\i = .int .i64 (k:Int)/\Below w.heap.size w wr/\Hid (lrS s k=(M,R))) (λ_ _ i _=>N-(intOf i).toNat)
 case atStart=>exact⟨0,1,0,Nat.zero_le _,rfl,rfl,rfl,Below.refl _ _,Za rfl⟩
 case round =>
  obtain⟨k,M,R,hk,rfl,rfl,rfl,hb,hst⟩:=hrel;have hB:=Za hb;clear hb;obtain⟨q1,q2,q3⟩:=ZbD s k;rw[hst.out] at q1 q2 q3;simp only at q1 q2 q3;by_cases hlt:k<N
  ·have hk':(k:Int)<(N:Int):=by omega
   have key:∀r0:Nat,r0=(if 0<k/\¬atB s (k%s.size)=atB s ((k-1)%s.size) then 0 else R)→Hid (lrS s (k+1)=(max M (min (r0+1) s.size),r0+1)):=λr0 h0=>Za (by rw[lrS,hst.out];simp only;rw[←h0])
   by_cases h0:k=0
   ·subst h0
    have hnx:=key R (by rw[if_neg (by omega)]);clear key;obtain⟨A,hA⟩:∃A,A=min (R+1) s.size:=⟨_,rfl⟩;obtain⟨C,hC⟩:∃C,C=max M A:=⟨_,rfl⟩;have m1:min ((R:Int)+1) (s.size:Int)=(A:Int):=by omega
    have m2:max (M:Int) (A:Int)=(C:Int):=by omega
    rw[←hA,←hC] at hnx;have hwr:IntKind.i64.wrap ((R:Int)+1)=(R:Int)+1:=IntWalk.i64_in _ (by omega);clear hA hC;go_wp2
    go_quiet (fail)
    go_wp2
    go_roundw
    case rel=>exact⟨1,C,R+1,by omega,rfl,by go_num,by go_num,Zb hB.out _,hnx⟩
    case measure=>simp[intOf];omega
   ·obtain⟨K,hK⟩:∃K,k=K+1:=⟨k-1,by omega⟩
    have hwK:IntKind.i64.wrap ((k:Int)-1)=(K:Int):=by rw[show(k:Int)-1=(K:Int) by omega];exact IntWalk.i64_in _ (by omega)
    have hkp:decide (0<k)=true:=decide_eq_true (by omega);have hkz:0<k:=by omega
    have hk1:k-1=K:=by omega
    rw[hk1] at key;have hK0:(0:Int)<=(K:Int):=by omega
    clear hK hk1;obtain⟨J,hJ⟩:∃J,J=k%s.size:=⟨_,rfl⟩;obtain⟨J',hJ'⟩:∃J,J=K%s.size:=⟨_,rfl⟩;have c1:(k:Int)%(s.size:Int)=(J:Int):=by rw[hJ];simp
    have c2:(K:Int)%(s.size:Int)=(J':Int):=by rw[hJ'];simp
    have hJs:J<s.size:=by rw[hJ];exact Nat.mod_lt _ hs0
    have hJs':J' < s.size:=by rw[hJ'];exact Nat.mod_lt _ hs0
    have hJ0:(0:Int)<=(J:Int):=by omega
    have hJ0':(0:Int)<=(J':Int):=by omega
    have hs1:(0:Int)<(s.size:Int):=by omega
    have hk0:(0:Int)<=(k:Int):=by omega
    rw[←hJ,←hJ',VM hJs,VM hJs'] at key;clear hJ hJ';by_cases he:s[J]=s[J']
    ·have hnx:=key R (by rw[if_neg (by simp[he])])
     have e1:((s[J].toNat:Int) != (s[J'].toNat:Int))=false:=by rw[he];simp
     clear key he;obtain⟨A,hA⟩:∃A,A=min (R+1) s.size:=⟨_,rfl⟩;obtain⟨C,hC⟩:∃C,C=max M A:=⟨_,rfl⟩;have m1:min ((R:Int)+1) (s.size:Int)=(A:Int):=by omega
     have m2:max (M:Int) (A:Int)=(C:Int):=by omega
     rw[←hA,←hC] at hnx;have hwr:IntKind.i64.wrap ((R:Int)+1)=(R:Int)+1:=IntWalk.i64_in _ (by omega);clear hA hC;go_wp2
     go_quiet (fail)
     go_wp2
     go_roundw
     case rel=>exact⟨k+1,C,R+1,by omega,rfl,by go_num,by go_num,Zb hB.out _,hnx⟩
     case measure=>simp[intOf];omega
    ·have hnx:=key 0 (by rw[if_pos ⟨by omega,he⟩])
     have e1:((s[J].toNat:Int) != (s[J'].toNat:Int))=true:=by
      rw[bne_iff_ne];intro h;exact he (UInt8.toNat_inj.1 (by omega))
     clear key he;obtain⟨A,hA⟩:∃A,A=min (0+1) s.size:=⟨_,rfl⟩;obtain⟨C,hC⟩:∃C,C=max M A:=⟨_,rfl⟩;have m1:min (1:Int) (s.size:Int)=(A:Int):=by omega
     have m2:max (M:Int) (A:Int)=(C:Int):=by omega
     rw[←hA,←hC] at hnx;clear hA hC;go_wp2
     go_quiet (fail)
     go_wp2
     go_roundw
     case rel=>exact⟨k+1,C,1,by omega,rfl,by go_num,by go_num,Zb hB.out _,hnx⟩
     case measure=>simp[intOf];omega
  ·have hkn:k=N:=by omega
   have hfin:Hid (longRun s=M):=Za (by unfold longRun;rw[←hNh.out,←hkn,hst.out]);clear hkn;have hk':¬(k:Int)<(N:Int):=by omega
   go_wp2
   go_ret;exact⟨by rw[hfin.out];rfl,hB.out⟩
end Go.Proofs.YtfpaejlipaainaaGreatDoor
