/- Texts that belong together, joined: contracts and plain laws. No statement is proved here. -/
import Derived.Test.YtfpaejlipaainaaGreatDoorR01
set_option maxRecDepth 100000
set_option maxHeartbeats 8000000
namespace Go.Proofs.YtfpaejlipaainaaGreatDoor
open Go.ChangeShapes Go.WideShapes Go.ChangeAt Go.RowKit Go.Deep
theorem Zb2 (B b:Nat)(S:ByteArray)(w:World)(h:BD w B b S)(hBw:B<=w.heap.size) :
  Calls Tryz.prog 39 #[.pointer (some ⟨b,0,none⟩)] w λe w'=>e = .returned (.string S)/\Below B w w':=by
 have h1:=Tryz.Builder_String_any B b S.data.toList w h hBw;refine h1.mono ?_;rintro e w' ⟨rfl,hb⟩;exact⟨by rw[WO],hb⟩
theorem Zg3 (w:World):Calls Tryz.prog 8 #[] w λe w'=>e = .returned (.agg #[.string ⟨#[70,66]⟩,.int .i64 5,.slice none 0 0,.slice none 0 0,.string ⟨#[]⟩])/\Below w.heap.size w w':=by
 go_enter Tryz.func8,Tryz.ntmps8;go_wp2
 exact bodyPost_ret (v:=.agg #[.string ⟨#[70,66]⟩,.int .i64 5,.slice none 0 0,.slice none 0 0,.string ⟨#[]⟩]) (by simp[results,Tryz.results8,go_sem]) rfl ⟨rfl,by go_grown⟩
structure RS (w wr:World)(g b:Nat)(L:List ByteArray)(wv:Value)(x:DeskV)(M:DeskM)(S:ByteArray):Prop where
 box:wr.heap[g]?=some (.cells #[.string x.fStroke,.int .i64 x.fStakes,.slice x.A x.n x.c,.slice x.A' x.n' x.c',.string x.fLog] 29 (0,0))
 dv:DV wr w.heap.size x
 p:x.pure=M
 bd:BD wr w.heap.size b S
 rows:Res ZY 9 1 wr w.heap.size wv L.length L
 low:Below w.heap.size w wr
 hg:w.heap.size<=g
 hb:w.heap.size<=b
section
variable {w wr w':World}{B g b:Nat}{L:List ByteArray}{wv:Value}{x:DeskV}{M:DeskM}{S:ByteArray}
theorem RS.below (h:RS w wr g b L wv x M S)(hb:Below wr.heap.size wr w'):RS w w' g b L wv x M S :=
 ⟨Ze h.box hb,h.dv.below hb,h.p,h.bd.below hb,h.rows.below hb,h.low.trans (hb.mono h.low.size),h.hg,h.hb⟩
theorem BD.alloc (h:BD w B b S)(o:Obj):BD (w.alloc o) B b S:=h.below ((Below.refl _ _).alloc (Nat.le_refl _) o)
theorem RS.alloc (h:RS w wr g b L wv x M S)(o:Obj):RS w (wr.alloc o) g b L wv x M S:=h.below ((Below.refl _ _).alloc (Nat.le_refl _) o)
theorem RS.gb (h:RS w wr g b L wv x M S):g≠b:=by
 intro e;subst e;obtain⟨p,v,hr⟩:=h.bd.row;rw[h.box] at hr;cases hr
theorem DV.bfr (h:DV wr w.heap.size x)(hd:BD wr w.heap.size b S)(hf:BFr b wr w'):DV w' w.heap.size x:=⟨h.k.bfr hd hf (by decide) (by decide),h.h.bfr hd hf (by decide) (by decide),h.nk,h.nh,h.fit⟩
theorem RS.wrote (h:RS w wr g b L wv x M S){S':ByteArray}(hd:BD w' w.heap.size b S')(hb:Below w.heap.size wr w')(hf:BFr b wr w'):RS w w' g b L wv x M S' :=
 ⟨hf.2 _ _ _ h.box (by decide) h.gb,h.dv.bfr h.bd hf,h.p,hd,h.rows.bfr h.bd hf (by decide) (by decide),h.low.trans hb,h.hg,h.hb⟩
theorem BD.set5 {B g':Nat}{a0 a1 a2 a3 a4 b0 b1 b2 b3 b4:Value}(h:BD wr B b S)(hg:wr.heap[g']?=some (.cells #[b0,b1,b2,b3,b4] 29 (0,0))):BD (Jl wr g' a0 a1 a2 a3 a4) B b S :=
 ((((h.set hg (i:=0) (u:=a0) (by decide) (by decide)).set (Zk hg 0 a0) (i:=1) (u:=a1) (by decide) (by decide)).set (Zk (Zk hg 0 a0) 1 a1) (i:=2) (u:=a2) (by decide) (by decide)).set (Zk (Zk (Zk hg 0 a0) 1 a1) 2 a2) (i:=3) (u:=a3) (by decide) (by decide)).set (Zk (Zk (Zk (Zk hg 0 a0) 1 a1) 2 a2) 3 a3) (i:=4) (u:=a4) (by decide) (by decide)
theorem RS.next (h:RS w wr g b L wv x M S){x':DeskV}(hd:DV wr w.heap.size x'):RS w (Jl wr g (.string x'.fStroke) (.int .i64 x'.fStakes) (.slice x'.A x'.n x'.c) (.slice x'.A' x'.n' x'.c') (.string x'.fLog)) g b L wv x' x'.pure S :=
 ⟨Yp h.box,Xu h.box hd,rfl,h.bd.set5 h.box,YX h.box h.rows,ZZ h.low h.hg,h.hg,h.hb⟩
end
theorem ZfT {x:DeskV}(h:x.pure.ok=true):x.fStroke.size<=maxLen:=by
 have h1:=(DeskM.ok_parts.1 h).1;have h1:strokeOk x.fStroke=true:=h1;unfold strokeOk at h1;rw[Bool.and_eq_true,Bool.and_eq_true] at h1;have:=of_decide_eq_true h1.1.2;unfold maxLen;omega
theorem ZcR (s:ByteArray):∀y∈mLines s,y.size<=s.size:=by
 intro y hy;have h1:=Z6 10 _ hy;have h2:(⟨(Lib.trimSuffix s.data.toList [10]).toArray⟩:ByteArray).size<=s.size:=by
  rw[Lib.size_eq,Lib.size_eq s];show(Lib.trimSuffix s.data.toList [10]).length<=_
  unfold Lib.trimSuffix;split
  ·rw[List.length_take];omega
  ·exact Nat.le_refl _
 omega
theorem Ut {p:DeskM × List ByteArray}{s:ByteArray}(h:mLine p.1 s=none):WQ p s=(p.1,p.2++[⟨#[63]⟩]):=by unfold WQ;rw[h]
theorem Us {p:DeskM × List ByteArray}{s:ByteArray}{q:DeskM × List ByteArray}(h:mLine p.1 s=some q):WQ p s=(q.1,p.2++q.2):=by unfold WQ;rw[h]
theorem Uu {L:List ByteArray}{k:Nat}{s:ByteArray}(h:L[k]?=some s):mFold (L.take (k+1))=WQ (mFold (L.take k)) s:=by rw[Zo h,ZeY]
theorem Ziq (s:ByteArray)(w:World)(hG:Gl w)(hs:s.size<=1048576) :
  Calls Tryz.prog 12 #[.string s] w λe w'=>e = .returned (.string (ZdO s))/\Below w.heap.size w w':=by
 have hGh:=Za hG;clear hG;by_cases hs0:s=⟨#[]⟩
 ·subst hs0
  have hM:Hid (ZdO ⟨#[]⟩=⟨#[]⟩):=Za (by unfold ZdO;rw[if_pos rfl]);go_enter Tryz.func12,Tryz.ntmps12;go_wp2
  go_ret;exact⟨by rw[hM.out];rfl,Below.refl _ _⟩
 ·have hne:s.toList.isEmpty=false:=by
   cases hq:s.toList with
   | nil=>exact absurd (YI (hq.trans (by simp:[]=(⟨#[]⟩:ByteArray).toList))) hs0
   | cons a l=>rfl
  obtain⟨L,hL⟩:∃L,L=mLines s:=⟨_,rfl⟩;have hM:Hid (ZdO s=if L.length<=60 then linesB (mFold L).2 else linesB ((mFold (L.take 60)).2++[⟨#[101,114,114,111,114,32,102,117,108,108]⟩])):=Za (by unfold ZdO;rw[if_neg hs0,hL]);have hLs:Hid (∀y∈L,y.size<=1048576):=Za (by rw[hL];intro y hy;have:=ZcR s y hy;omega);have hLN:L.length<=1048577:=by
   rw[hL];unfold mLines;have h1:=Yh 10 (⟨(Lib.trimSuffix s.data.toList [10]).toArray⟩:ByteArray);have h2:(⟨(Lib.trimSuffix s.data.toList [10]).toArray⟩:ByteArray).size<=s.size:=by
    rw[Lib.size_eq,Lib.size_eq s];show(Lib.trimSuffix s.data.toList [10]).length<=_
    unfold Lib.trimSuffix;split
    ·rw[List.length_take];omega
    ·exact Nat.le_refl _
   omega
  have hLh:=Za hL;clear hL hs0;go_enter Tryz.func12,Tryz.ntmps12;go_wp2_with fail
  refine(Zg3 _).mono ?_;rintro e w1 ⟨rfl,hb⟩;have hB1:=Za hb;clear hb;go_upto_region 5 with fail
  obtain⟨g,hg⟩:∃g,g=w1.heap.size:=⟨_,rfl⟩;obtain⟨b,hb⟩:∃b,b=w1.heap.size+1:=⟨_,rfl⟩;have hR0:RS w ((w1.alloc (Obj.cells #[Value.string ⟨#[70,66]⟩,Value.int IntKind.i64 5,Value.slice none 0 0,Value.slice none 0 0,Value.string ⟨#[]⟩] 29)).alloc (Obj.cells #[Value.pointer none,Value.slice none 0 0] 69)) g b [] (.slice none 0 0) ⟨⟨#[70,66]⟩,5,none,0,0,[],none,0,0,[],⟨#[]⟩⟩ ZjK ⟨#[]⟩:=by
   rw[hg,hb];have hsz:=hB1.out.size;refine⟨Zc (heap_alloc_new w1 _),⟨Res.empty (Nat.zero_le _),Res.empty (Nat.zero_le _),Nat.zero_le _,Nat.zero_le _,λh hh=>(by cases hh)⟩,rfl,?_,Res.empty (Nat.zero_le _),?_,hsz,by omega⟩
   ·have:=Zkr (B:=w.heap.size) (w1.alloc (Obj.cells #[Value.string ⟨#[70,66]⟩,Value.int IntKind.i64 5,Value.slice none 0 0,Value.slice none 0 0,Value.string ⟨#[]⟩] 29)) (by simp;omega)
    rw[World.size_alloc] at this;exact this
   ·exact(hB1.out.alloc hsz _).alloc (by simp;omega) _
  rw[←hb,←hg];refine YH (φ:=λW=>RS w W g b [] (.slice none 0 0) ⟨⟨#[70,66]⟩,5,none,0,0,[],none,0,0,[],⟨#[]⟩⟩ ZjK ⟨#[]⟩) hR0 ?_;clear hR0 hg hb hB1;rintro W1 hR1;have hR1:=Za hR1;obtain⟨t,ht⟩:∃t:ByteArray,t=⟨(Lib.trimSuffix s.data.toList (⟨#[10]⟩:ByteArray).data.toList).toArray⟩:=⟨_,rfl⟩;have htL:Hid (words 10 t=L):=Za (by rw[ht,hLh.out];rfl);have hts:t.size<=1048576:=by
   rw[ht,Lib.size_eq];show(Lib.trimSuffix s.data.toList _).length<=_
   have h4:=Lib.size_eq s;unfold Lib.trimSuffix;split
   ·rw[List.length_take];omega
   ·omega
  have hTr:=Za (λW=>Tryz.strings_TrimSuffix s ⟨#[10]⟩ W (by omega));rw[←ht] at hTr;have htsh:=Za hts;clear ht hts;go_wp2_with fail
  refine(hTr.out _).mono ?_;rintro e w2 ⟨rfl,rfl⟩;go_wp2_with fail
  refine(ZH 10 t _ htsh.out (hGh.out.below hR1.out.low)).mono ?_;rw[htL.out];rintro e w3 ⟨v3,rfl,ho3,hb⟩;obtain⟨A3,c3,hv3,hc3⟩:=ho3.slice;subst hv3;have hR2:=Za (hR1.out.below hb);have hO3:=Za (ho3.less hR1.out.low.size);obtain⟨N,hN⟩:∃N,N=L.length:=⟨_,rfl⟩;have hNh:=Za hN;rw[←hN] at hLN hM ⊢;have hR3:RS w w3 g b L (.slice A3 N c3) ⟨⟨#[70,66]⟩,5,none,0,0,[],none,0,0,[],⟨#[]⟩⟩ (mFold (L.take 0)).1 (linesB (mFold (L.take 0)).2):=by
   have h:=hR2.out;refine⟨h.box,h.dv,h.p,h.bd,?_,h.low,h.hg,h.hb⟩;rw[hN];exact hO3.out.res
  have hR3:=Za hR3;clear hb ho3 hR2 hO3 hN hR1 hTr;go_wp2
  go_loopw [19] (λi wr=>∃(k:Nat) (x:DeskV),k<=N/\k<=60/\i = .int .i64 (k:Int)/\RS w wr g b L (.slice A3 N c3) x (mFold (L.take k)).1 (linesB (mFold (L.take k)).2)) (λi _=>N-(intOf i).toNat)
  case atStart=>exact⟨0,_,Nat.zero_le _,Nat.zero_le _,rfl,hR3.out⟩
  case round =>
   obtain⟨k,x,hk,hk60,rfl,hr⟩:=hrel;have hR:=Za hr;clear hR3;have hfs:Hid ((linesB (mFold (L.take k)).2).size<=10066330200000):=Za (by
    have h1:=Uv (L.take k) (λy hy=>hLs.out y (List.mem_of_mem_take hy));have h2:(L.take k).length<=60:=by rw[List.length_take];omega
    omega)
   obtain⟨S,hS⟩:∃S,S=linesB (mFold (L.take k)).2:=⟨_,rfl⟩;have hSh:=Za hS;rw[←hS] at hR hfs;have hRow:=hr.rows;rw[←hNh.out] at hRow;clear hr hS;by_cases hlt:k<N
   ·obtain⟨b3,o3,y,hA3,_,hy,cy⟩:=(hRow.arr Zf).str hlt
    subst hA3;have hyh:=Za hy;have hys:=Za (hLs.out y (List.mem_of_getElem? hy));clear hy hRow;have hlti:(k:Int)<(N:Int):=by omega
    by_cases h60:k=60
    ·subst h60
     have hN60:¬N<=60:=by omega
     have hM2:Hid (ZdO s=S++(⟨#[101,114,114,111,114,32,102,117,108,108,10]⟩:ByteArray)):=Za (by
      rw[hM.out,if_neg hN60,Xh,←hSh.out];rfl)
     go_wp2_with fail
     refine(ZaV w.heap.size b S ⟨#[101,114,114,111,114,32,102,117,108,108,10]⟩ _ hR.out.bd (by have:=hfs.out;show S.size+11<=_;omega) hR.out.low.size).mono ?_;rintro e w4 ⟨rfl,hd4,hb4,hf4⟩;have hR4:=Za (hR.out.wrote hd4 hb4 hf4);clear hd4 hb4 hf4;go_wp2_with fail
     refine(Zb2 w.heap.size b _ _ hR4.out.bd hR4.out.low.size).mono ?_;rintro e w5 ⟨rfl,hb5⟩;have hB5:=Za (hR4.out.low.trans hb5);clear hb5;go_wp2
     go_ret;exact⟨by rw[hM2.out];try rfl,hB5.out⟩
    ·have h6i:((k:Int)==60)=false:=by simp;omega
     have h6j:¬(k:Int)=60:=by omega
     obtain⟨c0,c1,c2,c3',c4,_⟩:=Zs hR.out.box;have hok:x.pure.ok=true:=by rw[hR.out.p];exact ZaC _
     have hfold:=Za (Uu hyh.out);have hpx:=Za hR.out.p;have hDc:=Za (Zhc x y wr (hGh.out.below hR.out.low) hR.out.dv.good (ZfT hok) hys.out);cases hm:mLine x.pure y with
     | none =>
      have hres:dcRes x.pure y=(noM,[],7):=by unfold dcRes;rw[if_pos hok,hm]
      rw[hres] at hDc;have hnx:Hid (mFold (L.take (k+1))=((mFold (L.take k)).1,(mFold (L.take k)).2++[⟨#[63]⟩])):=Za (by rw[hfold.out];exact Ut (by rw[←hpx.out];exact hm));clear hres hm hok;go_wp2_with fail
      refine hDc.out.mono ?_;rintro e w5 ⟨x5,v5,rfl,hp5,hd5,hl5,hb5⟩;have hR5:=Za (hR.out.below hb5);clear hp5 hl5 hb5 c0 c1 c2 c3' c4 hDc;go_wp2_with fail
      refine(ZaV w.heap.size b S ⟨#[63,10]⟩ _ (hR5.out.bd.alloc _) (by have:=hfs.out;show S.size+2<=_;omega) (by rw[World.size_alloc];have:=hR5.out.low.size;omega)).mono ?_;rintro e w6 ⟨rfl,hd6,hb6,hf6⟩;have hR6:=Za ((hR5.out.alloc _).wrote hd6 hb6 hf6);clear hd6 hb6 hf6 hR5;go_wp2
      go_roundw
      case rel=>exact⟨k+1,x,by omega,by omega,by go_num,by rw[hnx.out,Xh,←hSh.out];exact hR6.out⟩
      case measure=>simp[intOf];omega
     | some q =>
      obtain⟨d',out⟩:=q;have hres:dcRes x.pure y=(d',out,0):=by unfold dcRes;rw[if_pos hok,hm]
      rw[hres] at hDc;have hnx:Hid (mFold (L.take (k+1))=(d',(mFold (L.take k)).2++out)):=Za (by rw[hfold.out];exact Us (by rw[←hpx.out];exact hm));have hfew:=Za (V5 hok hys.out hm);clear hres hm hok;go_wp2_with fail
      refine hDc.out.mono ?_;rintro e w5 ⟨x5,v5,rfl,hp5,hd5,hl5,hb5⟩;have hR5:=Za (hR.out.below hb5);have hwB:=hR.out.low.size;obtain⟨A5,c5,hv5,hc5⟩:=hl5.slice;subst hv5;obtain⟨m,hm⟩:∃m,m=out.length:=⟨_,rfl⟩;have hmh:=Za hm;rw[←hm] at hl5 ⊢;have hL5:=Za (hl5.less hwB);have hD5:=Za (hd5.less hwB);have hP5:=Za hp5;have hm5:m<=5000:=by rw[hm];exact hfew.out.1
      have a0:=λO=>(Zs (Zc (O:=O) hR5.out.box)).1
      have a1:=λO=>(Zs (Zc (O:=O) hR5.out.box)).2.1
      have a2:=λO=>(Zs (Zc (O:=O) hR5.out.box)).2.2.1
      have a3:=λO=>(Zs (Zc (O:=O) hR5.out.box)).2.2.2.1
      have a4:=λO=>(Zs (Zc (O:=O) hR5.out.box)).2.2.2.2.1
      have b0:=λO=>(Zs (Zc (O:=O) hR5.out.box)).2.2.2.2.2 0
      have b1:=λO=>(Zs (Zc (O:=O) hR5.out.box)).2.2.2.2.2 1
      have b2:=λO=>(Zs (Zc (O:=O) hR5.out.box)).2.2.2.2.2 2
      have b3':=λO=>(Zs (Zc (O:=O) hR5.out.box)).2.2.2.2.2 3
      have b4:=λO=>(Zs (Zc (O:=O) hR5.out.box)).2.2.2.2.2 4
      clear hb5 hd5 hl5 hp5 hm c0 c1 c2 c3' c4 hDc hwB;go_upto_region 14 with fail
      refine YH (φ:=λW=>RS w W g b L (.slice (some ⟨b3,o3,.none⟩) N c3) x5 d' S/\Res ZY 9 1 W w.heap.size (.slice A5 m c5) m out) ⟨by have h:=(hR5.out.alloc (.cells #[.string x5.fStroke,.int .i64 x5.fStakes,.slice x5.A x5.n x5.c,.slice x5.A' x5.n' x5.c',.string x5.fLog] 29)).next (hD5.out.below ((Below.refl _ _).alloc (Nat.le_refl _) _));rw[hP5.out] at h;exact h,YX (hR5.out.alloc _).box (hL5.out.below ((Below.refl _ _).alloc (Nat.le_refl _) _))⟩ ?_;rintro W6 ⟨hr6,hl6⟩;have hR6:=Za hr6;have hL6:=Za hl6;clear hr6 hl6 hR5 hL5 hD5 hP5 a0 a1 a2 a3 a4 b0 b1 b2 b3' b4;go_wp2
      go_loopw [40] (λi wx=>∃j:Nat,j<=m/\i = .int .i64 (j:Int)/\RS w wx g b L (.slice (some ⟨b3,o3,.none⟩) N c3) x5 d' (S++linesB (out.take j))/\Res ZY 9 1 wx w.heap.size (.slice A5 m c5) m out) (λi _=>m-(intOf i).toNat)
      case atStart=>exact⟨0,Nat.zero_le _,rfl,by rw[List.take_zero];rw[show linesB []=(⟨#[]⟩:ByteArray) from rfl,Zb3];exact hR6.out,hL6.out⟩
      case round =>
       clear hR6 hL6;obtain⟨j,hj,rfl,hr,hl⟩:=hrel;have hR6:=Za hr;have hL6:=Za hl;clear hr;by_cases hjl:j<m
       ·obtain⟨b7,o7,z,hA7,_,hz,cz⟩:=(hl.arr Zf).str hjl
        subst hA7;have hzs:=hfew.out.2 z (List.mem_of_getElem? hz);have hnz:=Za (Zo hz);have hjm:(j:Int)<(m:Int):=by omega
        obtain⟨P,hP⟩:∃P,P=linesB (out.take j):=⟨_,rfl⟩;have hPh:=Za hP;have hPs:P.size<=167772165000:=by
         have h1:=QR (L:=out.take j) (M:=33554432) (λl hl=>hfew.out.2 l (List.mem_of_mem_take hl));have h2:(out.take j).length<=5000:=by rw[List.length_take];omega
         rw[hP];omega
        rw[←hP] at hR6;have hcat:=λW=>Zr z ⟨#[10]⟩ (by show z.size+1<=_;omega) W
        have hsz:(S++P).size+(z++⟨#[10]⟩).size<=140737488355328:=by
         have h1:=hfs.out;have h2:(⟨#[10]⟩:ByteArray).size=1:=rfl;rw[Vy,Vy,h2];omega
        have hWr:=Za (ZaV w.heap.size b (S++P) (z++⟨#[10]⟩) wr hR6.out.bd hsz hR6.out.low.size);clear hl hz hP hsz;go_wp2_with fail
        refine hWr.out.mono ?_;rintro e w8 ⟨rfl,hd8,hb8,hf8⟩;have hR8:=Za (hR6.out.wrote hd8 hb8 hf8);have hL8:=Za (hL6.out.bfr hR6.out.bd hf8 (by decide) (by decide));have hnz2:S++P++(z++⟨#[10]⟩)=S++linesB (out.take (j+1)):=by rw[hnz.out,Xh,←hPh.out,ByteArray.append_assoc]
        rw[hnz2] at hR8;clear hnz2;clear hd8 hb8 hf8 hR6 hL6 cz;go_wp2
        go_roundw
        case rel=>exact⟨j+1,by omega,by go_num,hR8.out,hL8.out⟩
        case measure=>simp[intOf];omega
       ·obtain rfl:j=m:=by omega
        have hjm:¬(j:Int)<(j:Int):=by omega
        clear hl;rw[show out.take j=out by rw[hmh.out,List.take_length]] at hR6;go_wp2
        go_roundw
        case rel=>exact⟨k+1,x5,by omega,by omega,by go_num,by rw[hnx.out,X9,←hSh.out];exact hR6.out⟩
        case measure=>simp[intOf];omega
   ·obtain rfl:k=N:=by omega
    have hM2:Hid (ZdO s=S):=Za (by
     rw[hM.out,if_pos hk60,hSh.out,hNh.out,List.take_of_length_le (Nat.le_refl _)])
    have hlti:¬(k:Int)<(k:Int):=by omega
    go_wp2_with fail
    refine(Zb2 w.heap.size b _ _ hR.out.bd hR.out.low.size).mono ?_;rintro e w5 ⟨rfl,hb5⟩;have hB5:=Za (hR.out.low.trans hb5);clear hb5;go_wp2
    go_ret;exact⟨by rw[hM2.out];try rfl,hB5.out⟩
end Go.Proofs.YtfpaejlipaainaaGreatDoor
