/- Texts that belong together, joined: contracts and plain laws. No statement is proved here. -/
import Derived.Test.YtfpaejlipaainaaGreatDoorM47
import Derived.Test.YtfpaejlipaainaaGreatDoorR02
set_option maxRecDepth 100000
set_option maxHeartbeats 8000000
namespace Go.Proofs.YtfpaejlipaainaaGreatDoor
open Go.ChangeShapes Go.WideShapes Go.ChangeAt Go.RowKit Go.Deep
theorem Zdx (c:UInt8):∀(l cur:List UInt8),spl c cur (l++[c])=spl c cur l++[[]]
 | [],cur=>by simp[spl]
 | b :: r,cur=>by
  rw[List.cons_append,spl,spl];split
  ·rw[Zdx c r []];rfl
  ·exact Zdx c r _
theorem spl_last (c:UInt8):∀(l cur:List UInt8),(∃p,spl c cur l=p++[[]])→(l=[]/\cur=[])\/∃r,l=r++[c]
 | [],cur,⟨p,h⟩=>by
  rw[spl] at h;have h1:=congrArg List.getLast? h;simp at h1;exact .inl ⟨rfl,h1⟩
 | b :: r,cur,⟨p,h⟩=>by
  rw[spl] at h;split at h
  ·rename_i hb
   subst hb;cases p with
   | nil =>
    have h1:=congrArg List.length h;obtain⟨y,t,hy⟩:=List.exists_cons_of_ne_nil (Zdy b [] r);rw[hy] at h1;simp at h1
   | cons q p =>
    injection h with h1 h2
    rcases spl_last b r [] ⟨p,h2⟩ with ⟨e,_⟩|⟨r',e⟩
    ·subst e;exact .inr ⟨[],rfl⟩
    ·subst e;exact .inr ⟨b :: r',rfl⟩
  ·rcases spl_last c r (cur++[b]) ⟨p,h⟩ with ⟨_,e⟩|⟨r',e⟩
   ·simp at e
   ·subst e;exact .inr ⟨b :: r',rfl⟩
def ZkA (l:List UInt8):ByteArray:=⟨l.toArray⟩
theorem VP (c:UInt8)(s:ByteArray):words c s=(spl c [] s.data.toList).map ZkA:=rfl
theorem Zii {l:List UInt8}(h:ZkA l=⟨#[]⟩):l=[]:=by
 have:=congrArg (λb:ByteArray=>b.data.toList) h;simpa[ZkA] using this
def runL (s:ByteArray):List ByteArray:=if s=⟨#[]⟩ then [] else mLines s
theorem ZfS (l:List UInt8):Lib.trimSuffix (l++[10]) [10]=l:=by
 unfold Lib.trimSuffix;rw[if_pos (by simp[Lib.hasSuffix])];simp
theorem ZfR {l:List UInt8}(h:¬∃r,l=r++[10]):Lib.trimSuffix l [10]=l:=by
 unfold Lib.trimSuffix;rw[if_neg];intro e;apply h
 simp[Lib.hasSuffix] at e;obtain⟨t,ht⟩:=e;exact⟨t,ht.symm⟩
theorem ZkX (s:ByteArray):(⟨s.data.toList.toArray⟩:ByteArray)=s:=by simp
theorem ZdA {s z:ByteArray}{pre:List ByteArray}(h:words 10 s=pre++[z]):runL s=if z=⟨#[]⟩ then pre else pre++[z]:=by
 by_cases hz:z=⟨#[]⟩
 ·rw[if_pos hz]
  subst hz;have h2:∃p,spl 10 [] s.data.toList=p++[[]]:=by
   obtain⟨p,q,hp⟩:∃p q,spl 10 [] s.data.toList=p++[q]:=⟨_,_,(List.dropLast_concat_getLast (Zdy 10 [] _)).symm⟩;rw[VP,hp,List.map_append,List.map_cons,List.map_nil] at h;obtain⟨_,h3⟩:=List.append_inj' h rfl;have h4:=Zii (List.cons.inj h3).1;exact⟨p,by rw[hp,h4]⟩
  unfold runL;rcases spl_last 10 _ _ h2 with ⟨e,_⟩|⟨r,e⟩
  ·have hs:s=⟨#[]⟩:=by rw[←ZkX s,e]
   rw[if_pos hs];subst hs;have h5:words 10 ⟨#[]⟩=[]++[⟨#[]⟩]:=rfl;rw[h5] at h;exact(List.append_inj' h rfl).1
  ·rw[if_neg (by intro hs;rw[hs] at e;simp at e)]
   unfold mLines;rw[e,ZfS];have h6:words 10 ⟨r.toArray⟩=(spl 10 [] r).map ZkA:=by rw[VP]
   rw[VP,e,Zdx,List.map_append] at h;rw[h6];exact(List.append_inj' h rfl).1
 ·rw[if_neg hz]
  unfold runL;rw[if_neg]
  ·unfold mLines
   rw[ZfR,ZkX,h];rintro⟨r,e⟩;rw[VP,e,Zdx,List.map_append] at h;exact hz (List.cons.inj (List.append_inj' h rfl).2).1.symm
  ·intro hs
   subst hs;have h5:words 10 ⟨#[]⟩=[]++[⟨#[]⟩]:=rfl;rw[h5] at h;exact hz (List.cons.inj (List.append_inj' h rfl).2).1.symm
theorem ZgG (s:ByteArray):ZdO s=if (runL s).length<=60 then linesB (mFold (runL s)).2 else linesB ((mFold ((runL s).take 60)).2++[⟨#[101,114,114,111,114,32,102,117,108,108]⟩]):=by
 unfold ZdO runL;split
 ·rfl
 ·rfl
theorem ZbC (L:List ByteArray)(hs:∀s∈L,s.size<=1048576):(mFold L).2.length<=5000*L.length:=by
 unfold mFold;have key:∀(L:List ByteArray) (p:DeskM × List ByteArray),(∀s∈L,s.size<=1048576)→p.1.ok=true→(L.foldl WQ p).2.length<=p.2.length+5000*L.length:=by
  intro L
  induction L with
  | nil=>intro p _ _;simp
  | cons x L ih =>
   intro p hL hp;rw[List.foldl_cons];have hx:=hL x List.mem_cons_self;have hL':=λs hs=>hL s (List.mem_cons_of_mem _ hs)
   have hst:(WQ p x).1.ok=true/\(WQ p x).2.length<=p.2.length+5000:=by
    unfold WQ;cases hm:mLine p.1 x with
    | none =>
     refine⟨hp,?_⟩;show(p.2++[(⟨#[63]⟩:ByteArray)]).length<=_
     rw[List.length_append];simp
    | some q =>
     obtain⟨d',out⟩:=q;refine⟨(ZaB hp hm).1,?_⟩;have hf:=(V5 hp hx hm).1;show(p.2++out).length<=_
     rw[List.length_append];omega
   have:=ih _ hL' hst.1;rw[List.length_cons,Nat.mul_add];omega
 have:=key L (ZjK,[]) hs ZcO;simpa using this
theorem ZcU (l:List ByteArray)(k:Nat):(linesB (l.take k)).size<=(linesB l).size:=by
 conv=>rhs;rw[←List.take_append_drop k l,X9,ByteArray.size_append]
 omega
theorem ZjQ {l:List ByteArray}{k:Nat}{y:ByteArray}(h:l[k]?=some y):linesB (l.take (k+1))=linesB (l.take k)++y++⟨#[10]⟩/\(linesB (l.take k)).size+y.size+1<=(linesB l).size:=by
 have h1:linesB (l.take (k+1))=linesB (l.take k)++y++⟨#[10]⟩:=by rw[Zo h,Xh,ByteArray.append_assoc]
 refine⟨h1,?_⟩;have h2:=ZcU l (k+1);rw[h1,ByteArray.size_append,ByteArray.size_append] at h2;exact h2
theorem Vb (A:Option Addr)(n c:Nat)(l:List ByteArray)(w:World)(hn:n<=1048576)(hr0:Arr ZY 1 w w.heap.size A n l)(hz:(linesB l).size<=20000000000000) :
  Calls Tryz.prog 57 #[.slice A n c] w λe w'=>e = .returned (.string (linesB l))/\Below w.heap.size w w':=by
 have hL:=Za hr0.len;have hr:=Za hr0;obtain⟨iu,hi,hz0,hz1,hz2⟩:=info_parts WU;clear hr0;have hO0:Hid ((w.alloc (.cells #[] 5)).ownsRow w.heap.size 5 1 (.slice (some ⟨w.heap.size,0,none⟩) 0 0) (⟨#[]⟩:ByteArray).size (Lib.strCells ⟨#[]⟩)):=Za (World.ownsRow_made w #[] 0 (Nat.le_refl _) (Nat.zero_le _) (by simp));go_enter Tryz.func57,Tryz.ntmps57;go_wp2
 go_loopw [3,4] (λv i wr=>∃k:Nat,k<=n/\i = .int .i64 k/\wr.ownsRow w.heap.size 5 1 v (linesB (l.take k)).size (Lib.strCells (linesB (l.take k)))/\Below w.heap.size w wr) (λ_ i _=>n-(intOf i).toNat)
 case atStart=>exact⟨0,Nat.zero_le _,rfl,hO0.out,(Below.refl _ _).alloc (Nat.le_refl _) _⟩
 case round =>
  clear hO0;obtain⟨k,hk,rfl,ho,hb⟩:=hrel;by_cases hlt:k<n
  ·obtain⟨b,o,y,hA,_,hy,cy⟩:=(hr.out.go hb).str hlt
   subst hA;obtain⟨j1,j2⟩:=ZjQ hy;have hJ:=Za j1;obtain⟨S,hS⟩:∃S,S=linesB (l.take k):=⟨_,rfl⟩;rw[←hS] at ho j2 hJ;have hO:=Za ho;have hB:=Za hb;have hNB:Hid (∀j,u3.ownBlock=some j→w.heap.size<=j):=Za λj hj=>(hO.out.lt j hj).1
   clear ho hb hS j1 hy;go_wp2_with (first|(at_builtin;refine Lib.wpList_append_own_string _ rfl (.tmp 12) (.tmp 16) 22 9 rfl w.heap.size 5 iu Tryz.underlying22 Tryz.underlying9 hi hz0 hz1 hz2 _ _ _ rfl hO.out y rfl (by unfold maxLen;omega) (by omega) hB.out.size ?_;intro v5 w5 ho5 hg5 _;have hO5:=Za ho5;have hB5:=Za (hB.out.grown hg5 hB.out.size (λk hk=>hNB.out k hk));clear ho5 hg5)|(at_builtin;refine wpList_append_own _ rfl (.tmp 18) (.tmp 19) 22 rfl w.heap.size 5 iu (.int .u8 0) 1 1 Tryz.underlying22 hi hz0 hz1 hz2 rfl (by omega) _ _ _ rfl (hO5.out.alloc _) ⟨w5.heap.size,0,none⟩ 1 1 [.int .u8 10] rfl rfl (cell_one_new w5 _ _) (by intro u hu;cases List.mem_singleton.1 hu;rfl) (by unfold maxLen;omega) (by omega) (by have:=hB5.out.size;simp;omega) ?_;intro v6 w6 ho6 hg6 _;have hO6:=Za ho6;have hB6:=Za ((hB5.out.alloc hB5.out.size _).grown hg6 (by have:=hB5.out.size;simp;omega) (λk hk=>((hO5.out.alloc (.cells #[.int .u8 10] 5)).lt k hk).1));clear ho6 hg6)|fail)
   go_roundw
   case rel=>exact⟨k+1,by omega,by go_num,by rw[hJ.out,ByteArray.size_append,ByteArray.size_append,UI,UI];exact hO6.out,hB6.out⟩
   case measure=>simp[intOf];omega
  ·have hT:Hid (l.take k=l):=Za (List.take_of_length_le (by rw[hL.out];omega))
   have hB:=Za hb;have ho2:=ZgC ho;obtain⟨Av,cv,rfl,_⟩:=ho2.slice;have hc:=Za (WC ho2);clear ho ho2 hb;rw[hT.out] at hc ⊢;obtain⟨S,hS⟩:∃S,S=linesB l:=⟨_,rfl⟩;rw[←hS] at hc ⊢;rw[show(⟨S.data.toList.toArray⟩:ByteArray)=S from WO S] at hc;have hcc:=hc.out;have hSE:=Za hS;clear hS;go_wp2
   go_ret;exact⟨by rw[←hSE.out];rfl,hB.out⟩
theorem Zgb (w:World):Calls Tryz.prog 53 #[] w λe w'=>e = .returned (.agg #[.string ⟨#[70,66]⟩,.int .i64 5,.slice none 0 0,.slice none 0 0,.string ⟨#[]⟩])/\Below w.heap.size w w':=by
 go_enter Tryz.func53,Tryz.ntmps53;go_wp2
 exact bodyPost_ret (v:=.agg #[.string ⟨#[70,66]⟩,.int .i64 5,.slice none 0 0,.slice none 0 0,.string ⟨#[]⟩]) (by simp[results,Tryz.results53,go_sem]) rfl ⟨rfl,by go_grown⟩
theorem ZkW (w:World)(base:Nat):DV w base ⟨⟨#[70,66]⟩,5,none,0,0,[],none,0,0,[],⟨#[]⟩⟩:=⟨Res.empty (Nat.zero_le _),Res.empty (Nat.zero_le _),Nat.zero_le _,Nat.zero_le _,λh hh=>(by cases hh)⟩
def x00:DeskV:=⟨⟨#[70,66]⟩,5,none,0,0,[],none,0,0,[],⟨#[]⟩⟩
theorem ZhT (s:ByteArray)(w:World)(hs:s.size<=1048576) :
  Calls Tryz.prog 22 #[.string s] w λe w'=>e = .returned (.string (ZdO s))/\Below w.heap.size w w':=by
 obtain⟨pre,z,hW⟩:∃pre z,words 10 s=pre++[z]:=⟨_,_,(List.dropLast_concat_getLast (λe=>by have:=VQ 10 s;rw[e] at this;simp at this)).symm⟩;obtain⟨P,hP⟩:∃P,P=pre.length:=⟨_,rfl⟩;have hPe:(pre++[z]).length=P+1:=by rw[hP,List.length_append];rfl
 have hPb:P<=1048576:=by have:=Yh 10 s;rw[hW,hPe] at this;omega
 obtain⟨L,hL⟩:∃L,L=runL s:=⟨_,rfl⟩;have hM:=Za (ZgG s);rw[←hL] at hM;have hLs:Hid (∀y∈L,y.size<=1048576):=Za (by
  rw[hL,ZdA hW];intro y hy;have:y∈words 10 s:=by
   rw[hW];split at hy
   ·exact List.mem_append_left _ hy
   ·exact hy
  have:=Z6 10 s this;omega)
 have hLc:Hid (L=if z=⟨#[]⟩ then pre else pre++[z]):=Za (by rw[hL];exact ZdA hW);have hWh:=Za hW;have hPh:=Za hP;have hPeh:=Za hPe;clear hL hW hP hPe;go_enter Tryz.func22,Tryz.ntmps22;go_wp2_with fail
 refine(Zgb _).mono ?_;rintro e w1 ⟨rfl,hb⟩;have hB1:=Za hb;clear hb;go_upto_region 2 with fail
 obtain⟨g,hg⟩:∃g,g=w1.heap.size:=⟨_,rfl⟩;obtain⟨W2,hW2⟩:∃W2,W2=w1.alloc (Obj.cells #[Value.string ⟨#[70,66]⟩,Value.int .i64 5,Value.slice none 0 0,Value.slice none 0 0,Value.string ⟨#[]⟩,Value.slice none 0 0,Value.slice none 0 0,Value.slice none 0 0] 81):=⟨_,rfl⟩;have hB2:=Za (show Below w.heap.size w W2 by rw[hW2];exact hB1.out.alloc hB1.out.size _);have k2:=Za (show W2.heap[g]?=some (.cells #[Value.string ⟨#[70,66]⟩,Value.int .i64 5,Value.slice none 0 0,Value.slice none 0 0,Value.string ⟨#[]⟩,Value.slice none 0 0,Value.slice none 0 0,Value.slice none 0 0] 81 (0,0)) by rw[hW2,hg];exact heap_alloc_new w1 _);have hgw:=Za (show w.heap.size<=g by rw[hg];exact hB1.out.size);rw[←hW2];rw[←hg];clear hW2 hg hB1;go_wp2_with fail
 refine(ZS 10 s _ hs).mono ?_;rw[hWh.out,hPeh.out];rintro e w3 ⟨v3,rfl,ho3,hb⟩;obtain⟨Aw,cw,hv3,hcw⟩:=ho3.slice;subst hv3;obtain⟨bw,ow,z',hAw,_,hz',cz⟩:=(ho3.arr Zf).str (Nat.lt_succ_self P);subst hAw;obtain rfl:z'=z:=by
  rw[hPh.out,List.getElem?_append_right (Nat.le_refl _),Nat.sub_self] at hz';exact(Option.some.inj hz').symm
 have hB3:=Za (hB2.out.trans (hb.mono hB2.out.size));have hS3:Hid (SG ⟨.slice (some ⟨bw,ow,none⟩) (P+1) cw,P+1,pre++[z']⟩ w3 w.heap.size g x00 [] (.slice none 0 0) (.slice none 0 0) (.slice none 0 0)):=Za ⟨Ze k2.out hb,ZkW _ _,Own.nil_ w3 _,hgw.out,ho3.less hB2.out.size,.inl rfl⟩;clear hb hz' ho3 k2 hB2;by_cases hz:z'=⟨#[]⟩
 ·have hLm:Hid (L.length=P):=Za (by rw[hLc.out,if_pos hz];exact hPh.out.symm)
  have hLg:Hid (∀k y,k<P→(pre++[z'])[k]?=some y→L[k]?=some y):=Za (λk y hk hy=>by
   rw[hLc.out,if_pos hz];rw[List.getElem?_append_left (by rw[←hPh.out];exact hk)] at hy;exact hy)
  rw[hz] at cz;clear hz;go_upto_region 5 with fail
  go_wp2
  go_loopw [5] (λi wr=>∃(k:Nat) (x:DeskV) (vo vn vt:Value),k<=P/\k<=60/\i = .int .i64 (k:Int)/\SG ⟨.slice (some ⟨bw,ow,none⟩) (P+1) cw,P+1,pre++[z']⟩ wr w.heap.size g x (mFold (L.take k)).2 vo vn vt/\x.pure=(mFold (L.take k)).1/\HS x/\Below w.heap.size w wr) (λi _=>P-(intOf i).toNat)
  case atStart=>exact⟨0,x00,_,_,_,Nat.zero_le _,Nat.zero_le _,rfl,hS3.out,rfl,⟨Nat.le_refl _,.inr ⟨rfl,rfl,rfl⟩⟩,hB3.out⟩
  case round =>
   obtain⟨k,x,vo,vn,vt,hk,hk60,rfl,hsg,hpx0,hhs,hb⟩:=hrel;have hS:=Za hsg;have hpx:=Za hpx0;have hHS:=Za hhs;have hB:=Za hb;clear hsg hpx0 hhs hb hS3 hB3;have htk:Hid ((L.take k).length<=60):=Za (by rw[List.length_take];omega);have hOz:=Za (Uv (L.take k) (λy hy=>hLs.out y (List.mem_of_mem_take hy)));have hOl:(mFold (L.take k)).2.length<=300000:=by have:=ZbC (L.take k) (λy hy=>hLs.out y (List.mem_of_mem_take hy));have:=htk.out;omega
   replace hOz:Hid ((linesB (mFold (L.take k)).2).size<=10066330200000):=Za (by have:=hOz.out;have:=htk.out;omega);obtain⟨O,hO⟩:∃O,O=(mFold (L.take k)).2:=⟨_,rfl⟩;have hOh:=Za hO;rw[←hO] at hS hOz hOl;clear hO htk;have hki:(0:Int)<=(k:Int):=by omega
   by_cases hlt:k<P
   ·have hlti:(k:Int)<(P:Int):=by omega
    by_cases h60:k=60
    ·have h6i:(60:Int)<=(k:Int):=by omega
     have hM2:Hid (ZdO s=linesB (O++[errB 5])):=Za (by
      rw[hM.out,if_neg (by rw[hLm.out];omega),hOh.out,h60];rfl)
     clear h60;go_wp2_with fail
     refine(YK wr w.heap.size g x O vo vn vt 5 hS.out (by omega) (by omega) (by omega)).mono ?_;rintro e w4 ⟨rfl,vo4,hs4,hb4⟩;have c5:=(ZL hs4.box).2.2.2.2.2.1;have hR4:=Za hs4.out;have hB4:=Za (hB.out.trans hb4);obtain⟨A4,c4,hv4,_⟩:=hs4.out.slice;subst hv4;have hsz5:(errB 5).size=10:=rfl;have hz4:(linesB (O++[errB 5])).size<=20000000000000:=by rw[Xh,ByteArray.size_append,ByteArray.size_append,hsz5];have:=hOz.out;have e1:(⟨#[10]⟩:ByteArray).size=1:=rfl;omega
     obtain⟨O4,hO4⟩:∃O4,O4=O++[errB 5]:=⟨_,rfl⟩;have hO4l:O4.length<=300001:=by rw[hO4,List.length_append];simp;omega
     rw[←hO4] at hR4 hz4 hM2 c5;obtain⟨q,hq⟩:∃q,q=O4.length:=⟨_,rfl⟩;rw[←hq] at hR4 c5 hO4l;have hBw:=Za hs4.bw;clear hs4 hb4 hO4 hsz5 hS hq;go_wp2_with fail
     refine(Vb A4 q c4 O4 w4 (by omega) (hR4.out.arr Zf) hz4).mono ?_;rintro e w5 ⟨rfl,hb5⟩;have hB5:=Za (hB4.out.trans (hb5.mono hBw.out));clear hb5;go_wp2
     go_ret;exact⟨by rw[hM2.out];rfl,hB5.out⟩
    ·have h6i:¬(60:Int)<=(k:Int):=by omega
     have hok:x.pure.ok=true:=by rw[hpx.out];exact ZaC _
     have hpr:Own ZY 9 1 wr w.heap.size (.slice (some ⟨bw,ow,none⟩) (P+1) cw) (P+1) (pre++[z']):=hS.out.pr;obtain⟨b3,o3,y,hA3,_,hy,cy⟩:=(hpr.arr Zf).str (show k<P+1 by omega);cases hA3
     have hyL:=hLg.out k y hlt hy;have hys:=Za (hLs.out y (List.mem_of_getElem? hyL));have hfold:=Za (Uu hyL);clear hpr hyL hy;cases hm:mLine x.pure y with
     | none =>
      have hmh:=Za hm;have hnx:Hid (mFold (L.take (k+1))=((mFold (L.take k)).1,O++[⟨#[63]⟩])):=Za (by rw[hfold.out,hOh.out];exact Ut (by rw[←hpx.out];exact hm));clear hm;go_wp2_with fail
      refine(Uo wr w.heap.size g x O vo vn vt y hS.out hok (by omega) hHS.out hys.out).mono ?_;rw[hmh.out];rintro e w4 ⟨rfl,vn4,vt4,x4,vo4,hs4,hp4,hh4,hb4⟩;rw[Option.getD_none,List.append_nil] at hs4;rw[Option.getD_none] at hp4;have hS4:=Za hs4;have hP4:=Za hp4;have hH4:=Za hh4;have hB4:=Za (hB.out.trans hb4);clear hs4 hp4 hh4 hb4 hS cy;go_wp2_with fail
      refine(Xx w4 w.heap.size g x4 O vo4 vn4 vt4 ⟨#[63]⟩ hS4.out (by omega)).mono ?_;rintro e w5 ⟨rfl,vo5,hs5,hb5⟩;have hS5:=Za hs5;have hB5:=Za (hB4.out.trans hb5);clear hs5 hb5;go_wp2
      go_roundw
      case rel=>exact⟨k+1,x4,vo5,vn4,vt4,by omega,by omega,by go_num,by rw[hnx.out];exact hS5.out,by rw[hnx.out];exact hP4.out.trans hpx.out,hH4.out,hB5.out⟩
      case measure=>simp[intOf];omega
     | some q =>
      have hmh:=Za hm;have hnx:Hid (mFold (L.take (k+1))=(q.1,O++q.2)):=Za (by rw[hfold.out,hOh.out];exact Us (by rw[←hpx.out];exact hm));clear hm;go_wp2_with fail
      refine(Uo wr w.heap.size g x O vo vn vt y hS.out hok (by omega) hHS.out hys.out).mono ?_;rw[hmh.out];rintro e w4 ⟨rfl,vn4,vt4,x4,vo4,hs4,hp4,hh4,hb4⟩;rw[Option.getD_some] at hs4;rw[Option.getD_some] at hp4;have hS4:=Za hs4;have hP4:=Za hp4;have hH4:=Za hh4;have hB4:=Za (hB.out.trans hb4);clear hs4 hp4 hh4 hb4 hS cy;go_wp2
      go_roundw
      case rel=>exact⟨k+1,x4,vo4,vn4,vt4,by omega,by omega,by go_num,by rw[hnx.out];exact hS4.out,by rw[hnx.out];exact hP4.out,hH4.out,hB4.out⟩
      case measure=>simp[intOf];omega
   ·have hlti:¬(k:Int)<(P:Int):=by omega
    have hM2:Hid (ZdO s=linesB O):=Za (by
     rw[hM.out,if_pos (by rw[hLm.out];omega),hOh.out,List.take_of_length_le (by rw[hLm.out];omega)])
    have hs4:=hS.out;have c5:=(ZL hs4.box).2.2.2.2.2.1;have hR4:=Za hs4.out;obtain⟨A4,c4,hv4,_⟩:=hs4.out.slice;subst hv4;have hz4:(linesB O).size<=20000000000000:=by have:=hOz.out;omega
    obtain⟨q,hq⟩:∃q,q=O.length:=⟨_,rfl⟩;rw[←hq] at hR4 c5 hOl;have hBw:=Za hs4.bw;clear hs4 hS hq;go_wp2_with fail
    refine(Vb A4 q c4 O wr (by omega) (hR4.out.arr Zf) hz4).mono ?_;rintro e w5 ⟨rfl,hb5⟩;have hB5:=Za (hB.out.trans (hb5.mono hBw.out));clear hb5;go_wp2
    go_ret;exact⟨by rw[hM2.out];rfl,hB5.out⟩
 ·have hLm:Hid (L.length=P+1):=Za (by rw[hLc.out,if_neg hz];exact hPeh.out)
  have hLg:Hid (∀k y,k<P+1→(pre++[z'])[k]?=some y→L[k]?=some y):=Za (λk y _ hy=>by
   rw[hLc.out,if_neg hz];exact hy)
  have hne:z'.toList.isEmpty=false:=by
   cases hq:z'.toList with
   | nil=>exact absurd (YI (hq.trans (by simp:[]=(⟨#[]⟩:ByteArray).toList))) hz
   | cons a l=>rfl
  clear hz;go_upto_region 5 with fail
  go_wp2
  go_loopw [5] (λi wr=>∃(k:Nat) (x:DeskV) (vo vn vt:Value),k<=(P+1)/\k<=60/\i = .int .i64 (k:Int)/\SG ⟨.slice (some ⟨bw,ow,none⟩) (P+1) cw,P+1,pre++[z']⟩ wr w.heap.size g x (mFold (L.take k)).2 vo vn vt/\x.pure=(mFold (L.take k)).1/\HS x/\Below w.heap.size w wr) (λi _=>(P+1)-(intOf i).toNat)
  case atStart=>exact⟨0,x00,_,_,_,Nat.zero_le _,Nat.zero_le _,rfl,hS3.out,rfl,⟨Nat.le_refl _,.inr ⟨rfl,rfl,rfl⟩⟩,hB3.out⟩
  case round =>
   obtain⟨k,x,vo,vn,vt,hk,hk60,rfl,hsg,hpx0,hhs,hb⟩:=hrel;have hS:=Za hsg;have hpx:=Za hpx0;have hHS:=Za hhs;have hB:=Za hb;clear hsg hpx0 hhs hb hS3 hB3;have htk:Hid ((L.take k).length<=60):=Za (by rw[List.length_take];omega);have hOz:=Za (Uv (L.take k) (λy hy=>hLs.out y (List.mem_of_mem_take hy)));have hOl:(mFold (L.take k)).2.length<=300000:=by have:=ZbC (L.take k) (λy hy=>hLs.out y (List.mem_of_mem_take hy));have:=htk.out;omega
   replace hOz:Hid ((linesB (mFold (L.take k)).2).size<=10066330200000):=Za (by have:=hOz.out;have:=htk.out;omega);obtain⟨O,hO⟩:∃O,O=(mFold (L.take k)).2:=⟨_,rfl⟩;have hOh:=Za hO;rw[←hO] at hS hOz hOl;clear hO htk;have hki:(0:Int)<=(k:Int):=by omega
   by_cases hlt:k<(P+1)
   ·have hlti:(k:Int)<((P:Int)+1):=by omega
    by_cases h60:k=60
    ·have h6i:(60:Int)<=(k:Int):=by omega
     have hM2:Hid (ZdO s=linesB (O++[errB 5])):=Za (by
      rw[hM.out,if_neg (by rw[hLm.out];omega),hOh.out,h60];rfl)
     clear h60;go_wp2_with fail
     refine(YK wr w.heap.size g x O vo vn vt 5 hS.out (by omega) (by omega) (by omega)).mono ?_;rintro e w4 ⟨rfl,vo4,hs4,hb4⟩;have c5:=(ZL hs4.box).2.2.2.2.2.1;have hR4:=Za hs4.out;have hB4:=Za (hB.out.trans hb4);obtain⟨A4,c4,hv4,_⟩:=hs4.out.slice;subst hv4;have hsz5:(errB 5).size=10:=rfl;have hz4:(linesB (O++[errB 5])).size<=20000000000000:=by rw[Xh,ByteArray.size_append,ByteArray.size_append,hsz5];have:=hOz.out;have e1:(⟨#[10]⟩:ByteArray).size=1:=rfl;omega
     obtain⟨O4,hO4⟩:∃O4,O4=O++[errB 5]:=⟨_,rfl⟩;have hO4l:O4.length<=300001:=by rw[hO4,List.length_append];simp;omega
     rw[←hO4] at hR4 hz4 hM2 c5;obtain⟨q,hq⟩:∃q,q=O4.length:=⟨_,rfl⟩;rw[←hq] at hR4 c5 hO4l;have hBw:=Za hs4.bw;clear hs4 hb4 hO4 hsz5 hS hq;go_wp2_with fail
     refine(Vb A4 q c4 O4 w4 (by omega) (hR4.out.arr Zf) hz4).mono ?_;rintro e w5 ⟨rfl,hb5⟩;have hB5:=Za (hB4.out.trans (hb5.mono hBw.out));clear hb5;go_wp2
     go_ret;exact⟨by rw[hM2.out];rfl,hB5.out⟩
    ·have h6i:¬(60:Int)<=(k:Int):=by omega
     have hok:x.pure.ok=true:=by rw[hpx.out];exact ZaC _
     have hpr:Own ZY 9 1 wr w.heap.size (.slice (some ⟨bw,ow,none⟩) (P+1) cw) (P+1) (pre++[z']):=hS.out.pr;obtain⟨b3,o3,y,hA3,_,hy,cy⟩:=(hpr.arr Zf).str (show k<P+1 by omega);cases hA3
     have hyL:=hLg.out k y hlt hy;have hys:=Za (hLs.out y (List.mem_of_getElem? hyL));have hfold:=Za (Uu hyL);clear hpr hyL hy;cases hm:mLine x.pure y with
     | none =>
      have hmh:=Za hm;have hnx:Hid (mFold (L.take (k+1))=((mFold (L.take k)).1,O++[⟨#[63]⟩])):=Za (by rw[hfold.out,hOh.out];exact Ut (by rw[←hpx.out];exact hm));clear hm;go_wp2_with fail
      refine(Uo wr w.heap.size g x O vo vn vt y hS.out hok (by omega) hHS.out hys.out).mono ?_;rw[hmh.out];rintro e w4 ⟨rfl,vn4,vt4,x4,vo4,hs4,hp4,hh4,hb4⟩;rw[Option.getD_none,List.append_nil] at hs4;rw[Option.getD_none] at hp4;have hS4:=Za hs4;have hP4:=Za hp4;have hH4:=Za hh4;have hB4:=Za (hB.out.trans hb4);clear hs4 hp4 hh4 hb4 hS cy;go_wp2_with fail
      refine(Xx w4 w.heap.size g x4 O vo4 vn4 vt4 ⟨#[63]⟩ hS4.out (by omega)).mono ?_;rintro e w5 ⟨rfl,vo5,hs5,hb5⟩;have hS5:=Za hs5;have hB5:=Za (hB4.out.trans hb5);clear hs5 hb5;go_wp2
      go_roundw
      case rel=>exact⟨k+1,x4,vo5,vn4,vt4,by omega,by omega,by go_num,by rw[hnx.out];exact hS5.out,by rw[hnx.out];exact hP4.out.trans hpx.out,hH4.out,hB5.out⟩
      case measure=>simp[intOf];omega
     | some q =>
      have hmh:=Za hm;have hnx:Hid (mFold (L.take (k+1))=(q.1,O++q.2)):=Za (by rw[hfold.out,hOh.out];exact Us (by rw[←hpx.out];exact hm));clear hm;go_wp2_with fail
      refine(Uo wr w.heap.size g x O vo vn vt y hS.out hok (by omega) hHS.out hys.out).mono ?_;rw[hmh.out];rintro e w4 ⟨rfl,vn4,vt4,x4,vo4,hs4,hp4,hh4,hb4⟩;rw[Option.getD_some] at hs4;rw[Option.getD_some] at hp4;have hS4:=Za hs4;have hP4:=Za hp4;have hH4:=Za hh4;have hB4:=Za (hB.out.trans hb4);clear hs4 hp4 hh4 hb4 hS cy;go_wp2
      go_roundw
      case rel=>exact⟨k+1,x4,vo4,vn4,vt4,by omega,by omega,by go_num,by rw[hnx.out];exact hS4.out,by rw[hnx.out];exact hP4.out,hH4.out,hB4.out⟩
      case measure=>simp[intOf];omega
   ·have hlti:¬(k:Int)<((P:Int)+1):=by omega
    have hM2:Hid (ZdO s=linesB O):=Za (by
     rw[hM.out,if_pos (by rw[hLm.out];omega),hOh.out,List.take_of_length_le (by rw[hLm.out];omega)])
    have hs4:=hS.out;have c5:=(ZL hs4.box).2.2.2.2.2.1;have hR4:=Za hs4.out;obtain⟨A4,c4,hv4,_⟩:=hs4.out.slice;subst hv4;have hz4:(linesB O).size<=20000000000000:=by have:=hOz.out;omega
    obtain⟨q,hq⟩:∃q,q=O.length:=⟨_,rfl⟩;rw[←hq] at hR4 c5 hOl;have hBw:=Za hs4.bw;clear hs4 hS hq;go_wp2_with fail
    refine(Vb A4 q c4 O wr (by omega) (hR4.out.arr Zf) hz4).mono ?_;rintro e w5 ⟨rfl,hb5⟩;have hB5:=Za (hB.out.trans (hb5.mono hBw.out));clear hb5;go_wp2
    go_ret;exact⟨by rw[hM2.out];rfl,hB5.out⟩
theorem Zb6 (w:World)(hG:Gl w)(a0:ByteArray)(_:a0.size<=maxLen) :
  Calls Tryz.prog 5 #[.string a0] w λe w'=>e = .returned (.bool true)/\Below w.heap.size w w':=by
 by_cases hb:a0.size<=1048576
 ·have hi:¬(1048576:Int)<(a0.size:Int):=by omega
  have hGh:=Za hG;clear hG;go_enter Tryz.func5,Tryz.ntmps5;go_wp2_with fail
  refine(ZhT a0 w hb).mono ?_;rintro e w1 ⟨rfl,hb1⟩;have hB1:=Za hb1;clear hb1;go_wp2_with fail
  refine(Ziq a0 w1 (hGh.out.below hB1.out) hb).mono ?_;rintro e w2 ⟨rfl,hb2⟩;have hB2:=Za (Below.up hB1.out hb2);clear hb2;go_wp2
  go_ret;exact⟨rfl,hB2.out⟩
 ·have hi:(1048576:Int)<(a0.size:Int):=by omega
  go_enter Tryz.func5,Tryz.ntmps5;go_wp2
  go_ret;exact⟨rfl,Below.refl _ _⟩
end Go.Proofs.YtfpaejlipaainaaGreatDoor
