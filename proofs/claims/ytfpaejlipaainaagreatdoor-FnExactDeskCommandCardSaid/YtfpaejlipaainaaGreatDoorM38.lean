/- Texts that belong together, joined: contracts and plain laws. No statement is proved here. -/
import Derived.Test.YtfpaejlipaainaaGreatDoorM37
set_option maxRecDepth 100000
set_option maxHeartbeats 8000000
namespace Go.Proofs.YtfpaejlipaainaaGreatDoor
open Go.ChangeShapes Go.WideShapes Go.ChangeAt Go.RowKit Go.Deep
section
variable {R:RowS}
def Zi8 (c:UInt8):Bool:=c==110||c==108
def Zk4 (c:UInt8):Bool:=c==114||c==108
def fch (F:ByteArray)(j:Nat):UInt8:=F.data.toList.getD j 0
def segT (ws:List ByteArray)(k p:Nat):List ByteArray:=(ws.take p).drop (k+1)
def V7 (F:ByteArray)(ws:List ByteArray)(k:Nat):Nat:=if Zk4 (fch F k) then ws.length else k+2
def U0 (F:ByteArray)(ws:List ByteArray)(k:Nat):List ByteArray:=segT ws k (V7 F ws k)
def nmUp (F:ByteArray)(ws:List ByteArray):Nat→List ByteArray
 | 0=>[]
 | k+1=>nmUp F ws k++(if Zi8 (fch F k) then U0 F ws k else [])
def WF (F:ByteArray)(ws:List ByteArray):Nat→List ByteArray
 | 0=>[]
 | k+1=>WF F ws k++(if Zi8 (fch F k) then [] else [joinSp (U0 F ws k)])
theorem XB (ws:List ByteArray)(k:Nat):segT ws k (k+1)=[]:=by
 unfold segT;exact List.drop_eq_nil_of_le (by rw[List.length_take];omega)
theorem Xo {ws:List ByteArray}{k p:Nat}{y:ByteArray}(hk:k+1<=p)(h:ws[p]?=some y):segT ws k (p+1)=segT ws k p++[y]:=by
 unfold segT;have hp:=Zq h;rw[Zo h,List.drop_append_of_le_length (by rw[List.length_take];omega)]
theorem Zi3 {F:ByteArray}{ws:List ByteArray}{k:Nat}(h:Zi8 (fch F k)=true):nmUp F ws (k+1)=nmUp F ws k++U0 F ws k/\WF F ws (k+1)=WF F ws k:=by
 refine⟨?_,?_⟩
 ·show nmUp F ws k++_=_;rw[if_pos h]
 ·show WF F ws k++_=_;rw[if_pos h,List.append_nil]
theorem Zki {F:ByteArray}{ws:List ByteArray}{k:Nat}(h:Zi8 (fch F k)=false):nmUp F ws (k+1)=nmUp F ws k/\WF F ws (k+1)=WF F ws k++[joinSp (U0 F ws k)]:=by
 refine⟨?_,?_⟩
 ·show nmUp F ws k++_=_;rw[if_neg (by rw[h];simp),List.append_nil]
 ·show WF F ws k++_=_;rw[if_neg (by rw[h];simp)]
theorem ZgE (F:ByteArray)(ws:List ByteArray){i j:Nat}(h:i<=j):∃r,nmUp F ws j=nmUp F ws i++r:=by
 obtain⟨d,rfl⟩:∃d,j=i+d:=⟨j-i,by omega⟩
 induction d with
 | zero=>exact⟨[],by simp⟩
 | succ d ih =>
  obtain⟨r,hr⟩:=ih (by omega);exact⟨r++_,by rw[←Nat.add_assoc];show nmUp F ws (i+d)++_=_;rw[hr,List.append_assoc]⟩
theorem Un (ws:List ByteArray)(k:Nat){p q:Nat}(h:p<=q):∃r,segT ws k q=segT ws k p++r:=by
 unfold segT;have e:ws.take q=ws.take p++(ws.take q).drop p:=by
  conv=>lhs;rw[←List.take_append_drop p (ws.take q),List.take_take,Nat.min_eq_left h]
 rcases Nat.lt_or_ge (ws.take p).length (k+1) with hl|hl
 ·refine⟨(ws.take q).drop (k+1),?_⟩
  rw[List.drop_eq_nil_of_le (by omega:(ws.take p).length<=k+1),List.nil_append]
 ·refine⟨(ws.take q).drop p,?_⟩
  conv=>lhs;rw[e]
  rw[List.drop_append_of_le_length hl]
theorem Vj (y:ByteArray):joinSp [y]=y:=by
 unfold joinSp;rw[List.map_cons,List.map_nil,Lib.join_one]
theorem QU {l:List ByteArray}(h:l≠[])(y:ByteArray):joinSp (l++[y])=joinSp l++((⟨#[32]⟩:ByteArray)++y):=by
 obtain⟨a,r,rfl⟩:=List.exists_cons_of_ne_nil h;unfold joinSp;apply YI
 rw[ByteArray.toList_eq,ByteArray.toList_eq];simp[Lib.join_cons,Lib.joinTail]
theorem QV {M:Nat}{l:List ByteArray}(h:∀x∈l,x.size<=M):(joinSp l).size<=(M+1)*l.length:=by
 unfold joinSp;show(Lib.join (l.map λn=>n.data.toList) [32]).toArray.size<=_
 rw[List.size_toArray];have h1:=ZaG (M:=M) 32 (l.map λn=>n.data.toList) (λx hx=>by
  obtain⟨n,hn,rfl⟩:=List.mem_map.1 hx;have:=h n hn;rw[Lib.size_eq] at this;exact this)
 rwa [List.length_map] at h1
theorem Je {F:ByteArray}{k:Nat}(h:k<F.size):fch F k=F[k]:=by
 unfold fch;rw[List.getD_eq_getElem?_getD,Jf h];rfl
structure WD (w wr:World)(g:Nat)(x:DeskV)(vo vn vt:Value)(N:List Int)(T:List ByteArray):Prop where
 box:wr.heap[g]?=some (.cells #[.string x.fStroke,.int .i64 x.fStakes,.slice x.A x.n x.c,.slice x.A' x.n' x.c',.string x.fLog,vo,vn,vt] 81 (0,0))
 nm:Own ZB 2 1 wr w.heap.size vn N.length N
 tx:Own ZY 9 1 wr w.heap.size vt T.length T
 gr:w.grownBy wr (some g)
section
variable {w wr w':World}{base g:Nat}{x:DeskV}{O:List ByteArray}{vo vn vt v v0 v1:Value}{N N':List Int}{T T':List ByteArray}
theorem WD.below (h:WD w wr g x vo vn vt N T)(hb:Below wr.heap.size wr w'):WD w w' g x vo vn vt N T:=⟨Ze h.box hb,h.nm.below hb,h.tx.below hb,Zx h.gr (Zd hb)⟩
theorem ZbW {row:Option Nat}(h:w.grownBy wr (some g))(hg:wr.grownBy w' row)(hr:∀b,row=some b→w.heap.size<=b):w.grownBy w' (some g) :=
 ⟨hg.os.trans h.os,hg.tape.trans h.tape,hg.output.trans h.output,Nat.le_trans h.size hg.size,λi hi hne=>(hg.block i (Nat.lt_of_lt_of_le hi h.size) (λe=>by have:=hr i e.symm;omega)).trans (h.block i hi hne)⟩
theorem WD.num (h:WD w wr g x vo vn vt N T)(ho:Own ZB 2 1 w' w.heap.size v N'.length N')(hg:wr.grownBy w' vn.ownBlock):WD w (w'.setCell ⟨g,6,none⟩ v) g x vo v vt N' T:=by
 have hb:w'.heap[g]?=_:=(hg.block g (Array.getElem?_eq_some_iff.1 h.box).1 (λe=>Qs h.nm.2 h.box (by decide) e.symm)).trans h.box;have hs:=Zl w' g 6 v;have ht:=h.tx.kept hg (YB h.tx h.nm (by decide));exact⟨Zk hb 6 v,ho.kept hs (.inr (Z0 ho hb (by decide))),ht.kept hs (.inr (Z0 ht hb (by decide))),Zx (ZbW h.gr hg (λb e=>(h.nm.2.lt b e).1)) hs⟩
theorem WD.txt (h:WD w wr g x vo vn vt N T)(ho:Own ZY 9 1 w' w.heap.size v T'.length T')(hg:wr.grownBy w' vt.ownBlock):WD w (w'.setCell ⟨g,7,none⟩ v) g x vo vn v N T':=by
 have hb:w'.heap[g]?=_:=(hg.block g (Array.getElem?_eq_some_iff.1 h.box).1 (λe=>Qs h.tx.2 h.box (by decide) e.symm)).trans h.box;have hs:=Zl w' g 7 v;have ht:=h.nm.kept hg (YB h.nm h.tx (by decide));exact⟨Zk hb 7 v,ht.kept hs (.inr (Z0 ht hb (by decide))),ho.kept hs (.inr (Z0 ho hb (by decide))),Zx (ZbW h.gr hg (λb e=>(h.tx.2.lt b e).1)) hs⟩
theorem WD.boxN (h:WD w wr g x vo vn vt N T)(hg:wr.grownBy w' vn.ownBlock):w'.heap[g]?=some (.cells #[.string x.fStroke,.int .i64 x.fStakes,.slice x.A x.n x.c,.slice x.A' x.n' x.c',.string x.fLog,vo,vn,vt] 81 (0,0)) :=
 (hg.block g (Array.getElem?_eq_some_iff.1 h.box).1 (λe=>Qs h.nm.2 h.box (by decide) e.symm)).trans h.box
theorem WD.boxT (h:WD w wr g x vo vn vt N T)(hg:wr.grownBy w' vt.ownBlock):w'.heap[g]?=some (.cells #[.string x.fStroke,.int .i64 x.fStakes,.slice x.A x.n x.c,.slice x.A' x.n' x.c',.string x.fLog,vo,vn,vt] 81 (0,0)) :=
 (hg.block g (Array.getElem?_eq_some_iff.1 h.box).1 (λe=>Qs h.tx.2 h.box (by decide) e.symm)).trans h.box
theorem WD.start (hbx:w.heap[g]?=some (.cells #[.string x.fStroke,.int .i64 x.fStakes,.slice x.A x.n x.c,.slice x.A' x.n' x.c',.string x.fLog,vo,v0,v1] 81 (0,0))) :
  WD w ((((w.alloc (.cells #[] 2)).setCell ⟨g,6,none⟩ (.slice (some ⟨w.heap.size,0,none⟩) 0 0)).alloc (.cells #[] 9)).setCell ⟨g,7,none⟩ (.slice (some ⟨w.heap.size+1,0,none⟩) 0 0)) g x vo (.slice (some ⟨w.heap.size,0,none⟩) 0 0) (.slice (some ⟨w.heap.size+1,0,none⟩) 0 0) [] []:=by
 have o1:=Own.none_made (cells:=ZB) (e:=2) (s:=1) (base:=w.heap.size) w (Nat.le_refl _);have a1:Below w.heap.size w (w.alloc (.cells #[] 2)):=(Below.refl _ _).alloc (Nat.le_refl _) _;have b1:=Ze hbx a1;have b2:=Zk b1 6 (.slice (some ⟨w.heap.size,0,none⟩) 0 0);have s1:=Zl (w.alloc (.cells #[] 2)) g 6 (.slice (some ⟨w.heap.size,0,none⟩) 0 0);have o2:=o1.kept s1 (.inr (Z0 o1 b1 (by decide)));obtain⟨W2,hW2⟩:∃W2,W2=(w.alloc (.cells #[] 2)).setCell ⟨g,6,none⟩ (.slice (some ⟨w.heap.size,0,none⟩) 0 0):=⟨_,rfl⟩;have z2:W2.heap.size=w.heap.size+1:=by rw[hW2];simp[World.setCell]
 have g2:w.grownBy W2 (some g):=by rw[hW2];exact Zx (Zd a1) s1
 rw[←hW2] at b2 o2 ⊢;have a3:Below W2.heap.size W2 (W2.alloc (.cells #[] 9)):=(Below.refl _ _).alloc (Nat.le_refl _) _;have b3:=Ze b2 a3;have o3:=Own.none_made (cells:=ZY) (e:=9) (s:=1) (base:=w.heap.size) W2 (by omega);have o4:=o2.below a3;rw[z2] at o3;have s3:=Zl (W2.alloc (.cells #[] 9)) g 7 (.slice (some ⟨w.heap.size+1,0,none⟩) 0 0);exact⟨Zk b3 7 _,o4.kept s3 (.inr (Z0 o4 b3 (by decide))),o3.kept s3 (.inr (Z0 o3 b3 (by decide))),Zx (Zx g2 (Zd a3)) s3⟩
theorem WD.sg (h:WD w wr g x vo vn vt N T)(hs:SG R w base g x O vo v0 v1):SG R wr base g x O vo vn vt :=
 ⟨h.box,hs.dv.ty h.gr (λb e=>by cases e;exact⟨_,_,hs.box,by decide,by decide⟩),hs.out.ty h.gr (λb e=>by cases e;exact⟨_,_,hs.box,by decide⟩),hs.hg,hs.pr.ty h.gr (λb e=>by cases e;exact⟨_,_,hs.box,by decide⟩),hs.ap⟩
end
theorem ZkB (s:ByteArray) : -1000000000000000000<=rdI s/\rdI s<=1000000000000000000:=Qw _
theorem ZhF {p:ByteArray→Bool}{a b:List ByteArray}(h:a.all p=true)(y:ByteArray)(hy:p y=true)(e:b=a++[y]):b.all p=true:=by
 rw[e,List.all_append,h];simp[hy]
theorem UK (w:World)(base g:Nat)(x:DeskV)(O:List ByteArray)(vo v0 v1:Value)(F:ByteArray)(Aw:Option Addr)(n cw:Nat)(ws:List ByteArray)(B:Nat)(hs:SG R w base g x O vo v0 v1)
  (hw:Own ZY 9 1 w B (.slice Aw n cw) n ws) (hF:F.size+1<=n) (hFc:∀k,k<F.size→fch F k=110\/fch F k=108\/fch F k=114\/fch F k=120) (hnb:(nmUp F ws F.size).length<=1048576) (hn:n<=1048577) (hsz:∀y∈ws,y.size<=1048576) (hF3:F.size<=3) :
  Calls Tryz.prog 92 #[.pointer (some ⟨g,0,none⟩),.slice Aw n cw,.string F] w λe w'=>e = .returned (.bool ((nmUp F ws F.size).all rdB))/\∃vn vt,((nmUp F ws F.size).all rdB=true→WD w w' g x vo vn vt ((nmUp F ws F.size).map rdI) (WF F ws F.size))/\SG R w' base g x O vo vn vt/\Below base w w':=by
 have hS:=Za hs;have hWo:=Za hw;have hwl:=Za hw.len;have hFch:=Za hFc;have hszh:=Za hsz;have hW0:=Za (WD.start hs.box);have hbg:=Za hs.hg;have hbw:=Za hs.bw;obtain⟨c0,c1,c2,c3,c4,c5,c6,c7,cf⟩:=ZL hs.box;have hlow:Hid (∀W,w.grownBy W (some g)→Below base w W):=Za (λW h=>(Below.refl base w).grown h hbw.out (λk e=>by cases e;exact hbg.out));have hrow:Hid (∀W,w.grownBy W (some g)→Own ZY 9 1 W B (.slice Aw n cw) n ws):=Za (λW h=>hWo.out.ty h (λb e=>by cases e;exact⟨_,_,hS.out.box,by decide⟩));obtain⟨NF,hNF⟩:∃NF,NF=nmUp F ws F.size:=⟨_,rfl⟩;have hNFh:=Za hNF;rw[←hNF] at hnb ⊢;have cfA:∀j,(w.alloc (.cells #[] 2)).frozen? ⟨g,j,none⟩=false :=
  (ZL (Ze hs.box ((Below.refl w.heap.size w).alloc (Nat.le_refl _) _))).2.2.2.2.2.2.2.2
 have cfB:∀j,(((w.alloc (.cells #[] 2)).setCell ⟨g,6,none⟩ (.slice (some ⟨w.heap.size,0,none⟩) 0 0)).alloc (.cells #[] 9)).frozen? ⟨g,j,none⟩=false :=
  (ZL (Ze (Zk (Ze hs.box ((Below.refl w.heap.size w).alloc (Nat.le_refl _) _)) 6 _) ((Below.refl _ _).alloc (Nat.le_refl _) _))).2.2.2.2.2.2.2.2
 have cA:(w.alloc (.cells #[] 2)).cell? ⟨g,6,none⟩=some v0 :=
  (ZL (Ze hs.box ((Below.refl w.heap.size w).alloc (Nat.le_refl _) _))).2.2.2.2.2.2.1
 have cB:(((w.alloc (.cells #[] 2)).setCell ⟨g,6,none⟩ (.slice (some ⟨w.heap.size,0,none⟩) 0 0)).alloc (.cells #[] 9)).cell? ⟨g,7,none⟩=some v1 :=
  (ZL (Ze (Zk (Ze hs.box ((Below.refl w.heap.size w).alloc (Nat.le_refl _) _)) 6 _) ((Below.refl _ _).alloc (Nat.le_refl _) _))).2.2.2.2.2.2.2.1
 clear hs hw hFc hsz hNF;go_enter Tryz.func92,Tryz.ntmps92;go_upto_region 3 with fail
 refine QH (φ:=λW=>WD w W g x vo (.slice (some ⟨w.heap.size,0,none⟩) 0 0) (.slice (some ⟨w.heap.size+1,0,none⟩) 0 0) [] []) hW0.out ?_;rintro W1 n0;have hD0:=Za n0;clear n0 hW0 c0 c1 c2 c3 c4 c5 c6 c7 cf cfA cfB cA cB;go_wp2
 go_loopw [7] (λi wr=>∃(k:Nat) (vn vt:Value),k<=F.size/\i = .int .i64 (k:Int)/\WD w wr g x vo vn vt ((nmUp F ws k).map rdI) (WF F ws k)/\Hid ((nmUp F ws k).all rdB=true)) (λi _=>F.size-(intOf i).toNat)
 case atStart=>exact⟨0,_,_,Nat.zero_le _,rfl,hD0.out,Za rfl⟩
 case round =>
  obtain⟨k,vn,vt,hk,rfl,hd,hall⟩:=hrel;have hD:=Za hd;clear hd hD0;by_cases hkF:k<F.size
  ·have hki:(k:Int)<(F.size:Int):=by omega
   have hk0:(0:Int)<=(k:Int):=by omega
   have hch:=hFch.out k hkF;rw[Je hkF] at hch;have htl:(WF F ws k).length<=k:=by
    have key:∀k,(WF F ws k).length<=k:=by
     intro k
     induction k with
     | zero=>exact Nat.le_refl _
     | succ k ih =>
      show(WF F ws k++_).length<=_
      rw[List.length_append];split<;>simp<;>omega
    exact key k
   rcases hch with hch|hch|hch|hch
   ·have hcl:Zi8 (fch F k)=true/\V7 F ws k=k+2:=by
     unfold V7;rw[Je hkF,hch];exact⟨rfl,rfl⟩
    have q1:((F[k].toNat:Int)==114)=false:=by rw[hch];rfl
    have q2:((F[k].toNat:Int)==108)=false:=by rw[hch];rfl
    have q3:((F[k].toNat:Int)==110)=true:=by rw[hch];rfl
    have hnx:=Za (Zi3 (F:=F) (ws:=ws) (k:=k) hcl.1);have hsg:Hid (U0 F ws k=segT ws k (k+2)):=Za (by unfold U0;rw[hcl.2]);clear hch hcl;have hmono:Hid (∀p,p<=(k+2)→(nmUp F ws k++segT ws k p).length<=1048576/\∀p y,p+1<=(k+2)→ws[p]?=some y→k+1<=p→rdB y=false→NF.all rdB=false):=Za (by
     obtain⟨r,hr⟩:=ZgE F ws (i:=k+1) (j:=F.size) (by omega);intro p hp;refine⟨?_,λp y hp hy hkp hf=>?_⟩
     ·obtain⟨r2,hr2⟩:=Un ws k hp
      have h1:=hnx.out.1;rw[hsg.out,hr2] at h1;rw[hNFh.out,hr,h1] at hnb;simp only[List.length_append] at hnb ⊢;omega
     ·obtain⟨r2,hr2⟩:=Un ws k hp
      have h1:=hnx.out.1;rw[hsg.out,hr2,Xo hkp hy] at h1;rw[hNFh.out,hr,h1];simp[List.all_append,hf])
    go_upto_region 11 with fail
    obtain⟨wo,hwo⟩:∃wo:World,wo=wr:=⟨_,rfl⟩;rw[←hwo] at hD ⊢;clear hwo;go_loopw [9] (λkk wx=>∃(p:Nat) (vn:Value),k+1<=p/\p<=(k+2)/\kk = .int .i64 (p:Int)/\WD w wx g x vo vn vt ((nmUp F ws k++segT ws k p).map rdI) (WF F ws k)/\Hid ((nmUp F ws k++segT ws k p).all rdB=true)) (λkk _=>(k+2)-(intOf kk).toNat)
    case atStart=>exact⟨k+1,vn,by omega,by omega,by go_num,by rw[XB,List.append_nil];exact hD.out,Za (by rw[XB,List.append_nil];exact hall.out)⟩
    case round =>
     clear hD;obtain⟨p,vn,hp1,hp2,rfl,hd,hall2⟩:=hrel;have hD:=Za hd;clear hd;by_cases hpl:p<(k+2)
     ·have hpi:(p:Int)<(k:Int)+2:=by omega
      have hp0:(0:Int)<=(p:Int):=by omega
      have hpn:p<n:=by omega
      have hpni:(p:Int)<(n:Int):=by omega
      obtain⟨bw,ow,y,hAw,_,hy,cy⟩:=((hrow.out _ hD.out.gr).arr Zf).str hpn;subst hAw;have hys:=hszh.out y (List.mem_of_getElem? hy);have hym:y.size<=maxLen:=by unfold maxLen;omega
      have hrd:=Za (λW=>ZN y W hym);have hsn:=Za (Xo hp1 hy);have hln:=(hmono.out p hp2).1;have hbad:=Za (λh=>(hmono.out p hp2).2 p y (by omega) hy hp1 h);obtain⟨z,hz⟩:∃z,z=rdNum y.data.toList:=⟨_,rfl⟩;have hzI:Hid (rdI y=z):=Za hz.symm;rw[←hz] at hrd;clear hz hy;cases hok:Yt y.data.toList
      ·have hfin:=Za (hbad.out hok)
       rw[hok] at hrd;clear hok;go_wp2_with fail
       refine(hrd.out _).mono ?_;rintro e w4 ⟨rfl,hb4⟩;have hD4:=Za (hD.out.below hb4);clear hb4;go_wp2
       go_ret;exact⟨by rw[hfin.out];rfl,vn,vt,(λh=>by rw[hfin.out] at h;cases h),hD4.out.sg hS.out,hlow.out _ hD4.out.gr⟩
      ·rw[hok] at hrd
       have hgood:=Za (ZhF hall2.out y hok (b:=nmUp F ws k++segT ws k (p+1)) (by rw[hsn.out,List.append_assoc]));have hmap:Hid ((nmUp F ws k++segT ws k (p+1)).map rdI=(nmUp F ws k++segT ws k p).map rdI++[z]):=Za (by rw[hsn.out,←List.append_assoc,List.map_append];show _++[rdI y]=_;rw[hzI.out]);have hln2:((nmUp F ws k++segT ws k p).map rdI).length<=1048576:=by rw[List.length_map];exact hln
       clear hok hln;go_wp2_with fail
       refine(hrd.out _).mono ?_;rintro e w4 ⟨rfl,hb4⟩;have hD4:=Za (hD.out.below hb4);obtain⟨c0,c1,c2,c3,c4,c5,c6,c7,cf⟩:=ZL hD4.out.box;have hsw:Hid (w.heap.size<=w4.heap.size):=Za hD4.out.gr.size;clear hb4 cy;go_wp2_with (at_builtin;refine Zp w4.heap.size rfl rfl (.tmp 73) (.tmp 75) rfl Tryz.underlying60 Zz rfl (by omega) (by omega) Zh ZJ rfl hD4.out.nm z _ rfl rfl hln2 hsw.out ?_;intro v5 w5 ho5 hg5 _;obtain⟨A5,d5,rfl,_⟩:=ho5.slice;have hb5:=hD4.out.boxN hg5;have e6:=(ZL hb5).2.2.2.2.2.2.1;have ef:=(ZL hb5).2.2.2.2.2.2.2.2;have hO5:=Za ho5;have hg5h:=Za hg5;clear ho5 hg5 hb5)
       go_roundw
       case rel=>exact⟨p+1,_,by omega,by omega,by go_num,by rw[hmap.out];exact hD4.out.num (by have h:=hO5.out;simp only[List.length_append,List.length_map,List.length_cons,List.length_nil,Nat.zero_add] at h ⊢;exact h) hg5h.out,hgood⟩
       case measure=>simp[intOf];omega
     ·have hpe:p=(k+2):=by omega
      have hpi:¬(p:Int)<(k:Int)+2:=by omega
      have hfin:Hid (nmUp F ws k++segT ws k p=nmUp F ws (k+1)):=Za (by rw[hnx.out.1,hsg.out,hpe]);clear hpe;go_wp2
      go_roundw
      case rel=>exact⟨k+1,vn,vt,by omega,by go_num,by rw[←hfin.out,hnx.out.2];exact hD.out,by rw[←hfin.out];exact hall2⟩
      case measure=>simp[intOf];omega
   ·have hcl:Zi8 (fch F k)=true/\V7 F ws k=n:=by
     unfold V7;rw[Je hkF,hch];exact⟨rfl,hwl.out⟩
    have q1:((F[k].toNat:Int)==114)=false:=by rw[hch];rfl
    have q2:((F[k].toNat:Int)==108)=true:=by rw[hch];rfl
    have q3:((F[k].toNat:Int)==110)=false:=by rw[hch];rfl
    have hnx:=Za (Zi3 (F:=F) (ws:=ws) (k:=k) hcl.1);have hsg:Hid (U0 F ws k=segT ws k n):=Za (by unfold U0;rw[hcl.2]);clear hch hcl;have hmono:Hid (∀p,p<=n→(nmUp F ws k++segT ws k p).length<=1048576/\∀p y,p+1<=n→ws[p]?=some y→k+1<=p→rdB y=false→NF.all rdB=false):=Za (by
     obtain⟨r,hr⟩:=ZgE F ws (i:=k+1) (j:=F.size) (by omega);intro p hp;refine⟨?_,λp y hp hy hkp hf=>?_⟩
     ·obtain⟨r2,hr2⟩:=Un ws k hp
      have h1:=hnx.out.1;rw[hsg.out,hr2] at h1;rw[hNFh.out,hr,h1] at hnb;simp only[List.length_append] at hnb ⊢;omega
     ·obtain⟨r2,hr2⟩:=Un ws k hp
      have h1:=hnx.out.1;rw[hsg.out,hr2,Xo hkp hy] at h1;rw[hNFh.out,hr,h1];simp[List.all_append,hf])
    go_upto_region 11 with fail
    obtain⟨wo,hwo⟩:∃wo:World,wo=wr:=⟨_,rfl⟩;rw[←hwo] at hD ⊢;clear hwo;go_loopw [9] (λkk wx=>∃(p:Nat) (vn:Value),k+1<=p/\p<=n/\kk = .int .i64 (p:Int)/\WD w wx g x vo vn vt ((nmUp F ws k++segT ws k p).map rdI) (WF F ws k)/\Hid ((nmUp F ws k++segT ws k p).all rdB=true)) (λkk _=>n-(intOf kk).toNat)
    case atStart=>exact⟨k+1,vn,by omega,by omega,by go_num,by rw[XB,List.append_nil];exact hD.out,Za (by rw[XB,List.append_nil];exact hall.out)⟩
    case round =>
     clear hD;obtain⟨p,vn,hp1,hp2,rfl,hd,hall2⟩:=hrel;have hD:=Za hd;clear hd;by_cases hpl:p<n
     ·have hpi:(p:Int)<(n:Int):=by omega
      have hp0:(0:Int)<=(p:Int):=by omega
      have hpn:p<n:=by omega
      have hpni:(p:Int)<(n:Int):=by omega
      obtain⟨bw,ow,y,hAw,_,hy,cy⟩:=((hrow.out _ hD.out.gr).arr Zf).str hpn;subst hAw;have hys:=hszh.out y (List.mem_of_getElem? hy);have hym:y.size<=maxLen:=by unfold maxLen;omega
      have hrd:=Za (λW=>ZN y W hym);have hsn:=Za (Xo hp1 hy);have hln:=(hmono.out p hp2).1;have hbad:=Za (λh=>(hmono.out p hp2).2 p y (by omega) hy hp1 h);obtain⟨z,hz⟩:∃z,z=rdNum y.data.toList:=⟨_,rfl⟩;have hzI:Hid (rdI y=z):=Za hz.symm;rw[←hz] at hrd;clear hz hy;cases hok:Yt y.data.toList
      ·have hfin:=Za (hbad.out hok)
       rw[hok] at hrd;clear hok;go_wp2_with fail
       refine(hrd.out _).mono ?_;rintro e w4 ⟨rfl,hb4⟩;have hD4:=Za (hD.out.below hb4);clear hb4;go_wp2
       go_ret;exact⟨by rw[hfin.out];rfl,vn,vt,(λh=>by rw[hfin.out] at h;cases h),hD4.out.sg hS.out,hlow.out _ hD4.out.gr⟩
      ·rw[hok] at hrd
       have hgood:=Za (ZhF hall2.out y hok (b:=nmUp F ws k++segT ws k (p+1)) (by rw[hsn.out,List.append_assoc]));have hmap:Hid ((nmUp F ws k++segT ws k (p+1)).map rdI=(nmUp F ws k++segT ws k p).map rdI++[z]):=Za (by rw[hsn.out,←List.append_assoc,List.map_append];show _++[rdI y]=_;rw[hzI.out]);have hln2:((nmUp F ws k++segT ws k p).map rdI).length<=1048576:=by rw[List.length_map];exact hln
       clear hok hln;go_wp2_with fail
       refine(hrd.out _).mono ?_;rintro e w4 ⟨rfl,hb4⟩;have hD4:=Za (hD.out.below hb4);obtain⟨c0,c1,c2,c3,c4,c5,c6,c7,cf⟩:=ZL hD4.out.box;have hsw:Hid (w.heap.size<=w4.heap.size):=Za hD4.out.gr.size;clear hb4 cy;go_wp2_with (at_builtin;refine Zp w4.heap.size rfl rfl (.tmp 73) (.tmp 75) rfl Tryz.underlying60 Zz rfl (by omega) (by omega) Zh ZJ rfl hD4.out.nm z _ rfl rfl hln2 hsw.out ?_;intro v5 w5 ho5 hg5 _;obtain⟨A5,d5,rfl,_⟩:=ho5.slice;have hb5:=hD4.out.boxN hg5;have e6:=(ZL hb5).2.2.2.2.2.2.1;have ef:=(ZL hb5).2.2.2.2.2.2.2.2;have hO5:=Za ho5;have hg5h:=Za hg5;clear ho5 hg5 hb5)
       go_roundw
       case rel=>exact⟨p+1,_,by omega,by omega,by go_num,by rw[hmap.out];exact hD4.out.num (by have h:=hO5.out;simp only[List.length_append,List.length_map,List.length_cons,List.length_nil,Nat.zero_add] at h ⊢;exact h) hg5h.out,hgood⟩
       case measure=>simp[intOf];omega
     ·have hpe:p=n:=by omega
      have hpi:¬(p:Int)<(n:Int):=by omega
      have hfin:Hid (nmUp F ws k++segT ws k p=nmUp F ws (k+1)):=Za (by rw[hnx.out.1,hsg.out,hpe]);clear hpe;go_wp2
      go_roundw
      case rel=>exact⟨k+1,vn,vt,by omega,by go_num,by rw[←hfin.out,hnx.out.2];exact hD.out,by rw[←hfin.out];exact hall2⟩
      case measure=>simp[intOf];omega
   ·have hcl:Zi8 (fch F k)=false/\V7 F ws k=n:=by
     unfold V7;rw[Je hkF,hch];exact⟨rfl,hwl.out⟩
    have q1:((F[k].toNat:Int)==114)=true:=by rw[hch];rfl
    have q2:((F[k].toNat:Int)==108)=false:=by rw[hch];rfl
    have q3:((F[k].toNat:Int)==110)=false:=by rw[hch];rfl
    have hnx:=Za (Zki (F:=F) (ws:=ws) (k:=k) hcl.1);have hsg:Hid (U0 F ws k=segT ws k n):=Za (by unfold U0;rw[hcl.2]);clear hch hcl;have hkn:k+1<n:=by omega
    have hkni:(k:Int)+1<(n:Int):=by omega
    have hk1:(0:Int)<=(k:Int)+1:=by omega
    have hkt:((k:Int)+1).toNat=k+1:=by omega
    obtain⟨bw,ow,y0,hAw,_,hy0,cy0⟩:=((hrow.out _ hD.out.gr).arr Zf).str hkn;subst hAw;have hs0:Hid (segT ws k (k+2)=[y0]):=Za (by rw[Xo (Nat.le_refl _) hy0,XB];rfl);clear hy0;go_upto_region 19 with fail
    clear cy0;obtain⟨wo,hwo⟩:∃wo:World,wo=wr:=⟨_,rfl⟩;rw[←hwo] at hD ⊢;clear hwo;go_loopw [12,13] (λre kk wx=>∃p:Nat,k+2<=p/\p<=n/\kk = .int .i64 (p:Int)/\re = .string (joinSp (segT ws k p))/\WD w wx g x vo vn vt ((nmUp F ws k).map rdI) (WF F ws k)) (λ_ kk _=>n-(intOf kk).toNat)
    case atStart=>exact⟨k+2,by omega,by omega,by go_num,by rw[hs0.out,Vj],hD.out⟩
    case round =>
     clear hD;obtain⟨p,hp1,hp2,rfl,rfl,hd⟩:=hrel;have hD:=Za hd;clear hd;obtain⟨P,hP⟩:∃P,P=joinSp (segT ws k p):=⟨_,rfl⟩;have hPh:=Za hP;rw[←hP];by_cases hpl:p<n
     ·have hpi:(p:Int)<(n:Int):=by omega
      have hp0:(0:Int)<=(p:Int):=by omega
      have hpn:p<n:=by omega
      have hpni:(p:Int)<(n:Int):=by omega
      obtain⟨_,_,y,hAw,_,hy,cy⟩:=((hrow.out _ hD.out.gr).arr Zf).str hpn;cases hAw
      have hys:=hszh.out y (List.mem_of_getElem? hy);have hsn:=Za (Xo (k:=k) (by omega:k+1<=p) hy);have hne:segT ws k p≠[]:=by
       obtain⟨r,hr⟩:=Un ws k hp1;rw[hr,hs0.out];simp
      have hjn:Hid (joinSp (segT ws k (p+1))=P++((⟨#[32]⟩:ByteArray)++y)):=Za (by rw[hsn.out,QU hne,hP]);have hPs:P.size<=1048577*1048577:=by
       rw[hP];have h1:=QV (M:=1048576) (l:=segT ws k p) (λz hz=>hszh.out z (List.mem_of_mem_take (List.mem_of_mem_drop hz)));have h2:(segT ws k p).length<=1048577:=by unfold segT;rw[List.length_drop,List.length_take];omega
       exact Nat.le_trans h1 (Nat.mul_le_mul_left _ h2)
      have l1:(⟨#[32]⟩:ByteArray).size=1:=rfl;have hc1:=Zr (⟨#[32]⟩:ByteArray) y (by omega);have hc2:=Zr P ((⟨#[32]⟩:ByteArray)++y) (by rw[ByteArray.size_append];omega);clear hP hy hne l1;go_wp2
      go_roundw
      case rel=>exact⟨p+1,by omega,by omega,by go_num,by rw[hjn.out],hD.out⟩
      case measure=>simp[intOf];omega
     ·have hpe:p=n:=by omega
      have hpi:¬(p:Int)<(n:Int):=by omega
      have hfin:Hid (WF F ws (k+1)=WF F ws k++[P]):=Za (by rw[hnx.out.2,hsg.out,hP,hpe]);have hsw:Hid (w.heap.size<=wr.heap.size):=Za hD.out.gr.size;obtain⟨c0,c1,c2,c3,c4,c5,c6,c7,cf⟩:=ZL hD.out.box;clear hpe hP;go_wp2_with (at_builtin;refine Zp wr.heap.size rfl rfl (.tmp 102) (.tmp 104) rfl Tryz.underlying24 Wa rfl (by omega) (by omega) Zf YJ rfl hD.out.tx P _ rfl rfl (by omega) hsw.out ?_;intro v5 w5 ho5 hg5 _;obtain⟨A5,d5,rfl,_⟩:=ho5.slice;have hb5:=hD.out.boxT hg5;have e7:=(ZL hb5).2.2.2.2.2.2.2.1;have ef:=(ZL hb5).2.2.2.2.2.2.2.2;have hO5:=Za ho5;have hg5h:=Za hg5;clear ho5 hg5 hb5)
      go_roundw
      case rel=>exact⟨k+1,vn,_,by omega,by go_num,by rw[hnx.out.1,hfin.out];exact hD.out.txt (by rw[List.length_append];exact hO5.out) hg5h.out,by rw[hnx.out.1];exact hall⟩
      case measure=>simp[intOf];omega
   ·have hcl:Zi8 (fch F k)=false/\V7 F ws k=k+2:=by
     unfold V7;rw[Je hkF,hch];exact⟨rfl,rfl⟩
    have q1:((F[k].toNat:Int)==114)=false:=by rw[hch];rfl
    have q2:((F[k].toNat:Int)==108)=false:=by rw[hch];rfl
    have q3:((F[k].toNat:Int)==110)=false:=by rw[hch];rfl
    have hnx:=Za (Zki (F:=F) (ws:=ws) (k:=k) hcl.1);have hsg:Hid (U0 F ws k=segT ws k (k+2)):=Za (by unfold U0;rw[hcl.2]);clear hch hcl;have hkn:k+1<n:=by omega
    have hkni:(k:Int)+1<(n:Int):=by omega
    have hk1:(0:Int)<=(k:Int)+1:=by omega
    have hkt:((k:Int)+1).toNat=k+1:=by omega
    obtain⟨bw,ow,y0,hAw,_,hy0,cy0⟩:=((hrow.out _ hD.out.gr).arr Zf).str hkn;subst hAw;have hs0:Hid (segT ws k (k+2)=[y0]):=Za (by rw[Xo (Nat.le_refl _) hy0,XB];rfl);clear hy0;go_upto_region 19 with fail
    clear cy0;obtain⟨wo,hwo⟩:∃wo:World,wo=wr:=⟨_,rfl⟩;rw[←hwo] at hD ⊢;clear hwo;go_loopw [12,13] (λre kk wx=>∃p:Nat,k+2<=p/\p<=(k+2)/\kk = .int .i64 (p:Int)/\re = .string (joinSp (segT ws k p))/\WD w wx g x vo vn vt ((nmUp F ws k).map rdI) (WF F ws k)) (λ_ kk _=>(k+2)-(intOf kk).toNat)
    case atStart=>exact⟨k+2,by omega,by omega,by go_num,by rw[hs0.out,Vj],hD.out⟩
    case round =>
     clear hD;obtain⟨p,hp1,hp2,rfl,rfl,hd⟩:=hrel;have hD:=Za hd;clear hd;obtain⟨P,hP⟩:∃P,P=joinSp (segT ws k p):=⟨_,rfl⟩;have hPh:=Za hP;rw[←hP];by_cases hpl:p<(k+2)
     ·have hpi:(p:Int)<(k:Int)+2:=by omega
      have hp0:(0:Int)<=(p:Int):=by omega
      have hpn:p<n:=by omega
      have hpni:(p:Int)<(n:Int):=by omega
      obtain⟨_,_,y,hAw,_,hy,cy⟩:=((hrow.out _ hD.out.gr).arr Zf).str hpn;cases hAw
      have hys:=hszh.out y (List.mem_of_getElem? hy);have hsn:=Za (Xo (k:=k) (by omega:k+1<=p) hy);have hne:segT ws k p≠[]:=by
       obtain⟨r,hr⟩:=Un ws k hp1;rw[hr,hs0.out];simp
      have hjn:Hid (joinSp (segT ws k (p+1))=P++((⟨#[32]⟩:ByteArray)++y)):=Za (by rw[hsn.out,QU hne,hP]);have hPs:P.size<=1048577*1048577:=by
       rw[hP];have h1:=QV (M:=1048576) (l:=segT ws k p) (λz hz=>hszh.out z (List.mem_of_mem_take (List.mem_of_mem_drop hz)));have h2:(segT ws k p).length<=1048577:=by unfold segT;rw[List.length_drop,List.length_take];omega
       exact Nat.le_trans h1 (Nat.mul_le_mul_left _ h2)
      have l1:(⟨#[32]⟩:ByteArray).size=1:=rfl;have hc1:=Zr (⟨#[32]⟩:ByteArray) y (by omega);have hc2:=Zr P ((⟨#[32]⟩:ByteArray)++y) (by rw[ByteArray.size_append];omega);clear hP hy hne l1;go_wp2
      go_roundw
      case rel=>exact⟨p+1,by omega,by omega,by go_num,by rw[hjn.out],hD.out⟩
      case measure=>simp[intOf];omega
     ·have hpe:p=(k+2):=by omega
      have hpi:¬(p:Int)<(k:Int)+2:=by omega
      have hfin:Hid (WF F ws (k+1)=WF F ws k++[P]):=Za (by rw[hnx.out.2,hsg.out,hP,hpe]);have hsw:Hid (w.heap.size<=wr.heap.size):=Za hD.out.gr.size;obtain⟨c0,c1,c2,c3,c4,c5,c6,c7,cf⟩:=ZL hD.out.box;clear hpe hP;go_wp2_with (at_builtin;refine Zp wr.heap.size rfl rfl (.tmp 102) (.tmp 104) rfl Tryz.underlying24 Wa rfl (by omega) (by omega) Zf YJ rfl hD.out.tx P _ rfl rfl (by omega) hsw.out ?_;intro v5 w5 ho5 hg5 _;obtain⟨A5,d5,rfl,_⟩:=ho5.slice;have hb5:=hD.out.boxT hg5;have e7:=(ZL hb5).2.2.2.2.2.2.2.1;have ef:=(ZL hb5).2.2.2.2.2.2.2.2;have hO5:=Za ho5;have hg5h:=Za hg5;clear ho5 hg5 hb5)
      go_roundw
      case rel=>exact⟨k+1,vn,_,by omega,by go_num,by rw[hnx.out.1,hfin.out];exact hD.out.txt (by rw[List.length_append];exact hO5.out) hg5h.out,by rw[hnx.out.1];exact hall⟩
      case measure=>simp[intOf];omega
  ·have hke:k=F.size:=by omega
   have hki:¬(k:Int)<(F.size:Int):=by omega
   have hfin:Hid (NF.all rdB=true):=Za (by rw[hNFh.out,←hke];exact hall.out);have hD5:Hid (WD w wr g x vo vn vt (NF.map rdI) (WF F ws F.size)):=Za (by rw[hNFh.out,←hke];exact hD.out);clear hke;go_wp2
   go_ret;exact⟨by rw[hfin.out];rfl,vn,vt,λ_=>hD5.out,hD5.out.sg hS.out,hlow.out _ hD5.out.gr⟩
end
end Go.Proofs.YtfpaejlipaainaaGreatDoor
