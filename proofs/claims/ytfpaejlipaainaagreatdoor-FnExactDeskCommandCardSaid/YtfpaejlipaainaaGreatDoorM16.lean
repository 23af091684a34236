/- Texts that belong together, joined: contracts and plain laws. No statement is proved here. -/
import Derived.Test.YtfpaejlipaainaaGreatDoorM15
import Derived.Lib.Overlaps
import Derived.Lib.AppendZerosOnto
import Derived.Laws.CopyRow
import Derived.Deep.RegionLaw
set_option maxRecDepth 100000
set_option maxHeartbeats 2000000
namespace Go.Proofs.YtfpaejlipaainaaGreatDoor
open Go.ChangeShapes Go.WideShapes Go.ChangeAt Go.RowKit Go.Deep
theorem V1 {P:Program}(w:World)(dT sT ty elem:TypeId)(s g o dLen dCap:Nat)(a:Addr)(sLen sCap:Nat)(cur:Array Value)(t:TypeId)(cs:List Value)(k:Nat)
  (hu:P.underlying dT=some (.slice elem)) (hs:(P.info? elem).map (·.size)=some s)
  (hg:w.heap[g]?=some (.cells cur t (0,0))) (hk:Nat.min sLen dLen=k) (hn:cs.length=k*s)
  (hsrc:∀j v,cs[j]?=some v→w.cell? (a.add j)=some v) (hfit:o+cs.length<=cur.size) (h1:∀v∈cs,v.oneCell'=true) :
  (Builtin.copy_ #[dT,sT] ty #[.slice (some ⟨g,o,none⟩) dLen dCap,.slice (some a) sLen sCap]).run P w =
   .ok (goInt k) (w.setRow g (cur.toList.take o++cs++cur.toList.drop (o+cs.length)).toArray):=by
 have hl:=run_loadCells_list (P:=P) w a cs hsrc;have hst:=run_storeCells_at P g o t cs 0 cur w hg (by simpa using hfit) h1;rw[hn] at hl;cases hq:P.info? elem with
 | none=>simp[hq] at hs
 | some i =>
  have hi:i.size=s:=by simpa[hq] using hs
  simp[Builtin.copy_,run_underlying hu,Builtin.lenOf,Builtin.firstCells,sizeOf,typeInfo,hq,hi,hk,hl,hst]
theorem Jw {P:Program}{w w':World}{ops:Array Oper}{o:Oper}{a:Act}{K:Act→World→Prop}{Q:Exit→Act→World→Prop}{E:Prop}(hgd:o.guard=none)(d s:Operand)(dT sT:TypeId)
  (ho:o.op = .call { callee:=.builtin .copy,args:=#[d,s],argTypes:=#[dT,sT] }) {v u r:Value} (hd:a.eval d=v) (hs:a.eval s=u)
  (hr:(Builtin.copy_ #[dT,sT] o.type #[v,u]).run P w = .ok r w') (h:K (a.put o.dst r) w'):if Region.wanted o (yielded ops a.tmps)=true then Oper.wp P o a w K Q else E:=by
 have hw:Region.wanted o (yielded ops a.tmps)=true:=by simp[Region.wanted,hgd]
 rw[if_pos hw];unfold Oper.wp;simp[execOp,ho,resolve,invoke,builtin,hd,hs,hr,Result.andThen];exact h
theorem Zjh {P:Program}{w w':World}{ops:Array Oper}{rest:List Oper}{o:Oper}{a:Act}{Q:Exit→Act→World→Prop}(hgd:o.guard=none)(d s:Operand)(dT sT:TypeId)
  (ho:o.op = .call { callee:=.builtin .append,args:=#[d,s],argTypes:=#[dT,sT] }) {v u r:Value} (hd:a.eval d=v) (hs:a.eval s=u)
  (hr:(Builtin.append_ #[dT,sT] o.type #[v,u]).run P w = .ok r w') (h:wpList P ops Q rest (a.put o.dst r) w'):wpList P ops Q (o :: rest) a w:=by
 refine wpList_plain hgd λK hK=>?_
 unfold Oper.wp;simp[execOp,ho,resolve,invoke,builtin,hd,hs,hr,Result.andThen];exact hK _ _ h
theorem JY {a b c:World}{row:Option Nat}(h:a.grownBy b row)(h':b.grownBy c row):a.grownBy c row :=
 ⟨h'.os.trans h.os,h'.tape.trans h.tape,h'.output.trans h.output,Nat.le_trans h.size h'.size,λk hk hne=>(h'.block k (Nat.lt_of_lt_of_le hk h.size) hne).trans (h.block k hk hne)⟩
theorem ZbX (w:World)(k:Nat)(row:Option Nat):w.grownBy (w.drewN k) row:=by
 have hb:=Zb (Below.refl w.heap.size w) k;exact⟨hb.os,hb.tape,hb.output,hb.size,λi hi _=>hb.block i hi⟩
theorem UX (w:World)(g:Nat)(cs:Array Value):w.grownBy (w.setRow g cs) (some g) :=
 ⟨rfl,rfl,rfl,by simp[World.setRow],λk _ hne=>setRow_other w g k cs (λe=>hne (by rw[e]))⟩
def Ins (w:World)(base:Nat)(V:Value)(n:Nat)(l:List Heap)(e:Ending)(w':World):Prop:=∃V',e = .returned V'/\Own Heap.cells 106 3 w' base V' n l/\w.grownBy w' V.ownBlock
theorem Zj6 {w:World}{vb:Nat}{x:Heap}(hv:w.heap[vb]?=some (.cells #[.string x.fSort,.int .i64 x.fYear,.int .i64 x.fBundles] 106 (0,0))):Arr Heap.cells 3 w w.heap.size (some ⟨vb,0,none⟩) 1 [x]:=by
 refine⟨rfl,λ_=>⟨_,_,rfl,(Array.getElem?_eq_some_iff.1 hv).1,λi y hy j u hu=>?_⟩⟩;have hi:i=0:=by have:=Zq hy;simp at this;exact this
 subst hi;obtain rfl:x=y:=by simpa using hy
 simp only[Nat.zero_mul,Nat.zero_add];rw[cell_of_row _ _ _ _ _ _ hv];simpa[Heap.cells] using hu
theorem Ze8 (V:Value)(n i:Nat)(l:List Heap)(x:Heap)(vb vc base:Nat)(w:World)(ho:Own Heap.cells 106 3 w base V n l)(hn:n<=100000)(hb:base<=w.heap.size)(hv:w.heap[vb]?=some (.cells #[.string x.fSort,.int .i64 x.fYear,.int .i64 x.fBundles] 106 (0,0)))(hi:i=n) :
  Calls Tryz.prog 179 #[V,.int .i64 i,.slice (some ⟨vb,0,none⟩) 1 vc] w λe w'=>Ins w base V (n+1) (l.take i++x :: l.drop i) e w':=by
 have hO:=Za ho;have hA:=Za (Zj6 hv);have htk:Hid (l.take i++x :: l.drop i=l++[x]):=Za (by rw[List.take_of_length_le (by have:=ho.len;omega),List.drop_eq_nil_of_le (by have:=ho.len;omega)]);obtain⟨A,c,hV,hnc⟩:=ho.slice;have hcm:c<=maxLen:=by
  rcases ho.form with ⟨h1,_⟩|⟨g,cap,h1,_,_,_,h4⟩
  ·rw[hV] at h1;injection h1 with _ _ h3;subst h3;unfold maxLen;omega
  ·rw[hV] at h1;injection h1 with _ _ h3;subst h3;exact h4
 subst hi;clear ho hv;by_cases hci:c=i
 all_goals
  (subst hV
   go_enter Tryz.func179,Tryz.ntmps179;go_wp2_with (at_builtin;refine Z1 rfl (.tmp 23) (.tmp 24) rfl Tryz.underlying27 Zt rfl (by omega) (by omega) Heap.len Heap.one rfl hO.out rfl hA.out (by omega) hb ?_;intro v' w1 ho2 hg2 _;have hO2:=Za ho2;have hG2:=Za hg2;clear ho2 hg2)
   go_ret;exact⟨_,rfl,by rw[htk.out];exact hO2.out,hG2.out⟩)
theorem Zeg {L F1 F2 X:List Value}{a b:Nat}(h1:F1.length=a)(h2:F2.length=b)(hX:X.length=3)(hL:L.take (a+b)=F1++F2)(hl:a+b+3<=L.length) :
  ((L.take (a+3)++F2++L.drop (a+3+F2.length)).take a++X++(L.take (a+3)++F2++L.drop (a+3+F2.length)).drop (a+X.length))=F1++X++F2++L.drop (a+3+b):=by
 have e1:L.take a=F1:=by
  have:=congrArg (List.take a) hL;rw[List.take_take,Nat.min_eq_left (by omega),List.take_left' h1] at this;exact this
 rw[hX,h2];have l1:(L.take (a+3)).length=a+3:=by rw[List.length_take];omega
 rw[List.append_assoc (L.take (a+3)),List.take_append_of_le_length (by omega),List.take_take,Nat.min_eq_left (by omega),e1,List.drop_append_of_le_length (by omega),List.drop_eq_nil_of_le (by omega),List.nil_append];simp[List.append_assoc]
theorem ZdJ {w:World}{base g n c:Nat}{l:List Heap}(h:Own Heap.cells 106 3 w base (.slice (some ⟨g,0,none⟩) n c) n l)(hn:0<n) :
  ∃cur:Array Value,w.heap[g]?=some (.cells cur 106 (0,0))/\cur.size=c*3/\cur.toList.take (n*3)=l.flatMap Heap.cells/\base<=g/\c<=maxLen/\n<=c:=by
 rcases h.2.2 with ⟨h1,h2⟩|⟨g',cap,cur,h1,h2,h3,h4,h5,h6,h7⟩
 ·omega
 ·injection h1 with h8 _ h9
  injection h8 with h8
  injection h8 with h8
  subst h8 h9;exact⟨cur,h3,h6,h7,h2,h5,h4⟩
theorem VV:(Tryz.prog.info? 106).map (·.size)=some 3:=by
 obtain⟨i0,hi0,_,h1,_⟩:=info_parts Zt;rw[hi0];simp[h1]
theorem Zcj:∀w,(Go.sizeOf 106).run Tryz.prog w = .ok 3 w:=by
 intro w;obtain⟨i0,hi0,_,h1,_⟩:=info_parts Zt;simp[sizeOf,typeInfo,hi0,h1]
theorem ZcX (g c:Nat)(V:Value)(n i:Nat)(l:List Heap)(x:Heap)(vb vc base:Nat)(w:World)(ho:Own Heap.cells 106 3 w base V n l)(hn:n<=100000)(_hb:base<=w.heap.size)(hv:w.heap[vb]?=some (.cells #[.string x.fSort,.int .i64 x.fYear,.int .i64 x.fBundles] 106 (0,0)))(hi:i<n)(hV:V = .slice (some ⟨g,0,none⟩) n c)(hroom:n+1<=c)(hne:g≠vb) :
  Calls Tryz.prog 179 #[.slice (some ⟨g,0,none⟩) n c,.int .i64 i,.slice (some ⟨vb,0,none⟩) 1 vc] w λe w'=>Ins w base V (n+1) (l.take i++x :: l.drop i) e w':=by
 subst hV;have hO:=Za ho;obtain⟨cur,hg,hcs,hcl,hbg,hcm,_⟩:=ZdJ ho (by omega);have hll:l.length=n:=ho.len;have hF1:((l.take i).flatMap Heap.cells).length=i*3:=by rw[Yb Heap.len,List.length_take];congr 1;omega
 have hF2:((l.drop i).flatMap Heap.cells).length=(n-i)*3:=by rw[Yb Heap.len,List.length_drop,hll]
 have hFF:l.flatMap Heap.cells=(l.take i).flatMap Heap.cells++(l.drop i).flatMap Heap.cells:=by rw[←List.flatMap_append,List.take_append_drop]
 have hone:∀v∈(l.drop i).flatMap Heap.cells,v.oneCell'=true:=by
  intro v hv;obtain⟨y,_,hy⟩:=List.mem_flatMap.1 hv;exact Heap.one y v hy
 obtain⟨F1,hf1⟩:∃F1,F1=(l.take i).flatMap Heap.cells:=⟨_,rfl⟩;obtain⟨F2,hf2⟩:∃F2,F2=(l.drop i).flatMap Heap.cells:=⟨_,rfl⟩;rw[←hf1] at hF1;rw[←hf2] at hF2 hone;have hres:Hid ((l.take i++x :: l.drop i).flatMap Heap.cells=F1++Heap.cells x++F2):=Za (by rw[List.flatMap_append,List.flatMap_cons,←hf1,←hf2,List.append_assoc]);rw[hFF,←hf1,←hf2] at hcl;have hsrc1:∀j v,F2[j]?=some v→w.cell? ⟨g,i*3+j,none⟩=some v:=by
  intro j v hj;have hjl:=Zq hj;rw[cell_of_row _ _ _ _ _ _ hg,←Array.getElem?_toList];have h3:(cur.toList.take (n*3))[i*3+j]?=some v:=by rw[hcl,List.getElem?_append_right (by omega),hF1,Nat.add_sub_cancel_left];exact hj
  rw[List.getElem?_take,if_pos (by omega)] at h3;exact h3
 have hlt:=(Array.getElem?_eq_some_iff.1 hg).1;have hov:∀lb cb,(callFunc 232 #[.slice (some ⟨vb,0,none⟩) 1 vc,.slice (some ⟨g,(i+1)*3,none⟩) lb cb]).run Tryz.prog w = .ok (.value (.bool false)) w:=λlb cb=>by
  rw[run_callFunc_extern Tryz.func232 (by kernel_rfl) (by kernel_rfl) (by kernel_rfl) (e:=Extern.SlicesOverlaps.overlaps #[27,27] #[4]) (by kernel_rfl),
   Lib.run_overlaps_apart w 27 4 106 Tryz.underlying27 3 Zcj ⟨vb,0,none⟩ ⟨g,(i+1)*3,none⟩ 1 vc lb cb (Ne.symm hne) 106 106 3 (c*3) (by simp[World.shape?,hv]) (by simp[World.shape?,hg,hcs]) (by omega) (frozen_of_row _ _ _ _ _ hv) (frozen_of_row _ _ _ _ _ hv)]
  rfl
 have hw1:IntKind.i64.wrap ((i:Int)+1)=(i:Int)+1:=IntWalk.i64_in _ (by omega);have hw2:IntKind.i64.wrap ((n:Int)+1)=(n:Int)+1:=IntWalk.i64_in _ (by omega);have hb1:(0:Int)<=(i:Int)+1:=by omega
 have hin:i<=n:=by omega
 have htn:((i:Int)+1).toNat=i+1:=by omega
 have htn2:((n:Int)+1).toNat=n+1:=by omega
 have hb2:¬(c=i+1):=by omega
 have hb3:(i:Int)<=(n:Int)+1:=by omega
 have hb4:¬(c=i):=by omega
 have hb5:¬((c:Int)<(n:Int)+1):=by omega
 have hz2:¬((i:Int)=(n:Int)):=by omega
 have hb6:(n:Int)+1<=(c:Int):=by omega
 have hb7:(0:Int)<=(n:Int)+1:=by omega
 have hb8:(i:Int)+1<=(n:Int)+1:=by omega
 have hb9:(i:Int)<=(n:Int):=by omega
 have hcs3:(i+1)*3=i*3+3:=by omega
 have hxs:(Heap.cells x).length=3:=rfl;obtain⟨R1,hR1⟩:∃R1:Array Value,R1=(cur.toList.take ((i+1)*3)++F2++cur.toList.drop ((i+1)*3+F2.length)).toArray:=⟨_,rfl⟩;have hcp1:∀ty dc sc,(Builtin.copy_ #[27,27] ty #[.slice (some ⟨g,(i+1)*3,none⟩) (n+1-(i+1)) dc,.slice (some ⟨g,i*3,none⟩) (n+1-i) sc]).run Tryz.prog w.drew = .ok (goInt ((n-i:Nat):Int)) (w.drew.setRow g R1):=λty dc sc=>by
  rw[hR1];exact V1 w.drew _ _ ty 106 3 g _ _ dc ⟨g,i*3,none⟩ _ sc cur 106 F2 (n-i) Tryz.underlying27 VV hg (by simp only[Nat.min_def];split<;>omega) hF2 (λj v hj=>by rw[Addr.add_lit];exact hsrc1 j v hj) (by omega) hone
 have hsz1:R1.size=cur.size:=by
  rw[hR1,List.size_toArray,List.length_append,List.length_append,List.length_take,List.length_drop,Array.length_toList];omega
 obtain⟨W1,hW1⟩:∃W1,W1=w.drew.setRow g R1:=⟨_,rfl⟩;have hg1:W1.heap[g]?=some (.cells R1 106 (0,0)):=by rw[hW1];exact setRow_heap w.drew g cur R1 106 _ hg
 have hv1:W1.heap[vb]?=some (.cells #[.string x.fSort,.int .i64 x.fYear,.int .i64 x.fBundles] 106 (0,0)):=by rw[hW1,setRow_other w.drew g vb R1 (Ne.symm hne)];exact hv
 have hG1:Hid (w.grownBy W1 (some g)):=Za (by rw[hW1];exact JY (ZbX w 1 _) (UX _ _ _));rw[←hW1] at hcp1;obtain⟨R2,hR2⟩:∃R2:Array Value,R2=(R1.toList.take (i*3)++Heap.cells x++R1.toList.drop (i*3+(Heap.cells x).length)).toArray:=⟨_,rfl⟩;have hcp2:∀ty dc,(Builtin.copy_ #[27,27] ty #[.slice (some ⟨g,i*3,none⟩) (n+1-i) dc,.slice (some ⟨vb,0,none⟩) 1 vc]).run Tryz.prog W1 = .ok (goInt ((1:Nat):Int)) (W1.setRow g R2):=λty dc=>by
  rw[hR2];exact V1 W1 _ _ ty 106 3 g _ _ dc ⟨vb,0,none⟩ _ vc R1 106 (Heap.cells x) 1 Tryz.underlying27 VV hg1 (by simp only[Nat.min_def];split<;>omega) rfl (λj v hj=>by
   rw[Addr.add_lit,Nat.zero_add,cell_of_row _ _ _ _ _ _ hv1];simpa[Heap.cells] using hj) (by rw[hsz1,hxs];omega) (λv hv=>Heap.one x v hv)
 have hR2l:R2.toList=F1++Heap.cells x++F2++cur.toList.drop (i*3+3+(n-i)*3):=by
  rw[hR2,hR1,hcs3];simp only;exact Zeg hF1 hF2 hxs (by rw[show i*3+(n-i)*3=n*3 by omega];exact hcl) (by rw[Array.length_toList];omega)
 have hsz2:R2.size=c*3:=by
  rw[←Array.length_toList,hR2l,List.length_append,List.length_append,List.length_append,hF1,hF2,hxs,List.length_drop,Array.length_toList];omega
 have hRES:Hid (Own Heap.cells 106 3 (W1.setRow g R2) base (.slice (some ⟨g,0,none⟩) (n+1) c) (n+1) (l.take i++x :: l.drop i)):=Za (by
  refine⟨by simp;omega,by rw[hres.out];simp only[List.length_append,hF1,hF2,hxs];omega,.inr ⟨g,c,R2,rfl,hbg,setRow_heap W1 g R1 R2 106 _ hg1,hroom,hcm,hsz2,?_⟩⟩;rw[hres.out,hR2l,List.take_append_of_le_length (by simp only[List.length_append,hF1,hF2,hxs];omega),List.take_of_length_le (by simp only[List.length_append,hF1,hF2,hxs];omega)])
 have hGR:Hid (w.grownBy (W1.setRow g R2) (some g)):=Za (JY hG1.out (UX _ _ _));clear hcs3 hxs hO hFF hf1 hf2 hR1 hR2 hR2l hsz1 hsz2 hres hg1 hv1 hW1 hF1 hF2 hcl hcs hsrc1 hone hG1 ho;go_enter Tryz.func179,Tryz.ntmps179;go_wp2_with (simp only[hov])
 go_region_law (refine Jw rfl (.tmp 73) (.tmp 76) 27 27 rfl (by simp[Act.eval,Act.put];rfl) (by simp[Act.eval,Act.put];rfl) (hcp1 _ _ _) ?_)
 go_wp2
 go_ret;exact⟨_,rfl,hRES.out,hGR.out⟩
theorem Zci {L F1 F2 X:List Value}{a b:Nat}(h1:F1.length=a)(h2:F2.length=b)(hX:X.length=3)(hL:L.take a=F1)(_hl:a+b+3<=L.length) :
  ((L.take a++X++L.drop (a+X.length)).take (a+3)++F2++(L.take a++X++L.drop (a+X.length)).drop (a+3+F2.length))=F1++X++F2++L.drop (a+3+b):=by
 rw[hX,h2,hL];have l1:(F1++X).length=a+3:=by rw[List.length_append];omega
 rw[List.take_left' l1,List.drop_append,l1,List.drop_eq_nil_of_le (by omega),List.nil_append,List.drop_drop]
 congr 2
 omega
theorem Q7 {w w':World}{row:Option Nat}(hb:Below w.heap.size w w'):w.grownBy w' row:=⟨hb.os,hb.tape,hb.output,hb.size,λi hi _=>hb.block i hi⟩
theorem ZcY (g c:Nat)(V:Value)(n i:Nat)(l:List Heap)(x:Heap)(vb vc base:Nat)(w:World)(ho:Own Heap.cells 106 3 w base V n l)(hn:n<=100000)(hb:base<=w.heap.size)(hv:w.heap[vb]?=some (.cells #[.string x.fSort,.int .i64 x.fYear,.int .i64 x.fBundles] 106 (0,0)))(hi:i<n)(hV:V = .slice (some ⟨g,0,none⟩) n c)(hroom:c<n+1)(_hne:g≠vb) :
  Calls Tryz.prog 179 #[.slice (some ⟨g,0,none⟩) n c,.int .i64 i,.slice (some ⟨vb,0,none⟩) 1 vc] w λe w'=>Ins w base V (n+1) (l.take i++x :: l.drop i) e w':=by
 subst hV;obtain⟨cur,hg,hcs,hcl,hbg,hcm,hnc⟩:=ZdJ ho (by omega);have hll:l.length=n:=ho.len;have hF1:((l.take i).flatMap Heap.cells).length=i*3:=by rw[Yb Heap.len,List.length_take];congr 1;omega
 have hF2:((l.drop i).flatMap Heap.cells).length=(n-i)*3:=by rw[Yb Heap.len,List.length_drop,hll]
 have hFF:l.flatMap Heap.cells=(l.take i).flatMap Heap.cells++(l.drop i).flatMap Heap.cells:=by rw[←List.flatMap_append,List.take_append_drop]
 have hone:∀v∈(l.drop i).flatMap Heap.cells,v.oneCell'=true:=by
  intro v hv;obtain⟨y,_,hy⟩:=List.mem_flatMap.1 hv;exact Heap.one y v hy
 obtain⟨F1,hf1⟩:∃F1,F1=(l.take i).flatMap Heap.cells:=⟨_,rfl⟩;obtain⟨F2,hf2⟩:∃F2,F2=(l.drop i).flatMap Heap.cells:=⟨_,rfl⟩;rw[←hf1] at hF1;rw[←hf2] at hF2 hone;have hres:Hid ((l.take i++x :: l.drop i).flatMap Heap.cells=F1++Heap.cells x++F2):=Za (by rw[List.flatMap_append,List.flatMap_cons,←hf1,←hf2,List.append_assoc]);rw[hFF,←hf1,←hf2] at hcl;have hcur:∀k v,(F1++F2)[k]?=some v→w.cell? ⟨g,k,none⟩=some v:=by
  intro k v hj;have hjl:=Zq hj;rw[List.length_append] at hjl;rw[cell_of_row _ _ _ _ _ _ hg,←Array.getElem?_toList];rw[←hcl,List.getElem?_take,if_pos (by omega)] at hj;exact hj
 have hlt:=(Array.getElem?_eq_some_iff.1 hg).1;have hvlt:=(Array.getElem?_eq_some_iff.1 hv).1;obtain⟨i0,hi0,hz0,hzs,hzb⟩:=info_parts Zt;have hold:(Builtin.firstCells i0.size i (.slice (some ⟨g,0,none⟩) i c)).run Tryz.prog w.drew = .ok F1.toArray w.drew:=by
  rw[hzs];exact run_firstCells_some w.drew 3 i ⟨g,0,none⟩ i c F1 hF1 (λj v hj=>by
   rw[Addr.add_lit,Nat.zero_add];exact hcur j v (by rw[List.getElem?_append_left (Zq hj)];exact hj))
 have hkk:(n:Int)+1-(i:Int)=((n+1-i:Nat):Int):=by omega
 have hik:i+(n+1-i)=n+1:=by omega
 have hrz:∀ty,(Builtin.append_ #[27,3] ty #[.slice (some ⟨g,0,none⟩) i c,.int .i64 ((n:Int)+1-(i:Int))]).run Tryz.prog w =
   .ok (.slice (some ⟨w.heap.size,0,none⟩) (n+1) (grownCap w (n+1) c 106)) (w.drew.alloc (.cells (F1.toArray++Builtin.zeroCells (Value.agg #[.string ByteArray.empty,.int .i64 0,.int .i64 0]).cells (n+1-i)++Builtin.zeroCells (Value.agg #[.string ByteArray.empty,.int .i64 0,.int .i64 0]).cells (grownCap w (n+1) c 106-(n+1))) 106)):=λty=>by
  have h:=Lib.run_append_grow_zeros w 27 3 ty 106 i0 _ .i64 .i64 Tryz.underlying27 Tryz.underlying3 hi0 hz0 (some ⟨g,0,none⟩) i c F1 hold (n+1-i) (by omega) (by omega) (by omega) (by omega) (by rw[hzb];omega) (by rw[hzb,hik];exact growslice_fits hroom (by omega));rw[hik] at h;rw[hkk];exact h
 obtain⟨G,hG⟩:∃G,G=grownCap w (n+1) c 106:=⟨_,rfl⟩;obtain⟨ROW,hROW⟩:∃ROW:Array Value,ROW=F1.toArray++Builtin.zeroCells (Value.agg #[.string ByteArray.empty,.int .i64 0,.int .i64 0]).cells (n+1-i)++Builtin.zeroCells (Value.agg #[.string ByteArray.empty,.int .i64 0,.int .i64 0]).cells (G-(n+1)):=⟨_,rfl⟩;have hGn:n+1<=G:=by rw[hG];exact grownCap_ge w _ _ _
 have hGm:G<=maxLen:=by rw[hG];exact grownCap_le_maxLen w (n+1) c 106 (by unfold maxLen;omega)
 rw[←hG,←hROW] at hrz;have hRs:ROW.size=G*3:=by
  rw[hROW];simp[Builtin.zeroCells,Value.cells,hF1];omega
 have hRt:ROW.toList.take (i*3)=F1:=by
  rw[hROW,Array.append_assoc,Array.toList_append,List.toList_toArray,List.take_left' hF1]
 obtain⟨g2,hg2⟩:∃g2,g2=w.heap.size:=⟨_,rfl⟩;have hcs3:(i+1)*3=i*3+3:=by omega
 have hxs:(Heap.cells x).length=3:=rfl;obtain⟨R1,hR1⟩:∃R1:Array Value,R1=(ROW.toList.take (i*3)++Heap.cells x++ROW.toList.drop (i*3+(Heap.cells x).length)).toArray:=⟨_,rfl⟩;obtain⟨R2,hR2⟩:∃R2:Array Value,R2=(R1.toList.take ((i+1)*3)++F2++R1.toList.drop ((i+1)*3+F2.length)).toArray:=⟨_,rfl⟩;have hR1s:R1.size=G*3:=by
  rw[hR1,List.size_toArray,List.length_append,List.length_append,List.length_take,List.length_drop,Array.length_toList,hRs,hxs];omega
 have hcpA:∀(W:World),W.heap[g2]?=some (.cells ROW 106 (0,0))→W.heap[vb]?=some (.cells #[.string x.fSort,.int .i64 x.fYear,.int .i64 x.fBundles] 106 (0,0))→∀ty dc,(Builtin.copy_ #[27,27] ty #[.slice (some ⟨g2,i*3,none⟩) (n+1-i) dc,.slice (some ⟨vb,0,none⟩) 1 vc]).run Tryz.prog W = .ok (goInt ((1:Nat):Int)) (W.setRow g2 R1):=λW hg1 hv1 ty dc=>by
  rw[hR1];exact V1 W _ _ ty 106 3 g2 _ _ dc ⟨vb,0,none⟩ _ vc ROW 106 (Heap.cells x) 1 Tryz.underlying27 VV hg1 (by simp only[Nat.min_def];split<;>omega) rfl (λj v hj=>by
   rw[Addr.add_lit,Nat.zero_add,cell_of_row _ _ _ _ _ _ hv1];simpa[Heap.cells] using hj) (by rw[hRs,hxs];omega) (λv hv=>Heap.one x v hv)
 have hcpB:∀(W:World),W.heap[g2]?=some (.cells R1 106 (0,0))→W.heap[g]?=some (.cells cur 106 (0,0))→∀ty dc sc,(Builtin.copy_ #[27,27] ty #[.slice (some ⟨g2,(i+1)*3,none⟩) (n+1-(i+1)) dc,.slice (some ⟨g,i*3,none⟩) (n-i) sc]).run Tryz.prog W = .ok (goInt ((n-i:Nat):Int)) (W.setRow g2 R2):=λW hg1 hc1 ty dc sc=>by
  rw[hR2];exact V1 W _ _ ty 106 3 g2 _ _ dc ⟨g,i*3,none⟩ _ sc R1 106 F2 (n-i) Tryz.underlying27 VV hg1 (by simp only[Nat.min_def];split<;>omega) hF2 (λj v hj=>by
   have h3:=hcur (i*3+j) v (by rw[List.getElem?_append_right (by omega),hF1,Nat.add_sub_cancel_left];exact hj);rw[cell_of_row _ _ _ _ _ _ hg] at h3;rw[Addr.add_lit,cell_of_row _ _ _ _ _ _ hc1];exact h3) (by rw[hR1s];omega) hone
 have hR2l:R2.toList=F1++Heap.cells x++F2++ROW.toList.drop (i*3+3+(n-i)*3):=by
  rw[hR2,hR1,hcs3];simp only;exact Zci hF1 hF2 hxs hRt (by rw[Array.length_toList,hRs];omega)
 have hR2s:R2.size=G*3:=by
  rw[←Array.length_toList,hR2l,List.length_append,List.length_append,List.length_append,hF1,hF2,hxs,List.length_drop,Array.length_toList,hRs];omega
 have hOWN:Hid (∀W:World,W.heap[g2]?=some (.cells R2 106 (0,0))→Own Heap.cells 106 3 W base (.slice (some ⟨g2,0,none⟩) (n+1) G) (n+1) (l.take i++x :: l.drop i)):=Za (λW hW=>by
  refine⟨by simp;omega,by rw[hres.out];simp only[List.length_append,hF1,hF2,hxs];omega,.inr ⟨g2,G,R2,rfl,by omega,hW,hGn,hGm,hR2s,?_⟩⟩;rw[hres.out,hR2l,List.take_append_of_le_length (by simp only[List.length_append,hF1,hF2,hxs];omega),List.take_of_length_le (by simp only[List.length_append,hF1,hF2,hxs];omega)])
 rw[←hg2] at hrz;have hrowA:∀cs:Array Value,(w.alloc (.cells cs 106)).heap[g2]?=some (.cells cs 106 (0,0)):=λcs=>by rw[hg2];exact heap_alloc_new w _
 have hvA:∀cs:Array Value,(w.alloc (.cells cs 106)).heap[vb]?=some (.cells #[.string x.fSort,.int .i64 x.fYear,.int .i64 x.fBundles] 106 (0,0)):=λcs=>(Below.heap_alloc _ _ _ hvlt).trans hv
 have hgA:∀cs:Array Value,(w.alloc (.cells cs 106)).heap[g]?=some (.cells cur 106 (0,0)):=λcs=>(Below.heap_alloc _ _ _ hlt).trans hg
 have hgB:∀(W:World) (cs:Array Value),W.heap[g]?=some (.cells cur 106 (0,0))→(W.setRow g2 cs).heap[g]?=some (.cells cur 106 (0,0)):=λW cs h=>(setRow_other W g2 g cs (by omega)).trans h
 have hBel:Hid (∀(W:World) (cs:Array Value),Below w.heap.size w W→Below w.heap.size w (W.setRow g2 cs)):=Za (λW cs h=>h.trans ⟨rfl,rfl,rfl,by simp[World.setRow],λk hk=>setRow_other W g2 k cs (by omega)⟩);have hBA:Hid (∀o:Obj,Below w.heap.size w (w.alloc o)):=Za (λo=>(Below.refl _ _).alloc (Nat.le_refl _) o);have hw1:IntKind.i64.wrap ((i:Int)+1)=(i:Int)+1:=IntWalk.i64_in _ (by omega);have hw2:IntKind.i64.wrap ((n:Int)+1)=(n:Int)+1:=IntWalk.i64_in _ (by omega);have hw3:IntKind.i64.wrap ((n:Int)+1-(i:Int))=(n:Int)+1-(i:Int):=IntWalk.i64_in _ (by omega);have hb1:(0:Int)<=(i:Int)+1:=by omega
 have htn:((i:Int)+1).toNat=i+1:=by omega
 have hGi:¬(G=i):=by omega
 have hGim:¬(G=i+1):=by omega
 have hci:¬(c=i):=by omega
 have hb5:(c:Int)<(n:Int)+1:=by omega
 have hz2:¬((i:Int)=(n:Int)):=by omega
 have hb9:(i:Int)<=(n:Int):=by omega
 have hb10:(i:Int)+1<=(n:Int)+1:=by omega
 have hb11:(i:Int)<=(c:Int):=by omega
 have hb12:(i:Int)<=(n:Int)+1:=by omega
 clear hcs3 hxs hFF hf1 hf2 hR1 hR2 hR2l hR1s hR2s hres hRs hRt hF1 hF2 hcl hcs hone ho hold hkk hik hG hROW hcur hv hg hlt hvlt hll hi0 hz0 hzs hzb hg2;go_enter Tryz.func179,Tryz.ntmps179;go_upto_region 10 with (at_builtin;refine Zjh rfl (.tmp 34) (.tmp 39) 27 3 rfl rfl rfl (hrz _) ?_)
 have hcpA':∀ty dc,(Builtin.copy_ #[27,27] ty #[.slice (some ⟨g2,i*3,none⟩) (n+1-i) dc,.slice (some ⟨vb,0,none⟩) 1 vc]).run Tryz.prog (w.alloc (.cells ROW 106)).drew = .ok (goInt ((1:Nat):Int)) ((w.alloc (.cells ROW 106)).drew.setRow g2 R1):=λty dc=>hcpA (w.alloc (.cells ROW 106)).drew (by exact hrowA ROW) (by exact hvA ROW) ty dc
 clear hcpA;go_wp2
 go_region_law (refine Jw rfl (.tmp 50) (.tmp 53) 27 27 rfl (by simp[Act.eval,Act.put];rfl) (by simp[Act.eval,Act.put];rfl) (hcpB _ (by exact setRow_heap _ g2 _ _ _ _ (hrowA ROW)) (by exact hgB _ _ (hgA ROW)) _ _ _) ?_)
 go_wp2
 go_ret;refine⟨_,rfl,hOWN.out _ (by exact setRow_heap _ g2 _ _ _ _ (setRow_heap _ g2 _ _ _ _ (hrowA ROW))),?_⟩;have hD1:Below w.heap.size w (w.alloc (.cells ROW 106)).drew:=Zb (hBA.out _) 1;have hD2:Below w.heap.size w ((w.alloc (.cells ROW 106)).drew.setRow g2 R1).drew:=Zb (hBel.out _ R1 hD1) 1;exact Q7 (hBel.out _ R2 hD2)
theorem Uh (A:Option Addr)(n c:Nat)(l:List Heap)(w:World)(hn:n<=1048576)(hr:Arr Heap.cells 3 w w.heap.size A n l) :
  Calls Tryz.prog 67 #[.slice A n c] w λe w'=>∃v,e = .returned v/\Own Heap.cells 106 3 w' w.heap.size v n l/\Below w.heap.size w w':=by
 cases A with
 | none =>
  have hn0:n=0:=by
   rcases Nat.eq_zero_or_pos n with h|h
   ·exact h
   ·obtain⟨b,o,hA,_⟩:=hr.2 h
    cases hA
  subst hn0;obtain rfl:l=[]:=List.eq_nil_of_length_eq_zero hr.1;have hq:∀W,(binOp .eql 27 (.slice none 0 c) (.slice none 0 0)).run Tryz.prog W = .ok (.bool true) W:=λW=>Lib.run_eql_slice_nil (P:=Tryz.prog) W 27 106 none 0 c 0 0 Tryz.underlying27
  clear hr;go_enter Tryz.func67,Tryz.ntmps67;go_wp2
  go_ret;exact⟨_,rfl,Own.nil_ _ _,Below.refl _ _⟩
 | some ad =>
  have hq:∀W,(binOp .eql 27 (.slice (some ad) n c) (.slice none 0 0)).run Tryz.prog W = .ok (.bool false) W:=λW=>Lib.run_eql_slice_nil (P:=Tryz.prog) W 27 106 (some ad) n c 0 0 Tryz.underlying27
  have hB:=Za ((Below.refl w.heap.size w).alloc (Nat.le_refl _) (.cells #[] 106));have hO:=Za (Own.none_made (cells:=Heap.cells) (e:=106) (s:=3) w (Nat.le_refl _));go_enter Tryz.func67,Tryz.ntmps67;go_wp2_with (at_builtin;refine Z1 rfl (.tmp 5) (.tmp 6) rfl Tryz.underlying27 Zt rfl (by omega) (by omega) Heap.len Heap.one rfl hO.out rfl (hr.below hB.out) (by omega) hB.out.size ?_;intro v2 w2 ho2 hg2 _)
  go_ret;rw[Nat.zero_add,List.nil_append] at ho2;exact⟨v2,rfl,ho2,Zi hB.out hO.out hg2 hB.out.size⟩
theorem Own.ne_newH {α:Type}{cells:α→List Value}{e s:Nat}{w:World}{base n:Nat}{v:Value}{l:List α}(h:Own cells e s w base v n l):v.ownBlock≠some w.heap.size:=λhe=>by have:=(h.2.lt _ he).2;omega
theorem Ze7 (V:Value)(n i:Nat)(l:List Heap)(x:Heap)(vb vc base:Nat)(w:World)(ho:Own Heap.cells 106 3 w base V n l)(hn:n<=100000)(hb:base<=w.heap.size)(hv:w.heap[vb]?=some (.cells #[.string x.fSort,.int .i64 x.fYear,.int .i64 x.fBundles] 106 (0,0)))(hi:i<=n)(hne:V.ownBlock≠some vb) :
  Calls Tryz.prog 179 #[V,.int .i64 i,.slice (some ⟨vb,0,none⟩) 1 vc] w λe w'=>Ins w base V (n+1) (l.take i++x :: l.drop i) e w':=by
 by_cases h:i=n
 ·exact Ze8 V n i l x vb vc base w ho hn hb hv h
 ·rcases ho.form with ⟨_,h0,_⟩|⟨g,c,rfl,_,_,_,_⟩
  ·omega
  ·have hg:g≠vb:=λe=>hne (by rw[e];rfl)
   by_cases hr:n+1<=c
   ·exact ZcX g c _ n i l x vb vc base w ho hn hb hv (by omega) rfl hr hg
   ·exact ZcY g c _ n i l x vb vc base w ho hn hb hv (by omega) rfl (by omega) hg
def Put (w:World)(l:List Heap)(x:Heap)(e:Ending)(w':World):Prop:=∃V,e = .returned V/\Own Heap.cells 106 3 w' w.heap.size V (X2 l x).length (X2 l x)/\Below w.heap.size w w'
theorem ZeK {l:List Heap}{x:Heap}(h:Ym l x=false):X2 l x=l.take (putK l x)++x :: l.drop (putK l x)/\(X2 l x).length=l.length+1:=by
 have hk:=ZcD l x;have e:X2 l x=l.take (putK l x)++x :: l.drop (putK l x):=by unfold X2;rw[h];rfl
 exact⟨e,by rw[e];simp;omega⟩
theorem ZdV (A:Option Addr)(n c:Nat)(l:List Heap)(x:Heap)(w:World)(hn:n<=90000)(hr:Arr Heap.cells 3 w w.heap.size A n l)(hyr:∀y∈l,1800<=y.fYear/\y.fYear<=2100)(hx1:1800<=x.fYear)(hx2:x.fYear<=2100)(hs:Srt l)
  (hbl:∀y∈l,0<=y.fBundles/\y.fBundles<=1000000000) (hbx:0<=x.fBundles/\x.fBundles<=1000000000) :
  Calls Tryz.prog 120 #[.slice A n c,.agg #[.string x.fSort,.int .i64 x.fYear,.int .i64 x.fBundles]] w λe w'=>Put w l x e w':=by
 have hBA:Below w.heap.size w (w.alloc (.cells #[.string x.fSort,.int .i64 x.fYear,.int .i64 x.fBundles] 106)):=(Below.refl _ _).alloc (Nat.le_refl _) _;have hK:=Za (heap_alloc_new w (.cells #[.string x.fSort,.int .i64 x.fYear,.int .i64 x.fBundles] 106));have hB:=Za hBA;have hr2:=Za (hr.go hBA);have hll:Hid (l.length=n):=Za hr.len;clear hBA hr;go_enter Tryz.func120,Tryz.ntmps120;go_wp2_with fail
 refine(Uh A n c l _ (by omega) hr2.out).mono ?_;rintro e w1 ⟨v,rfl,ho,hb⟩;have hO:=Za (ho.less (B:=w.heap.size) (by simp));replace hK:=Za (Ya hK.out hb);replace hB:=Za (Below.up hB.out hb);clear ho hb hr2;obtain⟨A',c',rfl,_⟩:=hO.out.slice;obtain⟨c0,c1,c2,cf⟩:=V2 hK.out;go_wp2_with fail
 clear c0 c1 c2 cf;refine(Zko A' n c' l x _ (by omega) (hO.out.arr Heap.len) hyr hx1 hx2 hs).mono ?_;rintro e w2 ⟨rfl,hb⟩;replace hO:=Za (hO.out.below hb);replace hK:=Za (Ya hK.out hb);replace hB:=Za (Below.up hB.out hb);clear hb hyr;obtain⟨k,hk⟩:∃k,k=putK l x:=⟨_,rfl⟩;have hkl:k<=n:=by rw[hk,←hll.out];exact ZcD l x
 have hk':=Za hk;rw[←hk];clear hk;obtain⟨c0,c1,c2,cf⟩:=V2 hK.out;cases hf:Ym l x
 ·have hF:=Za hf
  clear hf;go_wp2_with fail
  clear c0 c1 c2 cf;have hv:=heap_alloc_new w2 (.cells #[.string x.fSort,.int .i64 x.fYear,.int .i64 x.fBundles] 106);refine(Ze7 (.slice A' n c') n k l x w2.heap.size 1 w.heap.size _ (hO.out.below ((Below.refl _ _).alloc (Nat.le_refl _) _)) (by omega) (by simp;have:=hB.out.size;omega) hv hkl (hO.out.ne_newH)).mono ?_;rintro e w3 ⟨V',rfl,ho3,hg3⟩;have hO3:=Za ho3;have hB3:=Za (((hO.out.below ((Below.refl _ _).alloc (Nat.le_refl _) _)).grown (hB.out.alloc hB.out.size (.cells #[.string x.fSort,.int .i64 x.fYear,.int .i64 x.fBundles] 106)) hg3));clear ho3 hg3 hv;go_wp2
  go_ret;refine⟨V',rfl,?_,hB3.out⟩;obtain⟨h1,h2⟩:=ZeK hF.out;rw[h2,h1,hll.out,←hk'.out];exact hO3.out
 ·have hF:=Za hf
  clear hf;obtain⟨y,hy,e1,e2,hlt,hat⟩:=Qe hF.out;rw[←hk'.out] at hy hlt;have hkn:k<n:=by have:=hll.out;omega
  have hyb:=hbl y (List.mem_of_getElem? hy);rcases hO.out.form with ⟨_,h0,_⟩|⟨g,cap,hV,hbg,hgl,_,_⟩
  ·omega
  injection hV with hV1 _ hV2
  subst hV1 hV2;obtain⟨y',hy',d0,d1,d2,f0,f1,f2⟩:=hO.out.Heap_at hkn;rw[hy] at hy';obtain rfl:=Option.some.inj hy';have hY:=Za hy;have hE:=Za (show X2 l x=l.set k ⟨y.fSort,y.fYear,y.fBundles+x.fBundles⟩ by rw[Zfu hF.out,←hk'.out,hat,e1,e2,Int.add_comm]);have hwr:IntKind.i64.wrap (y.fBundles+x.fBundles)=y.fBundles+x.fBundles:=IntWalk.i64_in _ (by omega);have hi0:(0:Int)<=(k:Int):=by omega
  have hi1:(k:Int)<(n:Int):=by omega
  clear hy hy' hat e1 e2 hlt hyb hbl hbx hs d0 d1 f0 f1 c0 c1;go_wp2_with fail
  go_region
  have hO2:=Za (hO.out.cell (k:=k) (j:=2) (x:=y) (x':=(⟨y.fSort,y.fYear,y.fBundles+x.fBundles⟩:Heap)) (u:=.int .i64 (y.fBundles+x.fBundles)) Heap.len hY.out (by omega) rfl);have hB2:=Za (hB.out.setCell (p:=⟨g,k*3+2,none⟩) hbg (.int .i64 (y.fBundles+x.fBundles)));have hBd:=Za (Zb hB2.out 1);have hOd:=Za (hO2.out.below (Zb (Below.refl _ _) 1));clear hO2 hB2 d2 f2 c2 cf;go_wp2
  go_ret;refine⟨_,rfl,?_,hBd.out⟩;have hln:(l.set k ⟨y.fSort,y.fYear,y.fBundles+x.fBundles⟩).length=n:=by rw[List.length_set];exact hll.out
  rw[hE.out,hln];exact hOd.out
end Go.Proofs.YtfpaejlipaainaaGreatDoor
