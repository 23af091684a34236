/- Texts that belong together, joined: contracts and plain laws. No statement is proved here. -/
import Derived.Test.YtfpaejlipaainaaGreatDoorM03
import Derived.Maps.AppendAt
set_option maxRecDepth 100000
namespace Go.Proofs.YtfpaejlipaainaaGreatDoor
open Go.ChangeShapes Go.WideShapes Go.ChangeAt Go.RowKit Go.Deep
section
variable {α:Type}{cells:α→List Value}{s:Nat}
theorem Arr.flat {w:World}{B b o n:Nat}{l:List α}(hs:∀x,(cells x).length=s)(h0:0<s)(h:Arr cells s w B (some ⟨b,o,none⟩) n l)(hn:0<n) :
  ∀j u,(l.flatMap cells)[j]?=some u→w.cell? ((⟨b,o,none⟩:Addr).add j)=some u:=by
 intro j u hu;obtain⟨b',o',hA,_,hc⟩:=h.2 hn;injection hA with hA
 injection hA with h1 h2
 subst h1 h2;have hj:j/s*s+j%s=j:=Nat.div_add_mod' j s;have hu2:=hu;rw[←hj,Uf hs l (j/s) (j%s) (Nat.mod_lt _ h0)] at hu2;cases hx:l[j/s]? with
 | none=>rw[hx] at hu2;cases hu2
 | some x =>
  rw[hx] at hu2;have:=hc _ x hx _ u hu2;rw[Addr.add_lit,←hj,←Nat.add_assoc];exact this
theorem VB {P:Program}{w:World}{base n m c B e bytes:Nat}{t ty:TypeId}{v:Value}{A:Option Addr}{l xs:List α}
  (ht:P.underlying t=some (.slice e)) {z:Value} (hinfo:(P.info? e).map (λi=>(i.zero,i.size,i.bytes))=some (some z,s,bytes)) (hzs:z.cells.size=s) (hsz:0<s) (hby:bytes<=100)
  (hs:∀x,(cells x).length=s) (h1:∀x,∀u∈cells x,u.oneCell'=true)
  (hown:Own cells e s w base v n l) (hr:Arr cells s w B A m xs) (hn:n+m<=4194304) (hbase:base<=w.heap.size) :
  ∃v' w',(Builtin.append_ #[t,t] ty #[v,.slice A m c]).run P w = .ok v' w'/\Own cells e s w' base v' (n+m) (l++xs)/\w.grownBy w' v.ownBlock/\(v'.ownBlock=v.ownBlock\/v'.ownBlock=some w.heap.size):=by
 obtain⟨i,hi,hz0,hz1,hz2⟩:=info_parts hinfo;have hone:∀u∈xs.flatMap cells,u.oneCell'=true:=by
  intro u hu;obtain⟨x,_,hx⟩:=List.mem_flatMap.1 hu;exact h1 x u hx
 have hlen:(xs.flatMap cells).length=m*s:=by rw[Yb hs,hr.1]
 have hbb:(n+m)*bytes<=140737488355328:=by
  have:(n+m)*bytes<=4194304*100:=Nat.mul_le_mul hn hby;omega
 have close:∀{v':Value} {w':World},w'.ownsRow base e s v' (n+m) (l.flatMap cells++xs.flatMap cells)→Own cells e s w' base v' (n+m) (l++xs):=λh =>
  ⟨by rw[List.length_append,hown.1,hr.1],by rw[List.flatMap_append];exact h⟩
 cases A with
 | none =>
  have hm:m=0:=by
   rcases Nat.eq_zero_or_pos m with h|h
   ·exact h
   ·obtain⟨b,o,hA,_⟩:=hr.2 h
    cases hA
  subst hm;obtain rfl:xs=[]:=List.eq_nil_of_length_eq_zero hr.1;refine⟨v,w,?_,by simpa using hown,World.grownBy.refl w _,.inl rfl⟩;rcases hown.2.2 with ⟨rfl,rfl⟩|⟨g,cap,cur,rfl,_,_,hnc,_⟩
  ·simp[Builtin.append_,run_underlying ht,sizeOf,typeInfo,hi,Builtin.lenOf,Builtin.firstCells]
  ·simp[Builtin.append_,run_underlying ht,sizeOf,typeInfo,hi,Builtin.lenOf,Builtin.firstCells,hnc,storeCells]
 | some ad =>
  have hcell:∀j u,(xs.flatMap cells)[j]?=some u→w.cell? (ad.add j)=some u:=by
   rcases Nat.eq_zero_or_pos m with h|h
   ·subst h
    obtain rfl:xs=[]:=List.eq_nil_of_length_eq_zero hr.1;intro j u hu;simp at hu
   ·obtain⟨b,o,hA,hb⟩:=hr.2 h
    injection hA with hA
    subst hA;exact Arr.flat hs hsz hr h
  obtain⟨v',w',hrun,h2,h3,_,h5⟩:=run_append_own_at (P:=P) w base t ty e i z s bytes ht hi hz0 hz1 hz2 hzs hsz v n (l.flatMap cells) hown.2 ad m c (xs.flatMap cells) hlen hcell hone (by unfold maxLen;omega) hbb hbase;exact⟨v',w',hrun,close h2,h3,h5⟩
theorem Z1 {P:Program}{ops:Array Oper}{rest:List Oper}{o:Oper}{a:Act}{Q:Exit→Act→World→Prop}{w:World}{base n m c B e bytes:Nat}{t:TypeId}{v:Value}{A:Option Addr}{l xs:List α}
  (hgd:o.guard=none) (so x:Operand) (ho:o.op = .call { callee:=.builtin .append,args:=#[so,x],argTypes:=#[t,t] })
  (ht:P.underlying t=some (.slice e)) {z:Value} (hinfo:(P.info? e).map (λi=>(i.zero,i.size,i.bytes))=some (some z,s,bytes)) (hzs:z.cells.size=s) (hsz:0<s) (hby:bytes<=100)
  (hs:∀x,(cells x).length=s) (h1:∀x,∀u∈cells x,u.oneCell'=true)
  (hso:a.eval so=v) (hown:Own cells e s w base v n l) (hx:a.eval x = .slice A m c) (hr:Arr cells s w B A m xs) (hn:n+m<=4194304) (hbase:base<=w.heap.size)
  (h:∀v' w',Own cells e s w' base v' (n+m) (l++xs)→w.grownBy w' v.ownBlock→(v'.ownBlock=v.ownBlock\/v'.ownBlock=some w.heap.size)→wpList P ops Q rest (a.put o.dst v') w'):wpList P ops Q (o :: rest) a w:=by
 refine wpList_plain hgd λK hK=>?_
 obtain⟨v',w',hrun,h2,h3,h4⟩:=VB (P:=P) (c:=c) (ty:=o.type) ht hinfo hzs hsz hby hs h1 hown hr hn hbase;unfold Oper.wp execOp;simp only[ho,resolve,invoke,builtin,Sem.run_bind,Sem.run_pure,Result.andThen_ok,List.map_toArray,List.map_cons,List.map_nil,hso,hx,hrun];exact hK _ _ (h v' w' h2 h3 h4)
theorem Arr.one_new {w:World}{e:Nat}{y:α}{arr:Array Value}(harr:arr.toList=cells y):Arr cells s (w.alloc (.cells arr e)) (w.heap.size+1) (some ⟨w.heap.size,0,none⟩) 1 [y]:=by
 refine⟨rfl,λ_=>⟨_,_,rfl,by omega,λi x hx j u hu=>?_⟩⟩;have hi:i=0:=by have:=Zq hx;simp at this;exact this
 subst hi;obtain rfl:y=x:=by simpa using hx
 simp only[Nat.zero_mul,Nat.zero_add];rw[cell_of_row _ _ _ _ _ _ (heap_alloc_new w _)];rw[←harr] at hu;simpa using hu
theorem ZfF {P:Program}{o:Oper}{a:Act}{K:Act→World→Prop}{Q:Exit→Act→World→Prop}{w:World}{base n e bytes:Nat}{t:TypeId}{v:Value}{l:List α}
  (so x:Operand) (ho:o.op = .call { callee:=.builtin .append,args:=#[so,x],argTypes:=#[t,t] })
  (ht:P.underlying t=some (.slice e)) {z:Value} (hinfo:(P.info? e).map (λi=>(i.zero,i.size,i.bytes))=some (some z,s,bytes)) (hzs:z.cells.size=s) (hsz:0<s) (hby:bytes<=100)
  (hs:∀x,(cells x).length=s) (h1:∀x,∀u∈cells x,u.oneCell'=true)
  (hso:a.eval so=v) (hown:Own cells e s w base v n l) (y:α) (arr:Array Value) (harr:arr.toList=cells y) (hx:a.eval x = .slice (some ⟨w.heap.size,0,none⟩) 1 1) (hn:n<=1048576) (hbase:base<=w.heap.size)
  (h:∀v' w',Own cells e s w' base v' (n+1) (l++[y])→w.grownBy w' v.ownBlock→(v'.ownBlock=v.ownBlock\/v'.ownBlock=some (w.heap.size+1))→K (a.put o.dst v') w'):o.wp P a (w.alloc (.cells arr e)) K Q:=by
 have hown2:Own cells e s (w.alloc (.cells arr e)) base v n l:=⟨hown.1,hown.2.alloc _⟩;obtain⟨v',w',hrun,h2,h3,h4⟩:=VB (P:=P) (c:=1) (ty:=o.type) ht hinfo hzs hsz hby hs h1 hown2 (Arr.one_new (s:=s) harr) (by omega) (by simp;omega);unfold Oper.wp execOp;simp only[ho,resolve,invoke,builtin,Sem.run_bind,Sem.run_pure,Result.andThen_ok,List.map_toArray,List.map_cons,List.map_nil,hso,hx,hrun];refine h v' w' h2 ?_ (by simpa using h4);have h0:=World.grownBy_alloc w (.cells arr e) v.ownBlock;exact⟨h3.os.trans h0.os,h3.tape.trans h0.tape,h3.output.trans h0.output,Nat.le_trans h0.size h3.size,λk hk hne=>(h3.block k (Nat.lt_of_lt_of_le hk h0.size) hne).trans (h0.block k hk hne)⟩
theorem Zp {P:Program}{ops:Array Oper}{rest:List Oper}{o:Oper}{a:Act}{Q:Exit→Act→World→Prop}{w:World}{base n e bytes:Nat}{t:TypeId}{v:Value}{l:List α}(H:Nat)(hH:w.heap.size=H)
  (hgd:o.guard=none) (so x:Operand) (ho:o.op = .call { callee:=.builtin .append,args:=#[so,x],argTypes:=#[t,t] })
  (ht:P.underlying t=some (.slice e)) {z:Value} (hinfo:(P.info? e).map (λi=>(i.zero,i.size,i.bytes))=some (some z,s,bytes)) (hzs:z.cells.size=s) (hsz:0<s) (hby:bytes<=100)
  (hs:∀x,(cells x).length=s) (h1:∀x,∀u∈cells x,u.oneCell'=true)
  (hso:a.eval so=v) (hown:Own cells e s w base v n l) (y:α) (arr:Array Value) (harr:arr.toList=cells y) (hx:a.eval x = .slice (some ⟨H,0,none⟩) 1 1) (hn:n<=1048576) (hbase:base<=w.heap.size)
  (h:∀v' w',Own cells e s w' base v' (n+1) (l++[y])→w.grownBy w' v.ownBlock→(v'.ownBlock=v.ownBlock\/v'.ownBlock=some (w.heap.size+1))→wpList P ops Q rest (a.put o.dst v') w'):wpList P ops Q (o :: rest) a (w.alloc (.cells arr e)):=by
 subst hH;exact wpList_plain hgd λK hK=>ZfF so x ho ht hinfo hzs hsz hby hs h1 hso hown y arr harr hx hn hbase λv' w' h1 h2 h3=>hK _ _ (h v' w' h1 h2 h3)
theorem Zba {P:Program}{ops:Array Oper}{o:Oper}{a:Act}{K:Act→World→Prop}{Q:Exit→Act→World→Prop}{E:Prop}{w:World}{base n e bytes:Nat}{t:TypeId}{v:Value}{l:List α}
  (hgd:o.guard=none) (so x:Operand) (ho:o.op = .call { callee:=.builtin .append,args:=#[so,x],argTypes:=#[t,t] })
  (ht:P.underlying t=some (.slice e)) {z:Value} (hinfo:(P.info? e).map (λi=>(i.zero,i.size,i.bytes))=some (some z,s,bytes)) (hzs:z.cells.size=s) (hsz:0<s) (hby:bytes<=100)
  (hs:∀x,(cells x).length=s) (h1:∀x,∀u∈cells x,u.oneCell'=true)
  (hso:a.eval so=v) (hown:Own cells e s w base v n l) (y:α) (arr:Array Value) (harr:arr.toList=cells y) (hx:a.eval x = .slice (some ⟨w.heap.size,0,none⟩) 1 1) (hn:n<=1048576) (hbase:base<=w.heap.size)
  (h:∀v' w',Own cells e s w' base v' (n+1) (l++[y])→w.grownBy w' v.ownBlock→(v'.ownBlock=v.ownBlock\/v'.ownBlock=some (w.heap.size+1))→K (a.put o.dst v') w') :
  if Region.wanted o (yielded ops a.tmps)=true then Oper.wp P o a (w.alloc (.cells arr e)) K Q else E:=by
 have hw:Region.wanted o (yielded ops a.tmps)=true:=by simp[Region.wanted,hgd]
 rw[if_pos hw];exact ZfF so x ho ht hinfo hzs hsz hby hs h1 hso hown y arr harr hx hn hbase h
theorem X5 {P:Program}{ops:Array Oper}{o:Oper}{a:Act}{K:Act→World→Prop}{Q:Exit→Act→World→Prop}{E:Prop}{w:World}{base n m c B e bytes:Nat}{t:TypeId}{v:Value}{A:Option Addr}{l xs:List α}
  (hgd:o.guard=none) (so x:Operand) (ho:o.op = .call { callee:=.builtin .append,args:=#[so,x],argTypes:=#[t,t] })
  (ht:P.underlying t=some (.slice e)) {z:Value} (hinfo:(P.info? e).map (λi=>(i.zero,i.size,i.bytes))=some (some z,s,bytes)) (hzs:z.cells.size=s) (hsz:0<s) (hby:bytes<=100)
  (hs:∀x,(cells x).length=s) (h1:∀x,∀u∈cells x,u.oneCell'=true)
  (hso:a.eval so=v) (hown:Own cells e s w base v n l) (hx:a.eval x = .slice A m c) (hr:Arr cells s w B A m xs) (hn:n+m<=4194304) (hbase:base<=w.heap.size)
  (h:∀v' w',Own cells e s w' base v' (n+m) (l++xs)→w.grownBy w' v.ownBlock→(v'.ownBlock=v.ownBlock\/v'.ownBlock=some w.heap.size)→K (a.put o.dst v') w') :
  if Region.wanted o (yielded ops a.tmps)=true then Oper.wp P o a w K Q else E:=by
 have hw:Region.wanted o (yielded ops a.tmps)=true:=by simp[Region.wanted,hgd]
 rw[if_pos hw];obtain⟨v',w',hrun,h2,h3,h4⟩:=VB (P:=P) (c:=c) (ty:=o.type) ht hinfo hzs hsz hby hs h1 hown hr hn hbase;unfold Oper.wp execOp;simp only[ho,resolve,invoke,builtin,Sem.run_bind,Sem.run_pure,Result.andThen_ok,List.map_toArray,List.map_cons,List.map_nil,hso,hx,hrun];exact h v' w' h2 h3 h4
theorem Zi {e base:Nat}{w w':World}{v:Value}{n:Nat}{l:List α}(hb:Below base w w')(h:Own cells e s w' base v n l){w2:World}(hg:w'.grownBy w2 v.ownBlock)(hB:base<=w'.heap.size):Below base w w2 :=
 hb.grown hg hB (λk hk=>(h.2.lt k hk).1)
end
def cutA (A:Option Addr)(cap k s:Nat):Option Addr:=if cap=k then A else A.map (·.add (k*s))
theorem Y0 {P:Program}{t e s bytes:Nat}(ht:P.underlying t=some (.slice e)){z:Value}(hinfo:(P.info? e).map (λi=>(i.zero,i.size,i.bytes))=some (some z,s,bytes))(A:Option Addr)(n cap k:Nat)(hk:k<=n)(W:World) :
  (Instr.slice t (.slice A n cap) (some (.int .i64 (k:Int))) none none).run P W = .ok (.slice (cutA A cap k s) (n-k) (cap-k)) W:=by
 obtain⟨i,hi,_,hs,_⟩:=info_parts hinfo;have he:P.elem t=e:=by simp[Program.elem,ht]
 rw[run_slice_l W t A n cap (by rw[he];exact ht) .i64 k (by omega) (by omega),he];simp[sizeOf,typeInfo,hi,Result.andThen,sliced,cutA,hs]
theorem Wn {P:Program}{t e s bytes:Nat}(ht:P.underlying t=some (.slice e)){z:Value}(hinfo:(P.info? e).map (λi=>(i.zero,i.size,i.bytes))=some (some z,s,bytes))(b o n cap k:Nat)(hk:k<=cap)(W:World) :
  (Instr.slice t (.slice (some ⟨b,o,none⟩) n cap) none (some (.int .i64 (k:Int))) none).run P W = .ok (.slice (some ⟨b,o,none⟩) k cap) W:=by
 obtain⟨i,hi,_,hs,_⟩:=info_parts hinfo;have he:P.elem t=e:=by simp[Program.elem,ht]
 rw[run_slice_h W t _ n cap (by rw[he];exact ht) .i64 k (by omega) (by omega),he];simp[sizeOf,typeInfo,hi,Result.andThen,sliced];intro _;rw[Addr.add_lit,Nat.add_zero]
theorem Arr.cut {α:Type}{cells:α→List Value}{s:Nat}{w:World}{B:Nat}{A:Option Addr}{n k cap:Nat}{l:List α}(h:Arr cells s w B A n l)(hk:k<=n)(hc:n<=cap):Arr cells s w B (cutA A cap k s) (n-k) (l.drop k):=by
 refine⟨by rw[List.length_drop,h.1],λhn=>?_⟩;obtain⟨b,o,rfl,hb,hcell⟩:=h.2 (by omega);refine⟨b,o+k*s,by unfold cutA;rw[if_neg (by omega),Option.map_some,Addr.add_lit],hb,λi x hx j u hu=>?_⟩;rw[List.getElem?_drop] at hx;have:=hcell (k+i) x hx j u hu
 rwa [Nat.add_mul,←Nat.add_assoc] at this
theorem Arr.head {α:Type}{cells:α→List Value}{s:Nat}{w:World}{B:Nat}{A:Option Addr}{n k:Nat}{l:List α}(h:Arr cells s w B A n l)(hk:k<=n):Arr cells s w B A k (l.take k):=by
 refine⟨by rw[List.length_take,h.1];omega,λhn=>?_⟩;obtain⟨b,o,rfl,hb,hcell⟩:=h.2 (by omega);refine⟨b,o,rfl,hb,λi x hx j u hu=>?_⟩;rcases Nat.lt_or_ge i k with hi|hi
 ·rw[List.getElem?_take,if_pos hi] at hx
  exact hcell i x hx j u hu
 ·rw[List.getElem?_take,if_neg (by omega)] at hx
  cases hx
theorem Own.formS {α:Type}{cells:α→List Value}{e s:Nat}{w:World}{base n:Nat}{v:Value}{l:List α}(h:Own cells e s w base v n l)(hs:v.ownBlock.isSome=true):∃g cap,v = .slice (some ⟨g,0,none⟩) n cap/\base<=g/\g<w.heap.size/\n<=cap/\cap<=maxLen:=by
 rcases h.form with ⟨rfl,_⟩|h
 ·simp[Value.ownBlock] at hs
 ·exact h
theorem ZR {v v':Value}{H:Nat}(hat:v'.ownBlock=v.ownBlock\/v'.ownBlock=some H)(h:v.ownBlock.isSome=true):v'.ownBlock.isSome=true:=by
 rcases hat with e|e<;>rw[e]
 ·exact h
 ·rfl
theorem YJ:∀x,∀u∈ZY x,u.oneCell'=true:=by intro x u hu;simp[ZY] at hu;subst hu;rfl
theorem ZJ:∀x,∀u∈ZB x,u.oneCell'=true:=by intro x u hu;simp[ZB] at hu;subst hu;rfl
theorem Own.int_at {e:TypeId}{w:World}{base g n c:Nat}{l:List Int}(h:Own ZB e 1 w base (.slice (some ⟨g,0,none⟩) n c) n l){k:Nat}(hk:k<n) :
  ∃x,l[k]?=some x/\w.cell? ⟨g,k,none⟩=some (.int .i64 x)/\w.frozen? ⟨g,k,none⟩=false:=by
 obtain⟨b,o,x,hA,_,hx,c0⟩:=(h.arr Zh).int hk;injection hA with hA;injection hA with h1 h2;subst h1 h2
 simp only[Nat.zero_add] at c0;exact⟨x,hx,c0,h.2.frozenAt _⟩
theorem Own.int_store {e:TypeId}{w:World}{base g n c:Nat}{l:List Int}(h:Own ZB e 1 w base (.slice (some ⟨g,0,none⟩) n c) n l){k:Nat}(hk:k<n)(y:Int) :
  Own ZB e 1 (w.setCell ⟨g,k,none⟩ (.int .i64 y)) base (.slice (some ⟨g,0,none⟩) n c) n (l.set k y):=by
 have hkl:k<l.length:=by rw[h.len];exact hk
 have:=h.cell (x:=l[k]) (x':=y) (k:=k) (j:=0) (u:=.int .i64 y) Zh (List.getElem?_eq_getElem hkl) (by omega) rfl;simpa using this
def Zb5 (l:List Int)(lo hi:Int):Bool:=l.all λx=>inB x lo hi
theorem Zg7 (A:Option Addr)(n c:Nat)(l:List Int)(m lo hi:Int)(w:World)(hn:n<=1048576)(hr:Arr ZB 1 w w.heap.size A n l) :
  Calls Tryz.prog 272 #[.slice A n c,.int .i64 m,.int .i64 lo,.int .i64 hi] w λe w'=>e = .returned (.bool (Zb5 l lo hi&&((n:Int)==m)))/\Below w.heap.size w w':=by
 have hl:=Za hr.len;go_enter Tryz.func272,Tryz.ntmps272;go_wp2
 go_loopw [13] (λi wr=>∃k:Nat,k<=n/\i = .int .i64 k/\Below w.heap.size w wr/\Hid ((l.take k).all (λx=>inB x lo hi)=true)) (λi _=>n-(intOf i).toNat)
 case atStart=>exact⟨0,Nat.zero_le _,rfl,Below.refl _ _,Za (by simp)⟩
 case round =>
  obtain⟨k,hk,rfl,hb,hall⟩:=hrel;by_cases hlt:k<n
  ·obtain⟨b,o,x,rfl,hbl,hx,c0⟩:=hr.int hlt
   have d0:wr.cell? ⟨b,o+k,none⟩=some (.int .i64 x):=(hb.cell (p:=⟨b,o+k,none⟩) hbl).trans c0;have hX:=Za hx;clear hx c0;have hB:=Za hb;clear hr hb;cases h1:inB x lo hi
   ·have hd:Hid ((Zb5 l lo hi&&((n:Int)==m))=false):=Za (by unfold Zb5;rw[Xl hX.out h1];rfl)
    go_wp2_with (go_at_call 113;refine(Zu _ _ _ _).mono ?_;rintro e w' ⟨rfl,rfl⟩)
    go_ret;exact⟨ZW hd.out.symm,hB.out⟩
   ·go_wp2_with (go_at_call 113;refine(Zu _ _ _ _).mono ?_;rintro e w' ⟨rfl,rfl⟩)
    go_roundw
    case rel=>exact⟨k+1,by omega,by go_num,hB.out,Za (by rw[Zo hX.out,List.all_append,hall.out];simp[h1])⟩
    case measure=>simp[intOf];omega
  ·have hkn:k=n:=by omega
   subst hkn;have hB:=Za hb;clear hb;have hd:Hid (Zb5 l lo hi=true):=Za (by have e:=hall.out;rw[List.take_of_length_le (by rw[hl.out];exact Nat.le_refl _)] at e;exact e);go_wp2
   go_ret;exact⟨ZW (by rw[hd.out,Bool.true_and]),hB.out⟩
theorem ZbR (a b:Int)(w:World)(ha : -1000000<=a/\a<=1000000)(hb : -1000000<=b/\b<=1000000) :
  Calls Tryz.prog 291 #[.int .i64 a,.int .i64 b] w λe w'=>e = .returned (.int .i64 ((a-b).natAbs:Int))/\w=w':=by
 obtain⟨d,hd⟩:∃d,d=a-b:=⟨_,rfl⟩;obtain⟨d',hd'⟩:∃d,d=b-a:=⟨_,rfl⟩;have w1:IntKind.i64.wrap (a-b)=d:=by rw[←hd];exact IntWalk.i64_in _ (by omega)
 have w2:IntKind.i64.wrap (b-a)=d':=by rw[←hd'];exact IntWalk.i64_in _ (by omega)
 obtain⟨m,hm⟩:∃m,m=((a-b).natAbs:Int):=⟨_,rfl⟩;have hmx:max d d'=m:=by omega
 have hmh:=Za hm;clear hm hd hd';go_enter Tryz.func291,Tryz.ntmps291;go_wp2
 go_ret;exact⟨UL hmh.out,rfl⟩
theorem Zz:(Tryz.prog.info? 2).map (λi=>(i.zero,i.size,i.bytes))=some (some (.int .i64 0),1,8):=by kernel_rfl
def RB7 (l:List Int):Prop:=l.length<=7/\∀x∈l,1<=x/\x<=200
theorem ZfQ {l:List Int}(h:RB7 l)(k:Nat):0<=sumOf id (l.take k)/\sumOf id (l.take k)<=1400 :=
 YW (M:=200) (N:=7) (f:=id) (λx hx=>by have:=h.2 x hx;exact⟨by show 0<=x;omega,this.2⟩) h.1 (by omega) k
theorem Zc2 (A:Option Addr)(n c:Nat)(l:List Int)(w:World)(hl:RB7 l)(hr:Arr ZB 1 w w.heap.size A n l) :
  Calls Tryz.prog 273 #[.slice A n c] w λe w'=>∃v,e = .returned v/\Own ZB 2 1 w' w.heap.size v (placesL l).length (placesL l)/\Below w.heap.size w w':=by
 have hlen:=Za hr.len;have hn:n<=7:=by rw[←hr.len];exact hl.1
 have hbh:=Za (ZfQ hl);clear hl;go_enter Tryz.func273,Tryz.ntmps273;go_wp2
 go_loopw [3,4,10] (λv p i wr=>∃(k:Nat) (z:Int),k<=n/\i = .int .i64 k/\p = .int .i64 z/\Below w.heap.size w wr/\Own ZB 2 1 wr w.heap.size v (Qa l k).length (Qa l k)/\Hid (z=sumOf id (l.take k))) (λ_ _ i _=>n-(intOf i).toNat)
 case atStart =>
  have h0:Qa l 0=[]:=by simp[Qa]
  exact⟨0,0,Nat.zero_le _,rfl,rfl,(Below.refl w.heap.size w).alloc (Nat.le_refl _) _,by rw[h0];exact Own.none_made _ (Nat.le_refl _),Za rfl⟩
 case round =>
  obtain⟨k,z,hk,rfl,rfl,hb,ho,hz⟩:=hrel;have hO:=Za ho;by_cases hlt:k<n
  ·obtain⟨b,o,x,rfl,hbl,hx,c0⟩:=hr.int hlt
   have d0:wr.cell? ⟨b,o+k,none⟩=some (.int .i64 x):=(hb.cell (p:=⟨b,o+k,none⟩) hbl).trans c0;have hX:=Za hx;clear hx c0;have hB:=Za hb;have hnx:Hid (z+x=sumOf id (l.take (k+1))):=Za (by rw[X3 hX.out,←hz.out];rfl);have hzb:0<=z+x/\z+x<=1400:=by rw[hnx.out];exact hbh.out (k+1)
   have hw1:IntKind.i64.wrap ((n:Int)-1)=(n:Int)-1:=IntWalk.i64_in _ (by omega);have hpl:=Zav l k;have hll:(Qa l k).length<=7:=by omega
   clear hr hb ho hpl;by_cases hlast:k+1<n
   ·have hu:=Za (ZdI (l:=l) (k:=k) (by rw[hlen.out];exact hlast))
    have hc1:(k:Int)<(n:Int)-1:=by omega
    have hc2:decide ((k:Int)<(n:Int)-1)=true:=decide_eq_true hc1;go_wp2_with (at_builtin;refine Zp wr.heap.size rfl rfl (.tmp 23) (.tmp 25) rfl Tryz.underlying60 Zz rfl (by omega) (by omega) Zh ZJ rfl hO.out (z+x) _ rfl rfl (by omega) hB.out.size ?_;intro v5 w5 ho5 hg5 _;have hB5:=Za (Zi hB.out hO.out hg5 hB.out.size);have hO5:=Za ho5;clear ho5 hg5)
    go_roundw
    case rel=>exact⟨k+1,z+x,by omega,by go_num,rfl,hB5.out,by rw[hu.out,List.length_append,←hnx.out];exact hO5.out,hnx⟩
    case measure=>simp[intOf];omega
   ·have hu:=Za (ZjG (l:=l) (k:=k) (by rw[hlen.out];omega))
    have hc1:¬(k:Int)<(n:Int)-1:=by omega
    have hc2:decide ((k:Int)<(n:Int)-1)=false:=decide_eq_false hc1;go_wp2
    go_roundw
    case rel=>exact⟨k+1,z+x,by omega,by go_num,rfl,hB.out,by rw[hu.out];exact hO.out,hnx⟩
    case measure=>simp[intOf];omega
  ·have hkn:k=n:=by omega
   have hB:=Za hb;have hfin:Hid (Qa l k=placesL l):=Za (by unfold placesL;rw[hlen.out,hkn]);subst hkn;clear hb ho;go_wp2
   go_ret;exact⟨_,rfl,by rw[←hfin.out];exact hO.out,hB.out⟩
def PB7 (P:List Int):Prop:=P.length<=7/\∀x∈P,0<=x/\x<=1400
theorem Zbs {l:List Int}(h:RB7 l):PB7 (placesL l):=by
 refine⟨by rw[Wo];have:=h.1;omega,λx hx=>?_⟩;unfold placesL Qa at hx;obtain⟨i,_,rfl⟩:=List.mem_map.1 hx;exact ZfQ h (i+1)
theorem Wx {P:List Int}{k:Nat}{x:Int}(h:P[k]?=some x):P.getD k 0=x:=by rw[List.getD_eq_getElem?_getD,h];rfl
theorem JV (S b:Int)(A:Option Addr)(n c:Nat)(P:List Int)(k:Nat)(w:World)(hS:3<=S/\S<=60)(hP:PB7 P)(hk:k<n)(hnc:n<=c)(hr:Arr ZB 1 w w.heap.size A n P) :
  Calls Tryz.prog 274 #[.int .i64 S,.slice A n c,.int .i64 (k:Int),.int .i64 b] w λe w'=>e = .returned (.bool (Za0 S b P k))/\Below w.heap.size w w':=by
 have hlen:=Za hr.len;have hn:n<=7:=by rw[←hr.len];exact hP.1
 have hPh:=Za hP;obtain⟨g,o,x0,rfl,hbl0,hx0,c0⟩:=hr.int hk;have hcut:=Wn (P:=Tryz.prog) Tryz.underlying60 Zz g o n c k (by omega);have hX0:=Za hx0;have hkb:=hPh.out.2 x0 (List.mem_of_getElem? hx0);clear hP hx0;go_enter Tryz.func274,Tryz.ntmps274;go_wp2
 go_loopw [15] (λi wr=>∃j:Nat,j<=k/\i = .int .i64 j/\Below w.heap.size w wr/\Hid (Vu S b P k j=false)) (λi _=>k-(intOf i).toNat)
 case atStart=>exact⟨0,Nat.zero_le _,rfl,Below.refl _ _,Za rfl⟩
 case round =>
  obtain⟨j,hj,rfl,hb,hno⟩:=hrel;by_cases hlt:j<k
  ·obtain⟨g',o',y,hA,hbl1,hy,c1⟩:=hr.int (show j<n by omega)
   cases hA
   have d0:wr.cell? ⟨g,o+k,none⟩=some (.int .i64 x0):=(hb.cell (p:=⟨g,o+k,none⟩) hbl0).trans c0;have d1:wr.cell? ⟨g,o+j,none⟩=some (.int .i64 y):=(hb.cell (p:=⟨g,o+j,none⟩) hbl0).trans c1;have hY:=Za hy;have hyb:=hPh.out.2 y (List.mem_of_getElem? hy);have hB:=Za hb;have hstep:Hid (Vu S b P k (j+1)=decide (((x0-y-S).natAbs:Int)<=b)):=Za (by rw[Zaf,hno.out,Bool.false_or,Wx hX0.out,Wx hY.out]);obtain⟨d,hd⟩:∃d,d=x0-y:=⟨_,rfl⟩;have w1:IntKind.i64.wrap (x0-y)=d:=by rw[←hd];exact IntWalk.i64_in _ (by omega)
   rw[←hd] at hstep;have hdb : -1400<=d/\d<=1400:=by omega
   have hk0:(0:Int)<=(k:Int):=by omega
   have hkn:(k:Int)<(n:Int):=by omega
   clear hr hb hy c0 c1 hd hcut;by_cases hc:((d-S).natAbs:Int)<=b
   ·have hfin:Hid (Za0 S b P k=true):=Za (ZfC (j:=j+1) (by rw[hstep.out,decide_eq_true hc]) (by omega))
    have hc2:decide (((d-S).natAbs:Int)<=b)=true:=decide_eq_true hc;go_wp2_with fail
    refine(ZbR d S _ (by omega) (by omega)).mono ?_;rintro e w1 ⟨rfl,rfl⟩;obtain⟨q,hq⟩:∃q,q=((d-S).natAbs:Int):=⟨_,rfl⟩;rw[←hq] at hc hc2 ⊢;clear hq;go_wp2
    go_ret;exact⟨ZW hfin.out.symm,hB.out⟩
   ·have hnx:Hid (Vu S b P k (j+1)=false):=Za (by rw[hstep.out,decide_eq_false hc])
    have hc2:decide (((d-S).natAbs:Int)<=b)=false:=decide_eq_false hc;go_wp2_with fail
    refine(ZbR d S _ (by omega) (by omega)).mono ?_;rintro e w1 ⟨rfl,rfl⟩;obtain⟨q,hq⟩:∃q,q=((d-S).natAbs:Int):=⟨_,rfl⟩;rw[←hq] at hc hc2 ⊢;clear hq;go_wp2
    go_roundw
    case rel=>exact⟨j+1,by omega,by go_num,hB.out,hnx⟩
    case measure=>simp[intOf];omega
  ·have hjk:j=k:=by omega
   have hfin:Hid (Za0 S b P k=false):=Za (by have h:=hno.out;rw[hjk] at h;exact h);have hB:=Za hb;subst hjk;clear hb;go_wp2
   go_ret;exact⟨ZW hfin.out.symm,hB.out⟩
theorem Q5 (S b:Int)(A:Option Addr)(n c:Nat)(l:List Int)(w:World)(hS:3<=S/\S<=60)(hl:RB7 l)(hr:Arr ZB 1 w w.heap.size A n l) :
  Calls Tryz.prog 241 #[.int .i64 S,.slice A n c,.int .i64 b] w λe w'=>e = .returned (.int .i64 (mAbv S b l:Int))/\Below w.heap.size w w':=by
 have hPB:=Za (Zbs hl);obtain⟨P,hP⟩:∃P,P=placesL l:=⟨_,rfl⟩;have hfin:Hid (mAbv S b l=Jo S b P P.length):=Za (by rw[hP];rfl);rw[←hP] at hPB;have hp7:=hPB.out.1;go_enter Tryz.func241,Tryz.ntmps241;go_wp2_with fail
 refine(Zc2 A n c l _ hl hr).mono ?_;rw[←hP];rintro e w1 ⟨v,rfl,ho,hb⟩;obtain⟨A1,c1,rfl,hc1⟩:=ho.slice;have hO:=Za (ho.arr Zh);have hB:=Za hb;clear hb ho hP hr hl;go_wp2
 go_loopw [7,14] (λq i wr=>∃(k z:Nat),k<=P.length/\i = .int .i64 k/\q = .int .i64 (z:Int)/\Below w1.heap.size w1 wr/\Hid (z=Jo S b P k)) (λ_ i _=>P.length-(intOf i).toNat)
 case atStart=>exact⟨0,0,Nat.zero_le _,rfl,rfl,Below.refl _ _,Za rfl⟩
 case round =>
  obtain⟨k,z,hk,rfl,rfl,hb,hz⟩:=hrel;have hB2:=Za hb;clear hb;have hzb:z<=k:=by rw[hz.out];exact Zdn S b P k
  by_cases hlt:k<P.length
  ·cases ha:Za0 S b P k
   ·have hnx:Hid (z=Jo S b P (k+1)):=Za (by rw[ZaY ha];exact hz.out)
    go_wp2_with fail
    refine(JV S b A1 P.length c1 P k _ hS hPB.out hlt hc1 (hO.out.go hB2.out)).mono ?_;rw[ha];rintro e w2 ⟨rfl,hb⟩;replace hB2:=Za (Below.up hB2.out hb);clear hb;go_wp2
    go_roundw
    case rel=>exact⟨k+1,z,by omega,by go_num,rfl,hB2.out,hnx⟩
    case measure=>simp[intOf];omega
   ·have hnx:Hid (z+1=Jo S b P (k+1)):=Za (by rw[Qm ha,←hz.out])
    go_wp2_with fail
    refine(JV S b A1 P.length c1 P k _ hS hPB.out hlt hc1 (hO.out.go hB2.out)).mono ?_;rw[ha];rintro e w2 ⟨rfl,hb⟩;replace hB2:=Za (Below.up hB2.out hb);clear hb;go_wp2
    go_roundw
    case rel=>exact⟨k+1,z+1,by omega,by go_num,by go_num,hB2.out,hnx⟩
    case measure=>simp[intOf];omega
  ·have hkn:k=P.length:=by omega
   have hf2:Hid (z=mAbv S b l):=Za (by rw[hfin.out,←hkn];exact hz.out);clear hkn;go_wp2
   go_ret;exact⟨by rw[hf2.out];rfl,(Below.up hB.out hB2.out)⟩
def Y9 (l:List Int):Bool:=decide (l.length<=7)&&Zb5 l 1 200
theorem Qr {l:List Int}(h:Y9 l=true):RB7 l:=by
 unfold Y9 at h;rw[Bool.and_eq_true] at h;refine⟨of_decide_eq_true h.1,λx hx=>?_⟩;have:=List.all_eq_true.1 h.2 x hx;exact Zj.1 this
theorem ZbP (S:Int)(A:Option Addr)(n c:Nat)(l:List Int)(w:World)(hn:n<=1048576)(hS:inB S 3 60=true)(hr:Arr ZB 1 w w.heap.size A n l) :
  Calls Tryz.prog 239 #[.int .i64 S,.slice A n c] w λe w'=>e = .returned (.bool (Y9 l))/\Below w.heap.size w w':=by
 have hlen:=hr.len;by_cases h7:n<=7
 ·have hm:Hid (Y9 l=Zb5 l 1 200):=Za (by unfold Y9;rw[decide_eq_true (by omega)];rfl)
  have hd:decide ((n:Int)<=7)=true:=decide_eq_true (by omega);clear hlen;go_enter Tryz.func239,Tryz.ntmps239;go_wp2_with fail
  refine(ZQ S _).mono ?_;rw[hS];rintro e w2 ⟨rfl,rfl⟩;go_wp2_with fail
  refine(Zg7 A n c l n 1 200 _ hn hr).mono ?_;rw[beq_self_eq_true,Bool.and_true];rintro e w2 ⟨rfl,hb⟩;have hB:=Za hb;clear hb;go_wp2
  go_ret;exact⟨ZW hm.out.symm,hB.out⟩
 ·have hm:Hid (Y9 l=false):=Za (by unfold Y9;rw[decide_eq_false (by omega)];rfl)
  have hd:decide ((n:Int)<=7)=false:=decide_eq_false (by omega);clear hlen;go_enter Tryz.func239,Tryz.ntmps239;go_wp2_with fail
  refine(ZQ S _).mono ?_;rw[hS];rintro e w2 ⟨rfl,rfl⟩;go_wp2
  go_ret;exact⟨ZW hm.out.symm,Below.refl _ _⟩
theorem Zfi (S b:Int)(A:Option Addr)(n c:Nat)(l:List Int)(w:World)(hn:n<=1048576)(hS:inB S 3 60=true)(hr:Arr ZB 1 w w.heap.size A n l) :
  Calls Tryz.prog 188 #[.int .i64 S,.slice A n c,.int .i64 b] w λe w'=>e = .returned (.int .i64 (if Y9 l then (if inB b 0 5 then 0 else 2) else 1))/\Below w.heap.size w w':=by
 cases h1:Y9 l
 ·go_enter Tryz.func188,Tryz.ntmps188
  go_wp2_with fail
  refine(ZbP S A n c l _ hn hS hr).mono ?_;rw[h1];rintro e w2 ⟨rfl,hb⟩;have hB:=Za hb;clear hb;go_wp2
  go_ret;exact⟨rfl,hB.out⟩
 cases h2:inB b 0 5
 all_goals
  go_enter Tryz.func188,Tryz.ntmps188;go_wp2_with fail
  refine(ZbP S A n c l _ hn hS hr).mono ?_;rw[h1];rintro e w2 ⟨rfl,hb⟩;have hB:=Za hb;clear hb;go_wp2_with (go_at_call 113;refine(Zu _ _ _ _).mono ?_;rintro e w' ⟨rfl,rfl⟩)
  go_ret;exact⟨rfl,hB.out⟩
def ordC (S b:Int)(rods:List Int):Int:=if Y9 rods then (if inB b 0 5 then (if 0<(mOrd S b rods).2 then 3 else 0) else 2) else 1
def ordL (S b:Int)(rods:List Int):List Int:=if ordC S b rods=0 then (mOrd S b rods).1 else []
def manyOf (S:Nat)(br:List Int)(f:Int):Nat:=1+((List.range (S-1)).takeWhile λj=>br.contains ((f+((j+1:Nat):Int))%(S:Int))).length
theorem Zao {p:Nat→Bool}{m k:Nat}(hk:k<=m)(h:∀j,j<k→p j=true)(he:k=m\/p k=false):((List.range m).takeWhile p).length=k:=by
 obtain⟨d,rfl⟩:∃d,m=k+d:=⟨m-k,by omega⟩;rw[List.range_add,List.takeWhile_append_of_pos (λx hx=>h x (List.mem_range.1 hx)),List.length_append,List.length_range]
 suffices h2:((List.map (λx=>k+x) (List.range d)).takeWhile p).length=0 by omega
 cases d with
 | zero=>rfl
 | succ d =>
  have hp:p k=false:=by
   rcases he with he|he
   ·omega
   ·exact he
  rw[List.range_succ_eq_map,List.map_cons,List.takeWhile_cons];simp[hp]
theorem V4 {S:Nat}{br:List Int}{f:Int}{k:Nat}(h1:1<=k)(hk:k<=S)(h:∀j,1<=j→j<k→br.contains ((f+(j:Int))%(S:Int))=true)(he:k=S\/br.contains ((f+(k:Int))%(S:Int))=false):manyOf S br f=k:=by
 unfold manyOf;rw[Zao (k:=k-1) (by omega) (λj hj=>h (j+1) (by omega) (by omega)) ?_]
 ·omega
 ·rcases he with he|he
  ·left;omega
  ·right;rw[show k-1+1=k by omega];exact he
theorem QK {S:Nat}{br:List Int}{f:Int}(hS:1<=S):1<=manyOf S br f/\manyOf S br f<=S:=by
 unfold manyOf;have:∀p:Nat→Bool,((List.range (S-1)).takeWhile p).length<=S-1:=λp=>by
  have h:=(List.takeWhile_sublist (l:=List.range (S-1)) p).length_le
  rwa [List.length_range] at h
 have:=this λj=>br.contains ((f+((j+1:Nat):Int))%(S:Int))
 omega
def XJ (S:Nat)(br:List Int)(f:Int):Bool:=!(br.contains ((f+(S:Int)-1)%(S:Int))&&(decide (br.length<S)||decide (0<f)))
def Xv (S:Nat)(br:List Int)(k:Nat):List (Int × Int):=((br.take k).filter (XJ S br)).map λf=>(f,(manyOf S br f:Int))
theorem ZcH {S:Nat}{br:List Int}{k:Nat}{f:Int}(hx:br[k]?=some f)(h:XJ S br f=true):Xv S br (k+1)=Xv S br k++[(f,(manyOf S br f:Int))]:=by
 unfold Xv;rw[Zo hx,List.filter_append,List.map_append];simp[h]
theorem ZeS {S:Nat}{br:List Int}{k:Nat}{f:Int}(hx:br[k]?=some f)(h:XJ S br f=false):Xv S br (k+1)=Xv S br k:=by
 unfold Xv;rw[Zo hx,List.filter_append,List.map_append];simp[h]
theorem Wq (S:Nat)(br:List Int)(k:Nat):(Xv S br k).length<=k:=by
 unfold Xv;rw[List.length_map];have h:=List.length_filter_le (XJ S br) (br.take k);rw[List.length_take] at h;omega
def YU (S:Nat)(br:List Int):List (Int × Int):=Xv S br br.length
def Yi (S:Nat)(p:Int × Int)(i:Nat):List Int:=(List.range i).map λj:Nat=>(p.1+2*(j:Int))%(S:Int)
theorem Ja (S:Nat)(p:Int × Int)(i:Nat):Yi S p (i+1)=Yi S p i++[(p.1+2*(i:Int))%(S:Int)]:=by
 unfold Yi;rw[List.range_succ,List.map_append];rfl
def XZ (S:Nat)(p:Int × Int):List Int:=Yi S p ((p.2.toNat+1)/2)
def gapsUp (S:Nat)(L:List (Int × Int))(k:Nat):List Int:=(L.take k).flatMap (XZ S)
theorem VI {S:Nat}{L:List (Int × Int)}{k:Nat}{p:Int × Int}(h:L[k]?=some p):gapsUp S L (k+1)=gapsUp S L k++XZ S p:=by
 unfold gapsUp;rw[Zo h,List.flatMap_append];simp
def ZeV (S:Nat)(br:List Int):List Int:=(gapsUp S (YU S br) (YU S br).length).mergeSort λx y=>decide (x<=y)
end Go.Proofs.YtfpaejlipaainaaGreatDoor
