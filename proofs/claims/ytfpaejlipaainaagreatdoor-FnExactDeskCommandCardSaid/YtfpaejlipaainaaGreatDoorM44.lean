/- Texts that belong together, joined: contracts and plain laws. No statement is proved here. -/
import Derived.Test.YtfpaejlipaainaaGreatDoorM43
set_option maxRecDepth 100000
set_option maxHeartbeats 8000000
namespace Go.Proofs.YtfpaejlipaainaaGreatDoor
open Go.ChangeShapes Go.WideShapes Go.ChangeAt Go.RowKit Go.Deep
theorem Zee {P:Program}{ops:Array Oper}{o:Oper}{a:Act}{K:Act→World→Prop}{Q:Exit→Act→World→Prop}{E:Prop}{w:World}{g n cap e bytes:Nat}{t:TypeId}{cur:Array Value}{y:Value}
  (hgd:o.guard=none) (so x:Operand) (ho:o.op = .call { callee:=.builtin .append,args:=#[so,x],argTypes:=#[t,t] })
  (ht:P.underlying t=some (.slice e)) {z:Value} (hinfo:(P.info? e).map (λi=>(i.zero,i.size,i.bytes))=some (some z,1,bytes))
  (hso:a.eval so = .slice (some ⟨g,0,none⟩) n cap) (hg:w.heap[g]?=some (.cells cur e (0,0))) (hx:a.eval x = .slice (some ⟨w.heap.size,0,none⟩) 1 1) (h1:y.oneCell'=true) (hn:n+1<=cap) (hcap:cur.size=cap)
  (h:K (a.put o.dst (.slice (some ⟨g,0,none⟩) (n+1) cap)) ((w.alloc (.cells #[y] e)).setRow g (cur.toList.take n++y :: cur.toList.drop (n+1)).toArray)) :
  if Region.wanted o (yielded ops a.tmps)=true then Oper.wp P o a (w.alloc (.cells #[y] e)) K Q else E:=by
 have hw:Region.wanted o (yielded ops a.tmps)=true:=by simp[Region.wanted,hgd]
 rw[if_pos hw];obtain⟨i,hi,hz0,hz1,hz2⟩:=info_parts hinfo;have hg2:(w.alloc (.cells #[y] e)).heap[g]?=some (.cells cur e (0,0)):=(Below.heap_alloc _ _ _ (Array.getElem?_eq_some_iff.1 hg).1).trans hg;have hrun:=run_append_room (P:=P) (w.alloc (.cells #[y] e)) t o.type e i ht hi g n cap cur hg2 ⟨w.heap.size,0,none⟩ 1 1 [y] (by rw[hz1];rfl) (by
  intro j u hu;have hj:j=0:=by have:=Zq hu;simp at this;exact this
  subst hj;rw[Addr.add_lit,Nat.zero_add,cell_of_row _ _ _ _ _ _ (heap_alloc_new w _)];simpa using hu) (by intro u hu;rw[List.mem_singleton.1 hu];exact h1) hn (by rw[hz1];simp;omega)
 rw[hz1,Nat.mul_one,List.length_singleton,List.append_assoc,List.singleton_append] at hrun;unfold Oper.wp execOp;simp only[ho,resolve,invoke,builtin,Sem.run_bind,Sem.run_pure,Result.andThen_ok,List.map_toArray,List.map_cons,List.map_nil,hso,hx,hrun];exact h
def TK (w:World)(base gt:Nat)(t:List Int):Prop:=∃cur,w.heap[gt]?=some (.cells cur 2 (0,0))/\cur.size=4/\cur.toList.take t.length=t.map (Value.int .i64)/\base<=gt
section
variable {w w':World}{base gt:Nat}{t:List Int}
theorem ZdN (l:List Int):l.flatMap ZB=l.map (Value.int .i64):=by
 induction l with
 | nil=>rfl
 | cons a l ih=>rw[List.flatMap_cons,ih];rfl
theorem TK.own (h:TK w base gt t)(hl:t.length<=4):Own ZB 2 1 w base (.slice (some ⟨gt,0,none⟩) t.length 4) t.length t:=by
 obtain⟨cur,h1,h2,h3,h4⟩:=h;exact⟨rfl,by rw[ZdN,List.length_map,Nat.mul_one],.inr ⟨gt,4,cur,rfl,h4,h1,hl,by unfold maxLen;omega,by rw[h2],by rw[ZdN,Nat.mul_one];exact h3⟩⟩
theorem TK.lt (h:TK w base gt t):gt<w.heap.size:=let ⟨_,h1,_⟩:=h;(Array.getElem?_eq_some_iff.1 h1).1
theorem TK.below (h:TK w base gt t)(hb:Below w.heap.size w w'):TK w' base gt t:=let ⟨cur,h1,h2⟩:=h;⟨cur,Jn h1 hb,h2⟩
theorem TK.set (h:TK w base gt t){g i:Nat}{u:Value}(hne:gt≠g):TK (w.setCell ⟨g,i,none⟩ u) base gt t:=let ⟨cur,h1,h2⟩:=h;⟨cur,ZX h1 (Zl w g i u) hne,h2⟩
theorem TK.less {n:Int}(h:TK w base gt (t++[n])):TK w base gt t:=by
 obtain⟨cur,h1,h2,h3,h4⟩:=h;refine⟨cur,h1,h2,?_,h4⟩;have e:=congrArg (List.take t.length) h3;rw[List.take_take,List.length_append,Nat.min_eq_left (by omega),List.map_append,List.take_left' (by rw[List.length_map])] at e;exact e
theorem TK.push {cur:Array Value}(h1:w.heap[gt]?=some (.cells cur 2 (0,0)))(h2:cur.size=4)(h3:cur.toList.take t.length=t.map (Value.int .i64))(h4:base<=gt)(n:Int)(hl:t.length<4) :
  TK (w.setRow gt (cur.toList.take t.length++Value.int .i64 n :: cur.toList.drop (t.length+1)).toArray) base gt (t++[n]):=by
 rw[←List.singleton_append,←List.append_assoc];refine⟨_,setRow_heap w gt cur _ _ _ h1,?_,?_,h4⟩
 ·have:cur.toList.length=4:=by rw[Array.length_toList];exact h2
  simp only[List.size_toArray,List.length_append,List.length_take,List.length_drop,List.length_singleton,this];omega
 ·rw[h3,List.length_append,List.length_singleton,List.map_append]
  show List.take (t.length+1) (List.map (Value.int .i64) t++[.int .i64 n]++cur.toList.drop (t.length+1))=_
  rw[List.take_left' (by simp)];rfl
end
theorem XT {w:World}{u0 u1 u2 u3 u4 u5 u6 u7:Value}{t:TypeId}{g:Nat}(h:w.heap[g]?=some (.cells #[u0,u1,u2,u3,u4,u5,u6,u7] t (0,0))) :
  w.cell? ⟨g,0,none⟩=some u0/\w.cell? ⟨g,1,none⟩=some u1/\w.cell? ⟨g,2,none⟩=some u2/\w.cell? ⟨g,3,none⟩=some u3/\w.cell? ⟨g,4,none⟩=some u4/\w.cell? ⟨g,5,none⟩=some u5/\w.cell? ⟨g,6,none⟩=some u6/\w.cell? ⟨g,7,none⟩=some u7/\∀j:Nat,w.frozen? ⟨g,j,none⟩=false :=
 ⟨by rw[cell_of_row _ _ _ _ _ _ h];rfl,by rw[cell_of_row _ _ _ _ _ _ h];rfl,by rw[cell_of_row _ _ _ _ _ _ h];rfl,by rw[cell_of_row _ _ _ _ _ _ h];rfl,by rw[cell_of_row _ _ _ _ _ _ h];rfl,by rw[cell_of_row _ _ _ _ _ _ h];rfl,by rw[cell_of_row _ _ _ _ _ _ h];rfl,by rw[cell_of_row _ _ _ _ _ _ h];rfl,λj=>frozen_of_row _ _ _ _ _ h⟩
structure WK (w:World)(base g gt:Nat)(A:Option Addr)(n c:Nat)(l:List Kind)(q:Int)(vb:Value)(st:Option (List Int))(ways:Int):Prop where
 box:w.heap[g]?=some (.cells #[.slice A n c,.int .i64 q,.bool true,.bool st.isSome,vb,.int .i64 (sumOf id (st.getD [])),.int .i64 (reachL l (st.getD [])),.int .i64 ways] 228 (0,0))
 best:Res ZB 2 1 w base vb (st.getD []).length (st.getD [])
 far:vb.ownBlock≠some gt
 kinds:Arr Kind.cells 2 w base A n l
 hg:base<=g
section
variable {w w':World}{base g gt:Nat}{A:Option Addr}{n c:Nat}{l:List Kind}{q:Int}{vb:Value}{st:Option (List Int)}{ways:Int}{t:List Int}
theorem WK.lt (h:WK w base g gt A n c l q vb st ways):g<w.heap.size:=(Array.getElem?_eq_some_iff.1 h.box).1
theorem WK.bw (h:WK w base g gt A n c l q vb st ways):base<=w.heap.size:=Nat.le_trans h.hg (Nat.le_of_lt h.lt)
theorem WK.below (h:WK w base g gt A n c l q vb st ways)(hb:Below w.heap.size w w'):WK w' base g gt A n c l q vb st ways :=
 ⟨Jn h.box hb,h.best.below hb,h.far,h.kinds.below (hb.mono h.bw),h.hg⟩
theorem Res.farB {α:Type}{cells:α→List Value}{e s base' m k:Nat}{v:Value}{l:List α}(h:Res cells e s w base' v m l)(hg:w.grownBy w' (some k))(hv:v.ownBlock≠some k):Res cells e s w' base' v m l :=
 ⟨h.1,h.2.1,λhn=>(h.2.2 hn).kept hg (.inr hv)⟩
theorem Res.farK {m:Nat}{v:Value}{l:List Int}{base':Nat}{cs:Array Value}(h:Res ZB 2 1 w base' v m l)(hb:w.heap[g]?=some (.cells cs 228 (0,0)))(hg:w.grownBy w' (some g)):Res ZB 2 1 w' base' v m l :=
 ⟨h.1,h.2.1,λhn=>(h.2.2 hn).kept hg (.inr (Z0 (h.2.2 hn) hb (by decide)))⟩
theorem WK.wayed (h:WK w base g gt A n c l q vb st ways)(y:Int):WK (w.setCell ⟨g,7,none⟩ (.int .i64 y)) base g gt A n c l q vb st y :=
 ⟨Zk h.box 7 _,h.best.farK h.box (Zl _ _ _ _),h.far,h.kinds.below ((Below.refl base w).setCell (p:=⟨g,7,none⟩) h.hg _),h.hg⟩
theorem TK.ne (h:TK w base gt t)(hk:WK w base g gt A n c l q vb st ways):gt≠g:=by
 obtain⟨cur,h1,_⟩:=h;rintro rfl;rw[hk.box] at h1;injection h1 with h1
 injection h1 with _ h1
 exact absurd h1 (by decide)
theorem Ue (w:World)(g:Nat)(cs:Array Value):w.grownBy (w.setRow g cs) (some g) :=
 ⟨rfl,rfl,rfl,by simp[World.setRow],λk _ hne=>setRow_other w g k cs (λe=>hne (by rw[e]))⟩
theorem WK.row (h:WK w base g gt A n c l q vb st ways)(hne:gt≠g)(hb:base<=gt)(cs:Array Value):WK (w.setRow gt cs) base g gt A n c l q vb st ways:=by
 have hgr:=Ue w gt cs;exact⟨ZX h.box hgr (Ne.symm hne),h.best.farB hgr h.far,h.far,h.kinds.below ((Below.refl base w).grown hgr (by have:=h.bw;omega) (λk e=>by cases e;exact hb)),h.hg⟩
end
def ZiI (l:List Kind)(t:List Int)(b:Option (List Int)):Bool:=match b with|none=>true|some u=>Y2 (sumOf id t) (reachL l t) (sumOf id u) (reachL l u)
theorem ZjZ {l:List Kind}{q:Int}{b:Option (List Int)}{t:List Int}(h:q<=reachL l t)(h2:ZiI l t b=true):bestS l q b t=some t:=by
 unfold bestS;rw[if_pos ⟨h,h2⟩]
theorem Zkq {l:List Kind}{q:Int}{b:Option (List Int)}{t:List Int}(h:ZiI l t b=false):bestS l q b t=b:=by
 unfold bestS;rw[if_neg λe=>by
  have e2:ZiI l t b=true:=e.2;rw[h] at e2;cases e2]
theorem Zj0 {l:List Kind}{q:Int}{b:Option (List Int)}{t:List Int}(h:¬q<=reachL l t):bestS l q b t=b:=by
 unfold bestS;rw[if_neg λe=>h e.1]
theorem Zcx (w:World)(base g gt:Nat)(A:Option Addr)(n c:Nat)(l:List Kind)(q:Int)(vb:Value)(st:Option (List Int))(ways:Int)(t:List Int)(h:WK w base g gt A n c l q vb st ways) :
  Calls Tryz.prog 283 #[.pointer (some ⟨g,0,none⟩),.int .i64 (sumOf id t),.int .i64 (reachL l t)] w λe w'=>e = .returned (.bool (ZiI l t st))/\w=w':=by
 obtain⟨R,hR⟩:∃R,R=sumOf id t:=⟨_,rfl⟩;obtain⟨a,ha⟩:∃a,a=reachL l t:=⟨_,rfl⟩;have hRh:=Za hR;have hah:=Za ha;obtain⟨c0,c1,c2,c3,c4,c5,c6,c7,cf⟩:=XT h.box;rw[←hR,←ha];clear hR ha h;cases st with
 | none =>
  go_enter Tryz.func283,Tryz.ntmps283;go_wp2
  go_ret;exact⟨rfl,rfl⟩
 | some u =>
  obtain⟨r',hr'⟩:∃r',r'=sumOf id u:=⟨_,rfl⟩;obtain⟨a',ha'⟩:∃a',a'=reachL l u:=⟨_,rfl⟩;have hM2:Hid (ZiI l t (some u)=Y2 R a r' a'):=Za (by rw[hr',ha',hRh.out,hah.out];rfl);simp only[Option.isSome,Option.getD] at c3 c5 c6;rw[←hr'] at c5;rw[←ha'] at c6;clear hr' ha';by_cases h1:R<r'
  ·have e1:decide (R<r')=true:=decide_eq_true h1
   go_enter Tryz.func283,Tryz.ntmps283;go_wp2
   go_ret;exact⟨ZW (by rw[hM2.out];unfold Y2;rw[e1,Bool.true_or]),rfl⟩
  ·have e1:decide (R<r')=false:=decide_eq_false h1
   by_cases h2:R=r'
   ·have e2:(R==r')=true:=by simpa using h2
    have e3:decide (R=r')=true:=decide_eq_true h2;go_enter Tryz.func283,Tryz.ntmps283;go_wp2
    go_ret;exact⟨ZW (by rw[hM2.out];unfold Y2;rw[e1,e3,Bool.false_or,Bool.true_and]),rfl⟩
   ·have e2:(R==r')=false:=by simpa using h2
    have e3:decide (R=r')=false:=decide_eq_false h2;go_enter Tryz.func283,Tryz.ntmps283;go_wp2
    go_ret;exact⟨ZW (by rw[hM2.out];unfold Y2;rw[e1,e3,Bool.false_or,Bool.false_and]),rfl⟩
theorem ZdE {l:List Kind}{t:List Int}(hl:KB l)(ht:TB t)(hn:l.length<=4):0<=reachL l t/\reachL l t<=9600:=by
 have h:=Qv hl ht hn (l.zip t).length;rw[List.take_length] at h;exact h
theorem ZfO {t:List Int}(h:TB t)(hn:t.length<=4):0<=sumOf id t/\sumOf id t<=48:=by
 have:=YW (M:=12) (N:=4) (f:=(id:Int→Int)) (l:=t) (λx hx=>h x hx) hn (by omega) t.length;rw[List.take_length] at this;omega
theorem ZhO (t:List Int)(n:Int):sumOf id (t++[n])=sumOf id t+n:=by unfold sumOf;simp
theorem Zdo {t:List Int}{n:Int}(h:TB t)(h0:0<=n)(h1:n<=12):TB (t++[n]):=by
 intro x hx;rcases List.mem_append.1 hx with hx|hx
 ·exact h x hx
 ·rw[List.mem_singleton.1 hx];exact⟨h0,h1⟩
theorem Zhq {α:Type}{l ks:List α}{k:α}{m:Nat}(h:l.drop m=k :: ks):l[m]?=some k/\l.drop (m+1)=ks:=by
 have hm:m<l.length:=by
  rcases Nat.lt_or_ge m l.length with h1|h1
  ·exact h1
  ·rw[List.drop_of_length_le h1] at h;cases h
 rw[List.drop_eq_getElem_cons hm] at h;injection h with h1 h2
 exact⟨by rw[List.getElem?_eq_getElem hm,h1],h2⟩
theorem WK.put18 {w:World}{base g gt:Nat}{A:Option Addr}{n c:Nat}{l:List Kind}{q:Int}{vb v4 x5 x6:Value}{ways:Int}{t:List Int}
  (hbx:w.heap[g]?=some (.cells #[.slice A n c,.int .i64 q,.bool true,.bool true,vb,x5,x6,.int .i64 ways] 228 (0,0))) (hk:Arr Kind.cells 2 w base A n l) (hg:base<=g) (ho:Own ZB 2 1 w base v4 t.length t) (hfar:v4.ownBlock≠some gt) :
  WK (((w.setCell ⟨g,4,none⟩ v4).setCell ⟨g,5,none⟩ (.int .i64 (sumOf id t))).setCell ⟨g,6,none⟩ (.int .i64 (reachL l t))) base g gt A n c l q v4 (some t) ways:=by
 have b1:=Zk hbx 4 v4;have b2:=Zk b1 5 (.int .i64 (sumOf id t));have b3:=Zk b2 6 (.int .i64 (reachL l t));exact⟨b3,((ho.res.farK hbx (Zl _ _ _ _)).farK b1 (Zl _ _ _ _)).farK b2 (Zl _ _ _ _),hfar,hk.below ((((Below.refl base w).setCell (p:=⟨g,4,none⟩) hg _).setCell (p:=⟨g,5,none⟩) hg _).setCell (p:=⟨g,6,none⟩) hg _),hg⟩
theorem ZdM {P:Program}{co:Code}{K:Exit→Act→World→Prop}{a:Act}{W:World}{φ:World→Prop}(h:φ W)(k:∀W1,φ W1→Code.wp P co K a W1):Code.wp P co K a W:=k W h
def ZiW (w:World)(base g gt:Nat)(A:Option Addr)(n c:Nat)(l:List Kind)(q:Int)(t:List Int)(st:Option (List Int))(w':World):Prop:=∃vb ways,WK w' base g gt A n c l q vb st ways/\TK w' base gt t/\Below base w w'
theorem Zd8 (base g gt:Nat)(A:Option Addr)(n c:Nat)(l:List Kind)(q:Int)(hl:KB l)(hn4:l.length<=4)(hn:l.length=n) :
  ∀(ks:List Kind) (t:List Int) (st:Option (List Int)) (vb:Value) (ways:Int) (w:World),l.drop t.length=ks→t.length<=n→TB t→WK w base g gt A n c l q vb st ways→TK w base gt t →
  Calls Tryz.prog 259 #[.pointer (some ⟨g,0,none⟩),.slice (some ⟨gt,0,none⟩) t.length 4,.int .i64 (sumOf id t),.int .i64 (reachL l t)] w λe w'=>e = .returned (.tuple #[])/\ZiW w base g gt A n c l q t (wkS l q ks t st) w':=by
 intro ks;have hnh:=Za hn;have hlh:=Za hl;have hn5:n<=4:=by omega
 clear hn hl
 induction ks with
 | nil =>
  intro t st vb ways w hd htn htb hW hT;have htl:t.length=n:=by
   have:=congrArg List.length hd;rw[List.length_drop,hnh.out] at this;simp at this;omega
  have hWh:=Za hW;have hTh:=Za hT;have hne:=Za (hT.ne hW);have hbt:Hid (base<=gt):=Za (let ⟨_,_,_,_,h⟩:=hT;h);have hs0:=Za (show wkS l q [] t st=bestS l q st t from rfl);have hbet:=Za (λW (ways:Int) (hW:WK W base g gt A n c l q vb st ways)=>Zcx W base g gt A n c l q vb st ways t hW);have hzz:((t.length:Int)==(n:Int))=true:=by rw[htl];simp
  have ht4:t.length<=4:=by omega
  have hbq:Hid ((q<=reachL l t→ZiI l t st=true→bestS l q st t=some t)/\(ZiI l t st=false→bestS l q st t=st)/\(¬q<=reachL l t→bestS l q st t=st)):=Za ⟨λh h2=>ZjZ h h2,λh=>Zkq h,λh=>Zj0 h⟩;have hput:=Za (λW v4 x5 x6 ways hbx hk hg ho hf=>WK.put18 (w:=W) (base:=base) (g:=g) (gt:=gt) (A:=A) (n:=n) (c:=c) (l:=l) (q:=q) (vb:=vb) (v4:=v4) (x5:=x5) (x6:=x6) (ways:=ways) (t:=t) hbx hk hg ho hf);obtain⟨R,hR⟩:∃R,R=sumOf id t:=⟨_,rfl⟩;obtain⟨a,ha⟩:∃a,a=reachL l t:=⟨_,rfl⟩;have hRh:=Za hR;have hah:=Za ha;rw[←hR,←ha] at hbet hput ⊢;rw[←ha] at hbq;obtain⟨c0,c1,c2,c3,c4,c5,c6,c7,cf⟩:=XT hW.box;clear hd hW hT hR ha htl;by_cases hq:a=q
  ·have hqe:(a==q)=true:=by simpa using hq
   go_enter Tryz.func259,Tryz.ntmps259;clear hq;go_upto_region 4 with fail
   refine ZdM (φ:=λW=>∃ways,WK W base g gt A n c l q vb st ways/\TK W base gt t/\Below base w W) ⟨_,hWh.out.wayed _,hTh.out.set hne.out,(Below.refl base w).setCell (p:=⟨g,7,none⟩) hWh.out.hg _⟩ ?_;rintro W1 ⟨ways1,n0,n1,n2⟩;have hW1:=Za n0;have hT1:=Za n1;have hB1:=Za n2;clear n0 n1 n2 c0 c1 c2 c3 c4 c5 c6 c7 cf hWh hTh;obtain⟨c0,c1,c2,c3,c4,c5,c6,c7,cf⟩:=XT hW1.out.box;by_cases hqa:q<=a
   ·have hd:decide (q<=a)=true:=decide_eq_true hqa
    go_wp2_with fail
    refine(hbet.out _ ways1 hW1.out).mono ?_;cases hb:ZiI l t st with
    | false =>
     have hfin:Hid (wkS l q [] t st=st):=Za (hs0.out.trans (hbq.out.2.1 hb));rintro e w2 ⟨rfl,rfl⟩;clear hb;go_wp2
     refine bodyPost_ret (results_none rfl _ _ _) rfl ?_;exact⟨rfl,vb,ways1,by rw[hfin.out];exact hW1.out,hT1.out,hB1.out⟩
    | true =>
     have hfin:Hid (wkS l q [] t st=some t):=Za (hs0.out.trans (hbq.out.1 hqa hb));rintro e w2 ⟨rfl,rfl⟩;clear hb;go_upto_region 6 with fail
     refine ZdM (φ:=λW=>W.heap[g]?=some (.cells #[.slice A n c,.int .i64 q,.bool true,.bool true,vb,.int .i64 (sumOf id (st.getD [])),.int .i64 (reachL l (st.getD [])),.int .i64 ways1] 228 (0,0))/\TK W base gt t/\Arr Kind.cells 2 W base A n l/\Below base w W) ⟨Zk hW1.out.box 3 (.bool true),hT1.out.set hne.out,hW1.out.kinds.below ((Below.refl _ _).setCell (p:=⟨g,3,none⟩) hW1.out.hg _),hB1.out.setCell (p:=⟨g,3,none⟩) hW1.out.hg _⟩ ?_;rintro W2 ⟨n0,n1,n2,n3⟩;have hX2:=Za n0;have hT2:=Za n1;have hA2:=Za n2;have hB2:=Za n3;have hgg:=Za hW1.out.hg;have hbw:Hid (base<=W2.heap.size):=Za (Nat.le_trans hbt.out (Nat.le_of_lt n1.lt));clear n0 n1 n2 n3 c0 c1 c2 c3 c4 c5 c6 c7 cf hW1 hT1 hB1 hd hqa hqe;go_wp2_with fail
     refine(U6 (some ⟨gt,0,none⟩) t.length 4 t _ (by omega) ((hT2.out.own ht4).arr Zh)).mono ?_;rintro e w4 ⟨v4,rfl,ho4,hb4⟩;have hX4:=Za (Jn hX2.out hb4);have hT4:=Za (hT2.out.below hb4);have hA4:=Za (hA2.out.below (hb4.mono hbw.out));have hB4:=Za (hB2.out.trans (hb4.mono hbw.out));have hO4:=Za (ho4.less hbw.out);obtain⟨A4,c4,rfl,_⟩:=ho4.slice;have hF4:Hid ((Value.slice A4 t.length c4).ownBlock≠some gt):=Za (λe=>by have h1:=(ho4.2.lt gt e).1;have h2:=hT2.out.lt;omega);clear ho4 hb4;obtain⟨c0,c1,c2,c3,c4,c5,c6,c7,cf⟩:=XT hX4.out;go_wp2
     refine bodyPost_ret (results_none rfl _ _ _) rfl ?_;exact⟨rfl,_,ways1,by rw[hfin.out];exact hput.out _ _ _ _ _ hX4.out hA4.out hgg.out hO4.out hF4.out,((hT4.out.set hne.out).set hne.out).set hne.out,((hB4.out.setCell (p:=⟨g,4,none⟩) hgg.out _).setCell (p:=⟨g,5,none⟩) hgg.out _).setCell (p:=⟨g,6,none⟩) hgg.out _⟩
   ·have hd:decide (q<=a)=false:=decide_eq_false hqa
    have hfin:Hid (wkS l q [] t st=st):=Za (hs0.out.trans (hbq.out.2.2 hqa));go_wp2
    refine bodyPost_ret (results_none rfl _ _ _) rfl ?_;exact⟨rfl,vb,ways1,by rw[hfin.out];exact hW1.out,hT1.out,hB1.out⟩
  ·have hqe:(a==q)=false:=by simpa using hq
   clear hq;go_enter Tryz.func259,Tryz.ntmps259;go_upto_region 4 with fail
   refine ZdM (φ:=λW=>∃ways,WK W base g gt A n c l q vb st ways/\TK W base gt t/\Below base w W) ⟨_,hWh.out,hTh.out,Below.refl _ _⟩ ?_;rintro W1 ⟨ways1,n0,n1,n2⟩;have hW1:=Za n0;have hT1:=Za n1;have hB1:=Za n2;clear n0 n1 n2 c0 c1 c2 c3 c4 c5 c6 c7 cf hWh hTh;obtain⟨c0,c1,c2,c3,c4,c5,c6,c7,cf⟩:=XT hW1.out.box;by_cases hqa:q<=a
   ·have hd:decide (q<=a)=true:=decide_eq_true hqa
    go_wp2_with fail
    refine(hbet.out _ ways1 hW1.out).mono ?_;cases hb:ZiI l t st with
    | false =>
     have hfin:Hid (wkS l q [] t st=st):=Za (hs0.out.trans (hbq.out.2.1 hb));rintro e w2 ⟨rfl,rfl⟩;clear hb;go_wp2
     refine bodyPost_ret (results_none rfl _ _ _) rfl ?_;exact⟨rfl,vb,ways1,by rw[hfin.out];exact hW1.out,hT1.out,hB1.out⟩
    | true =>
     have hfin:Hid (wkS l q [] t st=some t):=Za (hs0.out.trans (hbq.out.1 hqa hb));rintro e w2 ⟨rfl,rfl⟩;clear hb;go_upto_region 6 with fail
     refine ZdM (φ:=λW=>W.heap[g]?=some (.cells #[.slice A n c,.int .i64 q,.bool true,.bool true,vb,.int .i64 (sumOf id (st.getD [])),.int .i64 (reachL l (st.getD [])),.int .i64 ways1] 228 (0,0))/\TK W base gt t/\Arr Kind.cells 2 W base A n l/\Below base w W) ⟨Zk hW1.out.box 3 (.bool true),hT1.out.set hne.out,hW1.out.kinds.below ((Below.refl _ _).setCell (p:=⟨g,3,none⟩) hW1.out.hg _),hB1.out.setCell (p:=⟨g,3,none⟩) hW1.out.hg _⟩ ?_;rintro W2 ⟨n0,n1,n2,n3⟩;have hX2:=Za n0;have hT2:=Za n1;have hA2:=Za n2;have hB2:=Za n3;have hgg:=Za hW1.out.hg;have hbw:Hid (base<=W2.heap.size):=Za (Nat.le_trans hbt.out (Nat.le_of_lt n1.lt));clear n0 n1 n2 n3 c0 c1 c2 c3 c4 c5 c6 c7 cf hW1 hT1 hB1 hd hqa hqe;go_wp2_with fail
     refine(U6 (some ⟨gt,0,none⟩) t.length 4 t _ (by omega) ((hT2.out.own ht4).arr Zh)).mono ?_;rintro e w4 ⟨v4,rfl,ho4,hb4⟩;have hX4:=Za (Jn hX2.out hb4);have hT4:=Za (hT2.out.below hb4);have hA4:=Za (hA2.out.below (hb4.mono hbw.out));have hB4:=Za (hB2.out.trans (hb4.mono hbw.out));have hO4:=Za (ho4.less hbw.out);obtain⟨A4,c4,rfl,_⟩:=ho4.slice;have hF4:Hid ((Value.slice A4 t.length c4).ownBlock≠some gt):=Za (λe=>by have h1:=(ho4.2.lt gt e).1;have h2:=hT2.out.lt;omega);clear ho4 hb4;obtain⟨c0,c1,c2,c3,c4,c5,c6,c7,cf⟩:=XT hX4.out;go_wp2
     refine bodyPost_ret (results_none rfl _ _ _) rfl ?_;exact⟨rfl,_,ways1,by rw[hfin.out];exact hput.out _ _ _ _ _ hX4.out hA4.out hgg.out hO4.out hF4.out,((hT4.out.set hne.out).set hne.out).set hne.out,((hB4.out.setCell (p:=⟨g,4,none⟩) hgg.out _).setCell (p:=⟨g,5,none⟩) hgg.out _).setCell (p:=⟨g,6,none⟩) hgg.out _⟩
   ·have hd:decide (q<=a)=false:=decide_eq_false hqa
    have hfin:Hid (wkS l q [] t st=st):=Za (hs0.out.trans (hbq.out.2.2 hqa));go_wp2
    refine bodyPost_ret (results_none rfl _ _ _) rfl ?_;exact⟨rfl,vb,ways1,by rw[hfin.out];exact hW1.out,hT1.out,hB1.out⟩
 | cons k ks ih =>
  intro t st vb ways w hd htn htb hW hT;obtain⟨hk,hd2⟩:=Zhq hd;have hkl:t.length<n:=by have:=Zq hk;rw[←hnh.out];exact this
  have hkb:=hlh.out k (List.mem_of_getElem? hk);have hWh:=Za hW;have hTh:=Za hT;have hne:=Za (hT.ne hW);have hbt:Hid (base<=gt):=Za (let ⟨_,_,_,_,h⟩:=hT;h);have hfin:=Za (Zdp l q k ks t st);have hnx:=Za (λm=>Za3 l q ks t st m);have hzz:((t.length:Int)==(n:Int))=false:=by rw[beq_eq_false_iff_ne];omega
  have ht4:t.length<4:=by omega
  have hT0:(0:Int)<=(t.length:Int):=by omega
  have hTn:(t.length:Int)<(n:Int):=by omega
  obtain⟨kb,ko,y,hA,hkb2,hy,_,_⟩:=hW.kinds.Kind hkl;subst hA;have hyk:y=k:=by rw[hk] at hy;exact(Option.some.inj hy).symm
  subst hyk;have hcel:=Za (λW (h:Arr Kind.cells 2 W base (some ⟨kb,ko,none⟩) n l)=>(show W.cell? ⟨kb,ko+t.length*2,none⟩=some (.int .i64 y.fReach)/\W.cell? ⟨kb,ko+t.length*2+1,none⟩=some (.int .i64 y.fHave) from by
   obtain⟨b',o',z,e,_,hz,q0,q1⟩:=h.Kind hkl;cases e
   have hz2:z=y:=by rw[hk] at hz;exact(Option.some.inj hz).symm
   subst hz2;exact⟨q0,q1⟩))
  have hsum:=Za (λn=>ZhO t n);have hrea:=Za (λn=>ZeJ hk n);have hbs:=Za (λm (h0:0<=m) (h1:m<=12)=>(⟨ZfO (Zdo htb h0 h1) (by simp;omega),ZdE hlh.out (Zdo htb h0 h1) hn4⟩:(0<=sumOf id (t++[m])/\sumOf id (t++[m])<=48)/\0<=reachL l (t++[m])/\reachL l (t++[m])<=9600));have hih:=Za (fun(m:Int) (h0:0<=m) (h1:m<=12) st vb ways W (hW:WK W base g gt (some ⟨kb,ko,none⟩) n c l q vb st ways) (hT:TK W base gt (t++[m]))=>ih (t++[m]) st vb ways W (by rw[List.length_append];exact hd2) (by rw[List.length_append,List.length_singleton];omega) (Zdo htb h0 h1) hW hT);obtain⟨R,hR⟩:∃R,R=sumOf id t:=⟨_,rfl⟩;obtain⟨a,ha⟩:∃a,a=reachL l t:=⟨_,rfl⟩;simp only[List.length_append,List.length_singleton,hsum.out,hrea.out] at hih hbs;rw[←hR,←ha] at hih hbs ⊢;have hs3:=ZfO htb (by omega);have hr3:=ZdE hlh.out htb hn4;rw[←hR] at hs3;rw[←ha] at hr3;obtain⟨H,hH⟩:∃H,H=y.fHave:=⟨_,rfl⟩;obtain⟨X,hX⟩:∃X,X=y.fReach:=⟨_,rfl⟩;rw[←hH,←hX] at hcel hkb;rw[←hX] at hih hbs;rw[←hH] at hfin;obtain⟨c0,c1,c2,c3,c4,c5,c6,c7,cf⟩:=XT hW.box;clear hd hW hT hR ha ih hk hd2 hy hsum hrea hH hX htb;go_enter Tryz.func259,Tryz.ntmps259;go_wp2
  go_loopw [9] (λi wr=>∃(m:Nat) (vk:Value) (wy:Int),(m:Int)<=H+1/\i = .int .i64 (m:Int)/\WK wr base g gt (some ⟨kb,ko,none⟩) n c l q vk (Zkc l q ks t st m) wy/\TK wr base gt t/\Below base w wr) (λi _=>(H+1).toNat-(intOf i).toNat)
  case atStart=>exact⟨0,vb,ways,by omega,rfl,hWh.out,hTh.out,Below.refl _ _⟩
  case round =>
   obtain⟨m,vk,wy,hm,rfl,hw2,ht2,hb2⟩:=hrel;have hW2:=Za hw2;have hT2:=Za ht2;have hB2:=Za hb2;obtain⟨d0,d1,d2,d3,d4,d5,d6,d7,df⟩:=XT hw2.box;obtain⟨e0,e1⟩:=hcel.out _ hw2.kinds;clear hw2 ht2 hb2 c0 c1 c2 c3 c4 c5 c6 c7 cf;by_cases hmH:(m:Int)<=H
   ·have hd:decide ((m:Int)<=H)=true:=decide_eq_true hmH
    have hm12:(m:Int)<=12:=by omega
    have hb3:=hbs.out (m:Int) (by omega) hm12;have hnx2:=Za (hnx.out m);obtain⟨P,hP⟩:∃P,P=(m:Int)*X:=⟨_,rfl⟩;have hcall:=Za (hih.out (m:Int) (by omega) hm12 (Zkc l q ks t st m) vk wy);rw[←hP] at hcall hb3;have w1:IntKind.i64.wrap (R+(m:Int))=R+(m:Int):=IntWalk.i64_in _ (by omega);have w2:IntKind.i64.wrap ((m:Int)*X)=P:=by rw[←hP];refine IntWalk.i64_in _ ?_;omega
    have w3:IntKind.i64.wrap (a+P)=a+P:=IntWalk.i64_in _ (by omega);have hPh:=Za hP;clear hP;go_upto_region 12 with fail
    have hda:Below wr.heap.size wr (wr.alloc (.cells #[.int .i64 (m:Int)] 2)).drew:=((Below.refl _ _).alloc (Nat.le_refl _) _).trans ((Zb (Below.refl _ _) 1:Below (wr.alloc (.cells #[.int .i64 (m:Int)] 2)).heap.size _ _).mono (by simp));have hdr:Below wr.heap.size wr wr.drew:=Zb (Below.refl _ _) 1;have hW3:=Za (hW2.out.below hdr);have hW3a:=Za (hW2.out.below hda);have hB3:=Za (hB2.out.trans (hda.mono hW2.out.bw));clear d0 d1 d2 d3 d4 d5 d6 d7 df e0 e1;obtain⟨d0,_⟩:=XT hW3.out.box;obtain⟨e0,e1⟩:=hcel.out _ hW3.out.kinds;obtain⟨cur,hc1,hc2,hc3,hc4⟩:=hT2.out;have hcu:=Za (Jn hc1 hdr);have hcs:=Za hc2;have hWA:=Za (hW3a.out.row hne.out hbt.out (cur.toList.take t.length++Value.int .i64 (m:Int) :: cur.toList.drop (t.length+1)).toArray);have hTA:=Za (TK.push (Jn hc1 hda) hc2 hc3 hc4 (m:Int) ht4);have hBA:=Za (hB3.out.grown (Ue _ gt (cur.toList.take t.length++Value.int .i64 (m:Int) :: cur.toList.drop (t.length+1)).toArray) hW3a.out.bw (λk e=>by cases e;exact hbt.out));have hS1:=Za (⟨(XT hW3.out.box).1,(hcel.out _ hW3.out.kinds).1⟩:wr.drew.cell? ⟨g,0,none⟩=some (.slice (some ⟨kb,ko,none⟩) n c)/\wr.drew.cell? ⟨kb,ko+t.length*2,none⟩=some (.int .i64 X));have hS2:=Za (⟨(XT hW3a.out.box).1,(hcel.out _ hW3a.out.kinds).1⟩:(wr.alloc (.cells #[.int .i64 (m:Int)] 2)).drew.cell? ⟨g,0,none⟩=some (.slice (some ⟨kb,ko,none⟩) n c)/\(wr.alloc (.cells #[.int .i64 (m:Int)] 2)).drew.cell? ⟨kb,ko+t.length*2,none⟩=some (.int .i64 X));have hS3:=Za (⟨(XT hWA.out.box).1,(hcel.out _ hWA.out.kinds).1⟩:((wr.alloc (.cells #[.int .i64 (m:Int)] 2)).drew.setRow gt (cur.toList.take t.length++Value.int .i64 (m:Int) :: cur.toList.drop (t.length+1)).toArray).cell? ⟨g,0,none⟩=some (.slice (some ⟨kb,ko,none⟩) n c)/\((wr.alloc (.cells #[.int .i64 (m:Int)] 2)).drew.setRow gt (cur.toList.take t.length++Value.int .i64 (m:Int) :: cur.toList.drop (t.length+1)).toArray).cell? ⟨kb,ko+t.length*2,none⟩=some (.int .i64 X));clear hc1 hc2 hc3 hc4 hdr hda;go_region_held3 (λw'=>w'.cell? ⟨g,0,none⟩=some (.slice (some ⟨kb,ko,none⟩) n c)/\w'.cell? ⟨kb,ko+t.length*2,none⟩=some (.int .i64 X)) (first|exact⟨(XT hW4.out.box).1,(hcel.out _ hW4.out.kinds).1⟩|with_reducible exact hS2.out|with_reducible exact hS3.out|with_reducible exact hS1.out|exact hS3.out|go_keep) (first|(refine Zee (w:=wr.drew) rfl (.tmp 73) (.tmp 75) (by rfl) Tryz.underlying60 Zz (by rfl) hcu.out (by rfl) rfl (by omega) hcs.out ?_)|(go_at_call 259;refine(hcall.out _ hWA.out hTA.out).mono ?_;rintro e w4 ⟨rfl,vb4,wy4,hw4,ht4',hb4⟩;have hW4:=Za hw4;have hT4:=Za ht4'.less;have hB4:=Za (hBA.out.trans hb4);clear hw4 ht4' hb4)|fail)
    go_wp2
    go_roundw
    case rel=>exact⟨m+1,vb4,wy4,by omega,by go_num,by rw[hnx2.out];exact hW4.out,hT4.out,hB4.out⟩
    case measure=>simp[intOf];omega
   ·have hmE:Hid (H.toNat+1=m):=Za (by omega)
    have hd:decide ((m:Int)<=H)=false:=decide_eq_false hmH;go_wp2
    go_end0
    exact⟨rfl,vk,wy,by rw[hfin.out,hmE.out];exact hW2.out,hT2.out,hB2.out⟩
theorem VA (A:Option Addr)(n c:Nat)(l:List Kind)(q:Int)(w:World)(hn:n<=1048576)(hk:ZD l=true)(hr:Arr Kind.cells 2 w w.heap.size A n l) :
  Calls Tryz.prog 212 #[.slice A n c,.int .i64 q] w λe w'=>e = .returned (.int .i64 (if inB q 0 5000 then 0 else 2))/\Below w.heap.size w w':=by
 cases h2:inB q 0 5000
 all_goals
  go_enter Tryz.func212,Tryz.ntmps212;go_wp2_with fail
  refine(YM A n c l _ hn hr).mono ?_;rw[hk];rintro e w2 ⟨rfl,hb⟩;have hB:=Za hb;clear hb;go_wp2_with (go_at_call 135;refine(Yc _ _ _ _).mono ?_;rintro e w' ⟨rfl,rfl⟩)
  go_ret;exact⟨rfl,hB.out⟩
theorem ZkE (W:World):(Instr.makeSlice 60 (.int .i64 0) (.int .i64 4)).run Tryz.prog W = .ok (.slice (some ⟨W.heap.size,0,none⟩) 0 4) (W.alloc (.cells #[.int .i64 0,.int .i64 0,.int .i64 0,.int .i64 0] 2)):=by
 obtain⟨i,hi,hz0,hz1,hz2⟩:=info_parts Zz;have h:=run_makeSlice (P:=Tryz.prog) W 60 2 i _ Tryz.underlying60 hi hz0 .i64 .i64 0 4 (by omega) (by omega) (by rw[hz1];decide) (by rw[hz2];decide) (by omega);rw[hz1] at h;have e:madeCells (Value.int .i64 0).cells (Int.toNat 4*1)=#[.int .i64 0,.int .i64 0,.int .i64 0,.int .i64 0]:=by kernel_rfl
 rw[e] at h;exact h
theorem JD (A:Option Addr)(n c:Nat)(l:List Kind)(q:Int)(w:World)(hl:KB l)(hn4:l.length<=4)(hr:Arr Kind.cells 2 w w.heap.size A n l) :
  Calls Tryz.prog 213 #[.slice A n c,.int .i64 q,.bool true] w λe w'=>∃g gt vb ways,e = .returned (.pointer (some ⟨g,0,none⟩))/\WK w' w.heap.size g gt A n c l q vb (ZeZ l q) ways/\Below w.heap.size w w':=by
 have hrl:=hr.len;obtain⟨W1,hW1⟩:∃W1,W1=w.alloc (.cells #[] 2):=⟨_,rfl⟩;have b1:Below w.heap.size w W1:=by rw[hW1];exact(Below.refl _ _).alloc (Nat.le_refl _) _
 have z1:W1.heap.size=w.heap.size+1:=by rw[hW1];simp
 obtain⟨W2,hW2⟩:∃W2,W2=W1.alloc (.cells #[.slice A n c,.int .i64 q,.bool true,.bool false,.slice (some ⟨w.heap.size,0,none⟩) 0 0,.int .i64 0,.int .i64 0,.int .i64 0] 228):=⟨_,rfl⟩;have b2:Below w.heap.size w W2:=by rw[hW2];exact b1.alloc b1.size _
 have z2:W2.heap.size=w.heap.size+2:=by rw[hW2];simp;omega
 have k2:W2.heap[w.heap.size+1]?=some (.cells #[.slice A n c,.int .i64 q,.bool true,.bool false,.slice (some ⟨w.heap.size,0,none⟩) 0 0,.int .i64 0,.int .i64 0,.int .i64 0] 228 (0,0)):=by rw[hW2,←z1];exact heap_alloc_new W1 _
 obtain⟨W3,hW3⟩:∃W3,W3=W2.alloc (.cells #[.int .i64 0,.int .i64 0,.int .i64 0,.int .i64 0] 2):=⟨_,rfl⟩;have b3:Below w.heap.size w W3:=by rw[hW3];exact b2.alloc b2.size _
 have b32:Below W2.heap.size W2 W3:=by rw[hW3];exact(Below.refl _ _).alloc (Nat.le_refl _) _
 have t3:TK W3 w.heap.size (w.heap.size+2) []:=⟨_,by rw[hW3,←z2];exact heap_alloc_new W2 _,rfl,rfl,by omega⟩;have w3:WK W3 w.heap.size (w.heap.size+1) (w.heap.size+2) A n c l q (.slice (some ⟨w.heap.size,0,none⟩) 0 0) none 0:=⟨by rw[show reachL l ((none:Option (List Int)).getD [])=0 from by unfold reachL;rw[Option.getD_none,List.zip_nil_right];rfl];exact Jn k2 b32,Res.empty (Nat.zero_le _),by simp[Value.ownBlock],hr.below b3,by omega⟩;have hcall:=Za (Zd8 (w.heap.size) (w.heap.size+1) (w.heap.size+2) A n c l q hl hn4 hrl l [] none _ 0 W3 (by simp) (Nat.zero_le _) (λx hx=>by cases hx) w3 t3);have hB:=Za b3;have h0:Hid (wkS l q l [] none=ZeZ l q):=Za (ZiC l q);have e1:sumOf id ([]:List Int)=0:=rfl;have e2:reachL l []=0:=by unfold reachL;rw[List.zip_nil_right];rfl
 rw[e1,e2] at hcall;simp only[List.length_nil] at hcall;rw[hW3,hW2,hW1] at hcall;clear t3 w3 b32 k2 z2 b2 z1 b1 hrl hr;have hmk:=ZkE;go_enter Tryz.func213,Tryz.ntmps213;go_wp2_with fail
 refine hcall.out.mono ?_;rintro e w4 ⟨rfl,vb,wy,hw4,_,hb4⟩;rw[h0.out] at hw4;have hW4:=Za hw4;have hB4:=Za (hB.out.trans (by rw[hW3,hW2,hW1];exact hb4));clear hw4 hb4;go_wp2
 go_ret;exact⟨_,_,_,_,rfl,hW4.out,hB4.out⟩
theorem ZhZ (A:Option Addr)(n c:Nat)(l:List Kind)(q:Int)(w:World)(hk:ZD l=true)(hr:Arr Kind.cells 2 w w.heap.size A n l) :
  Calls Tryz.prog 150 #[.slice A n c,.int .i64 q] w λe w'=>∃v s,e = .returned (.tuple #[v,.int .i64 s,.int .i64 (fewC l q)])/\Res ZB 2 1 w' w.heap.size v (fewL l q).length (fewL l q)/\Below w.heap.size w w':=by
 obtain⟨hKB,hl4⟩:=V8 hk;have hn:n<=4:=by rw[←hr.len];exact hl4
 have hR:=Za hr;clear hr;cases hq:inB q 0 5000
 ·have hM:Hid (fewC l q=2/\fewL l q=[]):=Za (by unfold fewC fewL;rw[hq];exact⟨rfl,rfl⟩)
  go_enter Tryz.func150,Tryz.ntmps150;go_wp2_with fail
  refine(VA A n c l q _ (by omega) hk hR.out).mono ?_;rw[hq];rintro e w1 ⟨rfl,hb⟩;have hB:=Za hb;clear hb;go_wp2
  go_ret3
  exact⟨_,_,by rw[hM.out.1];rfl,by rw[hM.out.2];exact Res.empty (Nat.zero_le _),hB.out⟩
 ·cases hf:ZeZ l q with
  | none =>
   have hM:Hid (fewC l q=3/\fewL l q=[]):=Za (by unfold fewC fewL;rw[hq,hf];exact⟨rfl,rfl⟩);go_enter Tryz.func150,Tryz.ntmps150;go_wp2_with fail
   refine(VA A n c l q _ (by omega) hk hR.out).mono ?_;rw[hq];rintro e w1 ⟨rfl,hb⟩;have hB:=Za hb;clear hb;go_wp2_with fail
   refine(JD A n c l q _ hKB hl4 (hR.out.go hB.out)).mono ?_;rw[hf];rintro e w2 ⟨g,gt,vb,wy,rfl,hw2,hb⟩;obtain⟨c0,c1,c2,c3,c4,c5,c6,c7,cf⟩:=XT hw2.box;simp only[Option.isSome] at c3;replace hB:=Za (Below.up hB.out hb);clear hb hw2 hf;go_wp2
   go_ret3
   exact⟨_,_,by rw[hM.out.1];rfl,by rw[hM.out.2];exact Res.empty (Nat.zero_le _),hB.out⟩
  | some u =>
   have hM:Hid (fewC l q=0/\fewL l q=u):=Za (by unfold fewC fewL;rw[hq,hf];exact⟨rfl,rfl⟩);go_enter Tryz.func150,Tryz.ntmps150;go_wp2_with fail
   refine(VA A n c l q _ (by omega) hk hR.out).mono ?_;rw[hq];rintro e w1 ⟨rfl,hb⟩;have hB:=Za hb;clear hb;go_wp2_with fail
   refine(JD A n c l q _ hKB hl4 (hR.out.go hB.out)).mono ?_;rw[hf];rintro e w2 ⟨g,gt,vb,wy,rfl,hw2,hb⟩;obtain⟨c0,c1,c2,c3,c4,c5,c6,c7,cf⟩:=XT hw2.box;simp only[Option.isSome,Option.getD] at c3 c4 c5 c6;have hO:=Za (hw2.best.less hB.out.size);simp only[Option.getD] at hO;obtain⟨Ab,cb,hvb,_⟩:=hw2.best.slice;simp only[Option.getD] at hvb;subst hvb;replace hB:=Za (Below.up hB.out hb);clear hb hw2 hf;go_wp2
   go_quiet (fail)
   go_wp2
   go_ret3
   exact⟨_,_,by rw[hM.out.1];rfl,by rw[hM.out.2];exact hO.out.below (Zb (Below.refl _ _) _),Zb hB.out _⟩
end Go.Proofs.YtfpaejlipaainaaGreatDoor
