/- Texts that belong together, joined: contracts and plain laws. No statement is proved here. -/
import Derived.Test.YtfpaejlipaainaaGreatDoorRows
import Derived.WalkKit
import Derived.ProofKit
import Derived.OpenShut
import Derived.StillTailTactics
import Derived.Deep.QuietTactic
import Derived.BigQuiet
import Derived.Deep.RegionHeld3
import Derived.Deep.DeepCutAuto
import Derived.Deep.AppendLies
import Derived.WalkLawsBesides
import Derived.WalkSpells
import Derived.Deep.Slices
import Derived.Deep.Fields
import Derived.Lib.SmallJoins
import Derived.ChangeSame
import Derived.Handy
set_option maxRecDepth 100000
set_option maxHeartbeats 1000000
namespace Go.Proofs.YtfpaejlipaainaaGreatDoor
open Go.ChangeShapes Go.WideShapes Go.ChangeAt Go.RowKit Go.Deep
theorem YI {a b:ByteArray}(h:a.toList=b.toList):a=b:=by
 rw[ByteArray.toList_eq,ByteArray.toList_eq] at h;obtain⟨⟨x⟩⟩:=a;obtain⟨⟨y⟩⟩:=b;simp at h;rw[h]
theorem Xn {a b:ByteArray}(h:¬a=b):(a.toList==b.toList)=false:=by
 rw[beq_eq_false_iff_ne];exact λe=>h (YI e)
theorem XG {a b:ByteArray}(h:a=b):(a.toList==b.toList)=true:=by subst h;simp
theorem UL {k:IntKind}{a b:Int}(h:a=b):Ending.returned (.int k a) = .returned (.int k b):=by rw[h]
theorem ZW {a b:Bool}(h:a=b):Ending.returned (.bool a) = .returned (.bool b):=by rw[h]
theorem Za {p:Prop}(h:p):Hid p:=h
theorem Zo {α:Type}{l:List α}{k:Nat}{x:α}(h:l[k]?=some x):l.take (k+1)=l.take k++[x]:=by
 rw[List.take_add_one,h];rfl
theorem ZaM {α:Type}{l:List α}{n k:Nat}{x z:α}(hl:l.length=n)(hx:l[k]?=some x):(l.take k++List.replicate (n-k) z).set k x=l.take (k+1)++List.replicate (n-(k+1)) z:=by
 have hk:k<n:=by rw[←hl];exact(List.getElem?_eq_some_iff.1 hx).1
 have ht:(l.take k).length=k:=by simp;omega
 rw[Zo hx,show n-k=(n-(k+1))+1 by omega,List.replicate_succ,List.set_append,if_neg (by omega),ht,Nat.sub_self,List.set_cons_zero,List.append_assoc];rfl
theorem Zq {α:Type}{l:List α}{k:Nat}{x:α}(h:l[k]?=some x):k<l.length:=(List.getElem?_eq_some_iff.1 h).1
theorem Xl {α:Type}{l:List α}{p:α→Bool}{i:Nat}{x:α}(h:l[i]?=some x)(hp:p x=false):l.all p=false:=by
 rw[List.all_eq_false];exact⟨x,List.mem_of_getElem? h,by simp[hp]⟩
theorem Uf {α:Type}{cells:α→List Value}{s:Nat}(hs:∀x,(cells x).length=s)(l:List α)(i j:Nat)(hj:j<s) :
  (l.flatMap cells)[i*s+j]?=(l[i]?).bind λx=>(cells x)[j]?:=by
 induction l generalizing i with
 | nil=>simp
 | cons a l ih =>
  cases i with
  | zero=>simp[List.getElem?_append,hs,hj]
  | succ i =>
   rw[List.flatMap_cons,List.getElem?_append_right (by rw[hs,Nat.succ_mul];omega)];rw[hs,show(i+1)*s+j-s=i*s+j from by rw[Nat.succ_mul];omega,ih];simp
theorem Yb {α:Type}{cells:α→List Value}{s:Nat}(hs:∀x,(cells x).length=s)(l:List α):(l.flatMap cells).length=l.length*s:=by
 induction l with
 | nil=>simp
 | cons a l ih=>simp[ih,hs,Nat.succ_mul];omega
theorem ZdZ {α:Type}{cells:α→List Value}{s:Nat}(hs:∀x,(cells x).length=s)(h0:0<s){l:List α}{ys:List Value}(hl:ys.length=l.length*s)
  (h:∀i x,l[i]?=some x→∀j u,(cells x)[j]?=some u→ys[i*s+j]?=some u):ys=l.flatMap cells:=by
 apply List.ext_getElem?
 intro m;rcases Nat.lt_or_ge m (l.length*s) with hm|hm
 ·have hi:m/s<l.length:=Nat.div_lt_of_lt_mul (by rw[Nat.mul_comm];exact hm)
  have hj:m%s<s:=Nat.mod_lt _ h0;have hmm:m/s*s+m%s=m:=Nat.div_add_mod' m s;have hx:l[m/s]?=some l[m/s]:=List.getElem?_eq_getElem hi;have hu:(cells l[m/s])[m%s]?=some ((cells l[m/s])[m%s]'(by rw[hs];exact hj)):=List.getElem?_eq_getElem _;have h1:=h _ _ hx _ _ hu;have h2:=Uf hs l (m/s) (m%s) hj;rw[hmm] at h1 h2;rw[h1,h2,hx,Option.bind_some,hu]
 ·rw[List.getElem?_eq_none (by omega),List.getElem?_eq_none (by rw[Yb hs];omega)]
def Arr {α:Type}(cells:α→List Value)(s:Nat)(w:World)(B:Nat)(A:Option Addr)(n:Nat)(l:List α):Prop :=
 l.length=n/\(0<n→∃b o,A=some ⟨b,o,none⟩/\b<B/\∀i x,l[i]?=some x→∀j u,(cells x)[j]?=some u→w.cell? ⟨b,o+i*s+j,none⟩=some u)
section
variable {α:Type}{cells:α→List Value}{s:Nat}{w w':World}{B B':Nat}{A:Option Addr}{n:Nat}{l:List α}
theorem Arr.len (h:Arr cells s w B A n l):l.length=n:=h.1
theorem Arr.nil_ (A:Option Addr):Arr cells s w B A 0 []:=⟨rfl,λh=>absurd h (by omega)⟩
theorem Arr.at_ (h:Arr cells s w B A n l){k:Nat}(hk:k<n):∃b o x,A=some ⟨b,o,none⟩/\b<B/\l[k]?=some x/\∀j u,(cells x)[j]?=some u→w.cell? ⟨b,o+k*s+j,none⟩=some u:=by
 obtain⟨b,o,e,hb,hc⟩:=h.2 (by omega);have hl:k<l.length:=by have:=h.1;omega
 exact⟨b,o,l[k],e,hb,List.getElem?_eq_getElem hl,hc k _ (List.getElem?_eq_getElem hl)⟩
theorem Arr.keep (h:Arr cells s w B A n l)(hk:∀p:Addr,p.block<B→w'.cell? p=w.cell? p):Arr cells s w' B A n l :=
 ⟨h.1,λhn=>by
  obtain⟨b,o,e,hb,hc⟩:=h.2 hn;exact⟨b,o,e,hb,λi x hx j u hu=>(hk _ hb).trans (hc i x hx j u hu)⟩⟩
theorem Arr.more (h:Arr cells s w B A n l)(hB:B<=B'):Arr cells s w B' A n l :=
 ⟨h.1,λhn=>by
  obtain⟨b,o,e,hb,hc⟩:=h.2 hn;exact⟨b,o,e,by omega,hc⟩⟩
theorem Arr.below (h:Arr cells s w B A n l)(hb:Below B w w'):Arr cells s w' B A n l:=h.keep λ_ hp=>hb.cell hp
theorem Arr.go (h:Arr cells s w w.heap.size A n l)(hb:Below w.heap.size w w'):Arr cells s w' w'.heap.size A n l:=(h.below hb).more hb.size
theorem Arr.grown (h:Arr cells s w B A n l){row:Option Nat}(hg:w.grownBy w' row)(hB:B<=w.heap.size)(hr:∀g,row=some g→B<=g):Arr cells s w' B A n l :=
 h.keep λp hp=>World.cell?_of_block (hg.block p.block (by omega) (λe=>by have:=hr _ e.symm;omega))
end
def Own {α:Type}(cells:α→List Value)(e s:Nat)(w:World)(base:Nat)(v:Value)(n:Nat)(l:List α):Prop :=
 l.length=n/\w.ownsRow base e s v n (l.flatMap cells)
section
variable {α:Type}{cells:α→List Value}{e s:Nat}{w w':World}{base B:Nat}{v:Value}{n:Nat}{l:List α}
theorem Own.len (h:Own cells e s w base v n l):l.length=n:=h.1
theorem Own.nil_ (w:World)(base:Nat):Own cells e s w base (.slice none 0 0) 0 []:=⟨rfl,by simpa using World.ownsRow_nil w base e s⟩
theorem Own.kept (h:Own cells e s w base v n l){row:Option Nat}(hg:w.grownBy w' row)(hne:v.ownBlock=none\/v.ownBlock≠row):Own cells e s w' base v n l:=⟨h.1,h.2.kept hg hne⟩
theorem Own.below (h:Own cells e s w base v n l)(hb:Below w.heap.size w w'):Own cells e s w' base v n l :=
 h.kept (row:=none) ⟨hb.os,hb.tape,hb.output,hb.size,λi hi _=>hb.block i hi⟩ (by cases hv:v.ownBlock<;>simp)
theorem Own.less (h:Own cells e s w base v n l)(hB:B<=base):Own cells e s w B v n l:=by
 refine⟨h.1,h.2.1,?_⟩;rcases h.2.2 with hn|⟨g,cap,cur,rfl,hb,rest⟩
 ·exact .inl hn
 ·exact .inr ⟨g,cap,cur,rfl,by omega,rest⟩
theorem Own.form (h:Own cells e s w base v n l):(v = .slice none 0 0/\n=0/\l=[])\/∃g cap,v = .slice (some ⟨g,0,none⟩) n cap/\base<=g/\g<w.heap.size/\n<=cap/\cap<=maxLen:=by
 rcases h.2.2 with ⟨hv,hn⟩|⟨g,cap,cur,rfl,hb,hg,hnc,hm,_⟩
 ·exact .inl ⟨hv,hn,List.eq_nil_of_length_eq_zero (h.1.trans hn)⟩
 ·exact .inr ⟨g,cap,rfl,hb,(Array.getElem?_eq_some_iff.1 hg).1,hnc,hm⟩
theorem Own.slice (h:Own cells e s w base v n l):∃A c,v = .slice A n c/\n<=c:=by
 rcases h.form with ⟨rfl,rfl,_⟩|⟨g,cap,rfl,_,_,hc,_⟩
 ·exact⟨_,_,rfl,Nat.le_refl _⟩
 ·exact⟨_,_,rfl,hc⟩
theorem Own.arr {A:Option Addr}{c:Nat}(hs:∀x,(cells x).length=s)(h:Own cells e s w base (.slice A n c) n l):Arr cells s w w.heap.size A n l:=by
 refine⟨h.1,λhn=>?_⟩;rcases h.form with ⟨_,h0,_⟩|⟨g,cap,hv,_,hlt,_⟩
 ·omega
 ·obtain rfl:A=some ⟨g,0,none⟩:=by injection hv
  refine⟨g,0,rfl,hlt,λi x hx j u hu=>?_⟩;have hj:j<s:=by rw[←hs x];exact Zq hu
  have:=h.2.cells (g:=g) rfl (i*s+j) u (by rw[Uf hs l i j hj,hx,Option.bind_some,hu]);rw[Addr.add_lit] at this;rw[Nat.add_assoc];exact this
theorem Own.made (w:World)(hb:base<=w.heap.size)(hm:n<=maxLen)(x:α)(hs:∀x,(cells x).length=s)(cur:Array Value)(hc:cur.toList=(List.replicate n x).flatMap cells) :
  Own cells e s (w.alloc (.cells cur e)) base (.slice (some ⟨w.heap.size,0,none⟩) n n) n (List.replicate n x):=by
 have hl:cur.size=n*s:=by rw[←Array.length_toList,hc,Yb hs,List.length_replicate]
 refine⟨by simp,by rw[Yb hs];simp,.inr ⟨w.heap.size,n,cur,rfl,hb,heap_alloc_new w _,Nat.le_refl _,hm,hl,?_⟩⟩;rw[hc,List.take_of_length_le (by rw[Yb hs];simp)]
theorem Own.cell {g c:Nat}(h:Own cells e s w base (.slice (some ⟨g,0,none⟩) n c) n l)(hs:∀x,(cells x).length=s){k j:Nat}{x x':α}{u:Value}(hx:l[k]?=some x)(hj:j<s)(hu:cells x'=(cells x).set j u) :
  Own cells e s (w.setCell ⟨g,k*s+j,none⟩ u) base (.slice (some ⟨g,0,none⟩) n c) n (l.set k x'):=by
 refine⟨by simp[h.1],?_⟩;have hst:=h.2.stored (k*s+j) u;have hk:=Zq hx;have:(l.flatMap cells).set (k*s+j) u=(l.set k x').flatMap cells:=by
  have h0:0<s:=by omega
  refine ZdZ hs h0 (by simp[Yb hs]) λi y hy i' u' hu'=>?_
  have hi':i' < s:=by rw[←hs y];exact Zq hu'
  rw[List.getElem?_set];by_cases hik:i=k
  ·subst hik
   rw[List.getElem?_set_self hk] at hy;obtain rfl:x'=y:=by simpa using hy
   rw[hu] at hu';rw[List.getElem?_set] at hu';by_cases hjj:j=i'
   ·subst hjj
    rw[if_pos rfl] at hu' ⊢;rw[if_pos (by rw[hs];exact hj)] at hu';rw[if_pos (by rw[Yb hs];calc i*s+j<i*s+s:=by omega
       _=(i+1)*s:=by rw[Nat.succ_mul]
       _<=l.length*s:=Nat.mul_le_mul_right s hk)]
    exact hu'
   ·rw[if_neg hjj] at hu'
    rw[if_neg (by omega),Uf hs l i i' hi',hx,Option.bind_some,hu']
  ·rw[List.getElem?_set_ne (Ne.symm hik)] at hy
   have hne:¬k*s+j=i*s+i':=by
    intro he;apply hik
    have h1:(k*s+j)/s=k:=by rw[Nat.mul_comm,Nat.mul_add_div h0,Nat.div_eq_of_lt hj];rfl
    have h2:(i*s+i')/s=i:=by rw[Nat.mul_comm,Nat.mul_add_div h0,Nat.div_eq_of_lt hi'];rfl
    rw[←h1,he,h2]
   rw[if_neg hne,Uf hs l i i' hi',hy,Option.bind_some,hu']
 rw[←this];exact hst.1
end
def ZB (x:Int):List Value:=[.int .i64 x]
def u8c (x:Int):List Value:=[.int .u8 x]
def ZY (x:ByteArray):List Value:=[.string x]
theorem Zh (x:Int):(ZB x).length=1:=rfl
theorem Zf (x:ByteArray):(ZY x).length=1:=rfl
section
variable {w:World}{B:Nat}{A:Option Addr}{n:Nat}
theorem Arr.int {l:List Int}(h:Arr ZB 1 w B A n l){k:Nat}(hk:k<n):∃b o x,A=some ⟨b,o,none⟩/\b<B/\l[k]?=some x/\w.cell? ⟨b,o+k,none⟩=some (.int .i64 x):=by
 obtain⟨b,o,x,e,hb,hx,hc⟩:=h.at_ hk;exact⟨b,o,x,e,hb,hx,by simpa using hc 0 _ rfl⟩
theorem Arr.u8 {l:List Int}(h:Arr u8c 1 w B A n l){k:Nat}(hk:k<n):∃b o x,A=some ⟨b,o,none⟩/\b<B/\l[k]?=some x/\w.cell? ⟨b,o+k,none⟩=some (.int .u8 x):=by
 obtain⟨b,o,x,e,hb,hx,hc⟩:=h.at_ hk;exact⟨b,o,x,e,hb,hx,by simpa using hc 0 _ rfl⟩
theorem Arr.str {l:List ByteArray}(h:Arr ZY 1 w B A n l){k:Nat}(hk:k<n):∃b o x,A=some ⟨b,o,none⟩/\b<B/\l[k]?=some x/\w.cell? ⟨b,o+k,none⟩=some (.string x):=by
 obtain⟨b,o,x,e,hb,hx,hc⟩:=h.at_ hk;exact⟨b,o,x,e,hb,hx,by simpa using hc 0 _ rfl⟩
end
section
variable {H:Type}{enc:TypeId × Value→H}{P:Program}{W:World}{r:Reach}{b0:Nat}{sp:Nat→Bool}{held:Bool}{t e:TypeId}{v:Value}{d:DataW H}{ps:List MemPlace}
end
theorem Z4 {a w:World}{g:Nat}(h:a.grownBy w (some g)){p:Addr}(hp:p.block=g)(u:Value):a.grownBy (w.setCell p u) (some g) :=
 ⟨h.os,h.tape,h.output,by simpa[World.setCell] using h.size,λi hi hne=>(Below.heap_setCell w p u i (by
  rintro rfl;exact hne (by rw[hp]))).trans (h.block i hi hne)⟩
def Res {α:Type}(cells:α→List Value)(e s:Nat)(w:World)(base:Nat)(v:Value)(n:Nat)(l:List α):Prop :=
 l.length=n/\(∃A c,v = .slice A n c/\n<=c/\c<=maxLen)/\(0<n→Own cells e s w base v n l)
def Uj (a b:Value):Prop:=a.ownBlock=none\/a.ownBlock≠b.ownBlock
def UY (w w':World)(v:Value)(n:Nat):Prop:=(n=0→w=w')/\(0<n→w.grownBy w' v.ownBlock)
section
variable {α β:Type}{cells:α→List Value}{cells':β→List Value}{e s e' s':Nat}{a w w':World}{base base' B:Nat}{v v':Value}{n n':Nat}{l:List α}{l':List β}
theorem Own.res (h:Own cells e s w base v n l):Res cells e s w base v n l:=by
 refine⟨h.1,?_,λ_=>h⟩;rcases h.form with ⟨rfl,rfl,_⟩|⟨g,cap,rfl,_,_,hc,hm⟩
 ·exact⟨_,_,rfl,Nat.le_refl _,Nat.zero_le _⟩
 ·exact⟨_,_,rfl,hc,hm⟩
theorem Res.len (h:Res cells e s w base v n l):l.length=n:=h.1
theorem Res.slice (h:Res cells e s w base v n l):∃A c,v = .slice A n c/\n<=c:=let ⟨A,c,hv,hc,_⟩:=h.2.1;⟨A,c,hv,hc⟩
theorem Res.empty {A:Option Addr}{c:Nat}(hc:c<=maxLen):Res cells e s w base (.slice A 0 c) 0 []:=⟨rfl,⟨_,_,rfl,Nat.zero_le _,hc⟩,λh=>absurd h (by omega)⟩
theorem Res.arr {A:Option Addr}{c:Nat}(hs:∀x,(cells x).length=s)(h:Res cells e s w base (.slice A n c) n l):Arr cells s w w.heap.size A n l:=by
 rcases Nat.eq_zero_or_pos n with rfl|hn
 ·obtain rfl:l=[]:=List.eq_nil_of_length_eq_zero h.1
  exact Arr.nil_ _
 ·exact(h.2.2 hn).arr hs
theorem Res.below (h:Res cells e s w base v n l)(hb:Below w.heap.size w w'):Res cells e s w' base v n l:=⟨h.1,h.2.1,λhn=>(h.2.2 hn).below hb⟩
theorem Res.less (h:Res cells e s w base v n l)(hB:B<=base):Res cells e s w B v n l:=⟨h.1,h.2.1,λhn=>(h.2.2 hn).less hB⟩
theorem Res.kept (h:Res cells e s w base v n l)(hm:UY w w' v' n')(ha:0<n→0<n'→Uj v v'):Res cells e s w' base v n l:=by
 rcases Nat.eq_zero_or_pos n' with h0|h0
 ·rw[←hm.1 h0];exact h
 ·exact⟨h.1,h.2.1,λhn=>(h.2.2 hn).kept (hm.2 h0) (ha hn h0)⟩
theorem Res.apart (h:Res cells e s w base v n l)(h':Res cells' e' s' w' base' v' n' l')(hb:w.heap.size<=base'):(0<n→0<n'→Uj v v')/\(0<n'→0<n→Uj v' v):=by
 have key:0<n→0<n'→Uj v v'/\Uj v' v:=by
  intro hn hn';have h1:=(h.2.2 hn).2.lt;have h2:=(h'.2.2 hn').2.lt;unfold Uj;cases ha:v.ownBlock with
  | none =>
   cases hc:v'.ownBlock with
   | none=>simp
   | some k=>simp
  | some j =>
   cases hc:v'.ownBlock with
   | none=>simp
   | some k =>
    have:=(h1 j ha).2;have:=(h2 k hc).1;have hne:j≠k:=by omega
    simp[hne,Ne.symm hne]
 exact⟨λa b=>(key a b).1,λa b=>(key b a).2⟩
end
theorem Own.none_made {α:Type}{cells:α→List Value}{e s:Nat}(w:World){base:Nat}(hb:base<=w.heap.size):Own cells e s (w.alloc (.cells #[] e)) base (.slice (some ⟨w.heap.size,0,none⟩) 0 0) 0 [] :=
 ⟨rfl,World.ownsRow_made w #[] 0 hb (Nat.zero_le _) (by simp)⟩
theorem Zah {P:Program}{ops:Array Oper}{rest:List Oper}{o:Oper}{a:Act}{Q:Exit→Act→World→Prop}{α:Type}{cells:α→List Value}{e s bytes:Nat}{w:World}{base n:Nat}{v:Value}{l:List α}
  (hgd:o.guard=none) (so x:Operand) (t:TypeId) (ho:o.op = .call { callee:=.builtin .append,args:=#[so,x],argTypes:=#[t,t] })
  (ht:P.underlying t=some (.slice e)) {z:Value} (hinfo:(P.info? e).map (λi=>(i.zero,i.size,i.bytes))=some (some z,s,bytes)) (hzs:z.cells.size=s) (hsz:0<s) (hby:bytes<=100)
  (hs:a.eval so=v) (hown:Own cells e s w base v n l) (y:α) (arr:Array Value) (harr:arr.toList=cells y) (hx:a.eval x = .slice (some ⟨w.heap.size,0,none⟩) 1 1)
  (hlen:(cells y).length=s) (h1:∀u∈cells y,u.oneCell'=true) (hn:n<=1048576) (hbase:base<=w.heap.size)
  (h:∀v' w',Own cells e s w' base v' (n+1) (l++[y])→w.grownBy w' v.ownBlock→wpList P ops Q rest (a.put o.dst v') w'):wpList P ops Q (o :: rest) a (w.alloc (.cells arr e)):=by
 obtain⟨i,hi,hz0,hz1,hz2⟩:=info_parts hinfo;refine wpList_append_own _ hgd so x t ho base e i z s bytes ht hi hz0 hz1 hz2 hzs hsz v n (l.flatMap cells) hs (hown.2.alloc _) ⟨w.heap.size,0,none⟩ 1 1 (cells y) hx (by rw[hlen,Nat.one_mul]) ?_ h1 (by unfold maxLen;omega) ?_ (by simp;omega) ?_
 ·intro j u hu
  rw[Addr.add_lit,Nat.zero_add,cell_of_row _ _ _ _ _ _ (heap_alloc_new w _),←harr] at *;simpa using hu
 ·have:(n+1)*bytes<=1048577*100:=Nat.mul_le_mul (by omega) hby
  omega
 ·intro v' w' hown' hg _
  refine h v' w' ⟨by simp[hown.1],by simpa using hown'⟩ ?_;have h0:=World.grownBy_alloc w (.cells arr e) v.ownBlock;exact⟨hg.os.trans h0.os,hg.tape.trans h0.tape,hg.output.trans h0.output,Nat.le_trans h0.size hg.size,λk hk hne=>(hg.block k (Nat.lt_of_lt_of_le hk h0.size) hne).trans (h0.block k hk hne)⟩
theorem Own.grown {α:Type}{cells:α→List Value}{e s:Nat}{a w w':World}{v:Value}{n:Nat}{l:List α}(h:Own cells e s w a.heap.size v n l)(hb:Below a.heap.size a w)(hg:w.grownBy w' v.ownBlock):Below a.heap.size a w' :=
 hb.grown hg hb.size (λk hk=>(h.2.lt k hk).1)
def sumOf {α:Type}(f:α→Int)(l:List α):Int:=(l.map f).sum
theorem X3 {α:Type}{f:α→Int}{l:List α}{k:Nat}{x:α}(h:l[k]?=some x):sumOf f (l.take (k+1))=sumOf f (l.take k)+f x:=by
 unfold sumOf;rw[Zo h];simp
theorem Zcb {α:Type}{f:α→Int}{l:List α}{M:Int}(h:∀x∈l,0<=f x/\f x<=M):0<=sumOf f l/\sumOf f l<=M*l.length:=by
 unfold sumOf
 induction l with
 | nil=>simp
 | cons a l ih =>
  have h1:=h a (by simp);have h2:=ih (λx hx=>h x (by simp[hx]));simp only[List.map_cons,List.sum_cons,List.length_cons];have e:M*((l.length+1:Nat):Int)=M*l.length+M:=by rw[Int.natCast_add,Int.mul_add];simp
  omega
theorem YW {α:Type}{f:α→Int}{l:List α}{M:Int}{N:Nat}(h:∀x∈l,0<=f x/\f x<=M)(hl:l.length<=N)(hM:0<=M)(k:Nat):0<=sumOf f (l.take k)/\sumOf f (l.take k)<=M*N:=by
 have h1:=Zcb (l:=l.take k) (λx hx=>h x (List.mem_of_mem_take hx));have h2:(l.take k).length<=N:=by rw[List.length_take];omega
 have h3:M*((l.take k).length:Int)<=M*N:=Int.mul_le_mul_of_nonneg_left (by omega) hM;omega
theorem Y8 {P:Program}(t e:TypeId)(i:TypeInfo)(z:Value)(ht:P.underlying t=some (.slice e))(hi:P.info? e=some i)(hz:i.zero=some z)
  (kl kc:IntKind) (n c:Nat) (hnc:n<=c) (hbytes:i.bytes*c<=281474976710656) (h63:c<=9223372036854775807) (w:World) :
  (Instr.makeSlice t (.int kl (n:Int)) (.int kc (c:Int))).run P w = .ok (.slice (some ⟨w.heap.size,0,none⟩) n c) (w.alloc (.cells (madeCells z.cells (c*i.size)) e)):=by
 have hb:(i.bytes:Int)*(c:Int)<=281474976710656:=by
  have h:((i.bytes*c:Nat):Int)<=281474976710656:=by omega
  rwa [Int.natCast_mul] at h
 have hr:=run_make (P:=P) w t e i z ht hi hz kl kc n c (by omega) (by omega) hb (by omega);simp only[Int.toNat_natCast] at hr;exact hr
theorem WP {α:Type}{cells:α→List Value}{s:Nat}(hs:∀x,(cells x).length=s)(h0:0<s)(z:Array Value)(x:α)(hx:cells x=z.toList)(n:Nat) :
  (madeCells z (n*s)).toList=(List.replicate n x).flatMap cells:=by
 have hz:z.size=s:=by rw[←hs x,hx];simp
 refine ZdZ hs h0 (by simp[size_madeCells]) λi y hy j u hu=>?_
 have hi:i<n:=by simpa using Zq hy
 rw[List.getElem?_replicate_of_lt hi] at hy;obtain rfl:x=y:=by simpa using hy
 have hj:j<s:=by rw[←hs x];exact Zq hu
 have hlt:i*s+j<n*s:=calc i*s+j<i*s+s:=by omega
  _=(i+1)*s:=by rw[Nat.succ_mul]
  _<=n*s:=Nat.mul_le_mul_right s hi
 have hm:(i*s+j)%s=j:=by rw[Nat.mul_comm,Nat.mul_add_mod];exact Nat.mod_eq_of_lt hj
 rw[hx] at hu;have hzj:z[j]! = u:=by
  rw[getElem!_pos z j (by omega)];rw[Array.getElem?_toList,Array.getElem?_eq_getElem (by omega)] at hu;exact Option.some.inj hu
 simp[madeCells,hlt,hz,hm,hzj]
def inB (n lo hi:Int):Bool:=decide (lo<=n/\n<=hi)
theorem Zj {n lo hi:Int}:inB n lo hi=true↔lo<=n/\n<=hi:=by simp[inB]
theorem Zb {B:Nat}{a w:World}(h:Below B a w)(n:Nat):Below B a (w.drewN n):=⟨h.os,h.tape,h.output,h.size,h.block⟩
theorem Below.up {w w1 w2:World}(h:Below w.heap.size w w1)(h':Below w1.heap.size w1 w2):Below w.heap.size w w2:=h.trans (h'.mono h.size)
theorem ZeT {a w:World}{row:Option Nat}(h:a.grownBy w row)(n:Nat):a.grownBy (w.drewN n) row:=⟨h.os,h.tape,h.output,h.size,h.block⟩
theorem Xc {a w:World}(h:Below a.heap.size a w)(row:Option Nat):a.grownBy w row:=⟨h.os,h.tape,h.output,h.size,λi hi _=>h.block i hi⟩
theorem Ur {a b c:World}{row:Option Nat}(h:a.grownBy b row)(h':b.grownBy c row):a.grownBy c row :=
 ⟨h'.os.trans h.os,h'.tape.trans h.tape,h'.output.trans h.output,Nat.le_trans h.size h'.size,λi hi hne=>(h'.block i (Nat.lt_of_lt_of_le hi h.size) hne).trans (h.block i hi hne)⟩
def Two (w:World)(g:Nat)(u0 u1:Value):Prop:=w.cell? ⟨g,0,none⟩=some u0/\w.cell? ⟨g,1,none⟩=some u1/\w.frozen? ⟨g,0,none⟩=false/\w.frozen? ⟨g,1,none⟩=false/\g<w.heap.size
theorem Two.alloc {w:World}{g:Nat}{u0 u1:Value}(h:Two w g u0 u1)(O:Obj):(w.alloc O).cell? ⟨g,0,none⟩=some u0/\(w.alloc O).cell? ⟨g,1,none⟩=some u1 :=
 ⟨(World.cell?_alloc_lt w O ⟨g,0,none⟩ h.2.2.2.2).trans h.1,(World.cell?_alloc_lt w O ⟨g,1,none⟩ h.2.2.2.2).trans h.2.1⟩
theorem Zy {P:Program}{f:FuncId}{args:Array Value}{w:World}{n:Nat}{v:Value}
  (h:Calls P f args (w.drewN n) λe w'=>e = .returned v/\w.drewN n=w'):Calls P f args (w.drewN n) λe w''=>e = .returned v/\∃m,w''=w.drewN m :=
 h.mono λ_ _ ⟨he,hm⟩=>⟨he,n,hm.symm⟩
theorem VR {H:Type}{enc:TypeId × Value→H}{P:Program}(hl:laidOutB P=true){W W':World}(hb:Below W.heap.size W W') :
  ∀(ts:List TypeId) (vs:List Value) (ds:List (DataW H)) (ps:List MemPlace),(∀t∈ts,P.readableRec t=true/\t<P.types.size)→DataW.TrodAll enc P W 0 (λ_=>true) true ts vs ds ps →
   (∀x∈ps,x.block<W.heap.size)→DataW.TrodAll enc P W' 0 (λb=>decide (b<W.heap.size)) true ts vs ds ps
 | [],[],[],ps,_,h,_=>h
 | t :: ts,v :: vs,d :: ds,ps,hr,h,hlt=>by
  obtain⟨p,q,h1,h2,rfl⟩:=h;exact⟨p,q,Below.trod hl (hr t (by simp)).1 (hr t (by simp)).2 h1 hb (λx hx=>hlt x (by simp[hx])),
   VR hl hb ts vs ds q (λt ht=>hr t (by simp[ht])) h2 (λx hx=>hlt x (by simp[hx])),rfl⟩
 | [],_ :: _,_,_,_,h,_=>h.elim
 | [],[],_ :: _,_,_,h,_=>h.elim
 | _ :: _,[],_,_,_,h,_=>h.elim
 | _ :: _,_ :: _,[],_,_,h,_=>h.elim
theorem ZdR {H:Type}{enc:TypeId × Value→H}{P:Program}{f:Func}{s:ChangeSpec}{bt:TypeId}(hl:laidOutB P=true)(hr0:(f.params.toList.all λt=>P.readableRec t&&decide (t<P.types.size))=true)
  (hres:f.resultTypes=#[bt]) (hbt:P.underlying bt=some .bool) (hvars:s.vars=[]) {W W':World} {args:Array Value} {ds gs:List (DataW H)} {before:List MemPlace}
  (hW:DataW.Whole enc P f.params.toList s.vars false W args.toList ds gs before) (hfn:s.fn H (ds++gs)={ results:=[.lit (.bool true)],args:=ds }) (hb:Below W.heap.size W W') :
  s.post enc P f false true false false W args (.bool true) W':=by
 have hr:∀t∈f.params.toList,P.readableRec t=true/\t<P.types.size:=λt ht=>by simpa using List.all_eq_true.1 hr0 t ht
 have hlt:∀p∈before,p.block<W.heap.size:=λp hp=>hW.lt p hp
 have hW':=hW;obtain⟨p,q,hA,hV,rfl,_,_⟩:=hW';refine⟨ds,gs,p++q,[],p,[],hW,?_,?_,?_,hb.frame _,λh=>by cases h⟩
 ·rw[hfn,hres]
  exact trodAll_mk1 (shut_bool hbt _)
 ·rw[hfn]
  exact VR hl hb _ _ _ _ hr hA (λx hx=>hlt x (by simp[hx]))
 ·rw[hfn,hvars]
  rfl
theorem Yc (n lo hi:Int)(w:World) :
  Calls Tryz.prog 135 #[.int .i64 n,.int .i64 lo,.int .i64 hi] w λe w'=>e = .returned (.bool (inB n lo hi))/\w=w':=by
 go_enter Tryz.func135,Tryz.ntmps135;by_cases h:lo<=n
 ·go_wp2
  go_ret;exact⟨by simp[inB,h],rfl⟩
 ·go_wp2
  go_ret;exact⟨by simp[inB];omega,rfl⟩
theorem Zu (n lo hi:Int)(w:World) :
  Calls Tryz.prog 113 #[.int .i64 n,.int .i64 lo,.int .i64 hi] w λe w'=>e = .returned (.bool (inB n lo hi))/\w=w':=by
 go_enter Tryz.func113,Tryz.ntmps113;by_cases h:lo<=n
 ·go_wp2
  go_ret;exact⟨by simp[inB,h],rfl⟩
 ·go_wp2
  go_ret;exact⟨by simp[inB];omega,rfl⟩
theorem X6 (v:Int)(w:World) :
  Calls Tryz.prog 247 #[.int .u8 v] w λe w'=>e = .returned (.bool (inB v 97 122))/\w=w':=by
 go_enter Tryz.func247,Tryz.ntmps247;by_cases h:97<=v
 ·go_wp2
  go_ret;exact⟨by simp[inB,h],rfl⟩
 ·go_wp2
  go_ret;exact⟨by simp[inB];omega,rfl⟩
theorem XS (v:Int)(w:World) :
  Calls Tryz.prog 201 #[.int .u8 v] w λe w'=>e = .returned (.bool (inB v 48 57))/\w=w':=by
 go_enter Tryz.func201,Tryz.ntmps201;by_cases h:48<=v
 ·go_wp2
  go_ret;exact⟨by simp[inB,h],rfl⟩
 ·go_wp2
  go_ret;exact⟨by simp[inB];omega,rfl⟩
def ZhL (s:ByteArray)(i:Nat):Int:=if h:i<s.size then (s[i].toNat:Int) else 0
def ZfE (v:Int):Bool:=inB v 97 122
def othB (v:Int):Bool:=inB v 48 57||v==45
def WE (s:ByteArray)(i:Nat):Bool:=ZfE (ZhL s i)||(decide (0<i)&&othB (ZhL s i))
def ZU (s:ByteArray):Bool:=decide (1<=s.size)&&decide (s.size<=12)&&(List.range s.size).all (WE s)
theorem XO (s:ByteArray)(w:World)(hs:s.size<=maxLen) :
  Calls Tryz.prog 126 #[.string s] w λe w'=>e = .returned (.bool (ZU s))/\w=w':=by
 unfold maxLen at hs;by_cases h1:(s.size:Int)<1
 ·have hm:Hid (ZU s=false):=Za (by unfold ZU;rw[decide_eq_false (by omega)];rfl)
  go_enter Tryz.func126,Tryz.ntmps126;go_wp2
  go_ret;exact⟨ZW hm.out.symm,rfl⟩
 ·by_cases h2:(12:Int)<s.size
  ·have hm:Hid (ZU s=false):=Za (by unfold ZU;rw[decide_eq_false (p:=s.size<=12) (by omega)];simp)
   go_enter Tryz.func126,Tryz.ntmps126;go_wp2
   go_ret;exact⟨ZW hm.out.symm,rfl⟩
  ·have hm:Hid (ZU s=(List.range s.size).all (WE s)):=Za (by unfold ZU;rw[decide_eq_true (by omega),decide_eq_true (by omega)];rfl)
   go_enter Tryz.func126,Tryz.ntmps126;go_wp2
   go_loopw [3] (λi wr=>∃k:Nat,k<=s.size/\i = .int .i64 k/\w=wr/\Hid ((List.range k).all (WE s)=true)) (λi _=>s.size-(intOf i).toNat)
   case atStart=>exact⟨0,Nat.zero_le _,rfl,rfl,Za rfl⟩
   case round =>
    obtain⟨k,hk,rfl,rfl,hall⟩:=hrel;by_cases hlt:k<s.size
    ·have hc:Hid (ZhL s k=(s[k].toNat:Int)):=Za (by unfold ZhL;rw[dif_pos hlt])
     have hcases:(97<=(s[k].toNat:Int)/\(s[k].toNat:Int)<=122)\/(48<=(s[k].toNat:Int)/\(s[k].toNat:Int)<=57)\/(s[k].toNat:Int)=45\/((s[k].toNat:Int)<48/\(s[k].toNat:Int)≠45)\/(57<(s[k].toNat:Int)/\(s[k].toNat:Int)<97)\/122<(s[k].toNat:Int):=by omega
     have hget:(List.range s.size)[k]?=some k:=by rw[List.getElem?_range hlt]
     have hG:=Za hget;clear hget;have hbad:Hid (WE s k=false→ZU s=false):=Za (λh=>by rw[hm.out];exact Xl hG.out h);have hgood:Hid (WE s k=true→(List.range (k+1)).all (WE s)=true):=Za (λh=>by rw[List.range_succ,List.all_append,hall.out];simp[h]);clear hall hG;rcases hcases with ⟨h3,h4⟩|⟨h3,h4⟩|h3|⟨h3,h4⟩|⟨h3,h4⟩|h3
     ·have ck:Hid (WE s k=true):=Za (by unfold WE ZfE;rw[hc.out];simp[inB,h3,h4])
      go_wp2
      go_round
      case rel=>exact⟨k+1,by omega,by go_num,trivial,Za (hgood.out ck.out)⟩
      case measure=>simp[intOf];omega
     ·rcases Nat.eq_zero_or_pos k with hz|hz
      ·subst hz
       have ck:Hid (WE s 0=false):=Za (by unfold WE ZfE;rw[hc.out];simp[inB];omega);go_wp2
       go_ret;exact⟨ZW (hbad.out ck.out).symm,rfl⟩
      ·have ck:Hid (WE s k=true):=Za (by unfold WE othB;rw[hc.out];simp[inB,h3,h4,hz])
       have ek:((k:Int)==0)=false:=by simp;omega
       go_wp2
       go_round
       case rel=>exact⟨k+1,by omega,by go_num,trivial,Za (hgood.out ck.out)⟩
       case measure=>simp[intOf];omega
     ·rcases Nat.eq_zero_or_pos k with hz|hz
      ·subst hz
       have ck:Hid (WE s 0=false):=Za (by unfold WE ZfE;rw[hc.out];simp[inB,h3]);have e45:((s[0].toNat:Int)==45)=true:=by simp[h3]
       have l1:(s[0].toNat:Int)<97:=by omega
       have l2:(s[0].toNat:Int)<48:=by omega
       clear h3;go_wp2
       go_ret;exact⟨ZW (hbad.out ck.out).symm,rfl⟩
      ·have ck:Hid (WE s k=true):=Za (by unfold WE othB;rw[hc.out];simp[h3,hz])
       have ek:((k:Int)==0)=false:=by simp;omega
       have e45:((s[k].toNat:Int)==45)=true:=by simp[h3]
       have l1:(s[k].toNat:Int)<97:=by omega
       have l2:(s[k].toNat:Int)<48:=by omega
       clear h3;go_wp2
       go_round
       case rel=>exact⟨k+1,by omega,by go_num,trivial,Za (hgood.out ck.out)⟩
       case measure=>simp[intOf];omega
     all_goals
      have e45:((s[k].toNat:Int)==45)=false:=by simp;omega
      have ck:Hid (WE s k=false):=Za (by unfold WE ZfE othB;rw[hc.out,e45];simp[inB];omega);rcases Nat.eq_zero_or_pos k with hz|hz
      ·subst hz
       go_wp2
       all_goals first|(go_ret;exact⟨ZW (hbad.out ck.out).symm,rfl⟩)|go_wall
      ·have ek:((k:Int)==0)=false:=by simp;omega
       go_wp2
       all_goals first|(go_ret;exact⟨ZW (hbad.out ck.out).symm,rfl⟩)|go_wall
    ·have hkn:k=s.size:=by omega
     go_wp2
     go_ret;exact⟨ZW (by rw[hm.out];rw[←hkn];exact hall.out.symm),rfl⟩
theorem Zbf {s:ByteArray}(h:s.size=0):s.toList.isEmpty=true:=by
 rw[ByteArray.toList_eq];obtain⟨⟨l⟩⟩:=s;cases l with
 | nil=>rfl
 | cons a l=>simp[ByteArray.size] at h
theorem Zar {s:ByteArray}(h:0<s.size):s.toList.isEmpty=false:=by
 rw[ByteArray.toList_eq];obtain⟨⟨l⟩⟩:=s;cases l with
 | nil=>simp[ByteArray.size] at h
 | cons a l=>rfl
theorem XH (s:ByteArray)(w:World)(hs:s.size<=maxLen) :
  Calls Tryz.prog 196 #[.string s] w λe w'=>e = .returned (.bool (ZU s))/\w=w':=by
 unfold maxLen at hs;by_cases h1:s.size=0
 ·have hm:Hid (ZU s=false):=Za (by unfold ZU;rw[decide_eq_false (by omega)];rfl)
  have he:=Zbf h1;have he2:s.toList=[]:=by simpa using he
  clear h1;go_enter Tryz.func196,Tryz.ntmps196;go_wp2
  go_ret;exact⟨ZW hm.out.symm,rfl⟩
 ·have h1':0<s.size:=by omega
  have he:=Zar h1';clear h1;have he2:¬s.toList=[]:=by intro h;rw[h] at he;cases he
  by_cases h2:(12:Int)<s.size
  ·have hm:Hid (ZU s=false):=Za (by unfold ZU;rw[decide_eq_false (p:=s.size<=12) (by omega)];simp)
   go_enter Tryz.func196,Tryz.ntmps196;go_wp2
   go_ret;exact⟨ZW hm.out.symm,rfl⟩
  ·have hm:Hid (ZU s=(List.range s.size).all (WE s)):=Za (by unfold ZU;rw[decide_eq_true (by omega),decide_eq_true (by omega)];rfl)
   have hbad:Hid (∀k,k<s.size→WE s k=false→ZU s=false):=Za (λk hk h=>by rw[hm.out];exact Xl (List.getElem?_range hk) h);have hc0:Hid (ZhL s 0=(s[0].toNat:Int)):=Za (by unfold ZhL;rw[dif_pos h1']);cases h3:inB (s[0].toNat:Int) 97 122
   ·have ck:Hid (WE s 0=false):=Za (by unfold WE ZfE;rw[hc0.out,h3];rfl)
    go_enter Tryz.func196,Tryz.ntmps196;go_wp2_with (go_at_call 247;refine(X6 _ _).mono ?_;rintro e w' ⟨rfl,rfl⟩)
    go_ret;exact⟨ZW (hbad.out 0 h1' ck.out).symm,rfl⟩
   ·have ck0:Hid (WE s 0=true):=Za (by unfold WE ZfE;rw[hc0.out,h3];rfl)
    go_enter Tryz.func196,Tryz.ntmps196;go_wp2_with (go_at_call 247;refine(X6 _ _).mono ?_;rintro e w' ⟨rfl,rfl⟩)
    go_loopw [3] (λi wr=>∃k:Nat,k<=s.size/\i = .int .i64 k/\w=wr/\Hid ((List.range k).all (WE s)=true)) (λi _=>s.size-(intOf i).toNat)
    case atStart=>exact⟨0,Nat.zero_le _,rfl,rfl,Za rfl⟩
    case round =>
     clear h3;obtain⟨k,hk,rfl,rfl,hall⟩:=hrel;by_cases hlt:k<s.size
     ·have hc:Hid (ZhL s k=(s[k].toNat:Int)):=Za (by unfold ZhL;rw[dif_pos hlt])
      have hgood:Hid (WE s k=true→(List.range (k+1)).all (WE s)=true):=Za (λh=>by rw[List.range_succ,List.all_append,hall.out];simp[h]);have hpos:Hid (WE s k=false→0<k):=Za (λh=>by
       rcases Nat.eq_zero_or_pos k with hz|hz
       ·subst hz;rw[ck0.out] at h;cases h
       ·exact hz)
      clear hall;cases h4:inB (s[k].toNat:Int) 97 122
      ·cases h5:inB (s[k].toNat:Int) 48 57
       ·cases h6:((s[k].toNat:Int)==45)
        ·have ck:Hid (WE s k=false):=Za (by unfold WE ZfE othB;rw[hc.out,h4,h5,h6];simp)
         have e6:((s[k].toNat:Int) != 45)=true:=by simp at h6 ⊢;exact h6
         go_wp2_with (first|(go_at_call 247;refine(X6 _ _).mono ?_;rintro e w' ⟨rfl,rfl⟩)|(go_at_call 201;refine(XS _ _).mono ?_;rintro e w' ⟨rfl,rfl⟩))
         go_ret;exact⟨ZW (hbad.out k hlt ck.out).symm,rfl⟩
        ·have e6:((s[k].toNat:Int) != 45)=false:=by simp at h6 ⊢;exact h6
         rcases Nat.eq_zero_or_pos k with hz|hz
         ·exfalso
          have:=ck0.out;subst hz;unfold WE ZfE at this;rw[hc0.out,h4] at this;simp at this
         ·have ck:Hid (WE s k=true):=Za (by unfold WE othB;rw[hc.out,h5,h6];simp[hz])
          go_wp2_with (first|(go_at_call 247;refine(X6 _ _).mono ?_;rintro e w' ⟨rfl,rfl⟩)|(go_at_call 201;refine(XS _ _).mono ?_;rintro e w' ⟨rfl,rfl⟩))
          go_round
          case rel=>exact⟨k+1,by omega,by go_num,trivial,Za (hgood.out ck.out)⟩
          case measure=>simp[intOf];omega
       ·rcases Nat.eq_zero_or_pos k with hz|hz
        ·exfalso
         have:=ck0.out;subst hz;unfold WE ZfE at this;rw[hc0.out,h4] at this;simp at this
        ·have ck:Hid (WE s k=true):=Za (by unfold WE othB;rw[hc.out,h5];simp[hz])
         go_wp2_with (first|(go_at_call 247;refine(X6 _ _).mono ?_;rintro e w' ⟨rfl,rfl⟩)|(go_at_call 201;refine(XS _ _).mono ?_;rintro e w' ⟨rfl,rfl⟩))
         go_round
         case rel=>exact⟨k+1,by omega,by go_num,trivial,Za (hgood.out ck.out)⟩
         case measure=>simp[intOf];omega
      ·have ck:Hid (WE s k=true):=Za (by unfold WE ZfE;rw[hc.out,h4];rfl)
       go_wp2_with (go_at_call 247;refine(X6 _ _).mono ?_;rintro e w' ⟨rfl,rfl⟩)
       go_round
       case rel=>exact⟨k+1,by omega,by go_num,trivial,Za (hgood.out ck.out)⟩
       case measure=>simp[intOf];omega
     ·have hkn:k=s.size:=by omega
      go_wp2
      go_ret;exact⟨ZW (by rw[hm.out];rw[←hkn];exact hall.out.symm),rfl⟩
structure Kind where
 fReach:Int
 fHave:Int
 deriving DecidableEq
def Kind.cells (x:Kind):List Value:=[.int .i64 x.fReach,.int .i64 x.fHave]
def Kind.same (x y:Kind):Bool:=decide (x=y)
theorem Kind.len (x:Kind):x.cells.length=2:=rfl
theorem Arr.Kind {w:World}{B:Nat}{A:Option Addr}{n:Nat}{l:List Kind}(h:Arr Kind.cells 2 w B A n l){k:Nat}(hk:k<n):∃b o x,A=some ⟨b,o,none⟩/\b<B/\l[k]?=some x/\w.cell? ⟨b,o+k*2,none⟩=some (.int .i64 x.fReach)/\w.cell? ⟨b,o+k*2+1,none⟩=some (.int .i64 x.fHave):=by
 obtain⟨b,o,x,e,hb,hx,hc⟩:=h.at_ hk;exact⟨b,o,x,e,hb,hx,hc 0 _ rfl,hc 1 _ rfl⟩
def Kind.fits (_:Kind):Prop:=True
theorem ZbK:(Tryz.prog.info? 103).map (λi=>(i.zero,i.size,i.bytes))=some (some (.agg #[.int .i64 0,.int .i64 0]),2,16):=by kernel_rfl
def Kind.wt (_:Kind):Int:=0
def Kind.pre (l:List Kind):Int:=(l.map Kind.wt).sum
def Kind.tot (l:List Kind):Int:=l.length+Kind.pre l
end Go.Proofs.YtfpaejlipaainaaGreatDoor
