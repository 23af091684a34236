/- Texts that belong together, joined: contracts and plain laws. No statement is proved here. -/
import Derived.Test.YtfpaejlipaainaaGreatDoorM41
set_option maxRecDepth 100000
set_option maxHeartbeats 2000000
namespace Go.Proofs.YtfpaejlipaainaaGreatDoor
open Go.ChangeShapes Go.WideShapes Go.ChangeAt Go.RowKit Go.Deep
theorem JE (S b:Int)(A:Option Addr)(n c:Nat)(l:List Int)(w:World)(hS:3<=S/\S<=60)(hl:RB7 l)(hnc:n<=c)(hr:Arr ZB 1 w w.heap.size A n l) :
  Calls Tryz.prog 217 #[.int .i64 S,.slice A n c,.int .i64 b] w λe w'=>∃g vb,e = .returned (.pointer (some ⟨g,0,none⟩))/\WS w' w.heap.size g S b A n c l vb (mOrd S b l)/\Below w.heap.size w w':=by
 have hrl:=hr.len;obtain⟨W1,hW1⟩:∃W1,W1=w.alloc (.cells #[.int .i64 S,.slice A n c,.int .i64 b,.slice none 0 0,.int .i64 (-1)] 233):=⟨_,rfl⟩;have b1:Below w.heap.size w W1:=by rw[hW1];exact(Below.refl _ _).alloc (Nat.le_refl _) _
 have z1:W1.heap.size=w.heap.size+1:=by rw[hW1];simp
 have k1:W1.heap[w.heap.size]?=some (.cells #[.int .i64 S,.slice A n c,.int .i64 b,.slice none 0 0,.int .i64 (-1)] 233 (0,0)):=by rw[hW1];exact heap_alloc_new w _
 have s1:WS W1 w.heap.size w.heap.size S b A n c l (.slice none 0 0) ([],-1):=⟨k1,Res.empty (Nat.zero_le _),hr.below b1,Nat.le_refl _⟩;have o1:=Own.none_made (cells:=ZB) (e:=2) (s:=1) (base:=w.heap.size) W1 (by omega);obtain⟨W2,hW2⟩:∃W2,W2=W1.alloc (.cells #[] 2):=⟨_,rfl⟩;rw[←hW2,z1] at o1;have b12:Below W1.heap.size W1 W2:=by rw[hW2];exact(Below.refl _ _).alloc (Nat.le_refl _) _
 have z2:W2.heap.size=w.heap.size+2:=by rw[hW2];simp;omega
 have o2:=Own.none_made (cells:=ZB) (e:=2) (s:=1) (base:=w.heap.size) W2 (by omega);obtain⟨W3,hW3⟩:∃W3,W3=W2.alloc (.cells #[] 2):=⟨_,rfl⟩;rw[←hW3,z2] at o2;have b23:Below W2.heap.size W2 W3:=by rw[hW3];exact(Below.refl _ _).alloc (Nat.le_refl _) _
 have hcall:=Za (Zd9 (w.heap.size) w.heap.size S b A n c l hS hl hrl hnc (n+1) [] ([],-1) (.slice none 0 0) _ _ W3 (by simp) (λz hz=>by cases hz) (Nat.zero_le _) ((s1.below b12).below b23) (o1.below b23) o2);have hB:=Za ((b1.trans (b12.mono b1.size)).trans (b23.mono (by omega)));have hG:Hid (JI S b l (n+1) [] ([],-1)=mOrd S b l):=Za (by rw[←hrl];exact Zij S b l);have e1:(List.length ([]:List Int))=0:=rfl;rw[hW3,hW2,hW1] at hcall;clear s1 k1 o1 o2 b12 b23 z1 z2 b1 hr hrl;go_enter Tryz.func217,Tryz.ntmps217;go_wp2_with fail
 refine hcall.out.mono ?_;rintro e w4 ⟨rfl,vb,hw4,hg4⟩;rw[hG.out] at hw4;have hW4:=Za hw4;have hB4:=Za (hB.out.grown (by rw[hW3,hW2,hW1];exact hg4) hB.out.size (λk e=>by cases e;exact Nat.le_refl _));clear hw4 hg4;go_wp2
 go_ret;exact⟨_,_,rfl,hW4.out,hB4.out⟩
theorem Zeo (S b:Int)(A:Option Addr)(n c:Nat)(l:List Int)(w:World)(hn:n<=1048576)(hnc:n<=c)(hS:inB S 3 60=true)(hr:Arr ZB 1 w w.heap.size A n l) :
  Calls Tryz.prog 156 #[.int .i64 S,.slice A n c,.int .i64 b] w λe w'=>∃v,e = .returned (.tuple #[v,.int .i64 (ordC S b l)])/\Res ZB 2 1 w' w.heap.size v (ordL S b l).length (ordL S b l)/\Below w.heap.size w w':=by
 have hSb:=Zj.1 hS;have hR:=Za hr;clear hr;cases h1:Y9 l
 ·have hM:Hid (ordC S b l=1/\ordL S b l=[]):=Za (by unfold ordL ordC;rw[h1];exact⟨rfl,rfl⟩)
  go_enter Tryz.func156,Tryz.ntmps156;go_wp2_with fail
  refine(Wm S b A n c l _ hn hS hR.out).mono ?_;rw[h1];rintro e w1 ⟨rfl,hb⟩;have hB:=Za hb;clear hb;go_wp2
  go_ret2
  exact⟨_,by rw[hM.out.1];rfl,by rw[hM.out.2];exact Res.empty (Nat.zero_le _),hB.out⟩
 cases h2:inB b 0 5
 ·have hM:Hid (ordC S b l=2/\ordL S b l=[]):=Za (by unfold ordL ordC;rw[h1,h2];exact⟨rfl,rfl⟩)
  go_enter Tryz.func156,Tryz.ntmps156;go_wp2_with fail
  refine(Wm S b A n c l _ hn hS hR.out).mono ?_;rw[h1,h2];rintro e w1 ⟨rfl,hb⟩;have hB:=Za hb;clear hb;go_wp2
  go_ret2
  exact⟨_,by rw[hM.out.1];rfl,by rw[hM.out.2];exact Res.empty (Nat.zero_le _),hB.out⟩
 have hnat:=Zik S b l;by_cases h3:(mOrd S b l).2=0
 ·have hM:Hid (ordC S b l=0/\ordL S b l=(mOrd S b l).1):=Za (by unfold ordL ordC;rw[h1,h2,h3];exact⟨rfl,rfl⟩)
  go_enter Tryz.func156,Tryz.ntmps156;go_wp2_with fail
  refine(Wm S b A n c l _ hn hS hR.out).mono ?_;rw[h1,h2];rintro e w1 ⟨rfl,hb⟩;have hB:=Za hb;clear hb;go_wp2_with fail
  refine(JE S b A n c l _ hSb (Qr h1) hnc (hR.out.go hB.out)).mono ?_;rintro e w2 ⟨g,vb,rfl,hw2,hb⟩;obtain⟨c0,c1,c2,c3,c4,cf⟩:=Zb0 hw2.box;rw[h3] at c4;have hO:=Za (hw2.best.less hB.out.size);obtain⟨Ab,cb,hvb,_⟩:=hw2.best.slice;subst hvb;replace hB:=Za (Below.up hB.out hb);clear hb hw2 h3 hnat;go_wp2
  go_ret2
  exact⟨_,by rw[hM.out.1];rfl,by rw[hM.out.2];exact hO.out,hB.out⟩
 ·have hM:Hid (ordC S b l=3/\ordL S b l=[]):=Za (by
   have h4:ordC S b l=3:=by unfold ordC;rw[h1,h2];simp only[if_true];rw[if_pos (by omega)]
   exact⟨h4,by unfold ordL;rw[h4];rfl⟩)
  have hd:((mOrd S b l).2==0)=false:=by simpa using h3
  go_enter Tryz.func156,Tryz.ntmps156;go_wp2_with fail
  refine(Wm S b A n c l _ hn hS hR.out).mono ?_;rw[h1,h2];rintro e w1 ⟨rfl,hb⟩;have hB:=Za hb;clear hb;go_wp2_with fail
  refine(JE S b A n c l _ hSb (Qr h1) hnc (hR.out.go hB.out)).mono ?_;rintro e w2 ⟨g,vb,rfl,hw2,hb⟩;obtain⟨c0,c1,c2,c3,c4,cf⟩:=Zb0 hw2.box;replace hB:=Za (Below.up hB.out hb);clear hb hw2;go_wp2
  go_ret2
  exact⟨_,by rw[hM.out.1];rfl,by rw[hM.out.2];exact Res.empty (Nat.zero_le _),hB.out⟩
def WG (n:Int):List Int→List Int
 | []=>[n]
 | x :: l=>if n<x then n :: x :: l else if n=x then x :: l else x :: WG n l
theorem ZdG {n:Int}:∀{l:List Int},(∀x∈l,x<n)→WG n l=l++[n]
 | [],_=>rfl
 | x :: l,h=>by
  have:=h x List.mem_cons_self;rw[WG,if_neg (by omega),if_neg (by omega),ZdG λy hy=>h y (List.mem_cons_of_mem _ hy)];rfl
theorem ZdH {n:Int}{r:List Int}:∀{l:List Int},(∃x∈l,n<=x)→WG n (l++r)=WG n l++r
 | [],⟨_,hx,_⟩=>by cases hx
 | x :: l,⟨y,hy,hn⟩=>by
  rw[List.cons_append,WG,WG];by_cases h1:n<x
  ·rw[if_pos h1,if_pos h1];rfl
  ·by_cases h2:n=x
   ·rw[if_neg h1,if_pos h2,if_neg h1,if_pos h2];rfl
   ·rw[if_neg h1,if_neg h2,if_neg h1,if_neg h2]
    rw[ZdH (l:=l) ⟨y,(List.mem_cons.1 hy).elim (λe=>absurd hn (by rw[e];omega)) id,hn⟩];rfl
theorem Zgt {n x:Int}{l:List Int}(h:∀y∈l,y<n)(hx:n<=x):WG n (l++[x])=if n<x then l++[n]++[x] else l++[x]:=by
 induction l with
 | nil =>
  rw[List.nil_append,WG];split
  ·rfl
  ·rw[if_pos (by omega)]
 | cons a l ih =>
  have:=h a List.mem_cons_self;rw[List.cons_append,WG,if_neg (by omega),if_neg (by omega),ih λy hy=>h y (List.mem_cons_of_mem _ hy)];split<;>rfl
theorem putI_mem {n z:Int}:∀{l:List Int},z∈WG n l↔z=n\/z∈l
 | []=>by simp[WG]
 | x :: l=>by
  rw[WG];split
  ·simp
  ·split
   ·rename_i h;subst h;simp
   ·rw[List.mem_cons,putI_mem,List.mem_cons]
    constructor
    ·rintro(h|h|h)
     ·exact .inr (.inl h)
     ·exact .inl h
     ·exact .inr (.inr h)
    ·rintro(h|h|h)
     ·exact .inr (.inl h)
     ·exact .inl h
     ·exact .inr (.inr h)
theorem Qz {n:Int}:∀{l:List Int},l.Pairwise (· < ·)→(WG n l).Pairwise (· < ·)
 | [],_=>by simp[WG]
 | x :: l,h=>by
  obtain⟨h1,h2⟩:=List.pairwise_cons.1 h;rw[WG];split
  ·rename_i hn
   refine List.pairwise_cons.2 ⟨?_,h⟩;intro y hy;rcases List.mem_cons.1 hy with rfl|hy
   ·exact hn
   ·have:=h1 y hy;omega
  ·split
   ·exact h
   ·refine List.pairwise_cons.2 ⟨?_,Qz h2⟩
    intro y hy;rcases putI_mem.1 hy with rfl|hy
    ·omega
    ·exact h1 y hy
theorem Zbm:∀{a b:List Int},a.Pairwise (· < ·)→b.Pairwise (· < ·)→(∀z,z∈a↔z∈b)→a=b
 | [],[],_,_,_=>rfl
 | [],y :: b,_,_,h=>by have:=(h y).2 List.mem_cons_self;cases this
 | x :: a,[],_,_,h=>by have:=(h x).1 List.mem_cons_self;cases this
 | x :: a,y :: b,ha,hb,h=>by
  obtain⟨a1,a2⟩:=List.pairwise_cons.1 ha;obtain⟨b1,b2⟩:=List.pairwise_cons.1 hb;have hxy:x=y:=by
   rcases List.mem_cons.1 ((h x).1 List.mem_cons_self) with e|e
   ·exact e
   ·rcases List.mem_cons.1 ((h y).2 List.mem_cons_self) with e2|e2
    ·exact e2.symm
    ·have h1:=b1 x e
     have h2:=a1 y e2;omega
  subst hxy;rw[Zbm a2 b2 λz=>?_];constructor
  ·intro hz
   rcases List.mem_cons.1 ((h z).1 (List.mem_cons_of_mem _ hz)) with e|e
   ·have:=a1 z hz;omega
   ·exact e
  ·intro hz
   rcases List.mem_cons.1 ((h z).2 (List.mem_cons_of_mem _ hz)) with e|e
   ·have:=b1 z hz;omega
   ·exact e
def Xb (l:List Int):List Int:=l.foldl (λo n=>WG n o) []
theorem ZcF {l:List Int}{n:Int}:Xb (l++[n])=WG n (Xb l):=by unfold Xb;rw[List.foldl_append];rfl
theorem ZeQ (l:List Int):(Xb l).Pairwise (· < ·)/\∀z,z∈Xb l↔z∈l:=by
 have key:∀(l o:List Int),o.Pairwise (· < ·)→(l.foldl (λo n=>WG n o) o).Pairwise (· < ·)/\∀z,z∈l.foldl (λo n=>WG n o) o↔z∈o\/z∈l:=by
  intro l
  induction l with
  | nil=>intro o ho;exact⟨ho,λz=>by simp⟩
  | cons x l ih =>
   intro o ho;rw[List.foldl_cons];obtain⟨h1,h2⟩:=ih (WG x o) (Qz ho);refine⟨h1,λz=>?_⟩;rw[h2,putI_mem,List.mem_cons];constructor
   ·rintro((h|h)|h)
    ·exact .inr (.inl h)
    ·exact .inl h
    ·exact .inr (.inr h)
   ·rintro(h|h|h)
    ·exact .inl (.inr h)
    ·exact .inl (.inl h)
    ·exact .inr h
 obtain⟨h1,h2⟩:=key l [] List.Pairwise.nil;exact⟨h1,λz=>by rw[Xb,h2];simp⟩
theorem ZcE {l:List Int}(hn:l.Nodup):Xb l=l.mergeSort λx y=>decide (x<=y):=by
 obtain⟨h1,h2⟩:=ZeQ l;have hp:=List.mergeSort_perm l λx y=>decide (x<=y)
 have hs:=List.pairwise_mergeSort (le:=λx y:Int=>decide (x<=y)) (λa b c h1 h2=>by simp at *;omega) (λa b=>by simp;omega) l;have hnd:(l.mergeSort λx y=>decide (x<=y)).Nodup:=hp.nodup_iff.2 hn;refine Zbm h1 ?_ λz=>by rw[h2];exact hp.mem_iff.symm
 refine List.Pairwise.imp₂ (R:=λx y=>decide (x<=y)=true) (S:=λx y=>x≠y) (λa b h1 h2=>?_) hs hnd;have:=of_decide_eq_true h1;omega
theorem Zas {l:List Int}{lo hi:Int}(h:Z9 l lo hi=true){i j:Nat}(hij:i<j)(hj:j<l.length):l.getD i 0<l.getD j 0:=by
 have one:∀k,k+1<l.length→l.getD k 0<l.getD (k+1) 0:=by
  intro k hk;unfold Z9 at h;have h2:=List.all_eq_true.1 h (k+1) (List.mem_range.2 hk);rw[Bool.and_eq_true,Bool.or_eq_true] at h2;have h4:=of_decide_eq_true (h2.2.resolve_left (by simp))
  rwa [Nat.add_sub_cancel] at h4
 obtain⟨d,rfl⟩:∃d,j=i+1+d:=⟨j-(i+1),by omega⟩
 induction d with
 | zero=>exact one i hj
 | succ d ih =>
  have h1:=ih (by omega) (by omega);have h2:=one (i+1+d) (by omega);rw[show i+1+(d+1)=i+1+d+1 by omega];omega
theorem JF {l:List Int}{lo hi:Int}(h:Z9 l lo hi=true):l.Pairwise (· < ·):=by
 rw[List.pairwise_iff_getElem];intro i j hi hj hij;have:=Zas h hij hj;rw[List.getD_eq_getElem?_getD,List.getD_eq_getElem?_getD,List.getElem?_eq_getElem hi,List.getElem?_eq_getElem hj] at this;exact this
theorem Zgj {l:List Int}{lo hi:Int}(h:Z9 l lo hi=true){k:Nat}(hk:k<l.length):lo+(k:Int)<=l.getD k 0:=by
 induction k with
 | zero =>
  have:=Yd h (l.getD 0 0) (by rw[List.getD_eq_getElem?_getD,List.getElem?_eq_getElem hk];exact List.getElem_mem hk);omega
 | succ k ih =>
  have h1:=ih (by omega);have h2:=Zas h (show k<k+1 by omega) hk;omega
theorem ZeF {l:List Int}{lo hi:Int}(h:Z9 l lo hi=true){d:Nat}(hd:d<l.length):l.getD (l.length-1-d) 0<=hi-(d:Int):=by
 induction d with
 | zero =>
  have:=Yd h (l.getD (l.length-1-0) 0) (by rw[List.getD_eq_getElem?_getD,List.getElem?_eq_getElem (by omega)];exact List.getElem_mem _);omega
 | succ d ih =>
  have h1:=ih (by omega);have h2:=Zas h (show l.length-1-(d+1)<l.length-1-d by omega) (by omega);omega
theorem ZeG {l:List Int}{S:Nat}(h:Z9 l 0 ((S:Int)-1)=true)(hl:l.length=S):∀k,k<S→l[k]?=some (k:Int):=by
 intro k hk;have h1:=Zgj h (show k<l.length by omega);have h2:=ZeF h (show l.length-1-k<l.length by omega);rw[show l.length-1-(l.length-1-k)=k by omega] at h2;have h3:l.getD k 0=(k:Int):=by omega
 rw[List.getElem?_eq_getElem (by omega),←h3,List.getD_eq_getElem?_getD,List.getElem?_eq_getElem (by omega)];rfl
def QD (S:Nat)(br:List Int)(f:Int):Bool:=!br.contains ((f+(S:Int)-1)%(S:Int))
def YN (S:Nat)(br:List Int)(k:Nat):List (Int × Int):=((br.take k).filter (QD S br)).map λf=>(f,(manyOf S br f:Int))
def WN (S:Nat)(br:List Int):List (Int × Int):=if br.length=S then [(0,(S:Int))] else YN S br br.length
theorem Zbv {S:Nat}{br:List Int}{k:Nat}{f:Int}(hx:br[k]?=some f)(h:QD S br f=true):YN S br (k+1)=YN S br k++[(f,(manyOf S br f:Int))]:=by
 unfold YN;rw[Zo hx,List.filter_append,List.map_append];simp[h]
theorem ZcI {S:Nat}{br:List Int}{k:Nat}{f:Int}(hx:br[k]?=some f)(h:QD S br f=false):YN S br (k+1)=YN S br k:=by
 unfold YN;rw[Zo hx,List.filter_append,List.map_append];simp[h]
theorem Zbu {S:Nat}{br:List Int}(hS:3<=S)(h:Z9 br 0 ((S:Int)-1)=true):WN S br=YU S br:=by
 have hlen:=X8 h (by omega);unfold WN YU Xv;rw[List.take_length];split
 ·rename_i hl
  have hf:=ZeG h hl;have hmem:∀k:Nat,k<S→br.contains (k:Int)=true:=λk hk=>List.contains_iff_mem.2 (List.mem_of_getElem? (hf k hk))
  have hp:∀x∈br,XJ S br x=decide (x=0):=by
   intro x hx;have hb:=Yd h x hx;unfold XJ;rw[hl];by_cases h0:x=0
   ·subst h0;simp
   ·obtain⟨k,rfl⟩:∃k:Nat,x=(k:Int):=⟨x.toNat,by omega⟩
    have e:((k:Int)+(S:Int)-1)%(S:Int)=((k-1:Nat):Int):=by
     rw[show(k:Int)+(S:Int)-1=((k-1:Nat):Int)+(S:Int) by omega,Int.add_emod_right,Int.emod_eq_of_lt (by omega) (by omega)]
    rw[e,hmem (k-1) (by omega)];have h1:decide ((0:Int)<(k:Int))=true:=decide_eq_true (by omega);rw[h1];have h2:¬k=0:=by omega
    simp[h2]
  rw[List.filter_congr hp];obtain⟨T,hT⟩:∃T,br=0 :: T:=by
   cases hb:br with
   | nil=>rw[hb] at hl;simp at hl;omega
   | cons y T =>
    have:=hf 0 (by omega);rw[hb] at this;simp at this;exact⟨T,by rw[this]⟩
  have hm:manyOf S br 0=S:=V4 (by omega) (Nat.le_refl _) (λj _ hj=>by
   rw[Int.zero_add,Int.emod_eq_of_lt (by omega) (by omega)];exact hmem j hj) (.inl rfl)
  have hT0:∀x∈T,¬x=0:=by
   have:=JF h;rw[hT] at this;intro x hx;have:=(List.pairwise_cons.1 this).1 x hx;omega
  have e:br.filter (λx=>decide (x=0))=[0]:=by
   rw[hT,List.filter_cons,if_pos (by simp),List.filter_eq_nil_iff.2 (λx hx=>by simp[hT0 x hx])]
  rw[e,List.map_cons,List.map_nil,hm]
 ·rename_i hl
  unfold YN;rw[List.take_length]
  congr 1
  refine List.filter_congr λx _=>?_
  unfold QD XJ;rw[decide_eq_true (show br.length<S by omega),Bool.true_or,Bool.and_true]
theorem ZjM {S:Nat}{a b:Int}(_hS:0<S)(h:a%(S:Int)=b%(S:Int))(hab:a<=b)(hlt:b-a<S):a=b:=by
 have h1:=Int.emod_emod_of_dvd (a-b) (Int.dvd_refl (S:Int));have h2:(b-a)%(S:Int)=0:=by rw[Int.sub_emod,h,Int.sub_self,Int.zero_emod]
 rw[Int.emod_eq_of_lt (by omega) (by omega)] at h2;omega
theorem ZjN {S:Nat}{br:List Int}{f:Int}(hf:f∈br)(hb:0<=f/\f<S){j:Nat}(hj:j<manyOf S br f):br.contains ((f+(j:Int))%(S:Int))=true:=by
 rcases Nat.eq_zero_or_pos j with rfl|h0
 ·rw[show f+((0:Nat):Int)=f by omega,Int.emod_eq_of_lt hb.1 hb.2]
  exact List.contains_iff_mem.2 hf
 ·unfold manyOf at hj
  have h1:j-1<((List.range (S-1)).takeWhile λj=>br.contains ((f+((j+1:Nat):Int))%(S:Int))).length:=by omega
  have h2:=(List.takeWhile_prefix (l:=List.range (S-1)) (λj=>br.contains ((f+((j+1:Nat):Int))%(S:Int)))).getElem h1;have h3:=List.getElem_mem h1;have h4:=List.all_eq_true.1 List.all_takeWhile _ h3;rw[h2,List.getElem_range] at h4;rw[show j=j-1+1 by omega];exact h4
theorem ZdX {S:Nat}{p:Int × Int}{z:Int}(h:z∈XZ S p):∃j:Nat,j<(p.2.toNat+1)/2/\z=(p.1+2*(j:Int))%(S:Int):=by
 unfold XZ Yi at h;obtain⟨j,hj,rfl⟩:=List.mem_map.1 h;exact⟨j,List.mem_range.1 hj,rfl⟩
theorem JL {S:Nat}{br:List Int}{f g:Int}(hS:3<=S)(hg:g∈br)(fb:0<=f/\f<S)(gb:0<=g/\g<S)(pf:QD S br f=true){i j:Nat}(hij:i<=j)(hj:j<manyOf S br g)(e:(f+(i:Int))%(S:Int)=(g+(j:Int))%(S:Int)):f=g:=by
 have hm:=QK (br:=br) (f:=g) (show 1<=S by omega);have e1:f%(S:Int)=(g+((j-i:Nat):Int))%(S:Int):=by
  have:(f+(i:Int)-(i:Int))%(S:Int)=(g+(j:Int)-(i:Int))%(S:Int):=by rw[Int.sub_emod,e,←Int.sub_emod]
  rw[show f+(i:Int)-(i:Int)=f by omega,show g+(j:Int)-(i:Int)=g+((j-i:Nat):Int) by omega] at this;exact this
 rcases Nat.eq_zero_or_pos (j-i) with h0|h0
 ·rw[h0] at e1
  rw[show g+((0:Nat):Int)=g by omega,Int.emod_eq_of_lt fb.1 fb.2,Int.emod_eq_of_lt gb.1 gb.2] at e1;exact e1
 ·exfalso
  have h1:=ZjN hg gb (show j-i-1<manyOf S br g by omega);have h2:(f+(S:Int)-1)%(S:Int)=(g+((j-i-1:Nat):Int))%(S:Int):=by
   rw[show f+(S:Int)-1=f-1+(S:Int) by omega,Int.add_emod_right,Int.sub_emod,e1,←Int.sub_emod]
   congr 1;omega
  unfold QD at pf;rw[h2,h1] at pf;cases pf
theorem Q9 {S:Nat}{p:Int × Int}(hS:0<S)(hp:p.2<=S):(XZ S p).Nodup:=by
 unfold XZ Yi;rw[List.Nodup,List.pairwise_map];refine List.Pairwise.imp_of_mem ?_ (List.pairwise_lt_range (n:=(p.2.toNat+1)/2));intro a b ha hb hab he;have h1:=List.mem_range.1 ha;have h2:=List.mem_range.1 hb;have:=ZjM hS he (by omega) (by omega);omega
theorem Zbt {S:Nat}{br:List Int}(hS:3<=S)(h:Z9 br 0 ((S:Int)-1)=true):((WN S br).flatMap (XZ S)).Nodup:=by
 unfold WN;split
 ·rw[List.flatMap_cons,List.flatMap_nil,List.append_nil]
  exact Q9 (by omega) (Int.le_refl _)
 ·unfold YN
  rw[List.take_length];have hpair:=JF h;have hbound:=Yd h;have key:∀l:List Int,l.Pairwise (· < ·)→(∀x∈l,x∈br)→(((l.filter (QD S br)).map λf=>(f,(manyOf S br f:Int))).flatMap (XZ S)).Nodup:=by
   intro l
   induction l with
   | nil=>intro _ _;exact List.Pairwise.nil
   | cons f l ih =>
    intro hp hm;obtain⟨p1,p2⟩:=List.pairwise_cons.1 hp;have hr:=ih p2 λx hx=>hm x (List.mem_cons_of_mem _ hx)
    rw[List.filter_cons];split
    ·rename_i pf
     rw[List.map_cons,List.flatMap_cons];have hfm:=hm f List.mem_cons_self;have hfb:=hbound f hfm;have hmf:=QK (br:=br) (f:=f) (show 1<=S by omega);refine List.nodup_append.2 ⟨Q9 (by omega) (by show(manyOf S br f:Int)<=S;omega),hr,?_⟩;intro a ha b hb hab;subst hab;obtain⟨i,hi,rfl⟩:=ZdX ha;obtain⟨q,hq,hb⟩:=List.mem_flatMap.1 hb;obtain⟨g,hg,rfl⟩:=List.mem_map.1 hq;obtain⟨hg1,pg⟩:=List.mem_filter.1 hg;obtain⟨j,hj,e⟩:=ZdX hb;have hgm:=hm g (List.mem_cons_of_mem _ hg1);have hgb:=hbound g hgm;have hlt:=p1 g hg1;simp only[Int.toNat_natCast] at hi hj e;rcases Nat.le_total i j with hij|hij
     ·have:=JL (i:=2*i) (j:=2*j) hS hgm (by omega) (by omega) pf (by omega) (by omega) (by push_cast;exact e)
      omega
     ·have:=JL (i:=2*j) (j:=2*i) hS hfm (by omega) (by omega) pg (by omega) (by omega) (by push_cast;exact e.symm)
      omega
    ·exact hr
  exact key br hpair λx hx=>hx
def ZkC (S:Nat)(br:List Int):List Int:=Xb ((WN S br).flatMap (XZ S))
theorem ZjL {S:Nat}{br:List Int}(hS:3<=S)(h:Z9 br 0 ((S:Int)-1)=true):ZkC S br=ZeV S br:=by
 unfold ZkC ZeV gapsUp;rw[ZcE (Zbt hS h),List.take_length,Zbu hS h]
theorem Zek (A:Option Addr)(n c:Nat)(l:List Int)(lo hi:Int)(w:World)(hn:n<=1048576)(hr:Arr ZB 1 w w.heap.size A n l) :
  Calls Tryz.prog 255 #[.slice A n c,.int .i64 lo,.int .i64 hi] w λe w'=>e = .returned (.bool (Z9 l lo hi))/\Below w.heap.size w w':=by
 have hlen:=Za hr.len;go_enter Tryz.func255,Tryz.ntmps255;go_wp2
 go_loopw [7] (λi wr=>∃k:Nat,k<=n/\i = .int .i64 k/\Below w.heap.size w wr/\Hid (∀i,i<k→(inB (l.getD i 0) lo hi&&(decide (i=0)||decide (l.getD (i-1) 0<l.getD i 0)))=true)) (λi _=>n-(intOf i).toNat)
 case atStart=>exact⟨0,Nat.zero_le _,rfl,Below.refl _ _,Za (by intro i hi;omega)⟩
 case round =>
  obtain⟨k,hk,rfl,hb,hall⟩:=hrel;by_cases hlt:k<n
  ·obtain⟨b,o,x,rfl,hbl,hx,c0⟩:=hr.int hlt
   have d0:wr.cell? ⟨b,o+k,none⟩=some (.int .i64 x):=(hb.cell (p:=⟨b,o+k,none⟩) hbl).trans c0;have hX:=Za hx;clear hx c0;have hx:Hid (l.getD k 0=x):=Za (Wx hX.out);have hB:=Za hb;have keyT:(inB x lo hi&&(decide (k=0)||decide (l.getD (k-1) 0<x)))=true→Hid (∀i,i<k+1→(inB (l.getD i 0) lo hi&&(decide (i=0)||decide (l.getD (i-1) 0<l.getD i 0)))=true):=by
    refine λhbb=>Za λi hi=>?_
    by_cases hik:i=k
    ·subst hik;rw[hx.out];exact hbb
    ·exact hall.out i (by omega)
   have keyF:(inB x lo hi&&(decide (k=0)||decide (l.getD (k-1) 0<x)))=false→Hid (Z9 l lo hi=false):=by
    refine λhbb=>Za ?_
    unfold Z9;rw[List.all_eq_false];exact⟨k,List.mem_range.2 (by rw[hlen.out];exact hlt),by rw[hx.out,hbb];simp⟩
   have hkT:=Za keyT;have hkF:=Za keyF;clear keyT keyF;have hki:(k:Int)<(n:Int):=by omega
   have hk0:(0:Int)<=(k:Int):=by omega
   cases h1:inB x lo hi
   ·have hd:=hkF.out (by rw[h1];rfl)
    clear hr hb;go_wp2
    go_quiet ((go_at_call 135;exact Zy (Yc _ _ _ _)))
    go_wp2
    go_ret;exact⟨ZW hd.out.symm,Zb hB.out _⟩
   ·by_cases h0:k=0
    ·have hd:=hkT.out (by rw[h1,decide_eq_true h0];rfl)
     have hkp:decide (0<k)=false:=decide_eq_false (by omega);clear hr hb h0;go_wp2
     go_quiet ((go_at_call 135;exact Zy (Yc _ _ _ _)))
     go_wp2
     go_roundw
     case rel=>exact⟨k+1,by omega,by go_num,Zb hB.out _,hd⟩
     case measure=>simp[intOf];omega
    ·obtain⟨b',o',y,hA',hbl',hy,cy⟩:=hr.int (show k-1<n by omega)
     cases hA'
     have e0:wr.cell? ⟨b,o+(k-1),none⟩=some (.int .i64 y):=(hb.cell (p:=⟨b,o+(k-1),none⟩) hbl').trans cy;have hyy:Hid (l.getD (k-1) 0=y):=Za (Wx hy);have hw:IntKind.i64.wrap ((k:Int)-1)=(k:Int)-1:=IntWalk.i64_in _ (by omega);have hkp:decide (0<k)=true:=decide_eq_true (by omega);have hi0:(0:Int)<=(k:Int)-1:=by omega
     have hi3:(1:Int)<=(k:Int):=by omega
     have hi1:(k:Int)-1<(n:Int):=by omega
     have hi2:((k:Int)-1).toNat=k-1:=by omega
     have hdk:Hid (decide (k=0)=false):=Za (decide_eq_false h0);clear hr hb hy cy h0;cases hc:decide (x<=y)
     ·have hd:=hkT.out (by rw[h1,hdk.out,hyy.out,decide_eq_true (by have:=of_decide_eq_false hc;omega)];rfl)
      go_wp2
      go_quiet ((go_at_call 135;exact Zy (Yc _ _ _ _)))
      go_wp2
      go_roundw
      case rel=>exact⟨k+1,by omega,by go_num,Zb hB.out _,hd⟩
      case measure=>simp[intOf];omega
     ·have hd:=hkF.out (by rw[h1,hdk.out,hyy.out,decide_eq_false (by have:=of_decide_eq_true hc;omega)];rfl)
      go_wp2
      go_quiet ((go_at_call 135;exact Zy (Yc _ _ _ _)))
      go_wp2
      go_ret;exact⟨ZW hd.out.symm,Zb hB.out _⟩
  ·have hkn:k=n:=by omega
   have hB:=Za hb;have hfin:Hid (Z9 l lo hi=true):=Za (by
    unfold Z9;rw[List.all_eq_true];intro i hi;exact hall.out i (by have:=List.mem_range.1 hi;rw[hlen.out] at this;omega))
   have hki:¬(k:Int)<(n:Int):=by omega
   clear hb hkn;go_wp2
   go_ret;exact⟨ZW hfin.out.symm,hB.out⟩
theorem Qq (S:Int)(A:Option Addr)(n c:Nat)(l:List Int)(w:World)(hn:n<=1048576)(hS:inB S 3 60=true)(hr:Arr ZB 1 w w.heap.size A n l) :
  Calls Tryz.prog 204 #[.int .i64 S,.slice A n c] w λe w'=>e = .returned (.bool (Z9 l 0 (S-1)))/\Below w.heap.size w w':=by
 have hSb:=Zj.1 hS;obtain⟨d,hd⟩:∃d,d=S-1:=⟨_,rfl⟩;have hw1:IntKind.i64.wrap (S-1)=d:=by rw[←hd];exact IntWalk.i64_in _ (by omega)
 rw[←hd];clear hd;go_enter Tryz.func204,Tryz.ntmps204;go_wp2_with fail
 refine(Z8 S _).mono ?_;rw[hS];rintro e w2 ⟨rfl,rfl⟩;go_wp2_with fail
 refine(Zek A n c l 0 d _ hn hr).mono ?_;rintro e w2 ⟨rfl,hb⟩;have hB:=Za hb;clear hb;go_wp2
 go_ret;exact⟨rfl,hB.out⟩
def Yy (n:Int)(l:List Int)(k:Nat):Bool:=(l.take k).any λx=>decide (n<=x)
def XU (n:Int)(l:List Int)(k:Nat):List Int:=if Yy n l k=true then WG n (l.take k) else l.take k
theorem Xp {n x:Int}{l:List Int}{k:Nat}(hx:l[k]?=some x):Yy n l (k+1)=(Yy n l k||decide (n<=x)):=by
 unfold Yy;rw[Zo hx,List.any_append];simp
theorem ZeN {n x:Int}{l:List Int}{k:Nat}(hx:l[k]?=some x)(h:Yy n l k=true):XU n l (k+1)=XU n l k++[x]:=by
 unfold XU;rw[Xp hx,h,Bool.true_or,if_pos rfl,if_pos rfl,Zo hx];refine ZdH ?_;unfold Yy at h;obtain⟨y,hy,h2⟩:=List.any_eq_true.1 h;exact⟨y,hy,of_decide_eq_true h2⟩
theorem ZeM {n x:Int}{l:List Int}{k:Nat}(hx:l[k]?=some x)(h:Yy n l k=false)(hn:¬n<=x):XU n l (k+1)=XU n l k++[x]:=by
 unfold XU;rw[Xp hx,h,Bool.false_or,decide_eq_false hn,if_neg (by simp),if_neg (by simp),Zo hx]
theorem Qx {n:Int}{l:List Int}{k:Nat}(h:Yy n l k=false):∀y∈l.take k,y<n:=by
 intro y hy;unfold Yy at h;have:=List.any_eq_false.1 h y hy;simp only[decide_eq_true_eq] at this;omega
theorem Zib {n x:Int}{l:List Int}{k:Nat}(hx:l[k]?=some x)(h:Yy n l k=false)(hn:n<x):XU n l (k+1)=XU n l k++[n]++[x]:=by
 unfold XU;rw[Xp hx,h,Bool.false_or,decide_eq_true (by omega),if_pos rfl,if_neg (by simp),Zo hx,Zgt (Qx h) (by omega),if_pos hn]
theorem ZeL {n x:Int}{l:List Int}{k:Nat}(hx:l[k]?=some x)(h:Yy n l k=false)(hn:n=x):XU n l (k+1)=XU n l k++[x]:=by
 unfold XU;rw[Xp hx,h,Bool.false_or,decide_eq_true (by omega),if_pos rfl,if_neg (by simp),Zo hx,Zgt (Qx h) (by omega),if_neg (by omega)]
theorem Zgs {n:Int}{l:List Int}:(if Yy n l l.length=true then XU n l l.length else XU n l l.length++[n])=WG n l:=by
 have ht:l.take l.length=l:=List.take_length;cases h:Yy n l l.length
 ·have hb:=Qx h
  rw[ht] at hb;unfold XU;rw[h,if_neg (by simp),if_neg (by simp),ht,ZdG hb]
 ·unfold XU
  rw[h,if_pos rfl,if_pos rfl,ht]
theorem Zgr (n:Int)(l:List Int)(k:Nat):(XU n l k).length<=k+1:=by
 have key:∀l:List Int,(WG n l).length<=l.length+1:=by
  intro l
  induction l with
  | nil=>simp[WG]
  | cons x l ih =>
   rw[WG];split
   ·simp
   ·split<;>simp;exact ih
 unfold XU;split
 ·have:=key (l.take k);rw[List.length_take] at this;omega
 ·rw[List.length_take];omega
theorem Zf9 (A:Option Addr)(n c:Nat)(l:List Int)(y:Int)(w:World)(hn:n<=100000)(hr:Arr ZB 1 w w.heap.size A n l) :
  Calls Tryz.prog 257 #[.slice A n c,.int .i64 y] w λe w'=>∃v,e = .returned v/\Own ZB 2 1 w' w.heap.size v (WG y l).length (WG y l)/\Below w.heap.size w w':=by
 have hlen:=Za hr.len;go_enter Tryz.func257,Tryz.ntmps257;go_wp2
 go_loopw [5,6,7] (λv d i wr=>∃k:Nat,k<=n/\i = .int .i64 k/\d = .bool (Yy y l k)/\Own ZB 2 1 wr w.heap.size v (XU y l k).length (XU y l k)/\Below w.heap.size w wr) (λ_ _ i _=>n-(intOf i).toNat)
 case atStart=>exact⟨0,Nat.zero_le _,rfl,rfl,Own.none_made w (Nat.le_refl _),(Below.refl w.heap.size w).alloc (Nat.le_refl _) _⟩
 case round =>
  obtain⟨k,hk,rfl,rfl,ho,hb⟩:=hrel;have hO:=Za ho;have hll:=Zgr y l k;clear ho;by_cases hlt:k<n
  ·have hki:(k:Int)<(n:Int):=by omega
   obtain⟨b,o,x,rfl,hbl,hx,c0⟩:=hr.int hlt;have d0:wr.cell? ⟨b,o+k,none⟩=some (.int .i64 x):=(hb.cell (p:=⟨b,o+k,none⟩) hbl).trans c0;have hX:=Za hx;clear hx c0;have hB:=Za hb;have hds:=Za (Xp (n:=y) hX.out);clear hr hb;cases hp:Yy y l k
   ·cases hc:decide (y<=x)
    ·have hnx:=Za (ZeM hX.out hp (of_decide_eq_false hc))
     have hdn:Hid (Yy y l (k+1)=false):=Za (by rw[hds.out,hp,hc];rfl);go_wp2_with (at_builtin;refine Zp wr.heap.size rfl rfl (.tmp 35) (.tmp 40) rfl Tryz.underlying60 Zz rfl (by omega) (by omega) Zh ZJ rfl hO.out x _ rfl rfl (by omega) hB.out.size ?_;intro v5 w5 ho5 hg5 _;have hB5:=Za (Zi hB.out hO.out hg5 hB.out.size);have hO5:=Za ho5;clear ho5 hg5)
     go_roundw
     case rel=>exact⟨k+1,by omega,by go_num,by rw[hdn.out],by rw[hnx.out,List.length_append];exact hO5.out,hB5.out⟩
     case measure=>simp[intOf];omega
    ·have hdn:Hid (Yy y l (k+1)=true):=Za (by rw[hds.out,hp,hc];rfl)
     by_cases he:y<x
     ·have hnx:=Za (Zib hX.out hp he)
      have he2:decide (y<x)=true:=decide_eq_true he;go_wp2_with (first|(at_builtin;refine Zp wr.heap.size rfl rfl (.tmp 31) (.tmp 33) rfl Tryz.underlying60 Zz rfl (by omega) (by omega) Zh ZJ rfl hO.out y _ rfl rfl (by omega) hB.out.size ?_;intro v5 w5 ho5 hg5 _;have hB5:=Za (Zi hB.out hO.out hg5 hB.out.size);have d5:=(hB5.out.cell (p:=⟨b,o+k,none⟩) hbl).trans ((hB.out.cell (p:=⟨b,o+k,none⟩) hbl).symm.trans d0);have hO5:=Za ho5;clear ho5 hg5)|(at_builtin;refine Zp w5.heap.size rfl rfl (.tmp 35) (.tmp 40) rfl Tryz.underlying60 Zz rfl (by omega) (by omega) Zh ZJ rfl hO5.out x _ rfl rfl (by omega) hB5.out.size ?_;intro v6 w6 ho6 hg6 _;have hB6:=Za (Zi hB5.out hO5.out hg6 hB5.out.size);have hO6:=Za ho6;clear ho6 hg6)|fail)
      go_roundw
      case rel=>exact⟨k+1,by omega,by go_num,by rw[hdn.out],by rw[hnx.out,List.length_append,List.length_append];exact hO6.out,hB6.out⟩
      case measure=>simp[intOf];omega
     ·have hnx:=Za (ZeL hX.out hp (by have:=of_decide_eq_true hc;omega))
      have he2:decide (y<x)=false:=decide_eq_false he;go_wp2_with (at_builtin;refine Zp wr.heap.size rfl rfl (.tmp 35) (.tmp 40) rfl Tryz.underlying60 Zz rfl (by omega) (by omega) Zh ZJ rfl hO.out x _ rfl rfl (by omega) hB.out.size ?_;intro v5 w5 ho5 hg5 _;have hB5:=Za (Zi hB.out hO.out hg5 hB.out.size);have hO5:=Za ho5;clear ho5 hg5)
      go_roundw
      case rel=>exact⟨k+1,by omega,by go_num,by rw[hdn.out],by rw[hnx.out,List.length_append];exact hO5.out,hB5.out⟩
      case measure=>simp[intOf];omega
   ·have hnx:=Za (ZeN hX.out hp)
    have hdn:Hid (Yy y l (k+1)=true):=Za (by rw[hds.out,hp];rfl);go_wp2_with (at_builtin;refine Zp wr.heap.size rfl rfl (.tmp 35) (.tmp 40) rfl Tryz.underlying60 Zz rfl (by omega) (by omega) Zh ZJ rfl hO.out x _ rfl rfl (by omega) hB.out.size ?_;intro v5 w5 ho5 hg5 _;have hB5:=Za (Zi hB.out hO.out hg5 hB.out.size);have hO5:=Za ho5;clear ho5 hg5)
    go_roundw
    case rel=>exact⟨k+1,by omega,by go_num,by rw[hdn.out],by rw[hnx.out,List.length_append];exact hO5.out,hB5.out⟩
    case measure=>simp[intOf];omega
  ·have hkn:k=n:=by omega
   have hki:¬(k:Int)<(n:Int):=by omega
   have hB:=Za hb;have hfin:=Za (Zgs (n:=y) (l:=l));rw[hlen.out,←hkn] at hfin;clear hb hkn;cases hp:Yy y l k
   ·have hf2:Hid (WG y l=XU y l k++[y]):=Za (by rw[←hfin.out,hp];rfl)
    go_wp2_with (at_builtin;refine Zp wr.heap.size rfl rfl (.tmp 44) (.tmp 46) rfl Tryz.underlying60 Zz rfl (by omega) (by omega) Zh ZJ rfl hO.out y _ rfl rfl (by omega) hB.out.size ?_;intro v5 w5 ho5 hg5 _;have hB5:=Za (Zi hB.out hO.out hg5 hB.out.size);have hO5:=Za ho5;clear ho5 hg5)
    go_ret;exact⟨_,rfl,by rw[hf2.out,List.length_append];exact hO5.out,hB5.out⟩
   ·have hf2:Hid (WG y l=XU y l k):=Za (by rw[←hfin.out,hp];rfl)
    go_wp2
    go_ret;exact⟨_,rfl,by rw[hf2.out];exact hO.out,hB.out⟩
end Go.Proofs.YtfpaejlipaainaaGreatDoor
