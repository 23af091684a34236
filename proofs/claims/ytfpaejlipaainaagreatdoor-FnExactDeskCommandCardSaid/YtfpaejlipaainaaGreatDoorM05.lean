/- Texts that belong together, joined: contracts and plain laws. No statement is proved here. -/
import Derived.Test.YtfpaejlipaainaaGreatDoorM04
import Derived.Lib.OwnBridge
import Derived.Sort.OwnSorted
import Derived.Deep.RegionWith
set_option maxRecDepth 100000
namespace Go.Proofs.YtfpaejlipaainaaGreatDoor
open Go.ChangeShapes Go.WideShapes Go.ChangeAt Go.RowKit Go.Deep
section
open Go.Sort
theorem Jb (l:List Int):l.flatMap ZB=l.map (Value.int .i64):=by
 induction l with
 | nil=>rfl
 | cons a l ih=>rw[List.flatMap_cons,ih];rfl
theorem ZbV {w:World}{g n:Nat}{os:Array Obj}{cur:Array Value}{e:TypeId}{fr:Nat × Nat}(d:Array Int)(hb:w.heap[g]?=some (.cells cur e fr)) :
  (grow (putRow (Value.int .i64) (Sort.ahead w n) g 0 d) os).heap[g]?=some (.cells (putCells (Value.int .i64) 0 d cur) e fr):=by
 have hg:g<w.heap.size:=(Array.getElem?_eq_some_iff.1 hb).1;rw[heap_grow_old _ _ (by simpa using hg)];simp[putRow,mapBlock,Sort.ahead,Array.getElem?_modify,hb,onCells]
theorem Q8 {w:World}{g n:Nat}{os:Array Obj}(d:Array Int):w.grownBy (grow (putRow (Value.int .i64) (Sort.ahead w n) g 0 d) os) (some g):=by
 refine⟨rfl,rfl,rfl,by simp,λk hk hne=>?_⟩;rw[heap_grow_old _ _ (by simpa using hk)];have:g≠k:=λe=>hne (by rw[e])
 simp[putRow,mapBlock,Sort.ahead,Array.getElem?_modify,this]
theorem ZfN (cur:Array Value)(ts:List Int)(h:ts.length<=cur.size):(putCells (Value.int .i64) 0 ts.toArray cur).toList.take ts.length=ts.map (Value.int .i64):=by
 apply List.ext_getElem?
 intro i;rw[List.getElem?_take,List.getElem?_map];by_cases hi:i<ts.length
 ·rw[if_pos hi,Array.getElem?_toList]
  simp[putCells,hi,show i<cur.size by omega]
 ·rw[if_neg hi,List.getElem?_eq_none (by omega)];rfl
theorem ZfZ (n base g cap:Nat)(l:List Int)(w:World)(hn:n<=1048576)(ho:Own ZB 2 1 w base (.slice (some ⟨g,0,none⟩) n cap) n l) :
  Calls Tryz.prog 244 #[.slice (some ⟨g,0,none⟩) n cap] w λe w'=>e = .returned (.tuple #[])/\Own ZB 2 1 w' base (.slice (some ⟨g,0,none⟩) n cap) n (l.mergeSort λx y=>decide (x<=y))/\w.grownBy w' (some g):=by
 have hrow:w.ownsRow base 2 1 (.slice (some ⟨g,0,none⟩) n cap) n (l.map (Value.int .i64)):=by have:=ho.2;rwa [Jb] at this
 obtain⟨g',cap',hv,hb,hg,_,_,hl,hH⟩:=Lib.holds_of_ownsRow hrow (by intro h;cases h);injection hv with h1 _ h3
 injection h1 with h1
 injection h1 with h1
 subst h1;subst h3;have hc:=Tryz.slices_Sort_int g 0 cap l w hH hg (by rw[hl];omega);rw[hl] at hc;refine hc.mono λe w' ⟨he,q,os,hw⟩=>?_
 rcases hrow.2 with ⟨h0,_⟩|⟨g',cap',cur,hv,hbase,hbk,h1,h2,h3,h4⟩
 ·cases h0
 cases hv
 refine⟨he,?_,by rw[hw];exact Q8 _⟩;rw[hw];have hml:(l.mergeSort λx y=>decide (x<=y)).length=l.length:=List.length_mergeSort _;refine⟨by rw[hml,hl],by rw[Jb,List.length_map,hml,hl,Nat.mul_one],.inr ⟨g,cap,_,rfl,hbase,ZbV _ hbk,h1,h2,by simp[putCells,h3],?_⟩⟩;rw[Jb,Nat.mul_one];have:=ZfN cur (l.mergeSort λx y=>decide (x<=y)) (by rw[hml,hl];omega)
 rwa [hml,hl] at this
theorem XQ (A:Option Addr)(n c:Nat)(l:List Int)(y:Int)(w:World)(hn:n<=1048576)(hr:Arr ZB 1 w w.heap.size A n l) :
  Calls Tryz.prog 275 #[.slice A n c,.int .i64 y] w λe w'=>e = .returned (.bool (l.contains y))/\Below w.heap.size w w':=by
 have hix:∀W:World,Arr ZB 1 W W.heap.size A n l→Calls Tryz.prog 292 #[.slice A n c,.int .i64 y] W λe w'=>(∃z:Int,e = .returned (.int .i64 z)/\(decide (0<=z))=l.contains y/\-1<=z/\z<=1048576)/\Below W.heap.size W w':=by
  intro W hrW;have hlen:=Za hrW.len;go_enter Tryz.func292,Tryz.ntmps292;go_wp2
  go_loopw [8] (λi wr=>∃k:Nat,k<=n/\i = .int .i64 k/\Below W.heap.size W wr/\Hid ((l.take k).contains y=false)) (λi _=>n-(intOf i).toNat)
  case atStart=>exact⟨0,Nat.zero_le _,rfl,Below.refl _ _,Za rfl⟩
  case round =>
   obtain⟨k,hk,rfl,hb,hno⟩:=hrel;by_cases hlt:k<n
   ·obtain⟨b,o,x,rfl,hbl,hx,c0⟩:=hrW.int hlt
    have d0:wr.cell? ⟨b,o+k,none⟩=some (.int .i64 x):=(hb.cell (p:=⟨b,o+k,none⟩) hbl).trans c0;have hX:=Za hx;clear hx c0;have hB:=Za hb;clear hrW hb;by_cases he:y=x
    ·subst he
     have hyes:Hid (decide (0<=(k:Int))=l.contains y):=Za (by
      have h1:y∈l:=List.mem_of_getElem? hX.out;rw[decide_eq_true (by omega)];exact(List.contains_iff_mem.2 h1).symm)
     have hbe:(y==y)=true:=by simp
     go_wp2
     go_ret;exact⟨⟨(k:Int),rfl,hyes.out,by omega,by omega⟩,hB.out⟩
    ·have hbe:(y==x)=false:=by simp[he]
     have hnx:Hid ((l.take (k+1)).contains y=false):=Za (by
      have h1:=hno.out;rw[Zo hX.out];rw[←Bool.not_eq_true,List.contains_iff_mem] at h1 ⊢;intro h2;rcases List.mem_append.1 h2 with h2|h2
      ·exact h1 h2
      ·exact he (List.mem_singleton.1 h2))
     clear he;go_wp2
     go_roundw
     case rel=>exact⟨k+1,by omega,by go_num,hB.out,hnx⟩
     case measure=>simp[intOf];omega
   ·have hkn:k=n:=by omega
    have hB:=Za hb;have hfin:Hid (decide (0<=(-1:Int))=l.contains y):=Za (by
     have h1:=hno.out;rw[hkn,List.take_of_length_le (by rw[hlen.out];exact Nat.le_refl _)] at h1;rw[h1];rfl)
    subst hkn;clear hb;go_wp2
    go_ret;exact⟨⟨-1,rfl,hfin.out,by omega,by omega⟩,hB.out⟩
 have hixh:=Za hix;have hR:=Za hr;clear hix hr;go_enter Tryz.func275,Tryz.ntmps275;go_wp2_with fail
 refine(hixh.out _ hR.out).mono ?_;rintro e w1 ⟨⟨z,rfl,hz,hz1,hz2⟩,hb⟩;have hZ:=Za hz;have hB:=Za hb;clear hz hb;go_wp2
 go_ret;exact⟨ZW hZ.out,hB.out⟩
end
def Far (a b:Value):Prop:=∀g,a.ownBlock=some g→b.ownBlock≠some g
theorem Far.symm {a b:Value}(h:Far a b):Far b a:=λg hb ha=>h g ha hb
theorem Far.ne {a b:Value}(h:Far a b):a.ownBlock=none\/a.ownBlock≠b.ownBlock:=by
 cases ha:a.ownBlock with
 | none=>exact .inl rfl
 | some g=>exact .inr (λe=>h g ha e.symm)
theorem Far.apart {a b:Value}(h:Far a b):Uj a b:=h.ne
theorem Own.lt' {α:Type}{cells:α→List Value}{e s:Nat}{w:World}{base:Nat}{v:Value}{n:Nat}{l:List α}(h:Own cells e s w base v n l):∀g,v.ownBlock=some g→base<=g/\g<w.heap.size:=h.2.lt
theorem Far.new {a:Value}{g:Nat}{α:Type}{cells:α→List Value}{e s:Nat}{w:World}{base:Nat}{v:Value}{n:Nat}{l:List α}(h:Own cells e s w base v n l)(hg:w.heap.size<=g)(ha:a.ownBlock=some g):Far a v:=by
 intro g' h1 h2;rw[ha] at h1;injection h1 with h1
 have:=(h.lt' g' h2).2;omega
theorem Far.moved {α:Type}{cells:α→List Value}{e s:Nat}{w:World}{base:Nat}{v v' u:Value}{n:Nat}{l:List α}{g:Nat}(hv:Far v v')(h:Own cells e s w base v' n l)(hat:u.ownBlock=v.ownBlock\/u.ownBlock=some g)(hg:w.heap.size<=g):Far u v':=by
 rcases hat with hat|hat
 ·intro g' h1 h2;rw[hat] at h1;exact hv g' h1 h2
 ·exact Far.new h hg hat
structure Trio (e:TypeId)(w:World)(base:Nat)(v0 v1 v2:Value)(a b c:List Int):Prop where
 o0:Own ZB e 1 w base v0 a.length a
 o1:Own ZB e 1 w base v1 b.length b
 o2:Own ZB e 1 w base v2 c.length c
 f01:Far v0 v1
 f02:Far v0 v2
 f12:Far v1 v2
section
variable {e:TypeId}{w w':World}{base:Nat}{v0 v1 v2 v:Value}{a b c:List Int}
theorem Trio.below (h:Trio e w base v0 v1 v2 a b c)(hb:Below w.heap.size w w'):Trio e w' base v0 v1 v2 a b c:=⟨h.o0.below hb,h.o1.below hb,h.o2.below hb,h.f01,h.f02,h.f12⟩
theorem Trio.alloc (h:Trio e w base v0 v1 v2 a b c)(o:Obj):Trio e (w.alloc o) base v0 v1 v2 a b c:=h.below ((Below.refl _ _).alloc (Nat.le_refl _) o)
theorem Trio.swap (h:Trio e w base v0 v1 v2 a b c):Trio e w base v1 v0 v2 b a c:=⟨h.o1,h.o0,h.o2,h.f01.symm,h.f12,h.f02⟩
theorem Trio.turn (h:Trio e w base v0 v1 v2 a b c):Trio e w base v2 v0 v1 c a b:=⟨h.o2,h.o0,h.o1,h.f02.symm,h.f12.symm,h.f01⟩
theorem Trio.app0 (h:Trio e w base v0 v1 v2 a b c){y:Int}(ho:Own ZB e 1 w' base v (a.length+1) (a++[y]))(hg:w.grownBy w' v0.ownBlock){g:Nat}(hat:v.ownBlock=v0.ownBlock\/v.ownBlock=some g)(hge:w.heap.size<=g) :
  Trio e w' base v v1 v2 (a++[y]) b c :=
 ⟨by rw[List.length_append];exact ho,h.o1.kept hg h.f01.symm.ne,h.o2.kept hg h.f02.symm.ne,h.f01.moved h.o1 hat hge,h.f02.moved h.o2 hat hge,h.f12⟩
theorem Trio.app1 (h:Trio e w base v0 v1 v2 a b c){y:Int}(ho:Own ZB e 1 w' base v (b.length+1) (b++[y]))(hg:w.grownBy w' v1.ownBlock){g:Nat}(hat:v.ownBlock=v1.ownBlock\/v.ownBlock=some g)(hge:w.heap.size<=g) :
  Trio e w' base v0 v v2 a (b++[y]) c:=(h.swap.app0 ho hg hat hge).swap
theorem Trio.set0 (h:Trio e w base v0 v1 v2 a b c){g n cap:Nat}(hv:v0 = .slice (some ⟨g,0,none⟩) n cap){k:Nat}(hk:k<a.length)(y:Int):Trio e (w.setCell ⟨g,k,none⟩ (.int .i64 y)) base v0 v1 v2 (a.set k y) b c:=by
 subst hv;have hn:n=a.length:=by
  rcases h.o0.form with ⟨h1,_⟩|⟨_,_,h1,_⟩
  ·exact nomatch h1
  ·injection h1
 subst hn;have hg:w.grownBy (w.setCell ⟨g,k,none⟩ (.int .i64 y)) (some g):=Z4 (Xc (Below.refl _ _) _) rfl _;exact⟨by rw[List.length_set];exact h.o0.int_store hk y,h.o1.kept hg h.f01.symm.ne,h.o2.kept hg h.f02.symm.ne,h.f01,h.f02,h.f12⟩
theorem Trio.set1 (h:Trio e w base v0 v1 v2 a b c){g n cap:Nat}(hv:v1 = .slice (some ⟨g,0,none⟩) n cap){k:Nat}(hk:k<b.length)(y:Int):Trio e (w.setCell ⟨g,k,none⟩ (.int .i64 y)) base v0 v1 v2 a (b.set k y) c:=(h.swap.set0 hv hk y).swap
theorem Trio.set2 (h:Trio e w base v0 v1 v2 a b c){g n cap:Nat}(hv:v2 = .slice (some ⟨g,0,none⟩) n cap){k:Nat}(hk:k<c.length)(y:Int):Trio e (w.setCell ⟨g,k,none⟩ (.int .i64 y)) base v0 v1 v2 a b (c.set k y):=(h.turn.set0 hv hk y).turn.turn
theorem Own.at' {n:Nat}{l:List Int}(h:Own ZB e 1 w base v n l){k:Nat}(hk:k<n):∃g cap x,v = .slice (some ⟨g,0,none⟩) n cap/\base<=g/\g<w.heap.size/\l[k]?=some x/\w.cell? ⟨g,k,none⟩=some (.int .i64 x)/\w.frozen? ⟨g,k,none⟩=false:=by
 rcases h.form with ⟨_,hn,_⟩|⟨g,cap,rfl,hb,hg,_,_⟩
 ·omega
 ·obtain⟨x,h1,h2,h3⟩:=h.int_at hk
  exact⟨g,cap,x,rfl,hb,hg,h1,h2,h3⟩
end
def ZkH (l:List Int):Prop:=∀x∈l,0<=x/\x<=255
def Src (w:World)(g m:Nat):Prop :=
 ∃A n c l at_ sd,w.heap[g]?=some (.cells #[.slice A n c,.int .i64 at_,.int .u64 sd] 95 (0,0))/\Arr u8c 1 w g A n l/\ZkH l/\0<=at_/\at_<=(m:Int)/\c<=maxLen/\n<=c
theorem Wv (w:World)(k:Nat)(row:Option Nat):w.grownBy (w.drewN k) row:=by
 have hb:=Zb (Below.refl w.heap.size w) k;exact⟨hb.os,hb.tape,hb.output,hb.size,λi hi _=>hb.block i hi⟩
theorem Zx {a b c:World}{row:Option Nat}(h:a.grownBy b row)(h':b.grownBy c row):a.grownBy c row :=
 ⟨h'.os.trans h.os,h'.tape.trans h.tape,h'.output.trans h.output,Nat.le_trans h.size h'.size,λk hk hne=>(h'.block k (Nat.lt_of_lt_of_le hk h.size) hne).trans (h.block k hk hne)⟩
theorem Src.more {w:World}{g m m':Nat}(h:Src w g m)(hm:m<=m'):Src w g m':=by
 obtain⟨A,n,c,l,at_,sd,hb,hr,hl,h0,h1,hc,hn⟩:=h;exact⟨A,n,c,l,at_,sd,hb,hr,hl,h0,by omega,hc,hn⟩
theorem Src.lt {w:World}{g m:Nat}(h:Src w g m):g<w.heap.size:=by
 obtain⟨A,n,c,l,at_,sd,hb,_⟩:=h;exact(Array.getElem?_eq_some_iff.1 hb).1
theorem Src.below {w w':World}{g m:Nat}(h:Src w g m)(hb:Below w.heap.size w w'):Src w' g m:=by
 have hg:=h.lt;obtain⟨A,n,c,l,at_,sd,hk,hr,rest⟩:=h;exact⟨A,n,c,l,at_,sd,(hb.block g hg).trans hk,(hr.more (Nat.le_of_lt hg)).below hb |>.keep (λ_ _=>rfl) |> λ_=>hr.keep (λp hp=>hb.cell (by omega)),rest⟩
theorem Src.alloc {w:World}{g m:Nat}(h:Src w g m)(o:Obj):Src (w.alloc o) g m:=h.below ((Below.refl _ _).alloc (Nat.le_refl _) o)
def DS (W w:World)(g m:Nat):Prop:=Below W.heap.size W w/\W.heap.size<=g/\Src w g m
theorem DS.step {W w w':World}{g m m':Nat}(h:DS W w g m)(hg:w.grownBy w' (some g))(hs:Src w' g m'):DS W w' g m' :=
 ⟨h.1.grown hg h.1.size (λk hk=>by cases hk;exact h.2.1),h.2.1,hs⟩
theorem DS.alloc {W w:World}{g m:Nat}(h:DS W w g m)(o:Obj):DS W (w.alloc o) g m:=⟨h.1.alloc h.1.size o,h.2.1,h.2.2.alloc o⟩
theorem DS.below {W w w':World}{g m:Nat}(h:DS W w g m)(hb:Below w.heap.size w w'):DS W w' g m:=⟨Below.up h.1 hb,h.2.1,h.2.2.below hb⟩
section
variable {α:Type}{cells:α→List Value}{e s:Nat}{W w w':World}{base n g m:Nat}{v:Value}{l:List α}
theorem Src.kept (h:Src w g m)(hk:∀i,i<=g→w'.heap[i]?=w.heap[i]?):Src w' g m:=by
 obtain⟨A,n,c,l,at_,sd,hb,hr,rest⟩:=h;exact⟨A,n,c,l,at_,sd,(hk g (Nat.le_refl _)).trans hb,hr.keep (λp hp=>World.cell?_of_block (hk _ (by omega))),rest⟩
theorem Own.notg (h:Own cells e s w base v n l)(hb:g<base):v.ownBlock≠some g:=λhe=>by
 have:=(h.2.lt g he).1;omega
theorem Src.row (hs:Src w g m)(h:Own cells e s w base v n l)(hb:g<base)(hg:w.grownBy w' v.ownBlock):Src w' g m:=by
 have hl:=hs.lt;exact hs.kept (λi hi=>hg.block i (by omega) (λhe=>by have:=(h.2.lt i he.symm).1;omega))
theorem DS.row (hd:DS W w g m)(h:Own cells e s w base v n l)(hb:g<base)(hg:w.grownBy w' v.ownBlock):DS W w' g m :=
 ⟨hd.1.grown hg hd.1.size (λk hk=>by have:=(h.2.lt k hk).1;have:=hd.2.1;omega),hd.2.1,hd.2.2.row h hb hg⟩
def PS (W w:World)(g m:Nat):Prop:=W.grownBy w (some g)/\g<W.heap.size/\Src w g m
theorem PS.first(h:Src w g m):PS w w g m:=⟨World.grownBy.refl _ _,h.lt,h⟩
theorem PS.step {m':Nat}(h:PS W w g m)(hg:w.grownBy w' (some g))(hs:Src w' g m'):PS W w' g m':=⟨Zx h.1 hg,h.2.1,hs⟩
theorem PS.alloc (h:PS W w g m)(o:Obj):PS W (w.alloc o) g m:=⟨Zx h.1 (World.grownBy_alloc w o _),h.2.1,h.2.2.alloc o⟩
theorem Zd {row:Option Nat}(hb:Below w.heap.size w w'):w.grownBy w' row:=⟨hb.os,hb.tape,hb.output,hb.size,λi hi _=>hb.block i hi⟩
theorem PS.below (h:PS W w g m)(hb:Below w.heap.size w w'):PS W w' g m:=⟨Zx h.1 (Zd hb),h.2.1,h.2.2.below hb⟩
theorem PS.row (hd:PS W w g m)(h:Own cells e s w base v n l)(hb:W.heap.size<=base)(hg:w.grownBy w' v.ownBlock):PS W w' g m :=
 ⟨⟨hg.os.trans hd.1.os,hg.tape.trans hd.1.tape,hg.output.trans hd.1.output,Nat.le_trans hd.1.size hg.size,λk hk hne =>
  (hg.block k (Nat.lt_of_lt_of_le hk hd.1.size) (λhe=>by have:=(h.2.lt k he.symm).1;omega)).trans (hd.1.block k hk hne)⟩,hd.2.1,hd.2.2.row h (by have:=hd.2.1;omega) hg⟩
theorem Own.src (h:Own cells e s w base v n l)(hb:g<base)(hg:w.grownBy w' (some g)):Own cells e s w' base v n l:=h.kept hg (.inr (h.notg hb))
end
theorem Zl (w:World)(k i:Nat)(u:Value):w.grownBy (w.setCell ⟨k,i,none⟩ u) (some k):=Z4 (World.grownBy.refl _ _) (p:=⟨k,i,none⟩) rfl u
section
variable {α:Type}{cells:α→List Value}{e s:Nat}{W w w':World}{base n g m k i:Nat}{v u:Value}{l:List α}{o:Obj}
theorem Src.cell (hs:Src w g m)(hk:g<k):Src (w.setCell ⟨k,i,none⟩ u) g m:=by
 have hl:=hs.lt;exact hs.kept (λj hj=>(Zl w k i u).block j (by omega) (λhe=>by injection he;omega))
theorem PS.cell (hd:PS W w g m)(hk:W.heap.size<=k):PS W (w.setCell ⟨k,i,none⟩ u) g m :=
 ⟨⟨(Zl w k i u).os.trans hd.1.os,(Zl w k i u).tape.trans hd.1.tape,(Zl w k i u).output.trans hd.1.output,Nat.le_trans hd.1.size (Zl w k i u).size,λj hj hne =>
  ((Zl w k i u).block j (Nat.lt_of_lt_of_le hj hd.1.size) (λhe=>by injection he;omega)).trans (hd.1.block j hj hne)⟩,hd.2.1,hd.2.2.cell (by have:=hd.2.1;omega)⟩
theorem DS.cell (hd:DS W w g m)(hk:g<k):DS W (w.setCell ⟨k,i,none⟩ u) g m :=
 ⟨hd.1.setCell (p:=⟨k,i,none⟩) (by have:=hd.2.1;show _<=k;omega) u,hd.2.1,hd.2.2.cell hk⟩
theorem Own.box (h:Own cells e s w base v n l)(hk:v.ownBlock≠some k):Own cells e s (w.setCell ⟨k,i,none⟩ u) base v n l:=h.kept (Zl w k i u) (.inr hk)
theorem ZX (h:w.heap[k]?=some o)(hg:w.grownBy w' (some g))(hne:k≠g):w'.heap[k]?=some o :=
 (hg.block k (Array.getElem?_eq_some_iff.1 h).1 (λe=>hne (by injection e))).trans h
theorem Zk {cs:Array Value}{t:TypeId}(h:w.heap[k]?=some (.cells cs t (0,0)))(i:Nat)(u:Value):(w.setCell ⟨k,i,none⟩ u).heap[k]?=some (.cells (cs.setIfInBounds i u) t (0,0)):=by
 simp[World.setCell,Array.getElem?_modify,h]
end
theorem Yf {w:World}{u0:Value}{t:TypeId}{g:Nat}(h:w.heap[g]?=some (.cells #[u0] t (0,0))) :
  w.cell? ⟨g,0,none⟩=some u0/\∀j:Nat,w.frozen? ⟨g,j,none⟩=false :=
 ⟨by rw[cell_of_row _ _ _ _ _ _ h];rfl,λj=>frozen_of_row _ _ _ _ _ h⟩
theorem Zkp {w:World}{u0 u1:Value}{t:TypeId}{g:Nat}(h:w.heap[g]?=some (.cells #[u0,u1] t (0,0))) :
  w.cell? ⟨g,0,none⟩=some u0/\w.cell? ⟨g,1,none⟩=some u1/\∀j:Nat,w.frozen? ⟨g,j,none⟩=false :=
 ⟨by rw[cell_of_row _ _ _ _ _ _ h];rfl,by rw[cell_of_row _ _ _ _ _ _ h];rfl,λj=>frozen_of_row _ _ _ _ _ h⟩
theorem Zfy {w:World}{u0 u1 u2:Value}{t:TypeId}{g:Nat}(h:w.heap[g]?=some (.cells #[u0,u1,u2] t (0,0))) :
  w.cell? ⟨g,0,none⟩=some u0/\w.cell? ⟨g,1,none⟩=some u1/\w.cell? ⟨g,2,none⟩=some u2/\∀j:Nat,w.frozen? ⟨g,j,none⟩=false :=
 ⟨by rw[cell_of_row _ _ _ _ _ _ h];rfl,by rw[cell_of_row _ _ _ _ _ _ h];rfl,by rw[cell_of_row _ _ _ _ _ _ h];rfl,λj=>frozen_of_row _ _ _ _ _ h⟩
end Go.Proofs.YtfpaejlipaainaaGreatDoor
