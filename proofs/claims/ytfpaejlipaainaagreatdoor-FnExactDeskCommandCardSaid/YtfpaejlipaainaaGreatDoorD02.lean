/- Texts that belong together, joined: contracts and plain laws. No statement is proved here. -/
import Derived.Test.YtfpaejlipaainaaGreatDoorD01
import Derived.Test.YtfpaejlipaainaaGreatDoorM20
set_option maxRecDepth 100000
set_option maxHeartbeats 1000000
namespace Go.Proofs.YtfpaejlipaainaaGreatDoor
open Go.ChangeShapes Go.WideShapes Go.ChangeAt Go.RowKit Go.Deep
def Kind.mk' (z:Int):Kind:=⟨z,z+1⟩
def Kind.marks (k:Int)(n:Nat):List Kind:=(List.range n).map fun(i:Nat)=>Kind.mk' (k+2*(i:Int))
theorem Kind.marks_len (k:Int)(n:Nat):(Kind.marks k n).length=n:=by simp[Kind.marks]
theorem Kind.marks_snoc (k:Int)(n:Nat):Kind.marks k (n+1)=Kind.marks k n++[Kind.mk' (k+2*n)]:=by simp[Kind.marks,List.range_succ]
theorem Kind.marks_get {k:Int}{n i:Nat}(h:i<n):(Kind.marks k n)[i]?=some (Kind.mk' (k+2*i)):=by simp[Kind.marks,h]
theorem Kind.marks_set {l:List Kind}{k:Int}{i:Nat}(h:i<l.length):(Kind.marks k i++l.drop i).set i (Kind.mk' (k+2*i))=Kind.marks k (i+1)++l.drop (i+1):=by
 have hl:=Kind.marks_len k i;rw[List.set_append,if_neg (by omega),hl,Nat.sub_self,List.drop_eq_getElem_cons h,List.set_cons_zero,Kind.marks_snoc];simp
theorem Zaz (v:Value)(n base:Nat)(l:List Kind)(k:Int)(w:World)(h0:0<=k)(h1:k<=100000000000)(hn:n<=1048576)(ho:Res Kind.cells 103 2 w base v n l) :
  Calls Tryz.prog 48 #[v,.int .i64 k] w λe w'=>e = .returned (.int .i64 (k+2*n))/\UY w w' v n/\Res Kind.cells 103 2 w' base v n (Kind.marks k n):=by
 have hl:=Za ho.len;rcases Nat.eq_zero_or_pos n with rfl|hn0
 ·obtain⟨A,c,rfl,_,hcm⟩:=ho.2.1
  go_enter Tryz.func48,Tryz.ntmps48;go_wp2
  go_loopw [1,5] (λq i wr=>q = .int .i64 k/\i = .int .i64 0/\w=wr) (λ_ _ _=>0)
  case atStart=>exact⟨rfl,rfl,rfl⟩
  case round =>
   obtain⟨rfl,rfl,rfl⟩:=hrel;go_wp2
   go_ret;exact⟨UL (by simp),⟨λ_=>rfl,λh=>absurd h (by omega)⟩,Res.empty hcm⟩
 ·have ho2:=ho.2.2 hn0
  clear ho;rcases ho2.form with ⟨_,h00,_⟩|⟨g,cap,rfl,hgb,hgl,hnc,hcm⟩
  ·omega
  have hO0:=Za ho2;clear ho2;have hN0:=Za hn0;clear hn0;go_enter Tryz.func48,Tryz.ntmps48;go_wp2
  go_loopw [1,5] (λq i wr=>∃(m:Nat) (z:Int),m<=n/\i = .int .i64 m/\q = .int .i64 z/\Hid (z=k+2*m)/\Hid (w.grownBy wr (some g))/\Own Kind.cells 103 2 wr base (.slice (some ⟨g,0,none⟩) n cap) n (Kind.marks k m++l.drop m)) (λ_ i _=>n-(intOf i).toNat)
  case atStart=>exact⟨0,k,Nat.zero_le _,rfl,rfl,Za (by simp),Za (World.grownBy.refl _ _),by simpa[Kind.marks] using hO0.out⟩
  case round =>
   obtain⟨m,z,hm,rfl,rfl,hz,hG,hown⟩:=hrel;by_cases hlt:m<n
   ·have hz0:0<=z:=by have:=hz.out;omega
    have hz1:z<=110000000000:=by have:=hz.out;omega
    have hml:Hid (m<(Kind.marks k m++l.drop m).length):=Za (by simp[Kind.marks_len,hl.out];omega);have hml2:Hid (m<l.length):=Za (by rw[hl.out];exact hlt);obtain⟨x,hx,f0,f1,y0,y1⟩:=hown.Kind_at hlt;have hO:=Za (hown.asSet hx);clear hx hown;go_wp2_with fail
    go_roundw
    case rel =>
     have hE:=Own.cellS (m:=m) (j:=1) (u:=.int .i64 (z+1)) (Own.cellS (m:=m) (j:=0) (u:=.int .i64 (z)) (hO.out) Kind.len hml.out (by omega) ⟨z,x.fHave⟩ rfl) Kind.len hml.out (by omega) ⟨z,z+1⟩ rfl;have hGE:=Z4 (Z4 (hG.out) (p:=⟨g,m*2+0,none⟩) rfl (.int .i64 (z))) (p:=⟨g,m*2+1,none⟩) rfl (.int .i64 (z+1));refine⟨m+1,z+1+1,by omega,by go_num,rfl,Za (by have:=hz.out;omega),Za ?_,?_⟩
     ·simpa using hGE
     ·have hmk:Kind.mk' (k+2*m)=⟨z,z+1⟩:=by rw[←hz.out];rfl
      have hfin:=Kind.marks_set (k:=k) hml2.out;rw[hmk] at hfin;rw[hfin] at hE;simpa using hE
    case measure=>simp[intOf];omega
   ·have hmn:m=n:=by omega
    subst hmn;have hO:=Za hown;clear hown;go_wp2
    go_ret;have hfin:=hO.out;rw[List.drop_of_length_le (by rw[hl.out];exact Nat.le_refl _),List.append_nil] at hfin;exact⟨UL (by rw[hz.out]),⟨λh=>absurd hN0.out (by omega),λ_=>hG.out⟩,hfin.res⟩
theorem ZaJ (A:Option Addr)(n c:Nat)(k:Int)(w:World)(h0:0<=k)(h1:k<=100000000000)(hn:n<=1048576)(hr:Arr Kind.cells 2 w w.heap.size A n (Kind.marks k n)) :
  Calls Tryz.prog 51 #[.slice A n c,.int .i64 k] w λe w'=>e = .returned (.int .i64 (k+2*n))/\Below w.heap.size w w':=by
 go_enter Tryz.func51,Tryz.ntmps51;go_wp2
 go_loopw [1,5] (λq i wr=>∃(m:Nat) (z:Int),m<=n/\i = .int .i64 m/\q = .int .i64 z/\Hid (z=k+2*m)/\Below w.heap.size w wr) (λ_ i _=>n-(intOf i).toNat)
 case atStart=>exact⟨0,k,Nat.zero_le _,rfl,rfl,Za (by simp),Below.refl _ _⟩
 case round =>
  obtain⟨m,z,hm,rfl,rfl,hz,hb⟩:=hrel;by_cases hlt:m<n
  ·have hz0:0<=z:=by have:=hz.out;omega
   have hz1:z<=110000000000:=by have:=hz.out;omega
   obtain⟨b,o,x,rfl,hbl,hx,c0,c1⟩:=hr.Kind hlt;have hxe:Hid (⟨z,z+1⟩=x):=Za (by rw[Kind.marks_get hlt,←hz.out] at hx;exact Option.some.inj hx);have d0:wr.cell? ⟨b,o+m*2,none⟩=some (.int .i64 (z)):=((hb.cell (p:=⟨b,o+m*2,none⟩) hbl).trans c0).trans (by rw[←hxe.out]);have d1:wr.cell? ⟨b,o+m*2+1,none⟩=some (.int .i64 (z+1)):=((hb.cell (p:=⟨b,o+m*2+1,none⟩) hbl).trans c1).trans (by rw[←hxe.out]);clear c0 c1 hx hr hxe;have hlt':(m:Int)<(n:Int):=by omega
   have hm0:(0:Int)<=(m:Int):=by omega
   have hbs:b<wr.heap.size:=Nat.lt_of_lt_of_le hbl hb.size;have hB:=Za hb;clear hb;go_wp2_with fail
   go_roundw
   case rel=>exact⟨m+1,z+1+1,by omega,by go_num,rfl,Za (by have:=hz.out;omega),hB.out⟩
   case measure=>simp[intOf];omega
  ·have hmn:m=n:=by omega
   subst hmn;have hB:=Za hb;clear hb;go_wp2
   go_ret;exact⟨UL (by rw[hz.out]),hB.out⟩
def Heap.mk' (z:Int):Heap:=⟨X1 (z),z+1,z+1+1⟩
def Heap.marks (k:Int)(n:Nat):List Heap:=(List.range n).map fun(i:Nat)=>Heap.mk' (k+3*(i:Int))
theorem Heap.marks_len (k:Int)(n:Nat):(Heap.marks k n).length=n:=by simp[Heap.marks]
theorem Heap.marks_snoc (k:Int)(n:Nat):Heap.marks k (n+1)=Heap.marks k n++[Heap.mk' (k+3*n)]:=by simp[Heap.marks,List.range_succ]
theorem Heap.marks_get {k:Int}{n i:Nat}(h:i<n):(Heap.marks k n)[i]?=some (Heap.mk' (k+3*i)):=by simp[Heap.marks,h]
theorem Heap.marks_set {l:List Heap}{k:Int}{i:Nat}(h:i<l.length):(Heap.marks k i++l.drop i).set i (Heap.mk' (k+3*i))=Heap.marks k (i+1)++l.drop (i+1):=by
 have hl:=Heap.marks_len k i;rw[List.set_append,if_neg (by omega),hl,Nat.sub_self,List.drop_eq_getElem_cons h,List.set_cons_zero,Heap.marks_snoc];simp
theorem ZaA (v:Value)(n base:Nat)(l:List Heap)(k:Int)(w:World)(h0:0<=k)(h1:k<=100000000000)(hn:n<=1048576)(ho:Res Heap.cells 106 3 w base v n l) :
  Calls Tryz.prog 49 #[v,.int .i64 k] w λe w'=>e = .returned (.int .i64 (k+3*n))/\UY w w' v n/\Res Heap.cells 106 3 w' base v n (Heap.marks k n):=by
 have hl:=Za ho.len;rcases Nat.eq_zero_or_pos n with rfl|hn0
 ·obtain⟨A,c,rfl,_,hcm⟩:=ho.2.1
  go_enter Tryz.func49,Tryz.ntmps49;go_wp2
  go_loopw [1,5] (λq i wr=>q = .int .i64 k/\i = .int .i64 0/\w=wr) (λ_ _ _=>0)
  case atStart=>exact⟨rfl,rfl,rfl⟩
  case round =>
   obtain⟨rfl,rfl,rfl⟩:=hrel;go_wp2
   go_ret;exact⟨UL (by simp),⟨λ_=>rfl,λh=>absurd h (by omega)⟩,Res.empty hcm⟩
 ·have ho2:=ho.2.2 hn0
  clear ho;rcases ho2.form with ⟨_,h00,_⟩|⟨g,cap,rfl,hgb,hgl,hnc,hcm⟩
  ·omega
  have hO0:=Za ho2;clear ho2;have hN0:=Za hn0;clear hn0;go_enter Tryz.func49,Tryz.ntmps49;go_wp2
  go_loopw [1,5] (λq i wr=>∃(m:Nat) (z:Int),m<=n/\i = .int .i64 m/\q = .int .i64 z/\Hid (z=k+3*m)/\Hid (w.grownBy wr (some g))/\Own Heap.cells 106 3 wr base (.slice (some ⟨g,0,none⟩) n cap) n (Heap.marks k m++l.drop m)) (λ_ i _=>n-(intOf i).toNat)
  case atStart=>exact⟨0,k,Nat.zero_le _,rfl,rfl,Za (by simp),Za (World.grownBy.refl _ _),by simpa[Heap.marks] using hO0.out⟩
  case round =>
   obtain⟨m,z,hm,rfl,rfl,hz,hG,hown⟩:=hrel;by_cases hlt:m<n
   ·have hz0:0<=z:=by have:=hz.out;omega
    have hz1:z<=110000000000:=by have:=hz.out;omega
    have hml:Hid (m<(Heap.marks k m++l.drop m).length):=Za (by simp[Heap.marks_len,hl.out];omega);have hml2:Hid (m<l.length):=Za (by rw[hl.out];exact hlt);obtain⟨x,hx,f0,f1,f2,y0,y1,y2⟩:=hown.Heap_at hlt;have hO:=Za (hown.asSet hx);clear hx hown;go_wp2_with fail
    refine(XX _ _ (by omega)).mono ?_;rintro e w1 ⟨rfl,hb⟩;have hO1:=Za (Own.below (hO.out) hb);have hG1:=Za (Ur (hG.out) (Xc hb _));clear hb f0 f1 f2 y0 y1 y2;obtain⟨x1,hx1,f0,f1,f2,y0,y1,y2⟩:=hO1.out.Heap_at hlt;clear hx1;go_wp2_with fail
    go_roundw
    case rel =>
     have hE:=Own.cellS (m:=m) (j:=2) (u:=.int .i64 (z+1+1)) (Own.cellS (m:=m) (j:=1) (u:=.int .i64 (z+1)) (Own.cellS (m:=m) (j:=0) (u:=.string (X1 (z))) (hO1.out) Heap.len hml.out (by omega) ⟨X1 (z),x.fYear,x.fBundles⟩ rfl) Heap.len hml.out (by omega) ⟨X1 (z),z+1,x.fBundles⟩ rfl) Heap.len hml.out (by omega) ⟨X1 (z),z+1,z+1+1⟩ rfl;have hGE:=Z4 (Z4 (Z4 (hG1.out) (p:=⟨g,m*3+0,none⟩) rfl (.string (X1 (z)))) (p:=⟨g,m*3+1,none⟩) rfl (.int .i64 (z+1))) (p:=⟨g,m*3+2,none⟩) rfl (.int .i64 (z+1+1));refine⟨m+1,z+1+1+1,by omega,by go_num,rfl,Za (by have:=hz.out;omega),Za ?_,?_⟩
     ·simpa using hGE
     ·have hmk:Heap.mk' (k+3*m)=⟨X1 (z),z+1,z+1+1⟩:=by rw[←hz.out];rfl
      have hfin:=Heap.marks_set (k:=k) hml2.out;rw[hmk] at hfin;rw[hfin] at hE;simpa using hE
    case measure=>simp[intOf];omega
   ·have hmn:m=n:=by omega
    subst hmn;have hO:=Za hown;clear hown;go_wp2
    go_ret;have hfin:=hO.out;rw[List.drop_of_length_le (by rw[hl.out];exact Nat.le_refl _),List.append_nil] at hfin;exact⟨UL (by rw[hz.out]),⟨λh=>absurd hN0.out (by omega),λ_=>hG.out⟩,hfin.res⟩
theorem ZaK (A:Option Addr)(n c:Nat)(k:Int)(w:World)(h0:0<=k)(h1:k<=100000000000)(hn:n<=1048576)(hr:Arr Heap.cells 3 w w.heap.size A n (Heap.marks k n)) :
  Calls Tryz.prog 52 #[.slice A n c,.int .i64 k] w λe w'=>e = .returned (.int .i64 (k+3*n))/\Below w.heap.size w w':=by
 go_enter Tryz.func52,Tryz.ntmps52;go_wp2
 go_loopw [1,5] (λq i wr=>∃(m:Nat) (z:Int),m<=n/\i = .int .i64 m/\q = .int .i64 z/\Hid (z=k+3*m)/\Below w.heap.size w wr) (λ_ i _=>n-(intOf i).toNat)
 case atStart=>exact⟨0,k,Nat.zero_le _,rfl,rfl,Za (by simp),Below.refl _ _⟩
 case round =>
  obtain⟨m,z,hm,rfl,rfl,hz,hb⟩:=hrel;by_cases hlt:m<n
  ·have hz0:0<=z:=by have:=hz.out;omega
   have hz1:z<=110000000000:=by have:=hz.out;omega
   obtain⟨b,o,x,rfl,hbl,hx,c0,c1,c2⟩:=hr.Heap hlt;have hxe:Hid (⟨X1 (z),z+1,z+1+1⟩=x):=Za (by rw[Heap.marks_get hlt,←hz.out] at hx;exact Option.some.inj hx);have d0:wr.cell? ⟨b,o+m*3,none⟩=some (.string (X1 (z))):=((hb.cell (p:=⟨b,o+m*3,none⟩) hbl).trans c0).trans (by rw[←hxe.out]);have d1:wr.cell? ⟨b,o+m*3+1,none⟩=some (.int .i64 (z+1)):=((hb.cell (p:=⟨b,o+m*3+1,none⟩) hbl).trans c1).trans (by rw[←hxe.out]);have d2:wr.cell? ⟨b,o+m*3+2,none⟩=some (.int .i64 (z+1+1)):=((hb.cell (p:=⟨b,o+m*3+2,none⟩) hbl).trans c2).trans (by rw[←hxe.out]);clear c0 c1 c2 hx hr hxe;have hlt':(m:Int)<(n:Int):=by omega
   have hm0:(0:Int)<=(m:Int):=by omega
   have hbs:b<wr.heap.size:=Nat.lt_of_lt_of_le hbl hb.size;have hB:=Za hb;clear hb;go_wp2_with fail
   go_region_held3 (λw'=>w'.cell? ⟨b,o+m*3,none⟩=some (.string (X1 (z)))) (first|go_keep|exact(hb.cell (p:=⟨b,o+m*3,none⟩) hbs).trans d0) ((first|(go_at_call 50;refine(XX _ _ (by omega)).mono ?_;rintro e w1 ⟨rfl,hb⟩)))
   have e1:=(hb.cell (p:=⟨b,o+m*3+1,none⟩) hbs).trans d1;have e2:=(hb.cell (p:=⟨b,o+m*3+2,none⟩) hbs).trans d2;replace hbs:=Nat.lt_of_lt_of_le (show b<_ from hbs) hb.size;replace hB:=Za (Below.up (Below.drew hB.out) hb);clear hb d0 d1 d2;have d1:=e1;have d2:=e2;clear e1 e2;have d0:True:=trivial;go_wp2_with fail
   go_roundw
   case rel=>exact⟨m+1,z+1+1+1,by omega,by go_num,rfl,Za (by have:=hz.out;omega),hB.out⟩
   case measure=>simp[intOf];omega
  ·have hmn:m=n:=by omega
   subst hmn;have hB:=Za hb;clear hb;go_wp2
   go_ret;exact⟨UL (by rw[hz.out]),hB.out⟩
theorem ZaF {w w':World}{u0 u1 u2 u3 u4:Value}{t:TypeId}{g:Nat}(hg:w.heap[g]?=some (.cells #[u0,u1,u2,u3,u4] t (0,0)))(hb:Below w.heap.size w w') :
  w'.cell? ⟨g,0,none⟩=some u0/\w'.cell? ⟨g,1,none⟩=some u1/\w'.cell? ⟨g,2,none⟩=some u2/\w'.cell? ⟨g,3,none⟩=some u3/\w'.cell? ⟨g,4,none⟩=some u4:=by
 have hlt:g<w.heap.size:=(Array.getElem?_eq_some_iff.1 hg).1;have hg':=(hb.block g hlt).trans hg;exact⟨by rw[cell_of_row _ _ _ _ _ _ hg'];rfl,by rw[cell_of_row _ _ _ _ _ _ hg'];rfl,by rw[cell_of_row _ _ _ _ _ _ hg'];rfl,by rw[cell_of_row _ _ _ _ _ _ hg'];rfl,by rw[cell_of_row _ _ _ _ _ _ hg'];rfl⟩
theorem Vo (x y:DeskV)(w:World)(hx:x.good w w.heap.size)(hy:y.good w w.heap.size)(hxf:∀h∈x.kinds,h.fits)(hyf:∀h∈y.kinds,h.fits) :
  Calls Tryz.prog 16 #[.agg #[.string x.fStroke,.int .i64 x.fStakes,.slice x.A x.n x.c,.slice x.A' x.n' x.c',.string x.fLog],.agg #[.string y.fStroke,.int .i64 y.fStakes,.slice y.A y.n y.c,.slice y.A' y.n' y.c',.string y.fLog]] w λe w'=>e = .returned (.bool (x.same y))/\Below w.heap.size w w':=by
 have hW:Hid (∀bx bz:Obj,Below w.heap.size w ((w.alloc bx).alloc bz)):=Za (λbx bz=>((Below.refl _ _).alloc (Nat.le_refl _) _).alloc (by simp) _);have hk1:Hid (∀(a b:Array Value),((w.alloc (.cells a 29)).alloc (.cells b 29)).heap[w.heap.size]?=some (.cells a 29 (0,0))):=Za (λa b=>(Below.heap_alloc _ _ _ (by simp)).trans (heap_alloc_new w _));have hk2:Hid (∀(a b:Array Value),((w.alloc (.cells a 29)).alloc (.cells b 29)).heap[w.heap.size+1]?=some (.cells b 29 (0,0))):=Za (λa b=>by have:=heap_alloc_new (w.alloc (.cells a 29)) (.cells b 29);simpa using this);have hX:=Za hx;have hY:=Za hy;have hXf:=Za hxf;have hYf:=Za hyf;clear hx hy hxf hyf;by_cases h0:x.fStroke=y.fStroke
 case neg =>
  have ck:Hid (x.same y=false):=Za (by simp[DeskV.same,h0]);have e0:=Xn h0;have e0':(x.fStroke.toList != y.fStroke.toList)=true:=by rw[bne,e0];rfl
  clear h0;go_enter Tryz.func16,Tryz.ntmps16;go_wp2
  go_ret;exact⟨ZW ck.out.symm,hW.out _ _⟩
 have e0:=XG h0;have e0':(x.fStroke.toList != y.fStroke.toList)=false:=by rw[bne,e0];rfl
 have H0:=Za h0;clear h0;by_cases h1:x.fStakes=y.fStakes
 case neg =>
  have ck:Hid (x.same y=false):=Za (by simp[DeskV.same,h1]);have e1:(x.fStakes==y.fStakes)=false:=by simp[h1]
  have e1':(x.fStakes != y.fStakes)=true:=by simp[h1]
  have e1'':decide (x.fStakes=y.fStakes)=false:=by simp[h1]
  clear h1;go_enter Tryz.func16,Tryz.ntmps16;go_wp2
  go_ret;exact⟨ZW ck.out.symm,hW.out _ _⟩
 have e1:(x.fStakes==y.fStakes)=true:=by simp[h1]
 have e1':(x.fStakes != y.fStakes)=false:=by simp[h1]
 have e1'':decide (x.fStakes=y.fStakes)=true:=by simp[h1]
 have H1:=Za h1;clear h1;by_cases h2:x.kinds=y.kinds
 case neg =>
  have ck:Hid (x.same y=false):=Za (by simp[DeskV.same,h2]);have e2:decide (x.kinds=y.kinds)=false:=by simp[h2]
  clear h2;go_enter Tryz.func16,Tryz.ntmps16;go_wp2_with fail
  refine(VK x.A y.A x.n x.c y.n y.c x.kinds y.kinds _ hX.out.nk (hX.out.go (hW.out _ _)).kinds (hY.out.go (hW.out _ _)).kinds).mono ?_;rintro e w1 ⟨rfl,hb⟩;rw[e2];go_wp2
  go_ret;exact⟨ZW ck.out.symm,Below.up (hW.out _ _) hb⟩
 have e2:decide (x.kinds=y.kinds)=true:=by simp[h2]
 have H2:=Za h2;clear h2;by_cases h3:x.heaps=y.heaps
 case neg =>
  have ck:Hid (x.same y=false):=Za (by simp[DeskV.same,h3]);have e3:decide (x.heaps=y.heaps)=false:=by simp[h3]
  clear h3;go_enter Tryz.func16,Tryz.ntmps16;go_wp2_with fail
  refine(VK x.A y.A x.n x.c y.n y.c x.kinds y.kinds _ hX.out.nk (hX.out.go (hW.out _ _)).kinds (hY.out.go (hW.out _ _)).kinds).mono ?_;rintro e w1 ⟨rfl,hb⟩;rw[e2];obtain⟨p0,p1,p2,p3,p4⟩:=ZaF (hk1.out _ _) hb;obtain⟨q0,q1,q2,q3,q4⟩:=ZaF (hk2.out _ _) hb;have hB1:=Za (Below.up (hW.out _ _) hb);clear hb;go_wp2_with fail
  refine(Jg x.A' y.A' x.n' x.c' y.n' y.c' x.heaps y.heaps _ hX.out.nh (hX.out.go hB1.out).heaps (hY.out.go hB1.out).heaps).mono ?_;rintro e w2 ⟨rfl,hb⟩;rw[e3];go_wp2
  go_ret;exact⟨ZW ck.out.symm,Below.up hB1.out hb⟩
 have e3:decide (x.heaps=y.heaps)=true:=by simp[h3]
 have H3:=Za h3;clear h3;by_cases h4:x.fLog=y.fLog
 all_goals
  have ck:Hid (x.same y=decide (x.fLog=y.fLog)):=Za (by simp[DeskV.same,H0.out,H1.out,H2.out,H3.out]);have H4:Hid (decide (x.fLog=y.fLog)=(x.fLog.toList==y.fLog.toList)):=Za (by first|rw[XG h4,decide_eq_true h4]|rw[Xn h4,decide_eq_false h4])
  first
   | (have e4:=XG h4;have e4':(x.fLog.toList != y.fLog.toList)=false:=by rw[bne,e4];rfl)
   | (have e4:=Xn h4;have e4':(x.fLog.toList != y.fLog.toList)=true:=by rw[bne,e4];rfl)
  clear h4;have e4h:=Za e4;go_enter Tryz.func16,Tryz.ntmps16;go_wp2_with fail
  refine(VK x.A y.A x.n x.c y.n y.c x.kinds y.kinds _ hX.out.nk (hX.out.go (hW.out _ _)).kinds (hY.out.go (hW.out _ _)).kinds).mono ?_;rintro e w1 ⟨rfl,hb⟩;rw[e2];obtain⟨p0,p1,p2,p3,p4⟩:=ZaF (hk1.out _ _) hb;obtain⟨q0,q1,q2,q3,q4⟩:=ZaF (hk2.out _ _) hb;have hbb1:=Za hb;have hB1:=Za (Below.up (hW.out _ _) hb);clear hb;go_wp2_with fail
  refine(Jg x.A' y.A' x.n' x.c' y.n' y.c' x.heaps y.heaps _ hX.out.nh (hX.out.go hB1.out).heaps (hY.out.go hB1.out).heaps).mono ?_;rintro e w2 ⟨rfl,hb⟩;rw[e3];obtain⟨p0',p1',p2',p3',p4'⟩:=ZaF (hk1.out _ _) (Below.up hbb1.out hb);obtain⟨q0',q1',q2',q3',q4'⟩:=ZaF (hk2.out _ _) (Below.up hbb1.out hb);have hB2:=Za (Below.up hB1.out hb);clear hb p0 p1 p2 p3 p4 q0 q1 q2 q3 q4;go_wp2
  go_ret;exact⟨ZW (by rw[ck.out,H4.out,e4h.out]),hB2.out⟩
theorem JH {H:Type}{enc:TypeId × Value→H}{P:Program}{α:Type}(cells:α→List Value)(s:Nat)(Q:α→Prop){W:World}{sp:Nat→Bool}{held:Bool}{t e:TypeId}{u:Value}{fuel:Nat}{x:DataW H × List MemPlace}
  (ht:P.underlying t=some (.slice e)) (hC:P.cellsOf e=s) (hs0:0<s)
  (hdec:∀(n:Nat) (cs:List Value) (x:DataW H × List MemPlace),DataW.trod enc P W 0 sp held n e cs=some x→∃y:α,Q y/\cells y=cs)
  (hf:DataW.trod enc P W 0 sp held fuel t [u]=some x) :
  ∃(A:Option Addr) (n c:Nat) (l:List α),u = .slice A n c/\n<=c/\c<=maxLen/\(∀x∈l,Q x)/\Arr cells s W W.heap.size A n l:=by
 rcases open_slice ht hf with ⟨hz,_⟩|⟨a,n,c,m,k,D,Pl,hz,_,hl,hm,hmm,_,hi⟩
 ·simp only[List.cons.injEq,and_true] at hz
  subst hz;exact⟨none,0,0,[],rfl,Nat.le_refl _,Nat.zero_le _,by simp,Arr.nil_ _⟩
 ·simp only[List.cons.injEq,and_true] at hz
  subst hz;have hnm:n<=m:=by rw[hmm];split<;>omega
  rcases Nat.eq_zero_or_pos n with rfl|hn
  ·exact⟨some a,0,c,[],rfl,hl,hm,by simp,Arr.nil_ _⟩
  have one:∀i,i<n→∃x:α,Q x/\∀j u,(cells x)[j]?=some u→W.cell? (a.add (i*s+j))=some u:=by
   intro i hin;obtain⟨cs',hc,htr⟩:=hi i (by omega);rw[hC] at hc;obtain⟨_,hcl,hat⟩:=World.cells?_some hc;obtain⟨y,hQ,rfl⟩:=hdec _ _ _ htr;refine⟨y,hQ,λj u hu=>?_⟩;rw[←Go.Deep.add_add,hat j (by rw[←hcl];exact Zq hu),hu]
  have hadd:a=⟨a.block,a.off,none⟩/\a.block<W.heap.size:=by
   obtain⟨cs',hc,htr⟩:=hi 0 (by omega);rw[hC] at hc;obtain⟨_,hcl,hat⟩:=World.cells?_some hc;obtain⟨u,hu⟩:∃u,cs'[0]?=some u:=⟨_,List.getElem?_eq_getElem (by omega)⟩;have h0:=hat 0 hs0;rw[hu] at h0;simp only[Nat.zero_mul,Addr.add_zero'] at h0;exact⟨Zbd h0,World.block_lt_of_cell? _ _ h0⟩
  obtain⟨hsp,hlt⟩:=hadd;obtain⟨b,o,sp'⟩:=a;obtain rfl:sp'=none:=by injection hsp
  obtain⟨l,hQ,hA⟩:=Arr.of_cells (cells:=cells) (s:=s) (w:=W) (B:=W.heap.size) (n:=n) (b:=b) (o:=o) (Q:=Q) (λ_=>hlt) (λi hin=>by
   obtain⟨x,hx,hc⟩:=one i hin;refine⟨x,hx,λj u hu=>?_⟩;have:=hc j u hu;rw[Addr.add_lit,←Nat.add_assoc] at this;exact this)
  exact⟨_,n,c,l,rfl,hl,hm,hQ,hA⟩
theorem ZeI {H:Type}{enc:TypeId × Value→H}{W:World}{r:Reach}{b0:Nat}{sp:Nat→Bool}{held:Bool}{v:Value}{d:DataW H}{ps:List MemPlace}
  (hval:Value.okWide Tryz.prog W r b0 40 v) (h:DataW.Trod enc Tryz.prog W 0 sp held 40 v d ps):∃x:DeskV,v = .agg #[.string x.fStroke,.int .i64 x.fStakes,.slice x.A x.n x.c,.slice x.A' x.n' x.c',.string x.fLog]/\x.fits W:=by
 obtain⟨cs,rfl,hsz⟩:=okWide_struct Tryz.underlying40 hval;obtain⟨fuel,hx⟩:=h;obtain⟨hlen,hf⟩:=Jc (by kernel_rfl) Tryz.underlying40 hx;obtain⟨l⟩:=cs;have hl:l.length=5:=hsz.trans (by kernel_rfl);clear hlen hsz hx hval
 match l,hl with
 | [u0,u1,u2,u3,u4],_ =>
  obtain⟨_,_,t0⟩:=hf 0 _ rfl u0 rfl;obtain⟨y0,e0,_,z0⟩:=DataW.trod_string Tryz.underlying9 t0;obtain rfl:u0=_:=by simpa using e0
  obtain⟨_,_,t1⟩:=hf 1 _ rfl u1 rfl;obtain⟨y1,e1,_,_⟩:=DataW.trod_int Tryz.underlying2 t1;obtain rfl:u1=_:=by simpa using e1
  obtain⟨_,_,t2⟩:=hf 2 _ rfl u2 rfl;obtain⟨A,n,c,kl,rfl,hnc,hcm,hkf,hk⟩:=JH Kind.cells 2 Kind.fits Tryz.underlying37 (by kernel_rfl) (by omega) (λn cs x hx=>by
   obtain⟨hlen,hf⟩:=Jc (by kernel_rfl) Tryz.underlying138 hx;have hl:cs.length=2:=hlen.trans (by kernel_rfl)
   match cs,hl with
   | [u0,u1],_ =>
    obtain⟨_,_,t0⟩:=hf 0 _ rfl u0 rfl;obtain⟨y0,e0,_,_⟩:=DataW.trod_int Tryz.underlying2 t0;obtain rfl:u0=_:=by simpa using e0
    obtain⟨_,_,t1⟩:=hf 1 _ rfl u1 rfl;obtain⟨y1,e1,_,_⟩:=DataW.trod_int Tryz.underlying2 t1;obtain rfl:u1=_:=by simpa using e1
    exact⟨⟨y0,y1⟩,trivial,rfl⟩) t2
  obtain⟨_,_,t3⟩:=hf 3 _ rfl u3 rfl;obtain⟨A',n',c',hl',rfl,hnc',hcm',hhf,hh⟩:=JH Heap.cells 3 Heap.fits Tryz.underlying38 (by kernel_rfl) (by omega) (λn cs x hx=>by
   obtain⟨hlen,hf⟩:=Jc (by kernel_rfl) Tryz.underlying135 hx;have hl:cs.length=3:=hlen.trans (by kernel_rfl)
   match cs,hl with
   | [u0,u1,u2],_ =>
    obtain⟨_,_,t0⟩:=hf 0 _ rfl u0 rfl;obtain⟨y0,e0,_,z0⟩:=DataW.trod_string Tryz.underlying9 t0;obtain rfl:u0=_:=by simpa using e0
    obtain⟨_,_,t1⟩:=hf 1 _ rfl u1 rfl;obtain⟨y1,e1,_,_⟩:=DataW.trod_int Tryz.underlying2 t1;obtain rfl:u1=_:=by simpa using e1
    obtain⟨_,_,t2⟩:=hf 2 _ rfl u2 rfl;obtain⟨y2,e2,_,_⟩:=DataW.trod_int Tryz.underlying2 t2;obtain rfl:u2=_:=by simpa using e2
    exact⟨⟨y0,y1,y2⟩,z0,rfl⟩) t3
  obtain⟨_,_,t4⟩:=hf 4 _ rfl u4 rfl;obtain⟨y4,e4,_,z4⟩:=DataW.trod_string Tryz.underlying9 t4;obtain rfl:u4=_:=by simpa using e4
  exact⟨⟨y0,y1,A,n,c,kl,A',n',c',hl',y4⟩,rfl,hk,hh,Nat.le_trans hnc hcm,Nat.le_trans hnc' hcm',hkf,hhf,z0,z4⟩
theorem ZbJ (l:List Kind):0<=Kind.tot l:=by have:=Kind.pre_nonneg l;unfold Kind.tot;omega
theorem ZbU (l:List Heap):0<=Heap.tot l:=by have:=Heap.pre_nonneg l;unfold Heap.tot;omega
theorem Ju (x:DeskV)(r:Int)(w:World)(hx:x.fits w)(h0:0<=r)(h1:r<=1048576) :
  Calls Tryz.prog 13 #[.agg #[.string x.fStroke,.int .i64 x.fStakes,.slice x.A x.n x.c,.slice x.A' x.n' x.c',.string x.fLog],.int .i64 r] w λe w'=>e = .returned (.int .i64 (szv (r-x.wt)))/\Below w.heap.size w w':=by
 have hX:=Za hx;have s0:=hx.s0;have s4:=hx.s4;unfold maxLen at s0 s4;have T1:=ZbJ x.kinds;have T2:=ZbU x.heaps;obtain⟨P1,hP1⟩:∃P,P=Kind.tot x.kinds:=⟨_,rfl⟩;obtain⟨P2,hP2⟩:∃P,P=Heap.tot x.heaps:=⟨_,rfl⟩;have hwt:Hid (x.wt=x.fStroke.size+P1+P2+x.fLog.size):=Za (by unfold DeskV.wt;rw[hP1,hP2]);rw[←hP1] at T1;rw[←hP2] at T2;have hK:Hid (∀(W:World) (q:Int),Below w.heap.size w W→0<=q→q<=1048576→Calls Tryz.prog 40 #[.slice x.A x.n x.c,.int .i64 q] W λe w'=>e = .returned (.int .i64 (szv (q-P1)))/\Below W.heap.size W w'):=Za (λW q hb a b=>by rw[hP1];exact Zb9 _ _ _ _ _ _ hX.out.nk a b (hX.out.kinds.go hb) hX.out.kfit);have hH:Hid (∀(W:World) (q:Int),Below w.heap.size w W→0<=q→q<=1048576→Calls Tryz.prog 41 #[.slice x.A' x.n' x.c',.int .i64 q] W λe w'=>e = .returned (.int .i64 (szv (q-P2)))/\Below W.heap.size W w'):=Za (λW q hb a b=>by rw[hP2];exact Zca _ _ _ _ _ _ hX.out.nh a b (hX.out.heaps.go hb) hX.out.fit);clear hP1 hP2 hX hx;have hN:=Za (heap_alloc_new w (.cells #[.string x.fStroke,.int .i64 x.fStakes,.slice x.A x.n x.c,.slice x.A' x.n' x.c',.string x.fLog] 40));have hB:=Za ((Below.refl w.heap.size w).alloc (Nat.le_refl _) (.cells #[.string x.fStroke,.int .i64 x.fStakes,.slice x.A x.n x.c,.slice x.A' x.n' x.c',.string x.fLog] 40));obtain⟨k0,k1,k2,k3,k4⟩:=ZaF hN.out (Below.refl _ _);clear k1 k3 k4;by_cases c0:r-x.fStroke.size<0
 ·have hm:=Za (Xt (x:=r-x.wt) (by have:=hwt.out;omega))
  go_enter Tryz.func13,Tryz.ntmps13;go_wp2
  go_ret;exact⟨by rw[hm.out];rfl,hB.out⟩
 by_cases c1:r-x.fStroke.size-P1<0
 ·have hm:=Za (Xt (x:=r-x.wt) (by have:=hwt.out;omega))
  have hm1:=Xt c1;go_enter Tryz.func13,Tryz.ntmps13;go_wp2_with (first|(go_at_call 40;refine(hK.out _ _ hB.out (by omega) (by omega)).mono ?_;rw[hm1];rintro e w2 ⟨rfl,hb⟩;replace hB:=Za (Below.up hB.out hb);clear hb)|fail)
  go_ret;exact⟨by rw[hm.out];rfl,hB.out⟩
 have hm1:=WJ (x:=r-x.fStroke.size-P1) (by omega);go_enter Tryz.func13,Tryz.ntmps13;go_wp2_with fail
 clear k0 k2;refine(hK.out _ _ hB.out (by omega) (by omega)).mono ?_;rw[hm1];rintro e w2 ⟨rfl,hb⟩;obtain⟨k0,k1,k2,k3,k4⟩:=ZaF hN.out hb;replace hB:=Za (Below.up hB.out hb);have hN2:=Za ((hb.block w.heap.size (by simp)).trans hN.out);clear hb k0 k1 k2 k4;by_cases c2:r-x.fStroke.size-P1-P2<0
 ·have hm:=Za (Xt (x:=r-x.wt) (by have:=hwt.out;omega))
  have hm2:=Xt c2;go_wp2_with (first|(go_at_call 41;refine(hH.out _ _ hB.out (by omega) (by omega)).mono ?_;rw[hm2];rintro e w3 ⟨rfl,hb⟩;replace hB:=Za (Below.up hB.out hb);clear hb)|fail)
  go_ret;exact⟨by rw[hm.out];rfl,hB.out⟩
 have hm2:=WJ (x:=r-x.fStroke.size-P1-P2) (by omega);go_wp2_with fail
 clear k3;refine(hH.out _ _ hB.out (by omega) (by omega)).mono ?_;rw[hm2];rintro e w3 ⟨rfl,hb⟩;obtain⟨k0,k1,k2,k3,k4⟩:=ZaF hN2.out hb;replace hB:=Za (Below.up hB.out hb);clear hb k0 k1 k2 k3;by_cases c3:r-x.fStroke.size-P1-P2-x.fLog.size<0
 ·have hm:=Za (Xt (x:=r-x.wt) (by have:=hwt.out;omega))
  go_wp2
  go_ret;exact⟨by rw[hm.out];rfl,hB.out⟩
 ·have hm:=Za (WJ (x:=r-x.wt) (by have:=hwt.out;omega))
  have he:=Za (show r-x.fStroke.size-P1-P2-x.fLog.size=r-x.wt by have:=hwt.out;omega);go_wp2
  go_ret;exact⟨by rw[hm.out,←he.out];rfl,hB.out⟩
theorem Zed (w:World)(a b c:Array Value)(s t u:TypeId) :
  (((w.alloc (.cells a s)).alloc (.cells b t)).alloc (.cells c u)).heap[w.heap.size]?=some (.cells a s (0,0)) /\
  (((w.alloc (.cells a s)).alloc (.cells b t)).alloc (.cells c u)).heap[w.heap.size+1]?=some (.cells b t (0,0)) /\
  (((w.alloc (.cells a s)).alloc (.cells b t)).alloc (.cells c u)).heap[w.heap.size+1+1]?=some (.cells c u (0,0)) /\
  Below w.heap.size w (((w.alloc (.cells a s)).alloc (.cells b t)).alloc (.cells c u)):=by
 refine⟨?_,?_,?_,(((Below.refl _ _).alloc (Nat.le_refl _) _).alloc (by simp) _).alloc (by simp;omega) _⟩
 ·exact(Below.heap_alloc _ _ _ (by simp;omega)).trans ((Below.heap_alloc _ _ _ (by simp)).trans (heap_alloc_new w _))
 ·have h:=heap_alloc_new (w.alloc (.cells a s)) (.cells b t)
  simp only[World.size_alloc] at h;exact(Below.heap_alloc _ _ _ (by simp)).trans h
 ·have h:=heap_alloc_new ((w.alloc (.cells a s)).alloc (.cells b t)) (.cells c u)
  simp only[World.size_alloc] at h;exact h
theorem Zec (x:DeskV)(w:World)(hx:x.good w w.heap.size) :
  Calls Tryz.prog 15 #[.agg #[.string x.fStroke,.int .i64 x.fStakes,.slice x.A x.n x.c,.slice x.A' x.n' x.c',.string x.fLog]] w λe w'=>∃g g',e = .returned (.agg #[.string x.fStroke,.int .i64 x.fStakes,.slice (some ⟨g,0,none⟩) x.n x.n,.slice (some ⟨g',0,none⟩) x.n' x.n',.string x.fLog])/\(Own Kind.cells 103 2 w' w.heap.size (.slice (some ⟨g,0,none⟩) x.n x.n) x.n x.kinds/\Own Heap.cells 106 3 w' w.heap.size (.slice (some ⟨g',0,none⟩) x.n' x.n') x.n' x.heaps)/\Below w.heap.size w w':=by
 have hX:=Za hx;clear hx;go_enter Tryz.func15,Tryz.ntmps15;go_wp2_with fail
 have h3:=Zed w #[.string x.fStroke,.int .i64 x.fStakes,.slice x.A x.n x.c,.slice x.A' x.n' x.c',.string x.fLog] #[.string ⟨#[]⟩,.int .i64 0,.slice none 0 0,.slice none 0 0,.string ⟨#[]⟩] #[.string x.fStroke,.int .i64 x.fStakes,.slice none 0 0,.slice none 0 0,.string ⟨#[]⟩] 40 29 29;obtain⟨W1,hW1⟩:∃W1,W1=(((w.alloc (.cells #[.string x.fStroke,.int .i64 x.fStakes,.slice x.A x.n x.c,.slice x.A' x.n' x.c',.string x.fLog] 40)).alloc (.cells #[.string ⟨#[]⟩,.int .i64 0,.slice none 0 0,.slice none 0 0,.string ⟨#[]⟩] 29)).alloc (.cells #[.string x.fStroke,.int .i64 x.fStakes,.slice none 0 0,.slice none 0 0,.string ⟨#[]⟩] 29)):=⟨_,rfl⟩;rw[←hW1] at h3 ⊢;clear hW1;obtain⟨a0,b0,c0,hB0⟩:=h3;have N0:=Za a0;have N1:=Za b0;have N2:=Za c0;have hB:=Za hB0;clear a0 b0 c0 hB0;refine(Zb7 _ _ _ _ _ hX.out.nk (hX.out.kinds.go hB.out)).mono ?_;obtain⟨g,hg⟩:∃g,g=W1.heap.size:=⟨_,rfl⟩;have hgt:w.heap.size+1+1<W1.heap.size:=(Array.getElem?_eq_some_iff.1 N2.out).1;rintro e w2 ⟨rfl,ho,hb⟩;replace N0:=Za (Ze N0.out hb);replace N1:=Za (Ze N1.out hb);replace N2:=Za (Ze N2.out hb);replace hB:=Za (Below.up hB.out hb);have hz1:=hb.size;rw[←hg] at ho hgt hz1 ⊢;clear hb hg;have hO:=Za (ho.kept (JZ w2 (w.heap.size+1+1) 2 (.slice (some ⟨g,0,none⟩) x.n x.n)) (.inr (by simp[Value.ownBlock];omega)));clear ho;obtain⟨a0,a1,a2,a3,a4,af⟩:=Zs N0.out;obtain⟨c0,c1,c2,c3,c4,cf⟩:=Zs N2.out;have N0':=Za ((heap_setCell_other w2 ⟨w.heap.size+1+1,2,none⟩ w.heap.size (.slice (some ⟨g,0,none⟩) x.n x.n) (by show _≠_+1+1;omega)).trans N0.out);have N1':=Za ((heap_setCell_other w2 ⟨w.heap.size+1+1,2,none⟩ (w.heap.size+1) (.slice (some ⟨g,0,none⟩) x.n x.n) (by show _≠_+1;omega)).trans N1.out);have N2':=Za (heap_setCell_same w2 (w.heap.size+1+1) 2 _ _ (.slice (some ⟨g,0,none⟩) x.n x.n) N2.out);have hB':=Za (hB.out.setCell (p:=⟨w.heap.size+1+1,2,none⟩) (by show _<=_+1+1;omega) (.slice (some ⟨g,0,none⟩) x.n x.n));have hz3:w2.heap.size=(w2.setCell ⟨w.heap.size+1+1,2,none⟩ (.slice (some ⟨g,0,none⟩) x.n x.n)).heap.size:=by simp[World.setCell]
 clear N0 N1 N2 hB;go_wp2_with fail
 clear a0 a1 a2 a3 a4 af c0 c1 c2 c3 c4 cf;obtain⟨W3,hW3⟩:∃W3,W3=w2.setCell ⟨w.heap.size+1+1,2,none⟩ (.slice (some ⟨g,0,none⟩) x.n x.n):=⟨_,rfl⟩;rw[←hW3] at hO N0' N1' N2' hB' hz3 ⊢;clear hW3;refine(Zb8 _ _ _ _ _ hX.out.nh (hX.out.heaps.go hB'.out)).mono ?_;obtain⟨g',hg'⟩:∃g',g'=W3.heap.size:=⟨_,rfl⟩;rintro e w4 ⟨rfl,ho2,hb⟩;have N0:=Za (Ze N0'.out hb);have N1:=Za (Ze N1'.out hb);have N2:Hid (w4.heap[w.heap.size+1+1]?=some (.cells #[.string x.fStroke,.int .i64 x.fStakes,.slice (some ⟨g,0,none⟩) x.n x.n,.slice none 0 0,.string ⟨#[]⟩] 29 (0,0))):=Za (Ze N2'.out hb);have hB:=Za (Below.up hB'.out hb);replace hO:=Za (hO.out.below hb);have hz4:=hb.size;have hgt':w.heap.size+1+1<g':=by omega
 rw[←hg'] at ho2 hz4 ⊢;have hO2:=Za ho2;clear hb hg' ho2 N0' N1' N2' hB' hz1 hz3;obtain⟨a0,a1,a2,a3,a4,af⟩:=Zs N0.out;obtain⟨b0,b1,b2,b3,b4,bf⟩:=Zs N1.out;obtain⟨c0,c1,c2,c3,c4,cf⟩:=Zs N2.out;go_wp2
 refine bodyPost_ret (v:=.agg #[.string x.fStroke,.int .i64 x.fStakes,.slice (some ⟨g,0,none⟩) x.n x.n,.slice (some ⟨g',0,none⟩) x.n' x.n',.string x.fLog]) (by simp[results,Tryz.results15,go_sem,b0,b1,b2,b3,b4]) rfl ⟨g,g',rfl,⟨?_,?_⟩,?_⟩
 ·exact Own.less (Own.far (by omega) (Own.far (by omega) (Own.far (by omega) (Own.far (by omega) (Own.far (by omega) (Own.far (by omega) (Own.far (by omega) (hO.out)))))))) (by omega)
 ·exact Own.less (Own.far (by omega) (Own.far (by omega) (Own.far (by omega) (Own.far (by omega) (Own.far (by omega) (Own.far (by omega) (Own.far (by omega) (hO2.out)))))))) (by omega)
 ·exact Below.far (by omega) (Below.far (by omega) (Below.far (by omega) (Below.far (by omega) (Below.far (by omega) (Below.far (by omega) (Below.far (by omega) (hB.out)))))))
end Go.Proofs.YtfpaejlipaainaaGreatDoor
