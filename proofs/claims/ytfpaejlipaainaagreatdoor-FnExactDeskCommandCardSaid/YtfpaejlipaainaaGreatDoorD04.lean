/- Texts that belong together, joined: contracts and plain laws. No statement is proved here. -/
import Derived.Test.YtfpaejlipaainaaGreatDoorD03
set_option maxRecDepth 100000
set_option maxHeartbeats 8000000
namespace Go.Proofs.YtfpaejlipaainaaGreatDoor
open Go.ChangeShapes Go.WideShapes Go.ChangeAt Go.RowKit Go.Deep
def Str.mk' (z:Int):ByteArray:=X1 (z)
def Str.marks (k:Int)(n:Nat):List ByteArray:=(List.range n).map fun(i:Nat)=>Str.mk' (k+1*(i:Int))
theorem Str.marks_len (k:Int)(n:Nat):(Str.marks k n).length=n:=by simp[Str.marks]
theorem Str.marks_snoc (k:Int)(n:Nat):Str.marks k (n+1)=Str.marks k n++[Str.mk' (k+1*n)]:=by simp[Str.marks,List.range_succ]
theorem Str.marks_get {k:Int}{n i:Nat}(h:i<n):(Str.marks k n)[i]?=some (Str.mk' (k+1*i)):=by simp[Str.marks,h]
theorem Str.marks_set {l:List ByteArray}{k:Int}{i:Nat}(h:i<l.length):(Str.marks k i++l.drop i).set i (Str.mk' (k+1*i))=Str.marks k (i+1)++l.drop (i+1):=by
 have hl:=Str.marks_len k i;rw[List.set_append,if_neg (by omega),hl,Nat.sub_self,List.drop_eq_getElem_cons h,List.set_cons_zero,Str.marks_snoc];simp
theorem QJ (v:Value)(n base:Nat)(l:List ByteArray)(k:Int)(w:World)(h0:0<=k)(h1:k<=100000000000)(hn:n<=1048576)(ho:Res ZY 9 1 w base v n l) :
  Calls Tryz.prog 19 #[v,.int .i64 k] w λe w'=>e = .returned (.int .i64 (k+1*n))/\UY w w' v n/\Res ZY 9 1 w' base v n (Str.marks k n):=by
 have hl:=Za ho.len;rcases Nat.eq_zero_or_pos n with rfl|hn0
 ·obtain⟨A,c,rfl,_,hcm⟩:=ho.2.1
  go_enter Tryz.func19,Tryz.ntmps19;go_wp2
  go_loopw [1,5] (λq i wr=>q = .int .i64 k/\i = .int .i64 0/\w=wr) (λ_ _ _=>0)
  case atStart=>exact⟨rfl,rfl,rfl⟩
  case round =>
   obtain⟨rfl,rfl,rfl⟩:=hrel;go_wp2
   go_ret;exact⟨UL (by simp),⟨λ_=>rfl,λh=>absurd h (by omega)⟩,Res.empty hcm⟩
 ·have ho2:=ho.2.2 hn0
  clear ho;rcases ho2.form with ⟨_,h00,_⟩|⟨g,cap,rfl,hgb,hgl,hnc,hcm⟩
  ·omega
  have hO0:=Za ho2;clear ho2;have hN0:=Za hn0;clear hn0;go_enter Tryz.func19,Tryz.ntmps19;go_wp2
  go_loopw [1,5] (λq i wr=>∃(m:Nat) (z:Int),m<=n/\i = .int .i64 m/\q = .int .i64 z/\Hid (z=k+1*m)/\Hid (w.grownBy wr (some g))/\Own ZY 9 1 wr base (.slice (some ⟨g,0,none⟩) n cap) n (Str.marks k m++l.drop m)) (λ_ i _=>n-(intOf i).toNat)
  case atStart=>exact⟨0,k,Nat.zero_le _,rfl,rfl,Za (by simp),Za (World.grownBy.refl _ _),by simpa[Str.marks] using hO0.out⟩
  case round =>
   obtain⟨m,z,hm,rfl,rfl,hz,hG,hown⟩:=hrel;by_cases hlt:m<n
   ·have hz0:0<=z:=by have:=hz.out;omega
    have hz1:z<=110000000000:=by have:=hz.out;omega
    have hml:Hid (m<(Str.marks k m++l.drop m).length):=Za (by simp[Str.marks_len,hl.out];omega);have hml2:Hid (m<l.length):=Za (by rw[hl.out];exact hlt);obtain⟨x,hx,f0,y0⟩:=hown.str_at hlt;have hO:=Za (hown.asSet hx);clear hx hown;go_wp2_with fail
    refine(XX _ _ (by omega)).mono ?_;rintro e w1 ⟨rfl,hb⟩;have hO1:=Za (Own.below (hO.out) hb);have hG1:=Za (Ur (hG.out) (Xc hb _));clear hb f0 y0;obtain⟨x1,hx1,f0,y0⟩:=hO1.out.str_at hlt;clear hx1;go_wp2_with fail
    go_roundw
    case rel =>
     have hE:=Own.cellS (m:=m) (j:=0) (u:=.string (X1 (z))) (hO1.out) Zf hml.out (by omega) (X1 (z)) rfl;have hGE:=Z4 (hG1.out) (p:=⟨g,m*1+0,none⟩) rfl (.string (X1 (z)));refine⟨m+1,z+1,by omega,by go_num,rfl,Za (by have:=hz.out;omega),Za ?_,?_⟩
     ·simpa using hGE
     ·have hmk:Str.mk' (k+1*m)=X1 (z):=by rw[←hz.out];rfl
      have hfin:=Str.marks_set (k:=k) hml2.out;rw[hmk] at hfin;rw[hfin] at hE;simpa using hE
    case measure=>simp[intOf];omega
   ·have hmn:m=n:=by omega
    subst hmn;have hO:=Za hown;clear hown;go_wp2
    go_ret;have hfin:=hO.out;rw[List.drop_of_length_le (by rw[hl.out];exact Nat.le_refl _),List.append_nil] at hfin;exact⟨UL (by rw[hz.out]),⟨λh=>absurd hN0.out (by omega),λ_=>hG.out⟩,hfin.res⟩
theorem WX (A:Option Addr)(n c:Nat)(k:Int)(w:World)(h0:0<=k)(h1:k<=100000000000)(hn:n<=1048576)(hr:Arr ZY 1 w w.heap.size A n (Str.marks k n)) :
  Calls Tryz.prog 21 #[.slice A n c,.int .i64 k] w λe w'=>e = .returned (.int .i64 (k+1*n))/\Below w.heap.size w w':=by
 go_enter Tryz.func21,Tryz.ntmps21;go_wp2
 go_loopw [1,5] (λq i wr=>∃(m:Nat) (z:Int),m<=n/\i = .int .i64 m/\q = .int .i64 z/\Hid (z=k+1*m)/\Below w.heap.size w wr) (λ_ i _=>n-(intOf i).toNat)
 case atStart=>exact⟨0,k,Nat.zero_le _,rfl,rfl,Za (by simp),Below.refl _ _⟩
 case round =>
  obtain⟨m,z,hm,rfl,rfl,hz,hb⟩:=hrel;by_cases hlt:m<n
  ·have hz0:0<=z:=by have:=hz.out;omega
   have hz1:z<=110000000000:=by have:=hz.out;omega
   obtain⟨b,o,x,rfl,hbl,hx,c0⟩:=hr.str hlt;have hxe:Hid (X1 (z)=x):=Za (by rw[Str.marks_get hlt,←hz.out] at hx;exact Option.some.inj hx);have d0:wr.cell? ⟨b,o+m,none⟩=some (.string (X1 (z))):=((hb.cell (p:=⟨b,o+m,none⟩) hbl).trans c0).trans (by rw[←hxe.out]);clear c0 hx hr hxe;have hlt':(m:Int)<(n:Int):=by omega
   have hm0:(0:Int)<=(m:Int):=by omega
   have hbs:b<wr.heap.size:=Nat.lt_of_lt_of_le hbl hb.size;have hB:=Za hb;clear hb;go_wp2_with fail
   go_region_held3 (λw'=>w'.cell? ⟨b,o+m,none⟩=some (.string (X1 (z)))) (first|go_keep|exact(hb.cell (p:=⟨b,o+m,none⟩) hbs).trans d0) ((first|(go_at_call 50;refine(XX _ _ (by omega)).mono ?_;rintro e w1 ⟨rfl,hb⟩)))
   replace hbs:=Nat.lt_of_lt_of_le (show b<_ from hbs) hb.size;replace hB:=Za (Below.up (Below.drew hB.out) hb);clear hb d0;go_wp2_with fail
   go_roundw
   case rel=>exact⟨m+1,z+1,by omega,by go_num,rfl,Za (by have:=hz.out;omega),hB.out⟩
   case measure=>simp[intOf];omega
  ·have hmn:m=n:=by omega
   subst hmn;have hB:=Za hb;clear hb;go_wp2
   go_ret;exact⟨UL (by rw[hz.out]),hB.out⟩
theorem XD {α:Type}{cells:α→List Value}{w w':World}{e t s base n g:Nat}{v:Value}{l:List α}{cs:Array Value}(h:w.heap[g]?=some (.cells cs t (0,0)))(hr:Res cells e s w base v n l)(hm:UY w w' v n)(hne:e≠t):w'.heap[g]?=some (.cells cs t (0,0)):=by
 rcases Nat.eq_zero_or_pos n with h0|h0
 ·rw[←hm.1 h0];exact h
 ·exact((hm.2 h0).block g (Array.getElem?_eq_some_iff.1 h).1 (ZgD (hr.2.2 h0) h hne)).trans h
theorem XW {α β:Type}{cells:α→List Value}{cells':β→List Value}{w:World}{e e' s s' base base' n n':Nat}{v v':Value}{l:List α}{l':List β}(h:Res cells e s w base v n l)(h':Res cells' e' s' w base' v' n' l')(hne:e≠e'):0<n→0<n'→Uj v v' :=
 λa b=>Zaw (h.2.2 a) (h'.2.2 b) hne
def DMark (w w':World)(x:DeskV):Prop:=∃w1 w2,Below w.heap.size w w1/\UY w1 w2 (.slice x.A x.n x.c) x.n/\UY w2 w' (.slice x.A' x.n' x.c') x.n'
theorem DMark.res {α:Type}{cells:α→List Value}{w w':World}{e s base n:Nat}{v:Value}{l:List α}{x:DeskV}(hm:DMark w w' x)(h:Res cells e s w base v n l)(h1:0<n→0<x.n→Uj v (.slice x.A x.n x.c))(h2:0<n→0<x.n'→Uj v (.slice x.A' x.n' x.c')):Res cells e s w' base v n l:=by
 obtain⟨w1,w2,hb,m1,m2⟩:=hm;exact((h.below hb).kept m1 h1).kept m2 h2
theorem DMark.below {a w w':World}{x:DeskV}(hm:DMark w w' x)(hd:DV w a.heap.size x)(hb:Below a.heap.size a w):Below a.heap.size a w':=by
 obtain⟨w1,w2,h1,m1,m2⟩:=hm;have hk:=hd.k.below h1;have hh:=hd.h.below h1;have h2:=hk.markBelow (hb.trans (h1.mono hb.size)) m1;exact(hh.kept m1 (XW hh hk (by decide))).markBelow h2 m2
theorem DMark.row {w w':World}{x:DeskV}{base g:Nat}{cs:Array Value}{t:TypeId}(hm:DMark w w' x)(hd:DV w base x)(h:w.heap[g]?=some (.cells cs t (0,0)))(h1:103≠t)(h2:106≠t):w'.heap[g]?=some (.cells cs t (0,0)):=by
 obtain⟨w1,w2,hb,m1,m2⟩:=hm;have hk:=hd.k.below hb;have hh:=hd.h.below hb;exact XD (XD (Ze h hb) hk m1 h1) (hh.kept m1 (XW hh hk (by decide))) m2 h2
theorem UN (x:DeskV)(base:Nat)(k:Int)(w:World)(h0:0<=k)(h1:k<=100000000)(hd:DV w base x) :
  Calls Tryz.prog 18 #[.agg #[.string x.fStroke,.int .i64 x.fStakes,.slice x.A x.n x.c,.slice x.A' x.n' x.c',.string x.fLog],.int .i64 k] w λe w'=>e = .returned (.int .i64 (k+2*x.n+3*x.n'))/\DMark w w' x/\Res Kind.cells 103 2 w' base (.slice x.A x.n x.c) x.n (Kind.marks k x.n)/\Res Heap.cells 106 3 w' base (.slice x.A' x.n' x.c') x.n' (Heap.marks (k+2*x.n) x.n'):=by
 have hD:=Za hd;have hnk:=hd.nk;have hnh:=hd.nh;clear hd;go_enter Tryz.func18,Tryz.ntmps18;go_wp2_with fail
 have hb0:=Za ((Below.refl w.heap.size w).alloc (Nat.le_refl _) (.cells #[.string x.fStroke,.int .i64 x.fStakes,.slice x.A x.n x.c,.slice x.A' x.n' x.c',.string x.fLog] 29));have N0:=Za (heap_alloc_new w (.cells #[.string x.fStroke,.int .i64 x.fStakes,.slice x.A x.n x.c,.slice x.A' x.n' x.c',.string x.fLog] 29));obtain⟨W0,hW0⟩:∃W0,W0=w.alloc (.cells #[.string x.fStroke,.int .i64 x.fStakes,.slice x.A x.n x.c,.slice x.A' x.n' x.c',.string x.fLog] 29):=⟨_,rfl⟩;rw[←hW0] at hb0 N0 ⊢;clear hW0;have hk:=Za (hD.out.k.below hb0.out);have hh:=Za (hD.out.h.below hb0.out);refine(Zaz (.slice x.A x.n x.c) x.n base x.kinds k _ h0 (by omega) hnk hk.out).mono ?_;rintro e w1 ⟨rfl,hm,hr⟩;have M1:=Za hm;have R1:=Za hr;have N1:=Za (XD N0.out hk.out hm (by decide));have H1:=Za (hh.out.kept hm (XW hh.out hk.out (by decide)));clear hm hr;obtain⟨a0,a1,a2,a3,a4,af⟩:=Zs N1.out;go_wp2_with fail
 clear a0 a1 a2 a3 a4 af;refine(ZaA (.slice x.A' x.n' x.c') x.n' base x.heaps (k+2*x.n) _ (by omega) (by omega) hnh H1.out).mono ?_;rintro e w2 ⟨rfl,hm,hr⟩;have M2:=Za hm;have R2:=Za hr;have R1':=Za (R1.out.kept hm (XW R1.out H1.out (by decide)));clear hm hr;go_wp2
 go_ret;exact⟨rfl,⟨_,_,hb0.out,M1.out,M2.out⟩,R1'.out,R2.out⟩
theorem UV (x:DeskV)(k:Int)(w:World)(h0:0<=k)(h1:k<=100000000)(hnk:x.n<=1048576)(hnh:x.n'<=1048576)(hk:Arr Kind.cells 2 w w.heap.size x.A x.n (Kind.marks k x.n))(hh:Arr Heap.cells 3 w w.heap.size x.A' x.n' (Heap.marks (k+2*x.n) x.n')) :
  Calls Tryz.prog 20 #[.agg #[.string x.fStroke,.int .i64 x.fStakes,.slice x.A x.n x.c,.slice x.A' x.n' x.c',.string x.fLog],.int .i64 k] w λe w'=>e = .returned (.int .i64 (k+2*x.n+3*x.n'))/\Below w.heap.size w w':=by
 have hK:=Za hk;have hH:=Za hh;have e1:¬(k+2*(x.n:Int))<0:=by omega
 have e2:¬(k+2*(x.n:Int)+3*(x.n':Int))<0:=by omega
 clear hk hh;go_enter Tryz.func20,Tryz.ntmps20;go_wp2_with fail
 have hb0:=Za ((Below.refl w.heap.size w).alloc (Nat.le_refl _) (.cells #[.string x.fStroke,.int .i64 x.fStakes,.slice x.A x.n x.c,.slice x.A' x.n' x.c',.string x.fLog] 29));have N0:=Za (heap_alloc_new w (.cells #[.string x.fStroke,.int .i64 x.fStakes,.slice x.A x.n x.c,.slice x.A' x.n' x.c',.string x.fLog] 29));obtain⟨W0,hW0⟩:∃W0,W0=w.alloc (.cells #[.string x.fStroke,.int .i64 x.fStakes,.slice x.A x.n x.c,.slice x.A' x.n' x.c',.string x.fLog] 29):=⟨_,rfl⟩;rw[←hW0] at hb0 N0 ⊢;clear hW0;refine(ZaJ x.A x.n x.c k _ h0 (by omega) hnk (hK.out.go hb0.out)).mono ?_;rintro e w1 ⟨rfl,hb⟩;have hb1:=Za (Below.up hb0.out hb);have N1:=Za (Ze N0.out hb);clear hb;obtain⟨a0,a1,a2,a3,a4,af⟩:=Zs N1.out;go_wp2_with fail
 clear a0 a1 a2 a3 a4 af;refine(ZaK x.A' x.n' x.c' (k+2*x.n) _ (by omega) (by omega) hnh (hH.out.go hb1.out)).mono ?_;rintro e w2 ⟨rfl,hb⟩;have hb2:=Za (Below.up hb1.out hb);clear hb;go_wp2
 go_ret;exact⟨rfl,hb2.out⟩
theorem VW {x y:DeskV}{d:DeskM}(hx:x.pure=d)(hy:y.pure=d):x.same y=true:=by
 have h:=hx.trans hy.symm;obtain⟨_,_,_,_,_,_,_,_,_,_,_⟩:=x;obtain⟨_,_,_,_,_,_,_,_,_,_,_⟩:=y;unfold DeskV.pure at h;injection h with a b c d' e
 simp only at a b c d' e;subst a b c d' e;simp[DeskV.same]
theorem Zhv {d:DeskM}{s:ByteArray}(hs:s.size<=1048576):(dcRes d s).2.1.length<=1048576:=by
 unfold dcRes;split
 ·rename_i hok
  cases hm:mLine d s with
  | none=>exact Nat.zero_le _
  | some q =>
   obtain⟨d',out⟩:=q;have:=(V5 hok hs hm).1;show out.length<=_
   omega
 ·exact Nat.zero_le _
theorem DeskV.good_of {x:DeskV}{w:World}(hx:x.fits w)(h:x.wt<=1048576):x.good w w.heap.size:=by
 have T1:=Kind.pre_nonneg x.kinds;have T2:=Heap.pre_nonneg x.heaps;have l1:=hx.kinds.len;have l2:=hx.heaps.len;unfold DeskV.wt Kind.tot Heap.tot at h;exact⟨hx.kinds,hx.heaps,by omega,by omega,hx.fit⟩
theorem DeskV.wt0 (x:DeskV):0<=x.wt:=by
 have:=ZbJ x.kinds;have:=ZbU x.heaps;unfold DeskV.wt;omega
theorem DeskV.fits.go {x:DeskV}{w w':World}(h:x.fits w)(hb:Below w.heap.size w w'):x.fits w':=⟨h.kinds.go hb,h.heaps.go hb,h.nk,h.nh,h.kfit,h.fit,h.s0,h.s4⟩
theorem VS (x:DeskV)(w:World)(hx:x.good w w.heap.size) :
  Calls Tryz.prog 15 #[.agg #[.string x.fStroke,.int .i64 x.fStakes,.slice x.A x.n x.c,.slice x.A' x.n' x.c',.string x.fLog]] w λe w'=>∃y:DeskV,e = .returned (.agg #[.string y.fStroke,.int .i64 y.fStakes,.slice y.A y.n y.c,.slice y.A' y.n' y.c',.string y.fLog])/\y.pure=x.pure/\DV w' w.heap.size y/\Below w.heap.size w w' :=
 (Zec x w hx).mono λ_ _ ⟨g,g',he,⟨h1,h2⟩,hb⟩=>⟨⟨x.fStroke,x.fStakes,some ⟨g,0,none⟩,x.n,x.n,x.kinds,some ⟨g',0,none⟩,x.n',x.n',x.heaps,x.fLog⟩,he,rfl,⟨h1.res,h2.res,hx.nk,hx.nh,hx.fit⟩,hb⟩
def Zkb (w:World)(D:DeskM)(L:List ByteArray)(cd:Int)(e:Ending)(w':World):Prop :=
 ∃(y:DeskV) (A:Option Addr) (c:Nat),e = .returned (.tuple #[.agg #[.string y.fStroke,.int .i64 y.fStakes,.slice y.A y.n y.c,.slice y.A' y.n' y.c',.string y.fLog],.slice A L.length c,.int .i64 cd])/\y.pure=D/\DV w' w.heap.size y/\Res ZY 9 1 w' w.heap.size (.slice A L.length c) L.length L/\Below w.heap.size w w'
theorem DcPost.ret {w w':World}{e:Ending}{D:DeskM}{L:List ByteArray}{cd:Int}(h:DcPost w (D,L,cd) e w'):Zkb w D L cd e w':=by
 obtain⟨y,v,he,hp,hd,hv,hb⟩:=h;obtain⟨A,c,rfl,_⟩:=hv.slice;exact⟨y,A,c,he,hp,hd,hv,hb⟩
theorem Zjz (x y:DeskV)(s:ByteArray)(w:World)(hx:y.good w w.heap.size)(hp:y.pure=x.pure)(hs0:x.fStroke.size<=maxLen)(hls:s.size<=1048576)(D:DeskM)(L:List ByteArray)(cd:Int)(hr:dcRes x.pure s=(D,L,cd)) :
  Calls Tryz.prog 14 #[.agg #[.string y.fStroke,.int .i64 y.fStakes,.slice y.A y.n y.c,.slice y.A' y.n' y.c',.string y.fLog],.string s] w (Zkb w D L cd) :=
 (ZjB y s w hx (by have h:y.fStroke=x.fStroke:=congrArg DeskM.st hp;rw[h];exact hs0) hls).mono λ_ _ h=>DcPost.ret (by rw[hp,hr] at h;exact h)
theorem Zg8 (x y:DeskV)(s:ByteArray)(w:World)(hG:Gl w)(hx:y.good w w.heap.size)(hp:y.pure=x.pure)(hs0:x.fStroke.size<=maxLen)(hls:s.size<=1048576)(D:DeskM)(L:List ByteArray)(cd:Int)(hr:dcRes x.pure s=(D,L,cd)) :
  Calls Tryz.prog 9 #[.agg #[.string y.fStroke,.int .i64 y.fStakes,.slice y.A y.n y.c,.slice y.A' y.n' y.c',.string y.fLog],.string s] w (Zkb w D L cd) :=
 (Zhc y s w hG hx (by have h:y.fStroke=x.fStroke:=congrArg DeskM.st hp;rw[h];exact hs0) hls).mono λ_ _ h=>DcPost.ret (by rw[hp,hr] at h;exact h)
theorem Qn (w:World)(hG:Gl w)(x:DeskV)(hx:x.fits w)(s:ByteArray)(_:s.size<=maxLen) :
  Calls Tryz.prog 4 #[.agg #[.string x.fStroke,.int .i64 x.fStakes,.slice x.A x.n x.c,.slice x.A' x.n' x.c',.string x.fLog],.string s] w λe w'=>e = .returned (.bool true)/\Below w.heap.size w w':=by
 have hGh:=Za hG;have hX:=Za hx;have tx:=x.wt0;clear hG hx;obtain⟨W0,hW0⟩:∃W0,W0=w.alloc (.cells #[.string x.fStroke,.int .i64 x.fStakes,.slice x.A x.n x.c,.slice x.A' x.n' x.c',.string x.fLog] 40):=⟨_,rfl⟩;have NA:Hid (W0.heap[w.heap.size]?=some (.cells #[.string x.fStroke,.int .i64 x.fStakes,.slice x.A x.n x.c,.slice x.A' x.n' x.c',.string x.fLog] 40 (0,0))):=Za (by rw[hW0];exact heap_alloc_new w _);have hB:Hid (Below w.heap.size w W0):=Za (by rw[hW0];exact(Below.refl _ _).alloc (Nat.le_refl _) _);have hE:=Za hW0;clear hW0;by_cases hi:1048576<s.size
 ·have hi':(1048576:Int)<(s.size:Int):=by omega
  go_enter Tryz.func4,Tryz.ntmps4;go_wp2
  go_ret;exact⟨rfl,by have:=hB.out;rw[hE.out] at this;exact this⟩
 have hi':¬(1048576:Int)<(s.size:Int):=by omega
 by_cases c0:1048576-x.wt<0
 ·have hm:=Xt c0
  go_enter Tryz.func4,Tryz.ntmps4;go_wp2_with fail
  rw[←hE.out];clear hE;refine(Ju x 1048576 _ (hX.out.go hB.out) (by omega) (by omega)).mono ?_;rw[hm];rintro e w1 ⟨rfl,hb⟩;replace hB:=Za (Below.up hB.out hb);clear hb;go_wp2
  go_ret;exact⟨rfl,hB.out⟩
 have hm:=WJ (x:=1048576-x.wt) (by omega);have hXg:=Za (DeskV.good_of hX.out (by omega));have hs0:=hX.out.s0;have hls:s.size<=1048576:=by omega
 have hLn:=Zhv (d:=x.pure) hls;obtain⟨r,hr⟩:∃r,r=dcRes x.pure s:=⟨_,rfl⟩;rw[←hr] at hLn;have hR:=Za hr.symm;clear hr;obtain⟨D,L,cd⟩:=r;replace hLn:L.length<=1048576:=hLn;obtain⟨n,hn⟩:∃n,n=L.length:=⟨_,rfl⟩;have hnb:n<=1048576:=by omega
 have hN:=Za hn;clear hn;have hcd:(cd != cd)=false:=by simp
 go_enter Tryz.func4,Tryz.ntmps4;go_wp2_with fail
 rw[←hE.out];clear hE;refine(Ju x 1048576 _ (hX.out.go hB.out) (by omega) (by omega)).mono ?_;rw[hm];rintro e W' ⟨rfl,hb⟩;replace hB:=Za (Below.up hB.out hb);replace NA:=Za (Ze NA.out hb);clear hb;clear hm;obtain⟨a0,a1,a2,a3,a4,af⟩:=Zs NA.out;go_wp2_with fail
 clear a0 a1 a2 a3 a4 af;refine(VS x _ (hXg.out.go hB.out)).mono ?_;rintro e w2 ⟨x1,rfl,hpx1,hd,hb⟩;replace hB:=Za (Below.up hB.out hb);replace NA:=Za (Ze NA.out hb);have hDx1:=Za hd;have hPx1:=Za hpx1;clear hb hd hpx1;go_wp2_with fail
 refine(Zjz x x1 s _ hDx1.out.good hPx1.out hs0 hls D L cd hR.out).mono ?_;rintro e w3 ⟨y,Ay,cy,rfl,hpy,hd,hv,hb⟩;rw[←hN.out] at hv ⊢;replace hB:=Za (Below.up hB.out hb);replace NA:=Za (Ze NA.out hb);have hDy:=Za hd;have hPy:=Za hpy;have hSy:=Za hv;clear hb hd hv hpy;clear hDx1 hPx1;have hYg:=Za hDy.out.good;have hYs:=Za (hSy.out.arr Zf);have hB1:=Za (Below.refl w3.heap.size w3);have hBw:=Za hB.out;clear hDy hSy;have hb:Below w3.heap.size w3 (w3.alloc (.cells #[.string y.fStroke,.int .i64 y.fStakes,.slice y.A y.n y.c,.slice y.A' y.n' y.c',.string y.fLog] 29)):=(Below.refl _ _).alloc (Nat.le_refl _) _;replace hB:=Za (Below.up hB.out hb);replace NA:=Za (Ze NA.out hb);replace hB1:=Za (Below.up hB1.out hb);have NY:=Za (heap_alloc_new w3 (.cells #[.string y.fStroke,.int .i64 y.fStakes,.slice y.A y.n y.c,.slice y.A' y.n' y.c',.string y.fLog] 29));clear hb;obtain⟨a0,a1,a2,a3,a4,af⟩:=Zs NA.out;go_wp2_with fail
 clear a0 a1 a2 a3 a4 af;obtain⟨WNY,hWNY⟩:∃WNY,WNY=w3.alloc (.cells #[.string y.fStroke,.int .i64 y.fStakes,.slice y.A y.n y.c,.slice y.A' y.n' y.c',.string y.fLog] 29):=⟨_,rfl⟩;rw[←hWNY] at hB NA hB1 NY ⊢;clear hWNY;obtain⟨mNY,hmNY⟩:∃mNY,mNY=w3.heap.size:=⟨_,rfl⟩;rw[←hmNY] at NY ⊢;clear hmNY;have hWb:=Za hB1.out.size;refine(VS x _ (hXg.out.go hB.out)).mono ?_;rintro e w5 ⟨x2,rfl,hpx2,hd,hb⟩;replace hB:=Za (Below.up hB.out hb);replace NA:=Za (Ze NA.out hb);replace hB1:=Za (Below.up hB1.out hb);replace NY:=Za (Ze NY.out hb);have hDx2:=Za hd;have hPx2:=Za hpx2;clear hb hd hpx2;have hb:Below w5.heap.size w5 (w5.alloc (.cells #[.string x2.fStroke,.int .i64 x2.fStakes,.slice x2.A x2.n x2.c,.slice x2.A' x2.n' x2.c',.string x2.fLog] 29)):=(Below.refl _ _).alloc (Nat.le_refl _) _;replace hB:=Za (Below.up hB.out hb);replace NA:=Za (Ze NA.out hb);replace hB1:=Za (Below.up hB1.out hb);replace NY:=Za (Ze NY.out hb);replace hDx2:=Za (hDx2.out.below hb);have NX:=Za (heap_alloc_new w5 (.cells #[.string x2.fStroke,.int .i64 x2.fStakes,.slice x2.A x2.n x2.c,.slice x2.A' x2.n' x2.c',.string x2.fLog] 29));clear hb;obtain⟨a0,a1,a2,a3,a4,af⟩:=Zs NX.out;go_wp2_with fail
 clear a0 a1 a2 a3 a4 af;obtain⟨WNX,hWNX⟩:∃WNX,WNX=w5.alloc (.cells #[.string x2.fStroke,.int .i64 x2.fStakes,.slice x2.A x2.n x2.c,.slice x2.A' x2.n' x2.c',.string x2.fLog] 29):=⟨_,rfl⟩;rw[←hWNX] at hB NA hB1 NY hDx2 NX ⊢;clear hWNX;obtain⟨mNX,hmNX⟩:∃mNX,mNX=w5.heap.size:=⟨_,rfl⟩;rw[←hmNX] at NX ⊢;clear hmNX;have hX2s:=Za hDx2.out;have hWz':=Za hB1.out.size;refine(Zg8 x x2 s _ (hGh.out.below hB.out) hDx2.out.good hPx2.out hs0 hls D L cd hR.out).mono ?_;rintro e w7 ⟨z,Az,cz,rfl,hpz,hd,hv,hb⟩;rw[←hN.out] at hv ⊢;replace hB:=Za (Below.up hB.out hb);replace NA:=Za (Ze NA.out hb);replace hB1:=Za (Below.up hB1.out hb);replace NY:=Za (Ze NY.out hb);replace hDx2:=Za (hDx2.out.below hb);replace NX:=Za (Ze NX.out hb);have hDz:=Za hd;have hPz:=Za hpz;have hSz:=Za hv;clear hb hd hv hpz;have q0:=Za (Res.apart hX2s.out.k hDz.out.k (Nat.le_refl _)).2;have q1:=Za (Res.apart hX2s.out.h hDz.out.k (Nat.le_refl _)).2;have q2:=Za (Res.apart hX2s.out.k hDz.out.h (Nat.le_refl _)).2;have q3:=Za (Res.apart hX2s.out.h hDz.out.h (Nat.le_refl _)).2;have q4:=Za (Res.apart hX2s.out.k hSz.out (Nat.le_refl _)).2;have q5:=Za (Res.apart hX2s.out.h hSz.out (Nat.le_refl _)).2;have hWz:=hWz';clear hX2s hWz';have hb:Below w7.heap.size w7 (w7.alloc (.cells #[.string z.fStroke,.int .i64 z.fStakes,.slice z.A z.n z.c,.slice z.A' z.n' z.c',.string z.fLog] 29)):=(Below.refl _ _).alloc (Nat.le_refl _) _;replace hB:=Za (Below.up hB.out hb);replace NA:=Za (Ze NA.out hb);replace hB1:=Za (Below.up hB1.out hb);replace NY:=Za (Ze NY.out hb);replace hDx2:=Za (hDx2.out.below hb);replace NX:=Za (Ze NX.out hb);replace hDz:=Za (hDz.out.below hb);replace hSz:=Za (hSz.out.below hb);have NZ:=Za (heap_alloc_new w7 (.cells #[.string z.fStroke,.int .i64 z.fStakes,.slice z.A z.n z.c,.slice z.A' z.n' z.c',.string z.fLog] 29));clear hb;obtain⟨a0,a1,a2,a3,a4,af⟩:=Zs NZ.out;obtain⟨b0,b1,b2,b3,b4,bf⟩:=Zs NY.out;go_wp2_with fail
 clear a0 a1 a2 a3 a4 af b0 b1 b2 b3 b4 bf;obtain⟨WNZ,hWNZ⟩:∃WNZ,WNZ=w7.alloc (.cells #[.string z.fStroke,.int .i64 z.fStakes,.slice z.A z.n z.c,.slice z.A' z.n' z.c',.string z.fLog] 29):=⟨_,rfl⟩;rw[←hWNZ] at hB NA hB1 NY hDx2 NX hDz hSz NZ ⊢;clear hWNZ;obtain⟨mNZ,hmNZ⟩:∃mNZ,mNZ=w7.heap.size:=⟨_,rfl⟩;rw[←hmNZ] at NZ ⊢;clear hmNZ;refine(Vo z y _ hDz.out.good (hYg.out.go hB1.out) (λ_ _=>trivial) (λ_ _=>trivial)).mono ?_;rw[VW hPz.out hPy.out];rintro e W' ⟨rfl,hb⟩;replace hB:=Za (Below.up hB.out hb);replace NA:=Za (Ze NA.out hb);replace hB1:=Za (Below.up hB1.out hb);replace NY:=Za (Ze NY.out hb);replace hDx2:=Za (hDx2.out.below hb);replace NX:=Za (Ze NX.out hb);replace hDz:=Za (hDz.out.below hb);replace hSz:=Za (hSz.out.below hb);replace NZ:=Za (Ze NZ.out hb);clear hb;go_wp2_with fail
 refine(UC Az Ay n cz n cy L L _ (by omega) (hSz.out.arr Zf) (hYs.out.go hB1.out)).mono ?_;rw[decide_eq_true (rfl:L=L)];rintro e W' ⟨rfl,hb⟩;replace hB:=Za (Below.up hB.out hb);replace NA:=Za (Ze NA.out hb);replace hB1:=Za (Below.up hB1.out hb);replace NY:=Za (Ze NY.out hb);replace hDx2:=Za (hDx2.out.below hb);replace NX:=Za (Ze NX.out hb);replace hDz:=Za (hDz.out.below hb);replace hSz:=Za (hSz.out.below hb);replace NZ:=Za (Ze NZ.out hb);clear hb;go_wp2_with fail
 have hdd:∀W:World,Below W.heap.size W W.drew:=λW=>Zb (Below.refl _ _) 1
 replace hB:=Za (Below.up hB.out (hdd _));replace NA:=Za (Ze NA.out (hdd _));replace hB1:=Za (Below.up hB1.out (hdd _));replace NY:=Za (Ze NY.out (hdd _));replace hDx2:=Za (hDx2.out.below (hdd _));replace NX:=Za (Ze NX.out (hdd _));replace hDz:=Za (hDz.out.below (hdd _));replace hSz:=Za (hSz.out.below (hdd _));replace NZ:=Za (Ze NZ.out (hdd _));clear hdd;have hP:Hid True:=Za trivial;obtain⟨a0,a1,a2,a3,a4,af⟩:=Zs NA.out;obtain⟨b0,b1,b2,b3,b4,bf⟩:=Zs NX.out;clear af bf;go_region_held3 (λw'=>w'.cell? ⟨w.heap.size,0,none⟩=some (.string x.fStroke)/\w'.cell? ⟨w.heap.size,1,none⟩=some (.int .i64 x.fStakes)/\w'.cell? ⟨w.heap.size,2,none⟩=some (.slice x.A x.n x.c)/\w'.cell? ⟨w.heap.size,3,none⟩=some (.slice x.A' x.n' x.c')/\w'.cell? ⟨w.heap.size,4,none⟩=some (.string x.fLog)/\w'.cell? ⟨mNX,0,none⟩=some (.string x2.fStroke)/\w'.cell? ⟨mNX,1,none⟩=some (.int .i64 x2.fStakes)/\w'.cell? ⟨mNX,2,none⟩=some (.slice x2.A x2.n x2.c)/\w'.cell? ⟨mNX,3,none⟩=some (.slice x2.A' x2.n' x2.c')/\w'.cell? ⟨mNX,4,none⟩=some (.string x2.fLog)) (first|go_keep|(obtain⟨q0,q1,q2,q3,q4,_⟩:=Zs NA.out;obtain⟨p0,p1,p2,p3,p4,_⟩:=Zs NX.out;exact⟨q0,q1,q2,q3,q4,p0,p1,p2,p3,p4⟩))
  (first|(go_at_call 15;refine(VS x _ (hXg.out.go hB.out)).mono ?_;rintro e w3 ⟨x3,rfl,hp3,hd3,hb⟩;replace hB:=Za (Below.up hB.out hb);replace NA:=Za (Ze NA.out hb);replace hB1:=Za (Below.up hB1.out hb);replace NY:=Za (Ze NY.out hb);replace hDx2:=Za (hDx2.out.below hb);replace NX:=Za (Ze NX.out hb);replace hDz:=Za (hDz.out.below hb);replace hSz:=Za (hSz.out.below hb);replace NZ:=Za (Ze NZ.out hb);replace hP:=Za (And.intro hp3 hd3);clear hb hp3 hd3)|(go_at_call 16;refine(Vo _ _ _ hDx2.out.good hP.out.2.good (λ_ _=>trivial) (λ_ _=>trivial)).mono ?_;rw[VW hPx2.out hP.out.1];rintro e w3 ⟨rfl,hb⟩;replace hB:=Za (Below.up hB.out hb);replace NA:=Za (Ze NA.out hb);replace hB1:=Za (Below.up hB1.out hb);replace NY:=Za (Ze NY.out hb);replace hDx2:=Za (hDx2.out.below hb);replace NX:=Za (Ze NX.out hb);replace hDz:=Za (hDz.out.below hb);replace hSz:=Za (hSz.out.below hb);replace NZ:=Za (Ze NZ.out hb);clear hb)|fail)
 clear hP a0 a1 a2 a3 a4 b0 b1 b2 b3 b4;obtain⟨a0,a1,a2,a3,a4,af⟩:=Zs NX.out;go_wp2_with fail
 clear a0 a1 a2 a3 a4 af;refine(UN x2 _ 1 _ (by omega) (by omega) hDx2.out).mono ?_;obtain⟨k1,hk1⟩:∃k1:Int,k1=1+2*(x2.n:Int)+3*(x2.n':Int):=⟨_,rfl⟩;have hk1n:¬k1<0:=by omega
 rw[←hk1];clear hk1;rintro e W' ⟨rfl,hm,_,_⟩;replace hB1:=Za (hm.below (hDx2.out.less hWb.out) hB1.out);replace hB:=Za (Below.up hBw.out hB1.out);replace NA:=Za (hm.row hDx2.out NA.out (by decide) (by decide));replace NY:=Za (hm.row hDx2.out NY.out (by decide) (by decide));replace NX:=Za (hm.row hDx2.out NX.out (by decide) (by decide));replace NZ:=Za (hm.row hDx2.out NZ.out (by decide) (by decide));replace hDz:=Za (show DV W' _ z from⟨hm.res hDz.out.k q0.out q1.out,hm.res hDz.out.h q2.out q3.out,hDz.out.nk,hDz.out.nh,hDz.out.fit⟩);replace hSz:=Za (hm.res hSz.out q4.out q5.out);clear hm q0 q1 q2 q3 q4 q5 hDx2;obtain⟨a0,a1,a2,a3,a4,af⟩:=Zs NZ.out;obtain⟨b0,b1,b2,b3,b4,bf⟩:=Zs NY.out;go_wp2_with fail
 clear a0 a1 a2 a3 a4 af b0 b1 b2 b3 b4 bf;refine(Vo z y _ hDz.out.good (hYg.out.go hB1.out) (λ_ _=>trivial) (λ_ _=>trivial)).mono ?_;rw[VW hPz.out hPy.out];rintro e W' ⟨rfl,hb⟩;replace hB:=Za (Below.up hB.out hb);replace NA:=Za (Ze NA.out hb);replace hB1:=Za (Below.up hB1.out hb);replace NY:=Za (Ze NY.out hb);replace hDz:=Za (hDz.out.below hb);replace hSz:=Za (hSz.out.below hb);replace NZ:=Za (Ze NZ.out hb);clear hb;go_wp2_with fail
 refine(UC Az Ay n cz n cy L L _ (by omega) (hSz.out.arr Zf) (hYs.out.go hB1.out)).mono ?_;rw[decide_eq_true (rfl:L=L)];rintro e W' ⟨rfl,hb⟩;replace hB:=Za (Below.up hB.out hb);replace NA:=Za (Ze NA.out hb);replace hB1:=Za (Below.up hB1.out hb);replace NY:=Za (Ze NY.out hb);replace hDz:=Za (hDz.out.below hb);replace hSz:=Za (hSz.out.below hb);replace NZ:=Za (Ze NZ.out hb);clear hb;obtain⟨a0,a1,a2,a3,a4,af⟩:=Zs NZ.out;go_wp2_with fail
 clear a0 a1 a2 a3 a4 af;have hnk:=hDz.out.nk;have hnh:=hDz.out.nh;refine(UN z _ 1 _ (by omega) (by omega) hDz.out).mono ?_;obtain⟨m1,hm1⟩:∃m1:Int,m1=1+2*(z.n:Int)+3*(z.n':Int):=⟨_,rfl⟩;have hm1n:¬m1<0:=by omega
 have hm1b:m1<=6000000:=by omega
 have hM1:=Za hm1;rw[←hm1];clear hm1;rintro e W' ⟨rfl,hm,hzk,hzh⟩;replace hB1:=Za (hm.below (hDz.out.less hWz.out) hB1.out);replace hB:=Za (Below.up hBw.out hB1.out);replace NA:=Za (hm.row hDz.out NA.out (by decide) (by decide));replace NY:=Za (hm.row hDz.out NY.out (by decide) (by decide));replace NZ:=Za (hm.row hDz.out NZ.out (by decide) (by decide));replace hSz:=Za (hm.res hSz.out (XW hSz.out hDz.out.k (by decide)) (XW hSz.out hDz.out.h (by decide)));have hZk:=Za hzk;have hZh:=Za hzh;clear hm hzk hzh hDz;go_wp2_with fail
 refine(QJ (.slice Az n cz) n _ L m1 _ (by omega) (by omega) (by omega) hSz.out).mono ?_;obtain⟨m2,hm2⟩:∃m2:Int,m2=m1+1*(n:Int):=⟨_,rfl⟩;have hm2n:¬m2<0:=by omega
 have hm2e:(m2 != m2)=false:=by simp
 have hM2:=Za hm2;rw[←hm2];clear hm2;rintro e W' ⟨rfl,hm,hzs⟩;replace hB1:=Za ((hSz.out.less hWz.out).markBelow hB1.out hm);replace hB:=Za (Below.up hBw.out hB1.out);replace NA:=Za (XD NA.out hSz.out hm (by decide));replace NY:=Za (XD NY.out hSz.out hm (by decide));replace NZ:=Za (XD NZ.out hSz.out hm (by decide));replace hZk:=Za (hZk.out.kept hm (XW hZk.out hSz.out (by decide)));replace hZh:=Za (hZh.out.kept hm (XW hZh.out hSz.out (by decide)));replace hSz:=Za hzs;clear hm hzs;obtain⟨a0,a1,a2,a3,a4,af⟩:=Zs NZ.out;go_wp2_with fail
 clear a0 a1 a2 a3 a4 af;refine(UV z 1 _ (by omega) (by omega) hnk hnh (hZk.out.arr Kind.len) (hZh.out.arr Heap.len)).mono ?_;rw[←hM1.out];rintro e W' ⟨rfl,hb⟩;replace hB:=Za (Below.up hB.out hb);replace NA:=Za (Ze NA.out hb);replace hB1:=Za (Below.up hB1.out hb);replace NY:=Za (Ze NY.out hb);replace hSz:=Za (hSz.out.below hb);replace NZ:=Za (Ze NZ.out hb);replace hZk:=Za (hZk.out.below hb);replace hZh:=Za (hZh.out.below hb);clear hb;go_wp2_with fail
 refine(WX Az n cz m1 _ (by omega) (by omega) (by omega) (hSz.out.arr Zf)).mono ?_;rw[←hM2.out];rintro e W' ⟨rfl,hb⟩;replace hB:=Za (Below.up hB.out hb);replace NA:=Za (Ze NA.out hb);replace hB1:=Za (Below.up hB1.out hb);replace NY:=Za (Ze NY.out hb);replace hSz:=Za (hSz.out.below hb);replace NZ:=Za (Ze NZ.out hb);replace hZk:=Za (hZk.out.below hb);replace hZh:=Za (hZh.out.below hb);clear hb;obtain⟨a0,a1,a2,a3,a4,af⟩:=Zs NA.out;go_wp2_with fail
 clear a0 a1 a2 a3 a4 af;refine(VS x _ (hXg.out.go hB.out)).mono ?_;rintro e w12 ⟨x4,rfl,hpx4,hd,hb⟩;replace hB:=Za (Below.up hB.out hb);replace NA:=Za (Ze NA.out hb);replace hB1:=Za (Below.up hB1.out hb);replace NY:=Za (Ze NY.out hb);replace hSz:=Za (hSz.out.below hb);replace NZ:=Za (Ze NZ.out hb);replace hZk:=Za (hZk.out.below hb);replace hZh:=Za (hZh.out.below hb);have hDx4:=Za hd;have hPx4:=Za hpx4;clear hb hd hpx4;go_wp2_with fail
 refine(Zg8 x x4 s _ (hGh.out.below hB.out) hDx4.out.good hPx4.out hs0 hls D L cd hR.out).mono ?_;rintro e w13 ⟨u,Au,cu,rfl,hpu,hd,hv,hb⟩;rw[←hN.out] at hv ⊢;replace hB:=Za (Below.up hB.out hb);replace NA:=Za (Ze NA.out hb);replace hB1:=Za (Below.up hB1.out hb);replace NY:=Za (Ze NY.out hb);replace hSz:=Za (hSz.out.below hb);replace NZ:=Za (Ze NZ.out hb);replace hZk:=Za (hZk.out.below hb);replace hZh:=Za (hZh.out.below hb);have hDu:=Za hd;have hPu:=Za hpu;have hSu:=Za hv;clear hb hd hv hpu;clear hDx4 hPx4;have hb:Below w13.heap.size w13 (w13.alloc (.cells #[.string u.fStroke,.int .i64 u.fStakes,.slice u.A u.n u.c,.slice u.A' u.n' u.c',.string u.fLog] 29)):=(Below.refl _ _).alloc (Nat.le_refl _) _;replace hB:=Za (Below.up hB.out hb);replace NA:=Za (Ze NA.out hb);replace hB1:=Za (Below.up hB1.out hb);replace NY:=Za (Ze NY.out hb);replace hSz:=Za (hSz.out.below hb);replace NZ:=Za (Ze NZ.out hb);replace hZk:=Za (hZk.out.below hb);replace hZh:=Za (hZh.out.below hb);replace hDu:=Za (hDu.out.below hb);replace hSu:=Za (hSu.out.below hb);have NH:=Za (heap_alloc_new w13 (.cells #[.string u.fStroke,.int .i64 u.fStakes,.slice u.A u.n u.c,.slice u.A' u.n' u.c',.string u.fLog] 29));clear hb;obtain⟨a0,a1,a2,a3,a4,af⟩:=Zs NH.out;obtain⟨b0,b1,b2,b3,b4,bf⟩:=Zs NY.out;go_wp2_with fail
 clear a0 a1 a2 a3 a4 af b0 b1 b2 b3 b4 bf;obtain⟨WNH,hWNH⟩:∃WNH,WNH=w13.alloc (.cells #[.string u.fStroke,.int .i64 u.fStakes,.slice u.A u.n u.c,.slice u.A' u.n' u.c',.string u.fLog] 29):=⟨_,rfl⟩;rw[←hWNH] at hB NA hB1 NY hSz NZ hZk hZh hDu hSu NH ⊢;clear hWNH;obtain⟨mNH,hmNH⟩:∃mNH,mNH=w13.heap.size:=⟨_,rfl⟩;rw[←hmNH] at NH ⊢;clear hmNH;refine(Vo u y _ hDu.out.good (hYg.out.go hB1.out) (λ_ _=>trivial) (λ_ _=>trivial)).mono ?_;rw[VW hPu.out hPy.out];rintro e W' ⟨rfl,hb⟩;replace hB:=Za (Below.up hB.out hb);replace NA:=Za (Ze NA.out hb);replace hB1:=Za (Below.up hB1.out hb);replace NY:=Za (Ze NY.out hb);replace hSz:=Za (hSz.out.below hb);replace NZ:=Za (Ze NZ.out hb);replace hZk:=Za (hZk.out.below hb);replace hZh:=Za (hZh.out.below hb);replace hDu:=Za (hDu.out.below hb);replace hSu:=Za (hSu.out.below hb);replace NH:=Za (Ze NH.out hb);clear hb;go_wp2_with fail
 refine(UC Au Ay n cu n cy L L _ (by omega) (hSu.out.arr Zf) (hYs.out.go hB1.out)).mono ?_;rw[decide_eq_true (rfl:L=L)];rintro e W' ⟨rfl,hb⟩;replace hB:=Za (Below.up hB.out hb);replace NA:=Za (Ze NA.out hb);replace hB1:=Za (Below.up hB1.out hb);replace NY:=Za (Ze NY.out hb);replace hSz:=Za (hSz.out.below hb);replace NZ:=Za (Ze NZ.out hb);replace hZk:=Za (hZk.out.below hb);replace hZh:=Za (hZh.out.below hb);replace hDu:=Za (hDu.out.below hb);replace hSu:=Za (hSu.out.below hb);replace NH:=Za (Ze NH.out hb);clear hb;obtain⟨a0,a1,a2,a3,a4,af⟩:=Zs NZ.out;go_wp2_with fail
 clear a0 a1 a2 a3 a4 af;refine(UV z 1 _ (by omega) (by omega) hnk hnh (hZk.out.arr Kind.len) (hZh.out.arr Heap.len)).mono ?_;rw[←hM1.out];rintro e W' ⟨rfl,hb⟩;replace hB:=Za (Below.up hB.out hb);replace NA:=Za (Ze NA.out hb);replace hB1:=Za (Below.up hB1.out hb);replace NY:=Za (Ze NY.out hb);replace hSz:=Za (hSz.out.below hb);replace NZ:=Za (Ze NZ.out hb);replace hZk:=Za (hZk.out.below hb);replace hZh:=Za (hZh.out.below hb);replace hDu:=Za (hDu.out.below hb);replace hSu:=Za (hSu.out.below hb);replace NH:=Za (Ze NH.out hb);clear hb;go_wp2_with fail
 refine(WX Az n cz m1 _ (by omega) (by omega) (by omega) (hSz.out.arr Zf)).mono ?_;rw[←hM2.out];rintro e W' ⟨rfl,hb⟩;replace hB:=Za (Below.up hB.out hb);replace NA:=Za (Ze NA.out hb);replace hB1:=Za (Below.up hB1.out hb);replace NY:=Za (Ze NY.out hb);replace hSz:=Za (hSz.out.below hb);replace NZ:=Za (Ze NZ.out hb);replace hZk:=Za (hZk.out.below hb);replace hZh:=Za (hZh.out.below hb);replace hDu:=Za (hDu.out.below hb);replace hSu:=Za (hSu.out.below hb);replace NH:=Za (Ze NH.out hb);clear hb;go_wp2
 go_ret;exact⟨rfl,hB.out⟩
end Go.Proofs.YtfpaejlipaainaaGreatDoor
