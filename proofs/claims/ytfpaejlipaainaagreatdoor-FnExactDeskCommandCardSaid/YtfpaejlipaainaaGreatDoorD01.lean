/- Texts that belong together, joined: contracts and plain laws. No statement is proved here. -/
import Derived.Test.YtfpaejlipaainaaGreatDoorM14
set_option maxRecDepth 100000
set_option maxHeartbeats 400000
namespace Go.Proofs.YtfpaejlipaainaaGreatDoor
open Go.ChangeShapes Go.WideShapes Go.ChangeAt Go.RowKit Go.Deep
section
variable {α:Type}{cells:α→List Value}{s:Nat}{w w':World}{B B':Nat}{A:Option Addr}{n:Nat}{l:List α}
theorem Arr.of_cells {Q:α→Prop}{b o:Nat}(hB:0<n→b<B)(h:∀i,i<n→∃x:α,Q x/\∀j u,(cells x)[j]?=some u→w.cell? ⟨b,o+i*s+j,none⟩=some u) :
  ∃l:List α,(∀x∈l,Q x)/\Arr cells s w B (some ⟨b,o,none⟩) n l:=by
 rcases Nat.eq_zero_or_pos n with rfl|hn
 ·exact⟨[],by simp,Arr.nil_ _⟩
 obtain⟨x0,_⟩:=h 0 hn;have:Inhabited α:=⟨x0⟩
 let f:Nat→α:=λi=>if hi:i<n then Classical.choose (h i hi) else default
 have hf:∀i (hi:i<n),Q (f i)/\∀j u,(cells (f i))[j]?=some u→w.cell? ⟨b,o+i*s+j,none⟩=some u:=λi hi=>by
  have:=Classical.choose_spec (h i hi);simpa[f,hi] using this
 refine⟨(List.range n).map f,?_,by simp,λ_=>⟨b,o,rfl,hB hn,?_⟩⟩
 ·intro x hx
  obtain⟨i,hi,rfl⟩:=List.mem_map.1 hx;exact(hf i (List.mem_range.1 hi)).1
 ·intro i x hx
  rw[List.getElem?_map] at hx;rcases Nat.lt_or_ge i n with hi|hi
  ·rw[List.getElem?_range hi] at hx
   obtain rfl:f i=x:=by simpa using hx
   exact(hf i hi).2
  ·rw[List.getElem?_eq_none (by simpa using hi)] at hx
   cases hx
end
section
variable {α:Type}{cells:α→List Value}{e s:Nat}{w w':World}{base B:Nat}{v:Value}{n:Nat}{l:List α}
end
theorem Zbd {w:World}{a:Addr}{v:Value}(h:w.cell? a=some v):a=⟨a.block,a.off,none⟩:=by
 obtain⟨b,o,sp⟩:=a;cases sp with
 | none=>rfl
 | some x =>
  unfold World.cell? at h;split at h<;>simp_all
section
variable {w:World}{B:Nat}{A:Option Addr}{n:Nat}
end
section
variable {H:Type}{enc:TypeId × Value→H}{P:Program}{W:World}{r:Reach}{b0:Nat}{sp:Nat→Bool}{held:Bool}{t e:TypeId}{v:Value}{d:DataW H}{ps:List MemPlace}
theorem Jc {fs:Array Field}{n:Nat}{cs:List Value}{x:DataW H × List MemPlace}(hone:oneCellFields P fs=true)(ht:P.underlying t=some (.struct fs))(h:DataW.trod enc P W 0 sp held n t cs=some x) :
  cs.length=P.cellsOf t/\∀(j:Nat) (f:Field),fs[j]?=some f→∀u,cs[j]?=some u→∃m y,DataW.trod enc P W 0 sp held m f.type [u]=some y:=by
 obtain⟨ys,m,_,_,hlen,hyl,hg⟩:=DataW.trod_struct ht h;refine⟨hlen,λj f hf u hu=>?_⟩;obtain⟨ho,hk⟩:=hone_of hone j f hf;have h1:=hg j f hf;rw[ho,hk] at h1;have hjl:=Zq hu;have hone':(cs.drop j).take 1=[u]:=by
  rw[List.drop_eq_getElem_cons hjl];rw[List.getElem?_eq_getElem hjl] at hu;obtain rfl:=Option.some.inj hu;rfl
 rw[hone'] at h1;have hjy:j<ys.length:=by rw[hyl];exact(Array.getElem?_eq_some_iff.1 hf).1
 exact⟨m,ys[j],by rw[h1,List.getElem?_eq_getElem hjy]⟩
end
theorem Own.asSet {α:Type}{cells:α→List Value}{e s:Nat}{w:World}{base:Nat}{v:Value}{n:Nat}{l:List α}(h:Own cells e s w base v n l){m:Nat}{x:α}(hx:l[m]?=some x):Own cells e s w base v n (l.set m x):=by
 obtain⟨hm,rfl⟩:=List.getElem?_eq_some_iff.1 hx;rw[List.set_getElem_self];exact h
theorem Own.cellS {α:Type}{cells:α→List Value}{e s:Nat}{w:World}{base g c:Nat}{n:Nat}{l:List α}{m j:Nat}{x:α}{u:Value}(h:Own cells e s w base (.slice (some ⟨g,0,none⟩) n c) n (l.set m x))
  (hs:∀x,(cells x).length=s) (hm:m<l.length) (hj:j<s) (x':α) (hu:cells x'=(cells x).set j u):Own cells e s (w.setCell ⟨g,m*s+j,none⟩ u) base (.slice (some ⟨g,0,none⟩) n c) n (l.set m x'):=by
 have:=h.cell (k:=m) (j:=j) (x:=x) (x':=x') hs (List.getElem?_set_self hm) hj hu
 rwa [List.set_set] at this
section
variable {α β:Type}{cells:α→List Value}{cells':β→List Value}{e s e' s':Nat}{a w w':World}{base base' B:Nat}{v v':Value}{n n':Nat}{l:List α}{l':List β}
theorem Res.markBelow (h:Res cells e s w a.heap.size v n l)(hb:Below a.heap.size a w)(hm:UY w w' v n):Below a.heap.size a w':=by
 rcases Nat.eq_zero_or_pos n with h0|h0
 ·rw[←hm.1 h0];exact hb
 ·exact hb.grown (hm.2 h0) hb.size (λk hk=>((h.2.2 h0).2.lt k hk).1)
end
def szv (x:Int):Int:=if x<0 then -1 else x
theorem Xt {x:Int}(h:x<0):szv x = -1:=if_pos h
theorem WJ {x:Int}(h:0<=x):szv x=x:=if_neg (by omega)
theorem Kind.same_true {x y:Kind}:x.same y=true↔x=y:=by simp[Kind.same]
theorem Kind.same_false {x y:Kind}:x.same y=false↔¬x=y:=by simp[Kind.same]
theorem Own.Kind_at {e:TypeId}{w:World}{base g n c:Nat}{l:List Kind}(h:Own Kind.cells e 2 w base (.slice (some ⟨g,0,none⟩) n c) n l){k:Nat}(hk:k<n) :
  ∃x,l[k]?=some x/\w.cell? ⟨g,k*2,none⟩=some (.int .i64 x.fReach)/\w.cell? ⟨g,k*2+1,none⟩=some (.int .i64 x.fHave)/\w.frozen? ⟨g,k*2,none⟩=false/\w.frozen? ⟨g,k*2+1,none⟩=false:=by
 obtain⟨b,o,x,hA,_,hx,c0,c1⟩:=(h.arr Kind.len).Kind hk;injection hA with hA;injection hA with h1 h2;subst h1 h2
 simp only[Nat.zero_add] at c0 c1;exact⟨x,hx,c0,c1,h.2.frozenAt _,h.2.frozenAt _⟩
theorem Own.Kind_store {e:TypeId}{w:World}{base g n c:Nat}{l:List Kind}(h:Own Kind.cells e 2 w base (.slice (some ⟨g,0,none⟩) n c) n l){k:Nat}(hk:k<n)(y0:Int)(y1:Int) :
  Own Kind.cells e 2 ((w.setCell ⟨g,k*2,none⟩ (.int .i64 y0)).setCell ⟨g,k*2+1,none⟩ (.int .i64 y1)) base (.slice (some ⟨g,0,none⟩) n c) n (l.set k ⟨y0,y1⟩):=by
 have hkl:k<l.length:=by rw[h.len];exact hk
 have e0:l[k]?=some l[k]:=List.getElem?_eq_getElem hkl;generalize l[k]=x at e0
 have h0:=h.cell (x:=x) (x':=(⟨y0,x.fHave⟩:Kind)) (k:=k) (j:=0) Kind.len e0 (by omega) rfl;have e1:(l.set k (⟨y0,x.fHave⟩:Kind))[k]?=some (⟨y0,x.fHave⟩:Kind):=List.getElem?_set_self hkl;have h1:=h0.cell (x:=(⟨y0,x.fHave⟩:Kind)) (x':=(⟨y0,y1⟩:Kind)) (k:=k) (j:=1) Kind.len e1 (by omega) rfl;have e2:(l.set k (⟨y0,y1⟩:Kind))[k]?=some (⟨y0,y1⟩:Kind):=List.getElem?_set_self hkl;rw[List.set_set] at h1;exact h1
theorem Zea (a0:Int)(a1:Int)(w:World) :
  Calls Tryz.prog 107 #[.agg #[.int .i64 a0,.int .i64 a1]] w λe w'=>e = .returned (.agg #[.int .i64 a0,.int .i64 a1])/\Below w.heap.size w w':=by
 go_enter Tryz.func107,Tryz.ntmps107;go_wp2
 exact bodyPost_ret (v:=.agg #[.int .i64 a0,.int .i64 a1]) (by simp[results,Tryz.results107,go_sem]) rfl ⟨rfl,by go_grown⟩
theorem Zb7 (A:Option Addr)(n c:Nat)(l:List Kind)(w:World)(hn:n<=1048576)(hr:Arr Kind.cells 2 w w.heap.size A n l) :
  Calls Tryz.prog 44 #[.slice A n c] w λe w'=>e = .returned (.slice (some ⟨w.heap.size,0,none⟩) n n)/\Own Kind.cells 103 2 w' w.heap.size (.slice (some ⟨w.heap.size,0,none⟩) n n) n l/\Below w.heap.size w w':=by
 obtain⟨i0,hi0,hz0,hz1,hz2⟩:=info_parts ZbK;have hmk:=λW=>Y8 (P:=Tryz.prog) 26 103 i0 _ Tryz.underlying26 hi0 hz0 .i64 .i64 n n (Nat.le_refl _) (by rw[hz2];omega) (by omega) W
 rw[hz1] at hmk;obtain⟨cur,hcur⟩:∃cur,cur=madeCells (Value.agg #[.int .i64 0,.int .i64 0]).cells (n*2):=⟨_,rfl⟩;rw[←hcur] at hmk;have hcl:cur.toList=(List.replicate n (⟨0,0⟩:Kind)).flatMap Kind.cells:=by rw[hcur];exact WP Kind.len (by omega) #[.int .i64 0,.int .i64 0] ⟨0,0⟩ rfl n
 clear hcur;have hmade:Own Kind.cells 103 2 (w.alloc (.cells cur 103)) w.heap.size (.slice (some ⟨w.heap.size,0,none⟩) n n) n (List.replicate n (⟨0,0⟩:Kind)) :=
  Own.made w (Nat.le_refl _) (by unfold maxLen;omega) _ Kind.len cur hcl
 clear hcl;have hlen:=Za hr.len;go_enter Tryz.func44,Tryz.ntmps44;go_wp2
 go_loopw [4] (λi wr=>∃k:Nat,k<=n/\i = .int .i64 k/\Below w.heap.size w wr/\w.heap.size<wr.heap.size/\Own Kind.cells 103 2 wr w.heap.size (.slice (some ⟨w.heap.size,0,none⟩) n n) n (l.take k++List.replicate (n-k) ⟨0,0⟩)) (λi _=>n-(intOf i).toNat)
 case atStart=>exact⟨0,Nat.zero_le _,rfl,by go_grown,by simp,by simpa using hmade⟩
 case round =>
  obtain⟨k,hk,rfl,hb,hsz,hown⟩:=hrel;clear hmade;by_cases hlt:k<n
  ·obtain⟨b,o,x,rfl,hbl,hx,c0,c1⟩:=hr.Kind hlt
   have d0:wr.cell? ⟨b,o+k*2,none⟩=some (.int .i64 x.fReach):=(hb.cell (p:=⟨b,o+k*2,none⟩) hbl).trans c0;have d1:wr.cell? ⟨b,o+k*2+1,none⟩=some (.int .i64 x.fHave):=(hb.cell (p:=⟨b,o+k*2+1,none⟩) hbl).trans c1;clear c0 c1 hr;have hB:=Za hb;clear hb;have hcap:(k:Int)<n:=by omega
   have hO:=Za hown;clear hown;go_wp2_with (go_at_call 107;refine(Zea _ _ _).mono ?_;rintro e w1 ⟨rfl,hb1⟩;have hB1:=Za hb1;have hO1:=Za (hO.out.below hb1);have hsz1:w.heap.size<w1.heap.size:=Nat.lt_of_lt_of_le hsz hb1.size;obtain⟨x1,hx1,f0,f1,z0,z1⟩:=hO1.out.Kind_at hlt;have HX1:=Za hx1;clear hx1 hb1)
   all_goals go_roundw
   case rel=>exact⟨k+1,by omega,by go_num,(((hB.out.trans (hB1.out.mono (Nat.le_of_lt hsz))).setCell (Nat.le_refl _) _).setCell (Nat.le_refl _) _),by simp only[World.size_setCell];exact hsz1,by have:=hO1.out.Kind_store hlt x.fReach x.fHave;rw[ZaM hlen.out hx] at this;exact this⟩
   case measure=>simp[intOf];omega
  ·have hkn:k=n:=by omega
   go_wp2
   go_ret;exact⟨rfl,by have:=hown;rw[hkn,Nat.sub_self,List.replicate_zero,List.append_nil,List.take_of_length_le (by rw[hlen.out];exact Nat.le_refl _)] at this;exact this,hb⟩
theorem Kind.wt_nonneg (x:Kind):0<=x.wt:=by unfold Kind.wt;omega
theorem Kind.pre_nonneg (l:List Kind):0<=Kind.pre l:=by
 unfold Kind.pre
 induction l with
 | nil=>simp
 | cons a l ih=>have:=a.wt_nonneg;simp only[List.map_cons,List.sum_cons];omega
theorem Kind.pre_snoc {l:List Kind}{k:Nat}{x:Kind}(h:l[k]?=some x):Kind.pre (l.take (k+1))=Kind.pre (l.take k)+x.wt:=by
 unfold Kind.pre;rw[Zo h];simp
theorem Kind.pre_le (l:List Kind)(k:Nat):Kind.pre (l.take k)<=Kind.pre l:=by
 have h:=Kind.pre_nonneg (l.drop k);have:Kind.pre l=Kind.pre (l.take k)+Kind.pre (l.drop k):=by unfold Kind.pre;rw[←List.sum_append,←List.map_append,List.take_append_drop]
 omega
theorem Kind.pre_zero (l:List Kind):Kind.pre l=0:=by unfold Kind.pre;induction l with|nil=>rfl|cons a l ih=>simp only[List.map_cons,List.sum_cons,ih];rfl
theorem Zb9 (A:Option Addr)(n c:Nat)(l:List Kind)(r:Int)(w:World)(hn:n<=maxLen)(h0:0<=r)(h1:r<=1048576)(hr:Arr Kind.cells 2 w w.heap.size A n l)(_:∀x∈l,x.fits) :
  Calls Tryz.prog 40 #[.slice A n c,.int .i64 r] w λe w'=>e = .returned (.int .i64 (szv (r-Kind.tot l)))/\Below w.heap.size w w':=by
 have ht:Kind.tot l=n:=by unfold Kind.tot;rw[Kind.pre_zero,hr.len];omega
 rw[ht];clear ht hr;unfold maxLen at hn;by_cases h:r-n<0
 ·rw[Xt (by omega)]
  go_enter Tryz.func40,Tryz.ntmps40;go_wp2
  go_ret;exact⟨rfl,Below.refl _ _⟩
 ·rw[WJ (by omega)]
  go_enter Tryz.func40,Tryz.ntmps40;go_wp2
  go_ret;exact⟨rfl,Below.refl _ _⟩
theorem ZaN (a0:Int)(a1:Int)(b0:Int)(b1:Int)(w:World) :
  Calls Tryz.prog 109 #[.agg #[.int .i64 a0,.int .i64 a1],.agg #[.int .i64 b0,.int .i64 b1]] w λe w'=>e = .returned (.bool (Kind.same (⟨a0,a1⟩:Kind) (⟨b0,b1⟩:Kind)))/\Below w.heap.size w w':=by
 by_cases h:(⟨a0,a1⟩:Kind)=(⟨b0,b1⟩:Kind)
 ·injection h with h0 h1
  subst h0 h1;rw[Kind.same_true.2 rfl];go_enter Tryz.func109,Tryz.ntmps109;go_wp2
  go_ret;exact⟨rfl,by go_grown⟩
 ·rw[Kind.same_false.2 h]
  by_cases g0:a0=b0
  ·subst g0
   by_cases g1:a1=b1
   ·subst g1
    exact absurd rfl h
   ·clear h
    have e1:(a1 != b1)=true:=by simp[g1]
    clear g1;go_enter Tryz.func109,Tryz.ntmps109;go_wp2
    go_ret;exact⟨rfl,by go_grown⟩
  ·clear h
   have e1:(a0 != b0)=true:=by simp[g0]
   clear g0;go_enter Tryz.func109,Tryz.ntmps109;go_wp2
   go_ret;exact⟨rfl,by go_grown⟩
theorem J2 (x y:Kind)(w:World):Calls Tryz.prog 109 #[.agg #[.int .i64 x.fReach,.int .i64 x.fHave],.agg #[.int .i64 y.fReach,.int .i64 y.fHave]] w λe w'=>e = .returned (.bool (x.same y))/\Below w.heap.size w w':=ZaN _ _ _ _ w
theorem VK (A A':Option Addr)(n c n' c':Nat)(l l':List Kind)(w:World)(hn:n<=1048576)(hr:Arr Kind.cells 2 w w.heap.size A n l)(hr':Arr Kind.cells 2 w w.heap.size A' n' l') :
  Calls Tryz.prog 46 #[.slice A n c,.slice A' n' c'] w λe w'=>e = .returned (.bool (decide (l=l')))/\Below w.heap.size w w':=by
 have hl:=Za hr.len;have hl':=Za hr'.len;by_cases hne:n=n'
 ·subst hne
  have hpost:Hid (l=l'↔l.take n=l'.take n):=by
   have h1:=hl.out;have h2:=hl'.out;show _↔_
   rw[List.take_of_length_le (by omega),List.take_of_length_le (by omega)]
  go_enter Tryz.func46,Tryz.ntmps46;go_wp2
  go_loopw [5] (λi wr=>∃k:Nat,k<=n/\i = .int .i64 k/\Below w.heap.size w wr/\Hid (l.take k=l'.take k)) (λi _=>n-(intOf i).toNat)
  case atStart=>exact⟨0,Nat.zero_le _,rfl,Below.refl _ _,Za (by simp)⟩
  case round =>
   obtain⟨k,hk,rfl,hb,hpre⟩:=hrel;by_cases hlt:k<n
   ·obtain⟨b,o,x,rfl,hbl,hx,c0,c1⟩:=hr.Kind hlt
    obtain⟨b',o',y,rfl,hbl',hy,f0,f1⟩:=hr'.Kind hlt;have d0:wr.cell? ⟨b,o+k*2,none⟩=some (.int .i64 x.fReach):=(hb.cell (p:=⟨b,o+k*2,none⟩) hbl).trans c0;have g0:wr.cell? ⟨b',o' + k*2,none⟩=some (.int .i64 y.fReach):=(hb.cell (p:=⟨b',o' + k*2,none⟩) hbl').trans f0;have d1:wr.cell? ⟨b,o+k*2+1,none⟩=some (.int .i64 x.fHave):=(hb.cell (p:=⟨b,o+k*2+1,none⟩) hbl).trans c1;have g1:wr.cell? ⟨b',o' + k*2+1,none⟩=some (.int .i64 y.fHave):=(hb.cell (p:=⟨b',o' + k*2+1,none⟩) hbl').trans f1;have hX:=Za hx;have hY:=Za hy;have hB:=Za hb;clear c0 f0 c1 f1 hr hr' hx hy hb;have hlt':(k:Int)<(n:Int):=by omega
    have hk0:(0:Int)<=(k:Int):=by omega
    go_wp2_with fail
    go_still_tail 8,(by kernel_rfl)
    change wpList _ _ _ _ _ wr.drew;have hB2:=Za (Below.drew hB.out);cases hxy:x.same y
    ·go_wp2_with (go_at_call 109;refine(J2 x y _).mono ?_;rintro e w1 ⟨rfl,hb1⟩;have hB1:=Za (hB2.out.trans (hb1.mono hB2.out.size));clear hb1)
     go_ret;refine⟨ZW (Eq.symm (decide_eq_false λhe=>?_)),hB1.out⟩;subst he;rw[hX.out] at hY;have:=Option.some.inj hY.out;subst this;exact Kind.same_false.1 hxy rfl
    ·go_wp2_with (go_at_call 109;refine(J2 x y _).mono ?_;rintro e w1 ⟨rfl,hb1⟩;have hB1:=Za (hB2.out.trans (hb1.mono hB2.out.size));clear hb1)
     go_roundw
     case rel=>exact⟨k+1,by omega,by go_num,hB1.out,Za (by rw[Zo hX.out,Zo hY.out,hpre.out,Kind.same_true.1 hxy])⟩
     case measure=>simp[intOf];omega
   ·have hkn:k=n:=by omega
    subst hkn;have hB:=Za hb;clear hb;go_wp2
    go_ret;exact⟨ZW (Eq.symm (decide_eq_true (hpost.out.2 hpre.out))),hB.out⟩
 ·have e1:((n:Int) != (n':Int))=true:=by simp;omega
  have hd:Hid (decide (l=l')=false):=decide_eq_false λhe=>hne (by rw[←hl.out,←hl'.out,he])
  clear hne;go_enter Tryz.func46,Tryz.ntmps46;go_wp2
  go_ret;exact⟨ZW hd.out.symm,Below.refl _ _⟩
theorem Entry.same_true {x y:Entry}:x.same y=true↔x=y:=by simp[Entry.same]
theorem Entry.same_false {x y:Entry}:x.same y=false↔¬x=y:=by simp[Entry.same]
theorem Entry.wt_nonneg (x:Entry):0<=x.wt:=by unfold Entry.wt;omega
theorem Entry.pre_nonneg (l:List Entry):0<=Entry.pre l:=by
 unfold Entry.pre
 induction l with
 | nil=>simp
 | cons a l ih=>have:=a.wt_nonneg;simp only[List.map_cons,List.sum_cons];omega
theorem Entry.pre_snoc {l:List Entry}{k:Nat}{x:Entry}(h:l[k]?=some x):Entry.pre (l.take (k+1))=Entry.pre (l.take k)+x.wt:=by
 unfold Entry.pre;rw[Zo h];simp
theorem Entry.pre_le (l:List Entry)(k:Nat):Entry.pre (l.take k)<=Entry.pre l:=by
 have h:=Entry.pre_nonneg (l.drop k);have:Entry.pre l=Entry.pre (l.take k)+Entry.pre (l.drop k):=by unfold Entry.pre;rw[←List.sum_append,←List.map_append,List.take_append_drop]
 omega
theorem Heap.same_true {x y:Heap}:x.same y=true↔x=y:=by simp[Heap.same]
theorem Heap.same_false {x y:Heap}:x.same y=false↔¬x=y:=by simp[Heap.same]
theorem Own.Heap_store {e:TypeId}{w:World}{base g n c:Nat}{l:List Heap}(h:Own Heap.cells e 3 w base (.slice (some ⟨g,0,none⟩) n c) n l){k:Nat}(hk:k<n)(y0:ByteArray)(y1:Int)(y2:Int) :
  Own Heap.cells e 3 (((w.setCell ⟨g,k*3,none⟩ (.string y0)).setCell ⟨g,k*3+1,none⟩ (.int .i64 y1)).setCell ⟨g,k*3+2,none⟩ (.int .i64 y2)) base (.slice (some ⟨g,0,none⟩) n c) n (l.set k ⟨y0,y1,y2⟩):=by
 have hkl:k<l.length:=by rw[h.len];exact hk
 have e0:l[k]?=some l[k]:=List.getElem?_eq_getElem hkl;generalize l[k]=x at e0
 have h0:=h.cell (x:=x) (x':=(⟨y0,x.fYear,x.fBundles⟩:Heap)) (k:=k) (j:=0) Heap.len e0 (by omega) rfl;have e1:(l.set k (⟨y0,x.fYear,x.fBundles⟩:Heap))[k]?=some (⟨y0,x.fYear,x.fBundles⟩:Heap):=List.getElem?_set_self hkl;have h1:=h0.cell (x:=(⟨y0,x.fYear,x.fBundles⟩:Heap)) (x':=(⟨y0,y1,x.fBundles⟩:Heap)) (k:=k) (j:=1) Heap.len e1 (by omega) rfl;have e2:(l.set k (⟨y0,y1,x.fBundles⟩:Heap))[k]?=some (⟨y0,y1,x.fBundles⟩:Heap):=List.getElem?_set_self hkl;rw[List.set_set] at h1;have h2:=h1.cell (x:=(⟨y0,y1,x.fBundles⟩:Heap)) (x':=(⟨y0,y1,y2⟩:Heap)) (k:=k) (j:=2) Heap.len e2 (by omega) rfl;have e3:(l.set k (⟨y0,y1,y2⟩:Heap))[k]?=some (⟨y0,y1,y2⟩:Heap):=List.getElem?_set_self hkl;rw[List.set_set] at h2;exact h2
theorem Zeb (a0:ByteArray)(a1:Int)(a2:Int)(w:World) :
  Calls Tryz.prog 108 #[.agg #[.string a0,.int .i64 a1,.int .i64 a2]] w λe w'=>e = .returned (.agg #[.string a0,.int .i64 a1,.int .i64 a2])/\Below w.heap.size w w':=by
 go_enter Tryz.func108,Tryz.ntmps108;go_wp2
 exact bodyPost_ret (v:=.agg #[.string a0,.int .i64 a1,.int .i64 a2]) (by simp[results,Tryz.results108,go_sem]) rfl ⟨rfl,by go_grown⟩
theorem ZgW:(Tryz.prog.info? 106).map (λi=>(i.zero,i.size,i.bytes))=some (some (.agg #[.string ByteArray.empty,.int .i64 0,.int .i64 0]),3,32):=by kernel_rfl
theorem Zb8 (A:Option Addr)(n c:Nat)(l:List Heap)(w:World)(hn:n<=1048576)(hr:Arr Heap.cells 3 w w.heap.size A n l) :
  Calls Tryz.prog 45 #[.slice A n c] w λe w'=>e = .returned (.slice (some ⟨w.heap.size,0,none⟩) n n)/\Own Heap.cells 106 3 w' w.heap.size (.slice (some ⟨w.heap.size,0,none⟩) n n) n l/\Below w.heap.size w w':=by
 obtain⟨i0,hi0,hz0,hz1,hz2⟩:=info_parts ZgW;have hmk:=λW=>Y8 (P:=Tryz.prog) 27 106 i0 _ Tryz.underlying27 hi0 hz0 .i64 .i64 n n (Nat.le_refl _) (by rw[hz2];omega) (by omega) W
 rw[hz1] at hmk;obtain⟨cur,hcur⟩:∃cur,cur=madeCells (Value.agg #[.string ByteArray.empty,.int .i64 0,.int .i64 0]).cells (n*3):=⟨_,rfl⟩;rw[←hcur] at hmk;have hcl:cur.toList=(List.replicate n (⟨ByteArray.empty,0,0⟩:Heap)).flatMap Heap.cells:=by rw[hcur];exact WP Heap.len (by omega) #[.string ByteArray.empty,.int .i64 0,.int .i64 0] ⟨ByteArray.empty,0,0⟩ rfl n
 clear hcur;have hmade:Own Heap.cells 106 3 (w.alloc (.cells cur 106)) w.heap.size (.slice (some ⟨w.heap.size,0,none⟩) n n) n (List.replicate n (⟨ByteArray.empty,0,0⟩:Heap)) :=
  Own.made w (Nat.le_refl _) (by unfold maxLen;omega) _ Heap.len cur hcl
 clear hcl;have hlen:=Za hr.len;go_enter Tryz.func45,Tryz.ntmps45;go_wp2
 go_loopw [4] (λi wr=>∃k:Nat,k<=n/\i = .int .i64 k/\Below w.heap.size w wr/\w.heap.size<wr.heap.size/\Own Heap.cells 106 3 wr w.heap.size (.slice (some ⟨w.heap.size,0,none⟩) n n) n (l.take k++List.replicate (n-k) ⟨ByteArray.empty,0,0⟩)) (λi _=>n-(intOf i).toNat)
 case atStart=>exact⟨0,Nat.zero_le _,rfl,by go_grown,by simp,by simpa using hmade⟩
 case round =>
  obtain⟨k,hk,rfl,hb,hsz,hown⟩:=hrel;clear hmade;by_cases hlt:k<n
  ·obtain⟨b,o,x,rfl,hbl,hx,c0,c1,c2⟩:=hr.Heap hlt
   have d0:wr.cell? ⟨b,o+k*3,none⟩=some (.string x.fSort):=(hb.cell (p:=⟨b,o+k*3,none⟩) hbl).trans c0;have d1:wr.cell? ⟨b,o+k*3+1,none⟩=some (.int .i64 x.fYear):=(hb.cell (p:=⟨b,o+k*3+1,none⟩) hbl).trans c1;have d2:wr.cell? ⟨b,o+k*3+2,none⟩=some (.int .i64 x.fBundles):=(hb.cell (p:=⟨b,o+k*3+2,none⟩) hbl).trans c2;clear c0 c1 c2 hr;have hB:=Za hb;clear hb;have hcap:(k:Int)<n:=by omega
   have hO:=Za hown;clear hown;go_wp2_with (go_at_call 108;refine(Zeb _ _ _ _).mono ?_;rintro e w1 ⟨rfl,hb1⟩;have hB1:=Za hb1;have hO1:=Za (hO.out.below hb1);have hsz1:w.heap.size<w1.heap.size:=Nat.lt_of_lt_of_le hsz hb1.size;obtain⟨x1,hx1,f0,f1,f2,z0,z1,z2⟩:=hO1.out.Heap_at hlt;have HX1:=Za hx1;clear hx1 hb1)
   all_goals go_roundw
   case rel=>exact⟨k+1,by omega,by go_num,((((hB.out.trans (hB1.out.mono (Nat.le_of_lt hsz))).setCell (Nat.le_refl _) _).setCell (Nat.le_refl _) _).setCell (Nat.le_refl _) _),by simp only[World.size_setCell];exact hsz1,by have:=hO1.out.Heap_store hlt x.fSort x.fYear x.fBundles;rw[ZaM hlen.out hx] at this;exact this⟩
   case measure=>simp[intOf];omega
  ·have hkn:k=n:=by omega
   go_wp2
   go_ret;exact⟨rfl,by have:=hown;rw[hkn,Nat.sub_self,List.replicate_zero,List.append_nil,List.take_of_length_le (by rw[hlen.out];exact Nat.le_refl _)] at this;exact this,hb⟩
theorem Heap.wt_nonneg (x:Heap):0<=x.wt:=by unfold Heap.wt;omega
theorem Heap.pre_nonneg (l:List Heap):0<=Heap.pre l:=by
 unfold Heap.pre
 induction l with
 | nil=>simp
 | cons a l ih=>have:=a.wt_nonneg;simp only[List.map_cons,List.sum_cons];omega
theorem Heap.pre_snoc {l:List Heap}{k:Nat}{x:Heap}(h:l[k]?=some x):Heap.pre (l.take (k+1))=Heap.pre (l.take k)+x.wt:=by
 unfold Heap.pre;rw[Zo h];simp
theorem Heap.pre_le (l:List Heap)(k:Nat):Heap.pre (l.take k)<=Heap.pre l:=by
 have h:=Heap.pre_nonneg (l.drop k);have:Heap.pre l=Heap.pre (l.take k)+Heap.pre (l.drop k):=by unfold Heap.pre;rw[←List.sum_append,←List.map_append,List.take_append_drop]
 omega
theorem Jt (x:Heap)(r:Int)(w:World)(hx:x.fits)(h0:0<=r)(h1:r<=1048576) :
  Calls Tryz.prog 89 #[.agg #[.string x.fSort,.int .i64 x.fYear,.int .i64 x.fBundles],.int .i64 r] w λe w'=>e = .returned (.int .i64 (szv (r-x.wt)))/\Below w.heap.size w w':=by
 unfold Heap.fits maxLen at hx;unfold Heap.wt;obtain⟨a0,a1,a2⟩:=x;simp only at hx ⊢;by_cases g0:r-a0.size<0
 ·rw[Xt (by omega)]
  go_enter Tryz.func89,Tryz.ntmps89;go_wp2
  go_ret;exact⟨rfl,by go_grown⟩
 rw[WJ (by omega)];go_enter Tryz.func89,Tryz.ntmps89;go_wp2
 go_ret;exact⟨UL (by omega),by go_grown⟩
theorem Zca (A:Option Addr)(n c:Nat)(l:List Heap)(r:Int)(w:World)(hn:n<=maxLen)(h0:0<=r)(h1:r<=1048576)(hr:Arr Heap.cells 3 w w.heap.size A n l)(hfit:∀x∈l,x.fits) :
  Calls Tryz.prog 41 #[.slice A n c,.int .i64 r] w λe w'=>e = .returned (.int .i64 (szv (r-Heap.tot l)))/\Below w.heap.size w w':=by
 have hl:=Za hr.len;have ht:Hid (Heap.tot l=n+Heap.pre l):=by unfold Heap.tot;rw[hr.len];rfl
 have hp0:=Heap.pre_nonneg l;unfold maxLen at hn;by_cases h:r-n<0
 ·go_enter Tryz.func41,Tryz.ntmps41
  go_wp2
  go_ret;exact⟨UL (Eq.symm (by rw[ht.out];exact Xt (by omega))),Below.refl _ _⟩
 ·have hFit:=Za hfit
  clear hfit;have hn2:n<=1048576:=by omega
  go_enter Tryz.func41,Tryz.ntmps41;go_wp2
  go_loopw [1,5] (λq i wr=>∃(k:Nat) (z:Int),k<=n/\i = .int .i64 k/\q = .int .i64 z/\0<=z/\z<=1048576/\Below w.heap.size w wr/\Hid (z=r-n-Heap.pre (l.take k))) (λ_ i _=>n-(intOf i).toNat)
  case atStart=>exact⟨0,r-n,Nat.zero_le _,rfl,rfl,by omega,by omega,Below.refl _ _,Za (by unfold Heap.pre;simp)⟩
  case round =>
   obtain⟨k,z,hk,rfl,rfl,hz0,hz1,hb,hz⟩:=hrel;by_cases hlt:k<n
   ·obtain⟨b,o,x,rfl,hbl,hx,c0,c1,c2⟩:=hr.Heap hlt
    have d0:wr.cell? ⟨b,o+k*3,none⟩=some (.string x.fSort):=(hb.cell (p:=⟨b,o+k*3,none⟩) hbl).trans c0;have d1:wr.cell? ⟨b,o+k*3+1,none⟩=some (.int .i64 x.fYear):=(hb.cell (p:=⟨b,o+k*3+1,none⟩) hbl).trans c1;have d2:wr.cell? ⟨b,o+k*3+2,none⟩=some (.int .i64 x.fBundles):=(hb.cell (p:=⟨b,o+k*3+2,none⟩) hbl).trans c2;have hX:=Za hx;have hB:=Za hb;clear c0 c1 c2 hr hx hb;have hxm:x∈l:=List.mem_of_getElem? hX.out;have hxf:=hFit.out x hxm;have hxw:=x.wt_nonneg;have hsn:=Za (Heap.pre_snoc hX.out);have hle:=Za (Heap.pre_le l (k+1));clear hxm;by_cases hz2:z-x.wt<0
    ·have hsv:=Xt hz2
     go_wp2_with (go_at_call 89;refine(Jt x z _ hxf hz0 hz1).mono ?_;rintro e w1 ⟨rfl,hb1⟩;have hB1:=Za (hB.out.trans (hb1.mono hB.out.size));clear hb1)
     go_ret;exact⟨UL (Eq.symm (by rw[ht.out];exact Xt (by have e1:=hz.out;have e2:=hsn.out;have e3:=hle.out;omega))),hB1.out⟩
    ·have hsv:=WJ (x:=z-x.wt) (by omega)
     go_wp2_with (go_at_call 89;refine(Jt x z _ hxf hz0 hz1).mono ?_;rintro e w1 ⟨rfl,hb1⟩;have hB1:=Za (hB.out.trans (hb1.mono hB.out.size));clear hb1)
     go_roundw
     case rel=>exact⟨k+1,z-x.wt,by omega,by go_num,rfl,by omega,by omega,hB1.out,Za (by have e1:=hz.out;have e2:=hsn.out;omega)⟩
     case measure=>simp[intOf];omega
   ·have hkn:k=n:=by omega
    subst hkn;have hB:=Za hb;clear hb;go_wp2
    go_ret;exact⟨UL (by rw[ht.out];have e1:=hz.out;rw[List.take_of_length_le (by rw[hl.out];exact Nat.le_refl _)] at e1;rw[WJ (by omega)];omega),hB.out⟩
theorem ZaO (a0:ByteArray)(a1:Int)(a2:Int)(b0:ByteArray)(b1:Int)(b2:Int)(w:World) :
  Calls Tryz.prog 110 #[.agg #[.string a0,.int .i64 a1,.int .i64 a2],.agg #[.string b0,.int .i64 b1,.int .i64 b2]] w λe w'=>e = .returned (.bool (Heap.same (⟨a0,a1,a2⟩:Heap) (⟨b0,b1,b2⟩:Heap)))/\Below w.heap.size w w':=by
 by_cases h:(⟨a0,a1,a2⟩:Heap)=(⟨b0,b1,b2⟩:Heap)
 ·injection h with h0 h1 h2
  subst h0 h1 h2;rw[Heap.same_true.2 rfl];go_enter Tryz.func110,Tryz.ntmps110;go_wp2
  go_ret;exact⟨rfl,by go_grown⟩
 ·rw[Heap.same_false.2 h]
  by_cases g0:a0=b0
  ·subst g0
   by_cases g1:a1=b1
   ·subst g1
    by_cases g2:a2=b2
    ·subst g2
     exact absurd rfl h
    ·clear h
     have e1:(a2 != b2)=true:=by simp[g2]
     clear g2;go_enter Tryz.func110,Tryz.ntmps110;go_wp2
     go_ret;exact⟨rfl,by go_grown⟩
   ·clear h
    have e1:(a1 != b1)=true:=by simp[g1]
    clear g1;go_enter Tryz.func110,Tryz.ntmps110;go_wp2
    go_ret;exact⟨rfl,by go_grown⟩
  ·clear h
   have e1:=Xn g0;clear g0;go_enter Tryz.func110,Tryz.ntmps110;go_wp2
   go_ret;exact⟨rfl,by go_grown⟩
theorem J3 (x y:Heap)(w:World):Calls Tryz.prog 110 #[.agg #[.string x.fSort,.int .i64 x.fYear,.int .i64 x.fBundles],.agg #[.string y.fSort,.int .i64 y.fYear,.int .i64 y.fBundles]] w λe w'=>e = .returned (.bool (x.same y))/\Below w.heap.size w w':=ZaO _ _ _ _ _ _ w
theorem Jg (A A':Option Addr)(n c n' c':Nat)(l l':List Heap)(w:World)(hn:n<=1048576)(hr:Arr Heap.cells 3 w w.heap.size A n l)(hr':Arr Heap.cells 3 w w.heap.size A' n' l') :
  Calls Tryz.prog 47 #[.slice A n c,.slice A' n' c'] w λe w'=>e = .returned (.bool (decide (l=l')))/\Below w.heap.size w w':=by
 have hl:=Za hr.len;have hl':=Za hr'.len;by_cases hne:n=n'
 ·subst hne
  have hpost:Hid (l=l'↔l.take n=l'.take n):=by
   have h1:=hl.out;have h2:=hl'.out;show _↔_
   rw[List.take_of_length_le (by omega),List.take_of_length_le (by omega)]
  go_enter Tryz.func47,Tryz.ntmps47;go_wp2
  go_loopw [5] (λi wr=>∃k:Nat,k<=n/\i = .int .i64 k/\Below w.heap.size w wr/\Hid (l.take k=l'.take k)) (λi _=>n-(intOf i).toNat)
  case atStart=>exact⟨0,Nat.zero_le _,rfl,Below.refl _ _,Za (by simp)⟩
  case round =>
   obtain⟨k,hk,rfl,hb,hpre⟩:=hrel;by_cases hlt:k<n
   ·obtain⟨b,o,x,rfl,hbl,hx,c0,c1,c2⟩:=hr.Heap hlt
    obtain⟨b',o',y,rfl,hbl',hy,f0,f1,f2⟩:=hr'.Heap hlt;have d0:wr.cell? ⟨b,o+k*3,none⟩=some (.string x.fSort):=(hb.cell (p:=⟨b,o+k*3,none⟩) hbl).trans c0;have g0:wr.cell? ⟨b',o' + k*3,none⟩=some (.string y.fSort):=(hb.cell (p:=⟨b',o' + k*3,none⟩) hbl').trans f0;have d1:wr.cell? ⟨b,o+k*3+1,none⟩=some (.int .i64 x.fYear):=(hb.cell (p:=⟨b,o+k*3+1,none⟩) hbl).trans c1;have g1:wr.cell? ⟨b',o' + k*3+1,none⟩=some (.int .i64 y.fYear):=(hb.cell (p:=⟨b',o' + k*3+1,none⟩) hbl').trans f1;have d2:wr.cell? ⟨b,o+k*3+2,none⟩=some (.int .i64 x.fBundles):=(hb.cell (p:=⟨b,o+k*3+2,none⟩) hbl).trans c2;have g2:wr.cell? ⟨b',o' + k*3+2,none⟩=some (.int .i64 y.fBundles):=(hb.cell (p:=⟨b',o' + k*3+2,none⟩) hbl').trans f2;have hX:=Za hx;have hY:=Za hy;have hB:=Za hb;clear c0 f0 c1 f1 c2 f2 hr hr' hx hy hb;have hlt':(k:Int)<(n:Int):=by omega
    have hk0:(0:Int)<=(k:Int):=by omega
    go_wp2_with fail
    go_still_tail 8,(by kernel_rfl)
    change wpList _ _ _ _ _ wr.drew;have hB2:=Za (Below.drew hB.out);cases hxy:x.same y
    ·go_wp2_with (go_at_call 110;refine(J3 x y _).mono ?_;rintro e w1 ⟨rfl,hb1⟩;have hB1:=Za (hB2.out.trans (hb1.mono hB2.out.size));clear hb1)
     go_ret;refine⟨ZW (Eq.symm (decide_eq_false λhe=>?_)),hB1.out⟩;subst he;rw[hX.out] at hY;have:=Option.some.inj hY.out;subst this;exact Heap.same_false.1 hxy rfl
    ·go_wp2_with (go_at_call 110;refine(J3 x y _).mono ?_;rintro e w1 ⟨rfl,hb1⟩;have hB1:=Za (hB2.out.trans (hb1.mono hB2.out.size));clear hb1)
     go_roundw
     case rel=>exact⟨k+1,by omega,by go_num,hB1.out,Za (by rw[Zo hX.out,Zo hY.out,hpre.out,Heap.same_true.1 hxy])⟩
     case measure=>simp[intOf];omega
   ·have hkn:k=n:=by omega
    subst hkn;have hB:=Za hb;clear hb;go_wp2
    go_ret;exact⟨ZW (Eq.symm (decide_eq_true (hpost.out.2 hpre.out))),hB.out⟩
 ·have e1:((n:Int) != (n':Int))=true:=by simp;omega
  have hd:Hid (decide (l=l')=false):=decide_eq_false λhe=>hne (by rw[←hl.out,←hl'.out,he])
  clear hne;go_enter Tryz.func47,Tryz.ntmps47;go_wp2
  go_ret;exact⟨ZW hd.out.symm,Below.refl _ _⟩
def ZhK:Nat→Nat→List UInt8→List UInt8
 | 0,_,out=>out
 | f+1,k,out=>if k=0 then out else ZhK f (k/10) (UInt8.ofNat (48+k%10) :: out)
def X1 (k:Int):ByteArray:=if k<=0 then ⟨#[109,48]⟩ else ⟨(109 :: ZhK 20 k.toNat []).toArray⟩
theorem ZiH (w:World)(v:Int) :
  Sem.run Tryz.prog (convert 22 9 (.slice (some ⟨w.heap.size,0,none⟩) 1 1)) (w.alloc (.cells #[.int .u8 v] 5)) = .ok (.string ⟨#[UInt8.ofNat v.toNat]⟩) (w.alloc (.cells #[.int .u8 v] 5)):=by
 rw[run_convert_bytes_string _ _ _ _ _ _ _ Tryz.underlying22 Tryz.underlying5 Tryz.underlying9];have h:=run_loadCells_list (P:=Tryz.prog) (w:=w.alloc (.cells #[.int .u8 v] 5)) ⟨w.heap.size,0,none⟩ [.int .u8 v] (by
  intro j u hu;have hj:j=0:=by have:=Zq hu;simpa using this
  subst hj;rw[Addr.add_lit,cell_of_row _ _ _ _ _ _ (heap_alloc_new w _)];simpa using hu)
 exact run_bytesToString (P:=Tryz.prog) (w.alloc (.cells #[.int .u8 v] 5)) ⟨w.heap.size,0,none⟩ 1 1 [v] (by simpa using h)
theorem Zap (a b:List UInt8):(⟨a.toArray⟩:ByteArray)++⟨b.toArray⟩=⟨(a++b).toArray⟩:=by
 apply YI
 rw[ByteArray.toList_eq,ByteArray.toList_eq];simp
theorem Zhs {f x:Nat}{out:List UInt8}(h:0<x):ZhK (f+1) x out=ZhK f (x/10) (UInt8.ofNat (48+x%10) :: out):=by
 rw[ZhK,if_neg (by omega)]
theorem Zhr (f:Nat)(out:List UInt8):ZhK f 0 out=out:=by cases f<;>simp[ZhK]
theorem Zgu {x f:Nat}(h:x<10 ^ f)(hf:f<=15):x<1000000000000000:=Nat.lt_of_lt_of_le h (Nat.le_trans (Nat.pow_le_pow_right (by omega) hf) (by decide))
theorem XX (k:Int)(w:World)(h:k<1000000000000000) :
  Calls Tryz.prog 50 #[.int .i64 k] w λe w'=>e = .returned (.string (X1 k))/\Below w.heap.size w w':=by
 by_cases h0:k<=0
 ·have hm:Hid (X1 k=⟨#[109,48]⟩):=Za (if_pos h0)
  go_enter Tryz.func50,Tryz.ntmps50;go_wp2
  go_ret;exact⟨by rw[hm.out];rfl,Below.refl _ _⟩
 ·have hm:Hid (X1 k=⟨(109 :: ZhK 20 k.toNat []).toArray⟩):=Za (if_neg h0)
  have h15:Hid (k.toNat<10 ^ 15):=Za (by
   have e:(10:Nat) ^ 15=1000000000000000:=by decide
   omega)
  have hcv:=ZiH;go_enter Tryz.func50,Tryz.ntmps50;go_wp2
  go_loopw [0,3] (λp q wr=>∃(x f:Nat) (out:List UInt8),p = .int .i64 x/\q = .string ⟨out.toArray⟩/\Hid (x<10 ^ f/\f<=15)/\out.length<=20/\Hid (out.length+f<=20)/\Below w.heap.size w wr/\Hid (ZhK (f+5) x out=ZhK 20 k.toNat [])) (λp _ _=>(intOf p).toNat)
  case atStart=>exact⟨k.toNat,15,[],by rw[Int.toNat_of_nonneg (by omega)],rfl,Za ⟨h15.out,by omega⟩,by simp,Za (by simp),Below.refl _ _,Za rfl⟩
  case round =>
   obtain⟨x,f,out,rfl,rfl,hx,hl2,HL,hb,hz⟩:=hrel;have hB:=Za hb;clear hb;rcases Nat.eq_zero_or_pos x with h1|h1
   ·subst h1
    go_wp2
    go_ret;have:=hz.out;rw[Zhr] at this;exact⟨by rw[hm.out,←this];rfl,hB.out⟩
   ·have hxb:(x:Int)<1000000000000000:=by have:=Zgu hx.out.1 hx.out.2;omega
    go_wp2
    go_roundw
    case rel =>
     obtain⟨f',rfl⟩:∃f',f=f' + 1:=by
      refine⟨f-1,?_⟩;rcases Nat.eq_zero_or_pos f with h2|h2
      ·subst h2;have:=hx.out.1;simp at this;omega
      ·omega
     refine⟨x/10,f',UInt8.ofNat (48+x%10) :: out,by go_num,?_,Za ⟨?_,?_⟩,?_,Za ?_,hB.out.alloc hB.out.size _,Za ?_⟩
     ·have:=Zap [UInt8.ofNat (48+x%10)] out
      rw[UInt8.ofNat_add] at this;rw[UInt8.ofNat_add];exact congrArg Value.string this
     ·have h3:=hx.out.1
      rw[Nat.pow_succ] at h3;omega
     ·have h3:=hx.out.2;omega
     ·have h3:=HL.out;simp only[List.length_cons];omega
     ·have h3:=HL.out;simp only[List.length_cons];omega
     ·have h3:=hz.out
      rw[show f' + 1+5=(f' + 5)+1 by omega,Zhs h1] at h3;exact h3
    case measure=>simp[intOf];omega
end Go.Proofs.YtfpaejlipaainaaGreatDoor
