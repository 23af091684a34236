/- Texts that belong together, joined: contracts and plain laws. No statement is proved here. -/
import Derived.Test.YtfpaejlipaainaaGreatDoorM21
set_option maxRecDepth 100000
set_option maxHeartbeats 4000000
namespace Go.Proofs.YtfpaejlipaainaaGreatDoor
open Go.ChangeShapes Go.WideShapes Go.ChangeAt Go.RowKit Go.Deep
theorem Zc6 (r a r' a':Int)(w:World):Calls Tryz.prog 194 #[.int .i64 r,.int .i64 a,.int .i64 r',.int .i64 a'] w λe w'=>e = .returned (.bool (Y2 r a r' a'))/\w=w':=by
 by_cases h1:r<r'
 ·have hm:Hid (Y2 r a r' a'=true):=Za (by unfold Y2;simp[h1])
  go_enter Tryz.func194,Tryz.ntmps194;go_wp2
  go_ret;exact⟨ZW hm.out.symm,rfl⟩
 by_cases h2:r=r'
 ·have hm:Hid (Y2 r a r' a'=decide (a<a')):=Za (by unfold Y2;simp[h2])
  have h3:(r==r')=true:=by simp[h2]
  have h4:decide (r<r')=false:=decide_eq_false h1;clear h2;go_enter Tryz.func194,Tryz.ntmps194;go_wp2
  go_ret;exact⟨ZW hm.out.symm,rfl⟩
 ·have hm:Hid (Y2 r a r' a'=false):=Za (by unfold Y2;simp[h1,h2])
  have h3:(r==r')=false:=by simp[h2]
  have h4:decide (r<r')=false:=decide_eq_false h1;go_enter Tryz.func194,Tryz.ntmps194;go_wp2
  go_ret;exact⟨ZW hm.out.symm,rfl⟩
def BV (w:World)(base:Nat)(v:Value)(n:Nat):Option (List Int)→Prop
 | none=>v = .slice none 0 0
 | some u=>∃g cp,v = .slice (some ⟨g,0,none⟩) n cp/\n<=cp/\Own ZB 2 1 w base v n u
theorem BV.grown {w w':World}{base:Nat}{v:Value}{n:Nat}{b:Option (List Int)}{row:Option Nat}(h:BV w base v n b)(hg:w.grownBy w' row)(hne:v.ownBlock=none\/v.ownBlock≠row):BV w' base v n b:=by
 cases b with
 | none=>exact h
 | some u =>
  obtain⟨g,cp,h1,h2,h3⟩:=h;exact⟨g,cp,h1,h2,h3.kept hg hne⟩
theorem ZfM {hs:List Int}(h0:∀h∈hs,0<=h):∀t∈allT hs,∀p∈hs.zip t,0<=p.2/\p.2<=p.1:=by
 induction hs with
 | nil=>intro t _ p hp;simp at hp
 | cons h hs ih =>
  have ih2:=ih λy hy=>h0 y (List.mem_cons_of_mem _ hy)
  have hh:=h0 h List.mem_cons_self;have key:∀n:Nat,(n:Int)<=h+1→∀t∈UF (allT hs) n,∀p∈(h :: hs).zip t,0<=p.2/\p.2<=p.1:=by
   intro n
   induction n with
   | zero=>intro _ t ht;cases ht
   | succ n ihn =>
    intro hn t ht;rw[UF,List.mem_append] at ht;rcases ht with ht|ht
    ·exact ihn (by omega) t ht
    ·obtain⟨u,hu,rfl⟩:=List.mem_map.1 ht
     intro p hp;rw[List.zip_cons_cons] at hp;rcases List.mem_cons.1 hp with hp|hp
     ·subst hp;simp only;omega
     ·exact ih2 u hu p hp
  exact key _ (by omega)
theorem Zal {l:List Kind}(hl:KB l):∀t∈allT (l.map (·.fHave)),TB t:=by
 have h0:∀h∈l.map (·.fHave),0<=h:=by
  intro h hh;obtain⟨x,hx,rfl⟩:=List.mem_map.1 hh;exact(hl x hx).2.1
 intro t ht x hx;obtain⟨i,hi⟩:=List.mem_iff_getElem?.1 hx;have hlen:=Qi h0 t ht;have hi2:i<(l.map (·.fHave)).length:=by rw[←hlen];exact Zq hi
 have hz:((l.map (·.fHave)).zip t)[i]?=some ((l.map (·.fHave))[i],x):=by rw[List.getElem?_zip_eq_some];exact⟨List.getElem?_eq_getElem hi2,hi⟩
 have h1:=ZfM h0 t ht _ (List.mem_of_getElem? hz);have h2:=List.getElem_mem hi2;obtain⟨y,hy,e⟩:=List.mem_map.1 h2;have h3:=hl y hy;simp only at h1;rw[←e] at h1;exact⟨h1.1,Int.le_trans h1.2 h3.2.2⟩
theorem ZgN {hs:List Int}{t:List Int}{R:List (List Int)}:∀{P:List (List Int)},Jp hs none (P++t :: R)→XV hs t=R.head?
 | [],h=>by
  cases R with
  | nil=>exact h
  | cons u R=>exact h.1
 | [p],h=>ZgN (P:=[]) h.2
 | p :: q :: P,h=>ZgN (P:=q :: P) h.2
theorem ZfP {t:List Int}(h:TB t)(hn:t.length<=4)(k:Nat) : -4611686018427387904<=sumOf id (t.take k)/\sumOf id (t.take k)<=4611686018427387904:=by
 have:=YW (M:=12) (N:=4) (f:=id) h hn (by omega) k;omega
theorem best_or (l:List Kind)(q:Int)(b:Option (List Int))(t:List Int):bestS l q b t=some t\/bestS l q b t=b:=by
 show(if _ then _ else _)=_\/(if _ then _ else _)=_
 by_cases h:q<=reachL l t/\(match b with|none=>true|some u=>Y2 (sumOf id t) (reachL l t) (sumOf id u) (reachL l u))=true
 ·exact .inl (if_pos h)
 ·exact .inr (if_neg h)
theorem ZgF (W:World):Sem.run Tryz.prog (binOp BinOp.eql 60 (.slice none 0 0) (.slice none 0 0)) W = .ok (.bool true) W:=rfl
theorem Zi4 (a:Addr)(n c:Nat)(W:World):Sem.run Tryz.prog (binOp BinOp.eql 60 (.slice (some a) n c) (.slice none 0 0)) W = .ok (.bool false) W:=rfl
theorem Zjd {w W w5:World}{v5:Value}{n cp:Nat}{t:List Int}(hT:Own ZB 2 1 W w.heap.size (.slice (some ⟨w.heap.size,0,none⟩) n cp) n t)(hB:Below w.heap.size w W)
  (ho:Own ZB 2 1 w5 w.heap.size v5 n t) (hg:(W.alloc (.cells #[] 2)).grownBy w5 (some W.heap.size)) (hat:v5.ownBlock=some W.heap.size\/v5.ownBlock=some (W.alloc (.cells #[] 2)).heap.size) :
  BV w5 w.heap.size v5 n (some t)/\v5.ownBlock≠some w.heap.size/\Own ZB 2 1 w5 w.heap.size (.slice (some ⟨w.heap.size,0,none⟩) n cp) n t/\Below w.heap.size w w5:=by
 have hlt:w.heap.size<W.heap.size:=(hT.2.lt _ rfl).2;have hal:=(Below.refl W.heap.size W).alloc (Nat.le_refl _) (.cells #[] 2);refine⟨?_,?_,(hT.below hal).kept hg (.inr (by simp[Value.ownBlock];omega)),(Below.up hB hal).grown hg (Nat.le_trans hB.size hal.size) (λk e=>by cases e;omega)⟩
 ·have hs:v5.ownBlock.isSome=true:=by rcases hat with h|h<;>rw[h]<;>rfl
  obtain⟨g,cp,h1,_,_,h4,_⟩:=ho.formS hs;exact⟨g,cp,h1,h4,ho⟩
 ·rcases hat with h|h
  ·rw[h];intro e;injection e with e;omega
  ·rw[h,World.size_alloc];intro e;injection e with e;omega
theorem QX:(Tryz.prog.info? 2).map (λi=>(i.zero,i.size,i.bytes))=some (some (.int .i64 0),1,8):=by kernel_rfl
theorem ZbT (A:Option Addr)(n c:Nat)(l:List Kind)(q:Int)(w:World)(hn:n<=4)(hl:KB l)(hr0:Arr Kind.cells 2 w w.heap.size A n l) :
  Calls Tryz.prog 193 #[.slice A n c,.int .i64 q,.func (.func 194) #[] #[]] w λe w'=>∃v,e = .returned v/\BV w' w.heap.size v n (ZeZ l q)/\Below w.heap.size w w':=by
 have hlen:=Za hr0.len;have hlh:=Za hl;have hr:=Za hr0;have h0:∀h∈l.map (·.fHave),0<=h:=by
  intro h hh;obtain⟨x,hx,rfl⟩:=List.mem_map.1 hh;exact(hl x hx).2.1
 obtain⟨⟨R0,hR0⟩,hlnk0⟩:=ZiR (l.map (·.fHave)) h0;have hhs:(l.map (·.fHave)).map (λ_=>(0:Int))=List.replicate n 0:=by rw[List.map_const',List.length_map,hr0.len]
 rw[hhs] at hR0;obtain⟨AT,hAT⟩:∃AT,AT=allT (l.map (·.fHave)):=⟨_,rfl⟩;rw[←hAT] at hR0 hlnk0;have hlnk:=Za hlnk0;have hR:=Za hR0;have hF:Hid (ZeZ l q=AT.foldl (bestS l q) none):=Za (by rw[hAT];rfl);have hTB:Hid (∀t∈AT,TB t/\t.length=n):=Za (λt ht=>by
  rw[hAT] at ht;exact⟨Zal hl t ht,by rw[Qi h0 t ht,List.length_map,hr0.len]⟩)
 clear hAT hhs h0 hlnk0 hR0 hl hr0;obtain⟨i0,hi0,hz0,hz1,hz2⟩:=info_parts QX;have hmk:=λW=>Y8 (P:=Tryz.prog) 60 2 i0 _ Tryz.underlying60 hi0 hz0 .i64 .i64 n n (Nat.le_refl _) (by rw[hz2];omega) (by omega) W
 rw[hz1] at hmk;obtain⟨cur,hcur⟩:∃cur,cur=madeCells (Value.int .i64 0).cells (n*1):=⟨_,rfl⟩;rw[←hcur] at hmk;have hcl:cur.toList=(List.replicate n (0:Int)).flatMap ZB:=by rw[hcur];exact WP Zh (by omega) #[.int .i64 0] 0 rfl n
 clear hcur;have hmade:Hid (Own ZB 2 1 (w.alloc (.cells cur 2)) w.heap.size (.slice (some ⟨w.heap.size,0,none⟩) n n) n (List.replicate n (0:Int))) :=
  Za (Own.made w (Nat.le_refl _) (by unfold maxLen;omega) _ Zh cur hcl)
 clear hcl;go_enter Tryz.func193,Tryz.ntmps193;go_wp2
 go_loopg [7,9] (R0.length+1) (λgk vb mo wr=>∃(P R:List (List Int)),AT=P++R/\gk=R.length/\mo = .bool (!R.isEmpty)/\BV wr w.heap.size vb n (P.foldl (bestS l q) none)/\vb.ownBlock≠some w.heap.size/\Own ZB 2 1 wr w.heap.size (.slice (some ⟨w.heap.size,0,none⟩) n n) n (R.headD (List.replicate n 0))/\Below w.heap.size w wr)
 case atStart=>exact⟨[],AT,rfl,by rw[hR.out];rfl,by rw[hR.out];rfl,rfl,by simp[Value.ownBlock],by rw[hR.out];exact hmade.out,(Below.refl w.heap.size w).alloc (Nat.le_refl _) _⟩
 case round =>
  clear hmade hmk;obtain⟨P,R,hPR,rfl,rfl,hv,hfar,hrow,hb⟩:=hrel;have hB:=Za hb;have hV:=Za hv;have hT:=Za hrow;have hfr:=Za hfar;clear hb hv hrow hfar;cases R with
  | nil =>
   have hfin:Hid (P.foldl (bestS l q) none=ZeZ l q):=Za (by rw[hF.out,hPR,List.append_nil]);clear hPR;have hV2:=Za (Eq.mp (congrArg (BV wr w.heap.size u7 n) hfin.out) hV.out);go_wp2
   go_ret;exact⟨_,rfl,hV2.out,hB.out⟩
  | cons t R =>
   have htb:=Za (hTB.out t (by rw[hPR];simp)).1;have htl:=Za (hTB.out t (by rw[hPR];simp)).2;have hPR':Hid (AT=(P++[t])++R):=Za (by rw[hPR];simp);have hnb:Hid ((XV (l.map (·.fHave)) t).isSome = !R.isEmpty/\VE (l.map (·.fHave)) t=R.headD (List.replicate n 0)):=Za (by
    have h:=hlnk.out;rw[hPR] at h;have h1:=ZgN h;unfold VE;rw[h1,htl.out];cases R with
    | nil=>exact⟨rfl,rfl⟩
    | cons u R=>exact⟨rfl,rfl⟩)
   have hst:Hid ((P++[t]).foldl (bestS l q) none=bestS l q (P.foldl (bestS l q) none) t):=Za (by rw[List.foldl_append];rfl);have huT:Hid (∀u,P.foldl (bestS l q) none=some u→TB u/\u.length=n):=Za (by
    have key:∀(Q:List (List Int)) (b:Option (List Int)),(∀x∈Q,TB x/\x.length=n)→(∀u,b=some u→TB u/\u.length=n)→∀u,Q.foldl (bestS l q) b=some u→TB u/\u.length=n:=by
     intro Q
     induction Q with
     | nil=>intro b _ hb u hu;exact hb u hu
     | cons x Q ih =>
      intro b hQ hb u hu;rw[List.foldl_cons] at hu;refine ih _ (λy hy=>hQ y (List.mem_cons_of_mem _ hy)) ?_ u hu;intro v hv;rcases best_or l q b x with e|e
      ·rw[e] at hv;rw[←Option.some.inj hv];exact hQ _ List.mem_cons_self
      ·rw[e] at hv;exact hb v hv
    exact key P none (λx hx=>hTB.out x (by rw[hPR];simp[hx])) (λu hu=>by cases hu))
   clear hPR;obtain⟨b,hbb⟩:∃b,b=P.foldl (bestS l q) none:=⟨_,rfl⟩;rw[←hbb] at hV hst huT;clear hbb;have hT1:Hid (Own ZB 2 1 wr w.heap.size (.slice (some ⟨w.heap.size,0,none⟩) n n) n t):=Za hT.out;clear hT;have hgr:Hid (∀{w1:World},Below wr.heap.size wr w1→Own ZB 2 1 w1 w.heap.size (.slice (some ⟨w.heap.size,0,none⟩) n n) n t):=Za λhb=>hT1.out.below hb
   obtain⟨z,hz⟩:∃z,z=reachL l t:=⟨_,rfl⟩;have hzz:=Za hz;clear hz;by_cases hq:q<=z
   case neg =>
    have hbs:Hid (bestS l q b t=b):=Za (by unfold bestS;rw[if_neg];rw[←hzz.out];exact λh=>hq h.1);have hqd:decide (q<=z)=false:=decide_eq_false hq;go_wp2_with (first|(go_at_call 246;refine(Vk A n c l _ n t _ hn hlh.out htb.out (hr.out.go hB.out) (hT1.out.arr Zh)).mono ?_;rw[←hzz.out];rintro e w1 ⟨rfl,hb⟩;have hT2:=Za (hT1.out.below hb);have hV2:=Za (BV.grown hV.out (row:=none) (Zd hb) (by cases u7.ownBlock<;>simp));have hB2:=Za (Below.up hB.out hb);clear hb)|(go_at_call 245;refine(Ub A n c l w.heap.size n w.heap.size t _ hn hlh.out htb.out hB2.out.size (hr.out.below hB2.out) hT2.out).mono ?_;rintro e w9 ⟨rfl,ho9,hg9⟩;rw[hnb.out.1];rw[hnb.out.2] at ho9;have hT9:=Za ho9;have hB9:=Za (hB2.out.grown hg9 hB2.out.size (λk e=>by cases e;exact Nat.le_refl _));have hV9:=Za (BV.grown hV2.out hg9 (.inr hfr.out));clear ho9 hg9)|fail)
    go_roundg R.length
    case measure=>simp
    case rel=>exact⟨P++[t],R,hPR'.out,rfl,rfl,by rw[hst.out,hbs.out];exact hV9.out,hfr.out,hT9.out,hB9.out⟩
   case pos =>
    have hqd:decide (q<=z)=true:=decide_eq_true hq;cases b with
    | none =>
     have hbs:Hid (bestS l q none t=some t):=Za (by unfold bestS;rw[if_pos];rw[←hzz.out];exact⟨hq,rfl⟩);have hvn:=hV.out;unfold BV at hvn;subst hvn;have hni:=ZgF;go_wp2_with (first|(go_at_call 246;refine(Vk A n c l _ n t _ hn hlh.out htb.out (hr.out.go hB.out) (hT1.out.arr Zh)).mono ?_;rw[←hzz.out];rintro e w1 ⟨rfl,hb⟩;have hT2:=Za (hT1.out.below hb);have hB2:=Za (Below.up hB.out hb);clear hb)|(at_builtin;refine Z1 rfl (.tmp 40) (.tmp 41) rfl Tryz.underlying60 QX rfl (by omega) (by omega) Zh ZJ rfl (Own.none_made (base:=w.heap.size) w1 hB2.out.size) rfl ((hT2.out.below ((Below.refl _ _).alloc (Nat.le_refl _) _)).arr Zh) (by omega) (by have:=hB2.out.size;simp;omega) ?_;intro v5 w5 ho5 hg5 hat5;rw[Nat.zero_add,List.nil_append] at ho5;have hQ5:=Za (Zjd hT2.out hB2.out ho5 hg5 hat5);clear ho5 hg5 hat5;have hV5:=Za hQ5.out.1;have hF5:=Za hQ5.out.2.1;have hT5:=Za hQ5.out.2.2.1;have hB5:=Za hQ5.out.2.2.2;clear hQ5)|(go_at_call 245;refine(Ub A n c l w.heap.size n w.heap.size t _ hn hlh.out htb.out hB5.out.size (hr.out.below hB5.out) hT5.out).mono ?_;rintro e w9 ⟨rfl,ho9,hg9⟩;rw[hnb.out.1];rw[hnb.out.2] at ho9;have hT9:=Za ho9;have hB9:=Za (hB5.out.grown hg9 hB5.out.size (λk e=>by cases e;exact Nat.le_refl _));have hV9:=Za (BV.grown hV5.out hg9 (.inr hF5.out));clear ho9 hg9)|fail)
     go_roundg R.length
     case measure=>simp
     case rel=>exact⟨P++[t],R,hPR'.out,rfl,rfl,by rw[hst.out,hbs.out];exact hV9.out,hF5.out,hT9.out,hB9.out⟩
    | some u =>
     obtain⟨g7,c7,hv7,hc7,ho7⟩:=hV.out;subst hv7;have hni:=Zi4 ⟨g7,0,none⟩ n c7;have huu:=Za (huT.out u rfl);have hut:=Za huu.out.1;have hul:=Za huu.out.2;clear huu;obtain⟨y,hy⟩:∃y,y=reachL l u:=⟨_,rfl⟩;have hyy:=Za hy;obtain⟨r1,hr1⟩:∃r,r=sumOf id t:=⟨_,rfl⟩;have hrr1:=Za hr1;obtain⟨r2,hr2⟩:∃r,r=sumOf id u:=⟨_,rfl⟩;have hrr2:=Za hr2;have hO7:=Za ho7;clear hy hr1 hr2 ho7;go_wp2_with (first|(go_at_call 246;refine(Vk A n c l _ n t _ hn hlh.out htb.out (hr.out.go hB.out) (hT1.out.arr Zh)).mono ?_;rw[←hzz.out];rintro e w1 ⟨rfl,hb⟩;have hT2:=Za (hT1.out.below hb);have hV2:=Za (BV.grown (b:=some u) (base:=w.heap.size) (n:=n) ⟨g7,c7,rfl,hc7,hO7.out⟩ (row:=none) (Zd hb) (by simp[Value.ownBlock]));have hB2:=Za (Below.up hB.out hb);clear hb)|fail)
     refine(Ua _ n n t _ (by omega) (ZfP htb.out (by rw[htl.out];exact hn)) (hT2.out.arr Zh)).mono ?_;rw[←hrr1.out];rintro e w2 ⟨rfl,hb⟩;replace hT2:=Za (hT2.out.below hb);have hO8:=Za ((hV2.out.choose_spec.choose_spec.2.2).below hb);clear hV2;replace hB2:=Za (Below.up hB2.out hb);clear hb;go_wp2_with fail
     refine(Ua _ n c7 u _ (by omega) (ZfP hut.out (by rw[hul.out];exact hn)) (hO8.out.arr Zh)).mono ?_;rw[←hrr2.out];rintro e w3 ⟨rfl,hb⟩;replace hT2:=Za (hT2.out.below hb);replace hO8:=Za (hO8.out.below hb);replace hB2:=Za (Below.up hB2.out hb);clear hb;go_wp2_with fail
     refine(Vk A n c l _ c7 u _ hn hlh.out hut.out (hr.out.go hB2.out) (hO8.out.arr Zh)).mono ?_;rw[←hyy.out];rintro e w4 ⟨rfl,hb⟩;replace hT2:=Za (hT2.out.below hb);replace hO8:=Za (hO8.out.below hb);replace hB2:=Za (Below.up hB2.out hb);clear hb;go_wp2_with fail
     refine(Zc6 r1 z r2 y _).mono ?_;rintro e w6 ⟨rfl,rfl⟩;cases hbt:Y2 r1 z r2 y
     ·have hbs:Hid (bestS l q (some u) t=some u):=Za (by unfold bestS;rw[if_neg];simp only;rw[←hzz.out,←hyy.out,←hrr1.out,←hrr2.out,hbt];simp)
      have hV5:Hid (BV w4 w.heap.size (.slice (some ⟨g7,0,none⟩) n c7) n (some u)):=Za ⟨g7,c7,rfl,hc7,hO8.out⟩;clear hbt;go_wp2_with (first|(go_at_call 245;refine(Ub A n c l w.heap.size n w.heap.size t _ hn hlh.out htb.out hB2.out.size (hr.out.below hB2.out) hT2.out).mono ?_;rintro e w9 ⟨rfl,ho9,hg9⟩;rw[hnb.out.1];rw[hnb.out.2] at ho9;have hT9:=Za ho9;have hB9:=Za (hB2.out.grown hg9 hB2.out.size (λk e=>by cases e;exact Nat.le_refl _));have hV9:=Za (BV.grown hV5.out hg9 (.inr hfr.out));clear ho9 hg9)|fail)
      go_roundg R.length
      case measure=>simp
      case rel=>exact⟨P++[t],R,hPR'.out,rfl,rfl,by rw[hst.out,hbs.out];exact hV9.out,hfr.out,hT9.out,hB9.out⟩
     ·have hbs:Hid (bestS l q (some u) t=some t):=Za (by unfold bestS;rw[if_pos];simp only;rw[←hzz.out,←hyy.out,←hrr1.out,←hrr2.out,hbt];exact⟨hq,rfl⟩)
      clear hbt;go_wp2_with (first|(at_builtin;refine Z1 rfl (.tmp 40) (.tmp 41) rfl Tryz.underlying60 QX rfl (by omega) (by omega) Zh ZJ rfl (Own.none_made (base:=w.heap.size) w4 hB2.out.size) rfl ((hT2.out.below ((Below.refl _ _).alloc (Nat.le_refl _) _)).arr Zh) (by omega) (by have:=hB2.out.size;simp;omega) ?_;intro v5 w5 ho5 hg5 hat5;rw[Nat.zero_add,List.nil_append] at ho5;have hQ5:=Za (Zjd hT2.out hB2.out ho5 hg5 hat5);clear ho5 hg5 hat5;have hV5:=Za hQ5.out.1;have hF5:=Za hQ5.out.2.1;have hT5:=Za hQ5.out.2.2.1;have hB5:=Za hQ5.out.2.2.2;clear hQ5)|(go_at_call 245;refine(Ub A n c l w.heap.size n w.heap.size t _ hn hlh.out htb.out hB5.out.size (hr.out.below hB5.out) hT5.out).mono ?_;rintro e w9 ⟨rfl,ho9,hg9⟩;rw[hnb.out.1];rw[hnb.out.2] at ho9;have hT9:=Za ho9;have hB9:=Za (hB5.out.grown hg9 hB5.out.size (λk e=>by cases e;exact Nat.le_refl _));have hV9:=Za (BV.grown hV5.out hg9 (.inr hF5.out));clear ho9 hg9)|fail)
      go_roundg R.length
      case measure=>simp
      case rel=>exact⟨P++[t],R,hPR'.out,rfl,rfl,by rw[hst.out,hbs.out];exact hV9.out,hF5.out,hT9.out,hB9.out⟩
theorem V8 {l:List Kind}(h:ZD l=true):KB l/\l.length<=4:=by
 unfold ZD at h;rw[Bool.and_eq_true] at h;refine⟨λx hx=>?_,of_decide_eq_true h.2⟩;obtain⟨i,hi⟩:=List.mem_iff_getElem?.1 hx;have h1:=List.all_eq_true.1 h.1 i (List.mem_range.2 (Zq hi));have hok:x.ok=true:=by
  unfold ZF at h1;rw[hi] at h1;simp only[Bool.and_eq_true] at h1;exact h1.1
 unfold Kind.ok at hok;rw[Bool.and_eq_true] at hok;have h2:=Zj.1 hok.1;have h3:=Zj.1 hok.2;omega
theorem Ziv (A:Option Addr)(n c:Nat)(l:List Kind)(q:Int)(w:World)(hk:ZD l=true)(hr:Arr Kind.cells 2 w w.heap.size A n l) :
  Calls Tryz.prog 133 #[.slice A n c,.int .i64 q] w λe w'=>∃v s,e = .returned (.tuple #[v,.int .i64 s,.int .i64 (fewC l q)])/\Res ZB 2 1 w' w.heap.size v (fewL l q).length (fewL l q)/\Below w.heap.size w w':=by
 obtain⟨hKB,hl4⟩:=V8 hk;have hn:n<=4:=by rw[←hr.len];exact hl4
 have hcode:∀W,Arr Kind.cells 2 W W.heap.size A n l→Calls Tryz.prog 192 #[.slice A n c,.int .i64 q] W λe w'=>e = .returned (.int .i64 (if inB q 0 5000 then 0 else 2))/\Below W.heap.size W w':=by
  intro W hrW;cases h1:inB q 0 5000
  ·go_enter Tryz.func192,Tryz.ntmps192
   go_wp2_with fail
   refine(YD A n c l _ (by omega) hrW).mono ?_;rw[hk];rintro e w1 ⟨rfl,hb⟩;have hB:=Za hb;clear hb;go_wp2_with (go_at_call 113;refine(Zu _ _ _ _).mono ?_;rintro e w' ⟨rfl,rfl⟩)
   go_ret;exact⟨rfl,hB.out⟩
  ·go_enter Tryz.func192,Tryz.ntmps192
   go_wp2_with fail
   refine(YD A n c l _ (by omega) hrW).mono ?_;rw[hk];rintro e w1 ⟨rfl,hb⟩;have hB:=Za hb;clear hb;go_wp2_with (go_at_call 113;refine(Zu _ _ _ _).mono ?_;rintro e w' ⟨rfl,rfl⟩)
   go_ret;exact⟨rfl,hB.out⟩
 have hC:=Za hcode;have hR:=Za hr;have hKh:=Za hKB;clear hcode hr hKB;cases h1:inB q 0 5000
 ·have hM:Hid (fewC l q=2/\fewL l q=[]):=Za (by unfold fewC fewL;rw[h1];exact⟨rfl,rfl⟩)
  go_enter Tryz.func133,Tryz.ntmps133;go_wp2_with fail
  refine(hC.out _ hR.out).mono ?_;rw[h1];rintro e w1 ⟨rfl,hb⟩;have hB:=Za hb;clear hb;go_wp2
  go_ret3
  exact⟨_,_,by rw[hM.out.1];rfl,by rw[hM.out.2];exact Res.empty (Nat.zero_le _),hB.out⟩
 cases h2:ZeZ l q with
 | none =>
  have hM:Hid (fewC l q=3/\fewL l q=[]):=Za (by unfold fewC fewL;rw[h1,h2];exact⟨rfl,rfl⟩);have hni:=ZgF;go_enter Tryz.func133,Tryz.ntmps133;go_wp2_with fail
  refine(hC.out _ hR.out).mono ?_;rw[h1];rintro e w1 ⟨rfl,hb⟩;have hB:=Za hb;clear hb;go_wp2_with fail
  refine(ZbT A n c l q _ hn hKh.out (hR.out.go hB.out)).mono ?_;rw[h2];rintro e w2 ⟨v,rfl,hv,hb⟩;unfold BV at hv;subst hv;replace hB:=Za (Below.up hB.out hb);clear hb;go_wp2
  go_ret3
  exact⟨_,_,by rw[hM.out.1];rfl,by rw[hM.out.2];exact Res.empty (Nat.zero_le _),hB.out⟩
 | some u =>
  have hM:Hid (fewC l q=0/\fewL l q=u):=Za (by unfold fewC fewL;rw[h1,h2];exact⟨rfl,rfl⟩);have hU:Hid (TB u/\u.length=n):=Za (by
   have h0:∀h∈l.map (·.fHave),0<=h:=by
    intro h hh;obtain⟨x,hx,rfl⟩:=List.mem_map.1 hh;exact(hKh.out x hx).2.1
   have key:∀(Q:List (List Int)) (b:Option (List Int)),(∀x∈Q,TB x/\x.length=n)→(∀u,b=some u→TB u/\u.length=n)→∀u,Q.foldl (bestS l q) b=some u→TB u/\u.length=n:=by
    intro Q
    induction Q with
    | nil=>intro b _ hb u hu;exact hb u hu
    | cons x Q ih =>
     intro b hQ hb u hu;rw[List.foldl_cons] at hu;refine ih _ (λy hy=>hQ y (List.mem_cons_of_mem _ hy)) ?_ u hu;intro v hv;rcases best_or l q b x with e|e
     ·rw[e] at hv;rw[←Option.some.inj hv];exact hQ _ List.mem_cons_self
     ·rw[e] at hv;exact hb v hv
   exact key _ none (λt ht=>⟨Zal hKh.out t ht,by rw[Qi h0 t ht,List.length_map,hR.out.len]⟩) (λu hu=>by cases hu) u h2)
  go_enter Tryz.func133,Tryz.ntmps133;go_wp2_with fail
  refine(hC.out _ hR.out).mono ?_;rw[h1];rintro e w1 ⟨rfl,hb⟩;have hB:=Za hb;clear hb;go_wp2_with fail
  refine(ZbT A n c l q _ hn hKh.out (hR.out.go hB.out)).mono ?_;rw[h2];rintro e w2 ⟨v,rfl,hv,hb⟩;obtain⟨g7,c7,rfl,hc7,ho7⟩:=hv;have hni:=Zi4 ⟨g7,0,none⟩ n c7;have hO:=Za (ho7.less hB.out.size);replace hB:=Za (Below.up hB.out hb);clear hb ho7;go_wp2_with fail
  refine(Ua _ n c7 u _ (by omega) (ZfP hU.out.1 (by rw[hU.out.2];exact hn)) (hO.out.arr Zh)).mono ?_;rintro e w3 ⟨rfl,hb⟩;have hO2:=Za (hO.out.below hb);replace hB:=Za (Below.up hB.out hb);clear hb hO;go_wp2
  go_ret3
  exact⟨_,_,by rw[hM.out.1];rfl,by rw[hM.out.2,hU.out.2];exact hO2.out.res,hB.out⟩
def ZgB (x:Nat × Int × Int):List Value:=[.slice (some ⟨x.1,0,none⟩) 2 2]
theorem XI (x:Nat × Int × Int):(ZgB x).length=1:=rfl
theorem V3:∀x,∀u∈ZgB x,u.oneCell'=true:=by intro x u hu;simp[ZgB] at hu;subst hu;rfl
theorem Qc:(Tryz.prog.info? 60).map (λi=>(i.zero,i.size,i.bytes))=some (some (.slice none 0 0),1,24):=by kernel_rfl
structure PR (w:World)(base:Nat)(v:Value)(R:List (Nat × Int × Int)):Prop where
 row:Own ZgB 60 1 w base v R.length R
 two:∀r∈R,base<=r.1/\w.heap[r.1]?=some (.cells #[.int .i64 r.2.1,.int .i64 r.2.2] 2 (0,0))
theorem PR.below {w w':World}{base:Nat}{v:Value}{R:List (Nat × Int × Int)}(h:PR w base v R)(hb:Below w.heap.size w w'):PR w' base v R :=
 ⟨h.row.below hb,λr hr=>⟨(h.two r hr).1,(hb.block r.1 (Array.getElem?_eq_some_iff.1 (h.two r hr).2).1).trans (h.two r hr).2⟩⟩
theorem PR.app {w w':World}{base g:Nat}{v v':Value}{R:List (Nat × Int × Int)}{f m:Int}(h:PR w base v R)(hg:base<=g)(hh:w.heap[g]?=some (.cells #[.int .i64 f,.int .i64 m] 2 (0,0)))(ho:Own ZgB 60 1 w' base v' (R.length+1) (R++[(g,f,m)]))(hgr:w.grownBy w' v.ownBlock) :
  PR w' base v' (R++[(g,f,m)]):=by
 refine⟨by rw[List.length_append];exact ho,λr hr=>?_⟩;have k:∀(b:Nat) (cs:Array Value),w.heap[b]?=some (.cells cs 2 (0,0))→w'.heap[b]?=some (.cells cs 2 (0,0)):=λb cs hb =>
  (hgr.block b (Array.getElem?_eq_some_iff.1 hb).1 (λe=>Z0 h.row hb (by decide) e.symm)).trans hb
 rcases List.mem_append.1 hr with hr|hr
 ·exact⟨(h.two r hr).1,k _ _ (h.two r hr).2⟩
 ·rw[List.mem_singleton.1 hr];exact⟨hg,k _ _ hh⟩
theorem ZjH {S:Nat}{br:List Int}{f:Int}(h:br.contains ((f+(S:Int)-1)%(S:Int))=false):XJ S br f=true:=by unfold XJ;rw[h];rfl
theorem Zig {S:Nat}{br:List Int}{f:Int}(h:br.contains ((f+(S:Int)-1)%(S:Int))=true):XJ S br f = !(decide (br.length<S)||decide (0<f)):=by unfold XJ;rw[h,Bool.true_and]
theorem Zfe (S:Nat)(A:Option Addr)(n c:Nat)(br:List Int)(w:World)(hS:3<=S/\S<=60)(hbr:Z9 br 0 ((S:Int)-1)=true)(hr:Arr ZB 1 w w.heap.size A n br) :
  Calls Tryz.prog 243 #[.int .i64 (S:Int),.slice A n c] w λe w'=>∃v R,e = .returned v/\PR w' w.heap.size v R/\R.map Prod.snd=YU S br/\Below w.heap.size w w':=by
 have hlen:=Za hr.len;have hbd:=Za (Yd hbr);have hn:n<=60:=by have:=X8 hbr (by omega);rw[hr.len] at this;omega
 have hR:=Za hr;clear hbr;go_enter Tryz.func243,Tryz.ntmps243;go_wp2
 go_loopw [5,12] (λv i wr=>∃(k:Nat) (R:List (Nat × Int × Int)),k<=n/\i = .int .i64 k/\PR wr w.heap.size v R/\R.map Prod.snd=Xv S br k/\Below w.heap.size w wr) (λ_ i _=>n-(intOf i).toNat)
 case atStart=>exact⟨0,[],Nat.zero_le _,rfl,⟨Own.none_made w (Nat.le_refl _),by intro r hr;cases hr⟩,rfl,(Below.refl w.heap.size w).alloc (Nat.le_refl _) _⟩
 case round =>
  obtain⟨k,R,hk,rfl,hpr,hRm,hb⟩:=hrel;have hP:=Za hpr;have hM:=Za hRm;have hRl:R.length<=k:=by
   have:=congrArg List.length hRm;rw[List.length_map] at this;rw[this];exact Wq S br k
  clear hpr hRm;by_cases hlt:k<n
  ·obtain⟨b,o,f,rfl,hbl,hx,c0⟩:=hr.int hlt
   have d0:wr.cell? ⟨b,o+k,none⟩=some (.int .i64 f):=(hb.cell (p:=⟨b,o+k,none⟩) hbl).trans c0;have hX:=Za hx;clear hx c0;have hB:=Za hb;have hfb:=hbd.out f (List.mem_of_getElem? hX.out);have w1:IntKind.i64.wrap (f+(S:Int))=f+(S:Int):=IntWalk.i64_in _ (by omega);have w2:IntKind.i64.wrap (f+(S:Int)-1)=f+(S:Int)-1:=IntWalk.i64_in _ (by omega);obtain⟨z,hz⟩:∃z,z=(f+(S:Int)-1)%(S:Int):=⟨_,rfl⟩;have hzz:(f+(S:Int)-1)%(S:Int)=z:=hz.symm;have hzh:=Za hz;have h0:0<=f+(S:Int)-1:=by omega
   have hS0:(0:Int)<(S:Int):=by omega
   clear hr hb hz;have hlS:((n:Int)<(S:Int))↔br.length<S:=by rw[hlen.out];omega
   go_upto_region 5 with fail
   go_cut [33] (λv wx=>v = .bool (!(XJ S br f))/\Below wr.heap.size wr wx)
   case first =>
    cases hc1:br.contains z
    ·have hp:=Za (ZjH (S:=S) (f:=f) (by rw[hzz];exact hc1))
     go_wp2_with fail
     refine(XQ _ n c br z _ (by omega) (hR.out.go hB.out)).mono ?_;rw[hc1];rintro e w5 ⟨rfl,hb⟩;have hB5:=Za hb;clear hb;go_wp2_with fail
     go_meet
     exact⟨by rw[hp.out];rfl,hB5.out⟩
    ·have hp:=Za (Zig (S:=S) (f:=f) (by rw[hzz];exact hc1))
     by_cases h1:br.length<S
     ·have h2:decide ((n:Int)<(S:Int))=true:=decide_eq_true (hlS.2 h1)
      have h3:n<S:=by rw[hlen.out] at h1;exact h1
      have hq:Hid (XJ S br f=false):=Za (by rw[hp.out,decide_eq_true h1];rfl);clear hlS h1;go_wp2_with fail
      refine(XQ _ n c br z _ (by omega) (hR.out.go hB.out)).mono ?_;rw[hc1];rintro e w5 ⟨rfl,hb⟩;have hB5:=Za hb;clear hb;go_wp2_with fail
      go_meet
      exact⟨by rw[hq.out];rfl,hB5.out⟩
     ·have h2:decide ((n:Int)<(S:Int))=false:=decide_eq_false (λh=>h1 (hlS.1 h))
      have h3:¬n<S:=by rw[hlen.out] at h1;exact h1
      have hq:Hid (XJ S br f = !decide (0<f)):=Za (by rw[hp.out,decide_eq_false h1];rfl);clear hlS h1;go_wp2_with fail
      refine(XQ _ n c br z _ (by omega) (hR.out.go hB.out)).mono ?_;rw[hc1];rintro e w5 ⟨rfl,hb⟩;have hB5:=Za hb;clear hb;go_wp2_with fail
      go_meet
      exact⟨by rw[hq.out,Bool.not_not],hB5.out⟩
   case rest =>
    obtain⟨rfl,hb2⟩:=hcut;have hB2:=Za (Below.up hB.out hb2);have hP2:=Za (hP.out.below hb2);clear hb2 hlS w1 w2 hzz h0;cases hp:XJ S br f
    ·have hu:=Za (ZeS hX.out hp)
     clear hp;go_wp2
     go_roundw
     case rel=>exact⟨k+1,R,by omega,by go_num,hP2.out,by rw[hu.out];exact hM.out,hB2.out⟩
     case measure=>simp[intOf];omega
    ·have hu:=Za (ZcH hX.out hp)
     clear hp hP hB;obtain⟨wo,hwo⟩:∃wo:World,wo=wr:=⟨_,rfl⟩;clear hwo;obtain⟨wa,hwa⟩:∃wa:World,wa=wc:=⟨_,rfl⟩;rw[←hwa] at hB2 hP2 ⊢;clear hwa;go_wp2
     go_loopw [8] (λq wx=>∃j:Nat,1<=j/\j<=S/\q = .int .i64 (j:Int)/\Below wa.heap.size wa wx/\Hid (∀i,1<=i→i<j→br.contains ((f+(i:Int))%(S:Int))=true)) (λq _=>S-(intOf q).toNat)
     case atStart=>exact⟨1,Nat.le_refl _,by omega,rfl,Below.refl _ _,Za (by intro i h1 h2;omega)⟩
     case round =>
      obtain⟨j,hj1,hjS,rfl,hb3,hall⟩:=hrel;have hB3:=Za (Below.up hB2.out hb3);have hP3:=Za (hP2.out.below hb3);have hC3:=Za hb3;clear hb3;have v1:IntKind.i64.wrap (f+(j:Int))=f+(j:Int):=IntWalk.i64_in _ (by omega);obtain⟨y,hy⟩:∃y,y=(f+(j:Int))%(S:Int):=⟨_,rfl⟩;have hyy:(f+(j:Int))%(S:Int)=y:=hy.symm;have hyh:=Za hy;have hj0:0<=f+(j:Int):=by omega
      clear hy;by_cases hjl:j<S
      ·have hjd:decide (j<S)=true:=decide_eq_true hjl
       have hjd2:decide ((j:Int)<(S:Int))=true:=decide_eq_true (by omega);cases hc:br.contains y
       ·have hm:Hid (manyOf S br f=j):=Za (V4 hj1 hjS hall.out (.inr (by rw[hyy];exact hc)))
        go_wp2_with fail
        refine(XQ _ n c br y _ (by omega) (hR.out.go hB3.out)).mono ?_;rw[hc];rintro e w6 ⟨rfl,hb⟩;replace hB3:=Za (Below.up hB3.out hb);replace hP3:=Za (hP3.out.below hb);clear hb;go_wp2_with ((at_builtin;refine Zp (w6.heap.size+1) (by simp) rfl (.tmp 48) (.tmp 52) rfl Tryz.underlying242 Qc rfl (by omega) (by omega) XI V3 rfl (hP3.out.row.below ((Below.refl _ _).alloc (Nat.le_refl _) _)) ((w6.heap.size,f,(j:Int)):Nat × Int × Int) _ rfl rfl (by omega) (by have:=hB3.out.size;simp;omega) ?_;intro v5 w5 ho5 hg5 _;have hP5:=Za (PR.app (hP3.out.below ((Below.refl _ _).alloc (Nat.le_refl _) _)) hB3.out.size (heap_alloc_new _ _) ho5 hg5);have hB5:=Za (Zi (hB3.out.alloc hB3.out.size _) (hP3.out.row.below ((Below.refl _ _).alloc (Nat.le_refl _) _)) hg5 (by have:=hB3.out.size;simp;omega));clear ho5 hg5))
        go_roundw
        case rel=>exact⟨k+1,R++[(w6.heap.size,f,(j:Int))],by omega,by go_num,hP5.out,by rw[List.map_append,hM.out,hu.out,hm.out];rfl,hB5.out⟩
        case measure=>simp[intOf];omega
       ·have hnx:Hid (∀i,1<=i→i<j+1→br.contains ((f+(i:Int))%(S:Int))=true):=Za (by
         intro i h1 h2;by_cases hij:i=j
         ·subst hij;rw[hyy];exact hc
         ·exact hall.out i h1 (by omega))
        go_wp2_with fail
        refine(XQ _ n c br y _ (by omega) (hR.out.go hB3.out)).mono ?_;rw[hc];rintro e w6 ⟨rfl,hb⟩;replace hC3:=Za (Below.up hC3.out hb);clear hb;go_wp2
        go_roundw
        case rel=>exact⟨_,_,_,_,_,_,_,_,_,_,_,_,_,_,_,⟨j+1,by omega,by omega,by go_num,hC3.out,hnx⟩,rfl⟩
        case measure=>simp[intOf];omega
      ·have hjd:decide (j<S)=false:=decide_eq_false hjl
       have hjd2:decide ((j:Int)<(S:Int))=false:=decide_eq_false (by omega);have hm:Hid (manyOf S br f=j):=Za (V4 hj1 hjS hall.out (.inl (by omega)));go_wp2_with ((at_builtin;refine Zp (wr.heap.size+1) (by simp) rfl (.tmp 48) (.tmp 52) rfl Tryz.underlying242 Qc rfl (by omega) (by omega) XI V3 rfl (hP3.out.row.below ((Below.refl _ _).alloc (Nat.le_refl _) _)) ((wr.heap.size,f,(j:Int)):Nat × Int × Int) _ rfl rfl (by omega) (by have:=hB3.out.size;simp;omega) ?_;intro v5 w5 ho5 hg5 _;have hP5:=Za (PR.app (hP3.out.below ((Below.refl _ _).alloc (Nat.le_refl _) _)) hB3.out.size (heap_alloc_new _ _) ho5 hg5);have hB5:=Za (Zi (hB3.out.alloc hB3.out.size _) (hP3.out.row.below ((Below.refl _ _).alloc (Nat.le_refl _) _)) hg5 (by have:=hB3.out.size;simp;omega));clear ho5 hg5))
       go_roundw
       case rel=>exact⟨k+1,R++[(wr.heap.size,f,(j:Int))],by omega,by go_num,hP5.out,by rw[List.map_append,hM.out,hu.out,hm.out];rfl,hB5.out⟩
       case measure=>simp[intOf];omega
  ·have hkn:k=n:=by omega
   have hB:=Za hb;have hfin:Hid (R.map Prod.snd=YU S br):=Za (by rw[hM.out,hkn,←hlen.out];rfl);subst hkn;clear hb;go_wp2
   go_ret;exact⟨_,_,rfl,hP.out,hfin.out,hB.out⟩
end Go.Proofs.YtfpaejlipaainaaGreatDoor
