/- Texts that belong together, joined: contracts and plain laws. No statement is proved here. -/
import Derived.Test.YtfpaejlipaainaaGreatDoorM33
import Derived.Lib.AppendStr
import Derived.Lib.Builder
import Derived.Laws.Externs
set_option maxRecDepth 100000
set_option maxHeartbeats 4000000
namespace Go.Proofs.YtfpaejlipaainaaGreatDoor
open Go.ChangeShapes Go.WideShapes Go.ChangeAt Go.RowKit Go.Deep
def Few (L:List ByteArray):Prop:=L.length<=5000/\∀l∈L,l.size<=33554432
theorem Jd {s:ByteArray}(h:s.size<=33554432):Few [s]:=⟨by simp,λl hl=>by rw[List.mem_singleton.1 hl];exact h⟩
theorem Vy (a b:ByteArray):(a++b).size=a.size+b.size:=by simp
theorem Y5 {l:List Int}(h:I64 l)(hn:l.length<=1048576):(numLine l).size<=33554432:=by
 unfold numLine;split
 ·decide
 ·show(Lib.join (l.map λn=>(decB n).data.toList) [32]).toArray.size<=_
  rw[List.size_toArray];have h1:=ZaG (M:=21) 32 (l.map λn=>(decB n).data.toList) (λx hx=>by
   obtain⟨n,hn,rfl⟩:=List.mem_map.1 hx;have:=Zv n (h n hn).1 (h n hn).2;rw[Lib.size_eq] at this;exact this)
  rw[List.length_map] at h1;omega
theorem VT (d:DeskM)(hk:d.ks.length<=1048576)(hh:d.hs.length<=1048576):d.text.size<=33554432:=by
 unfold DeskM.text;split
 ·rename_i h
  obtain⟨h1,h2,h3,h4,h5⟩:=DeskM.ok_parts.1 h;have hst:d.st.size<=12:=by
   unfold strokeOk at h1;simp only[Bool.and_eq_true,decide_eq_true_eq] at h1;exact h1.1.2
  have hsk:=Zj.1 h2;have e1:=Zv d.sk (by omega) (by omega);have e2:=Zv (d.ks.length:Int) (by omega) (by omega);have e3:=Zv (d.hs.length:Int) (by omega) (by omega);unfold DeskM.txt;simp only[Vy];have q1:(⟨#[115,116,114,111,107,101,32]⟩:ByteArray).size=7:=rfl;have q2:(⟨#[44,32]⟩:ByteArray).size=2:=rfl;have q3:(⟨#[32,115,116,97,107,101,115,44,32]⟩:ByteArray).size=9:=rfl;have q4:(⟨#[32,107,105,110,100,115,44,32]⟩:ByteArray).size=8:=rfl;have q5:(⟨#[32,104,101,97,112,115]⟩:ByteArray).size=6:=rfl;omega
 ·decide
theorem Zfs (x:Heap):(mHeapT x).size<=33554432:=by
 unfold mHeapT;split
 ·rename_i h
  have hn:=UW h;have hs:x.fSort.size<=12:=by
   unfold ZU at hn;simp only[Bool.and_eq_true,decide_eq_true_eq] at hn;omega
  unfold Heap.ok at h;simp only[Bool.and_eq_true,Zj] at h;have e1:=Zv x.fYear (by omega) (by omega);have e2:=Zv x.fBundles (by omega) (by omega);unfold Zft;simp only[Vy];have q1:(⟨#[32]⟩:ByteArray).size=1:=rfl;omega
 ·decide
theorem ZdK (n:Nat)(h:n<=1048576):(okB n).size<=33554432:=by
 have:=ZcL (n:=n) (by omega);have e:=Zv (n:Int) (by omega) (by omega);unfold okB;rw[Vy];have h2:(⟨#[111,107,32]⟩:ByteArray).size=3:=rfl;omega
theorem Zim (d:DeskM)(c:Cmd)(ws:List ByteArray)(n:List Int)(h:d.ok=true):(mAsk d c ws n).1.size<=33554432:=by
 obtain⟨h1,h2,h3,h4,h5⟩:=DeskM.ok_parts.1 h;have hsk:=Zj.1 h2;cases c<;>simp only[mAsk]
 case cRound =>
  unfold mRoundT;split
  ·rw[Xk];omega
  ·decide
 case cWord =>
  unfold mRowT;split
  ·split
   ·rw[Xk];omega
   ·decide
  ·decide
 case cSound=>split<;>decide
 case cAdd=>exact Y5 (Zcf _ _ _) (by simp)
 case cJoins=>exact Y5 (ZcK _ _ _) (ZcJ _ _ _)
 case cBroken=>exact Y5 (ZcN _ hsk) (ZcM _ hsk)
 case cFew=>exact Y5 (Zda _ h3) (Zc9 _ h3)
 all_goals decide
theorem ZgT {l:List Kind}(h:ZD l=true):l.length<=4:=(V8 h).2
theorem ZjO {d:DeskM}{c:Cmd}{ws:List ByteArray}(h:d.ok=true)(hw:ws.length<=1048577):Few (mDo d c ws).2.1:=by
 obtain⟨h1,h2,h3,h4,h5⟩:=DeskM.ok_parts.1 h;have hks:=ZgT h3;have hhs:=Wu h4;unfold mDo;split
 ·unfold mText
  cases c<;>simp only
  case cStroke =>
   split
   ·exact Jd (VT _ (by show d.ks.length<=_;omega) (by show d.hs.length<=_;omega))
   ·exact⟨Nat.zero_le _,λl hl=>by cases hl⟩
  case cHeap =>
   split
   ·exact Jd (VT _ (by show d.ks.length<=_;omega) ZcC)
   ·exact⟨Nat.zero_le _,λl hl=>by cases hl⟩
  case cHeaps =>
   refine⟨by simp;omega,λl hl=>?_⟩;rcases List.mem_append.1 hl with hl|hl
   ·obtain⟨x,_,rfl⟩:=List.mem_map.1 hl
    exact Zfs x
   ·rw[List.mem_singleton.1 hl]
    exact ZdK _ (by omega)
  case cLog =>
   have hle:(mEnts d.lg).length<=4000:=by unfold mEnts;rw[if_pos h5];exact WA h5
   refine⟨by simp;omega,λl hl=>?_⟩;rcases List.mem_append.1 hl with hl|hl
   ·obtain⟨x,hx,rfl⟩:=List.mem_map.1 hl
    have:=Xe (ZaD d.lg x hx);omega
   ·rw[List.mem_singleton.1 hl]
    exact ZdK _ (by omega)
  all_goals exact⟨Nat.zero_le _,λl hl=>by cases hl⟩
 ·split
  ·refine Jd ?_
   have hnl:((c.nums ws).map rdI).length<=1048576:=by
    rw[List.length_map];have:=Y4 c.skip ws.tail ws.tail.length;unfold Cmd.nums;rw[List.length_tail] at this ⊢;omega
   generalize (c.nums ws).map rdI=N at hnl
   unfold mWork;cases c<;>simp only
   case cStakes =>
    split
    ·exact VT _ (by show d.ks.length<=_;omega) (by show d.hs.length<=_;omega)
    ·show(⟨#[]⟩:ByteArray).size<=_;decide
   case cKinds =>
    refine VT _ ?_ (by show d.hs.length<=_;omega);show(Yn N).length<=_
    unfold Yn;split
    ·unfold XY Yq
     rw[List.length_map,List.length_range];omega
    ·exact Nat.zero_le _
   case cEnter=>exact Y5 (Zak _ _) (by simp)
   all_goals exact Zim _ _ _ _ h
  ·exact Jd (by decide)
theorem Zho (n:Int):(errB n).size<=33554432:=by
 unfold errB;rw[Vy];have h2:(⟨#[101,114,114,111,114,32]⟩:ByteArray).size=6:=rfl;have h3:(XA n).size<=9:=by
  unfold XA;repeat' split
  all_goals decide
 omega
theorem V5 {d d':DeskM}{s:ByteArray}{out:List ByteArray}(h:d.ok=true)(hs:s.size<=1048576)(hl:mLine d s=some (d',out)):Few out:=by
 have hw:(words 32 s).length<=1048577:=by have:=Yh 32 s;omega
 unfold mLine at hl;split at hl
 ·cases hl
 ·split at hl
  ·split at hl
   ·have e2:=congrArg Prod.snd (Option.some.inj hl)
    simp only at e2;rw[←e2];exact ZjO h hw
   ·have e2:=congrArg Prod.snd (Option.some.inj hl)
    simp only at e2;rw[←e2];exact Jd (Zho _)
  ·cases hl
def BD (w:World)(B b:Nat)(S:ByteArray):Prop:=Lib.IsBuilder 69 5 B b (Lib.strCells S) w
def BFr (b:Nat)(w w':World):Prop:=w.heap.size<=w'.heap.size/\∀(k:Nat) (cs:Array Value) (t:TypeId),w.heap[k]?=some (.cells cs t (0,0))→t≠5→k≠b→w'.heap[k]?=some (.cells cs t (0,0))
theorem BFr.refl (b:Nat)(w:World):BFr b w w:=⟨Nat.le_refl _,λ_ _ _ h _ _=>h⟩
theorem BFr.trans {b:Nat}{w w1 w2:World}(h:BFr b w w1)(k:BFr b w1 w2):BFr b w w2:=⟨Nat.le_trans h.1 k.1,λj cs t hj ht hn=>k.2 j cs t (h.2 j cs t hj ht hn) ht hn⟩
theorem BFr.set (b i:Nat)(w:World)(u:Value):BFr b w (w.setCell ⟨b,i,none⟩ u):=⟨(Zl w b i u).size,λ_ _ _ h _ hn=>ZX h (Zl w b i u) hn⟩
theorem Qs {w:World}{B e s n g:Nat}{v:Value}{l:List Value}{cs:Array Value}{t:TypeId}(h:w.ownsRow B e s v n l)(hb:w.heap[g]?=some (.cells cs t (0,0)))(hne:e≠t):v.ownBlock≠some g:=by
 rcases h.2 with ⟨rfl,_⟩|⟨g',cap,cur,rfl,_,hh,_⟩
 ·simp[Value.ownBlock]
 ·intro he
  have:g'=g:=by simpa[Value.ownBlock] using he
  subst this;rw[hb] at hh;cases hh
  exact hne rfl
section
variable {w w':World}{B b:Nat}{S:ByteArray}
theorem BD.row (h:BD w B b S):∃p v,w.heap[b]?=some (.cells #[p,v] 69 (0,0)):=by
 rcases h with ⟨_,v,h,_⟩|⟨_,v,h,_⟩
 ·exact⟨_,v,h⟩
 ·exact⟨_,v,h⟩
theorem Zd4 {p:Value}{bs:List Value}(h:Lib.BuilderAt 69 5 B b p bs w)(hb:Below w.heap.size w w'):Lib.BuilderAt 69 5 B b p bs w':=by
 obtain⟨hB,v,h1,h2,h3⟩:=h;have hg:w.grownBy w' none:=⟨hb.os,hb.tape,hb.output,hb.size,λi hi _=>hb.block i hi⟩;refine⟨hB,v,(hb.block b (Array.getElem?_eq_some_iff.1 h1).1).trans h1,h2.kept hg ?_,h3⟩;cases hv:v.ownBlock with
 | none=>exact .inl rfl
 | some g=>exact .inr (by simp)
theorem BD.below (h:BD w B b S)(hb:Below w.heap.size w w'):BD w' B b S:=by
 rcases h with h|h
 ·exact .inl (Zd4 h hb)
 ·exact .inr (Zd4 h hb)
theorem Zje {p:Value}{bs:List Value}{g i:Nat}{u:Value}{cs:Array Value}{t:TypeId}(h:Lib.BuilderAt 69 5 B b p bs w)(hg:w.heap[g]?=some (.cells cs t (0,0)))(h1:t≠5)(h2:t≠69):Lib.BuilderAt 69 5 B b p bs (w.setCell ⟨g,i,none⟩ u):=by
 obtain⟨hB,v,k1,k2,k3⟩:=h;have hne:b≠g:=by
  intro e;subst e;rw[k1] at hg;cases hg;exact h2 rfl
 exact⟨hB,v,ZX k1 (Zl w g i u) hne,k2.kept (Zl w g i u) (.inr (Qs k2 hg (Ne.symm h1))),k3⟩
theorem BD.set {g i:Nat}{u:Value}{cs:Array Value}{t:TypeId}(h:BD w B b S)(hg:w.heap[g]?=some (.cells cs t (0,0)))(h1:t≠5)(h2:t≠69):BD (w.setCell ⟨g,i,none⟩ u) B b S:=by
 rcases h with h|h
 ·exact .inl (Zje h hg h1 h2)
 ·exact .inr (Zje h hg h1 h2)
end
section
theorem ZL {w:World}{u0 u1 u2 u3 u4 u5 u6 u7:Value}{t:TypeId}{g:Nat}(h:w.heap[g]?=some (.cells #[u0,u1,u2,u3,u4,u5,u6,u7] t (0,0))) :
  w.cell? ⟨g,0,none⟩=some u0/\w.cell? ⟨g,1,none⟩=some u1/\w.cell? ⟨g,2,none⟩=some u2/\w.cell? ⟨g,3,none⟩=some u3/\w.cell? ⟨g,4,none⟩=some u4/\w.cell? ⟨g,5,none⟩=some u5/\w.cell? ⟨g,6,none⟩=some u6/\w.cell? ⟨g,7,none⟩=some u7/\∀j:Nat,w.frozen? ⟨g,j,none⟩=false :=
 ⟨by rw[cell_of_row _ _ _ _ _ _ h];rfl,by rw[cell_of_row _ _ _ _ _ _ h];rfl,by rw[cell_of_row _ _ _ _ _ _ h];rfl,by rw[cell_of_row _ _ _ _ _ _ h];rfl,by rw[cell_of_row _ _ _ _ _ _ h];rfl,by rw[cell_of_row _ _ _ _ _ _ h];rfl,by rw[cell_of_row _ _ _ _ _ _ h];rfl,by rw[cell_of_row _ _ _ _ _ _ h];rfl,λj=>frozen_of_row _ _ _ _ _ h⟩
theorem Zcm (k:Nat)(x:DeskV)(vo vn vt:Value)(w:World)(hk:w.heap[k]?=some (.cells #[.string x.fStroke,.int .i64 x.fStakes,.slice x.A x.n x.c,.slice x.A' x.n' x.c',.string x.fLog,vo,vn,vt] 81 (0,0)))(hs1:x.fStroke.size<=12)(q0:3<=x.fStakes)(q1:x.fStakes<=60)(q2:x.n<=4)(q3:x.n'<=20) :
  Calls Tryz.prog 215 #[.pointer (some ⟨k,0,none⟩)] w λe w'=>e = .returned (.string (ZaR x))/\Below w.heap.size w w':=by
 have hK:=Za hk;have hB:=Za (Below.refl w.heap.size w);clear hk;go_enter Tryz.func215,Tryz.ntmps215;go_upto_region 1 with fail
 obtain⟨W1,hW1⟩:∃W1:World,W1=w:=⟨_,rfl⟩;rw[←hW1];replace hK:Hid (W1.heap[k]?=some (.cells #[.string x.fStroke,.int .i64 x.fStakes,.slice x.A x.n x.c,.slice x.A' x.n' x.c',.string x.fLog,vo,vn,vt] 81 (0,0))):=Za (by rw[hW1];exact hK.out);replace hB:Hid (Below w.heap.size w W1):=Za (by rw[hW1];exact hB.out);clear hW1;have s1:=Zv x.fStakes (by omega) (by omega);have s2:=Zv (x.n:Int) (by omega) (by omega);have s3:=Zv (x.n':Int) (by omega) (by omega);obtain⟨S,hS⟩:∃S,S=x.fStroke:=⟨_,rfl⟩;obtain⟨d1,hd1⟩:∃d,d=decB x.fStakes:=⟨_,rfl⟩;obtain⟨d2,hd2⟩:∃d,d=decB (x.n:Int):=⟨_,rfl⟩;obtain⟨d3,hd3⟩:∃d,d=decB (x.n':Int):=⟨_,rfl⟩;have hD1:=Za hd1.symm;have hD2:=Za hd2.symm;have hD3:=Za hd3.symm;rw[←hS] at hs1 hK;rw[←hd1] at s1;rw[←hd2] at s2;rw[←hd3] at s3;have hSS:=Za hS;clear hS hd1 hd2 hd3;have l0:(⟨#[115,116,114,111,107,101,32]⟩:ByteArray).size=7:=rfl;have l1:(⟨#[44,32]⟩:ByteArray).size=2:=rfl;have l2:(⟨#[32,115,116,97,107,101,115,44,32]⟩:ByteArray).size=9:=rfl;have l3:(⟨#[32,107,105,110,100,115,44,32]⟩:ByteArray).size=8:=rfl;have l4:(⟨#[32,104,101,97,112,115]⟩:ByteArray).size=6:=rfl;have z0:(⟨#[115,116,114,111,107,101,32]⟩:ByteArray).size<=7:=by omega
 have j1:=Zr ((⟨#[115,116,114,111,107,101,32]⟩:ByteArray)) S (by omega);have z1:((⟨#[115,116,114,111,107,101,32]⟩:ByteArray)++S).size<=19:=by rw[ByteArray.size_append];omega
 have j2:=Zr ((⟨#[115,116,114,111,107,101,32]⟩:ByteArray)++S) ⟨#[44,32]⟩ (by omega);have z2:((⟨#[115,116,114,111,107,101,32]⟩:ByteArray)++S++⟨#[44,32]⟩).size<=21:=by rw[ByteArray.size_append];omega
 have j3:=Zr ((⟨#[115,116,114,111,107,101,32]⟩:ByteArray)++S++⟨#[44,32]⟩) d1 (by omega);have z3:((⟨#[115,116,114,111,107,101,32]⟩:ByteArray)++S++⟨#[44,32]⟩++d1).size<=42:=by rw[ByteArray.size_append];omega
 have j4:=Zr ((⟨#[115,116,114,111,107,101,32]⟩:ByteArray)++S++⟨#[44,32]⟩++d1) ⟨#[32,115,116,97,107,101,115,44,32]⟩ (by omega);have z4:((⟨#[115,116,114,111,107,101,32]⟩:ByteArray)++S++⟨#[44,32]⟩++d1++⟨#[32,115,116,97,107,101,115,44,32]⟩).size<=51:=by rw[ByteArray.size_append];omega
 have j5:=Zr ((⟨#[115,116,114,111,107,101,32]⟩:ByteArray)++S++⟨#[44,32]⟩++d1++⟨#[32,115,116,97,107,101,115,44,32]⟩) d2 (by omega);have z5:((⟨#[115,116,114,111,107,101,32]⟩:ByteArray)++S++⟨#[44,32]⟩++d1++⟨#[32,115,116,97,107,101,115,44,32]⟩++d2).size<=72:=by rw[ByteArray.size_append];omega
 have j6:=Zr ((⟨#[115,116,114,111,107,101,32]⟩:ByteArray)++S++⟨#[44,32]⟩++d1++⟨#[32,115,116,97,107,101,115,44,32]⟩++d2) ⟨#[32,107,105,110,100,115,44,32]⟩ (by omega);have z6:((⟨#[115,116,114,111,107,101,32]⟩:ByteArray)++S++⟨#[44,32]⟩++d1++⟨#[32,115,116,97,107,101,115,44,32]⟩++d2++⟨#[32,107,105,110,100,115,44,32]⟩).size<=80:=by rw[ByteArray.size_append];omega
 have j7:=Zr ((⟨#[115,116,114,111,107,101,32]⟩:ByteArray)++S++⟨#[44,32]⟩++d1++⟨#[32,115,116,97,107,101,115,44,32]⟩++d2++⟨#[32,107,105,110,100,115,44,32]⟩) d3 (by omega);have z7:((⟨#[115,116,114,111,107,101,32]⟩:ByteArray)++S++⟨#[44,32]⟩++d1++⟨#[32,115,116,97,107,101,115,44,32]⟩++d2++⟨#[32,107,105,110,100,115,44,32]⟩++d3).size<=101:=by rw[ByteArray.size_append];omega
 have j8:=Zr ((⟨#[115,116,114,111,107,101,32]⟩:ByteArray)++S++⟨#[44,32]⟩++d1++⟨#[32,115,116,97,107,101,115,44,32]⟩++d2++⟨#[32,107,105,110,100,115,44,32]⟩++d3) ⟨#[32,104,101,97,112,115]⟩ (by omega);have z8:((⟨#[115,116,114,111,107,101,32]⟩:ByteArray)++S++⟨#[44,32]⟩++d1++⟨#[32,115,116,97,107,101,115,44,32]⟩++d2++⟨#[32,107,105,110,100,115,44,32]⟩++d3++⟨#[32,104,101,97,112,115]⟩).size<=107:=by rw[ByteArray.size_append];omega
 clear z0 z1 z2 z3 z4 z5 z6 z7 z8;clear l0 l1 l2 l3 l4;have hdr:Below W1.heap.size W1 W1.drew:=Zb (Below.refl _ _) 1;replace hB:=Za (Below.up hB.out hdr);replace hK:=Za (Ze hK.out hdr);clear hdr;obtain⟨c0,c1,c2,c3,_⟩:=ZL hK.out;go_region_held3 (λw'=>w'.cell? ⟨k,0,none⟩=some (.string S)/\w'.cell? ⟨k,1,none⟩=some (.int .i64 x.fStakes)/\w'.cell? ⟨k,2,none⟩=some (.slice x.A x.n x.c)/\w'.cell? ⟨k,3,none⟩=some (.slice x.A' x.n' x.c')) (first|go_keep|exact⟨(ZL hK.out).1,(ZL hK.out).2.1,(ZL hK.out).2.2.1,(ZL hK.out).2.2.2.1⟩) (first|(go_at_call 148;(with_reducible refine(Yw x.fStakes _ (by omega) (by omega)).mono ?_);rw[hD1.out];rintro e w2 ⟨rfl,hb⟩;replace hB:=Za (Below.up hB.out hb);replace hK:=Za (Ze hK.out hb);clear hb c0 c1 c2 c3;obtain⟨c0,c1,c2,c3,_⟩:=ZL hK.out)|(go_at_call 148;(with_reducible refine(Yw (x.n:Int) _ (by omega) (by omega)).mono ?_);rw[hD2.out];rintro e w2 ⟨rfl,hb⟩;replace hB:=Za (Below.up hB.out hb);replace hK:=Za (Ze hK.out hb);clear hb c0 c1 c2 c3;obtain⟨c0,c1,c2,c3,_⟩:=ZL hK.out)|(go_at_call 148;(with_reducible refine(Yw (x.n':Int) _ (by omega) (by omega)).mono ?_);rw[hD3.out];rintro e w2 ⟨rfl,hb⟩;replace hB:=Za (Below.up hB.out hb);replace hK:=Za (Ze hK.out hb);clear hb c0 c1 c2 c3;obtain⟨c0,c1,c2,c3,_⟩:=ZL hK.out)|fail)
 all_goals go_wp2
 all_goals go_ret
 all_goals exact⟨by unfold ZaR;rw[←hSS.out,hD1.out,hD2.out,hD3.out];rfl,hB.out⟩
theorem Own.ty {α:Type}{cells:α→List Value}{e s n base:Nat}{v:Value}{l:List α}{w w':World}(h:Own cells e s w base v n l){r:Option Nat}(hg:w.grownBy w' r)(hr:∀b,r=some b→∃cs t,w.heap[b]?=some (.cells cs t (0,0))/\e≠t):Own cells e s w' base v n l:=by
 refine h.kept hg ?_;cases r with
 | none=>cases v.ownBlock<;>simp
 | some b =>
  obtain⟨cs,t,hb,he⟩:=hr b rfl;exact .inr (Qs h.2 hb he)
theorem Res.ty {α:Type}{cells:α→List Value}{e s n base:Nat}{v:Value}{l:List α}{w w':World}(h:Res cells e s w base v n l){r:Option Nat}(hg:w.grownBy w' r)(hr:∀b,r=some b→∃cs t,w.heap[b]?=some (.cells cs t (0,0))/\e≠t):Res cells e s w' base v n l :=
 ⟨h.1,h.2.1,λhn=>(h.2.2 hn).ty hg hr⟩
theorem Own.blk {α:Type}{cells:α→List Value}{e s n base:Nat}{v:Value}{l:List α}{w:World}(h:Own cells e s w base v n l):∀b,v.ownBlock=some b→∃cs,w.heap[b]?=some (.cells cs e (0,0)):=by
 intro b hb;rcases h.2.2 with ⟨rfl,_⟩|⟨g',cap,cur,rfl,_,hh,_⟩
 ·simp[Value.ownBlock] at hb
 ·have:g'=b:=by simpa[Value.ownBlock] using hb
  subst this;exact⟨cur,hh⟩
structure RowS where
 v:Value
 n:Nat
 l:List ByteArray
variable {R:RowS}
structure SG (R:RowS)(w:World)(base g:Nat)(x:DeskV)(O:List ByteArray)(vo vn vt:Value):Prop where
 box:w.heap[g]?=some (.cells #[.string x.fStroke,.int .i64 x.fStakes,.slice x.A x.n x.c,.slice x.A' x.n' x.c',.string x.fLog,vo,vn,vt] 81 (0,0))
 dv:DV w base x
 out:Own ZY 9 1 w base vo O.length O
 hg:base<=g
 pr:Own ZY 9 1 w base R.v R.n R.l
 ap:Uj vo R.v
theorem J9 {a b:Value}(h:Uj a b):b.ownBlock=none\/b.ownBlock≠a.ownBlock:=by
 rcases h with h|h
 ·cases hb:b.ownBlock with
  | none=>exact .inl rfl
  | some k=>exact .inr (by rw[h];simp)
 ·exact .inr (λe=>h e.symm)
section
variable {w w':World}{base g:Nat}{x:DeskV}{O:List ByteArray}{vo vn vt v:Value}{t:ByteArray}
theorem SG.lt (h:SG R w base g x O vo vn vt):g<w.heap.size:=(Array.getElem?_eq_some_iff.1 h.box).1
theorem SG.bw (h:SG R w base g x O vo vn vt):base<=w.heap.size:=Nat.le_trans h.hg (Nat.le_of_lt h.lt)
theorem SG.below (h:SG R w base g x O vo vn vt)(hb:Below w.heap.size w w'):SG R w' base g x O vo vn vt:=⟨Ze h.box hb,h.dv.below hb,h.out.below hb,h.hg,h.pr.below hb,h.ap⟩
theorem DV.ty (h:DV w base x){r:Option Nat}(hg:w.grownBy w' r)(hr:∀b,r=some b→∃cs t,w.heap[b]?=some (.cells cs t (0,0))/\103≠t/\106≠t):DV w' base x :=
 ⟨h.k.ty hg (λb hb=>let ⟨cs,t,h1,h2,_⟩:=hr b hb;⟨cs,t,h1,h2⟩),h.h.ty hg (λb hb=>let ⟨cs,t,h1,_,h2⟩:=hr b hb;⟨cs,t,h1,h2⟩),h.nk,h.nh,h.fit⟩
theorem SG.boxg (h:SG R w base g x O vo vn vt)(hg:w.grownBy w' vo.ownBlock):w'.heap[g]?=some (.cells #[.string x.fStroke,.int .i64 x.fStakes,.slice x.A x.n x.c,.slice x.A' x.n' x.c',.string x.fLog,vo,vn,vt] 81 (0,0)) :=
 (hg.block g h.lt (λe=>Qs h.out.2 h.box (by decide) e.symm)).trans h.box
theorem SG.said (h:SG R w base g x O vo vn vt){O':List ByteArray}(ho:Own ZY 9 1 w' base v O'.length O')(hg:w.grownBy w' vo.ownBlock)(ha:v.ownBlock=vo.ownBlock\/∃k,v.ownBlock=some k/\w.heap.size<=k):SG R (w'.setCell ⟨g,5,none⟩ v) base g x O' v vn vt:=by
 have hb:=h.boxg hg;have hd:DV w' base x:=h.dv.ty hg (λb hb=>let ⟨cs,h1⟩:=h.out.blk b hb;⟨cs,_,h1,by decide,by decide⟩);have hs:=Zl w' g 5 v;have hap:Uj v R.v:=by
  rcases ha with ha|⟨k,hk,hle⟩
  ·unfold Uj;rw[ha];exact h.ap
  ·refine .inr ?_
   rw[hk];intro e;have:=(h.pr.2.lt k e.symm).2;omega
 exact⟨Zk hb 5 v,hd.ty hs (λb hb2=>by injection hb2 with e;subst e;exact⟨_,_,hb,by decide,by decide⟩),ho.ty hs (λb hb2=>by injection hb2 with e;subst e;exact⟨_,_,hb,by decide⟩),h.hg,(h.pr.kept hg (J9 h.ap)).kept hs (.inr (Z0 (h.pr.kept hg (J9 h.ap)) hb (by decide))),hap⟩
theorem SG.saidBelow (h:SG R w base g x O vo vn vt)(hg:w.grownBy w' vo.ownBlock):Below base w (w'.setCell ⟨g,5,none⟩ v) :=
 (Zi (Below.refl base w) h.out hg h.bw).setCell (p:=⟨g,5,none⟩) h.hg v
end
theorem Wa:(Tryz.prog.info? 9).map (λi=>(i.zero,i.size,i.bytes))=some (some (.string ByteArray.empty),1,16):=by kernel_rfl
def Said (R:RowS)(w:World)(base g:Nat)(x:DeskV)(O:List ByteArray)(vn vt:Value)(w':World):Prop:=∃vo,SG R w' base g x O vo vn vt/\Below base w w'
theorem Xx (w:World)(base g:Nat)(x:DeskV)(O:List ByteArray)(vo vn vt:Value)(t:ByteArray)(h:SG R w base g x O vo vn vt)(hn:O.length<=1048576) :
  Calls Tryz.prog 56 #[.pointer (some ⟨g,0,none⟩),.string t] w λe w'=>e = .returned (.tuple #[])/\Said R w base g x (O++[t]) vn vt w':=by
 have hS:=Za h;have hb0:=ZL h.box;have c5:=hb0.2.2.2.2.2.1;have hO:=Za h.out;have hBw:=Za h.bw;clear h hb0;go_enter Tryz.func56,Tryz.ntmps56;go_wp2_with (at_builtin;refine Zp w.heap.size rfl rfl (.tmp 8) (.tmp 10) rfl Tryz.underlying24 Wa rfl (by omega) (by omega) Zf YJ rfl hO.out t _ rfl rfl hn hBw.out ?_;intro v5 w5 ho5 hg5 hat5;obtain⟨A5,d5,rfl,_⟩:=ho5.slice;have hat:=Za (hat5.imp id (λe=>(⟨_,e,Nat.le_succ _⟩:∃k,(Value.slice A5 _ d5).ownBlock=some k/\w.heap.size<=k)));have e5:=(ZL (hS.out.boxg hg5)).2.2.2.2.2.1;have hO5:=Za ho5;have hg5h:=Za hg5;have f5:=frozen_of_row w5 g 5 _ _ (hS.out.boxg hg5);clear ho5 hg5 hat5)
 go_end0
 exact⟨rfl,_,hS.out.said (O':=O++[t]) (by rw[List.length_append];exact hO5.out) hg5h.out hat.out,hS.out.saidBelow hg5h.out⟩
end
section
variable {R:RowS}
theorem Zew (n:Int)(w:World)(h0:0<=n)(h1:n<=10):Calls Tryz.prog 111 #[.int .i64 n] w λe w'=>e = .returned (.string (XA n))/\Below w.heap.size w w':=by
 have hin:inB n 0 10=true:=Zj.2 ⟨h0,h1⟩;rcases(by omega:n=0\/n=1\/n=2\/n=3\/n=4\/n=5\/n=6\/n=7\/n=8\/n=9\/n=10) with rfl|rfl|rfl|rfl|rfl|rfl|rfl|rfl|rfl|rfl|rfl
 all_goals (
  clear h0 h1;go_enter Tryz.func111,Tryz.ntmps111;go_wp2_with (go_at_call 135;refine(Yc _ _ _ _).mono ?_;rw[hin];rintro e w' ⟨rfl,rfl⟩)
  go_ret;exact⟨rfl,by go_grown⟩)
theorem VY (w:World)(p:Value):Calls Tryz.prog 55 #[p,.int .i64 0] w λe w'=>e = .returned (.bool false)/\w=w':=by
 go_enter Tryz.func55,Tryz.ntmps55;go_wp2
 go_ret;exact⟨rfl,rfl⟩
section
variable {w w':World}{base g:Nat}{x:DeskV}{O:List ByteArray}{vo vn vt:Value}
theorem Said.from {w1:World}{O':List ByteArray}(h:SG R w base g x O vo vn vt)(hb:Below w.heap.size w w1)(k:Said R w1 base g x O' vn vt w'):Said R w base g x O' vn vt w':=by
 obtain⟨v,h1,h2⟩:=k;exact⟨v,h1,(hb.mono h.bw).trans h2⟩
end
theorem YK (w:World)(base g:Nat)(x:DeskV)(O:List ByteArray)(vo vn vt:Value)(n:Int)(h:SG R w base g x O vo vn vt)(hO:O.length<=1048576)(h1:1<=n)(h2:n<=10) :
  Calls Tryz.prog 55 #[.pointer (some ⟨g,0,none⟩),.int .i64 n] w λe w'=>e = .returned (.bool true)/\Said R w base g x (O++[errB n]) vn vt w':=by
 have hS:=Za h;have hne:(n==0)=false:=by simp;omega
 have hcat:=Zr (⟨#[101,114,114,111,114,32]⟩:ByteArray) (XA n) (We n);have h0:0<=n:=by omega
 clear h h1;go_enter Tryz.func55,Tryz.ntmps55;go_wp2_with fail
 refine(Zew n _ h0 h2).mono ?_;rintro e w1 ⟨rfl,hb⟩;have hB:=Za hb;clear hb;go_wp2_with fail
 refine(Xx _ base g x O vo vn vt (errB n) (hS.out.below hB.out) hO).mono ?_;rintro e w2 ⟨rfl,hs⟩;have hR:=Za (Said.from hS.out hB.out hs);clear hs;go_wp2
 go_ret;exact⟨rfl,hR.out⟩
def sayB (code:Int)(t:ByteArray):ByteArray:=if code=0 then t else errB code
theorem VX (w:World)(base g:Nat)(x:DeskV)(O:List ByteArray)(vo vn vt:Value)(t:ByteArray)(code:Int)(h:SG R w base g x O vo vn vt)(hO:O.length<=1048576)(h1:0<=code)(h2:code<=10) :
  Calls Tryz.prog 159 #[.pointer (some ⟨g,0,none⟩),.string t,.int .i64 code] w λe w'=>e = .returned (.tuple #[])/\Said R w base g x (O++[sayB code t]) vn vt w':=by
 have hS:=Za h;clear h;by_cases h0:code=0
 ·subst h0
  have hM:Hid (sayB 0 t=t):=Za (if_pos rfl);go_enter Tryz.func159,Tryz.ntmps159;go_wp2_with fail
  refine(VY _ _).mono ?_;rintro e w1 ⟨rfl,rfl⟩;go_wp2_with fail
  refine(Xx _ base g x O vo vn vt t hS.out hO).mono ?_;rintro e w2 ⟨rfl,hs⟩;have hR:=Za hs;clear hs;go_wp2
  go_end0
  exact⟨rfl,by rw[hM.out];exact hR.out⟩
 ·have hM:Hid (sayB code t=errB code):=Za (if_neg h0)
  go_enter Tryz.func159,Tryz.ntmps159;go_wp2_with fail
  refine(YK _ base g x O vo vn vt code hS.out hO (by omega) h2).mono ?_;rintro e w1 ⟨rfl,hs⟩;have hR:=Za hs;clear hs;go_wp2
  go_end0
  exact⟨rfl,by rw[hM.out];exact hR.out⟩
theorem Zcq (w:World)(base g:Nat)(x:DeskV)(O:List ByteArray)(vo vn vt:Value)(n code:Int)(h:SG R w base g x O vo vn vt)(hO:O.length<=1048576)(h1:0<=code)(h2:code<=10)(hn : -9223372036854775808<=n/\n<=9223372036854775807) :
  Calls Tryz.prog 143 #[.pointer (some ⟨g,0,none⟩),.int .i64 n,.int .i64 code] w λe w'=>e = .returned (.tuple #[])/\Said R w base g x (O++[sayB code (decB n)]) vn vt w':=by
 have hS:=Za h;clear h;by_cases h0:code=0
 ·subst h0
  have hM:Hid (sayB 0 (decB n)=decB n):=Za (if_pos rfl);go_enter Tryz.func143,Tryz.ntmps143;go_wp2_with fail
  refine(VY _ _).mono ?_;rintro e w1 ⟨rfl,rfl⟩;go_wp2_with fail
  refine(Yw n _ hn.1 hn.2).mono ?_;rintro e w1 ⟨rfl,hb⟩;have hB:=Za hb;clear hb;go_wp2_with fail
  refine(Xx _ base g x O vo vn vt (decB n) (hS.out.below hB.out) hO).mono ?_;rintro e w2 ⟨rfl,hs⟩;have hR:=Za (Said.from hS.out hB.out hs);clear hs;go_wp2
  go_end0
  exact⟨rfl,by rw[hM.out];exact hR.out⟩
 ·have hM:Hid (sayB code (decB n)=errB code):=Za (if_neg h0)
  go_enter Tryz.func143,Tryz.ntmps143;go_wp2_with fail
  refine(YK _ base g x O vo vn vt code hS.out hO (by omega) h2).mono ?_;rintro e w1 ⟨rfl,hs⟩;have hR:=Za hs;clear hs;go_wp2
  go_end0
  exact⟨rfl,by rw[hM.out];exact hR.out⟩
theorem VD (n:Int):numLine [n]=decB n:=by
 unfold numLine;rw[if_neg (by simp),List.map_cons,List.map_nil,Lib.join_one]
theorem Zbz {l:List Int}(h:l≠[])(n:Int):numLine (l++[n])=numLine l++((⟨#[32]⟩:ByteArray)++decB n):=by
 obtain⟨a,r,rfl⟩:=List.exists_cons_of_ne_nil h;unfold numLine;rw[if_neg (by simp),if_neg (by simp)];apply YI
 rw[ByteArray.toList_eq,ByteArray.toList_eq];simp[Lib.join_cons,Lib.joinTail]
theorem Zf4 (w:World)(base g:Nat)(x:DeskV)(O:List ByteArray)(vo vn vt:Value)(A:Option Addr)(n c:Nat)(l:List Int)(h:SG R w base g x O vo vn vt)(hO:O.length<=1048576)(hn:n<=1048576)(hl:I64 l)(hr:Arr ZB 1 w w.heap.size A n l) :
  Calls Tryz.prog 206 #[.pointer (some ⟨g,0,none⟩),.slice A n c] w λe w'=>e = .returned (.tuple #[])/\Said R w base g x (O++[numLine l]) vn vt w':=by
 have hS:=Za h;have hlen:=Za hr.len;have hlh:=Za hl;clear h hl;go_enter Tryz.func206,Tryz.ntmps206;go_wp2
 go_loopw [4,5] (λv i wr=>∃k:Nat,k<=n/\i = .int .i64 (k:Int)/\v = .string (numLine (l.take k))/\Below w.heap.size w wr) (λ_ i _=>n-(intOf i).toNat)
 case atStart=>exact⟨0,Nat.zero_le _,rfl,rfl,Below.refl _ _⟩
 case round =>
  obtain⟨k,hk,rfl,rfl,hb0⟩:=hrel;by_cases hlt:k<n
  ·have hlt':(k:Int)<(n:Int):=by omega
   obtain⟨ba,oa,y,rfl,hbla,hxa,c0a⟩:=hr.int hlt;have d0a:wr.cell? ⟨ba,oa+k,none⟩=some (.int .i64 y):=(hb0.cell (p:=⟨ba,oa+k,none⟩) hbla).trans c0a;have hXa:=Za hxa;clear hxa c0a;have hB:=Za hb0;have hyb:=hlh.out y (List.mem_of_getElem? hXa.out);have hts:=Za (Zo hXa.out);by_cases hk0:k=0
   ·subst hk0
    have hnx:Hid (numLine (l.take 1)=decB y):=Za (by rw[show(1:Nat)=0+1 from rfl,hts.out,List.take_zero,List.nil_append,VD]);have d0':=d0a;simp only[Nat.add_zero] at d0';clear hr hb0;go_wp2_with fail
    refine(Yw y _ hyb.1 hyb.2).mono ?_;rintro e w1 ⟨rfl,hb⟩;have hB1:=Za (Below.up hB.out hb);clear hb;go_wp2
    go_roundw
    case rel=>exact⟨1,by omega,by go_num,by rw[hnx.out],hB1.out⟩
    case measure=>simp[intOf];omega
   ·have hkne:((k:Int)==0)=false:=by simp;omega
    obtain⟨S,hSS⟩:∃S,S=numLine (l.take k):=⟨_,rfl⟩;have hSh:=Za hSS;have hnx:Hid (numLine (l.take (k+1))=S++((⟨#[32]⟩:ByteArray)++decB y)):=Za (by
     rw[hts.out,Zbz,hSS];intro e;have:=congrArg List.length e;rw[List.length_take,hlen.out] at this;simp at this;omega)
    have hsz:S.size<=33554432:=by
     rw[hSS];refine Y5 (λz hz=>hlh.out z (List.mem_of_mem_take hz)) ?_;rw[List.length_take];omega
    rw[←hSS];have hd:=Zv y hyb.1 hyb.2;have l1:(⟨#[32]⟩:ByteArray).size=1:=rfl;have hc1:=Zr (⟨#[32]⟩:ByteArray) (decB y) (by omega);have hc2:=Zr S ((⟨#[32]⟩:ByteArray)++decB y) (by rw[ByteArray.size_append];omega);clear hr hb0 hSS l1;go_wp2_with fail
    refine(Yw y _ hyb.1 hyb.2).mono ?_;rintro e w1 ⟨rfl,hb⟩;have hB1:=Za (Below.up hB.out hb);clear hb;go_wp2
    go_roundw
    case rel=>exact⟨k+1,by omega,by go_num,by rw[hnx.out],hB1.out⟩
    case measure=>simp[intOf];omega
  ·obtain rfl:k=n:=by omega
   have hlt':¬(k:Int)<(k:Int):=by omega
   rw[List.take_of_length_le (by rw[hlen.out];exact Nat.le_refl _)];have hB:=Za hb0;clear hb0 hr;go_wp2_with fail
   refine(Xx _ base g x O vo vn vt (numLine l) (hS.out.below hB.out) hO).mono ?_;rintro e w2 ⟨rfl,hs⟩;have hR:=Za (Said.from hS.out hB.out hs);clear hs;go_wp2
   go_end0
   exact⟨rfl,hR.out⟩
theorem WM (w:World)(base g:Nat)(x:DeskV)(O:List ByteArray)(vo vn vt:Value)(A:Option Addr)(n c:Nat)(l:List Int)(code:Int)(h:SG R w base g x O vo vn vt)(hO:O.length<=1048576)(h1:0<=code)(h2:code<=10)(hn:n<=1048576)(hl:I64 l)(hr:Arr ZB 1 w w.heap.size A n l) :
  Calls Tryz.prog 145 #[.pointer (some ⟨g,0,none⟩),.slice A n c,.int .i64 code] w λe w'=>e = .returned (.tuple #[])/\Said R w base g x (O++[sayB code (numLine l)]) vn vt w':=by
 have hS:=Za h;have hR0:=Za hr;clear h hr;by_cases h0:code=0
 ·subst h0
  have hM:Hid (sayB 0 (numLine l)=numLine l):=Za (if_pos rfl);go_enter Tryz.func145,Tryz.ntmps145;go_wp2_with fail
  refine(VY _ _).mono ?_;rintro e w1 ⟨rfl,rfl⟩;go_wp2_with fail
  refine(Zf4 _ base g x O vo vn vt A n c l hS.out hO hn hl hR0.out).mono ?_;rintro e w2 ⟨rfl,hs⟩;have hR:=Za hs;clear hs;go_wp2
  go_end0
  exact⟨rfl,by rw[hM.out];exact hR.out⟩
 ·have hM:Hid (sayB code (numLine l)=errB code):=Za (if_neg h0)
  go_enter Tryz.func145,Tryz.ntmps145;go_wp2_with fail
  refine(YK _ base g x O vo vn vt code hS.out hO (by omega) h2).mono ?_;rintro e w1 ⟨rfl,hs⟩;have hR:=Za hs;clear hs;go_wp2
  go_end0
  exact⟨rfl,by rw[hM.out];exact hR.out⟩
theorem Zjk {x:DeskV}{w:World}{B:Nat}(hx:x.good w B)(h:x.pure.ok=true):x.pure.text=ZaR x:=by
 rw[←Wd hx];unfold UO;rw[if_pos (by rw[ZO];exact h)]
theorem X7 (w:World)(base g:Nat)(x:DeskV)(O:List ByteArray)(vo vn vt:Value)(code:Int)(h:SG R w base g x O vo vn vt)(hO:O.length<=1048576)(h1:0<=code)(h2:code<=10)(hok:x.pure.ok=true) :
  Calls Tryz.prog 153 #[.pointer (some ⟨g,0,none⟩),.int .i64 code] w λe w'=>e = .returned (.tuple #[])/\Said R w base g x (O++[sayB code x.pure.text]) vn vt w':=by
 have hS:=Za h;have hp:=J5 h.dv.good (by rw[ZO];exact hok);have htx:=Za (Zjk h.dv.good hok);clear h;by_cases h0:code=0
 ·subst h0
  have hM:Hid (sayB 0 x.pure.text=ZaR x):=Za ((if_pos rfl).trans htx.out);have hb0:=ZL hS.out.box;go_enter Tryz.func153,Tryz.ntmps153;go_wp2_with fail
  refine(VY _ _).mono ?_;rintro e w1 ⟨rfl,rfl⟩;go_wp2_with fail
  refine(Zcm g x vo vn vt _ hS.out.box hp.1 hp.2.1.1 hp.2.1.2 hp.2.2.1 hp.2.2.2).mono ?_;rintro e w1 ⟨rfl,hb⟩;have hB:=Za hb;clear hb;go_wp2_with fail
  refine(Xx _ base g x O vo vn vt (ZaR x) (hS.out.below hB.out) hO).mono ?_;rintro e w2 ⟨rfl,hs⟩;have hR:=Za (Said.from hS.out hB.out hs);clear hs;go_wp2
  go_end0
  exact⟨rfl,by rw[hM.out];exact hR.out⟩
 ·have hM:Hid (sayB code x.pure.text=errB code):=Za (if_neg h0)
  go_enter Tryz.func153,Tryz.ntmps153;go_wp2_with fail
  refine(YK _ base g x O vo vn vt code hS.out hO (by omega) h2).mono ?_;rintro e w1 ⟨rfl,hs⟩;have hR:=Za hs;clear hs;go_wp2
  go_end0
  exact⟨rfl,by rw[hM.out];exact hR.out⟩
theorem Zbj (w:World)(base g:Nat)(x:DeskV)(O:List ByteArray)(vo vn vt:Value)(A:Option Addr)(n c:Nat)(l:List ByteArray)(h:SG R w base g x O vo vn vt)(hO:O.length<=1000000)(hn:n<=40000)(hr:Arr ZY 1 w w.heap.size A n l) :
  Calls Tryz.prog 155 #[.pointer (some ⟨g,0,none⟩),.slice A n c] w λe w'=>e = .returned (.tuple #[])/\Said R w base g x (O++l++[okB n]) vn vt w':=by
 have hS:=Za h;have hb0:=ZL h.box;have c5:=hb0.2.2.2.2.2.1;have hO1:=Za h.out;have hBw:=Za h.bw;have hlen:=Za hr.len;have hR:=Za hr;have hd:=Zv (n:Int) (by omega) (by omega);have hcat:=Zr (⟨#[111,107,32]⟩:ByteArray) (decB (n:Int)) (by show 3+(decB (n:Int)).size<=_;omega);clear h hb0 hr;go_enter Tryz.func155,Tryz.ntmps155;go_upto_region 1 with (at_builtin;refine Z1 rfl (.tmp 8) (.tmp 9) rfl Tryz.underlying24 Wa rfl (by omega) (by omega) Zf YJ rfl hO1.out rfl hR.out (by omega) hBw.out ?_;intro v5 w5 ho5 hg5 hat5;obtain⟨A5,d5,rfl,_⟩:=ho5.slice;have hat:=Za (hat5.imp id (λe=>(⟨_,e,Nat.le_refl _⟩:∃k,(Value.slice A5 (O.length+n) d5).ownBlock=some k/\w.heap.size<=k)));have e5:=(ZL (hS.out.boxg hg5)).2.2.2.2.2.1;have hO5:=Za ho5;have hg5h:=Za hg5;have f5:=frozen_of_row w5 g 5 _ _ (hS.out.boxg hg5);clear ho5 hg5 hat5)
 refine YH (φ:=λW=>SG R W base g x (O++l) (.slice A5 (O.length+n) d5) vn vt/\Below base w W) ⟨hS.out.said (O':=O++l) (by rw[List.length_append,hlen.out];exact hO5.out) hg5h.out hat.out,hS.out.saidBelow hg5h.out⟩ ?_;rintro W1 ⟨n0,n1⟩;have hS1:=Za n0;have hB1:=Za n1;clear n0 n1 c5 f5 e5;go_wp2_with fail
 refine(Yw (n:Int) _ (by omega) (by omega)).mono ?_;rintro e w2 ⟨rfl,hb⟩;have hS2:=Za (hS1.out.below hb);have hB2:=Za (hB1.out.trans (hb.mono hS1.out.bw));clear hb;go_wp2_with fail
 refine(Xx _ base g x (O++l) (.slice A5 (O.length+n) d5) vn vt (okB n) hS2.out (by rw[List.length_append,hlen.out];omega)).mono ?_;rintro e w3 ⟨rfl,v,hs,hb⟩;have hS3:=Za hs;have hB3:=Za (hB2.out.trans hb);clear hs hb;go_wp2
 go_end0
 exact⟨rfl,v,hS3.out,hB3.out⟩
end
end Go.Proofs.YtfpaejlipaainaaGreatDoor
