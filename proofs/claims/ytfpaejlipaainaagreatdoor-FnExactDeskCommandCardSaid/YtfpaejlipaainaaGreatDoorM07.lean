/- Texts that belong together, joined: contracts and plain laws. No statement is proved here. -/
import Derived.Test.YtfpaejlipaainaaGreatDoorM04
import Derived.Lib.ItoaNum
import Derived.Lib.ItoaLen
import Derived.Lib.SplitLaws
import Derived.Lib.LaidTab
import Derived.ChangeAgain
import Derived.MakeChecks
import Derived.Lib.AppendIntMem
import Derived.Laws.BytesString
set_option maxRecDepth 100000
set_option maxHeartbeats 1000000
namespace Go.Proofs.YtfpaejlipaainaaGreatDoor
open Go.ChangeShapes Go.WideShapes Go.ChangeAt Go.RowKit Go.Deep
def dgs:Nat→Nat→List UInt8→List UInt8
 | 0,_,out=>out
 | f+1,k,out=>if k=0 then out else dgs f (k/10) (UInt8.ofNat (48+k%10) :: out)
theorem ZaQ (f:Nat)(out:List UInt8):dgs f 0 out=out:=by cases f<;>simp[dgs]
theorem Qg {f x:Nat}{out:List UInt8}(h:0<x):dgs (f+1) x out=dgs f (x/10) (UInt8.ofNat (48+x%10) :: out):=by
 rw[dgs,if_neg (by omega)]
theorem Zht:∀(f k:Nat) (out:List UInt8),k<10 ^ f→0<k→dgs f k out=Lib.decDigits k++out
 | 0,k,out,h,h0=>by simp at h;omega
 | f+1,k,out,h,h0=>by
  rw[Qg h0];by_cases h1:k<10
  ·rw[show k/10=0 by omega,ZaQ,Lib.decDigits_one h1,show k%10=k by omega];rfl
  ·rw[Nat.pow_succ] at h
   rw[Zht f (k/10) _ (by omega) (by omega),Lib.decDigits.eq_1 k,dif_neg h1,List.append_assoc];rfl
def decB (n:Int):ByteArray:=⟨(Lib.itoa n).toArray⟩
theorem Zv (n:Int)(h0 : -9223372036854775808<=n)(h1:n<=9223372036854775807):(decB n).size<=21:=by
 have:=Lib.itoa_length_le n h0 h1;simpa[decB,ByteArray.size] using this
theorem Jm (u:Nat):∃c r,Lib.decDigits u=c :: r/\48<=c.toNat/\c.toNat<=57:=by
 induction u using Nat.strongRecOn with
 | _ u ih =>
  by_cases h:u<10
  ·refine⟨UInt8.ofNat (48+u),[],Lib.decDigits_one h,?_,?_⟩<;>(rw[UInt8.toNat_ofNat'];omega)
  ·obtain⟨c,r,e,h1,h2⟩:=ih (u/10) (by omega)
   exact⟨c,r++[UInt8.ofNat (48+u%10)],by rw[Lib.decDigits,dif_neg h,e];rfl,h1,h2⟩
def Jk (l:List UInt8):List UInt8:=match l with
 | 45 :: r=>r
 | l=>l
def YV (c:UInt8):Bool:=decide (48<=c.toNat)&&decide (c.toNat<=57)
def valOf (l:List UInt8):Nat:=l.foldl (λn c=>10*n+(c.toNat-48)) 0
def Xm (l:List UInt8):Int:=if (Jk l).length<l.length then -(valOf (Jk l):Int) else valOf (Jk l)
def Yt (l:List UInt8):Bool:=decide (1<=(Jk l).length)&&decide ((Jk l).length<=18)&&(Jk l).all YV&&decide (Lib.itoa (Xm l)=l)
def rdNum (l:List UInt8):Int:=if Yt l=true then Xm l else 0
theorem Jq (l:List UInt8)(c:UInt8):valOf (l++[c])=10*valOf l+(c.toNat-48):=by simp[valOf,List.foldl_append]
theorem Zhk:∀(l:List UInt8) (n:Nat),l.all YV=true→l.foldl (λn c=>10*n+(c.toNat-48)) n<(n+1)*10 ^ l.length
 | [],n,_=>by simp
 | c :: l,n,h=>by
  rw[List.all_cons,Bool.and_eq_true] at h;have h2:=h.1;simp[YV] at h2;have:=Zhk l (10*n+(c.toNat-48)) h.2;rw[List.foldl_cons];refine Nat.lt_of_lt_of_le this ?_;rw[List.length_cons,Nat.pow_succ,Nat.mul_comm (10 ^ l.length) 10,←Nat.mul_assoc];exact Nat.mul_le_mul_right _ (by omega)
theorem Zdr (l:List UInt8)(h:l.all YV=true):valOf l<10 ^ l.length:=by
 have:=Zhk l 0 h;simpa[valOf] using this
theorem Zj3 (l:List UInt8):(Jk l).length<=l.length/\l.length<=(Jk l).length+1:=by
 unfold Jk;split<;>simp
theorem UE (r:List UInt8):Jk (45 :: r)=r:=rfl
theorem UD {l:List UInt8}(h:∀r,l≠45 :: r):Jk l=l:=by
 unfold Jk;split
 ·exact absurd rfl (h _)
 ·rfl
theorem UZ (l:List UInt8):Lib.trimPrefix l [45]=Jk l:=by
 unfold Lib.trimPrefix Jk;cases l with
 | nil=>simp[Lib.hasPrefix]
 | cons c r =>
  by_cases h:c=45
  ·subst h;simp[Lib.hasPrefix]
  ·have:Lib.hasPrefix (c :: r) [45]=false:=by simp[Lib.hasPrefix,List.isPrefixOf,Ne.symm h]
   rw[this];simp only[Bool.false_eq_true,if_false];split
   ·rename_i e;injection e with e _;exact absurd e h
   ·rfl
def spl (c:UInt8):List UInt8→List UInt8→List (List UInt8)
 | cur,[]=>[cur]
 | cur,b :: r=>if b=c then cur :: spl c [] r else spl c (cur++[b]) r
def words (c:UInt8)(s:ByteArray):List ByteArray:=(spl c [] s.data.toList).map λl=>⟨l.toArray⟩
theorem Zdy (c:UInt8)(cur l:List UInt8):spl c cur l≠[]:=by
 induction l generalizing cur with
 | nil=>simp[spl]
 | cons b r ih=>unfold spl;split<;>simp[ih]
theorem ZhR (c b:UInt8):∀(cur r:List UInt8),∀x t,spl c cur r=x :: t→spl c (b :: cur) r=(b :: x) :: t:=by
 intro cur r
 induction r generalizing cur with
 | nil =>
  intro x t h;rw[spl,List.cons.injEq] at h;obtain⟨rfl,rfl⟩:=h;rfl
 | cons a r ih =>
  intro x t h;unfold spl at h ⊢;by_cases e:a=c
  ·rw[if_pos e] at h ⊢
   injection h with h1 h2
   rw[h1,h2]
  ·rw[if_neg e] at h ⊢
   have:=ih (cur++[a]) x t h;simpa using this
theorem Jz (c:UInt8):∀l:List UInt8,Lib.splitK [c] 0 (Lib.count l [c]) l=spl c [] l
 | []=>by rw[Lib.count_one];simp[Lib.splitK,spl]
 | b :: l=>by
  have ih:=Jz c l;by_cases h:b=c
  ·subst h
   rw[Lib.count_cons_eq,Nat.add_comm];have hix:Lib.index (b :: l) [b]=0:=by rw[Lib.index];simp[List.isPrefixOf]
   have:Lib.splitK [b] 0 (Lib.count l [b]+1) (b :: l)=[] :: Lib.splitK [b] 0 (Lib.count l [b]) l:=by
    rw[Lib.splitK,hix];simp
   rw[this,ih,spl,if_pos rfl]
  ·rw[Lib.count_cons_ne b c l h]
   have hp:([c]:List UInt8).isPrefixOf (b :: l)=false:=by simp[List.isPrefixOf,Ne.symm h]
   have hix:Lib.index (b :: l) [c]=if Lib.index l [c] == -1 then -1 else Lib.index l [c]+1:=by rw[Lib.index,hp];simp
   rw[spl,if_neg h];have key:∃x t,spl c [] l=x :: t/\Lib.splitK [c] 0 (Lib.count l [c]) (b :: l)=(b :: x) :: t:=by
    rw[←ih];by_cases hm:Lib.index l [c] = -1
    ·have h2:Lib.index (b :: l) [c] = -1:=by rw[hix,if_pos (beq_iff_eq.2 hm)]
     cases hk:Lib.count l [c] with
     | zero=>exact⟨l,[],rfl,rfl⟩
     | succ k=>exact⟨l,[],by rw[Lib.splitK,if_pos (beq_iff_eq.2 hm)],by rw[Lib.splitK,if_pos (beq_iff_eq.2 h2)]⟩
    ·have hge:=Lib.index_ge l [c]
     obtain⟨j,hj⟩:∃j:Nat,Lib.index l [c]=j:=⟨(Lib.index l [c]).toNat,by omega⟩;have h2:Lib.index (b :: l) [c]=((j+1:Nat):Int):=by rw[hix,if_neg (λe=>hm (beq_iff_eq.1 e)),hj];omega
     cases hk:Lib.count l [c] with
     | zero=>rw[Lib.count_hit (by simp) hj] at hk;omega
     | succ k =>
      refine⟨l.take j,Lib.splitK [c] 0 k (l.drop (j+1)),?_,?_⟩
      ·rw[Lib.splitK,if_neg (λe=>hm (beq_iff_eq.1 e)),hj];simp
      ·rw[Lib.splitK,if_neg (λe=>by have:=beq_iff_eq.1 e;omega),h2];simp
   obtain⟨x,t,h1,h2⟩:=key;rw[h2];exact(ZhR c b [] l x t h1).symm
theorem WO (s:ByteArray):(⟨s.data.toList.toArray⟩:ByteArray)=s:=by obtain⟨⟨l⟩⟩:=s;rfl
theorem UJ (c:UInt8)(s:ByteArray):Lib.splitB ⟨#[c]⟩ 0 (Lib.countB s ⟨#[c]⟩) s=words c s:=by
 have h1:=Lib.splitB_data ⟨#[c]⟩ 0 (Lib.countB s ⟨#[c]⟩) s;have h2:Lib.countB s ⟨#[c]⟩=Lib.count s.data.toList [c]:=rfl;rw[h2] at h1 ⊢;have h3:(⟨#[c]⟩:ByteArray).data.toList=[c]:=rfl;rw[h3,Jz] at h1;unfold words;rw[←h1,List.map_map];have:((λl:List UInt8=>(⟨l.toArray⟩:ByteArray)) ∘ λx:ByteArray=>x.data.toList)=id:=by funext x;exact WO x
 rw[this,List.map_id]
theorem VQ (c:UInt8)(s:ByteArray):(words c s).length=Lib.countB s ⟨#[c]⟩ + 1:=by
 rw[←UJ];exact Lib.splitB_all ⟨#[c]⟩ (by simp[ByteArray.size]) 0 _ s rfl
theorem Qo (c:UInt8):∀(cur l:List UInt8),∀x∈spl c cur l,x.length<=cur.length+l.length
 | cur,[],x,h=>by simp[spl] at h;subst h;simp
 | cur,b :: r,x,h=>by
  unfold spl at h;split at h
  ·rcases List.mem_cons.1 h with rfl|h
   ·simp
   ·have:=Qo c [] r x h;simp at this ⊢;omega
  ·have:=Qo c (cur++[b]) r x h;simp at this ⊢;omega
theorem Z6 (c:UInt8)(s:ByteArray){x:ByteArray}(h:x∈words c s):x.size<=s.size:=by
 obtain⟨l,hl,rfl⟩:=List.mem_map.1 h;have:=Qo c [] s.data.toList l hl;have e:s.data.toList.length=s.size:=by rw[Array.length_toList];rfl
 show l.toArray.size<=s.size
 rw[List.size_toArray,←e];simpa using this
theorem WB (u:Nat):(Lib.decDigits u).all YV=true:=by
 induction u using Nat.strongRecOn with
 | _ u ih =>
  by_cases h:u<10
  ·rw[Lib.decDigits_one h]
   simp[YV];omega
  ·rw[Lib.decDigits,dif_neg h,List.all_append,ih (u/10) (by omega)]
   simp[YV];omega
theorem Ug (u:Nat):valOf (Lib.decDigits u)=u:=by
 induction u using Nat.strongRecOn with
 | _ u ih =>
  by_cases h:u<10
  ·rw[Lib.decDigits_one h]
   simp[valOf,UInt8.toNat_ofNat'];omega
  ·rw[Lib.decDigits,dif_neg h,Jq,ih (u/10) (by omega),UInt8.toNat_ofNat'];omega
theorem ZaS (f:Nat):∀u:Nat,u<10 ^ (f+1)→1<=(Lib.decDigits u).length/\(Lib.decDigits u).length<=f+1:=by
 induction f with
 | zero =>
  intro u hu;rw[Lib.decDigits_one (by simpa using hu)];simp
 | succ f ih =>
  intro u hu;by_cases h:u<10
  ·rw[Lib.decDigits_one h];simp
  ·rw[Lib.decDigits,dif_neg h,List.length_append]
   have:=ih (u/10) (by rw[Nat.pow_succ] at hu;omega);simp;omega
theorem ZdS {c:UInt8}(h:YV c=true):c≠10/\c≠32/\c≠45:=by
 simp[YV] at h;refine⟨?_,?_,?_⟩<;>(intro e;subst e;revert h;decide)
theorem Zd3 (u:Nat):Jk (Lib.decDigits u)=Lib.decDigits u:=by
 refine UD λr h=>?_
 have:=WB u;rw[h,List.all_cons,Bool.and_eq_true] at this;exact(ZdS this.1).2.2 rfl
theorem Zck (n:Int):Xm (Lib.itoa n)=n/\∃u:Nat,Jk (Lib.itoa n)=Lib.decDigits u/\(u:Int)=n.natAbs:=by
 unfold Lib.itoa;by_cases h:n<0
 ·rw[if_pos h]
  refine⟨?_,n.natAbs,UE _,rfl⟩;unfold Xm;rw[UE,if_pos (by simp),Ug];omega
 ·rw[if_neg h]
  refine⟨?_,n.toNat,Zd3 _,by omega⟩;unfold Xm;rw[Zd3,if_neg (by omega),Ug];omega
theorem Zgo {n:Int}(h0 : -1000000000000000000<n)(h1:n<1000000000000000000):Yt (Lib.itoa n)=true/\rdNum (Lib.itoa n)=n:=by
 obtain⟨hs,u,hb,hu⟩:=Zck n;have hl:=ZaS 17 u (by have:(10:Nat) ^ (17+1)=1000000000000000000:=(by decide);omega);have hk:Yt (Lib.itoa n)=true:=by
  unfold Yt;rw[hs,hb,WB,decide_eq_true hl.1,decide_eq_true (p:=_<=18) (by omega),decide_eq_true rfl];rfl
 exact⟨hk,by unfold rdNum;rw[if_pos hk,hs]⟩
theorem XE (n:Int):∀c∈Lib.itoa n,c≠10/\c≠32:=by
 intro c hc;have hd:∀u:Nat,c∈Lib.decDigits u→c≠10/\c≠32:=λu h=>by
  have:=ZdS (List.all_eq_true.1 (WB u) c h);exact⟨this.1,this.2.1⟩
 unfold Lib.itoa at hc;split at hc
 ·rcases List.mem_cons.1 hc with e|e
  ·subst e;decide
  ·exact hd _ e
 ·exact hd _ hc
theorem ZiZ {c:UInt8}:∀(l cur:List UInt8),¬c∈l→spl c cur l=[cur++l]
 | [],cur,_=>by simp[spl]
 | b :: r,cur,h=>by
  rw[spl,if_neg (λe=>h (by rw[e];exact List.mem_cons_self)),ZiZ r _ (λe=>h (List.mem_cons_of_mem _ e)),List.append_assoc];rfl
theorem Zdw {c:UInt8}(r:List UInt8):∀(l cur:List UInt8),¬c∈l→spl c cur (l++c :: r)=(cur++l) :: spl c [] r
 | [],cur,_=>by simp[spl]
 | b :: l,cur,h=>by
  rw[List.cons_append,spl,if_neg (λe=>h (by rw[e];exact List.mem_cons_self)),Zdw r l _ (λe=>h (List.mem_cons_of_mem _ e)),List.append_assoc];rfl
def Gl (w : World) : Prop := Lib.TabIs Tryz.prog w "internal/strconv.uint64pow10" .u64 Lib.pow10Tab ∧ w.ShapedOpen Tryz.prog
theorem ZfI {P:Program}{w w':World}{n:String}{cs:Array Value}(h:w.var? P n=some cs)(hb:Below w.heap.size w w'):w'.var? P n=some cs:=by
 unfold World.var? at h ⊢;cases hg:P.globalNamed n with
 | none=>rw[hg] at h;cases h
 | some g =>
  rw[hg] at h;simp only[Option.bind_some] at h ⊢;have hlt:g<w.heap.size:=by
   rcases Nat.lt_or_ge g w.heap.size with h1|h1
   ·exact h1
   ·rw[Array.getElem?_eq_none h1] at h;cases h
  rw[hb.block g hlt];exact h
theorem Gl.below {w w':World}(h:Gl w)(hb:Below w.heap.size w w'):Gl w' :=
 ⟨ZfI h.1 hb,h.2.keptBut (hb.frame (λ_=>False)) (λ_ h=>h.elim)⟩
theorem ZdC {P:Program}{w:World}{n:String}{d:DataW Unit}:∀{l:List (String × DataW Unit)} {ps:List MemPlace},DataW.LaidVars P w l ps→(n,d)∈l →
  ∃g t cs fuel p,P.globalNamed n=some g/\(P.globals[g]?).map (·.type)=some t/\w.var? P n=some cs/\DataW.trod (λ_=>()) P w 0 (λ_=>true) false fuel t cs.toList=some (d,p)
 | [],_,_,h=>by cases h
 | (_,_) :: _,_,⟨g,t,cs,fuel,p,_,h1,h2,h3,h4,h5,_⟩,h=>by
  rcases List.mem_cons.1 h with e|e
  ·cases e;exact⟨g,t,cs,fuel,p,h1,h2,h3,h4⟩
  ·exact ZdC h5 e
theorem Zkn {W : World} {l : List (String × DataW Unit)} (hL : laidMet Tryz.prog l W) (hm : ("internal/strconv.uint64pow10", Lib.tabData .u64 Lib.pow10Tab) ∈ l) (hsh : W.ShapedOpen Tryz.prog) : Gl W := by
 refine ⟨?_, hsh⟩;obtain ⟨ps, hvars, _⟩ := hL;obtain ⟨g, t, cs, fuel, p, hg, ht, hv, hd⟩ := ZdC hvars hm;have e1 : Tryz.prog.globalNamed "internal/strconv.uint64pow10" = some (Tryz.prog.globalNamed "internal/strconv.uint64pow10").get! := by kernel_rfl
 have e2 : (Tryz.prog.globals[(Tryz.prog.globalNamed "internal/strconv.uint64pow10").get!]?).map (·.type) = some 247 := by kernel_rfl
 obtain rfl:=Option.some.inj (e1.symm.trans hg);obtain rfl:=Option.some.inj (e2.symm.trans ht);unfold Lib.TabIs;rw[hv,←Lib.cells_of_tab Tryz.underlying247 Tryz.underlying93 (by kernel_rfl) (by kernel_rfl) hd]
theorem YQ (n:Int)(w:World)(h0 : -9223372036854775808<=n)(h1:n<=9223372036854775807)(hG:Gl w) :
  Calls Tryz.prog 36 #[.int .i64 n] w λe w'=>e = .returned (.string (decB n))/\Below w.heap.size w w':=by
 have hT:=Za hG.1;clear hG;go_enter Tryz.func36,Tryz.ntmps36;go_wp2_with (go_at_call 86;refine(Tryz.strconv_FormatInt_10 n h0 h1 _ hT.out).mono ?_;rintro e w' ⟨rfl,k,os,rfl⟩)
 go_ret;exact⟨rfl,Lib.below_grow _ _ (Nat.le_refl _) _ _⟩
theorem WU:(Tryz.prog.info? 5).map (λi=>(i.zero,i.size,i.bytes))=some (some (.int .u8 0),1,1):=by kernel_rfl
theorem Y7 (x:Int):(u8c x).length=1:=rfl
theorem Uk:∀x,∀u∈u8c x,u.oneCell'=true:=by intro x u hu;simp[u8c] at hu;subst hu;rfl
def bI (l:List UInt8):List Int:=l.map λc=>(c.toNat:Int)
theorem Own.lit {α:Type}{cells:α→List Value}{e s:Nat}(w:World){base:Nat}(hb:base<=w.heap.size)(x:α)(cur:Array Value)(hc:cur.toList=cells x)(hs:(cells x).length=s) :
  Own cells e s (w.alloc (.cells cur e)) base (.slice (some ⟨w.heap.size,0,none⟩) 1 1) 1 [x]:=by
 have hl:cur.size=1*s:=by rw[←Array.length_toList,hc,hs,Nat.one_mul]
 refine⟨rfl,by simp[hs],.inr ⟨w.heap.size,1,cur,rfl,hb,heap_alloc_new w _,Nat.le_refl _,by unfold maxLen;omega,hl,?_⟩⟩;rw[hc,List.take_of_length_le (by simp[hs])];simp
theorem J6 (a b:List UInt8):(⟨a.toArray⟩:ByteArray)++⟨b.toArray⟩=⟨(a++b).toArray⟩:=by
 apply YI
 rw[ByteArray.toList_eq,ByteArray.toList_eq];simp
def Zjf (w:World)(n:Int)(sg:Int)(v k:Value)(wr:World):Prop :=
 ∃(x f:Nat) (l:List UInt8),k = .int .i64 (sg*x)/\Own u8c 5 1 wr w.heap.size v l.length (bI l)/\x<10 ^ f/\l.length+f<=20/\x<=9223372036854775808/\Hid (dgs f x l=dgs 20 n.natAbs [])/\Below w.heap.size w wr
theorem Zku (l:List UInt8)(j:Nat)(hj:j<l.length):(bI l)[j]?=some ((l[j].toNat:Nat):Int):=by unfold bI;rw[List.getElem?_map,List.getElem?_eq_getElem hj];rfl
theorem WC {w:World}{base n c:Nat}{A:Option Addr}{l:List UInt8}(h:Own u8c 5 1 w base (.slice A n c) n (bI l)) :
  Sem.run Tryz.prog (convert 22 9 (.slice A n c)) w = .ok (.string ⟨l.toArray⟩) w:=by
 have hn:l.length=n:=by have:=h.len;simpa[bI] using this
 subst hn;rcases h.form with ⟨hv,h0,_⟩|⟨g,cap,hv,_,_,_,_⟩
 ·injection hv with h1 h2 h3
  subst h1;have hl:l=[]:=List.eq_nil_of_length_eq_zero h0;subst hl;exact run_convert_bytes_nil w _ _ Tryz.underlying22 Tryz.underlying5 _ _ _ Tryz.underlying9
 ·injection hv with h1 h2 h3
  subst h1;refine run_convert_bytes_back w _ _ 5 ⟨g,0,none⟩ c l Tryz.underlying22 Tryz.underlying5 Tryz.underlying9 (λj hj=>?_);obtain⟨b,o,x,hA,_,hx,hc⟩:=(h.arr Y7).u8 (k:=j) hj;injection hA with hA
  injection hA with h4 h5
  subst h4 h5;rw[Addr.add_lit,hc];rw[Zku l j hj] at hx;injection hx with hx
  rw[hx]
theorem Zhu {n:Int}{f:Nat}{l:List UInt8}(h:dgs f 0 l=dgs 20 n.natAbs [])(hn:n.natAbs<=9223372036854775808):(l=[]/\n=0)\/(l≠[]/\l=Lib.decDigits n.natAbs):=by
 rw[ZaQ] at h;rcases Nat.eq_zero_or_pos n.natAbs with h0|h0
 ·left;rw[h0,ZaQ] at h;exact⟨h,by omega⟩
 ·right
  rw[Zht 20 _ [] (by omega) h0,List.append_nil] at h;refine⟨?_,h⟩;rw[h];obtain⟨c,r,e,_⟩:=Jm n.natAbs;rw[e];simp
theorem Zdk (c:UInt8)(l:List UInt8):bI (c :: l)=(c.toNat:Int) :: bI l:=rfl
theorem Zh2 (n:Int)(w:World)(h0:0<=n)(h1:n<=9223372036854775807) :
  Calls Tryz.prog 148 #[.int .i64 n] w λe w'=>e = .returned (.string (decB n))/\Below w.heap.size w w':=by
 go_enter Tryz.func148,Tryz.ntmps148;go_wp2
 go_loopw [3,4] (λv k wr=>Zjf w n 1 v k wr) (λ_ k _=>(intOf k).toNat)
 case atStart=>exact⟨n.natAbs,20,[],by rw[Int.one_mul];congr 1;omega,Own.none_made w (Nat.le_refl _),by omega,by simp,by omega,Za rfl,(Below.refl _ _).alloc (Nat.le_refl _) _⟩
 case round =>
  obtain⟨x,f,l,rfl,ho,hx,hl,hm,hd,hb⟩:=hrel;rw[Int.one_mul];obtain⟨A,c,rfl,_⟩:=ho.slice;have hO:=Za ho;have hB:=Za hb;have hX:=Za hx;clear ho hb hx;rcases Nat.eq_zero_or_pos x with hz|hz
  ·subst hz
   have hcv:=WC hO.out;have hlt:¬n<0:=by omega
   have hE:=Za (Zhu hd.out (by omega));clear hd;obtain⟨m,hml⟩:∃m,m=l.length:=⟨_,rfl⟩;rw[←hml] at hcv hO ⊢;have hM:=Za hml;clear hml;rcases hE.out with ⟨hl0,hn0⟩|⟨hl0,hn0⟩
   ·have hn:Hid (decB n=⟨#[48]⟩):=Za (by
     unfold decB Lib.itoa;rw[hn0,if_neg (by omega),show(0:Int).toNat=0 from rfl,Lib.decDigits_one (by omega)];rfl)
    obtain rfl:m=0:=by rw[hM.out,hl0];rfl
    clear hl0 hn0 hE hcv;go_wp2
    go_ret;exact⟨by rw[hn.out];rfl,hB.out⟩
   ·have hn:Hid (decB n=⟨l.toArray⟩):=Za (by
     unfold decB Lib.itoa;rw[if_neg (by omega),hn0,show n.natAbs=n.toNat by omega])
    have hle:((m:Int)==0)=false:=by
     have:0<m:=by rw[hM.out];exact List.length_pos_iff.2 hl0
     simp;omega
    clear hl0 hn0 hE;go_wp2
    go_ret;exact⟨by rw[hn.out];rfl,hB.out⟩
  ·have e1:((x:Int) != 0)=true:=by simp;omega
   go_wp2_with (at_builtin;refine Z1 rfl (.tmp 21) (.tmp 22) rfl Tryz.underlying22 WU rfl (by omega) (by omega) Y7 Uk rfl (Own.lit wr hB.out.size (48+(x:Int)%10) _ rfl rfl) rfl ((hO.out.arr Y7).go ((Below.refl _ _).alloc (Nat.le_refl _) _)) (by omega) (by simp;have:=hB.out.size;omega) ?_;intro v' w1 ho2 hg2 _;have hB2:=Za ((Own.lit wr hB.out.size (48+(x:Int)%10) _ rfl rfl:Own u8c 5 1 _ w.heap.size _ 1 _).grown (hB.out.alloc hB.out.size _) hg2);have hO2:=Za ho2;clear ho2 hg2)
   go_roundw
   case rel =>
    obtain⟨f',rfl⟩:∃f',f=f' + 1:=by
     refine⟨f-1,?_⟩;rcases Nat.eq_zero_or_pos f with h2|h2
     ·subst h2;have:=hX.out;simp at this;omega
     ·omega
    have hc:((UInt8.ofNat (48+x%10)).toNat:Int)=48+(x:Int)%10:=by rw[UInt8.toNat_ofNat'];omega
    refine⟨x/10,f',UInt8.ofNat (48+x%10) :: l,by rw[Int.one_mul];go_num,?_,?_,by simp;omega,by omega,Za ?_,hB2.out⟩
    ·rw[Zdk,hc,List.length_cons,Nat.add_comm];exact hO2.out
    ·have h3:=hX.out;rw[Nat.pow_succ] at h3;omega
    ·rw[←Qg hz];exact hd.out
   case measure=>simp[intOf];omega
theorem Zh3 (n:Int)(w:World)(h0:n<0)(h1 : -9223372036854775808<=n) :
  Calls Tryz.prog 148 #[.int .i64 n] w λe w'=>e = .returned (.string (decB n))/\Below w.heap.size w w':=by
 go_enter Tryz.func148,Tryz.ntmps148;go_wp2
 go_loopw [3,4] (λv k wr=>Zjf w n (-1) v k wr) (λ_ k _=>(-intOf k).toNat)
 case atStart=>exact⟨n.natAbs,20,[],by congr 1;omega,Own.none_made w (Nat.le_refl _),by omega,by simp,by omega,Za rfl,(Below.refl _ _).alloc (Nat.le_refl _) _⟩
 case round =>
  obtain⟨x,f,l,rfl,ho,hx,hl,hm,hd,hb⟩:=hrel;rw[show(-1:Int)*(x:Int) = -(x:Int) by omega];obtain⟨A,c,rfl,_⟩:=ho.slice;have hO:=Za ho;have hB:=Za hb;have hX:=Za hx;clear ho hb hx;rcases Nat.eq_zero_or_pos x with hz|hz
  ·subst hz
   have hcv:=WC hO.out;have hE:=Za (Zhu hd.out (by omega));clear hd;obtain⟨m,hml⟩:∃m,m=l.length:=⟨_,rfl⟩;rw[←hml] at hcv hO ⊢;have hM:=Za hml;clear hml;rcases hE.out with ⟨hl0,hn0⟩|⟨hl0,hn0⟩
   ·omega
   ·have hn:Hid (decB n=(⟨#[45]⟩:ByteArray)++⟨l.toArray⟩):=Za (by
     unfold decB Lib.itoa;rw[if_pos h0,←hn0];exact(J6 [45] l).symm)
    have hle:((m:Int)==0)=false:=by
     have:0<m:=by rw[hM.out];exact List.length_pos_iff.2 hl0
     simp;omega
    clear hl0 hn0 hE;go_wp2
    go_ret;exact⟨by rw[hn.out];rfl,hB.out⟩
  ·have e1:(-(x:Int) != 0)=true:=by simp;omega
   have e2:(-(x:Int)).tmod 10 = -((x%10:Nat):Int):=by rw[Int.neg_tmod];rfl
   have e3:(-(x:Int)).tdiv 10 = -((x/10:Nat):Int):=by rw[Int.neg_tdiv];rfl
   have hq:x%10<10:=Nat.mod_lt _ (by omega);obtain⟨d,hd0⟩:∃d,d=x%10:=⟨_,rfl⟩;have hD:=Za hd0;rw[←hd0] at e2 hq;clear hd0;rcases Nat.eq_zero_or_pos d with hz2|hz2
   ·subst hz2
    have e4:(-((0:Nat):Int))=0:=rfl;rw[e4] at e2;clear e4;go_wp2_with (at_builtin;refine Z1 rfl (.tmp 21) (.tmp 22) rfl Tryz.underlying22 WU rfl (by omega) (by omega) Y7 Uk rfl (Own.lit wr hB.out.size (48) _ rfl rfl) rfl ((hO.out.arr Y7).go ((Below.refl _ _).alloc (Nat.le_refl _) _)) (by omega) (by simp;have:=hB.out.size;omega) ?_;intro v' w1 ho2 hg2 _;have hB2:=Za ((Own.lit wr hB.out.size (48) _ rfl rfl:Own u8c 5 1 _ w.heap.size _ 1 _).grown (hB.out.alloc hB.out.size _) hg2);have hO2:=Za ho2;clear ho2 hg2)
    go_roundw
    case rel =>
     obtain⟨f',rfl⟩:∃f',f=f' + 1:=by
      refine⟨f-1,?_⟩;rcases Nat.eq_zero_or_pos f with h2|h2
      ·subst h2;have:=hX.out;simp at this;omega
      ·omega
     have hc:((UInt8.ofNat (48+x%10)).toNat:Int)=48:=by rw[UInt8.toNat_ofNat',←hD.out];omega
     refine⟨x/10,f',UInt8.ofNat (48+x%10) :: l,by congr 1;omega,?_,?_,by simp;omega,by omega,Za ?_,hB2.out⟩
     ·rw[Zdk,hc,List.length_cons,Nat.add_comm];exact hO2.out
     ·have h3:=hX.out;rw[Nat.pow_succ] at h3;omega
     ·rw[←Qg hz];exact hd.out
    case measure=>simp[intOf];omega
   ·have hz3 : -((d:Nat):Int)<0:=by omega
    go_wp2_with (at_builtin;refine Z1 rfl (.tmp 21) (.tmp 22) rfl Tryz.underlying22 WU rfl (by omega) (by omega) Y7 Uk rfl (Own.lit wr hB.out.size (48+(d:Int)) _ rfl rfl) rfl ((hO.out.arr Y7).go ((Below.refl _ _).alloc (Nat.le_refl _) _)) (by omega) (by simp;have:=hB.out.size;omega) ?_;intro v' w1 ho2 hg2 _;have hB2:=Za ((Own.lit wr hB.out.size (48+(d:Int)) _ rfl rfl:Own u8c 5 1 _ w.heap.size _ 1 _).grown (hB.out.alloc hB.out.size _) hg2);have hO2:=Za ho2;clear ho2 hg2)
    go_roundw
    case rel =>
     obtain⟨f',rfl⟩:∃f',f=f' + 1:=by
      refine⟨f-1,?_⟩;rcases Nat.eq_zero_or_pos f with h2|h2
      ·subst h2;have:=hX.out;simp at this;omega
      ·omega
     have hc:((UInt8.ofNat (48+x%10)).toNat:Int)=48+(d:Int):=by rw[UInt8.toNat_ofNat',←hD.out];omega
     refine⟨x/10,f',UInt8.ofNat (48+x%10) :: l,by congr 1;omega,?_,?_,by simp;omega,by omega,Za ?_,hB2.out⟩
     ·rw[Zdk,hc,List.length_cons,Nat.add_comm];exact hO2.out
     ·have h3:=hX.out;rw[Nat.pow_succ] at h3;omega
     ·rw[←Qg hz];exact hd.out
    case measure=>simp[intOf];omega
theorem Yw (n:Int)(w:World)(h0 : -9223372036854775808<=n)(h1:n<=9223372036854775807) :
  Calls Tryz.prog 148 #[.int .i64 n] w λe w'=>e = .returned (.string (decB n))/\Below w.heap.size w w':=by
 by_cases h:n<0
 ·exact Zh3 n w h h0
 ·exact Zh2 n w (by omega) h1
theorem ZdT:(Tryz.prog.info? 9).map (λi=>(i.zero,i.size,i.bytes))=some (some (.string ByteArray.empty),1,16):=by kernel_rfl
theorem Own.lits {α:Type}{cells:α→List Value}{e s:Nat}(w:World){base:Nat}(hb:base<=w.heap.size)(l:List α)(cur:Array Value)(hc:cur.toList=l.flatMap cells)(hs:∀x,(cells x).length=s)(hm:l.length<=maxLen) :
  Own cells e s (w.alloc (.cells cur e)) base (.slice (some ⟨w.heap.size,0,none⟩) l.length l.length) l.length l:=by
 have hl:cur.size=l.length*s:=by rw[←Array.length_toList,hc,Yb hs]
 refine⟨rfl,by rw[Yb hs],.inr ⟨w.heap.size,l.length,cur,rfl,hb,heap_alloc_new w _,Nat.le_refl _,hm,hl,?_⟩⟩;rw[hc,List.take_of_length_le (by rw[Yb hs];exact Nat.le_refl _)]
theorem ZbZ (l:List ByteArray):l.flatMap ZY=l.map Value.string:=by
 induction l with
 | nil=>rfl
 | cons a l ih=>rw[List.flatMap_cons,ih];rfl
theorem Yh (c:UInt8)(s:ByteArray):(words c s).length<=s.size+1:=by
 rw[VQ];have:=Lib.countB_le ⟨#[c]⟩ (by simp[ByteArray.size]) s.size s (Nat.le_refl _);omega
theorem ZH (c:UInt8)(s:ByteArray)(w:World)(hs:s.size<=1048576)(hG:Gl w) :
  Calls Tryz.prog 27 #[.string s,.string ⟨#[c]⟩] w λe w'=>∃v,e = .returned v/\Own ZY 9 1 w' w.heap.size v (words c s).length (words c s)/\Below w.heap.size w w':=by
 refine(Tryz.strings_Split_shaped s ⟨#[c]⟩ w hG.2 (by omega) (by simp[ByteArray.size])).mono ?_;rintro e w' ⟨rfl,rfl⟩;rw[UJ,←VQ];have hm:(words c s).length<=maxLen:=by have:=Yh c s;unfold maxLen;omega
 exact⟨_,rfl,Own.lits w (Nat.le_refl _) (words c s) _ (by rw[ZbZ]) Zf hm,(Below.refl _ _).alloc (Nat.le_refl _) _⟩
theorem JJ (s:ByteArray)(a b:Nat):(s.extract a b).data.toList=(s.data.toList.take b).drop a:=by
 rw[Lib.extract_data,List.drop_take]
def mkB (l:List UInt8):ByteArray:=⟨l.toArray⟩
theorem QI (s:ByteArray)(a b:Nat):mkB ((s.data.toList.take b).drop a)=s.extract a b:=by
 rw[←JJ];exact WO _
theorem ZaP {s:ByteArray}{k:Nat}(h:k<s.size):s.data.toList.drop k=s[k] :: s.data.toList.drop (k+1):=by
 rw[List.drop_eq_getElem_cons (by rw[Array.length_toList];exact h)];rfl
theorem JK {s:ByteArray}{a k:Nat}(ha:a<=k)(h:k<s.size):(s.data.toList.take k).drop a++[s[k]]=(s.data.toList.take (k+1)).drop a:=by
 have hl:s.data.toList.length=s.size:=by rw[Array.length_toList];rfl
 have hx:s.data.toList[k]?=some s[k]:=by rw[List.getElem?_eq_getElem (by omega)];rfl
 rw[Zo hx,List.drop_append_of_le_length (by rw[List.length_take];omega)]
def W8 (c:UInt8)(s:ByteArray)(done:List ByteArray)(fr k:Nat):Prop:=words c s=done++(spl c ((s.data.toList.take k).drop fr) (s.data.toList.drop k)).map mkB
theorem ZfX (c:UInt8)(s:ByteArray):W8 c s [] 0 0:=by unfold W8 words;rw[List.take_zero,List.drop_zero,List.nil_append];rfl
theorem Zjn {c:UInt8}{s:ByteArray}{done:List ByteArray}{fr k:Nat}(h:W8 c s done fr k)(hk:k<s.size)(hc:s[k]=c):W8 c s (done++[s.extract fr k]) (k+1) (k+1):=by
 unfold W8 at h ⊢;rw[ZaP hk,spl,if_pos hc,List.map_cons,QI] at h;have hz:(s.data.toList.take (k+1)).drop (k+1)=[]:=List.drop_eq_nil_of_le (by rw[List.length_take];omega);rw[h,List.append_assoc,hz];rfl
theorem ZhQ {c:UInt8}{s:ByteArray}{done:List ByteArray}{fr k:Nat}(h:W8 c s done fr k)(hf:fr<=k)(hk:k<s.size)(hc:¬s[k]=c):W8 c s done fr (k+1):=by
 unfold W8 at h ⊢;rw[ZaP hk,spl,if_neg hc,JK hf hk] at h;exact h
theorem Zjo {c:UInt8}{s:ByteArray}{done:List ByteArray}{fr:Nat}(h:W8 c s done fr s.size):words c s=done++[s.extract fr s.size]:=by
 unfold W8 at h;have hl:s.data.toList.length=s.size:=by rw[Array.length_toList];rfl
 have hz:s.data.toList.drop s.size=[]:=List.drop_eq_nil_of_le (by omega);rw[hz,spl,List.map_cons,List.map_nil,QI] at h;exact h
theorem ZS (c:UInt8)(s:ByteArray)(w:World)(hs:s.size<=1048576) :
  Calls Tryz.prog 54 #[.string s,.int .u8 (c.toNat:Int)] w λe w'=>∃v,e = .returned v/\Own ZY 9 1 w' w.heap.size v (words c s).length (words c s)/\Below w.heap.size w w':=by
 go_enter Tryz.func54,Tryz.ntmps54;go_wp2
 go_loopw [5,6,7] (λv f i wr=>∃(done:List ByteArray) (fr k:Nat),f = .int .i64 fr/\i = .int .i64 k/\fr<=k/\k<=s.size/\done.length<=k/\Own ZY 9 1 wr w.heap.size v done.length done/\Hid (W8 c s done fr k)/\Below w.heap.size w wr) (λ_ _ i _=>s.size-(intOf i).toNat)
 case atStart=>exact⟨[],0,0,rfl,rfl,Nat.le_refl _,Nat.zero_le _,Nat.le_refl _,Own.none_made w (Nat.le_refl _),Za (ZfX c s),(Below.refl _ _).alloc (Nat.le_refl _) _⟩
 case round =>
  obtain⟨done,fr,k,rfl,rfl,hf,hk,hd,ho,hi,hb⟩:=hrel;have hO:=Za ho;have hB:=Za hb;clear ho hb;by_cases hlt:k<s.size
  ·by_cases hc:s[k]=c
   ·have hN:=Za (Zjn hi.out hlt hc)
    have e1:((s[k].toNat:Int)==(c.toNat:Int))=true:=by rw[hc];simp
    clear hc;go_wp2_with (at_builtin;refine Zah rfl (.tmp 20) (.tmp 25) _ rfl Tryz.underlying24 ZdT rfl (by omega) (by omega) rfl hO.out (s.extract fr k) _ rfl rfl rfl (YJ _) (by omega) hB.out.size ?_;intro v' w1 ho2 hg2;have hB2:=Za (hO.out.grown hB.out hg2);have hO2:=Za ho2;clear ho2 hg2)
    go_roundw
    case rel=>exact⟨done++[s.extract fr k],k+1,k+1,by go_num,by go_num,Nat.le_refl _,by omega,by simp;omega,by rw[List.length_append];exact hO2.out,hN,hB2.out⟩
    case measure=>simp[intOf];omega
   ·have hN:=Za (ZhQ hi.out hf hlt hc)
    have e1:((s[k].toNat:Int)==(c.toNat:Int))=false:=by
     rw[beq_eq_false_iff_ne];intro h;exact hc (UInt8.toNat_inj.1 (by omega))
    clear hc;go_wp2
    go_roundw
    case rel=>exact⟨done,fr,k+1,rfl,by go_num,by omega,by omega,by omega,hO.out,hN,hB.out⟩
    case measure=>simp[intOf];omega
  ·have hkn:k=s.size:=by omega
   subst hkn;have hE:=Za (Zjo hi.out);go_wp2_with (at_builtin;refine Zah rfl (.tmp 29) (.tmp 33) _ rfl Tryz.underlying24 ZdT rfl (by omega) (by omega) rfl hO.out (s.extract fr s.size) _ rfl rfl rfl (YJ _) (by omega) hB.out.size ?_;intro v' w1 ho2 hg2;have hB2:=Za (hO.out.grown hB.out hg2);have hO2:=Za ho2;clear ho2 hg2)
   go_ret;exact⟨_,rfl,by rw[hE.out,List.length_append];exact hO2.out,hB2.out⟩
structure Entry where
 fDay:Int
 fWhat:ByteArray
 fValue:Int
 deriving DecidableEq
def Entry.cells (x:Entry):List Value:=[.int .i64 x.fDay,.string x.fWhat,.int .i64 x.fValue]
def Entry.same (x y:Entry):Bool:=decide (x=y)
theorem Entry.len (x:Entry):x.cells.length=3:=rfl
theorem Arr.Entry {w:World}{B:Nat}{A:Option Addr}{n:Nat}{l:List Entry}(h:Arr Entry.cells 3 w B A n l){k:Nat}(hk:k<n):∃b o x,A=some ⟨b,o,none⟩/\b<B/\l[k]?=some x/\w.cell? ⟨b,o+k*3,none⟩=some (.int .i64 x.fDay)/\w.cell? ⟨b,o+k*3+1,none⟩=some (.string x.fWhat)/\w.cell? ⟨b,o+k*3+2,none⟩=some (.int .i64 x.fValue):=by
 obtain⟨b,o,x,e,hb,hx,hc⟩:=h.at_ hk;exact⟨b,o,x,e,hb,hx,hc 0 _ rfl,hc 1 _ rfl,hc 2 _ rfl⟩
def Entry.fits (x:Entry):Prop:=x.fWhat.size<=maxLen
def Entry.wt (x:Entry):Int:=(x.fWhat.size:Int)
def Entry.pre (l:List Entry):Int:=(l.map Entry.wt).sum
def Entry.tot (l:List Entry):Int:=l.length+Entry.pre l
def Entry.ok (x:Entry):Bool:=inB x.fDay 0 100000&&ZU x.fWhat&&inB x.fValue (-1000000) 1000000
theorem Wc (x:Entry)(w:World)(hx:x.fits) :
  Calls Tryz.prog 124 #[.agg #[.int .i64 x.fDay,.string x.fWhat,.int .i64 x.fValue]] w λe w'=>e = .returned (.bool x.ok)/\Below w.heap.size w w':=by
 cases k0:inB x.fDay 0 100000
 ·have ck:Hid (x.ok=false):=Za (by simp[Entry.ok,k0])
  go_enter Tryz.func124,Tryz.ntmps124;go_wp2_with (first|(go_at_call 126;refine(XO _ _ hx).mono ?_;rintro e w' ⟨rfl,rfl⟩)|(go_at_call 113;refine(Zu _ _ _ _).mono ?_;rintro e w' ⟨rfl,rfl⟩))
  go_ret;exact⟨ZW ck.out.symm,by go_grown⟩
 ·cases k1:ZU x.fWhat
  ·have ck:Hid (x.ok=false):=Za (by simp[Entry.ok,k1])
   go_enter Tryz.func124,Tryz.ntmps124;go_wp2_with (first|(go_at_call 126;refine(XO _ _ hx).mono ?_;rintro e w' ⟨rfl,rfl⟩)|(go_at_call 113;refine(Zu _ _ _ _).mono ?_;rintro e w' ⟨rfl,rfl⟩))
   go_ret;exact⟨ZW ck.out.symm,by go_grown⟩
  ·have ck:Hid (x.ok=inB x.fValue (-1000000) 1000000):=Za (by simp[Entry.ok,k0,k1])
   go_enter Tryz.func124,Tryz.ntmps124;go_wp2_with (first|(go_at_call 126;refine(XO _ _ hx).mono ?_;rintro e w' ⟨rfl,rfl⟩)|(go_at_call 113;refine(Zu _ _ _ _).mono ?_;rintro e w' ⟨rfl,rfl⟩))
   go_ret;exact⟨ZW ck.out.symm,by go_grown⟩
theorem Zdd (n:Int)(w:World) :
  Calls Tryz.prog 258 #[.int .i64 n] w λe w'=>e = .returned (.bool (inB n 0 100000))/\w=w':=by
 go_enter Tryz.func258,Tryz.ntmps258;go_wp2_with (go_at_call 135;refine(Yc _ _ _ _).mono ?_;rintro e w' ⟨rfl,rfl⟩)
 go_ret;exact⟨rfl,rfl⟩
theorem Y3 (b o:Nat)(x:Entry)(w:World)(hx:x.fits)(d0:w.cell? ⟨b,o,none⟩=some (.int .i64 x.fDay))(d1:w.cell? ⟨b,o+1,none⟩=some (.string x.fWhat))(d2:w.cell? ⟨b,o+2,none⟩=some (.int .i64 x.fValue)) :
  Calls Tryz.prog 207 #[.pointer (some ⟨b,o,none⟩)] w λe w'=>e = .returned (.bool x.ok)/\w=w':=by
 cases k0:inB x.fDay 0 100000
 ·have ck:Hid (x.ok=false):=Za (by simp[Entry.ok,k0])
  go_enter Tryz.func207,Tryz.ntmps207;go_wp2_with (first|(go_at_call 196;refine(XH _ _ hx).mono ?_;rintro e w' ⟨rfl,rfl⟩)|(go_at_call 258;refine(Zdd _ _).mono ?_;rintro e w' ⟨rfl,rfl⟩)|(go_at_call 135;refine(Yc _ _ _ _).mono ?_;rintro e w' ⟨rfl,rfl⟩))
  go_ret;exact⟨ZW ck.out.symm,rfl⟩
 ·cases k1:ZU x.fWhat
  ·have ck:Hid (x.ok=false):=Za (by simp[Entry.ok,k1])
   go_enter Tryz.func207,Tryz.ntmps207;go_wp2_with (first|(go_at_call 196;refine(XH _ _ hx).mono ?_;rintro e w' ⟨rfl,rfl⟩)|(go_at_call 258;refine(Zdd _ _).mono ?_;rintro e w' ⟨rfl,rfl⟩)|(go_at_call 135;refine(Yc _ _ _ _).mono ?_;rintro e w' ⟨rfl,rfl⟩))
   go_ret;exact⟨ZW ck.out.symm,rfl⟩
  ·have ck:Hid (x.ok=inB x.fValue (-1000000) 1000000):=Za (by simp[Entry.ok,k0,k1])
   go_enter Tryz.func207,Tryz.ntmps207;go_wp2_with (first|(go_at_call 196;refine(XH _ _ hx).mono ?_;rintro e w' ⟨rfl,rfl⟩)|(go_at_call 258;refine(Zdd _ _).mono ?_;rintro e w' ⟨rfl,rfl⟩)|(go_at_call 135;refine(Yc _ _ _ _).mono ?_;rintro e w' ⟨rfl,rfl⟩))
   go_ret;exact⟨ZW ck.out.symm,rfl⟩
end Go.Proofs.YtfpaejlipaainaaGreatDoor
