/- Texts that belong together, joined: contracts and plain laws. No statement is proved here. -/
import Derived.Test.YtfpaejlipaainaaGreatDoorM24
set_option maxRecDepth 100000
set_option maxHeartbeats 2000000
namespace Go.Proofs.YtfpaejlipaainaaGreatDoor
open Go.ChangeShapes Go.WideShapes Go.ChangeAt Go.RowKit Go.Deep
def r6 (s:ByteArray):Nat→Nat × Nat
 | 0=>(0,0)
 | i+1=>if atB s (i%s.size)=atB s ((i+1)%s.size) then ((r6 s i).1,(r6 s i).2+1) else (max (r6 s i).1 ((r6 s i).2+1),0)
def run6 (s:ByteArray):Nat:=(r6 s (2*s.size)).1
theorem Zia (s:ByteArray)(i:Nat):(r6 s i).1<=i/\(r6 s i).2<=i:=by
 induction i with
 | zero=>exact⟨Nat.le_refl _,Nat.le_refl _⟩
 | succ i ih =>
  unfold r6;split
  ·exact⟨by show(r6 s i).1<=_;omega,by show(r6 s i).2+1<=_;omega⟩
  ·exact⟨by show max _ _<=_;omega,Nat.zero_le _⟩
def goS (s:List Bool)(n:Nat):Nat→Nat→Nat→Nat→Nat
 | 0,_,m,_=>m
 | f+1,i,m,r=>if s.getD (i%n) true==s.getD ((i+1)%n) true then goS s n f (i+1) m (r+1) else goS s n f (i+1) (max m (r+1)) 0
def goI (s:List Bool)(n:Nat):Nat→Nat→Nat→Nat→Nat
 | 0,_,m,_=>m
 | f+1,i,m,r=>if i==0||s.getD (i%n) true==s.getD ((i-1)%n) true then goI s n f (i+1) (max m (min (r+1) n)) (r+1) else goI s n f (i+1) (max m (min 1 n)) 1
def ZjY (s:List Bool):Bool:=s.contains true&&s.contains false
def X0 (n:Nat)(s:List Bool):Bool:=Nat.beq (goS s n (2*n) 0 0 0) (if ZjY s then goI s n (2*n) 0 1 0 else 0)
def WZ:Nat→(List Bool→Bool)→Bool
 | 0,p=>p []
 | n+1,p=>WZ n (λl=>p (true :: l))&&WZ n (λl=>p (false :: l))
theorem Jj:∀{n:Nat} {p:List Bool→Bool},WZ n p=true→∀l:List Bool,l.length=n→p l=true
 | 0,p,h,l,hl=>by
  obtain rfl:=List.eq_nil_of_length_eq_zero hl;exact h
 | n+1,p,h,l,hl=>by
  unfold WZ at h;rw[Bool.and_eq_true] at h;cases l with
  | nil=>cases hl
  | cons b l =>
   have hl':l.length=n:=by simpa using hl
   cases b
   ·exact Jj h.2 l hl'
   ·exact Jj h.1 l hl'
theorem ZkQ:WZ 1 (X0 1)=true:=by decide +kernel
theorem ZkP:WZ 2 (X0 2)=true:=by decide +kernel
theorem ZkO:WZ 3 (X0 3)=true:=by decide +kernel
theorem ZkN:WZ 4 (X0 4)=true:=by decide +kernel
theorem ZkM:WZ 5 (X0 5)=true:=by decide +kernel
theorem ZkL:WZ 6 (X0 6)=true:=by decide +kernel
theorem ZkK:WZ 7 (X0 7)=true:=by decide +kernel
theorem ZkJ:WZ 8 (X0 8)=true:=by decide +kernel
theorem ZkI:WZ 9 (X0 9)=true:=by decide +kernel
theorem Zkx:WZ 10 (X0 10)=true:=by decide +kernel
theorem Zkw:WZ 11 (X0 11)=true:=by decide +kernel
theorem Zkv:WZ 12 (X0 12)=true:=by decide +kernel
theorem Zj5 {n:Nat}(h1:1<=n)(h2:n<=12):WZ n (X0 n)=true:=by
 rcases(by omega:n=1\/n=2\/n=3\/n=4\/n=5\/n=6\/n=7\/n=8\/n=9\/n=10\/n=11\/n=12) with rfl|rfl|rfl|rfl|rfl|rfl|rfl|rfl|rfl|rfl|rfl|rfl
 ·exact ZkQ
 ·exact ZkP
 ·exact ZkO
 ·exact ZkN
 ·exact ZkM
 ·exact ZkL
 ·exact ZkK
 ·exact ZkJ
 ·exact ZkI
 ·exact Zkx
 ·exact Zkw
 ·exact Zkv
def ZhJ (b:Bool):UInt8:=if b then 70 else 66
theorem Qf {a b:Bool}:(ZhJ a=ZhJ b)↔(a==b)=true:=by cases a<;>cases b<;>decide
theorem Zhn:∀(l:List UInt8),l.all QW=true→∃L:List Bool,l=L.map ZhJ
 | [],_=>⟨[],rfl⟩
 | c :: l,h=>by
  rw[List.all_cons,Bool.and_eq_true] at h;obtain⟨L,rfl⟩:=Zhn l h.2;have hc:c=70\/c=66:=by
   have:=h.1;unfold QW at this;simpa using this
  rcases hc with rfl|rfl
  ·exact⟨true :: L,rfl⟩
  ·exact⟨false :: L,rfl⟩
section
variable {s:ByteArray}{L:List Bool}
theorem ZiL (h:s.data.toList=L.map ZhJ){k:Nat}(hk:k<s.size):atB s k=ZhJ (L.getD k true):=by
 unfold atB;rw[h];have hl:k<L.length:=by
  have:s.size=s.data.toList.length:=Lib.size_eq s;rw[h,List.length_map] at this;omega
 rw[List.getD_eq_getElem?_getD,List.getD_eq_getElem?_getD,List.getElem?_map,List.getElem?_eq_getElem hl];rfl
theorem Zi9 (h:s.data.toList=L.map ZhJ)(h0:0<s.size):∀f i,goS L s.size f i (r6 s i).1 (r6 s i).2=(r6 s (i+f)).1
 | 0,i=>rfl
 | f+1,i=>by
  have e:r6 s (i+1)=if atB s (i%s.size)=atB s ((i+1)%s.size) then ((r6 s i).1,(r6 s i).2+1) else (max (r6 s i).1 ((r6 s i).2+1),0):=rfl
  have ih:=Zi9 h h0 f (i+1);rw[ZiL h (Nat.mod_lt _ h0),ZiL h (Nat.mod_lt _ h0)] at e;rw[goS,show i+(f+1)=i+1+f by omega,←ih];by_cases hc:(L.getD (i%s.size) true==L.getD ((i+1)%s.size) true)=true
  ·rw[if_pos hc];rw[if_pos (Qf.2 hc)] at e;rw[e]
  ·rw[if_neg hc];rw[if_neg (λx=>hc (Qf.1 x))] at e;rw[e]
theorem Zja (h:s.data.toList=L.map ZhJ)(h0:0<s.size):∀f i,goI L s.size f i (lrS s i).1 (lrS s i).2=(lrS s (i+f)).1
 | 0,i=>rfl
 | f+1,i=>by
  have e:lrS s (i+1)=(max (lrS s i).1 (min ((if 0<i/\¬atB s (i%s.size)=atB s ((i-1)%s.size) then 0 else (lrS s i).2)+1) s.size),(if 0<i/\¬atB s (i%s.size)=atB s ((i-1)%s.size) then 0 else (lrS s i).2)+1):=rfl;have ih:=Zja h h0 f (i+1);rw[ZiL h (Nat.mod_lt _ h0),ZiL h (Nat.mod_lt _ h0)] at e;rw[goI,show i+(f+1)=i+1+f by omega,←ih];by_cases hi:i=0
  ·subst hi
   rw[if_pos (by simp)];rw[if_neg (by omega)] at e;rw[e]
  ·by_cases hc:(L.getD (i%s.size) true==L.getD ((i-1)%s.size) true)=true
   ·rw[if_pos (by rw[hc,Bool.or_true])];rw[if_neg (λx=>x.2 (Qf.2 hc))] at e;rw[e]
   ·rw[if_neg (by simp only[Bool.or_eq_true,beq_iff_eq,hi,false_or];simpa using hc)];rw[if_pos ⟨by omega,λx=>hc (Qf.1 x)⟩] at e;rw[e]
theorem Zkm (h:s.data.toList=L.map ZhJ):VL s=ZjY L:=by
 have key:∀(L:List Bool) (b:Bool),(L.map ZhJ).contains (ZhJ b)=L.contains b:=by
  intro L b
  induction L with
  | nil=>rfl
  | cons x L ih =>
   rw[List.map_cons,List.contains_cons,List.contains_cons,ih]
   congr 1
   cases b<;>cases x<;>decide
 unfold VL Zkd ZjY;rw[h,←key L true,←key L false];rfl
end
theorem Zgi {s:ByteArray}(h1:1<=s.size)(h2:s.size<=12)(hf:s.data.toList.all QW=true):run6 s=if VL s then longRun s else 0:=by
 obtain⟨L,hL⟩:=Zhn _ hf;have hlen:L.length=s.size:=by
  have:s.size=s.data.toList.length:=Lib.size_eq s;rw[hL,List.length_map] at this;omega
 have ha:=Jj (Zj5 h1 h2) L hlen;unfold X0 at ha;have ha:=Nat.eq_of_beq_eq_true ha;have e1:=Zi9 hL h1 (2*s.size) 0;have e2:=Zja hL h1 (2*s.size) 0;rw[Nat.zero_add] at e1 e2;unfold run6 longRun;rw[←e1,←e2,Zkm hL];exact ha
theorem QO (s:ByteArray):1<=longRun s:=(ZbD s _).2.1
theorem Zgh {s:ByteArray}(h1:1<=s.size)(h2:s.size<=12)(hf:s.data.toList.all QW=true):decide (run6 s=0) = !VL s:=by
 rw[Zgi h1 h2 hf];have:=QO s;cases VL s
 ·rfl
 ·simp;omega
def stack6 (s:ByteArray)(k j:Nat):ByteArray:=Xs s j k (againN s k)
theorem VO {s:ByteArray}{k:Nat}(h1:1<=s.size):1<=againN s k/\againN s k<=s.size:=by
 unfold againN;have hg:0<Nat.gcd s.size k:=Nat.gcd_pos_of_pos_left _ h1;refine⟨(Nat.le_div_iff_mul_le hg).2 ?_,Nat.div_le_self _ _⟩;rw[Nat.one_mul];exact Nat.le_of_dvd h1 (Nat.gcd_dvd_left _ _)
theorem ZiP {s:ByteArray}(h1:1<=s.size)(hf:s.data.toList.all QW=true)(f st m:Nat):(Xs s f st m).data.toList.all QW=true:=by
 rw[List.all_eq_true] at hf ⊢;intro c hc;have hc:c∈alongL s f st m:=by simpa[Xs] using hc
 unfold alongL at hc;obtain⟨i,_,rfl⟩:=List.mem_map.1 hc;have hlt:(f+i*st)%s.size<s.size:=Nat.mod_lt _ h1;refine hf _ ?_;unfold atB;rw[List.getD_eq_getElem?_getD,Jf hlt];have:=Jf hlt;exact List.mem_of_getElem? this
def loose6 (s:ByteArray)(k m:Nat):List Int:=((List.range m).filter λj=>decide (run6 (stack6 s k j)=0)).map λj:Nat=>(j:Int)
theorem ZgM {s:ByteArray}(h1:1<=s.size)(h2:s.size<=12)(hf:s.data.toList.all QW=true)(k m:Nat):loose6 s k m=YT s k m:=by
 unfold loose6 YT
 congr 2
 funext j
 obtain⟨b1,b2⟩:=VO (k:=k) h1;unfold stack6 VG;exact Zgh (by rw[Xk];exact b1) (by rw[Xk];omega) (ZiP h1 hf _ _ _)
def Zi0 (s:ByteArray)(k:Nat)(f:Int):Bool:=decide (0<run6 s)&&(decide ((run6 s:Int)<=f)&&decide ((loose6 s k k).length=0))
theorem ZfY {s:ByteArray}(h1:1<=s.size)(h2:s.size<=12)(hf:s.data.toList.all QW=true)(k:Nat)(f:Int):Zi0 s k f=Xg s k f:=by
 unfold Zi0 Xg;rw[ZgM h1 h2 hf,Zgi h1 h2 hf];have:=QO s;cases VL s
 ·simp
 ·simp;omega
structure Order where
 fWho:ByteArray
 fMany:Int
 fEach:Int
 fFrom:Int
 fDue:Int
 deriving DecidableEq
def Order.cells (x:Order):List Value:=[.string x.fWho,.int .i64 x.fMany,.int .i64 x.fEach,.int .i64 x.fFrom,.int .i64 x.fDue]
def Order.same (x y:Order):Bool:=decide (x=y)
theorem Order.len (x:Order):x.cells.length=5:=rfl
theorem Arr.Order {w:World}{B:Nat}{A:Option Addr}{n:Nat}{l:List Order}(h:Arr Order.cells 5 w B A n l){k:Nat}(hk:k<n):∃b o x,A=some ⟨b,o,none⟩/\b<B/\l[k]?=some x/\w.cell? ⟨b,o+k*5,none⟩=some (.string x.fWho)/\w.cell? ⟨b,o+k*5+1,none⟩=some (.int .i64 x.fMany)/\w.cell? ⟨b,o+k*5+2,none⟩=some (.int .i64 x.fEach)/\w.cell? ⟨b,o+k*5+3,none⟩=some (.int .i64 x.fFrom)/\w.cell? ⟨b,o+k*5+4,none⟩=some (.int .i64 x.fDue):=by
 obtain⟨b,o,x,e,hb,hx,hc⟩:=h.at_ hk;exact⟨b,o,x,e,hb,hx,hc 0 _ rfl,hc 1 _ rfl,hc 2 _ rfl,hc 3 _ rfl,hc 4 _ rfl⟩
def Order.fits (x:Order):Prop:=x.fWho.size<=maxLen
def Order.wt (x:Order):Int:=(x.fWho.size:Int)
def Order.pre (l:List Order):Int:=(l.map Order.wt).sum
def Order.tot (l:List Order):Int:=l.length+Order.pre l
def Order.ok (x:Order):Bool:=ZU x.fWho&&inB x.fMany 1 100&&inB x.fEach 1 20&&(decide (0<=x.fFrom)&&decide (x.fFrom<x.fDue)&&decide (x.fDue<=5000))
theorem Order.ok_iff {x:Order}:x.ok=true↔ZU x.fWho=true/\(1<=x.fMany/\x.fMany<=100)/\(1<=x.fEach/\x.fEach<=20)/\0<=x.fFrom/\x.fFrom<x.fDue/\x.fDue<=5000:=by
 simp[Order.ok,Zj,and_assoc]
theorem ZhX (a b:Int)(w:World):Calls Tryz.prog 280 #[.int .i64 a,.int .i64 b] w λe w'=>e = .returned (.int .i64 (max a b))/\w=w':=by
 by_cases h:b<a
 ·go_enter Tryz.func280,Tryz.ntmps280
  go_wp2
  go_ret;exact⟨UL (by omega),rfl⟩
 ·go_enter Tryz.func280,Tryz.ntmps280
  go_wp2
  go_ret;exact⟨UL (by omega),rfl⟩
theorem Zdj (l:List UInt8)(b:UInt8):bI (l++[b])=bI l++[((b.toNat:Nat):Int)]:=by unfold bI;rw[List.map_append];rfl
theorem YG {s:ByteArray}(h:strokeOk s=true):1<=s.size/\s.size<=12/\s.data.toList.all QW=true:=by
 unfold strokeOk at h;rw[Bool.and_eq_true,Bool.and_eq_true] at h;exact⟨of_decide_eq_true h.1.1,of_decide_eq_true h.1.2,h.2⟩
theorem Zhy (s:ByteArray)(k r j:Nat)(w:World)(hs0:0<s.size)(hs:s.size<=12)(hk:k<=60)(hr:r<=100)(hj:j<=100) :
  Calls Tryz.prog 219 #[.string s,.int .i64 (k:Int),.int .i64 (r:Int),.int .i64 (j:Int)] w λe w'=>e = .returned (.int .u8 ((atB s ((j+r*k)%s.size)).toNat:Int))/\w=w':=by
 have hX:r*k<=6000:=Nat.mul_le_mul hr hk;obtain⟨X,hX0⟩:∃X,X=r*k:=⟨_,rfl⟩;have hw1:IntKind.i64.wrap ((r:Int)*(k:Int))=(X:Int):=by
  rw[hX0,Int.natCast_mul];exact IntWalk.i64_in _ (by rw[←Int.natCast_mul];omega)
 rw[←hX0] at hX ⊢;obtain⟨Y,hY⟩:∃Y,Y=j+X:=⟨_,rfl⟩;have hw2:IntKind.i64.wrap ((X:Int)+(j:Int))=(Y:Int):=by
  rw[hY,Int.natCast_add,Int.add_comm];exact IntWalk.i64_in _ (by omega)
 obtain⟨J,hJ⟩:∃J,J=Y%s.size:=⟨_,rfl⟩;have hcast:(Y:Int)%(s.size:Int)=(J:Int):=by rw[hJ];simp
 have hJs:J<s.size:=by rw[hJ];exact Nat.mod_lt _ hs0
 have hat:Hid (atB s ((j+X)%s.size)=s[J]):=Za (by rw[←hY,←hJ,VM hJs]);have hJ0:(0:Int)<=(J:Int):=by omega
 have hY0:(0:Int)<=(Y:Int):=by omega
 have hs1:(0:Int)<(s.size:Int):=by omega
 clear hX0 hY hJ;go_enter Tryz.func219,Tryz.ntmps219;go_wp2
 go_ret;exact⟨by rw[hat.out];rfl,rfl⟩
theorem JC (s:ByteArray)(k:Nat)(w:World)(hs:strokeOk s=true)(hk:3<=k/\k<=60) :
  Calls Tryz.prog 218 #[.string s,.int .i64 (k:Int)] w λe w'=>e = .returned (.int .i64 0)/\w=w':=by
 have hk1:inB (k:Int) 3 60=true:=Zj.2 (by omega);have hsz:s.size<=maxLen:=by have:=(YG hs).2.1;unfold maxLen;omega
 go_enter Tryz.func218,Tryz.ntmps218;go_wp2_with fail
 refine(Yv s _ hsz).mono ?_;rw[hs];rintro e w1 ⟨rfl,rfl⟩;go_wp2_with fail
 refine(Z8 (k:Int) _).mono ?_;rw[hk1];rintro e w1 ⟨rfl,rfl⟩;go_wp2
 go_ret;exact⟨rfl,rfl⟩
theorem Zej (s:ByteArray)(k:Nat)(r:Int)(w:World)(hs:strokeOk s=true)(hk:3<=k/\k<=60) :
  Calls Tryz.prog 158 #[.string s,.int .i64 (k:Int),.int .i64 r] w λe w'=>e = .returned (.tuple #[.string (mRoundT s k r),.int .i64 (mRoundC r)])/\Below w.heap.size w w':=by
 have hc:=Za (λW=>JC s k W hs hk);cases hr:inB r 0 100
 ·have hM:Hid (mRoundT s k r=⟨#[]⟩/\mRoundC r=2):=Za (by unfold mRoundT mRoundC;rw[hr];exact⟨rfl,rfl⟩)
  go_enter Tryz.func158,Tryz.ntmps158;go_wp2_with fail
  refine(hc.out _).mono ?_;rintro e w1 ⟨rfl,rfl⟩;go_wp2_with fail
  refine(Yc r 0 100 _).mono ?_;rw[hr];rintro e w1 ⟨rfl,rfl⟩;go_wp2
  go_ret2
  exact⟨by rw[hM.out.1,hM.out.2];rfl,Below.refl _ _⟩
 obtain⟨R,rfl⟩:∃R:Nat,r=(R:Int):=⟨r.toNat,by have:=Zj.1 hr;omega⟩;have hR:R<=100:=by have:=Zj.1 hr;omega
 have hM:Hid (mRoundT s k (R:Int)=Xs s (R*k) 1 k/\mRoundC (R:Int)=0):=Za (by unfold mRoundT mRoundC;rw[hr];exact⟨rfl,rfl⟩);have hat:=Za (fun(j:Nat) W (hj:j<=60)=>Zhy s k R j W (by have:=(YG hs).1;omega) (YG hs).2.1 hk.2 hR (by omega));have hk2:=hk.2;clear hs hk;go_enter Tryz.func158,Tryz.ntmps158;go_wp2_with fail
 refine(hc.out _).mono ?_;rintro e w1 ⟨rfl,rfl⟩;go_wp2_with fail
 refine(Yc (R:Int) 0 100 _).mono ?_;rw[hr];rintro e w1 ⟨rfl,rfl⟩;have hO0:=Za (Own.none_made (cells:=u8c) (e:=5) (s:=1) w (Nat.le_refl _));have hB0:=Za ((Below.refl w.heap.size w).alloc (Nat.le_refl _) (.cells #[] 5));go_wp2
 go_loopw [9,10] (λv i wr=>∃j:Nat,j<=k/\i = .int .i64 (j:Int)/\Own u8c 5 1 wr w.heap.size v j (bI (alongL s (R*k) 1 j))/\Below w.heap.size w wr) (λ_ i _=>k-(intOf i).toNat)
 case atStart=>exact⟨0,Nat.zero_le _,rfl,hO0.out,hB0.out⟩
 case round =>
  obtain⟨j,hj,rfl,ho,hb⟩:=hrel;have hO:=Za ho;have hB:=Za hb;clear ho hb hO0 hB0;by_cases hlt:j<k
  ·have hlt':(j:Int)<(k:Int):=by omega
   have he:Hid (atB s ((R*k+j*1)%s.size)=atB s ((j+R*k)%s.size)):=Za (by rw[Nat.mul_one,Nat.add_comm]);go_wp2_with (first|(go_at_call 219;refine(hat.out j _ (by omega)).mono ?_;rintro e w' ⟨rfl,rfl⟩)|(at_builtin;refine Zp wr.heap.size rfl rfl (.tmp 30) (.tmp 36) rfl Tryz.underlying22 WU rfl (by omega) (by omega) Y7 Uk rfl hO.out ((atB s ((j+R*k)%s.size)).toNat:Int) _ rfl rfl (by omega) hB.out.size ?_;intro v5 w5 ho5 hg5 _;have hB5:=Za (Zi hB.out hO.out hg5 hB.out.size);have hO5:=Za ho5;clear ho5 hg5)|fail)
   go_roundw
   case rel=>exact⟨j+1,by omega,by go_num,by rw[VN,Zdj,he.out];exact hO5.out,hB5.out⟩
   case measure=>simp[intOf];omega
  ·obtain rfl:j=k:=by omega
   obtain⟨C0,d0,rfl,hcap⟩:=hO.out.slice;have hcv:=WC hO.out;go_wp2
   go_ret2
   exact⟨by rw[hM.out.1,hM.out.2];rfl,hB.out⟩
theorem ZeD (s:ByteArray)(k:Nat)(w:World)(hs0:0<s.size)(hs:s.size<=12)(hk:k<=1000) :
  Calls Tryz.prog 303 #[.string s,.int .i64 (k:Int)] w λe w'=>e = .returned (.int .i64 (againN s k:Int))/\Below w.heap.size w w':=by
 obtain⟨g,hg⟩:∃g,g=Nat.gcd s.size k:=⟨_,rfl⟩;have hg0:0<g:=by rw[hg];exact Nat.gcd_pos_of_pos_left _ hs0
 have hG:=Za hg;have hq:Hid (againN s k=s.size/g):=Za (by rw[hg];rfl);have hqb:s.size/g<=s.size:=Nat.div_le_self _ _;obtain⟨q,hqq⟩:∃q,q=s.size/g:=⟨_,rfl⟩;rw[←hqq] at hq hqb;have hw1:IntKind.i64.wrap ((s.size:Int)/(g:Int))=(q:Int):=by
  rw[show(s.size:Int)/(g:Int)=(q:Int) by rw[hqq,Int.natCast_ediv]];exact IntWalk.i64_in _ (by omega)
 have hgn:¬(g:Int)=0:=by omega
 clear hg hqb hqq;go_enter Tryz.func303,Tryz.ntmps303;go_wp2_with fail
 refine(ZhY s.size k _ (by omega) (by omega)).mono ?_;rw[←hG.out];rintro e w1 ⟨rfl,hb⟩;have hB:=Za hb;clear hb;go_wp2
 go_ret;exact⟨by rw[hq.out];rfl,hB.out⟩
theorem Zeh (s:ByteArray)(k j0:Nat)(w:World)(hs:strokeOk s=true)(hk:k<=60)(hj0:j0<=60) :
  Calls Tryz.prog 281 #[.string s,.int .i64 (k:Int),.int .i64 (j0:Int)] w λe w'=>e = .returned (.string (stack6 s k j0))/\Below w.heap.size w w':=by
 obtain⟨h1,h2,_⟩:=YG hs;obtain⟨m1,m2⟩:=VO (k:=k) h1;have hag:=Za (λW=>ZeD s k W (by omega) h2 (by omega));have hM:Hid (stack6 s k j0=Xs s j0 k (againN s k)):=Za rfl;have hat:=Za (fun(j:Nat) W (hj:j<=12)=>Zhy s k j j0 W (by omega) h2 hk (by omega) (by omega));obtain⟨m,hm⟩:∃m,m=againN s k:=⟨_,rfl⟩;rw[←hm] at hag hM m1 m2;have hm12:m<=12:=by omega
 clear hm hs h1 h2 m1 m2;have hO0:=Za (Own.none_made (cells:=u8c) (e:=5) (s:=1) w (Nat.le_refl _));have hB0:=Za ((Below.refl w.heap.size w).alloc (Nat.le_refl _) (.cells #[] 5));go_enter Tryz.func281,Tryz.ntmps281;go_wp2
 go_loopw [7,8] (λv i wr=>∃j:Nat,j<=m/\i = .int .i64 (j:Int)/\Own u8c 5 1 wr w.heap.size v j (bI (alongL s j0 k j))/\Below w.heap.size w wr) (λ_ i _=>m-(intOf i).toNat)
 case atStart=>exact⟨0,Nat.zero_le _,rfl,hO0.out,hB0.out⟩
 case round =>
  obtain⟨j,hj,rfl,ho,hb⟩:=hrel;have hO0:=Za ho;have hB0:=Za hb;clear ho hb;go_wp2_with fail
  refine(hag.out _).mono ?_;rintro e w1 ⟨rfl,hb⟩;have hO:=Za (hO0.out.below hb);have hB:=Za (Below.up hB0.out hb);clear hb hO0 hB0;by_cases hlt:j<m
  ·have hlt':(j:Int)<(m:Int):=by omega
   go_wp2_with (first|(go_at_call 219;refine(hat.out j _ (by omega)).mono ?_;rintro e w' ⟨rfl,rfl⟩)|(at_builtin;refine Zp w1.heap.size rfl rfl (.tmp 17) (.tmp 23) rfl Tryz.underlying22 WU rfl (by omega) (by omega) Y7 Uk rfl hO.out ((atB s ((j0+j*k)%s.size)).toNat:Int) _ rfl rfl (by omega) hB.out.size ?_;intro v5 w5 ho5 hg5 _;have hB5:=Za (Zi hB.out hO.out hg5 hB.out.size);have hO5:=Za ho5;clear ho5 hg5)|fail)
   go_roundw
   case rel=>exact⟨j+1,by omega,by go_num,by rw[VN,Zdj];exact hO5.out,hB5.out⟩
   case measure=>simp[intOf];omega
  ·obtain rfl:j=m:=by omega
   obtain⟨C0,d0,rfl,hcap⟩:=hO.out.slice;have hcv:=WC hO.out;go_wp2
   go_ret;exact⟨by rw[hM.out];rfl,hB.out⟩
theorem Zbh (s:ByteArray)(w:World)(hs0:0<s.size)(hs:s.size<=12) :
  Calls Tryz.prog 253 #[.string s] w λe w'=>e = .returned (.int .i64 (run6 s:Int))/\Below w.heap.size w w':=by
 obtain⟨N,hN⟩:∃N,N=2*s.size:=⟨_,rfl⟩;have hNh:=Za hN;have hw0:IntKind.i64.wrap (2*(s.size:Int))=(N:Int):=by rw[show 2*(s.size:Int)=(N:Int) by omega];exact IntWalk.i64_in _ (by omega)
 have hNb:N<=24:=by omega
 clear hN;go_enter Tryz.func253,Tryz.ntmps253;go_wp2
 go_loopw [3,4,5] (λmo ru i wr=>∃k M R:Nat,k<=N/\mo = .int .i64 (M:Int)/\ru = .int .i64 (R:Int)/\i = .int .i64 (k:Int)/\Below w.heap.size w wr/\Hid (r6 s k=(M,R))) (λ_ _ i _=>N-(intOf i).toNat)
 case atStart=>exact⟨0,0,0,Nat.zero_le _,rfl,rfl,rfl,Below.refl _ _,Za rfl⟩
 case round =>
  obtain⟨k,M,R,hk,rfl,rfl,rfl,hb,hst⟩:=hrel;have hB:=Za hb;clear hb;obtain⟨q1,q2⟩:=Zia s k;rw[hst.out] at q1 q2;simp only at q1 q2;by_cases hlt:k<N
  ·have hk':(k:Int)<(N:Int):=by omega
   have hwR:IntKind.i64.wrap ((R:Int)+1)=(R:Int)+1:=IntWalk.i64_in _ (by omega);obtain⟨K,hK⟩:∃K,K=k+1:=⟨_,rfl⟩;have hwK:IntKind.i64.wrap ((k:Int)+1)=(K:Int):=by rw[hK];exact IntWalk.i64_in _ (by omega)
   have hKh:=Za hK;obtain⟨J,hJ⟩:∃J,J=k%s.size:=⟨_,rfl⟩;obtain⟨J',hJ'⟩:∃J,J=K%s.size:=⟨_,rfl⟩;have c1:(k:Int)%(s.size:Int)=(J:Int):=by rw[hJ];simp
   have c2:(K:Int)%(s.size:Int)=(J':Int):=by rw[hJ'];simp
   have hJs:J<s.size:=by rw[hJ];exact Nat.mod_lt _ hs0
   have hJs':J' < s.size:=by rw[hJ'];exact Nat.mod_lt _ hs0
   have key:r6 s (k+1)=(if atB s (k%s.size)=atB s ((k+1)%s.size) then (M,R+1) else (max M (R+1),0)):=by
    show(if _ then _ else _)=_
    rw[hst.out]
   rw[←hK,←hJ,←hJ',VM hJs,VM hJs'] at key;have hJ0:(0:Int)<=(J:Int):=by omega
   have hJ0':(0:Int)<=(J':Int):=by omega
   have hs1:(0:Int)<(s.size:Int):=by omega
   have hk0:(0:Int)<=(k:Int):=by omega
   have hK0:(0:Int)<=(K:Int):=by omega
   clear hJ hJ' hK;by_cases he:s[J]=s[J']
   ·have hnx:Hid (r6 s K=(M,R+1)):=Za (by rw[key,if_pos he])
    have e1:((s[J].toNat:Int) != (s[J'].toNat:Int))=false:=by rw[he];simp
    clear key he;go_wp2
    go_quiet (fail)
    go_wp2
    go_roundw
    case rel=>exact⟨K,M,R+1,by have:=hKh.out;omega,rfl,by go_num,by have:=hKh.out;go_num,Zb hB.out _,hnx⟩
    case measure=>have:=hKh.out;simp[intOf];omega
   ·have hnx:Hid (r6 s K=(max M (R+1),0)):=Za (by rw[key,if_neg he])
    have e1:((s[J].toNat:Int) != (s[J'].toNat:Int))=true:=by
     rw[bne_iff_ne];intro h;exact he (UInt8.toNat_inj.1 (by omega))
    clear key he;obtain⟨C,hC⟩:∃C,C=max M (R+1):=⟨_,rfl⟩;have m2:max (M:Int) ((R:Int)+1)=(C:Int):=by omega
    rw[←hC] at hnx;clear hC;go_wp2
    go_quiet (fail)
    go_wp2_with (go_at_call 280;refine(ZhX _ _ _).mono ?_;rw[m2];rintro e w' ⟨rfl,rfl⟩)
    go_roundw
    case rel=>exact⟨K,C,0,by have:=hKh.out;omega,rfl,rfl,by have:=hKh.out;go_num,Zb hB.out _,hnx⟩
    case measure=>have:=hKh.out;simp[intOf];omega
  ·have hkn:k=N:=by omega
   have hfin:Hid (run6 s=M):=Za (by unfold run6;rw[←hNh.out,←hkn,hst.out]);clear hkn;have hk':¬(k:Int)<(N:Int):=by omega
   go_wp2
   go_ret;exact⟨by rw[hfin.out];rfl,hB.out⟩
theorem Ze3 {s:ByteArray}{k m:Nat}(h:run6 (stack6 s k m)=0):loose6 s k (m+1)=loose6 s k m++[(m:Int)]:=by
 unfold loose6;rw[List.range_succ,List.filter_append,List.map_append];simp[h]
theorem ZgL {s:ByteArray}{k m:Nat}(h:¬run6 (stack6 s k m)=0):loose6 s k (m+1)=loose6 s k m:=by
 unfold loose6;rw[List.range_succ,List.filter_append,List.map_append];simp[h]
theorem Ze4 (s:ByteArray)(k m:Nat):(loose6 s k m).length<=m:=by
 unfold loose6;rw[List.length_map];have:=List.length_filter_le (λj=>decide (run6 (stack6 s k j)=0)) (List.range m);rw[List.length_range] at this;exact this
theorem Ze9:(Tryz.prog.info? 2).map (λi=>(i.zero,i.size,i.bytes))=some (some (.int .i64 0),1,8):=by kernel_rfl
theorem Zeq (s:ByteArray)(k:Nat)(w:World)(hs:strokeOk s=true)(hk:3<=k/\k<=60) :
  Calls Tryz.prog 254 #[.string s,.int .i64 (k:Int)] w λe w'=>∃v,e = .returned v/\Own ZB 2 1 w' w.heap.size v (loose6 s k k).length (loose6 s k k)/\Below w.heap.size w w':=by
 have hst:=Za (fun(j:Nat) W (hj:j<=60)=>Zeh s k j W hs hk.2 hj);have hag:=VO (k:=k) (YG hs).1;have h12:=(YG hs).2.1;have hrn:=Za (fun(j:Nat) W=>Zbh (stack6 s k j) W (by unfold stack6;rw[Xk];omega) (by unfold stack6;rw[Xk];omega));have hk2:=hk.2;have hO0:=Za (Own.none_made (cells:=ZB) (e:=2) (s:=1) w (Nat.le_refl _));have hB0:=Za ((Below.refl w.heap.size w).alloc (Nat.le_refl _) (.cells #[] 2));clear hag h12 hk hs;go_enter Tryz.func254,Tryz.ntmps254;go_wp2
 go_loopw [5,6] (λv i wr=>∃j:Nat,j<=k/\i = .int .i64 (j:Int)/\Own ZB 2 1 wr w.heap.size v (loose6 s k j).length (loose6 s k j)/\Below w.heap.size w wr) (λ_ i _=>k-(intOf i).toNat)
 case atStart=>exact⟨0,Nat.zero_le _,rfl,hO0.out,hB0.out⟩
 case round =>
  obtain⟨j,hj,rfl,ho,hb⟩:=hrel;have hO0:=Za ho;have hB0:=Za hb;clear ho hb;by_cases hlt:j<k
  ·have hlt':(j:Int)<(k:Int):=by omega
   go_wp2_with fail
   refine(hst.out j _ (by omega)).mono ?_;rintro e w1 ⟨rfl,hb⟩;have hO1:=Za (hO0.out.below hb);have hB1:=Za (Below.up hB0.out hb);clear hb hO0 hB0;go_wp2_with fail
   refine(hrn.out j _).mono ?_;rintro e w2 ⟨rfl,hb⟩;have hO:=Za (hO1.out.below hb);have hB:=Za (Below.up hB1.out hb);clear hb hO1 hB1;obtain⟨R,hR⟩:∃R,R=run6 (stack6 s k j):=⟨_,rfl⟩;have hRh:=Za hR;rw[←hR];clear hR;obtain⟨m,hm⟩:∃m,m=(loose6 s k j).length:=⟨_,rfl⟩;have hml:m<=60:=by have:=Ze4 s k j;omega
   have hmh:=Za hm;rw[←hm] at hO;clear hm;by_cases h0:R=0
   ·subst h0
    have hnx:=Za (Ze3 hRh.out.symm);go_wp2_with (at_builtin;refine Zp w2.heap.size rfl rfl (.tmp 19) (.tmp 21) rfl Tryz.underlying60 Ze9 rfl (by omega) (by omega) Zh ZJ rfl hO.out (j:Int) _ rfl rfl (by omega) hB.out.size ?_;intro v5 w5 ho5 hg5 _;have hB5:=Za (Zi hB.out hO.out hg5 hB.out.size);have hO5:=Za ho5;clear ho5 hg5)
    go_roundw
    case rel=>exact⟨j+1,by omega,by go_num,by rw[hnx.out,List.length_append,List.length_singleton,←hmh.out];exact hO5.out,hB5.out⟩
    case measure=>simp[intOf];omega
   ·have hnx:=Za (ZgL (s:=s) (k:=k) (m:=j) (by rw[←hRh.out];exact h0))
    have e1:((R:Int)==0)=false:=by simp;omega
    go_wp2
    go_roundw
    case rel=>exact⟨j+1,by omega,by go_num,by rw[hnx.out,←hmh.out];exact hO.out,hB.out⟩
    case measure=>simp[intOf];omega
  ·obtain rfl:j=k:=by omega
   go_wp2
   go_ret;exact⟨_,rfl,hO0.out,hB0.out⟩
theorem JA (s:ByteArray)(k:Nat)(f:Int)(w:World)(hs:strokeOk s=true)(hk:3<=k/\k<=60) :
  Calls Tryz.prog 203 #[.string s,.int .i64 (k:Int),.int .i64 f] w λe w'=>e = .returned (.bool (Xg s k f))/\Below w.heap.size w w':=by
 obtain⟨h1,h2,h3⟩:=YG hs;have hM:Hid (Xg s k f=(decide (0<run6 s)&&(decide ((run6 s:Int)<=f)&&decide ((loose6 s k k).length=0)))):=Za (ZfY h1 h2 h3 k f).symm;have hrn:=Za (λW=>Zbh s W (by omega) h2);have hlo:=Za (λW=>Zeq s k W hs hk);obtain⟨R,hR⟩:∃R,R=run6 s:=⟨_,rfl⟩;obtain⟨m,hm⟩:∃m,m=(loose6 s k k).length:=⟨_,rfl⟩;rw[←hR] at hM hrn;rw[←hm] at hM hlo;clear hR hm hs hk h1 h2 h3;by_cases c1:0<R
 ·rw[decide_eq_true c1,Bool.true_and] at hM
  by_cases c2:(R:Int)<=f
  ·rw[decide_eq_true c2,Bool.true_and] at hM
   have c1':decide ((0:Int)<(R:Int))=true:=decide_eq_true (by omega);have c2':decide ((R:Int)<=f)=true:=decide_eq_true c2;go_enter Tryz.func203,Tryz.ntmps203;go_wp2_with fail
   refine(hrn.out _).mono ?_;rintro e w1 ⟨rfl,hb⟩;have hB1:=Za hb;clear hb;go_wp2_with fail
   refine(hlo.out _).mono ?_;rintro e w2 ⟨v,rfl,ho,hb⟩;obtain⟨A,c,rfl,_⟩:=ho.slice;have hB:=Za (Below.up hB1.out hb);clear hb ho hB1;go_wp2
   go_ret;exact⟨ZW (by rw[hM.out,Bool.eq_iff_iff];simp),hB.out⟩
  ·rw[decide_eq_false c2,Bool.false_and] at hM
   have c1':decide ((0:Int)<(R:Int))=true:=decide_eq_true (by omega);have c2':decide ((R:Int)<=f)=false:=decide_eq_false c2;go_enter Tryz.func203,Tryz.ntmps203;go_wp2_with fail
   refine(hrn.out _).mono ?_;rintro e w1 ⟨rfl,hb⟩;have hB1:=Za hb;clear hb;go_wp2
   go_ret;exact⟨ZW (by rw[hM.out]),hB1.out⟩
 ·rw[decide_eq_false c1,Bool.false_and] at hM
  have c1':decide ((0:Int)<(R:Int))=false:=decide_eq_false (by omega);go_enter Tryz.func203,Tryz.ntmps203;go_wp2_with fail
  refine(hrn.out _).mono ?_;rintro e w1 ⟨rfl,hb⟩;have hB1:=Za hb;clear hb;go_wp2
  go_ret;exact⟨ZW (by rw[hM.out]),hB1.out⟩
theorem JB (s:ByteArray)(k:Nat)(f:Int)(w:World)(hs:strokeOk s=true)(hk:3<=k/\k<=60) :
  Calls Tryz.prog 202 #[.string s,.int .i64 (k:Int),.int .i64 f] w λe w'=>e = .returned (.int .i64 (mSoundC f))/\w=w':=by
 have hc:=Za (λW=>JC s k W hs hk);cases hr:inB f 1 12
 ·have hM:Hid (mSoundC f=2):=Za (by unfold mSoundC;rw[hr];rfl)
  go_enter Tryz.func202,Tryz.ntmps202;go_wp2_with fail
  refine(hc.out _).mono ?_;rintro e w1 ⟨rfl,rfl⟩;go_wp2_with fail
  refine(Yc f 1 12 _).mono ?_;rw[hr];rintro e w1 ⟨rfl,rfl⟩;go_wp2
  go_ret;exact⟨by rw[hM.out];rfl,rfl⟩
 ·have hM:Hid (mSoundC f=0):=Za (by unfold mSoundC;rw[hr];rfl)
  go_enter Tryz.func202,Tryz.ntmps202;go_wp2_with fail
  refine(hc.out _).mono ?_;rintro e w1 ⟨rfl,rfl⟩;go_wp2_with fail
  refine(Yc f 1 12 _).mono ?_;rw[hr];rintro e w1 ⟨rfl,rfl⟩;go_wp2
  go_ret;exact⟨by rw[hM.out];rfl,rfl⟩
theorem Zbk (s:ByteArray)(k:Nat)(f:Int)(w:World)(hs:strokeOk s=true)(hk:3<=k/\k<=60) :
  Calls Tryz.prog 160 #[.string s,.int .i64 (k:Int),.int .i64 f] w λe w'=>e = .returned (.tuple #[.bool (mSound s k f),.int .i64 (mSoundC f)])/\Below w.heap.size w w':=by
 have hc:=Za (λW=>JB s k f W hs hk);have hd:=Za (λW=>JA s k f W hs hk);cases hr:inB f 1 12
 ·have hM:Hid (mSoundC f=2):=Za (by unfold mSoundC;rw[hr];rfl)
  have hM2:Hid (mSound s k f=false):=Za (by unfold mSound;rw[hr];rfl);go_enter Tryz.func160,Tryz.ntmps160;go_wp2_with fail
  refine(hc.out _).mono ?_;rw[hM.out];rintro e w1 ⟨rfl,rfl⟩;go_wp2
  go_ret2
  exact⟨by rw[hM2.out,hM.out];try rfl,Below.refl _ _⟩
 ·have hM:Hid (mSoundC f=0):=Za (by unfold mSoundC;rw[hr];rfl)
  have hM2:Hid (mSound s k f=Xg s k f):=Za (by unfold mSound;rw[hr];rfl);go_enter Tryz.func160,Tryz.ntmps160;go_wp2_with fail
  refine(hc.out _).mono ?_;rw[hM.out];rintro e w1 ⟨rfl,rfl⟩;go_wp2_with fail
  refine(hd.out _).mono ?_;rintro e w2 ⟨rfl,hb⟩;have hB:=Za hb;clear hb;go_wp2
  go_ret2
  exact⟨by rw[hM2.out,hM.out];try rfl,hB.out⟩
theorem ZhS (s:ByteArray)(k:Nat)(f:Int)(w:World)(hs:strokeOk s=true)(hk:3<=k/\k<=60) :
  Calls Tryz.prog 142 #[.string s,.int .i64 (k:Int),.int .i64 f] w λe w'=>e = .returned (.tuple #[.int .i64 (mStk s k f),.int .i64 (mStkC s k f)])/\Below w.heap.size w w':=by
 have hc:=Za (λW=>JB s k f W hs hk);have hd:=Za (fun(a:Nat) W (ha:k+a<=60)=>JA s (k+a) f W hs ⟨by omega,ha⟩);cases hr:inB f 1 12
 ·have hM:Hid (mSoundC f=2):=Za (by unfold mSoundC;rw[hr];rfl)
  have hM2:Hid (mStk s k f=0/\mStkC s k f=2):=Za (by unfold mStk mStkC;rw[hr];exact⟨rfl,rfl⟩);go_enter Tryz.func142,Tryz.ntmps142;go_wp2_with fail
  refine(hc.out _).mono ?_;rw[hM.out];rintro e w1 ⟨rfl,rfl⟩;go_wp2
  go_ret2
  exact⟨by rw[hM2.out.1,hM2.out.2];rfl,Below.refl _ _⟩
 have hM:Hid (mSoundC f=0):=Za (by unfold mSoundC;rw[hr];rfl);have hrh:=Za hr;have hk2:=hk.2;have hk1:=hk.1;clear hs hk hr;go_enter Tryz.func142,Tryz.ntmps142;go_wp2_with fail
 refine(hc.out _).mono ?_;rw[hM.out];rintro e w1 ⟨rfl,rfl⟩;go_wp2
 go_loopw [9] (λi wr=>∃a:Nat,k+a<=61/\i = .int .i64 ((k+a:Nat):Int)/\Below w.heap.size w wr/\Hid (W7 s k f a=none)) (λi _=>61-(intOf i).toNat)
 case atStart=>exact⟨0,by omega,rfl,Below.refl _ _,Za rfl⟩
 case round =>
  obtain⟨a,ha,rfl,hb,hno⟩:=hrel;have hB0:=Za hb;clear hb;obtain⟨q,hq⟩:∃q,q=k+a:=⟨_,rfl⟩;have hqh:=Za hq;rw[←hq] at ha ⊢;have hd1:=Za (λW (h:q<=60)=>hd.out a W (by omega));rw[←hq] at hd1;clear hq;by_cases hlt:q<=60
  ·have hlt':(q:Int)<=60:=by omega
   have hst:=Za (Zac hno.out);cases hsd:Xg s q f
   ·have hnx:Hid (W7 s k f (a+1)=none):=Za (by rw[hst.out,←hqh.out,hsd];rfl)
    go_wp2_with fail
    refine(hd1.out _ hlt).mono ?_;rw[hsd];rintro e w2 ⟨rfl,hb⟩;have hB:=Za (Below.up hB0.out hb);clear hb;go_wp2
    go_roundw
    case rel=>exact⟨a+1,by have:=hqh.out;omega,by have:=hqh.out;go_num,hB.out,hnx⟩
    case measure=>simp[intOf];have:=hqh.out;omega
   ·have hnx:Hid (W7 s k f (61-k)=some a):=Za (Zad (m:=a+1) (by rw[hst.out,←hqh.out,hsd];rfl) (by have:=hqh.out;omega))
    have hM2:Hid (mStk s k f=(a:Int)/\mStkC s k f=0):=Za (by unfold mStk mStkC;rw[hrh.out,hnx.out];exact⟨rfl,rfl⟩);have hwa:IntKind.i64.wrap ((q:Int)-(k:Int))=(a:Int):=by rw[hqh.out,show((k+a:Nat):Int)-(k:Int)=(a:Int) by omega];exact IntWalk.i64_in _ (by have:=hqh.out;omega)
    go_wp2_with fail
    refine(hd1.out _ hlt).mono ?_;rw[hsd];rintro e w2 ⟨rfl,hb⟩;have hB:=Za (Below.up hB0.out hb);clear hb;go_wp2
    go_ret2
    exact⟨by rw[hM2.out.1,hM2.out.2];rfl,hB.out⟩
  ·have hlt':¬(q:Int)<=60:=by omega
   have hM2:Hid (mStk s k f=0/\mStkC s k f=3):=Za (by
    have h:W7 s k f (61-k)=none:=by rw[show 61-k=a by have:=hqh.out;omega];exact hno.out
    unfold mStk mStkC;rw[hrh.out,h];exact⟨rfl,rfl⟩)
   go_wp2
   go_ret2
   exact⟨by rw[hM2.out.1,hM2.out.2];rfl,hB0.out⟩
end Go.Proofs.YtfpaejlipaainaaGreatDoor
