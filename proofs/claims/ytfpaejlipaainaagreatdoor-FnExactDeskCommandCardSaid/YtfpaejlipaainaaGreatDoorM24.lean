/- Texts that belong together, joined: contracts and plain laws. No statement is proved here. -/
import Derived.Test.YtfpaejlipaainaaGreatDoorM23
import Derived.Orders
import Derived.OrdersIn
import Derived.RangeFuncCalls
set_option maxRecDepth 100000
namespace Go.Proofs.YtfpaejlipaainaaGreatDoor
open Go.ChangeShapes Go.WideShapes Go.ChangeAt Go.RowKit Go.Deep
theorem ZgV:(Tryz.prog.info? 2).map (λi=>(i.zero,i.size,i.bytes))=some (some (.int .i64 0),1,8):=by kernel_rfl
theorem ZiS (s:ByteArray)(k:Nat):againN s k<=s.size:=Nat.div_le_self _ _
theorem Zfg (s:ByteArray)(m:Nat)(w:World)(hs0:0<s.size)(hs:s.size<=12)(hm:m<=1000) :
  Calls Tryz.prog 238 #[.string s,.int .i64 (m:Int)] w λe w'=>∃v,e = .returned v/\Own ZB 2 1 w' w.heap.size v (YT s m m).length (YT s m m)/\Below w.heap.size w w':=by
 have hag:=ZiS s m;go_enter Tryz.func238,Tryz.ntmps238;go_wp2
 go_loopw [5,9] (λv i wr=>∃k:Nat,k<=m/\i = .int .i64 k/\Below w.heap.size w wr/\Own ZB 2 1 wr w.heap.size v (YT s m k).length (YT s m k)) (λ_ i _=>m-(intOf i).toNat)
 case atStart=>exact⟨0,Nat.zero_le _,rfl,(Below.refl w.heap.size w).alloc (Nat.le_refl _) _,Own.none_made _ (Nat.le_refl _)⟩
 case round =>
  obtain⟨k,hk,rfl,hb,hown⟩:=hrel;have hB:=Za hb;have hO:=Za hown;clear hb hown;have hll:=ZcT s m k;by_cases hlt:k<m
  ·have hk':(k:Int)<(m:Int):=by omega
   go_wp2_with fail
   refine(Zfr s m _ hs0 hs hm).mono ?_;rintro e w1 ⟨rfl,hb⟩;replace hO:=Za (hO.out.below hb);replace hB:=Za (Below.up hB.out hb);clear hb;go_wp2_with fail
   refine(Uy s k m (againN s m) _ hs0 hs (by omega) (by omega) (by omega)).mono ?_;rintro e w2 ⟨rfl,hb⟩;replace hO:=Za (hO.out.below hb);replace hB:=Za (Below.up hB.out hb);clear hb;go_wp2_with fail
   refine(Uc _ _).mono ?_;rintro e w3 ⟨rfl,rfl⟩;cases hbk:VL (Xs s k m (againN s m))
   ·have hu:=Za (ZcS (s:=s) (k:=m) (m:=k) (by unfold VG;rw[hbk];rfl))
    clear hbk;go_wp2_with (at_builtin;refine Zp w2.heap.size rfl rfl (.tmp 21) (.tmp 23) rfl Tryz.underlying60 ZgV rfl (by omega) (by omega) Zh ZJ rfl hO.out (k:Int) _ rfl rfl (by omega) hB.out.size ?_;intro v5 w5 ho5 hg5 _;have hB5:=Za (Zi hB.out hO.out hg5 hB.out.size);have hO5:=Za ho5;clear ho5 hg5)
    go_roundw
    case rel=>exact⟨k+1,by omega,by go_num,hB5.out,by rw[hu.out,List.length_append];exact hO5.out⟩
    case measure=>simp[intOf];omega
   ·have hu:=Za (Ze2 (s:=s) (k:=m) (m:=k) (by unfold VG;rw[hbk];rfl))
    clear hbk;go_wp2
    go_roundw
    case rel=>exact⟨k+1,by omega,by go_num,hB.out,by rw[hu.out];exact hO.out⟩
    case measure=>simp[intOf];omega
  ·have hkn:k=m:=by omega
   subst hkn;go_wp2
   go_ret;exact⟨_,rfl,hO.out,hB.out⟩
theorem Q0 (s:ByteArray)(m:Nat)(f:Int)(w:World)(hs0:0<s.size)(hs:s.size<=12)(hm:m<=1000) :
  Calls Tryz.prog 187 #[.string s,.int .i64 (m:Int),.int .i64 f] w λe w'=>e = .returned (.bool (Xg s m f))/\Below w.heap.size w w':=by
 cases h1:VL s
 ·have hm1:Hid (Xg s m f=false):=Za (by unfold Xg;rw[h1];rfl)
  go_enter Tryz.func187,Tryz.ntmps187;go_wp2_with fail
  refine(Uc s _).mono ?_;rw[h1];rintro e w1 ⟨rfl,rfl⟩;go_wp2
  go_ret;exact⟨ZW hm1.out.symm,Below.refl _ _⟩
 by_cases h2:(longRun s:Int)<=f
 ·have hm1:Hid (Xg s m f=decide ((YT s m m).length=0)):=Za (by unfold Xg;rw[h1,decide_eq_true h2];rfl)
  have h2':decide ((longRun s:Int)<=f)=true:=decide_eq_true h2;go_enter Tryz.func187,Tryz.ntmps187;go_wp2_with fail
  refine(Uc s _).mono ?_;rw[h1];rintro e w1 ⟨rfl,rfl⟩;go_wp2_with fail
  refine(ZbO s _ hs0 hs).mono ?_;rintro e w1 ⟨rfl,hb⟩;have hB:=Za hb;clear hb;go_wp2_with fail
  refine(Zfg s m _ hs0 hs hm).mono ?_;rintro e w2 ⟨v,rfl,ho,hb⟩;obtain⟨A1,c1,rfl,_⟩:=ho.slice;replace hB:=Za (Below.up hB.out hb);clear hb ho;go_wp2
  go_ret;exact⟨ZW (by rw[hm1.out,Bool.eq_iff_iff,beq_iff_eq,decide_eq_true_eq];omega),hB.out⟩
 ·have hm1:Hid (Xg s m f=false):=Za (by unfold Xg;rw[h1,decide_eq_false h2];rfl)
  have h2':decide ((longRun s:Int)<=f)=false:=decide_eq_false h2;go_enter Tryz.func187,Tryz.ntmps187;go_wp2_with fail
  refine(Uc s _).mono ?_;rw[h1];rintro e w1 ⟨rfl,rfl⟩;go_wp2_with fail
  refine(ZbO s _ hs0 hs).mono ?_;rintro e w1 ⟨rfl,hb⟩;have hB:=Za hb;clear hb;go_wp2
  go_ret;exact⟨ZW hm1.out.symm,hB.out⟩
theorem WW (s:ByteArray)(m:Int)(w:World)(hs:s.size<=maxLen)(h1:strokeOk s=true)(h2:inB m 3 60=true) :
  Calls Tryz.prog 185 #[.string s,.int .i64 m] w λe w'=>e = .returned (.int .i64 0)/\Below w.heap.size w w':=by
 go_enter Tryz.func185,Tryz.ntmps185;go_wp2_with fail
 refine(Ye s _ hs).mono ?_;rw[h1];rintro e w1 ⟨rfl,hb⟩;have hB:=Za hb;clear hb;go_wp2_with fail
 refine(ZQ m _).mono ?_;rw[h2];rintro e w2 ⟨rfl,rfl⟩;go_wp2
 go_ret;exact⟨rfl,hB.out⟩
theorem JU (n:Int)(w:World):Calls Tryz.prog 186 #[.int .i64 n] w λe w'=>e = .returned (.bool (inB n 1 12))/\w=w':=by
 go_enter Tryz.func186,Tryz.ntmps186;go_wp2_with (go_at_call 113;refine(Zu _ _ _ _).mono ?_;rintro e w' ⟨rfl,rfl⟩)
 go_ret;exact⟨rfl,rfl⟩
theorem QF {s:ByteArray}(h:strokeOk s=true):0<s.size/\s.size<=12/\s.size<=maxLen:=by
 simp[strokeOk] at h;unfold maxLen;omega
theorem UU (s:ByteArray)(m:Nat)(f:Int)(w:World)(h1:strokeOk s=true)(h2:inB (m:Int) 3 60=true) :
  Calls Tryz.prog 129 #[.string s,.int .i64 (m:Int),.int .i64 f] w λe w'=>e = .returned (.tuple #[.bool (mSound s m f),.int .i64 (mSoundC f)])/\Below w.heap.size w w':=by
 obtain⟨s0,s1,s2⟩:=QF h1;have hm:=(Zj.1 h2).2;go_enter Tryz.func129,Tryz.ntmps129;go_wp2_with fail
 refine(WW s m _ s2 h1 h2).mono ?_;rintro e w1 ⟨rfl,hb⟩;have hB:=Za hb;clear hb;go_wp2_with fail
 refine(JU f _).mono ?_;rintro e w2 ⟨rfl,rfl⟩;cases h3:inB f 1 12
 ·have hM:Hid (mSound s m f=false/\mSoundC f=2):=Za (by unfold mSound mSoundC;rw[h3];exact⟨rfl,rfl⟩)
  go_wp2
  go_ret2
  exact⟨by rw[hM.out.1,hM.out.2];rfl,hB.out⟩
 ·have hM:Hid (mSound s m f=Xg s m f/\mSoundC f=0):=Za (by unfold mSound mSoundC;rw[h3];exact⟨rfl,rfl⟩)
  go_wp2_with fail
  refine(Q0 s m f _ s0 s1 (by omega)).mono ?_;rintro e w2 ⟨rfl,hb⟩;replace hB:=Za (Below.up hB.out hb);clear hb;go_wp2
  go_ret2
  exact⟨by rw[hM.out.1,hM.out.2];rfl,hB.out⟩
theorem Zip (s:ByteArray)(m:Nat)(f:Int)(w:World)(h1:strokeOk s=true)(h2:inB (m:Int) 3 60=true) :
  Calls Tryz.prog 130 #[.string s,.int .i64 (m:Int),.int .i64 f] w λe w'=>e = .returned (.tuple #[.int .i64 (mStk s m f),.int .i64 (mStkC s m f)])/\Below w.heap.size w w':=by
 obtain⟨s0,s1,s2⟩:=QF h1;have hm:=Zj.1 h2;go_enter Tryz.func130,Tryz.ntmps130;go_wp2_with fail
 refine(WW s m _ s2 h1 h2).mono ?_;rintro e w1 ⟨rfl,hb⟩;have hB:=Za hb;clear hb;go_wp2_with fail
 refine(JU f _).mono ?_;rintro e w2 ⟨rfl,rfl⟩;cases h3:inB f 1 12
 ·have hM:Hid (mStk s m f=0/\mStkC s m f=2):=Za (by unfold mStk mStkC;rw[h3];exact⟨rfl,rfl⟩)
  go_wp2
  go_ret2
  exact⟨by rw[hM.out.1,hM.out.2];rfl,hB.out⟩
 have hin:=Za h3;clear h3;go_wp2
 go_loopw [9] (λi wr=>∃k:Nat,k<=61-m/\i = .int .i64 k/\Below w.heap.size w wr/\Hid (W7 s m f k=none)) (λi _=>61-m-(intOf i).toNat)
 case atStart=>exact⟨0,Nat.zero_le _,rfl,hB.out,Za rfl⟩
 case round =>
  obtain⟨k,hk,rfl,hb,hno⟩:=hrel;replace hB:=Za hb;clear hb;have hw1:IntKind.i64.wrap ((m:Int)+(k:Int))=((m+k:Nat):Int):=by rw[Int.natCast_add];exact IntWalk.i64_in _ (by omega)
  obtain⟨n,hn⟩:∃n,n=m+k:=⟨_,rfl⟩;rw[←hn] at hw1;by_cases hlt:k<61-m
  ·have hle:(n:Int)<=60:=by omega
   have hstep:=Za (Zac hno.out);rw[←hn] at hstep;have hn1:n<=1000:=by omega
   clear hn;go_wp2_with fail
   refine(Q0 s n f _ s0 s1 hn1).mono ?_;rintro e w2 ⟨rfl,hb⟩;replace hB:=Za (Below.up hB.out hb);clear hb;cases hs:Xg s n f
   ·have hnx:Hid (W7 s m f (k+1)=none):=Za (by rw[hstep.out,hs];rfl)
    clear hs;go_wp2
    go_roundw
    case rel=>exact⟨k+1,by omega,by go_num,hB.out,hnx⟩
    case measure=>simp[intOf];omega
   ·have hnx:Hid (W7 s m f (61-m)=some k):=Za (Zad (m:=k+1) (by rw[hstep.out,hs];rfl) (by omega))
    have hM:Hid (mStk s m f=(k:Int)/\mStkC s m f=0):=Za (by unfold mStk mStkC;rw[hin.out,hnx.out];exact⟨rfl,rfl⟩);clear hs;go_wp2
    go_ret2
    exact⟨by rw[hM.out.1,hM.out.2];rfl,hB.out⟩
  ·have hkn:k=61-m:=by omega
   have hle:¬(n:Int)<=60:=by omega
   have hM:Hid (mStk s m f=0/\mStkC s m f=3):=Za (by
    have h:=hno.out;rw[hkn] at h;unfold mStk mStkC;rw[hin.out,h];exact⟨rfl,rfl⟩)
   clear hkn hn;go_wp2
   go_ret2
   exact⟨by rw[hM.out.1,hM.out.2];rfl,hB.out⟩
theorem Zfb (s:ByteArray)(m:Nat)(r:Int)(w:World)(h1:strokeOk s=true)(h2:inB (m:Int) 3 60=true) :
  Calls Tryz.prog 127 #[.string s,.int .i64 (m:Int),.int .i64 r] w λe w'=>e = .returned (.tuple #[.string (mRoundT s m r),.int .i64 (mRoundC r)])/\Below w.heap.size w w':=by
 obtain⟨s0,s1,s2⟩:=QF h1;have hm:=Zj.1 h2;cases h3:inB r 0 100
 ·have hM:Hid (mRoundT s m r=⟨#[]⟩/\mRoundC r=2):=Za (by unfold mRoundT mRoundC;rw[h3];exact⟨rfl,rfl⟩)
  go_enter Tryz.func127,Tryz.ntmps127;go_wp2_with fail
  refine(Ye s _ s2).mono ?_;rw[h1];rintro e w1 ⟨rfl,hb⟩;have hB:=Za hb;clear hb;go_wp2_with fail
  refine(ZQ (m:Int) _).mono ?_;rw[h2];rintro e w2 ⟨rfl,rfl⟩;go_wp2_with (go_at_call 113;refine(Zu _ _ _ _).mono ?_;rintro e w' ⟨rfl,rfl⟩)
  go_ret2
  exact⟨by rw[hM.out.1,hM.out.2];rfl,hB.out⟩
 ·obtain⟨q,hq⟩:∃q:Nat,r=(q:Int):=⟨r.toNat,by have:=Zj.1 h3;omega⟩
  subst hq;have hq2:=(Zj.1 h3).2;have hM:Hid (mRoundT s m (q:Int)=Xs s (q*m) 1 m/\mRoundC (q:Int)=0):=Za (by unfold mRoundT mRoundC;rw[h3];exact⟨rfl,rfl⟩);have hqm:q*m<=6000:=Nat.le_trans (Nat.mul_le_mul (show q<=100 by omega) (show m<=60 by omega)) (by omega);obtain⟨p,hp⟩:∃p,p=q*m:=⟨_,rfl⟩;have hw1:IntKind.i64.wrap ((q:Int)*(m:Int))=(p:Int):=by rw[←Int.natCast_mul,←hp];exact IntWalk.i64_in _ (by omega)
  rw[←hp] at hM hqm;clear hp;go_enter Tryz.func127,Tryz.ntmps127;go_wp2_with fail
  refine(Ye s _ s2).mono ?_;rw[h1];rintro e w1 ⟨rfl,hb⟩;have hB:=Za hb;clear hb;go_wp2_with fail
  refine(ZQ (m:Int) _).mono ?_;rw[h2];rintro e w2 ⟨rfl,rfl⟩;go_wp2_with (first|(go_at_call 113;refine(Zu _ _ _ _).mono ?_;rintro e w' ⟨rfl,rfl⟩)|fail)
  refine(Uy s p 1 m _ s0 s1 (by omega) (by omega) (by omega)).mono ?_;rintro e w2 ⟨rfl,hb⟩;replace hB:=Za (Below.up hB.out hb);clear hb;go_wp2
  go_ret2
  exact⟨by rw[hM.out.1,hM.out.2];rfl,hB.out⟩
def Vs (c:UInt8):Bool:=decide (97<=c.toNat)&&decide (c.toNat<=122)
theorem Zc5 (c:UInt8)(w:World):Calls Tryz.prog 269 #[.int .u8 (c.toNat:Int)] w λe w'=>e = .returned (.bool (Vs c))/\w=w':=by
 by_cases h1:97<=c.toNat
 ·have hm:Hid (Vs c=decide (c.toNat<=122)):=Za (by unfold Vs;rw[decide_eq_true h1];rfl)
  have h1':decide (97<=c.toNat)=true:=decide_eq_true h1;have h1'':decide ((97:Int)<=(c.toNat:Int))=true:=decide_eq_true (by omega);go_enter Tryz.func269,Tryz.ntmps269;go_wp2
  go_ret;exact⟨ZW (by rw[hm.out,Bool.eq_iff_iff,decide_eq_true_eq,decide_eq_true_eq];omega),rfl⟩
 ·have hm:Hid (Vs c=false):=Za (by unfold Vs;rw[decide_eq_false h1];rfl)
  have h1':decide (97<=c.toNat)=false:=decide_eq_false h1;have h1'':decide ((97:Int)<=(c.toNat:Int))=false:=decide_eq_false (by omega);go_enter Tryz.func269,Tryz.ntmps269;go_wp2
  go_ret;exact⟨ZW hm.out.symm,rfl⟩
theorem ZbN (s:ByteArray)(w:World)(hs:s.size<=maxLen) :
  Calls Tryz.prog 235 #[.string s] w λe w'=>e = .returned (.bool (Y6 s))/\w=w':=by
 have hWO:Hid (∀b:Bool,s.data.toList.all Vs=b→Y6 s=(b&&(decide (1<=s.size)&&decide (s.size<=12)))):=Za λb h=>by rw[←h];rfl
 unfold maxLen at hs;go_enter Tryz.func235,Tryz.ntmps235;go_wp2
 go_loopw [6] (λi wr=>∃k:Nat,k<=s.size/\i = .int .i64 k/\w=wr/\Hid ((s.data.toList.take k).all Vs=true)) (λi _=>s.size-(intOf i).toNat)
 case atStart=>exact⟨0,Nat.zero_le _,rfl,rfl,Za rfl⟩
 case round =>
  obtain⟨k,hk,rfl,rfl,hall⟩:=hrel;by_cases hlt:k<s.size
  ·have hx:=Jf hlt
   go_wp2_with fail
   refine(Zc5 s[k] _).mono ?_;rintro e w1 ⟨rfl,rfl⟩;cases hb:Vs s[k]
   ·have hm:Hid (Y6 s=false):=Za (by rw[hWO.out false (Xl hx hb)];rfl)
    clear hx hb;go_wp2
    go_ret;exact⟨ZW hm.out.symm,rfl⟩
   ·have hnx:Hid ((s.data.toList.take (k+1)).all Vs=true):=Za (by rw[Zo hx,List.all_append,hall.out];simp[hb])
    clear hx hb;go_wp2
    go_round
    case rel=>exact⟨k+1,by omega,by go_num,by trivial,hnx⟩
    case measure=>simp[intOf];omega
  ·have hkn:k=s.size:=by omega
   have hm:Hid (Y6 s=(decide (1<=s.size)&&decide (s.size<=12))):=Za (by
    have e:=hall.out;rw[hkn,List.take_of_length_le (by rw[Array.length_toList];exact Nat.le_refl _)] at e;rw[hWO.out true e,Bool.true_and])
   by_cases h1:1<=s.size
   ·have e1:decide (1<=s.size)=true:=decide_eq_true h1
    have e2:0<s.size:=h1;have e3:decide (0<s.size)=true:=decide_eq_true h1;rw[e1,Bool.true_and] at hm;clear hkn;go_wp2
    go_ret;exact⟨ZW (by rw[hm.out,Bool.eq_iff_iff,decide_eq_true_eq,decide_eq_true_eq];omega),rfl⟩
   ·have e1:decide (1<=s.size)=false:=decide_eq_false h1
    have e3:decide (0<s.size)=false:=decide_eq_false h1;rw[e1,Bool.false_and] at hm;clear hkn;go_wp2
    go_ret;exact⟨ZW hm.out.symm,rfl⟩
theorem Zir (s:ByteArray)(m:Nat)(r:Int)(w:World)(hs:s.size<=maxLen)(h2:inB (m:Int) 3 60=true) :
  Calls Tryz.prog 128 #[.string s,.int .i64 (m:Int),.int .i64 r] w λe w'=>e = .returned (.tuple #[.string (mRowT s m r),.int .i64 (mRowC s r)])/\Below w.heap.size w w':=by
 have hm:=Zj.1 h2;have hcode:∀W,Calls Tryz.prog 184 #[.string s,.int .i64 (m:Int)] W λe w'=>e = .returned (.int .i64 (if Y6 s then 0 else 1))/\W=w':=by
  intro W;cases h1:Y6 s
  ·go_enter Tryz.func184,Tryz.ntmps184
   go_wp2_with fail
   refine(ZbN s _ hs).mono ?_;rw[h1];rintro e w1 ⟨rfl,rfl⟩;go_wp2
   go_ret;exact⟨rfl,rfl⟩
  ·go_enter Tryz.func184,Tryz.ntmps184
   go_wp2_with fail
   refine(ZbN s _ hs).mono ?_;rw[h1];rintro e w1 ⟨rfl,rfl⟩;go_wp2_with fail
   refine(ZQ (m:Int) _).mono ?_;rw[h2];rintro e w2 ⟨rfl,rfl⟩;go_wp2
   go_ret;exact⟨rfl,rfl⟩
 have hC:=Za hcode;clear hcode;cases h1:Y6 s
 ·have hM:Hid (mRowT s m r=⟨#[]⟩/\mRowC s r=1):=Za (by unfold mRowT mRowC;rw[h1];exact⟨rfl,rfl⟩)
  go_enter Tryz.func128,Tryz.ntmps128;go_wp2_with fail
  refine(hC.out _).mono ?_;rw[h1];rintro e w1 ⟨rfl,rfl⟩;go_wp2
  go_ret2
  exact⟨by rw[hM.out.1,hM.out.2];rfl,Below.refl _ _⟩
 have hsz:0<s.size/\s.size<=12:=by
  have h:=h1;simp[Y6] at h;omega
 obtain⟨s0,s1⟩:=hsz;cases h3:inB r 0 100
 ·have hM:Hid (mRowT s m r=⟨#[]⟩/\mRowC s r=2):=Za (by unfold mRowT mRowC;rw[h1,h3];exact⟨rfl,rfl⟩)
  go_enter Tryz.func128,Tryz.ntmps128;go_wp2_with fail
  refine(hC.out _).mono ?_;rw[h1];rintro e w1 ⟨rfl,rfl⟩;go_wp2_with (go_at_call 113;refine(Zu _ _ _ _).mono ?_;rintro e w' ⟨rfl,rfl⟩)
  go_ret2
  exact⟨by rw[hM.out.1,hM.out.2];rfl,Below.refl _ _⟩
 ·obtain⟨q,hq⟩:∃q:Nat,r=(q:Int):=⟨r.toNat,by have:=Zj.1 h3;omega⟩
  subst hq;have hq2:=(Zj.1 h3).2;have hM:Hid (mRowT s m (q:Int)=Xs s (q*m) 1 m/\mRowC s (q:Int)=0):=Za (by unfold mRowT mRowC;rw[h1,h3];exact⟨rfl,rfl⟩);have hqm:q*m<=6000:=Nat.le_trans (Nat.mul_le_mul (show q<=100 by omega) (show m<=60 by omega)) (by omega);obtain⟨p,hp⟩:∃p,p=q*m:=⟨_,rfl⟩;have hw1:IntKind.i64.wrap ((q:Int)*(m:Int))=(p:Int):=by rw[←Int.natCast_mul,←hp];exact IntWalk.i64_in _ (by omega)
  rw[←hp] at hM hqm;clear hp;go_enter Tryz.func128,Tryz.ntmps128;go_wp2_with fail
  refine(hC.out _).mono ?_;rw[h1];rintro e w1 ⟨rfl,rfl⟩;go_wp2_with (first|(go_at_call 113;refine(Zu _ _ _ _).mono ?_;rintro e w' ⟨rfl,rfl⟩)|fail)
  refine(Uy s p 1 m _ s0 s1 (by omega) (by omega) (by omega)).mono ?_;rintro e w2 ⟨rfl,hb⟩;have hB:=Za hb;clear hb;go_wp2
  go_ret2
  exact⟨by rw[hM.out.1,hM.out.2];rfl,hB.out⟩
theorem Zhm {p q:Nat→Bool}(h:∀x,q x=true→p x=true):∀(l:List Nat),(l.filter q).length<=(l.filter p).length:=by
 intro l
 induction l with
 | nil=>simp
 | cons x xs ih =>
  rw[List.filter_cons,List.filter_cons];cases hq:q x
  ·cases hp:p x<;>simp<;>omega
  ·rw[h x hq];simp;exact ih
theorem Zhl {p q:Nat→Bool}(h:∀x,q x=true→p x=true){i:Nat}(hp:p i=true)(hq:q i=false):∀(l:List Nat),i∈l→(l.filter q).length<(l.filter p).length:=by
 intro l
 induction l with
 | nil=>intro hi;cases hi
 | cons x xs ih =>
  intro hi;rw[List.filter_cons,List.filter_cons];have hle:=Zhm h xs;rcases List.mem_cons.1 hi with rfl|hi
  ·rw[hp,hq];simp;omega
  ·have:=ih hi
   cases hqx:q x
   ·cases hpx:p x<;>simp<;>omega
   ·rw[h x hqx];simp;exact this
def UR (ops:Array Oper)(l:Array Bool):Nat:=((List.range ops.size).filter λi=>!l.getD i true).length
theorem ZeH {md:Region.Mode}{ops:Array Oper}{l:Array Bool}(h:UR ops l=0):Region.ready md ops l=[]:=by
 unfold UR at h;have h0:=List.eq_nil_of_length_eq_zero h;rw[List.filter_eq_nil_iff] at h0;unfold Region.ready;rw[List.filter_eq_nil_iff];intro i hi h1;rw[Bool.and_eq_true] at h1;exact h0 i hi h1.1
theorem Zgn {md:Region.Mode}{ops:Array Oper}{l:Array Bool}{i:Nat}(h:i∈Region.ready md ops l):i<ops.size/\l.getD i true=false/\((ops[i]?).map (·.after.all λe=>!Region.binds md e||l.getD e.on false)).getD false=true:=by
 unfold Region.ready at h;rw[List.mem_filter,Bool.and_eq_true] at h;exact⟨List.mem_range.1 h.1,by simpa using h.2.1,h.2.2⟩
theorem ZgR {ops:Array Oper}{l:Array Bool}{i:Nat}(hi:i<ops.size)(hl:l.getD i true=false):UR ops (l.setIfInBounds i true)<UR ops l:=by
 unfold UR;refine Zhl (i:=i) ?_ (by simp[hl]) ?_ _ (List.mem_range.2 hi)
 ·intro x hx
  rcases Nat.decEq i x with hne|rfl
  ·simpa[Array.getD_eq_getD_getElem?,Array.getElem?_setIfInBounds_ne hne] using hx
  ·simp[hl]
 ·by_cases hs:i<l.size
  ·simp[Array.getD_eq_getD_getElem?,Array.getElem?_setIfInBounds_self_of_lt hs]
  ·exfalso
   rw[Array.getD_eq_getD_getElem?,Array.getElem?_eq_none (by omega)] at hl;simp at hl
theorem Za1 {P:Program}{ops:Array Oper}{md:Region.Mode}{Q:Exit→Act→World→Prop}(I:Array Bool→Act→World→Prop)
  (h:∀l a w,I l a w→∀i,i<ops.size→l.getD i true=false→((ops[i]?).map (·.after.all λe=>!Region.binds md e||l.getD e.on false)).getD false=true→wpOp P ops Q i (λa' w'=>I (l.setIfInBounds i true) a' w') a w)
  (he:∀l a w,I l a w→Region.ready md ops l=[]→Q .normal a w) :
  ∀(fuel:Nat) (l:Array Bool) (a:Act) (w:World),UR ops l<=fuel→I l a w→wpAny P md ops Q fuel l a w:=by
 intro fuel
 induction fuel with
 | zero =>
  intro l a w hl hI;have hr:=ZeH (md:=md) (Nat.le_zero.1 hl);exact⟨hr,he _ _ _ hI hr⟩
 | succ fuel ih =>
  intro l a w hl hI;refine⟨he _ _ _ hI,λi hi=>?_⟩;obtain⟨h1,h2,h3⟩:=Zgn hi;refine wpOp_mono (λa' w' hI'=>ih _ _ _ ?_ hI') (h l a w hI i h1 h2 h3);have:=ZgR (ops:=ops) h1 h2;omega
theorem UQ (ops:Array Oper)(l:Array Bool):UR ops l<=ops.size:=by
 unfold UR;have:=List.length_filter_le (λi=>!l.getD i true) (List.range ops.size)
 rwa [List.length_range] at this
theorem Xw {P:Program}{ops:Array Oper}{id:Nat}{Q:Exit→Act→World→Prop}{a:Act}{w:World}(hm:P.follows .mixedOrders=true)(I:Array Bool→Act→World→Prop)
  (h0:I (Array.replicate ops.size false) a w.drew)
  (h:∀l a w,I l a w→∀i,i<ops.size→l.getD i true=false→((ops[i]?).map (·.after.all λe=>!Region.binds .any e||l.getD e.on false)).getD false=true→wpOp P ops Q i (λa' w'=>I (l.setIfInBounds i true) a' w') a w)
  (he:∀l a w,I l a w→Region.ready .any ops l=[]→Q .normal a w):(Code.region id ops true).wp P Q a w :=
 wp_region_any hm (Za1 I h he _ _ _ _ (UQ _ _) h0)
theorem ZjI {P:Program}{o:Oper}{a:Act}{w:World}{K:Act→World→Prop}{Q:Exit→Act→World→Prop}{l n:Nat}(hd:∀c,o.op≠.defer c)(hr:∀r x w',(execOp a.eval o).run P w≠.ok (.row r x) w')
  (h:o.wp P a w K Q):o.wpIn (Fence.wide.inRound l) n P a w K Q:=by
 refine⟨λ_ _=>trivial,?_⟩;rw[Oper.semAt_eq _ _ _ hd];unfold Oper.wp at h;generalize (execOp a.eval o).run P w=r at h hr
 cases r with
 | ok x w' =>
  cases x with
  | enter f args=>exact⟨λh=>(by cases h),CallsIn.inRound l (callsIn_wide.2 h)⟩
  | row r x=>exact(hr _ _ _ rfl).elim
  | round _ _ _ _ _=>exact h.elim
  | _=>exact h
 | halt x w'=>cases x<;>exact h
theorem Zgm {P:Program}{ops:Array Oper}{id l n:Nat}{Q:Exit→Act→World→Prop}{a:Act}{w:World}(hm:P.follows .mixedOrders=true)(hd:∀(i:Nat) o,ops[i]?=some o→∀c,o.op≠.defer c)
  (hr:∀(i:Nat) o,ops[i]?=some o→∀ρ w r x w',(execOp ρ o).run P w≠.ok (.row r x) w') (hL:¬LetsOut Q)
  (h:wpAny P .any ops Q ops.size (Array.replicate ops.size false) a w.drew):(Code.region id ops true).wpIn (Fence.wide.inRound l) n P Q a w:=by
 refine wpIn_region_any hm ?_;have key:∀(fuel:Nat) (li:Array Bool) (a:Act) (w:World),wpAny P .any ops Q fuel li a w→wpAnyIn (Fence.wide.inRound l) n P .any ops Q fuel li a w:=by
  intro fuel
  induction fuel with
  | zero=>intro li a w h;exact h
  | succ fuel ih =>
   intro li a w h;refine⟨h.1,λi hi=>?_⟩;have h1:=h.2 i hi;unfold wpOp at h1;unfold wpOpIn;cases ho:ops[i]? with
   | none=>rw[ho] at h1;exact ih _ _ _ h1
   | some o =>
    rw[ho] at h1;simp only at h1 ⊢;split at h1
    ·rename_i hw
     rw[if_pos hw];rcases h1 with h1|h1
     ·exact Oper.wpIn_mono (λa w=>ih _ _ _) (ZjI (hd i o ho) (λr x w'=>hr i o ho _ _ r x w') h1)
     ·exact(hL h1.2).elim
    ·rename_i hw
     rw[if_neg hw];exact⟨λ_ _=>trivial,ih _ _ _ h1⟩
 exact key _ _ _ _ h
def Zks (ops:Array Oper):Bool:=(List.range ops.size).all λi=>((ops[i]?).map (·.after.all λe=>decide (e.on<i))).getD true
theorem Yl {md:Region.Mode}{ops:Array Oper}{l:Array Bool}(hc:Zks ops=true)(hs:l.size=ops.size)(h:Region.ready md ops l=[]):∀n i,i<n→i<ops.size→l.getD i true=true:=by
 intro n
 induction n with
 | zero=>intro i hi;omega
 | succ n ih =>
  intro i hi hio;by_cases hlt:i<n
  ·exact ih i hlt hio
  have hin:i=n:=by omega
  cases hg:l.getD i true with
  | true=>rfl
  | false =>
   exfalso
   unfold Region.ready at h;rw[List.filter_eq_nil_iff] at h;apply h i (List.mem_range.2 hio)
   rw[hg];simp only[Bool.not_false,Bool.true_and];unfold Zks at hc;rw[List.all_eq_true] at hc;have h1:=hc i (List.mem_range.2 hio);rw[Array.getElem?_eq_getElem hio] at h1 ⊢;simp only[Option.map_some,Option.getD_some] at h1 ⊢;rw[Array.all_eq_true_iff_forall_mem] at h1 ⊢;intro e he;have h2:=of_decide_eq_true (h1 e he);have h3:=ih e.on (by omega) (by omega);have h4:l.getD e.on false=true:=by
    have hlt:e.on<l.size:=by omega
    simpa[Array.getD_eq_getD_getElem?,Array.getElem?_eq_getElem hlt] using h3
   rw[h4,Bool.or_true]
theorem ZfG {P:Program}{ops:Array Oper}{Q:Exit→Act→World→Prop}{i:Nat}{o:Oper}{K:Act→World→Prop}{a:Act}{w:World}(ho:ops[i]?=some o)(hg:o.guard=none)(h:o.wp P a w K Q):wpOp P ops Q i K a w:=by
 have hw:Region.wanted o (yielded ops a.tmps)=true:=by simp[Region.wanted,hg]
 unfold wpOp;rw[ho];simp only;rw[if_pos hw];exact .inl h
theorem WH {P:Program}{ops:Array Oper}{Q:Exit→Act→World→Prop}{i:Nat}{o:Oper}{K:Act→World→Prop}{a:Act}{w:World}(ho:ops[i]?=some o)(hg:o.guard=none)(h:if Region.wanted o (yielded ops a.tmps)=true then o.wp P a w K Q else False):wpOp P ops Q i K a w:=by
 have hw:Region.wanted o (yielded ops a.tmps)=true:=by simp[Region.wanted,hg]
 rw[if_pos hw] at h;exact ZfG ho hg h
def Q1 (wr w:World)(y:Int)(u:Value):Prop:=∃q,u = .slice (some ⟨q,0,none⟩) 1 1/\w.heap[q]?=some (.cells #[.int .i64 y] 2 (0,0))/\wr.heap.size<=q
theorem Q1.kept {wr w w':World}{y:Int}{u:Value}{row:Option Nat}(h:Q1 wr w y u)(hg:w.grownBy w' row)(hr:∀q,row=some q→q<wr.heap.size):Q1 wr w' y u:=by
 obtain⟨q,e,hq,hl⟩:=h;exact⟨q,e,(hg.block q (Array.getElem?_eq_some_iff.1 hq).1 (λe=>by have:=hr q e.symm;omega)).trans hq,hl⟩
theorem Q1.alloc {wr w:World}{y:Int}{u:Value}(h:Q1 wr w y u)(O:Obj):Q1 wr (w.alloc O) y u:=h.kept (World.grownBy_alloc w O none) (λq e=>by cases e)
theorem Q1.new {wr w:World}(y:Int)(h:wr.heap.size<=w.heap.size):Q1 wr (w.alloc (.cells #[.int .i64 y] 2)) y (.slice (some ⟨w.heap.size,0,none⟩) 1 1):=⟨_,rfl,heap_alloc_new w _,h⟩
section
variable {ws wr w w':World}{base b0 b1 b2 b3 b4 b5 b6 b7 b8:Nat}{S bd:Int}{A:Option Addr}{n c:Nat}{rods:List Int}{vf vo vl vb:Value}{gu:Nat}{o:List Int}{st:List Int × Int}
structure R7 (ws wr:World)(base b0 b1 b2 b3 b4 b5 b6 b7 b8:Nat)(S bd:Int)(A:Option Addr)(n c:Nat)(rods:List Int)(vf vo vl vb:Value)(gu:Nat)(o:List Int)(st:List Int × Int)(k x:Int)(B4 B5 B8 B9:Bool)(u49 u50 u53 u54:Value)(w:World):Prop where
 m0:B5=false→JM w base b0 b1 b2 b3 b4 b5 b6 b7 b8 S bd A n c rods vf vo vl vb gu o st vo vl o (laidOf rods o)
 m1:B5=true→B9=false→JM w base b0 b1 b2 b3 b4 b5 b6 b7 b8 S bd A n c rods vf vo vl vb gu o st u50 vl (o++[k]) (laidOf rods o)
 m2:B9=true→JM w base b0 b1 b2 b3 b4 b5 b6 b7 b8 S bd A n c rods vf vo vl vb gu o st u50 u54 (o++[k]) (laidOf rods o++[x])
 q4:B4=true→B5=false→Q1 wr w k u49
 q8:B8=true→B9=false→Q1 wr w x u53
 c54:B5=true→B4=true
 c98:B9=true→B8=true
 c95:B9=true→B5=true
 far:wr.heap.size<=w.heap.size
 b:Below base ws w
 hb:base<=w.heap.size
 ho:∀q,vo.ownBlock=some q→q<wr.heap.size
variable {k x:Int}{B4 B5 B8 B9:Bool}{u49 u50 u53 u54:Value}
theorem R7.start (h:JS wr base b0 b1 b2 b3 b4 b5 b6 b7 b8 S bd A n c rods vf vo vl vb gu o st)(hb:Below base ws wr)(u49 u50 u53 u54:Value):R7 ws wr base b0 b1 b2 b3 b4 b5 b6 b7 b8 S bd A n c rods vf vo vl vb gu o st k x false false false false u49 u50 u53 u54 wr.drew:=by
 have hd:Below wr.heap.size wr wr.drew:=Zb (Below.refl _ _) 1;have hJ:=h.below hd;exact⟨λ_=>hJ.mid,λe=>(by cases e),λe=>(by cases e),λe=>(by cases e),λe=>(by cases e),λe=>(by cases e),λe=>(by cases e),λe=>(by cases e),hd.size,hb.trans (hd.mono h.hb),hJ.hb,λq e=>(h.t.o0.2.lt q e).2⟩
theorem R7.four (h:R7 ws wr base b0 b1 b2 b3 b4 b5 b6 b7 b8 S bd A n c rods vf vo vl vb gu o st k x B4 B5 B8 B9 u49 u50 u53 u54 w):R7 ws wr base b0 b1 b2 b3 b4 b5 b6 b7 b8 S bd A n c rods vf vo vl vb gu o st k x true B5 B8 B9 (.slice (some ⟨w.heap.size,0,none⟩) 1 1) u50 u53 u54 (w.alloc (.cells #[.int .i64 k] 2)):=by
 have hd:Below w.heap.size w (w.alloc (.cells #[.int .i64 k] 2)):=(Below.refl _ _).alloc (Nat.le_refl _) _;exact⟨λe=>(h.m0 e).below hd,λe f=>(h.m1 e f).below hd,λe=>(h.m2 e).below hd,λ_ _=>Q1.new k h.far,λe f=>(h.q8 e f).alloc _,λe=>rfl,h.c98,h.c95,Nat.le_trans h.far hd.size,h.b.trans (hd.mono h.hb),Nat.le_trans h.hb hd.size,h.ho⟩
theorem R7.eight (h:R7 ws wr base b0 b1 b2 b3 b4 b5 b6 b7 b8 S bd A n c rods vf vo vl vb gu o st k x B4 B5 B8 B9 u49 u50 u53 u54 w):R7 ws wr base b0 b1 b2 b3 b4 b5 b6 b7 b8 S bd A n c rods vf vo vl vb gu o st k x B4 B5 true B9 u49 u50 (.slice (some ⟨w.heap.size,0,none⟩) 1 1) u54 (w.alloc (.cells #[.int .i64 x] 2)):=by
 have hd:Below w.heap.size w (w.alloc (.cells #[.int .i64 x] 2)):=(Below.refl _ _).alloc (Nat.le_refl _) _;exact⟨λe=>(h.m0 e).below hd,λe f=>(h.m1 e f).below hd,λe=>(h.m2 e).below hd,λe f=>(h.q4 e f).alloc _,λ_ _=>Q1.new x h.far,h.c54,λ_=>rfl,h.c95,Nat.le_trans h.far hd.size,h.b.trans (hd.mono h.hb),Nat.le_trans h.hb hd.size,h.ho⟩
theorem R7.five {v:Value}{H:Nat}(h:R7 ws wr base b0 b1 b2 b3 b4 b5 b6 b7 b8 S bd A n c rods vf vo vl vb gu o st k x B4 B5 B8 B9 u49 u50 u53 u54 w)(h5:B5=false)(h4:B4=true)(ho:Own ZB 2 1 w' base v (o.length+1) (o++[k]))(hg:w.grownBy w' vo.ownBlock)(hat:v.ownBlock=vo.ownBlock\/v.ownBlock=some H)(hH:w.heap.size<=H):R7 ws wr base b0 b1 b2 b3 b4 b5 b6 b7 b8 S bd A n c rods vf vo vl vb gu o st k x B4 true B8 B9 u49 v u53 u54 w':=by
 have hm:=h.m0 h5;have h9:B9=false:=by cases hB:B9;rfl;(have:=h.c95 hB;rw[h5] at this;cases this)
 exact⟨λe=>(by cases e),λ_ _=>hm.app0 ho hg hat hH,λe=>(by rw[h9] at e;cases e),λ_ e=>(by cases e),λe f=>(h.q8 e f).kept hg h.ho,λ_=>h4,h.c98,λ_=>rfl,Nat.le_trans h.far hg.size,Zi h.b hm.t.o0 hg h.hb,Nat.le_trans h.hb hg.size,h.ho⟩
theorem R7.nine {v:Value}{H:Nat}(h:R7 ws wr base b0 b1 b2 b3 b4 b5 b6 b7 b8 S bd A n c rods vf vo vl vb gu o st k x B4 B5 B8 B9 u49 u50 u53 u54 w)(h9:B9=false)(h5:B5=true)(h8:B8=true)(ho:Own ZB 2 1 w' base v ((laidOf rods o).length+1) (laidOf rods o++[x]))(hg:w.grownBy w' vl.ownBlock)(hat:v.ownBlock=vl.ownBlock\/v.ownBlock=some H)(hH:w.heap.size<=H):R7 ws wr base b0 b1 b2 b3 b4 b5 b6 b7 b8 S bd A n c rods vf vo vl vb gu o st k x B4 B5 B8 true u49 u50 u53 v w':=by
 have hm:=h.m1 h5 h9;exact⟨λe=>(by rw[h5] at e;cases e),λ_ e=>(by cases e),λ_=>hm.app1 ho hg hat hH,λe f=>(by rw[h5] at f;cases f),λ_ e=>(by cases e),h.c54,λ_=>h8,λ_=>h5,Nat.le_trans h.far hg.size,Zi h.b hm.t.o1 hg h.hb,Nat.le_trans h.hb hg.size,h.ho⟩
theorem R7.cells (h:R7 ws wr base b0 b1 b2 b3 b4 b5 b6 b7 b8 S bd A n c rods vf vo vl vb gu o st k x B4 B5 B8 B9 u49 u50 u53 u54 w):w.cell? ⟨b7,0,none⟩=some (.slice (some ⟨gu,0,none⟩) n n)/\w.cell? ⟨b2,0,none⟩=some vl/\w.cell? ⟨b4,0,none⟩=some vo:=by
 cases h5:B5
 ·have x:=(h.m0 h5).x
  exact⟨(Yf x.h7).1,(Yf x.h2).1,(Yf x.h4).1⟩
 ·cases h9:B9
  ·have x:=(h.m1 h5 h9).x
   exact⟨(Yf x.h7).1,(Yf x.h2).1,(Yf x.h4).1⟩
  ·have x:=(h.m2 h9).x
   exact⟨(Yf x.h7).1,(Yf x.h2).1,(Yf x.h4).1⟩
structure E7 (ws wr:World)(base b0 b1 b2 b3 b4 b5 b6 b7 b8:Nat)(S bd:Int)(A:Option Addr)(n c:Nat)(rods:List Int)(vf vo vl vb:Value)(gu:Nat)(o:List Int)(st:List Int × Int)(k:Nat)(x:Int)(B0 B1 B2 B3 B4 B5 B6 B7 B8 B9 B10 B11 B12 B13:Bool)(u49 u50 u53 u54:Value)(wx:World):Prop where
 r:B11=false→R7 ws wr base b0 b1 b2 b3 b4 b5 b6 b7 b8 S bd A n c rods vf vo vl vb gu o st (k:Int) x B4 B5 B8 B9 u49 u50 u53 u54 wx
 d:B11=true→B0=true/\B1=true/\B2=true/\B3=true/\B4=true/\B5=true/\B6=true/\B7=true/\B8=true/\B9=true/\B10=true
 c12:B12=true→B11=true
 c13:B13=true→B12=true
 e:B11=true→∃w1,JM w1 base b0 b1 b2 b3 b4 b5 b6 b7 b8 S bd A n c rods vf vo vl vb gu o st u50 u54 (o++[(k:Int)]) (laidOf rods o++[x])/\Below base ws w1/\(B12=false→wx=w1.setCell ⟨gu,k,none⟩ (.bool true))/\(B12=true→B13=false→wx=(w1.setCell ⟨gu,k,none⟩ (.bool true)).setCell ⟨b4,0,none⟩ u50)/\(B13=true→wx=((w1.setCell ⟨gu,k,none⟩ (.bool true)).setCell ⟨b4,0,none⟩ u50).setCell ⟨b2,0,none⟩ u54)
theorem Zn {P:Program}{ops:Array Oper}{Q:Exit→Act→World→Prop}{i:Nat}{o:Oper}{K0:Act→World→Prop}{a:Act}{w:World}(ho:ops[i]?=some o)(hg:o.guard=none)(h:∀K:Act→World→Prop,(∀a w,K0 a w→K a w)→o.wp P a w K Q):wpOp P ops Q i K0 a w:=ZfG ho hg (h K0 (λ_ _ h=>h))
end
end Go.Proofs.YtfpaejlipaainaaGreatDoor
