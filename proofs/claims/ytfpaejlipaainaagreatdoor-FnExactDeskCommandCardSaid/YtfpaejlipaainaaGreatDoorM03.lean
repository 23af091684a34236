/- Texts that belong together, joined: contracts and plain laws. No statement is proved here. -/
import Derived.Test.YtfpaejlipaainaaGreatDoorM01
import Derived.Test.YtfpaejlipaainaaGreatDoorM02
import Derived.Shelf.Strings.SlTrimAscii
set_option maxRecDepth 100000
set_option maxHeartbeats 1000000
namespace Go.Proofs.YtfpaejlipaainaaGreatDoor
open Go.ChangeShapes Go.WideShapes Go.ChangeAt Go.RowKit Go.Deep
def QW (c:UInt8):Bool:=([70,66]:List UInt8).contains c
def strokeOk (s:ByteArray):Bool:=decide (1<=s.size)&&decide (s.size<=12)&&s.data.toList.all QW
theorem Za6 {l:List UInt8}:Lib.trimS l [70,66]=[]↔l.all QW=true:=by
 have hd:∀l:List UInt8,l.dropWhile (([70,66]:List UInt8).contains ·)=[]↔l.all QW=true:=by
  intro l
  induction l with
  | nil=>simp
  | cons a l ih =>
   rw[List.all_cons];by_cases h:([70,66]:List UInt8).contains a=true
   ·rw[List.dropWhile_cons_of_pos h,ih,show QW a=true from h,Bool.true_and]
   ·rw[List.dropWhile_cons_of_neg h,show QW a=false from Bool.eq_false_iff.2 h];simp
 have hw:∀l:List UInt8,(l.dropWhile (([70,66]:List UInt8).contains ·)).all QW=true↔l.all QW=true:=by
  intro l
  induction l with
  | nil=>simp
  | cons a l ih =>
   by_cases h:([70,66]:List UInt8).contains a=true
   ·rw[List.dropWhile_cons_of_pos h,ih,List.all_cons,show QW a=true from h,Bool.true_and]
   ·rw[List.dropWhile_cons_of_neg h]
 unfold Lib.trimS Lib.trimLeftS Lib.trimRightS;rw[hd,List.all_reverse,hw,List.all_reverse]
theorem Ye (s:ByteArray)(w:World)(hs:s.size<=maxLen) :
  Calls Tryz.prog 60 #[.string s] w λe w'=>e = .returned (.bool (strokeOk s))/\Below w.heap.size w w':=by
 unfold maxLen at hs;by_cases h1:(s.size:Int)<1
 ·have hm:Hid (strokeOk s=false):=Za (by unfold strokeOk;rw[decide_eq_false (by omega)];rfl)
  go_enter Tryz.func60,Tryz.ntmps60;go_wp2
  go_ret;exact⟨ZW hm.out.symm,Below.refl _ _⟩
 by_cases h2:(12:Int)<s.size
 ·have hm:Hid (strokeOk s=false):=Za (by unfold strokeOk;rw[decide_eq_false (p:=s.size<=12) (by omega)];simp)
  go_enter Tryz.func60,Tryz.ntmps60;go_wp2
  go_ret;exact⟨ZW hm.out.symm,Below.refl _ _⟩
 have hc:=Za (Any.strings_Trim_laid Tryz.lays160 (by kernel_rfl) s ⟨#[70,66]⟩ w (by omega) (by decide) (ascii_of_all (by decide)));cases ha:s.data.toList.all QW
 ·have hm:Hid (strokeOk s=false):=Za (by unfold strokeOk;rw[ha];simp)
  have hne:Lib.trimS s.data.toList [70,66]≠[]:=λh=>by rw[Za6.1 h] at ha;cases ha
  obtain⟨t,ht⟩:∃t,t=(⟨(Lib.trimS s.data.toList [70,66]).toArray⟩:ByteArray):=⟨_,rfl⟩;have hct:Hid (Calls Tryz.prog 112 #[.string s,.string ⟨#[70,66]⟩] w λe w'=>e = .returned (.string t)/\Below w.heap.size w w'):=Za (by rw[ht];exact hc.out);have htl:t.toList≠[]:=by
   rw[ByteArray.toList_eq,ht];exact hne
  have e1:t.toList.isEmpty=false:=by cases hq:t.toList with
   | nil=>exact absurd hq htl
   | cons _ _=>rfl
  have e2:(t.toList == [])=false:=by cases hq:t.toList with
   | nil=>exact absurd hq htl
   | cons _ _=>rfl
  clear hc ht ha hne;go_enter Tryz.func60,Tryz.ntmps60;go_wp2_with (go_at_call 112;refine hct.out.mono ?_;rintro e w1 ⟨rfl,hb⟩;have hB:=Za hb;clear hb)
  go_ret;exact⟨ZW (by rw[hm.out]),hB.out⟩
 ·have hm:Hid (strokeOk s=true):=Za (by unfold strokeOk;rw[ha,decide_eq_true (by omega),decide_eq_true (by omega)];rfl)
  rw[show(⟨#[70,66]⟩:ByteArray).data.toList=[70,66] from rfl,Za6.2 ha] at hc;clear ha;go_enter Tryz.func60,Tryz.ntmps60;go_wp2_with (go_at_call 112;refine hc.out.mono ?_;rintro e w1 ⟨rfl,hb⟩;have hB:=Za hb;clear hb)
  go_ret;exact⟨ZW hm.out.symm,hB.out⟩
theorem Zdb {c:UInt8}:QW c=true↔(c.toNat:Int)=70\/(c.toNat:Int)=66:=by
 unfold QW;simp only[List.contains_cons,List.contains_nil,Bool.or_false,Bool.or_eq_true,beq_iff_eq];constructor
 ·rintro(h|h)<;>subst h<;>decide
 ·rintro(h|h)
  ·left;exact UInt8.toNat_inj.1 (by show c.toNat=70;omega)
  ·right;exact UInt8.toNat_inj.1 (by show c.toNat=66;omega)
theorem Jf {s:ByteArray}{k:Nat}(h:k<s.size):s.data.toList[k]?=some s[k]:=by
 rw[List.getElem?_eq_getElem (by rw[Array.length_toList];exact h)];rfl
theorem Yv (s:ByteArray)(w:World)(hs:s.size<=maxLen) :
  Calls Tryz.prog 82 #[.string s] w λe w'=>e = .returned (.bool (strokeOk s))/\w=w':=by
 unfold maxLen at hs;go_enter Tryz.func82,Tryz.ntmps82;go_wp2
 go_loopw [3] (λi wr=>∃k:Nat,k<=s.size/\i = .int .i64 k/\w=wr/\Hid ((s.data.toList.take k).all QW=true)) (λi _=>s.size-(intOf i).toNat)
 case atStart=>exact⟨0,Nat.zero_le _,rfl,rfl,Za rfl⟩
 case round =>
  obtain⟨k,hk,rfl,rfl,hall⟩:=hrel;by_cases hlt:k<s.size
  ·have hx:=Jf hlt
   cases hb:QW s[k]
   ·have hm:Hid (strokeOk s=false):=Za (by unfold strokeOk;rw[Xl hx hb];simp)
    have e1:((s[k].toNat:Int) != 70)=true:=by rw[bne_iff_ne];intro h;rw[Zdb.2 (.inl h)] at hb;cases hb
    have e2:((s[k].toNat:Int) != 66)=true:=by rw[bne_iff_ne];intro h;rw[Zdb.2 (.inr h)] at hb;cases hb
    clear hx hb;go_wp2
    go_ret;exact⟨ZW hm.out.symm,rfl⟩
   ·have hnx:Hid ((s.data.toList.take (k+1)).all QW=true):=Za (by rw[Zo hx,List.all_append,hall.out];simp[hb])
    have hor:=Zdb.1 hb;clear hx hb;by_cases h7:(s[k].toNat:Int)=70
    ·have e1:((s[k].toNat:Int) != 70)=false:=by rw[h7];rfl
     clear h7 hor;go_wp2
     go_round
     case rel=>exact⟨k+1,by omega,by go_num,trivial,hnx⟩
     case measure=>simp[intOf];omega
    ·have h6:(s[k].toNat:Int)=66:=hor.resolve_left h7
     have e1:((s[k].toNat:Int) != 70)=true:=bne_iff_ne.2 h7;have e2:((s[k].toNat:Int) != 66)=false:=by rw[h6];rfl
     clear h7 h6 hor;go_wp2
     go_round
     case rel=>exact⟨k+1,by omega,by go_num,trivial,hnx⟩
     case measure=>simp[intOf];omega
  ·have hkn:k=s.size:=by omega
   subst hkn;have hm:Hid (strokeOk s=inB (s.size:Int) 1 12):=Za (by
    have e:=hall.out;rw[List.take_of_length_le (by rw[Array.length_toList];exact Nat.le_refl _)] at e;unfold strokeOk;rw[e,Bool.and_true,Bool.eq_iff_iff,Bool.and_eq_true,decide_eq_true_eq,decide_eq_true_eq,Zj];omega)
   go_wp2_with (go_at_call 135;refine(Yc _ _ _ _).mono ?_;rintro e w' ⟨rfl,rfl⟩)
   go_ret;exact⟨ZW hm.out.symm,rfl⟩
theorem ZQ (n:Int)(w:World):Calls Tryz.prog 61 #[.int .i64 n] w λe w'=>e = .returned (.bool (inB n 3 60))/\w=w':=by
 go_enter Tryz.func61,Tryz.ntmps61;go_wp2_with (go_at_call 113;refine(Zu _ _ _ _).mono ?_;rintro e w' ⟨rfl,rfl⟩)
 go_ret;exact⟨rfl,rfl⟩
theorem Z8 (n:Int)(w:World):Calls Tryz.prog 83 #[.int .i64 n] w λe w'=>e = .returned (.bool (inB n 3 60))/\w=w':=by
 go_enter Tryz.func83,Tryz.ntmps83;go_wp2_with (go_at_call 135;refine(Yc _ _ _ _).mono ?_;rintro e w' ⟨rfl,rfl⟩)
 go_ret;exact⟨rfl,rfl⟩
def Kind.ok (x:Kind):Bool:=inB x.fReach 1 200&&inB x.fHave 0 12
def ZF (l:List Kind)(i:Nat):Bool:=match l[i]? with
 | some x=>x.ok&&(decide (i=0)||(match l[i-1]? with|some y=>!decide (x.fReach<=y.fReach)|none=>true))
 | none=>true
def ZD (l:List Kind):Bool:=(List.range l.length).all (ZF l)&&decide (l.length<=4)
theorem V9 {l:List Kind}{x:Kind}(h:l[0]?=some x):ZF l 0=x.ok:=by unfold ZF;rw[h];simp
theorem US {l:List Kind}{x y:Kind}{k:Nat}(h:l[k]?=some x)(hk:0<k)(h':l[k-1]?=some y):ZF l k=(x.ok && !decide (x.fReach<=y.fReach)):=by
 unfold ZF;rw[h,h',decide_eq_false (by omega)];simp
theorem YD (A:Option Addr)(n c:Nat)(l:List Kind)(w:World)(hn:n<=1048576)(hr:Arr Kind.cells 2 w w.heap.size A n l) :
  Calls Tryz.prog 62 #[.slice A n c] w λe w'=>e = .returned (.bool (ZD l))/\Below w.heap.size w w':=by
 have hl:=Za hr.len;go_enter Tryz.func62,Tryz.ntmps62;go_wp2
 go_loopw [7] (λi wr=>∃k:Nat,k<=n/\i = .int .i64 k/\Below w.heap.size w wr/\Hid ((List.range k).all (ZF l)=true)) (λi _=>n-(intOf i).toNat)
 case atStart=>exact⟨0,Nat.zero_le _,rfl,Below.refl _ _,Za rfl⟩
 case round =>
  obtain⟨k,hk,rfl,hb,hall⟩:=hrel;by_cases hlt:k<n
  ·obtain⟨b,o,x,rfl,hbl,hx,c0,c1⟩:=hr.Kind hlt
   have d0:wr.cell? ⟨b,o+k*2,none⟩=some (.int .i64 x.fReach):=(hb.cell (p:=⟨b,o+k*2,none⟩) hbl).trans c0;have d1:wr.cell? ⟨b,o+k*2+1,none⟩=some (.int .i64 x.fHave):=(hb.cell (p:=⟨b,o+k*2+1,none⟩) hbl).trans c1;have hX:=Za hx;clear hx c0 c1;have hbs:b<wr.heap.size:=Nat.lt_of_lt_of_le hbl hb.size;have hbad:Hid (ZF l k=false→ZD l=false):=Za (λh=>by
    unfold ZD;rw[Xl (i:=k) (x:=k) (by rw[List.getElem?_range (by rw[hl.out];exact hlt)]) h];rfl)
   have hgood:Hid (ZF l k=true→(List.range (k+1)).all (ZF l)=true):=Za (λh=>by rw[List.range_succ,List.all_append,hall.out];simp[h]);by_cases hz:0<k
   ·obtain⟨_,_,y,hA2,_,hx2,e0,e1⟩:=hr.Kind (k:=k-1) (by omega)
    cases hA2
    have q0:∀O,(wr.alloc O).cell? ⟨b,o+(k-1)*2,none⟩=some (.int .i64 y.fReach):=λO=>(World.cell?_alloc_lt wr O ⟨b,o+(k-1)*2,none⟩ hbs).trans ((hb.cell (p:=⟨b,o+(k-1)*2,none⟩) hbl).trans e0)
    have hp:=Za (US hX.out hz hx2);have hB:=Za hb;clear hr hb hall hx2 e0 e1;have hd:decide ((0:Int)<(k:Int))=true:=by simp;omega
    have hi0:(0:Int)<=(k:Int)-1:=by omega
    have hi3:(1:Int)<=(k:Int):=by omega
    have hi1:(k:Int)-1<(n:Int):=by omega
    have hw:IntKind.i64.wrap ((k:Int)-1)=(k:Int)-1:=IntWalk.i64_in _ (by omega);have hi2:((k:Int)-1).toNat=k-1:=by omega
    cases h1:inB x.fReach 1 200
    ·skip
     have ck:Hid (ZF l k=false):=Za (by rw[hp.out];simp[Kind.ok,h1]);go_wp2_with fail
     go_quiet ((go_at_call 113;exact Zy (Zu _ _ _ _)))
     go_wp2
     go_ret;exact⟨ZW (hbad.out ck.out).symm,Zb (hB.out.alloc hB.out.size _) _⟩
    ·cases h2:inB x.fHave 0 12
     ·skip
      have ck:Hid (ZF l k=false):=Za (by rw[hp.out];simp[Kind.ok,h2]);go_wp2_with fail
      go_quiet ((go_at_call 113;exact Zy (Zu _ _ _ _)))
      go_wp2
      go_ret;exact⟨ZW (hbad.out ck.out).symm,Zb (hB.out.alloc hB.out.size _) _⟩
     ·cases h3:decide (x.fReach<=y.fReach)
      ·skip
       have ck:Hid (ZF l k=true):=Za (by rw[hp.out];simp[Kind.ok,h1,h2,h3,-decide_eq_false_iff_not]);go_wp2_with fail
       go_quiet ((go_at_call 113;exact Zy (Zu _ _ _ _)))
       go_wp2
       go_roundw
       case rel=>exact⟨k+1,by omega,by go_num,Zb (hB.out.alloc hB.out.size _) _,Za (hgood.out ck.out)⟩
       case measure=>simp[intOf];omega
      ·skip
       have ck:Hid (ZF l k=false):=Za (by rw[hp.out];simp[h3,-decide_eq_true_eq]);go_wp2_with fail
       go_quiet ((go_at_call 113;exact Zy (Zu _ _ _ _)))
       go_wp2
       go_ret;exact⟨ZW (hbad.out ck.out).symm,Zb (hB.out.alloc hB.out.size _) _⟩
   ·have hp:=Za (show ZF l k=x.ok by
     have hk0:k=0:=by omega
     subst hk0;exact V9 hX.out)
    have hd:decide ((0:Int)<(k:Int))=false:=by simp;omega
    have hB:=Za hb;clear hr hb hall;cases h1:inB x.fReach 1 200
    ·skip
     have ck:Hid (ZF l k=false):=Za (by rw[hp.out];simp[Kind.ok,h1]);go_wp2_with fail
     go_quiet ((go_at_call 113;exact Zy (Zu _ _ _ _)))
     go_wp2
     go_ret;exact⟨ZW (hbad.out ck.out).symm,Zb (hB.out.alloc hB.out.size _) _⟩
    ·cases h2:inB x.fHave 0 12
     ·skip
      have ck:Hid (ZF l k=false):=Za (by rw[hp.out];simp[Kind.ok,h2]);go_wp2_with fail
      go_quiet ((go_at_call 113;exact Zy (Zu _ _ _ _)))
      go_wp2
      go_ret;exact⟨ZW (hbad.out ck.out).symm,Zb (hB.out.alloc hB.out.size _) _⟩
     ·skip
      have ck:Hid (ZF l k=true):=Za (by rw[hp.out];simp[Kind.ok,h1,h2]);go_wp2_with fail
      go_quiet ((go_at_call 113;exact Zy (Zu _ _ _ _)))
      go_wp2
      go_roundw
      case rel=>exact⟨k+1,by omega,by go_num,Zb (hB.out.alloc hB.out.size _) _,Za (hgood.out ck.out)⟩
      case measure=>simp[intOf];omega
  ·have hkn:k=n:=by omega
   subst hkn;have hB:=Za hb;clear hb;have ck:Hid (ZD l=decide (k<=4)):=Za (by unfold ZD;rw[hl.out,hall.out,Bool.true_and]);go_wp2
   go_ret;exact⟨ZW (by rw[ck.out,decide_eq_decide];omega),hB.out⟩
theorem YM (A:Option Addr)(n c:Nat)(l:List Kind)(w:World)(hn:n<=1048576)(hr:Arr Kind.cells 2 w w.heap.size A n l) :
  Calls Tryz.prog 84 #[.slice A n c] w λe w'=>e = .returned (.bool (ZD l))/\Below w.heap.size w w':=by
 have hl:=Za hr.len;go_enter Tryz.func84,Tryz.ntmps84;go_wp2
 go_loopw [3] (λi wr=>∃k:Nat,k<=n/\i = .int .i64 k/\Below w.heap.size w wr/\Hid ((List.range k).all (ZF l)=true)) (λi _=>n-(intOf i).toNat)
 case atStart=>exact⟨0,Nat.zero_le _,rfl,Below.refl _ _,Za rfl⟩
 case round =>
  obtain⟨k,hk,rfl,hb,hall⟩:=hrel;by_cases hlt:k<n
  ·obtain⟨b,o,x,rfl,hbl,hx,c0,c1⟩:=hr.Kind hlt
   have d0:wr.cell? ⟨b,o+k*2,none⟩=some (.int .i64 x.fReach):=(hb.cell (p:=⟨b,o+k*2,none⟩) hbl).trans c0;have d1:wr.cell? ⟨b,o+k*2+1,none⟩=some (.int .i64 x.fHave):=(hb.cell (p:=⟨b,o+k*2+1,none⟩) hbl).trans c1;have hX:=Za hx;clear hx c0 c1;have hbs:b<wr.heap.size:=Nat.lt_of_lt_of_le hbl hb.size;have hbad:Hid (ZF l k=false→ZD l=false):=Za (λh=>by
    unfold ZD;rw[Xl (i:=k) (x:=k) (by rw[List.getElem?_range (by rw[hl.out];exact hlt)]) h];rfl)
   have hgood:Hid (ZF l k=true→(List.range (k+1)).all (ZF l)=true):=Za (λh=>by rw[List.range_succ,List.all_append,hall.out];simp[h]);by_cases hz:0<k
   ·obtain⟨_,_,y,hA2,_,hx2,e0,e1⟩:=hr.Kind (k:=k-1) (by omega)
    cases hA2
    have q0:∀O,(wr.alloc O).cell? ⟨b,o+(k-1)*2,none⟩=some (.int .i64 y.fReach):=λO=>(World.cell?_alloc_lt wr O ⟨b,o+(k-1)*2,none⟩ hbs).trans ((hb.cell (p:=⟨b,o+(k-1)*2,none⟩) hbl).trans e0)
    have hp:=Za (US hX.out hz hx2);have hB:=Za hb;clear hr hb hall hx2 e0 e1;have hd:decide ((0:Int)<(k:Int))=true:=by simp;omega
    have hi0:(0:Int)<=(k:Int)-1:=by omega
    have hi3:(1:Int)<=(k:Int):=by omega
    have hi1:(k:Int)-1<(n:Int):=by omega
    have hw:IntKind.i64.wrap ((k:Int)-1)=(k:Int)-1:=IntWalk.i64_in _ (by omega);have hi2:((k:Int)-1).toNat=k-1:=by omega
    cases h1:inB x.fReach 1 200
    ·skip
     have ck:Hid (ZF l k=false):=Za (by rw[hp.out];simp[Kind.ok,h1]);go_wp2_with fail
     go_quiet ((go_at_call 135;exact Zy (Yc _ _ _ _)))
     go_wp2
     go_ret;exact⟨ZW (hbad.out ck.out).symm,Zb (hB.out.alloc hB.out.size _) _⟩
    ·cases h2:inB x.fHave 0 12
     ·skip
      have ck:Hid (ZF l k=false):=Za (by rw[hp.out];simp[Kind.ok,h2]);go_wp2_with fail
      go_quiet ((go_at_call 135;exact Zy (Yc _ _ _ _)))
      go_wp2
      go_ret;exact⟨ZW (hbad.out ck.out).symm,Zb (hB.out.alloc hB.out.size _) _⟩
     ·cases h3:decide (x.fReach<=y.fReach)
      ·skip
       have ck:Hid (ZF l k=true):=Za (by rw[hp.out];simp[Kind.ok,h1,h2,h3,-decide_eq_false_iff_not]);go_wp2_with fail
       go_quiet ((go_at_call 135;exact Zy (Yc _ _ _ _)))
       go_wp2
       go_roundw
       case rel=>exact⟨k+1,by omega,by go_num,Zb (hB.out.alloc hB.out.size _) _,Za (hgood.out ck.out)⟩
       case measure=>simp[intOf];omega
      ·skip
       have ck:Hid (ZF l k=false):=Za (by rw[hp.out];simp[h3,-decide_eq_true_eq]);go_wp2_with fail
       go_quiet ((go_at_call 135;exact Zy (Yc _ _ _ _)))
       go_wp2
       go_ret;exact⟨ZW (hbad.out ck.out).symm,Zb (hB.out.alloc hB.out.size _) _⟩
   ·have hp:=Za (show ZF l k=x.ok by
     have hk0:k=0:=by omega
     subst hk0;exact V9 hX.out)
    have hd:decide ((0:Int)<(k:Int))=false:=by simp;omega
    have hB:=Za hb;clear hr hb hall;cases h1:inB x.fReach 1 200
    ·skip
     have ck:Hid (ZF l k=false):=Za (by rw[hp.out];simp[Kind.ok,h1]);go_wp2_with fail
     go_quiet ((go_at_call 135;exact Zy (Yc _ _ _ _)))
     go_wp2
     go_ret;exact⟨ZW (hbad.out ck.out).symm,Zb (hB.out.alloc hB.out.size _) _⟩
    ·cases h2:inB x.fHave 0 12
     ·skip
      have ck:Hid (ZF l k=false):=Za (by rw[hp.out];simp[Kind.ok,h2]);go_wp2_with fail
      go_quiet ((go_at_call 135;exact Zy (Yc _ _ _ _)))
      go_wp2
      go_ret;exact⟨ZW (hbad.out ck.out).symm,Zb (hB.out.alloc hB.out.size _) _⟩
     ·skip
      have ck:Hid (ZF l k=true):=Za (by rw[hp.out];simp[Kind.ok,h1,h2]);go_wp2_with fail
      go_quiet ((go_at_call 135;exact Zy (Yc _ _ _ _)))
      go_wp2
      go_roundw
      case rel=>exact⟨k+1,by omega,by go_num,Zb (hB.out.alloc hB.out.size _) _,Za (hgood.out ck.out)⟩
      case measure=>simp[intOf];omega
  ·have hkn:k=n:=by omega
   subst hkn;have hB:=Za hb;clear hb;have ck:Hid (ZD l=decide (k<=4)):=Za (by unfold ZD;rw[hl.out,hall.out,Bool.true_and]);go_wp2
   go_ret;exact⟨ZW (by rw[ck.out,decide_eq_decide];omega),hB.out⟩
def atB (s:ByteArray)(k:Nat):UInt8:=s.data.toList.getD k 0
theorem VM {s:ByteArray}{k:Nat}(h:k<s.size):atB s k=s[k]:=by
 unfold atB;rw[List.getD_eq_getElem?_getD,Jf h];rfl
def alongL (s:ByteArray)(f st m:Nat):List UInt8:=(List.range m).map λi=>atB s ((f+i*st)%s.size)
def Xs (s:ByteArray)(f st m:Nat):ByteArray:=⟨(alongL s f st m).toArray⟩
theorem Zaa (s:ByteArray)(f st m:Nat):(alongL s f st m).length=m:=by simp[alongL]
theorem VN (s:ByteArray)(f st m:Nat):alongL s f st (m+1)=alongL s f st m++[atB s ((f+m*st)%s.size)]:=by
 unfold alongL;rw[List.range_succ,List.map_append];rfl
theorem Xk (s:ByteArray)(f st m:Nat):(Xs s f st m).size=m:=by
 show(alongL s f st m).toArray.size=m
 rw[List.size_toArray,Zaa]
def lrS (s:ByteArray):Nat→Nat × Nat
 | 0=>(1,0)
 | i+1 =>
  let r:=(if 0<i/\¬atB s (i%s.size)=atB s ((i-1)%s.size) then 0 else (lrS s i).2)+1
  (max (lrS s i).1 (min r s.size),r)
def longRun (s:ByteArray):Nat:=(lrS s (2*s.size)).1
theorem ZbD (s:ByteArray)(i:Nat):(lrS s i).2<=i/\1<=(lrS s i).1/\(lrS s i).1<=max 1 s.size:=by
 induction i with
 | zero=>exact⟨Nat.le_refl _,Nat.le_refl _,by show 1<=_;omega⟩
 | succ i ih =>
  refine⟨?_,?_,?_⟩
  ·show(if 0<i/\¬atB s (i%s.size)=atB s ((i-1)%s.size) then 0 else (lrS s i).2)+1<=i+1
   split<;>omega
  ·show 1<=max (lrS s i).1 _
   omega
  ·show max (lrS s i).1 (min _ s.size)<=_
   omega
def Zkd (s:ByteArray)(c:UInt8):Bool:=s.data.toList.contains c
def VL (s:ByteArray):Bool:=Zkd s 70&&Zkd s 66
def againN (s:ByteArray)(k:Nat):Nat:=s.size/Nat.gcd s.size k
def VG (s:ByteArray)(k j:Nat):Bool:=!VL (Xs s j k (againN s k))
def YT (s:ByteArray)(k m:Nat):List Int:=((List.range m).filter (VG s k)).map λj:Nat=>(j:Int)
theorem ZcS {s:ByteArray}{k m:Nat}(h:VG s k m=true):YT s k (m+1)=YT s k m++[(m:Int)]:=by
 unfold YT;rw[List.range_succ,List.filter_append,List.map_append];simp[h]
theorem Ze2 {s:ByteArray}{k m:Nat}(h:VG s k m=false):YT s k (m+1)=YT s k m:=by
 unfold YT;rw[List.range_succ,List.filter_append,List.map_append];simp[h]
theorem ZcT (s:ByteArray)(k m:Nat):(YT s k m).length<=m:=by
 unfold YT;rw[List.length_map];have:=List.length_filter_le (VG s k) (List.range m);rw[List.length_range] at this;exact this
def Xg (s:ByteArray)(k:Nat)(f:Int):Bool:=VL s&&(decide ((longRun s:Int)<=f)&&decide ((YT s k k).length=0))
def W7 (s:ByteArray)(k:Nat)(f:Int)(m:Nat):Option Nat:=(List.range m).find? λa=>Xg s (k+a) f
theorem Zac {s:ByteArray}{k:Nat}{f:Int}{m:Nat}(h:W7 s k f m=none):W7 s k f (m+1)=if Xg s (k+m) f then some m else none:=by
 unfold W7 at h ⊢;rw[List.range_succ,List.find?_append,h];simp[List.find?];split<;>simp_all
theorem Zad {s:ByteArray}{k:Nat}{f:Int}{m a:Nat}(h:W7 s k f m=some a){m':Nat}(hm:m<=m'):W7 s k f m'=some a:=by
 unfold W7 at h ⊢;obtain⟨d,rfl⟩:∃d,m'=m+d:=⟨m' - m,by omega⟩;rw[List.range_add,List.find?_append,h];rfl
def Y6 (s:ByteArray):Bool:=s.data.toList.all (λc=>decide (97<=c.toNat)&&decide (c.toNat<=122))&&(decide (1<=s.size)&&decide (s.size<=12))
def mRoundT (s:ByteArray)(k:Nat)(r:Int):ByteArray:=if inB r 0 100 then Xs s (r.toNat*k) 1 k else ⟨#[]⟩
def mRoundC (r:Int):Int:=if inB r 0 100 then 0 else 2
def mSound (s:ByteArray)(k:Nat)(f:Int):Bool:=inB f 1 12&&Xg s k f
def mSoundC (f:Int):Int:=if inB f 1 12 then 0 else 2
def mStk (s:ByteArray)(k:Nat)(f:Int):Int:=if inB f 1 12 then (match W7 s k f (61-k) with
 | some a=>(a:Int)
 | none=>0) else 0
def mStkC (s:ByteArray)(k:Nat)(f:Int):Int:=if inB f 1 12 then (match W7 s k f (61-k) with
 | some _=>0
 | none=>3) else 2
def mRowT (s:ByteArray)(k:Nat)(r:Int):ByteArray:=if Y6 s then (if inB r 0 100 then Xs s (r.toNat*k) 1 k else ⟨#[]⟩) else ⟨#[]⟩
def mRowC (s:ByteArray)(r:Int):Int:=if Y6 s then (if inB r 0 100 then 0 else 2) else 1
def XV:List Int→List Int→Option (List Int)
 | h :: hs,x :: xs =>
  match XV hs xs with
  | some ys=>some (x :: ys)
  | none=>if x<h then some ((x+1) :: hs.map λ_=>0) else none
 | _,_=>none
def UF (A:List (List Int)):Nat→List (List Int)
 | 0=>[]
 | n+1=>UF A n++A.map ((n:Int) :: ·)
def allT:List Int→List (List Int)
 | []=>[[]]
 | h :: hs=>UF (allT hs) (h.toNat+1)
def Jp (hs:List Int)(v:Option (List Int)):List (List Int)→Prop
 | []=>False
 | [t]=>XV hs t=v
 | t :: u :: R=>XV hs t=some u/\Jp hs v (u :: R)
theorem ZbF {hs:List Int}{v:Option (List Int)}{u:List Int}{R:List (List Int)}(h2:Jp hs v (u :: R)):∀{A:List (List Int)},Jp hs (some u) A→Jp hs v (A++u :: R)
 | [],h=>absurd h id
 | [_],h=>⟨h,h2⟩
 | _ :: t' :: A,h=>⟨h.1,ZbF h2 (A:=t' :: A) h.2⟩
theorem QQ {h:Int}{hs:List Int}{x:Int}{v:Option (List Int)}(hv:v=if x<h then some ((x+1) :: hs.map λ_=>0) else none):∀{A:List (List Int)},Jp hs none A→Jp (h :: hs) v (A.map (x :: ·))
 | [],hA=>hA
 | [t],hA=>by
  show XV (h :: hs) (x :: t)=v
  rw[XV,show XV hs t=none from hA,hv]
 | t :: u :: A,hA=>by
  refine⟨?_,QQ hv (A:=u :: A) hA.2⟩;show XV (h :: hs) (x :: t)=some (x :: u)
  rw[XV,show XV hs t=some u from hA.1]
theorem Zab {A:List (List Int)}{z:List Int}{R:List (List Int)}(hA:A=z :: R):∀n,∃R',UF A (n+1)=((0:Int) :: z) :: R'
 | 0=>⟨_,by rw[UF,UF,hA];rfl⟩
 | n+1=>by
  obtain⟨R',h⟩:=Zab hA n;exact⟨_,by rw[UF,h];rfl⟩
theorem ZiR (hs:List Int)(h0:∀h∈hs,0<=h):(∃R,allT hs=(hs.map λ_=>0) :: R)/\Jp hs none (allT hs):=by
 induction hs with
 | nil=>exact⟨⟨[],rfl⟩,rfl⟩
 | cons h hs ih =>
  obtain⟨⟨R,hR⟩,hl⟩:=ih λy hy=>h0 y (List.mem_cons_of_mem _ hy)
  have hh:=h0 h List.mem_cons_self;refine⟨?_,?_⟩
  ·obtain⟨R',e⟩:=Zab hR h.toNat
   exact⟨R',e⟩
  ·have key:∀n:Nat,(n:Int)<=h→Jp (h :: hs) (if (n:Int)<h then some (((n:Int)+1) :: hs.map λ_=>0) else none) (UF (allT hs) (n+1)):=by
    intro n
    induction n with
    | zero=>intro _;exact QQ rfl hl
    | succ n ihn =>
     intro hn;have h1:=ihn (by omega);rw[if_pos (by omega)] at h1;have h2:Jp (h :: hs) (if ((n+1:Nat):Int)<h then some ((((n+1:Nat):Int)+1) :: hs.map λ_=>0) else none) ((allT hs).map (((n+1:Nat):Int) :: ·)):=QQ rfl hl;rw[UF];rw[hR,List.map_cons] at h2 ⊢;rw[←hR];exact ZbF h2 (by rw[hR] at h1 ⊢;exact h1)
   have:=key h.toNat (by omega);rw[if_neg (by omega)] at this;exact this
theorem Qi {hs:List Int}(h0:∀h∈hs,0<=h):∀t∈allT hs,t.length=hs.length:=by
 induction hs with
 | nil=>intro t ht;rw[allT,List.mem_singleton] at ht;rw[ht]
 | cons h hs ih =>
  have ih2:=ih λy hy=>h0 y (List.mem_cons_of_mem _ hy)
  have key:∀n,∀t∈UF (allT hs) n,t.length=hs.length+1:=by
   intro n
   induction n with
   | zero=>intro t ht;cases ht
   | succ n ihn =>
    intro t ht;rw[UF,List.mem_append] at ht;rcases ht with ht|ht
    ·exact ihn t ht
    ·obtain⟨u,hu,rfl⟩:=List.mem_map.1 ht
     rw[List.length_cons,ih2 u hu]
  intro t ht;exact key _ t ht
def reachL (l:List Kind)(t:List Int):Int:=sumOf (λp:Kind × Int=>p.2*p.1.fReach) (l.zip t)
def Y2 (r a r' a':Int):Bool:=decide (r<r')||(decide (r=r')&&decide (a<a'))
def bestS (l:List Kind)(q:Int)(b:Option (List Int))(t:List Int):Option (List Int) :=
 if q<=reachL l t/\(match b with|none=>true|some u=>Y2 (sumOf id t) (reachL l t) (sumOf id u) (reachL l u))=true then some t else b
def ZeZ (l:List Kind)(q:Int):Option (List Int):=(allT (l.map λk=>k.fHave)).foldl (bestS l q) none
def fewC (ks:List Kind)(q:Int):Int:=if inB q 0 5000 then (match ZeZ ks q with|some _=>0|none=>3) else 2
def fewL (ks:List Kind)(q:Int):List Int:=if inB q 0 5000 then (ZeZ ks q).getD [] else []
def Qa (l:List Int)(k:Nat):List Int:=(List.range (min k (l.length-1))).map λi=>sumOf id (l.take (i+1))
def placesL (l:List Int):List Int:=Qa l l.length
theorem Zav (l:List Int)(k:Nat):(Qa l k).length=min k (l.length-1):=by simp[Qa]
theorem Wo (l:List Int):(placesL l).length=l.length-1:=by unfold placesL;rw[Zav];omega
theorem ZdI {l:List Int}{k:Nat}(h:k+1<l.length):Qa l (k+1)=Qa l k++[sumOf id (l.take (k+1))]:=by
 unfold Qa;rw[show min (k+1) (l.length-1)=k+1 by omega,show min k (l.length-1)=k by omega,List.range_succ,List.map_append];rfl
theorem ZjG {l:List Int}{k:Nat}(h:l.length<=k+1):Qa l (k+1)=Qa l k:=by
 unfold Qa;rw[show min (k+1) (l.length-1)=l.length-1 by omega,show min k (l.length-1)=l.length-1 by omega]
theorem QC {l:List Int}{k:Nat}(h:k+1<l.length):(placesL l)[k]?=some (sumOf id (l.take (k+1))):=by
 unfold placesL Qa;rw[List.getElem?_map,List.getElem?_range (by omega)];rfl
def Vu (S b:Int)(P:List Int)(k j:Nat):Bool:=(List.range j).any λi=>decide (((P.getD k 0-P.getD i 0-S).natAbs:Int)<=b)
def Za0 (S b:Int)(P:List Int)(k:Nat):Bool:=Vu S b P k k
theorem Zaf (S b:Int)(P:List Int)(k j:Nat):Vu S b P k (j+1)=(Vu S b P k j||decide (((P.getD k 0-P.getD j 0-S).natAbs:Int)<=b)):=by
 unfold Vu;rw[List.range_succ,List.any_append];simp
theorem ZfC {S b:Int}{P:List Int}{k j j':Nat}(h:Vu S b P k j=true)(hj:j<=j'):Vu S b P k j'=true:=by
 unfold Vu at h ⊢;rw[List.any_eq_true] at h ⊢;obtain⟨x,hx,hp⟩:=h;exact⟨x,List.mem_range.2 (by have:=List.mem_range.1 hx;omega),hp⟩
def Jo (S b:Int)(P:List Int)(m:Nat):Nat:=((List.range m).filter (Za0 S b P)).length
theorem Qm {S b:Int}{P:List Int}{m:Nat}(h:Za0 S b P m=true):Jo S b P (m+1)=Jo S b P m+1:=by
 unfold Jo;rw[List.range_succ,List.filter_append,List.length_append];simp[h]
theorem ZaY {S b:Int}{P:List Int}{m:Nat}(h:Za0 S b P m=false):Jo S b P (m+1)=Jo S b P m:=by
 unfold Jo;rw[List.range_succ,List.filter_append,List.length_append];simp[h]
theorem Zdn (S b:Int)(P:List Int)(m:Nat):Jo S b P m<=m:=by
 unfold Jo;have:=List.length_filter_le (Za0 S b P) (List.range m)
 rwa [List.length_range] at this
def mAbv (S b:Int)(l:List Int):Nat:=Jo S b (placesL l) (placesL l).length
theorem ZjP (S b:Int)(l:List Int):mAbv S b l<=l.length:=by
 unfold mAbv;have:=Zdn S b (placesL l) (placesL l).length;rw[Wo] at this ⊢;omega
def laidOf (rods o:List Int):List Int:=o.map λk=>rods.getD k.toNat 0
theorem Wt {rods o:List Int}{k:Nat}{x:Int}(h:rods[k]?=some x):laidOf rods (o++[(k:Int)])=laidOf rods o++[x]:=by
 unfold laidOf;rw[List.map_append];simp[List.getD_eq_getElem?_getD,h]
def plc (S b:Int)(rods:List Int):Nat→List Int→List Int × Int→List Int × Int
 | 0,_,st=>st
 | n+1,o,st =>
  if 0<=st.2/\st.2<=(mAbv S b (laidOf rods o):Int) then st
  else if o.length=rods.length then (o,(mAbv S b (laidOf rods o):Int))
  else (List.range rods.length).foldl (λst (k:Nat)=>if (k:Int)∈o then st else plc S b rods n (o++[(k:Int)]) st) st
def U1 (S b:Int)(rods:List Int)(n:Nat)(o:List Int)(st:List Int × Int)(k:Nat):List Int × Int :=
 (List.range k).foldl (λst (k:Nat)=>if (k:Int)∈o then st else plc S b rods n (o++[(k:Int)]) st) st
theorem Zgx {S b:Int}{rods:List Int}{n:Nat}{o:List Int}{st:List Int × Int}{k:Nat}(h:(k:Int)∈o):U1 S b rods n o st (k+1)=U1 S b rods n o st k:=by
 unfold U1;rw[List.range_succ,List.foldl_append];simp[h]
theorem Zie {S b:Int}{rods:List Int}{n:Nat}{o:List Int}{st:List Int × Int}{k:Nat}(h:¬(k:Int)∈o):U1 S b rods n o st (k+1)=plc S b rods n (o++[(k:Int)]) (U1 S b rods n o st k):=by
 unfold U1;rw[List.range_succ,List.foldl_append];simp[h]
def mOrd (S b:Int)(rods:List Int):List Int × Int:=plc S b rods (rods.length+1) [] ([],-1)
end Go.Proofs.YtfpaejlipaainaaGreatDoor
