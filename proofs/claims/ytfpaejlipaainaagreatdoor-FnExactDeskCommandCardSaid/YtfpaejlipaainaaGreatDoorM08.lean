/- Texts that belong together, joined: contracts and plain laws. No statement is proved here. -/
import Derived.Test.YtfpaejlipaainaaGreatDoorM07
set_option maxRecDepth 100000
set_option maxHeartbeats 1000000
namespace Go.Proofs.YtfpaejlipaainaaGreatDoor
open Go.ChangeShapes Go.WideShapes Go.ChangeAt Go.RowKit Go.Deep
theorem Xa {a a':Int}{b b':Bool}(h:a=a')(h':b=b'):Ending.returned (.tuple #[.int .i64 a,.bool b]) = .returned (.tuple #[.int .i64 a',.bool b']):=by rw[h,h']
def bareB (s:ByteArray):ByteArray:=⟨(Jk s.data.toList).toArray⟩
theorem ZM (s:ByteArray):s.data.toList.length=s.size:=by rw[Array.length_toList];rfl
theorem Vr (s:ByteArray):(bareB s).size=(Jk s.data.toList).length:=List.size_toArray ..
theorem J8 (s:ByteArray):(bareB s).data.toList=Jk s.data.toList:=rfl
theorem Ww (s:ByteArray)(k:Nat)(h:k<s.size):s.data.toList[k]?=some s[k]:=by
 rw[List.getElem?_eq_getElem (by rw[ZM];exact h)];rfl
theorem U8 {s:ByteArray}(h:(bareB s).size<1\/18<(bareB s).size):rdNum s.data.toList=0/\Yt s.data.toList=false:=by
 have hk:Yt s.data.toList=false:=by
  unfold Yt;rw[Vr] at h;rcases h with h|h
  ·rw[decide_eq_false (by omega)];rfl
  ·rw[decide_eq_false (p:=(Jk s.data.toList).length<=18) (by omega)];simp
 exact⟨by unfold rdNum;rw[hk];rfl,hk⟩
theorem Zgp {s:ByteArray}{k:Nat}(hk:k<(bareB s).size)(h:YV (bareB s)[k]=false):rdNum s.data.toList=0/\Yt s.data.toList=false:=by
 have hx:=Ww (bareB s) k hk;rw[J8] at hx;have hk:Yt s.data.toList=false:=by
  unfold Yt;rw[Xl hx h];simp
 exact⟨by unfold rdNum;rw[hk];rfl,hk⟩
def Up (s:ByteArray):Int:=if (bareB s).size<s.size then -(valOf (bareB s).data.toList:Int) else valOf (bareB s).data.toList
theorem UM (s:ByteArray):Up s=Xm s.data.toList:=by
 unfold Up Xm;rw[Vr,←ZM];rfl
theorem ZcB {s:ByteArray}(h1:1<=(bareB s).size)(h2:(bareB s).size<=18)(ha:(bareB s).data.toList.all YV=true) :
  (decB (Up s)=s→rdNum s.data.toList=Up s/\Yt s.data.toList=true)/\(¬decB (Up s)=s→rdNum s.data.toList=0/\Yt s.data.toList=false):=by
 have hk:Yt s.data.toList=decide (Lib.itoa (Xm s.data.toList)=s.data.toList):=by
  unfold Yt;rw[Vr] at h1 h2;rw[J8] at ha;rw[decide_eq_true h1,decide_eq_true h2,ha];rfl
 have he:(decB (Up s)=s)↔Lib.itoa (Xm s.data.toList)=s.data.toList:=by
  rw[UM];constructor
  ·intro h;exact congrArg (λx:ByteArray=>x.data.toList) h
  ·intro h;unfold decB;rw[h]
 refine⟨λh=>?_,λh=>?_⟩
 ·have:Yt s.data.toList=true:=by rw[hk];exact decide_eq_true (he.1 h)
  exact⟨by unfold rdNum;rw[this,UM];rfl,this⟩
 ·have:Yt s.data.toList=false:=by rw[hk];exact decide_eq_false (λe=>h (he.2 e))
  exact⟨by unfold rdNum;rw[this];rfl,this⟩
theorem Zan {t:ByteArray}{k:Nat}(hk:k<t.size)(h:(t.data.toList.take k).all YV=true)(hd:YV t[k]=true):(t.data.toList.take (k+1)).all YV=true:=by
 rw[Zo (Ww t k hk),List.all_append,h];simp[hd]
theorem Zam {t:ByteArray}{k:Nat}(hk:k<t.size):valOf (t.data.toList.take (k+1))=10*valOf (t.data.toList.take k)+(t[k].toNat-48):=by
 rw[Zo (Ww t k hk),Jq]
theorem Ul {t:ByteArray}{k:Nat}(hk:k<=t.size)(h2:t.size<=18)(h:(t.data.toList.take k).all YV=true):(k<t.size→valOf (t.data.toList.take k)<100000000000000000)/\valOf (t.data.toList.take k)<1000000000000000000:=by
 have h3:=Zdr _ h;have h4:(t.data.toList.take k).length=k:=by rw[List.length_take,ZM];omega
 rw[h4] at h3;refine⟨λhlt=>Nat.lt_of_lt_of_le h3 ?_,Nat.lt_of_lt_of_le h3 ?_⟩
 ·exact Nat.le_trans (Nat.pow_le_pow_right (by omega) (show k<=17 by omega)) (by decide)
 ·exact Nat.le_trans (Nat.pow_le_pow_right (by omega) (show k<=18 by omega)) (by decide)
theorem ZhN (s:ByteArray)(w:World) :
  Calls Tryz.prog 122 #[.string s,.string ⟨#[45]⟩] w λe w'=>e = .returned (.string (bareB s))/\w=w':=by
 refine(Tryz.strings_TrimPrefix _ _ _).mono ?_;rintro e w' ⟨rfl,rfl⟩;exact⟨by rw[show(⟨#[45]⟩:ByteArray).data.toList=[45] from rfl,UZ];rfl,rfl⟩
theorem ZV (s:ByteArray)(w:World)(hG:Gl w) :
  Calls Tryz.prog 74 #[.string s] w λe w'=>e = .returned (.tuple #[.int .i64 (rdNum s.data.toList),.bool (Yt s.data.toList)])/\Below w.heap.size w w':=by
 have hc:=Za (ZhN s w);have hSh:=Za (U8 (s:=s));have hBa:=Za (λk hk h=>Zgp (s:=s) (k:=k) hk h);have hGo:=Za (λh1 h2 ha=>ZcB (s:=s) h1 h2 ha);have hV:Hid (Up s=if (bareB s).size<s.size then -(valOf (bareB s).data.toList:Int) else valOf (bareB s).data.toList):=Za rfl;obtain⟨t,ht⟩:∃t,t=bareB s:=⟨_,rfl⟩;rw[←ht] at hc hSh hBa hGo hV;have hts:t.size<=s.size:=by rw[ht,Vr];have:=(Zj3 s.data.toList).1;rw[ZM] at this;exact this
 clear ht;have hGh:=Za hG;clear hG;by_cases h1:(t.size:Int)<1
 ·have hE:=Za (hSh.out (.inl (by omega)))
  go_enter Tryz.func74,Tryz.ntmps74;go_wp2_with (go_at_call 122;refine hc.out.mono ?_;rintro e w' ⟨rfl,rfl⟩)
  go_ret2
  exact⟨Xa hE.out.1.symm hE.out.2.symm,Below.refl _ _⟩
 by_cases h2:(18:Int)<t.size
 ·have hE:=Za (hSh.out (.inr (by omega)))
  go_enter Tryz.func74,Tryz.ntmps74;go_wp2_with (go_at_call 122;refine hc.out.mono ?_;rintro e w' ⟨rfl,rfl⟩)
  go_ret2
  exact⟨Xa hE.out.1.symm hE.out.2.symm,Below.refl _ _⟩
 have hs1:1<=t.size:=by omega
 have hs2:t.size<=18:=by omega
 go_enter Tryz.func74,Tryz.ntmps74;go_wp2_with (go_at_call 122;refine hc.out.mono ?_;rintro e w' ⟨rfl,rfl⟩)
 go_loopw [5,6] (λn i wr=>∃k:Nat,k<=t.size/\i = .int .i64 k/\n = .int .i64 (valOf (t.data.toList.take k))/\w=wr/\Hid ((t.data.toList.take k).all YV=true)) (λ_ i _=>t.size-(intOf i).toNat)
 case atStart=>exact⟨0,Nat.zero_le _,rfl,rfl,rfl,Za rfl⟩
 case round =>
  obtain⟨k,hk,rfl,rfl,rfl,hall⟩:=hrel;by_cases hlt:k<t.size
  ·have hx1:=Za (Zam hlt)
   have hx2:=Za (Ul (Nat.le_of_lt hlt) hs2 hall.out);have hb1:valOf (t.data.toList.take k)<100000000000000000:=hx2.out.1 hlt;cases hd:YV t[k]
   ·have hE:=Za (hBa.out k hlt hd)
    have hor:(t[k].toNat:Int)<48\/(57:Int)<t[k].toNat:=by simp[YV] at hd;omega
    clear hd;rcases hor with h3|h3
    ·go_wp2
     go_ret2
     exact⟨Xa hE.out.1.symm hE.out.2.symm,Below.refl _ _⟩
    ·go_wp2
     go_ret2
     exact⟨Xa hE.out.1.symm hE.out.2.symm,Below.refl _ _⟩
   ·have hA2:=Za (Zan hlt hall.out hd)
    have hd1:(48:Int)<=t[k].toNat:=by simp[YV] at hd;omega
    have hd2:(t[k].toNat:Int)<=57:=by simp[YV] at hd;omega
    clear hd;go_wp2
    go_round
    case rel=>exact⟨k+1,by omega,by go_num,by rw[hx1.out];congr 1;omega,trivial,hA2⟩
    case measure=>simp[intOf];omega
  ·have hkn:k=t.size:=by omega
   subst hkn;have hfull:t.data.toList.take t.size=t.data.toList:=List.take_of_length_le (by rw[ZM];omega);have hx2:=Za (Ul (Nat.le_refl _) hs2 hall.out);rw[hfull] at hall hx2 ⊢;clear hfull;have hb2:valOf t.data.toList<1000000000000000000:=hx2.out.2;have hend:=Za (hGo.out hs1 hs2 hall.out);obtain⟨V,hVV⟩:∃V,V=valOf t.data.toList:=⟨_,rfl⟩;rw[←hVV] at hV hb2 ⊢;clear hVV hx2 hall hc hSh hBa hGo;by_cases h3:(t.size:Int)<s.size
   ·have hval:Hid (Up s = -(V:Int)):=Za (by rw[hV.out,if_pos (by omega)])
    by_cases h4:decB (-(V:Int))=s
    ·have hE:=Za (hend.out.1 (by rw[hval.out];exact h4))
     rw[hval.out] at hE;have e1:=XG h4;have e2:((decB (-(V:Int))).toList != s.toList)=false:=by rw[bne,e1];rfl
     clear h4 hV;go_wp2_with (go_at_call 36;refine(YQ _ _ (by omega) (by omega) hGh.out).mono ?_;rintro e w' ⟨rfl,hb⟩)
     go_ret2
     exact⟨Xa hE.out.1.symm hE.out.2.symm,hb⟩
    ·have hE:=Za (hend.out.2 (by rw[hval.out];exact h4))
     have e1:=Xn h4;have e2:((decB (-(V:Int))).toList != s.toList)=true:=by rw[bne,e1];rfl
     clear h4 hV;go_wp2_with (go_at_call 36;refine(YQ _ _ (by omega) (by omega) hGh.out).mono ?_;rintro e w' ⟨rfl,hb⟩)
     go_ret2
     exact⟨Xa hE.out.1.symm hE.out.2.symm,hb⟩
   ·have hval:Hid (Up s=(V:Int)):=Za (by rw[hV.out,if_neg (by omega)])
    by_cases h4:decB (V:Int)=s
    ·have hE:=Za (hend.out.1 (by rw[hval.out];exact h4))
     rw[hval.out] at hE;have e1:=XG h4;have e2:((decB (V:Int)).toList != s.toList)=false:=by rw[bne,e1];rfl
     clear h4 hV;go_wp2_with (go_at_call 36;refine(YQ _ _ (by omega) (by omega) hGh.out).mono ?_;rintro e w' ⟨rfl,hb⟩)
     go_ret2
     exact⟨Xa hE.out.1.symm hE.out.2.symm,hb⟩
    ·have hE:=Za (hend.out.2 (by rw[hval.out];exact h4))
     have e1:=Xn h4;have e2:((decB (V:Int)).toList != s.toList)=true:=by rw[bne,e1];rfl
     clear h4 hV;go_wp2_with (go_at_call 36;refine(YQ _ _ (by omega) (by omega) hGh.out).mono ?_;rintro e w' ⟨rfl,hb⟩)
     go_ret2
     exact⟨Xa hE.out.1.symm hE.out.2.symm,hb⟩
theorem Zdh {s:ByteArray}(h:0<s.size)(h45:s[0].toNat=45):bareB s=s.extract 1 s.size:=by
 unfold bareB;have h0:=Ww s 0 h;have he:(s.extract 1 s.size).data.toList=s.data.toList.drop 1:=Lib.extract_to_end ..;cases hl:s.data.toList with
 | nil=>rw[hl] at h0;cases h0
 | cons c r =>
  rw[hl] at h0 he;have hc:c=s[0]:=by simpa using h0
  have hc2:c=45:=by rw[hc];exact UInt8.toNat_inj.1 h45
  subst hc2;rw[UE];have:(s.extract 1 s.size).data.toList=r:=he;rw[←this]
theorem Zdg {s:ByteArray}(h:0<s.size)(h45:¬s[0].toNat=45):bareB s=s:=by
 unfold bareB;rw[UD,WO];intro r hr;have h0:=Ww s 0 h;rw[hr] at h0;have:(45:UInt8)=s[0]:=by simpa using h0
 exact h45 (by rw[←this];rfl)
theorem Zdi {s:ByteArray}(h:s.size=0):bareB s=s:=by
 unfold bareB;rw[UD,WO];intro r hr;have:=ZM s;rw[hr] at this;simp at this<;>omega
theorem Zel (s:ByteArray)(w:World)(h0:s.size=0) :
  Calls Tryz.prog 141 #[.string s] w λe w'=>e = .returned (.tuple #[.int .i64 (rdNum s.data.toList),.bool (Yt s.data.toList)])/\Below w.heap.size w w':=by
 have hE:=Za (U8 (s:=s) (.inl (by rw[Zdi h0];omega)));have he:=Zbf h0;have he2:s.toList=[]:=by simpa using he
 have hz:(s.size:Int)<1:=by omega
 clear h0;go_enter Tryz.func141,Tryz.ntmps141;go_wp2
 go_ret2
 exact⟨Xa hE.out.1.symm hE.out.2.symm,Below.refl _ _⟩
theorem Zcn (s:ByteArray)(w:World)(hs:s.size<=maxLen)(h0:0<s.size)(h45:¬s[0].toNat=45) :
  Calls Tryz.prog 141 #[.string s] w λe w'=>e = .returned (.tuple #[.int .i64 (rdNum s.data.toList),.bool (Yt s.data.toList)])/\Below w.heap.size w w':=by
 unfold maxLen at hs;have hSh:=Za (U8 (s:=s));have hBa:=Za (λk hk h=>Zgp (s:=s) (k:=k) hk h);have hGo:=Za (λh1 h2 ha=>ZcB (s:=s) h1 h2 ha);have hV:Hid (Up s=if (bareB s).size<s.size then -(valOf (bareB s).data.toList:Int) else valOf (bareB s).data.toList):=Za rfl;have hbs:=Zdg h0 h45;rw[hbs] at hSh hBa hGo hV;clear hbs;have he:=Zar h0;have he2:¬s.toList=[]:=by intro h;rw[h] at he;cases he
 have e45:((s[0].toNat:Int)==45)=false:=by simp;omega
 clear h45;by_cases h1:(s.size:Int)<1
 ·have hE:=Za (hSh.out (.inl (by omega)))
  go_enter Tryz.func141,Tryz.ntmps141;go_wp2
  go_ret2
  exact⟨Xa hE.out.1.symm hE.out.2.symm,Below.refl _ _⟩
 by_cases h2:(18:Int)<s.size
 ·have hE:=Za (hSh.out (.inr (by omega)))
  go_enter Tryz.func141,Tryz.ntmps141;go_wp2
  go_ret2
  exact⟨Xa hE.out.1.symm hE.out.2.symm,Below.refl _ _⟩
 have hs1:1<=s.size:=by omega
 have hs2:s.size<=18:=by omega
 go_enter Tryz.func141,Tryz.ntmps141;go_wp2
 clear he he2 e45;go_loopw [5,6] (λn i wr=>∃k:Nat,k<=s.size/\i = .int .i64 k/\n = .int .i64 (valOf (s.data.toList.take k))/\w=wr/\Hid ((s.data.toList.take k).all YV=true)) (λ_ i _=>s.size-(intOf i).toNat)
 case atStart=>exact⟨0,Nat.zero_le _,rfl,rfl,rfl,Za rfl⟩
 case round =>
  obtain⟨k,hk,rfl,rfl,rfl,hall⟩:=hrel;by_cases hlt:k<s.size
  ·have hx1:=Za (Zam hlt)
   have hx2:=Za (Ul (Nat.le_of_lt hlt) hs2 hall.out);have hb1:valOf (s.data.toList.take k)<100000000000000000:=hx2.out.1 hlt;cases hd:YV s[k]
   ·have hE:=Za (hBa.out k hlt hd)
    have hdB:inB (s[k].toNat:Int) 48 57=false:=by simp[YV] at hd;simp[inB];omega
    clear hd;go_wp2_with (go_at_call 201;refine(XS _ _).mono ?_;rintro e w' ⟨rfl,rfl⟩)
    go_ret2
    exact⟨Xa hE.out.1.symm hE.out.2.symm,Below.refl _ _⟩
   ·have hA2:=Za (Zan hlt hall.out hd)
    have hd1:(48:Int)<=s[k].toNat:=by simp[YV] at hd;omega
    have hd2:(s[k].toNat:Int)<=57:=by simp[YV] at hd;omega
    have hdB:inB (s[k].toNat:Int) 48 57=true:=by simp[YV] at hd;simp[inB];omega
    clear hd;go_wp2_with (go_at_call 201;refine(XS _ _).mono ?_;rintro e w' ⟨rfl,rfl⟩)
    go_round
    case rel=>exact⟨k+1,by omega,by go_num,by rw[hx1.out];congr 1;omega,trivial,hA2⟩
    case measure=>simp[intOf];omega
  ·have hkn:k=s.size:=by omega
   subst hkn;have hfull:s.data.toList.take s.size=s.data.toList:=List.take_of_length_le (by rw[ZM];omega);have hx2:=Za (Ul (Nat.le_refl _) hs2 hall.out);rw[hfull] at hall hx2 ⊢;clear hfull;have hb2:valOf s.data.toList<1000000000000000000:=hx2.out.2;have hend:=Za (hGo.out hs1 hs2 hall.out);obtain⟨V,hVV⟩:∃V,V=valOf s.data.toList:=⟨_,rfl⟩;rw[←hVV] at hV hb2 ⊢;clear hVV hx2 hall hSh hBa hGo;have hval:Hid (Up s=(V:Int)):=Za (by rw[hV.out,if_neg (by omega)]);by_cases h4:decB ((V:Int))=s
   ·have hE:=Za (hend.out.1 (by rw[hval.out];exact h4))
    rw[hval.out] at hE;have e1:=XG h4;have e2:((decB ((V:Int))).toList != s.toList)=false:=by rw[bne,e1];rfl
    clear h4 hV;go_wp2_with (go_at_call 148;refine(Yw _ _ (by omega) (by omega)).mono ?_;rintro e w' ⟨rfl,hb⟩)
    go_ret2
    exact⟨Xa hE.out.1.symm hE.out.2.symm,hb⟩
   ·have hE:=Za (hend.out.2 (by rw[hval.out];exact h4))
    have e1:=Xn h4;have e2:((decB ((V:Int))).toList != s.toList)=true:=by rw[bne,e1];rfl
    clear h4 hV;go_wp2_with (go_at_call 148;refine(Yw _ _ (by omega) (by omega)).mono ?_;rintro e w' ⟨rfl,hb⟩)
    go_ret2
    exact⟨Xa hE.out.1.symm hE.out.2.symm,hb⟩
theorem Zco (s:ByteArray)(w:World)(hs:s.size<=maxLen)(h0:0<s.size)(h45:s[0].toNat=45) :
  Calls Tryz.prog 141 #[.string s] w λe w'=>e = .returned (.tuple #[.int .i64 (rdNum s.data.toList),.bool (Yt s.data.toList)])/\Below w.heap.size w w':=by
 unfold maxLen at hs;have hSh:=Za (U8 (s:=s));have hBa:=Za (λk hk h=>Zgp (s:=s) (k:=k) hk h);have hGo:=Za (λh1 h2 ha=>ZcB (s:=s) h1 h2 ha);have hV:Hid (Up s=if (bareB s).size<s.size then -(valOf (bareB s).data.toList:Int) else valOf (bareB s).data.toList):=Za rfl;have hbs:=Zdh h0 h45;have hts:(bareB s).size<s.size:=by rw[hbs,ByteArray.size_extract];omega
 obtain⟨t,ht⟩:∃t,t=bareB s:=⟨_,rfl⟩;rw[←ht] at hSh hBa hGo hV hts hbs;have hxt:s.extract 1 s.size=t:=hbs.symm;clear hbs ht;have he:=Zar h0;have he2:¬s.toList=[]:=by intro h;rw[h] at he;cases he
 have e45:((s[0].toNat:Int)==45)=true:=by simp;omega
 clear h45;by_cases h1:(t.size:Int)<1
 ·have hE:=Za (hSh.out (.inl (by omega)))
  go_enter Tryz.func141,Tryz.ntmps141;go_wp2
  go_ret2
  exact⟨Xa hE.out.1.symm hE.out.2.symm,Below.refl _ _⟩
 by_cases h2:(18:Int)<t.size
 ·have hE:=Za (hSh.out (.inr (by omega)))
  go_enter Tryz.func141,Tryz.ntmps141;go_wp2
  go_ret2
  exact⟨Xa hE.out.1.symm hE.out.2.symm,Below.refl _ _⟩
 have hs1:1<=t.size:=by omega
 have hs2:t.size<=18:=by omega
 go_enter Tryz.func141,Tryz.ntmps141;go_wp2
 clear he he2 e45 hxt;go_loopw [5,6] (λn i wr=>∃k:Nat,k<=t.size/\i = .int .i64 k/\n = .int .i64 (valOf (t.data.toList.take k))/\w=wr/\Hid ((t.data.toList.take k).all YV=true)) (λ_ i _=>t.size-(intOf i).toNat)
 case atStart=>exact⟨0,Nat.zero_le _,rfl,rfl,rfl,Za rfl⟩
 case round =>
  obtain⟨k,hk,rfl,rfl,rfl,hall⟩:=hrel;by_cases hlt:k<t.size
  ·have hx1:=Za (Zam hlt)
   have hx2:=Za (Ul (Nat.le_of_lt hlt) hs2 hall.out);have hb1:valOf (t.data.toList.take k)<100000000000000000:=hx2.out.1 hlt;cases hd:YV t[k]
   ·have hE:=Za (hBa.out k hlt hd)
    have hdB:inB (t[k].toNat:Int) 48 57=false:=by simp[YV] at hd;simp[inB];omega
    clear hd;go_wp2_with (go_at_call 201;refine(XS _ _).mono ?_;rintro e w' ⟨rfl,rfl⟩)
    go_ret2
    exact⟨Xa hE.out.1.symm hE.out.2.symm,Below.refl _ _⟩
   ·have hA2:=Za (Zan hlt hall.out hd)
    have hd1:(48:Int)<=t[k].toNat:=by simp[YV] at hd;omega
    have hd2:(t[k].toNat:Int)<=57:=by simp[YV] at hd;omega
    have hdB:inB (t[k].toNat:Int) 48 57=true:=by simp[YV] at hd;simp[inB];omega
    clear hd;go_wp2_with (go_at_call 201;refine(XS _ _).mono ?_;rintro e w' ⟨rfl,rfl⟩)
    go_round
    case rel=>exact⟨k+1,by omega,by go_num,by rw[hx1.out];congr 1;omega,trivial,hA2⟩
    case measure=>simp[intOf];omega
  ·have hkn:k=t.size:=by omega
   subst hkn;have hfull:t.data.toList.take t.size=t.data.toList:=List.take_of_length_le (by rw[ZM];omega);have hx2:=Za (Ul (Nat.le_refl _) hs2 hall.out);rw[hfull] at hall hx2 ⊢;clear hfull;have hb2:valOf t.data.toList<1000000000000000000:=hx2.out.2;have hend:=Za (hGo.out hs1 hs2 hall.out);obtain⟨V,hVV⟩:∃V,V=valOf t.data.toList:=⟨_,rfl⟩;rw[←hVV] at hV hb2 ⊢;clear hVV hx2 hall hSh hBa hGo;have h3:(t.size:Int)<s.size:=by omega
   have hval:Hid (Up s = -(V:Int)):=Za (by rw[hV.out,if_pos (by omega)]);by_cases h4:decB (-(V:Int))=s
   ·have hE:=Za (hend.out.1 (by rw[hval.out];exact h4))
    rw[hval.out] at hE;have e1:=XG h4;have e2:((decB (-(V:Int))).toList != s.toList)=false:=by rw[bne,e1];rfl
    clear h4 hV;go_wp2_with (go_at_call 148;refine(Yw _ _ (by omega) (by omega)).mono ?_;rintro e w' ⟨rfl,hb⟩)
    go_ret2
    exact⟨Xa hE.out.1.symm hE.out.2.symm,hb⟩
   ·have hE:=Za (hend.out.2 (by rw[hval.out];exact h4))
    have e1:=Xn h4;have e2:((decB (-(V:Int))).toList != s.toList)=true:=by rw[bne,e1];rfl
    clear h4 hV;go_wp2_with (go_at_call 148;refine(Yw _ _ (by omega) (by omega)).mono ?_;rintro e w' ⟨rfl,hb⟩)
    go_ret2
    exact⟨Xa hE.out.1.symm hE.out.2.symm,hb⟩
theorem ZN (s:ByteArray)(w:World)(hs:s.size<=maxLen) :
  Calls Tryz.prog 141 #[.string s] w λe w'=>e = .returned (.tuple #[.int .i64 (rdNum s.data.toList),.bool (Yt s.data.toList)])/\Below w.heap.size w w':=by
 rcases Nat.eq_zero_or_pos s.size with h|h
 ·exact Zel s w h
 ·by_cases h45:s[0].toNat=45
  ·exact Zco s w hs h h45
  ·exact Zcn s w hs h h45
theorem Zg {w w':World}{p:Addr}{u:Value}(hb:Below w.heap.size w w')(hp:p.block<w.heap.size)(d:w.cell? p=some u):w'.cell? p=some u:=(hb.cell hp).trans d
theorem Entry.ok_iff {x:Entry}:x.ok=true↔(0<=x.fDay/\x.fDay<=100000)/\ZU x.fWhat=true/\(-1000000<=x.fValue/\x.fValue<=1000000):=by
 simp[Entry.ok,Zj,and_assoc]
theorem ZP (c:UInt8):(⟨#[c]⟩:ByteArray).size=1:=rfl
theorem Zr (a b:ByteArray)(h:a.size+b.size<=9223372036854775807):∀W:World,(Op.stringOp .add a b).run Tryz.prog W = .ok (.string (a++b)) W:=λW=>run_string_add_sum W a b h
theorem XK {s:ByteArray}(h:ZU s=true):s.size<=12:=by
 simp[ZU] at h;exact h.1.2
def entB (x:Entry):ByteArray:=decB x.fDay++⟨#[32]⟩++x.fWhat++⟨#[32]⟩++decB x.fValue
theorem Xe {x:Entry}(hk:x.ok=true):(entB x).size<=1048576:=by
 obtain⟨⟨b1,b2⟩,hn,b3,b4⟩:=Entry.ok_iff.1 hk;have s1:=Zv x.fDay (by omega) (by omega);have s2:=XK hn;have s3:=Zv x.fValue (by omega) (by omega);unfold entB;simp only[ByteArray.size_append,ZP];omega
theorem Ux (x:Entry)(w:World)(hk:x.ok=true)(hG:Gl w) :
  Calls Tryz.prog 72 #[.agg #[.int .i64 x.fDay,.string x.fWhat,.int .i64 x.fValue]] w λe w'=>e = .returned (.string (entB x))/\Below w.heap.size w w':=by
 obtain⟨⟨b1,b2⟩,hn,b3,b4⟩:=Entry.ok_iff.1 hk;have s1:=Zv x.fDay (by omega) (by omega);have s2:=XK hn;have s3:=Zv x.fValue (by omega) (by omega);clear hn;have j1:=Zr (decB x.fDay) ⟨#[32]⟩ (by simp only[ZP];omega);have j2:=Zr (decB x.fDay++⟨#[32]⟩) x.fWhat (by simp only[ByteArray.size_append,ZP];omega);have j3:=Zr (decB x.fDay++⟨#[32]⟩++x.fWhat) ⟨#[32]⟩ (by simp only[ByteArray.size_append,ZP];omega);have j4:=Zr (decB x.fDay++⟨#[32]⟩++x.fWhat++⟨#[32]⟩) (decB x.fValue) (by simp only[ByteArray.size_append,ZP];omega);have hGh:=Za hG;clear hG hk;have k0:(w.alloc (.cells #[.int .i64 x.fDay,.string x.fWhat,.int .i64 x.fValue] 116)).cell? ⟨w.heap.size,0,none⟩=some (.int .i64 x.fDay):=by rw[cell_of_row _ _ _ _ _ _ (heap_alloc_new w _)];rfl
 have k1:(w.alloc (.cells #[.int .i64 x.fDay,.string x.fWhat,.int .i64 x.fValue] 116)).cell? ⟨w.heap.size,1,none⟩=some (.string x.fWhat):=by rw[cell_of_row _ _ _ _ _ _ (heap_alloc_new w _)];rfl
 have k2:(w.alloc (.cells #[.int .i64 x.fDay,.string x.fWhat,.int .i64 x.fValue] 116)).cell? ⟨w.heap.size,2,none⟩=some (.int .i64 x.fValue):=by rw[cell_of_row _ _ _ _ _ _ (heap_alloc_new w _)];rfl
 have hB:=Za ((Below.refl w.heap.size w).alloc (Nat.le_refl _) (.cells #[.int .i64 x.fDay,.string x.fWhat,.int .i64 x.fValue] 116));have hz:w.heap.size<(w.alloc (.cells #[.int .i64 x.fDay,.string x.fWhat,.int .i64 x.fValue] 116)).heap.size:=by simp
 go_enter Tryz.func72,Tryz.ntmps72;go_wp2_with fail
 obtain⟨W1,hW1⟩:∃W1,W1=w.alloc (.cells #[.int .i64 x.fDay,.string x.fWhat,.int .i64 x.fValue] 116):=⟨_,rfl⟩;rw[←hW1] at k0 k1 k2 hB hz ⊢;clear hW1;have hd:Below W1.heap.size W1 W1.drew:=Zb (Below.refl _ _) 1;have hC:=Za (Below.refl W1.heap.size W1);replace hC:=Za (Below.up hC.out hd);replace hB:=Za (Below.up hB.out hd);have q0:=Za k0;have q1:=Za k1;have q2:=Za k2;clear hd;go_region_held3 (λw'=>w'.cell? ⟨w.heap.size,0,none⟩=some (.int .i64 x.fDay)/\w'.cell? ⟨w.heap.size,1,none⟩=some (.string x.fWhat)/\w'.cell? ⟨w.heap.size,2,none⟩=some (.int .i64 x.fValue)) (first|go_keep|exact⟨Zg hC.out hz q0.out,Zg hC.out hz q1.out,Zg hC.out hz q2.out⟩)
  (first|(go_at_call 36;refine(YQ _ _ (by omega) (by omega) (hGh.out.below hB.out)).mono ?_;rintro e w2 ⟨rfl,hb⟩;replace hB:=Za (Below.up hB.out hb);replace hC:=Za (Below.up hC.out hb);clear hb)|fail)
 all_goals go_wp2
 all_goals go_ret
 all_goals exact⟨rfl,hB.out⟩
theorem XC (b o:Nat)(x:Entry)(w:World)(hk:x.ok=true)(hlt:b<w.heap.size)(d0:w.cell? ⟨b,o,none⟩=some (.int .i64 x.fDay))(d1:w.cell? ⟨b,o+1,none⟩=some (.string x.fWhat))(d2:w.cell? ⟨b,o+2,none⟩=some (.int .i64 x.fValue)) :
  Calls Tryz.prog 157 #[.pointer (some ⟨b,o,none⟩)] w λe w'=>e = .returned (.string (entB x))/\Below w.heap.size w w':=by
 obtain⟨⟨b1,b2⟩,hn,b3,b4⟩:=Entry.ok_iff.1 hk;have s1:=Zv x.fDay (by omega) (by omega);have s2:=XK hn;have s3:=Zv x.fValue (by omega) (by omega);clear hn hk;have j1:=Zr (decB x.fDay) ⟨#[32]⟩ (by simp only[ZP];omega);have j2:=Zr (decB x.fDay++⟨#[32]⟩) x.fWhat (by simp only[ByteArray.size_append,ZP];omega);have j3:=Zr (decB x.fDay++⟨#[32]⟩++x.fWhat) ⟨#[32]⟩ (by simp only[ByteArray.size_append,ZP];omega);have j4:=Zr (decB x.fDay++⟨#[32]⟩++x.fWhat++⟨#[32]⟩) (decB x.fValue) (by simp only[ByteArray.size_append,ZP];omega);have q0:=Za d0;have q1:=Za d1;have q2:=Za d2;go_enter Tryz.func157,Tryz.ntmps157;go_wp2_with fail
 have hC:=Za (Zb (Below.refl w.heap.size w) 1);go_region_held3 (λw'=>w'.cell? ⟨b,o,none⟩=some (.int .i64 x.fDay)/\w'.cell? ⟨b,o+1,none⟩=some (.string x.fWhat)/\w'.cell? ⟨b,o+2,none⟩=some (.int .i64 x.fValue)) (first|go_keep|exact⟨Zg hC.out hlt q0.out,Zg hC.out hlt q1.out,Zg hC.out hlt q2.out⟩)
  (first|(go_at_call 148;refine(Yw _ _ (by omega) (by omega)).mono ?_;rintro e w2 ⟨rfl,hb⟩;replace hC:=Za (Below.up hC.out hb);clear hb)|fail)
 all_goals go_wp2
 all_goals go_ret
 all_goals exact⟨rfl,hC.out⟩
def stF (sum:Int)(c:UInt8):Int:=(37*sum+(c.toNat:Int))%65519
def stampL (before:Int)(l:List UInt8):Int:=l.foldl stF ((before+29)%65519)
def stampB (before:Int)(s:ByteArray):Int:=stampL before s.data.toList
theorem Zch (before:Int)(l:List UInt8)(c:UInt8):stampL before (l++[c])=(37*stampL before l+(c.toNat:Int))%65519:=by simp[stampL,List.foldl_append,stF]
theorem Zhj (l:List UInt8):∀x:Int,0<=x→x<=65518→0<=l.foldl stF x/\l.foldl stF x<=65518:=by
 induction l with
 | nil=>intro x h1 h2;exact⟨h1,h2⟩
 | cons c l ih=>intro x _ _;exact ih _ (by unfold stF;omega) (by unfold stF;omega)
theorem WL (before:Int)(l:List UInt8):0<=stampL before l/\stampL before l<=65518:=Zhj l _ (by omega) (by omega)
theorem Z3 (before:Int)(s:ByteArray):0<=stampB before s/\stampB before s<=65518:=WL _ _
theorem Jy (before:Int)(s:ByteArray){k:Nat}(h:k<s.size):stampL before (s.data.toList.take (k+1))=(37*stampL before (s.data.toList.take k)+(s[k].toNat:Int))%65519:=by
 rw[Zo (Ww s k h),Zch]
theorem Zbb (before:Int)(s:ByteArray):stampL before (s.data.toList.take s.size)=stampB before s:=by
 rw[List.take_of_length_le (by rw[ZM];exact Nat.le_refl _)];rfl
theorem Va (before:Int)(s:ByteArray)(w:World)(h0:0<=before)(h1:before<=65518)(hs:s.size<=1048576) :
  Calls Tryz.prog 210 #[.int .i64 before,.string s] w λe w'=>e = .returned (.int .i64 (stampB before s))/\w=w':=by
 go_enter Tryz.func210,Tryz.ntmps210;go_wp2
 go_loopw [5,6] (λm i wr=>∃k:Nat,k<=s.size/\i = .int .i64 k/\m = .int .i64 (stampL before (s.data.toList.take k))/\w=wr) (λ_ i _=>s.size-(intOf i).toNat)
 case atStart=>exact⟨0,Nat.zero_le _,rfl,rfl,rfl⟩
 case round =>
  obtain⟨k,hk,rfl,rfl,rfl⟩:=hrel;obtain⟨r1,r2⟩:=WL before (s.data.toList.take k);by_cases hlt:k<s.size
  ·have hS:=Za (Jy before s hlt)
   obtain⟨X,hX⟩:∃X,X=stampL before (s.data.toList.take k):=⟨_,rfl⟩;rw[←hX] at hS r1 r2 ⊢;clear hX;have hu:(s[k].toNat:Int)<=255:=by have:=s[k].toNat_lt;omega
   go_wp2
   go_round
   case rel=>exact⟨k+1,by omega,by go_num,by rw[hS.out],trivial⟩
   case measure=>simp[intOf];omega
  ·have hkn:k=s.size:=by omega
   subst hkn;have hA:=Za (Zbb before s);go_wp2
   go_ret;exact⟨UL hA.out,rfl⟩
theorem JR (before:Int)(x:Entry)(w:World)(h0:0<=before)(h1:before<=65518)(hk:x.ok=true)(hG:Gl w) :
  Calls Tryz.prog 173 #[.int .i64 before,.agg #[.int .i64 x.fDay,.string x.fWhat,.int .i64 x.fValue]] w λe w'=>e = .returned (.int .i64 (stampB before (entB x)))/\Below w.heap.size w w':=by
 have hs:(entB x).size<=1048576:=Xe hk;have hB:=Za ((Below.refl w.heap.size w).alloc (Nat.le_refl _) (.cells #[.int .i64 x.fDay,.string x.fWhat,.int .i64 x.fValue] 116));have hc:=Za (Ux x _ hk (hG.below hB.out));clear hG hk;go_enter Tryz.func173,Tryz.ntmps173;go_wp2_with (go_at_call 72;refine hc.out.mono ?_;rintro e w1 ⟨rfl,hb⟩;replace hB:=Za (Below.up hB.out hb);clear hb hc)
 obtain⟨s,hss⟩:∃s,s=entB x:=⟨_,rfl⟩;rw[←hss] at hs ⊢;have hSS:=Za hss;clear hss;go_loopw [6,15] (λm i wr=>∃k:Nat,k<=s.size/\i = .int .i64 k/\m = .int .i64 (stampL before (s.data.toList.take k))/\w1=wr) (λ_ i _=>s.size-(intOf i).toNat)
 case atStart=>exact⟨0,Nat.zero_le _,rfl,rfl,rfl⟩
 case round =>
  obtain⟨k,hk,rfl,rfl,rfl⟩:=hrel;obtain⟨r1,r2⟩:=WL before (s.data.toList.take k);by_cases hlt:k<s.size
  ·have hS:=Za (Jy before s hlt)
   obtain⟨X,hX⟩:∃X,X=stampL before (s.data.toList.take k):=⟨_,rfl⟩;rw[←hX] at hS r1 r2 ⊢;clear hX;have hu:(s[k].toNat:Int)<=255:=by have:=s[k].toNat_lt;omega
   go_wp2
   go_round
   case rel=>exact⟨k+1,by omega,by go_num,by rw[hS.out],trivial⟩
   case measure=>simp[intOf];omega
  ·have hkn:k=s.size:=by omega
   subst hkn;have hA:=Za (Zbb before s);go_wp2
   go_ret;exact⟨UL (by rw[←hSS.out];exact hA.out),hB.out⟩
def YP (st:Int)(x:Entry):ByteArray:=entB x++⟨#[32]⟩++decB st++⟨#[10]⟩
theorem Vh {st:Int}{x:Entry}(h0:0<=st)(h1:st<=65518)(hk:x.ok=true):(YP st x).size<=2000000:=by
 have s1:=Zv st (by omega) (by omega);have s2:=Xe hk;unfold YP;simp only[ByteArray.size_append,ZP];omega
theorem Wb (before:Int)(x:Entry)(w:World)(h0:0<=before)(h1:before<=65518)(hk:x.ok=true)(hG:Gl w) :
  Calls Tryz.prog 125 #[.int .i64 before,.agg #[.int .i64 x.fDay,.string x.fWhat,.int .i64 x.fValue]] w λe w'=>e = .returned (.string (YP (stampB before (entB x)) x))/\Below w.heap.size w w':=by
 obtain⟨r1,r2⟩:=Z3 before (entB x);have s1:=Xe hk;have hst:=Za (rfl:stampB before (entB x)=_);have hi:=λW hg=>Za (JR before x W h0 h1 hk hg)
 have hw:=λW hg=>Za (Ux x W hk hg)
 have hI:=Za hi;have hW:=Za hw;clear hi hw hst;obtain⟨st,hs0⟩:∃st,st=stampB before (entB x):=⟨_,rfl⟩;rw[←hs0] at r1 r2 hI ⊢;clear hs0;have s2:=Zv st (by omega) (by omega);obtain⟨E,hE⟩:∃E,E=entB x:=⟨_,rfl⟩;unfold YP;rw[←hE] at s1 hW ⊢;clear hE hk;have j1:=Zr E ⟨#[32]⟩ (by simp only[ZP];omega);have j2:=Zr (E++⟨#[32]⟩) (decB st) (by simp only[ByteArray.size_append,ZP];omega);have j3:=Zr (E++⟨#[32]⟩++decB st) ⟨#[10]⟩ (by simp only[ByteArray.size_append,ZP];omega);have hGh:=Za hG;clear hG;have k0:(w.alloc (.cells #[.int .i64 x.fDay,.string x.fWhat,.int .i64 x.fValue] 116)).cell? ⟨w.heap.size,0,none⟩=some (.int .i64 x.fDay):=by rw[cell_of_row _ _ _ _ _ _ (heap_alloc_new w _)];rfl
 have k1:(w.alloc (.cells #[.int .i64 x.fDay,.string x.fWhat,.int .i64 x.fValue] 116)).cell? ⟨w.heap.size,1,none⟩=some (.string x.fWhat):=by rw[cell_of_row _ _ _ _ _ _ (heap_alloc_new w _)];rfl
 have k2:(w.alloc (.cells #[.int .i64 x.fDay,.string x.fWhat,.int .i64 x.fValue] 116)).cell? ⟨w.heap.size,2,none⟩=some (.int .i64 x.fValue):=by rw[cell_of_row _ _ _ _ _ _ (heap_alloc_new w _)];rfl
 have hB:=Za ((Below.refl w.heap.size w).alloc (Nat.le_refl _) (.cells #[.int .i64 x.fDay,.string x.fWhat,.int .i64 x.fValue] 116));have hz:w.heap.size<(w.alloc (.cells #[.int .i64 x.fDay,.string x.fWhat,.int .i64 x.fValue] 116)).heap.size:=by simp
 go_enter Tryz.func125,Tryz.ntmps125;go_wp2_with fail
 obtain⟨W1,hW1⟩:∃W1,W1=w.alloc (.cells #[.int .i64 x.fDay,.string x.fWhat,.int .i64 x.fValue] 116):=⟨_,rfl⟩;rw[←hW1] at k0 k1 k2 hB hz ⊢;clear hW1;have hd:Below W1.heap.size W1 W1.drew:=Zb (Below.refl _ _) 1;have hC:=Za (Below.refl W1.heap.size W1);replace hC:=Za (Below.up hC.out hd);replace hB:=Za (Below.up hB.out hd);have q0:=Za k0;have q1:=Za k1;have q2:=Za k2;clear hd;go_region_held3 (λw'=>w'.cell? ⟨w.heap.size,0,none⟩=some (.int .i64 x.fDay)/\w'.cell? ⟨w.heap.size,1,none⟩=some (.string x.fWhat)/\w'.cell? ⟨w.heap.size,2,none⟩=some (.int .i64 x.fValue)) (first|go_keep|exact⟨Zg hC.out hz q0.out,Zg hC.out hz q1.out,Zg hC.out hz q2.out⟩)
  (first|(go_at_call 72;refine(hW.out _ (hGh.out.below hB.out)).out.mono ?_;rintro e w2 ⟨rfl,hb⟩;replace hB:=Za (Below.up hB.out hb);replace hC:=Za (Below.up hC.out hb);clear hb)|(go_at_call 173;refine(hI.out _ (hGh.out.below hB.out)).out.mono ?_;rintro e w2 ⟨rfl,hb⟩;replace hB:=Za (Below.up hB.out hb);replace hC:=Za (Below.up hC.out hb);clear hb)|(go_at_call 36;refine(YQ _ _ (by omega) (by omega) (hGh.out.below hB.out)).mono ?_;rintro e w2 ⟨rfl,hb⟩;replace hB:=Za (Below.up hB.out hb);replace hC:=Za (Below.up hC.out hb);clear hb)|fail)
 all_goals go_wp2
 all_goals go_ret
 all_goals exact⟨rfl,hB.out⟩
theorem VZ (st:Int)(b o:Nat)(x:Entry)(w:World)(r1:0<=st)(r2:st<=65518)(hk:x.ok=true)(hlt:b<w.heap.size)(d0:w.cell? ⟨b,o,none⟩=some (.int .i64 x.fDay))(d1:w.cell? ⟨b,o+1,none⟩=some (.string x.fWhat))(d2:w.cell? ⟨b,o+2,none⟩=some (.int .i64 x.fValue)) :
  Calls Tryz.prog 209 #[.int .i64 st,.pointer (some ⟨b,o,none⟩)] w λe w'=>e = .returned (.string (YP st x))/\Below w.heap.size w w':=by
 have s1:=Xe hk;have hw:=Za (XC b o x w hk hlt d0 d1 d2);have s2:=Zv st (by omega) (by omega);obtain⟨E,hE⟩:∃E,E=entB x:=⟨_,rfl⟩;unfold YP;rw[←hE] at s1 hw ⊢;clear hE hk d0 d1 d2;have j1:=Zr E ⟨#[32]⟩ (by simp only[ZP];omega);have j2:=Zr (E++⟨#[32]⟩) (decB st) (by simp only[ByteArray.size_append,ZP];omega);have j3:=Zr (E++⟨#[32]⟩++decB st) ⟨#[10]⟩ (by simp only[ByteArray.size_append,ZP];omega);go_enter Tryz.func209,Tryz.ntmps209;go_wp2_with (first|(go_at_call 157;refine hw.out.mono ?_;rintro e w2 ⟨rfl,hb⟩;have hB:=Za hb;clear hb)|(go_at_call 148;refine(Yw _ _ (by omega) (by omega)).mono ?_;rintro e w3 ⟨rfl,hb⟩;have hB2:=Za (Below.up hB.out hb);clear hb))
 go_ret;exact⟨rfl,hB2.out⟩
end Go.Proofs.YtfpaejlipaainaaGreatDoor
