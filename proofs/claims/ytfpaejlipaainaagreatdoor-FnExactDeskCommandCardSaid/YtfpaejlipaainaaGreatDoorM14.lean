/- Texts that belong together, joined: contracts and plain laws. No statement is proved here. -/
import Derived.Test.YtfpaejlipaainaaGreatDoorM13
import Derived.Lib.Bytealg
set_option maxRecDepth 100000
set_option maxHeartbeats 1000000
namespace Go.Proofs.YtfpaejlipaainaaGreatDoor
open Go.ChangeShapes Go.WideShapes Go.ChangeAt Go.RowKit Go.Deep
def Zae (s:ByteArray)(x:Entry):ByteArray:=s++YP (stampB (lastSt s) (entB x)) x
def mAdd (s:ByteArray)(x:Entry):ByteArray × Int :=
 if ZI s≠0 then (⟨#[]⟩,ZI s) else if x.ok=false then (⟨#[]⟩,7) else if x.fDay<lastDay (ents s) then (⟨#[]⟩,6) else if 4000<(Zae s x).size then (⟨#[]⟩,5) else (Zae s x,0)
theorem ZaW {s:ByteArray}{x:Entry}(h:¬ZI s=0):mAdd s x=(⟨#[]⟩,ZI s):=by unfold mAdd;rw[if_pos h]
theorem ZaX {s:ByteArray}{x:Entry}(h:ZI s=0)(hk:x.ok=false):mAdd s x=(⟨#[]⟩,7):=by unfold mAdd;rw[if_neg (by simp[h]),if_pos hk]
theorem Qj {s:ByteArray}{x:Entry}(h:ZI s=0)(hk:x.ok=true)(hd:x.fDay<lastDay (ents s)):mAdd s x=(⟨#[]⟩,6):=by unfold mAdd;rw[if_neg (by simp[h]),if_neg (by simp[hk]),if_pos hd]
theorem Ql {s:ByteArray}{x:Entry}(h:ZI s=0)(hk:x.ok=true)(hd:¬x.fDay<lastDay (ents s))(hf:4000<(Zae s x).size):mAdd s x=(⟨#[]⟩,5):=by unfold mAdd;rw[if_neg (by simp[h]),if_neg (by simp[hk]),if_neg hd,if_pos hf]
theorem Qk {s:ByteArray}{x:Entry}(h:ZI s=0)(hk:x.ok=true)(hd:¬x.fDay<lastDay (ents s))(hf:¬4000<(Zae s x).size):mAdd s x=(Zae s x,0):=by unfold mAdd;rw[if_neg (by simp[h]),if_neg (by simp[hk]),if_neg hd,if_neg hf]
theorem ZiB (s:ByteArray)(x:Entry)(w:World)(hx:x.fits)(hG:Gl w) :
  Calls Tryz.prog 76 #[.string s,.agg #[.int .i64 x.fDay,.string x.fWhat,.int .i64 x.fValue]] w λe w'=>e = .returned (.tuple #[.string (mAdd s x).1,.int .i64 (mAdd s x).2])/\Below w.heap.size w w':=by
 have hGh:=Za hG;clear hG;have k0:(w.alloc (.cells #[.int .i64 x.fDay,.string x.fWhat,.int .i64 x.fValue] 116)).cell? ⟨w.heap.size,0,none⟩=some (.int .i64 x.fDay):=by rw[cell_of_row _ _ _ _ _ _ (heap_alloc_new w _)];rfl
 have k1:(w.alloc (.cells #[.int .i64 x.fDay,.string x.fWhat,.int .i64 x.fValue] 116)).cell? ⟨w.heap.size,1,none⟩=some (.string x.fWhat):=by rw[cell_of_row _ _ _ _ _ _ (heap_alloc_new w _)];rfl
 have k2:(w.alloc (.cells #[.int .i64 x.fDay,.string x.fWhat,.int .i64 x.fValue] 116)).cell? ⟨w.heap.size,2,none⟩=some (.int .i64 x.fValue):=by rw[cell_of_row _ _ _ _ _ _ (heap_alloc_new w _)];rfl
 have hB:=Za ((Below.refl w.heap.size w).alloc (Nat.le_refl _) (.cells #[.int .i64 x.fDay,.string x.fWhat,.int .i64 x.fValue] 116));have hz:w.heap.size<(w.alloc (.cells #[.int .i64 x.fDay,.string x.fWhat,.int .i64 x.fValue] 116)).heap.size:=by simp
 have hc:=Za (Xd s _ (hGh.out.below hB.out));have q0:=Za k0;have q1:=Za k1;have q2:=Za k2;clear k0 k1 k2;by_cases h:ZI s=0
 case neg =>
  have hm:=Za (ZaW (x:=x) h);have e1:(ZI s != 0)=true:=bne_iff_ne.2 h;clear h;go_enter Tryz.func76,Tryz.ntmps76;go_wp2_with fail
  refine hc.out.mono ?_;rintro e w1 ⟨rfl,hb⟩;replace hB:=Za (Below.up hB.out hb);clear hb;go_wp2
  go_ret2
  exact⟨by rw[hm.out];rfl,hB.out⟩
 have hsz:=Xi h;have hlen:=WA h;rw[h] at hc;cases hk:x.ok
 case false =>
  have hm:=Za (ZaX h hk);clear h;go_enter Tryz.func76,Tryz.ntmps76;go_wp2_with fail
  refine hc.out.mono ?_;rintro e w1 ⟨rfl,hb⟩;have hD:=Za hb;replace hB:=Za (Below.up hB.out hb);clear hb;go_wp2_with fail
  refine(XN s _ hsz (hGh.out.below hB.out)).mono ?_;rintro e w2 ⟨vE,rfl,hoE,hb⟩;have hE:=Za (hoE.less hB.out.size);replace hB:=Za (Below.up hB.out hb);replace hD:=Za (Below.up hD.out hb);obtain⟨AE,cE,rfl,_⟩:=hoE.slice;clear hb hoE;have k0:=Zg hD.out hz q0.out;have k1:=Zg hD.out hz q1.out;have k2:=Zg hD.out hz q2.out;go_wp2_with fail
  refine(Wc x _ hx).mono ?_;rintro e w3 ⟨rfl,hb⟩;replace hE:=Za (hE.out.below hb);replace hB:=Za (Below.up hB.out hb);replace hD:=Za (Below.up hD.out hb);clear hb k0 k1 k2;go_wp2
  go_ret2
  exact⟨by rw[hm.out];rfl,hB.out⟩
 obtain⟨⟨b1,b2⟩,_,b3,b4⟩:=Entry.ok_iff.1 hk;obtain⟨_,_,_,t0,t1⟩:=XL s;by_cases hdd:x.fDay<lastDay (ents s)
 case pos =>
  have hm:=Za (Qj h hk hdd);clear h;go_enter Tryz.func76,Tryz.ntmps76;go_wp2_with fail
  refine hc.out.mono ?_;rintro e w1 ⟨rfl,hb⟩;have hD:=Za hb;replace hB:=Za (Below.up hB.out hb);clear hb;go_wp2_with fail
  refine(XN s _ hsz (hGh.out.below hB.out)).mono ?_;rintro e w2 ⟨vE,rfl,hoE,hb⟩;have hE:=Za (hoE.less hB.out.size);replace hB:=Za (Below.up hB.out hb);replace hD:=Za (Below.up hD.out hb);obtain⟨AE,cE,rfl,_⟩:=hoE.slice;clear hb hoE;have k0:=Zg hD.out hz q0.out;have k1:=Zg hD.out hz q1.out;have k2:=Zg hD.out hz q2.out;go_wp2_with fail
  refine(Wc x _ hx).mono ?_;rintro e w3 ⟨rfl,hb⟩;replace hE:=Za (hE.out.below hb);replace hB:=Za (Below.up hB.out hb);replace hD:=Za (Below.up hD.out hb);clear hb k0 k1 k2;unfold ents at hlen hdd;obtain⟨L,hL⟩:∃L,L=(rdLog s).1:=⟨_,rfl⟩;rw[←hL] at hE hlen hdd ⊢;obtain⟨n,hn⟩:∃n,n=L.length:=⟨_,rfl⟩;rw[←hn] at hE hlen ⊢;have hLh:=Za hL;have hnh:=Za hn;clear hL hn;have k0:=Zg hD.out hz q0.out;have k1:=Zg hD.out hz q1.out;have k2:=Zg hD.out hz q2.out;rcases Nat.eq_zero_or_pos n with hn0|hn0
  ·subst hn0
   have hz0:lastDay L=0:=by rw[List.eq_nil_of_length_eq_zero hnh.out.symm];rfl
   exfalso;omega
  ·obtain⟨bb,o,y,rfl,_,hy,d0,d1,d2⟩:=(hE.out.arr Entry.len).Entry (k:=n-1) (by omega)
   have hld:=Za (Vi hy (by rw[←hnh.out];omega));rw[hld.out] at hdd;have g0:decide ((0:Int)<(n:Int))=true:=decide_eq_true (by omega);have hi0:(0:Int)<=(n:Int)-1:=by omega
   have hi1:(n:Int)-1<(n:Int):=by omega
   have hw:IntKind.i64.wrap ((n:Int)-1)=(n:Int)-1:=IntWalk.i64_in _ (by omega);have hi2:((n:Int)-1).toNat=n-1:=by omega
   have hi3:(1:Int)<=(n:Int):=by omega
   have hdd2:decide (x.fDay<y.fDay)=true:=decide_eq_true hdd;clear hy;go_wp2_with fail
   go_quiet (fail)
   clear hw hi2;go_wp2
   go_ret2
   exact⟨by rw[hm.out];rfl,Zb hB.out _⟩
 by_cases hf:4000<(Zae s x).size
 case pos =>
  have hm:=Za (Ql h hk hdd hf);have hkk:=hk;obtain⟨r1,r2⟩:=Z3 (lastSt s) (entB x);have hls:=Vh r1 r2 hk;have j1:=Zr s (YP (stampB (lastSt s) (entB x)) x) (by omega);unfold Zae at hf hm;rw[ByteArray.size_append] at hf;have hf1:((4000:Int)<(s.size:Int)+((YP (stampB (lastSt s) (entB x)) x).size:Int)):=by omega
  have hf2:((4000:Int)<((s++YP (stampB (lastSt s) (entB x)) x).size:Int)):=by rw[ByteArray.size_append];omega
  clear h hk hls hf;go_enter Tryz.func76,Tryz.ntmps76;go_wp2_with fail
  refine hc.out.mono ?_;rintro e w1 ⟨rfl,hb⟩;have hD:=Za hb;replace hB:=Za (Below.up hB.out hb);clear hb;go_wp2_with fail
  refine(XN s _ hsz (hGh.out.below hB.out)).mono ?_;rintro e w2 ⟨vE,rfl,hoE,hb⟩;have hE:=Za (hoE.less hB.out.size);replace hB:=Za (Below.up hB.out hb);replace hD:=Za (Below.up hD.out hb);obtain⟨AE,cE,rfl,_⟩:=hoE.slice;clear hb hoE;have k0:=Zg hD.out hz q0.out;have k1:=Zg hD.out hz q1.out;have k2:=Zg hD.out hz q2.out;go_wp2_with fail
  refine(Wc x _ hx).mono ?_;rintro e w3 ⟨rfl,hb⟩;replace hE:=Za (hE.out.below hb);replace hB:=Za (Below.up hB.out hb);replace hD:=Za (Below.up hD.out hb);clear hb k0 k1 k2;unfold ents at hlen hdd;obtain⟨L,hL⟩:∃L,L=(rdLog s).1:=⟨_,rfl⟩;rw[←hL] at hE hlen hdd ⊢;obtain⟨n,hn⟩:∃n,n=L.length:=⟨_,rfl⟩;rw[←hn] at hE hlen ⊢;have hLh:=Za hL;have hnh:=Za hn;clear hL hn;have k0:=Zg hD.out hz q0.out;have k1:=Zg hD.out hz q1.out;have k2:=Zg hD.out hz q2.out;rcases Nat.eq_zero_or_pos n with hn0|hn0
  ·subst hn0
   have hz0:lastDay L=0:=by rw[List.eq_nil_of_length_eq_zero hnh.out.symm];rfl
   clear hz0;go_wp2_with fail
   go_quiet (fail)
   have hkh:=Za hkk;go_wp2_with fail
   refine(Wb (lastSt s) x _ t0 t1 hkh.out (by exact hGh.out.below (Zb hB.out _))).mono ?_;rintro e w4 ⟨rfl,hb⟩;have hB4:=Za (Below.up (Zb hB.out _) hb);clear hb;go_wp2
   go_ret2
   exact⟨by rw[hm.out];rfl,hB4.out⟩
  ·obtain⟨bb,o,y,rfl,_,hy,d0,d1,d2⟩:=(hE.out.arr Entry.len).Entry (k:=n-1) (by omega)
   have hld:=Za (Vi hy (by rw[←hnh.out];omega));rw[hld.out] at hdd;have g0:decide ((0:Int)<(n:Int))=true:=decide_eq_true (by omega);have hi0:(0:Int)<=(n:Int)-1:=by omega
   have hi1:(n:Int)-1<(n:Int):=by omega
   have hw:IntKind.i64.wrap ((n:Int)-1)=(n:Int)-1:=IntWalk.i64_in _ (by omega);have hi2:((n:Int)-1).toNat=n-1:=by omega
   have hi3:(1:Int)<=(n:Int):=by omega
   have hdd2:decide (x.fDay<y.fDay)=false:=decide_eq_false (by omega);clear hy;go_wp2_with fail
   go_quiet (fail)
   clear hw hi2;have hkh:=Za hkk;go_wp2_with fail
   refine(Wb (lastSt s) x _ t0 t1 hkh.out (by exact hGh.out.below (Zb hB.out _))).mono ?_;rintro e w4 ⟨rfl,hb⟩;have hB4:=Za (Below.up (Zb hB.out _) hb);clear hb;go_wp2
   go_ret2
   exact⟨by rw[hm.out];rfl,hB4.out⟩
 case neg =>
  have hm:=Za (Qk h hk hdd hf);have hkk:=hk;obtain⟨r1,r2⟩:=Z3 (lastSt s) (entB x);have hls:=Vh r1 r2 hk;have j1:=Zr s (YP (stampB (lastSt s) (entB x)) x) (by omega);unfold Zae at hf hm;rw[ByteArray.size_append] at hf;have hf1:¬((4000:Int)<(s.size:Int)+((YP (stampB (lastSt s) (entB x)) x).size:Int)):=by omega
  have hf2:¬((4000:Int)<((s++YP (stampB (lastSt s) (entB x)) x).size:Int)):=by rw[ByteArray.size_append];omega
  clear h hk hls hf;go_enter Tryz.func76,Tryz.ntmps76;go_wp2_with fail
  refine hc.out.mono ?_;rintro e w1 ⟨rfl,hb⟩;have hD:=Za hb;replace hB:=Za (Below.up hB.out hb);clear hb;go_wp2_with fail
  refine(XN s _ hsz (hGh.out.below hB.out)).mono ?_;rintro e w2 ⟨vE,rfl,hoE,hb⟩;have hE:=Za (hoE.less hB.out.size);replace hB:=Za (Below.up hB.out hb);replace hD:=Za (Below.up hD.out hb);obtain⟨AE,cE,rfl,_⟩:=hoE.slice;clear hb hoE;have k0:=Zg hD.out hz q0.out;have k1:=Zg hD.out hz q1.out;have k2:=Zg hD.out hz q2.out;go_wp2_with fail
  refine(Wc x _ hx).mono ?_;rintro e w3 ⟨rfl,hb⟩;replace hE:=Za (hE.out.below hb);replace hB:=Za (Below.up hB.out hb);replace hD:=Za (Below.up hD.out hb);clear hb k0 k1 k2;unfold ents at hlen hdd;obtain⟨L,hL⟩:∃L,L=(rdLog s).1:=⟨_,rfl⟩;rw[←hL] at hE hlen hdd ⊢;obtain⟨n,hn⟩:∃n,n=L.length:=⟨_,rfl⟩;rw[←hn] at hE hlen ⊢;have hLh:=Za hL;have hnh:=Za hn;clear hL hn;have k0:=Zg hD.out hz q0.out;have k1:=Zg hD.out hz q1.out;have k2:=Zg hD.out hz q2.out;rcases Nat.eq_zero_or_pos n with hn0|hn0
  ·subst hn0
   have hz0:lastDay L=0:=by rw[List.eq_nil_of_length_eq_zero hnh.out.symm];rfl
   clear hz0;go_wp2_with fail
   go_quiet (fail)
   have hkh:=Za hkk;go_wp2_with fail
   refine(Wb (lastSt s) x _ t0 t1 hkh.out (by exact hGh.out.below (Zb hB.out _))).mono ?_;rintro e w4 ⟨rfl,hb⟩;have hB4:=Za (Below.up (Zb hB.out _) hb);clear hb;go_wp2
   go_ret2
   exact⟨by rw[hm.out];rfl,hB4.out⟩
  ·obtain⟨bb,o,y,rfl,_,hy,d0,d1,d2⟩:=(hE.out.arr Entry.len).Entry (k:=n-1) (by omega)
   have hld:=Za (Vi hy (by rw[←hnh.out];omega));rw[hld.out] at hdd;have g0:decide ((0:Int)<(n:Int))=true:=decide_eq_true (by omega);have hi0:(0:Int)<=(n:Int)-1:=by omega
   have hi1:(n:Int)-1<(n:Int):=by omega
   have hw:IntKind.i64.wrap ((n:Int)-1)=(n:Int)-1:=IntWalk.i64_in _ (by omega);have hi2:((n:Int)-1).toNat=n-1:=by omega
   have hi3:(1:Int)<=(n:Int):=by omega
   have hdd2:decide (x.fDay<y.fDay)=false:=decide_eq_false (by omega);clear hy;go_wp2_with fail
   go_quiet (fail)
   clear hw hi2;have hkh:=Za hkk;go_wp2_with fail
   refine(Wb (lastSt s) x _ t0 t1 hkh.out (by exact hGh.out.below (Zb hB.out _))).mono ?_;rintro e w4 ⟨rfl,hb⟩;have hB4:=Za (Below.up (Zb hB.out _) hb);clear hb;go_wp2
   go_ret2
   exact⟨by rw[hm.out];rfl,hB4.out⟩
theorem Zh9 (s:ByteArray)(x:Entry)(w:World)(hx:x.fits) :
  Calls Tryz.prog 146 #[.string s,.agg #[.int .i64 x.fDay,.string x.fWhat,.int .i64 x.fValue]] w λe w'=>e = .returned (.tuple #[.string (mAdd s x).1,.int .i64 (mAdd s x).2])/\Below w.heap.size w w':=by
 have k0:(w.alloc (.cells #[.int .i64 x.fDay,.string x.fWhat,.int .i64 x.fValue] 116)).cell? ⟨w.heap.size,0,none⟩=some (.int .i64 x.fDay):=by rw[cell_of_row _ _ _ _ _ _ (heap_alloc_new w _)];rfl
 have k1:(w.alloc (.cells #[.int .i64 x.fDay,.string x.fWhat,.int .i64 x.fValue] 116)).cell? ⟨w.heap.size,1,none⟩=some (.string x.fWhat):=by rw[cell_of_row _ _ _ _ _ _ (heap_alloc_new w _)];rfl
 have k2:(w.alloc (.cells #[.int .i64 x.fDay,.string x.fWhat,.int .i64 x.fValue] 116)).cell? ⟨w.heap.size,2,none⟩=some (.int .i64 x.fValue):=by rw[cell_of_row _ _ _ _ _ _ (heap_alloc_new w _)];rfl
 have hB:=Za ((Below.refl w.heap.size w).alloc (Nat.le_refl _) (.cells #[.int .i64 x.fDay,.string x.fWhat,.int .i64 x.fValue] 116));have hz:w.heap.size<(w.alloc (.cells #[.int .i64 x.fDay,.string x.fWhat,.int .i64 x.fValue] 116)).heap.size:=by simp
 have hc:=Za (V0 s (w.alloc (.cells #[.int .i64 x.fDay,.string x.fWhat,.int .i64 x.fValue] 116)));have q0:=Za k0;have q1:=Za k1;have q2:=Za k2;clear k0 k1 k2;by_cases h:ZI s=0
 case neg =>
  have hm:=Za (ZaW (x:=x) h);have e1:(ZI s != 0)=true:=bne_iff_ne.2 h;clear h;go_enter Tryz.func146,Tryz.ntmps146;go_wp2_with fail
  refine hc.out.mono ?_;rintro e w1 ⟨g,rfl,hg,hr,hb⟩;replace hB:=Za (Below.up hB.out hb);clear hb hr;go_wp2
  go_ret2
  exact⟨by rw[hm.out];rfl,hB.out⟩
 have hsz:=Xi h;have hlen:=WA h;have e1:(ZI s != 0)=false:=by rw[h];rfl
 have hq:=Za h;cases hk:x.ok
 case false =>
  have hm:=Za (ZaX h hk);clear h;go_enter Tryz.func146,Tryz.ntmps146;go_wp2_with fail
  refine hc.out.mono ?_;rintro e w1 ⟨g,rfl,hg,hr,hb⟩;obtain⟨vE,hblk,hoE⟩:=hr hq.out;have hE:=Za hoE;have hK:=Za hblk;have hgl:=Yg hblk;replace hB:=Za (Below.up hB.out hb);obtain⟨AE,cE,rfl,_⟩:=hoE.slice;have hz1:w.heap.size<w1.heap.size:=Nat.lt_of_lt_of_le hz hb.size;have k0:=Zg hb hz q0.out;have k1:=Zg hb hz q1.out;have k2:=Zg hb hz q2.out;clear hb hoE hblk hr;have i0:=Za k0;have i1:=Za k1;have i2:=Za k2;go_wp2_with (first|(go_at_call 207;refine(Y3 w.heap.size 0 x _ hx i0.out i1.out i2.out).mono ?_;rintro e w' ⟨rfl,rfl⟩)|fail)
  go_ret2
  exact⟨by rw[hm.out];rfl,hB.out⟩
 obtain⟨⟨b1,b2⟩,_,b3,b4⟩:=Entry.ok_iff.1 hk;obtain⟨_,_,_,t0,t1⟩:=XL s;have hkh:=Za hk;by_cases hdd:x.fDay<lastDay (ents s)
 case pos =>
  have hm:=Za (Qj h hk hdd);have hd2:decide (x.fDay<lastDay (ents s))=true:=decide_eq_true hdd;clear h;go_enter Tryz.func146,Tryz.ntmps146;go_wp2_with fail
  refine hc.out.mono ?_;rintro e w1 ⟨g,rfl,hg,hr,hb⟩;obtain⟨vE,hblk,hoE⟩:=hr hq.out;have hE:=Za hoE;have hK:=Za hblk;have hgl:=Yg hblk;replace hB:=Za (Below.up hB.out hb);obtain⟨AE,cE,rfl,_⟩:=hoE.slice;have hz1:w.heap.size<w1.heap.size:=Nat.lt_of_lt_of_le hz hb.size;have k0:=Zg hb hz q0.out;have k1:=Zg hb hz q1.out;have k2:=Zg hb hz q2.out;clear hb hoE hblk hr;have i0:=Za k0;have i1:=Za k1;have i2:=Za k2;go_wp2_with (first|(go_at_call 207;refine(Y3 w.heap.size 0 x _ hx i0.out i1.out i2.out).mono ?_;rintro e w' ⟨rfl,rfl⟩)|fail)
  go_quiet ((first|(go_at_call 208;exact Yx (Vd g _ _ (upTo s) s (lastSt s) _ (ents s) (by omega) hK.out hE.out))|fail))
  go_wp2
  go_ret2
  exact⟨by rw[hm.out];rfl,Zb hB.out _⟩
 by_cases hf:4000<(Zae s x).size
 case pos =>
  have hm:=Za (Ql h hk hdd hf);have hd2:decide (x.fDay<lastDay (ents s))=false:=decide_eq_false hdd;obtain⟨r1,r2⟩:=Z3 (lastSt s) (entB x);have hzE:=Xe hk;have hstp:=λW=>Za (Va (lastSt s) (entB x) W t0 t1 hzE)
  have hSTP:=Za hstp;unfold Zae at hf hm;obtain⟨st',hst'⟩:∃st',st'=stampB (lastSt s) (entB x):=⟨_,rfl⟩;rw[←hst'] at r1 r2 hSTP hf
  try rw[←hst'] at hm
  have hls:=Vh r1 r2 hk;have j1:=Zr s (YP st' x) (by omega);rw[ByteArray.size_append] at hf;have hf1:((4000:Int)<(s.size:Int)+((YP st' x).size:Int)):=by omega
  have hf2:((4000:Int)<((s++YP st' x).size:Int)):=by rw[ByteArray.size_append];omega
  clear h hls hf hstp hst';go_enter Tryz.func146,Tryz.ntmps146;go_wp2_with fail
  refine hc.out.mono ?_;rintro e w1 ⟨g,rfl,hg,hr,hb⟩;obtain⟨vE,hblk,hoE⟩:=hr hq.out;have hE:=Za hoE;have hK:=Za hblk;have hgl:=Yg hblk;replace hB:=Za (Below.up hB.out hb);obtain⟨AE,cE,rfl,_⟩:=hoE.slice;have hz1:w.heap.size<w1.heap.size:=Nat.lt_of_lt_of_le hz hb.size;have k0:=Zg hb hz q0.out;have k1:=Zg hb hz q1.out;have k2:=Zg hb hz q2.out;clear hb hoE hblk hr;have i0:=Za k0;have i1:=Za k1;have i2:=Za k2;go_wp2_with (first|(go_at_call 207;refine(Y3 w.heap.size 0 x _ hx i0.out i1.out i2.out).mono ?_;rintro e w' ⟨rfl,rfl⟩)|fail)
  go_quiet ((first|(go_at_call 208;exact Yx (Vd g _ _ (upTo s) s (lastSt s) _ (ents s) (by omega) hK.out hE.out))|fail))
  have c2:w1.cell? ⟨g,2,none⟩=some (.int .i64 (lastSt s)):=by rw[cell_of_row _ _ _ _ _ _ hK.out];rfl
  have q2g:=Za c2;clear k0 k1 k2;go_wp2_with fail
  go_region_held3 (λw'=>w'.cell? ⟨g,2,none⟩=some (.int .i64 (lastSt s))) (first|go_keep|exact Zg hF.out hgl q2g.out)
   (first|(go_at_call 157;refine(XC w.heap.size 0 x _ hkh.out (by exact hz1) (by exact i0.out) (by exact i1.out) (by exact i2.out)).mono ?_;rintro e w6 ⟨rfl,hb⟩;have hF:=Za (Below.up (Zb (Below.refl w1.heap.size w1) _) hb);clear hb)|(go_at_call 210;refine(hSTP.out _).out.mono ?_;rintro e w' ⟨rfl,rfl⟩)|(go_at_call 209;refine(VZ st' w.heap.size 0 x _ r1 r2 hkh.out (by exact Nat.lt_of_lt_of_le hz1 hF.out.size) (by exact Zg hF.out hz1 i0.out) (by exact Zg hF.out hz1 i1.out) (by exact Zg hF.out hz1 i2.out)).mono ?_;rintro e w7 ⟨rfl,hb⟩;replace hF:=Za (Below.up hF.out hb);clear hb)|fail)
  go_wp2
  go_ret2
  exact⟨by rw[hm.out];rfl,Below.up hB.out hF.out⟩
 case neg =>
  have hm:=Za (Qk h hk hdd hf);have hd2:decide (x.fDay<lastDay (ents s))=false:=decide_eq_false hdd;obtain⟨r1,r2⟩:=Z3 (lastSt s) (entB x);have hzE:=Xe hk;have hstp:=λW=>Za (Va (lastSt s) (entB x) W t0 t1 hzE)
  have hSTP:=Za hstp;unfold Zae at hf hm;obtain⟨st',hst'⟩:∃st',st'=stampB (lastSt s) (entB x):=⟨_,rfl⟩;rw[←hst'] at r1 r2 hSTP hf
  try rw[←hst'] at hm
  have hls:=Vh r1 r2 hk;have j1:=Zr s (YP st' x) (by omega);rw[ByteArray.size_append] at hf;have hf1:¬((4000:Int)<(s.size:Int)+((YP st' x).size:Int)):=by omega
  have hf2:¬((4000:Int)<((s++YP st' x).size:Int)):=by rw[ByteArray.size_append];omega
  clear h hls hf hstp hst';go_enter Tryz.func146,Tryz.ntmps146;go_wp2_with fail
  refine hc.out.mono ?_;rintro e w1 ⟨g,rfl,hg,hr,hb⟩;obtain⟨vE,hblk,hoE⟩:=hr hq.out;have hE:=Za hoE;have hK:=Za hblk;have hgl:=Yg hblk;replace hB:=Za (Below.up hB.out hb);obtain⟨AE,cE,rfl,_⟩:=hoE.slice;have hz1:w.heap.size<w1.heap.size:=Nat.lt_of_lt_of_le hz hb.size;have k0:=Zg hb hz q0.out;have k1:=Zg hb hz q1.out;have k2:=Zg hb hz q2.out;clear hb hoE hblk hr;have i0:=Za k0;have i1:=Za k1;have i2:=Za k2;go_wp2_with (first|(go_at_call 207;refine(Y3 w.heap.size 0 x _ hx i0.out i1.out i2.out).mono ?_;rintro e w' ⟨rfl,rfl⟩)|fail)
  go_quiet ((first|(go_at_call 208;exact Yx (Vd g _ _ (upTo s) s (lastSt s) _ (ents s) (by omega) hK.out hE.out))|fail))
  have c2:w1.cell? ⟨g,2,none⟩=some (.int .i64 (lastSt s)):=by rw[cell_of_row _ _ _ _ _ _ hK.out];rfl
  have q2g:=Za c2;clear k0 k1 k2;go_wp2_with fail
  go_region_held3 (λw'=>w'.cell? ⟨g,2,none⟩=some (.int .i64 (lastSt s))) (first|go_keep|exact Zg hF.out hgl q2g.out)
   (first|(go_at_call 157;refine(XC w.heap.size 0 x _ hkh.out (by exact hz1) (by exact i0.out) (by exact i1.out) (by exact i2.out)).mono ?_;rintro e w6 ⟨rfl,hb⟩;have hF:=Za (Below.up (Zb (Below.refl w1.heap.size w1) _) hb);clear hb)|(go_at_call 210;refine(hSTP.out _).out.mono ?_;rintro e w' ⟨rfl,rfl⟩)|(go_at_call 209;refine(VZ st' w.heap.size 0 x _ r1 r2 hkh.out (by exact Nat.lt_of_lt_of_le hz1 hF.out.size) (by exact Zg hF.out hz1 i0.out) (by exact Zg hF.out hz1 i1.out) (by exact Zg hF.out hz1 i2.out)).mono ?_;rintro e w7 ⟨rfl,hb⟩;replace hF:=Za (Below.up hF.out hb);clear hb)|fail)
  go_wp2
  go_ret2
  exact⟨by rw[hm.out];rfl,Below.up hB.out hF.out⟩
structure Heap where
 fSort:ByteArray
 fYear:Int
 fBundles:Int
 deriving DecidableEq
def Heap.cells (x:Heap):List Value:=[.string x.fSort,.int .i64 x.fYear,.int .i64 x.fBundles]
def Heap.same (x y:Heap):Bool:=decide (x=y)
theorem Heap.len (x:Heap):x.cells.length=3:=rfl
theorem Arr.Heap {w:World}{B:Nat}{A:Option Addr}{n:Nat}{l:List Heap}(h:Arr Heap.cells 3 w B A n l){k:Nat}(hk:k<n):∃b o x,A=some ⟨b,o,none⟩/\b<B/\l[k]?=some x/\w.cell? ⟨b,o+k*3,none⟩=some (.string x.fSort)/\w.cell? ⟨b,o+k*3+1,none⟩=some (.int .i64 x.fYear)/\w.cell? ⟨b,o+k*3+2,none⟩=some (.int .i64 x.fBundles):=by
 obtain⟨b,o,x,e,hb,hx,hc⟩:=h.at_ hk;exact⟨b,o,x,e,hb,hx,hc 0 _ rfl,hc 1 _ rfl,hc 2 _ rfl⟩
theorem Own.Heap_at {e:TypeId}{w:World}{base g n c:Nat}{l:List Heap}(h:Own Heap.cells e 3 w base (.slice (some ⟨g,0,none⟩) n c) n l){k:Nat}(hk:k<n) :
  ∃x,l[k]?=some x/\w.cell? ⟨g,k*3,none⟩=some (.string x.fSort)/\w.cell? ⟨g,k*3+1,none⟩=some (.int .i64 x.fYear)/\w.cell? ⟨g,k*3+2,none⟩=some (.int .i64 x.fBundles)/\w.frozen? ⟨g,k*3,none⟩=false/\w.frozen? ⟨g,k*3+1,none⟩=false/\w.frozen? ⟨g,k*3+2,none⟩=false:=by
 obtain⟨b,o,x,hA,_,hx,c0,c1,c2⟩:=(h.arr Heap.len).Heap hk;injection hA with hA;injection hA with h1 h2;subst h1 h2
 simp only[Nat.zero_add] at c0 c1 c2;exact⟨x,hx,c0,c1,c2,h.2.frozenAt _,h.2.frozenAt _,h.2.frozenAt _⟩
def Heap.fits (x:Heap):Prop:=x.fSort.size<=maxLen
def Heap.wt (x:Heap):Int:=(x.fSort.size:Int)
def Heap.pre (l:List Heap):Int:=(l.map Heap.wt).sum
def Heap.tot (l:List Heap):Int:=l.length+Heap.pre l
def Um (a b:ByteArray):Bool:=Op.bytesLess a.toList b.toList
theorem Zb1:∀x:List UInt8,Op.bytesLess x x=false
 | []=>rfl
 | a :: x=>by
  have h:¬a<a:=by rw[UInt8.lt_iff_toNat_lt];omega
  simp[Op.bytesLess,Zb1 x,h]
theorem Zd2:∀x y z:List UInt8,Op.bytesLess x y=true→Op.bytesLess y z=true→Op.bytesLess x z=true
 | _,[],_=>by intro h;cases ‹List UInt8›<;>simp[Op.bytesLess] at h
 | _,_ :: _,[]=>by intro _ h;simp[Op.bytesLess] at h
 | [],_ :: _,_ :: _=>by intro _ _;rfl
 | a :: x,b :: y,c :: z=>by
  intro h1 h2;simp only[Op.bytesLess,Bool.or_eq_true,Bool.and_eq_true,decide_eq_true_eq,beq_iff_eq,UInt8.lt_iff_toNat_lt] at h1 h2 ⊢;rcases h1 with h1|⟨rfl,h1⟩
  ·rcases h2 with h2|⟨rfl,_⟩
   ·exact .inl (by omega)
   ·exact .inl h1
  ·rcases h2 with h2|⟨rfl,h2⟩
   ·exact .inl h2
   ·exact .inr ⟨rfl,Zd2 x y z h1 h2⟩
theorem Zjc:∀x y:List UInt8,Lib.compareBytes x y=if Op.bytesLess x y then -1 else if x=y then 0 else 1
 | [],[]=>rfl
 | [],_ :: _=>rfl
 | _ :: _,[]=>rfl
 | a :: x,b :: y=>by
  rw[Lib.compareBytes,Zjc x y];simp only[Op.bytesLess,UInt8.lt_iff_toNat_lt];by_cases h1:a.toNat<b.toNat
  ·simp[h1]
  ·by_cases h2:b.toNat<a.toNat
   ·have hab:¬a=b:=by rintro rfl;omega
    have hb:(a==b)=false:=by simp[hab]
    simp[h1,h2,hab]
   ·have hab:a=b:=UInt8.toNat_inj.1 (by omega)
    subst hab;simp
theorem Ji (a:ByteArray):a.data.toList=a.toList:=(ByteArray.toList_eq a).symm
theorem Za7 (a:ByteArray):Um a a=false:=Zb1 _
theorem Zcd {a b c:ByteArray}(h:Um a b=true)(h':Um b c=true):Um a c=true:=Zd2 _ _ _ h h'
def Zdv (a b:ByteArray):Int:=Lib.compareBytes a.data.toList b.data.toList
theorem Za8 (a b:ByteArray):Zdv a b=if Um a b then -1 else if a=b then 0 else 1:=by
 unfold Zdv Um;rw[Ji,Ji,Zjc];by_cases h:a=b
 ·subst h;simp
 ·have:¬a.toList=b.toList:=λe=>h (YI e)
  simp[h,this]
def Heap.ok (x:Heap):Bool:=ZU x.fSort&&inB x.fYear 1800 2100&&inB x.fBundles 1 1000
theorem Heap.ok_iff {x:Heap}:x.ok=true↔ZU x.fSort=true/\(1800<=x.fYear/\x.fYear<=2100)/\(1<=x.fBundles/\x.fBundles<=1000):=by
 simp[Heap.ok,Zj,and_assoc]
def hLt (a b:Heap):Bool:=Um a.fSort b.fSort||(decide (a.fSort=b.fSort)&&decide (a.fYear<b.fYear))
def hCmp (a b:Heap):Int:=if a.fSort=b.fSort then a.fYear-b.fYear else Zdv a.fSort b.fSort
theorem Qd {a b:Heap}:hCmp a b<0↔hLt a b=true:=by
 unfold hCmp hLt;by_cases h:a.fSort=b.fSort
 ·rw[if_pos h,h,Za7];simp;omega
 ·rw[if_neg h,Za8,if_neg h]
  cases Um a.fSort b.fSort<;>simp[h]
theorem Zhh {a b:Heap}:hCmp a b=0↔a.fSort=b.fSort/\a.fYear=b.fYear:=by
 unfold hCmp;by_cases h:a.fSort=b.fSort
 ·rw[if_pos h];simp[h];omega
 ·rw[if_neg h,Za8,if_neg h]
  cases Um a.fSort b.fSort<;>simp[h]
theorem QZ (n:Int)(w:World) :
  Calls Tryz.prog 169 #[.int .i64 n] w λe w'=>e = .returned (.bool (inB n 1800 2100))/\w=w':=by
 go_enter Tryz.func169,Tryz.ntmps169;go_wp2_with (go_at_call 113;refine(Zu _ _ _ _).mono ?_;rintro e w' ⟨rfl,rfl⟩)
 go_ret;exact⟨rfl,rfl⟩
theorem YA (x:Heap)(w:World)(hx:x.fits) :
  Calls Tryz.prog 114 #[.agg #[.string x.fSort,.int .i64 x.fYear,.int .i64 x.fBundles]] w λe w'=>e = .returned (.bool x.ok)/\Below w.heap.size w w':=by
 cases k0:ZU x.fSort
 ·have ck:Hid (x.ok=false):=Za (by simp[Heap.ok,k0])
  go_enter Tryz.func114,Tryz.ntmps114;go_wp2_with (first|(go_at_call 126;refine(XO _ _ hx).mono ?_;rintro e w' ⟨rfl,rfl⟩)|(go_at_call 169;refine(QZ _ _).mono ?_;rintro e w' ⟨rfl,rfl⟩)|(go_at_call 113;refine(Zu _ _ _ _).mono ?_;rintro e w' ⟨rfl,rfl⟩))
  go_ret;exact⟨ZW ck.out.symm,by go_grown⟩
 ·cases k1:inB x.fYear 1800 2100
  ·have ck:Hid (x.ok=false):=Za (by simp[Heap.ok,k1])
   go_enter Tryz.func114,Tryz.ntmps114;go_wp2_with (first|(go_at_call 126;refine(XO _ _ hx).mono ?_;rintro e w' ⟨rfl,rfl⟩)|(go_at_call 169;refine(QZ _ _).mono ?_;rintro e w' ⟨rfl,rfl⟩)|(go_at_call 113;refine(Zu _ _ _ _).mono ?_;rintro e w' ⟨rfl,rfl⟩))
   go_ret;exact⟨ZW ck.out.symm,by go_grown⟩
  ·have ck:Hid (x.ok=inB x.fBundles 1 1000):=Za (by simp[Heap.ok,k0,k1])
   go_enter Tryz.func114,Tryz.ntmps114;go_wp2_with (first|(go_at_call 126;refine(XO _ _ hx).mono ?_;rintro e w' ⟨rfl,rfl⟩)|(go_at_call 169;refine(QZ _ _).mono ?_;rintro e w' ⟨rfl,rfl⟩)|(go_at_call 113;refine(Zu _ _ _ _).mono ?_;rintro e w' ⟨rfl,rfl⟩))
   go_ret;exact⟨ZW ck.out.symm,by go_grown⟩
theorem Vn (x y:Heap)(w:World)(h1:1800<=x.fYear)(h2:x.fYear<=2100)(h3:1800<=y.fYear)(h4:y.fYear<=2100) :
  Calls Tryz.prog 115 #[.agg #[.string x.fSort,.int .i64 x.fYear,.int .i64 x.fBundles],.agg #[.string y.fSort,.int .i64 y.fYear,.int .i64 y.fBundles]] w λe w'=>e = .returned (.int .i64 (hCmp x y))/\Below w.heap.size w w':=by
 by_cases h:x.fSort=y.fSort
 ·have e1:=XG h
  have e2:(x.fSort.toList != y.fSort.toList)=false:=by rw[bne,e1];rfl
  have ck:Hid (hCmp x y=x.fYear-y.fYear):=Za (by unfold hCmp;rw[if_pos h]);clear h;go_enter Tryz.func115,Tryz.ntmps115;go_wp2
  go_ret;exact⟨UL ck.out.symm,by go_grown⟩
 ·have e1:=Xn h
  have e2:(x.fSort.toList != y.fSort.toList)=true:=by rw[bne,e1];rfl
  have ck:Hid (hCmp x y=Zdv x.fSort y.fSort):=Za (by unfold hCmp;rw[if_neg h]);clear h;go_enter Tryz.func115,Tryz.ntmps115;go_wp2_with (go_at_call 170;refine(Tryz.strings_Compare _ _ _).mono ?_;rintro e w' ⟨rfl,rfl⟩)
  go_ret;exact⟨UL ck.out.symm,by go_grown⟩
theorem YL (b o:Nat)(x:Heap)(w:World)(hx:x.fits)(d0:w.cell? ⟨b,o,none⟩=some (.string x.fSort))(d1:w.cell? ⟨b,o+1,none⟩=some (.int .i64 x.fYear))(d2:w.cell? ⟨b,o+2,none⟩=some (.int .i64 x.fBundles)) :
  Calls Tryz.prog 136 #[.pointer (some ⟨b,o,none⟩)] w λe w'=>e = .returned (.bool x.ok)/\w=w':=by
 cases k0:ZU x.fSort
 ·have ck:Hid (x.ok=false):=Za (by simp[Heap.ok,k0])
  go_enter Tryz.func136,Tryz.ntmps136;go_wp2_with (first|(go_at_call 196;refine(XH _ _ hx).mono ?_;rintro e w' ⟨rfl,rfl⟩)|(go_at_call 135;refine(Yc _ _ _ _).mono ?_;rintro e w' ⟨rfl,rfl⟩))
  go_ret;exact⟨ZW ck.out.symm,rfl⟩
 ·cases k1:inB x.fYear 1800 2100
  ·have ck:Hid (x.ok=false):=Za (by simp[Heap.ok,k1])
   go_enter Tryz.func136,Tryz.ntmps136;go_wp2_with (first|(go_at_call 196;refine(XH _ _ hx).mono ?_;rintro e w' ⟨rfl,rfl⟩)|(go_at_call 135;refine(Yc _ _ _ _).mono ?_;rintro e w' ⟨rfl,rfl⟩))
   go_ret;exact⟨ZW ck.out.symm,rfl⟩
  ·have ck:Hid (x.ok=inB x.fBundles 1 1000):=Za (by simp[Heap.ok,k0,k1])
   go_enter Tryz.func136,Tryz.ntmps136;go_wp2_with (first|(go_at_call 196;refine(XH _ _ hx).mono ?_;rintro e w' ⟨rfl,rfl⟩)|(go_at_call 135;refine(Yc _ _ _ _).mono ?_;rintro e w' ⟨rfl,rfl⟩))
   go_ret;exact⟨ZW ck.out.symm,rfl⟩
theorem YZ (b o b' o':Nat)(x y:Heap)(w:World)(d0:w.cell? ⟨b,o,none⟩=some (.string x.fSort))(d1:w.cell? ⟨b,o+1,none⟩=some (.int .i64 x.fYear))(f0:w.cell? ⟨b',o',none⟩=some (.string y.fSort))(f1:w.cell? ⟨b',o' + 1,none⟩=some (.int .i64 y.fYear)) :
  Calls Tryz.prog 137 #[.pointer (some ⟨b,o,none⟩),.pointer (some ⟨b',o',none⟩)] w λe w'=>e = .returned (.bool (hLt x y))/\∃n,w'=w.drewN n:=by
 cases h1:Op.bytesLess x.fSort.toList y.fSort.toList
 ·by_cases h:x.fSort=y.fSort
  ·have e1:=XG h
   have ck:Hid (hLt x y=decide (x.fYear<y.fYear)):=Za (by unfold hLt Um;rw[h1,decide_eq_true h];simp);clear h;by_cases h2:x.fYear<y.fYear
   ·have ck2:Hid (hLt x y=true):=Za (by rw[ck.out];exact decide_eq_true h2)
    have e3:decide (x.fYear<y.fYear)=true:=decide_eq_true h2;go_enter Tryz.func137,Tryz.ntmps137;go_wp2
    go_quiet (fail)
    go_wp2
    go_ret;exact⟨ZW ck2.out.symm,_,rfl⟩
   ·have ck2:Hid (hLt x y=false):=Za (by rw[ck.out];exact decide_eq_false h2)
    have e3:decide (x.fYear<y.fYear)=false:=decide_eq_false h2;go_enter Tryz.func137,Tryz.ntmps137;go_wp2
    go_quiet (fail)
    go_wp2
    go_ret;exact⟨ZW ck2.out.symm,_,rfl⟩
  ·have e1:=Xn h
   have ck:Hid (hLt x y=false):=Za (by unfold hLt Um;rw[h1,decide_eq_false h];rfl);clear h;go_enter Tryz.func137,Tryz.ntmps137;go_wp2
   go_quiet (fail)
   go_wp2
   go_ret;exact⟨ZW ck.out.symm,_,rfl⟩
 ·have ck:Hid (hLt x y=true):=Za (by unfold hLt Um;rw[h1];rfl)
  go_enter Tryz.func137,Tryz.ntmps137;go_wp2
  go_quiet (fail)
  go_wp2
  go_ret;exact⟨ZW ck.out.symm,_,rfl⟩
theorem ZjW {a b:Heap}:hLt a b=true↔Um a.fSort b.fSort=true\/(a.fSort=b.fSort/\a.fYear<b.fYear):=by simp[hLt]
theorem Q6 {a b c:Heap}(h:hLt a b=true)(h':hLt b c=true):hLt a c=true:=by
 rw[ZjW] at *;rcases h with h|⟨h1,h2⟩<;>rcases h' with h'|⟨h3,h4⟩
 ·exact .inl (Zcd h h')
 ·exact .inl (by rw[←h3];exact h)
 ·exact .inl (by rw[h1];exact h')
 ·exact .inr ⟨h1.trans h3,by omega⟩
def Srt (l:List Heap):Prop:=l.Pairwise (λa b=>hLt a b=true)
def putK (l:List Heap)(x:Heap):Nat:=(l.takeWhile (λy=>hLt y x)).length
theorem ZcD (l:List Heap)(x:Heap):putK l x<=l.length:=by
 unfold putK;exact List.Sublist.length_le (List.takeWhile_sublist _)
theorem Qy (l:List Heap)(x:Heap)(k:Nat)(hk:k<=l.length)(h1:∀(i:Nat) y,i<k→l[i]?=some y→hLt y x=true)(h2:∀y,l[k]?=some y→hLt y x=false):putK l x=k:=by
 induction l generalizing k with
 | nil=>simp at hk;subst hk;rfl
 | cons a l ih =>
  unfold putK;cases k with
  | zero =>
   have:=h2 a rfl;rw[List.takeWhile_cons,this];rfl
  | succ k =>
   have ha:=h1 0 a (by omega) rfl;rw[List.takeWhile_cons,ha];have:=ih k (by simpa using hk) (λi y hi hy=>h1 (i+1) y (by omega) (by simpa using hy)) (λy hy=>h2 y (by simpa using hy));simp only[if_true,List.length_cons];unfold putK at this;omega
def Qp (y x:Heap):Bool:=decide (y.fSort=x.fSort)&&decide (y.fYear=x.fYear)
theorem Wk {y x:Heap}:Qp y x=true↔y.fSort=x.fSort/\y.fYear=x.fYear:=by simp[Qp]
def Ym (l:List Heap)(x:Heap):Bool:=match l[putK l x]? with
 | some y=>Qp y x
 | none=>false
def ZeO (l:List Heap)(x:Heap):Heap:=match l[putK l x]? with
 | some y=>⟨x.fSort,x.fYear,x.fBundles+y.fBundles⟩
 | none=>x
def X2 (l:List Heap)(x:Heap):List Heap :=
 if Ym l x then l.take (putK l x)++ZeO l x :: l.drop (putK l x+1) else l.take (putK l x)++x :: l.drop (putK l x)
theorem Qe {l:List Heap}{x:Heap}(h:Ym l x=true):∃y,l[putK l x]?=some y/\y.fSort=x.fSort/\y.fYear=x.fYear/\putK l x<l.length/\ZeO l x=⟨x.fSort,x.fYear,x.fBundles+y.fBundles⟩:=by
 unfold Ym at h;unfold ZeO;cases hy:l[putK l x]? with
 | none=>rw[hy] at h;cases h
 | some y =>
  rw[hy] at h;obtain⟨h1,h2⟩:=Wk.1 h;exact⟨y,rfl,h1,h2,Zq hy,rfl⟩
theorem Zfu {l:List Heap}{x:Heap}(h:Ym l x=true):X2 l x=l.set (putK l x) (ZeO l x):=by
 obtain⟨y,hy,_,_,hlt,_⟩:=Qe h;unfold X2;rw[if_pos h,List.set_eq_take_append_cons_drop,if_pos hlt]
theorem ZdW (l:List Heap)(x:Heap):(X2 l x).length<=l.length+1:=by
 have:=ZcD l x;unfold X2;split<;>simp<;>omega
theorem put_mem {l:List Heap}{x z:Heap}(h:z∈X2 l x):z∈l\/(z.fSort=x.fSort/\z.fYear=x.fYear):=by
 unfold X2 at h;split at h
 ·rename_i hf
  obtain⟨y,hy,e1,e2,hlt,hat⟩:=Qe hf;rcases List.mem_append.1 h with h|h
  ·exact .inl (List.mem_of_mem_take h)
  ·rcases List.mem_cons.1 h with rfl|h
   ·rw[hat];exact .inr ⟨rfl,rfl⟩
   ·exact .inl (List.mem_of_mem_drop h)
 ·rcases List.mem_append.1 h with h|h
  ·exact .inl (List.mem_of_mem_take h)
  ·rcases List.mem_cons.1 h with rfl|h
   ·exact .inr ⟨rfl,rfl⟩
   ·exact .inl (List.mem_of_mem_drop h)
end Go.Proofs.YtfpaejlipaainaaGreatDoor
