/- Texts that belong together, joined: contracts and plain laws. No statement is proved here. -/
import Derived.Test.YtfpaejlipaainaaGreatDoorM14
set_option maxRecDepth 100000
set_option maxHeartbeats 1000000
namespace Go.Proofs.YtfpaejlipaainaaGreatDoor
open Go.ChangeShapes Go.WideShapes Go.ChangeAt Go.RowKit Go.Deep
def Zft (x:Heap):ByteArray:=x.fSort++⟨#[32]⟩++decB x.fYear++⟨#[32]⟩++decB x.fBundles
def mHeapT (x:Heap):ByteArray:=if x.ok=true then Zft x else ⟨#[]⟩
theorem Zfj (x:Heap)(w:World)(hx:x.fits)(hG:Gl w) :
  Calls Tryz.prog 70 #[.agg #[.string x.fSort,.int .i64 x.fYear,.int .i64 x.fBundles]] w λe w'=>e = .returned (.string (mHeapT x))/\Below w.heap.size w w':=by
 have hGh:=Za hG;clear hG;have k0:(w.alloc (.cells #[.string x.fSort,.int .i64 x.fYear,.int .i64 x.fBundles] 106)).cell? ⟨w.heap.size,0,none⟩=some (.string x.fSort):=by rw[cell_of_row _ _ _ _ _ _ (heap_alloc_new w _)];rfl
 have k1:(w.alloc (.cells #[.string x.fSort,.int .i64 x.fYear,.int .i64 x.fBundles] 106)).cell? ⟨w.heap.size,1,none⟩=some (.int .i64 x.fYear):=by rw[cell_of_row _ _ _ _ _ _ (heap_alloc_new w _)];rfl
 have k2:(w.alloc (.cells #[.string x.fSort,.int .i64 x.fYear,.int .i64 x.fBundles] 106)).cell? ⟨w.heap.size,2,none⟩=some (.int .i64 x.fBundles):=by rw[cell_of_row _ _ _ _ _ _ (heap_alloc_new w _)];rfl
 have hB:=Za ((Below.refl w.heap.size w).alloc (Nat.le_refl _) (.cells #[.string x.fSort,.int .i64 x.fYear,.int .i64 x.fBundles] 106));have hz:w.heap.size<(w.alloc (.cells #[.string x.fSort,.int .i64 x.fYear,.int .i64 x.fBundles] 106)).heap.size:=by simp
 cases hk:x.ok
 ·have hm:Hid (mHeapT x=⟨#[]⟩):=Za (by unfold mHeapT;rw[hk];rfl)
  go_enter Tryz.func70,Tryz.ntmps70;go_wp2_with (go_at_call 114;refine(YA x _ hx).mono ?_;rintro e w2 ⟨rfl,hb⟩;have hB2:=Za (Below.up hB.out hb);clear hb)
  go_ret;exact⟨by rw[hm.out];rfl,hB2.out⟩
 have hm:Hid (mHeapT x=Zft x):=Za (by unfold mHeapT;rw[if_pos hk]);obtain⟨_,⟨b1,b2⟩,b3,b4⟩:=Heap.ok_iff.1 hk;have s1:=XK (Heap.ok_iff.1 hk).1;have s2:=Zv x.fYear (by omega) (by omega);have s3:=Zv x.fBundles (by omega) (by omega);have j1:=Zr x.fSort ⟨#[32]⟩ (by simp only[ZP];omega);have j2:=Zr (x.fSort++⟨#[32]⟩) (decB x.fYear) (by simp only[ByteArray.size_append,ZP];omega);have j3:=Zr (x.fSort++⟨#[32]⟩++decB x.fYear) ⟨#[32]⟩ (by simp only[ByteArray.size_append,ZP];omega);have j4:=Zr (x.fSort++⟨#[32]⟩++decB x.fYear++⟨#[32]⟩) (decB x.fBundles) (by simp only[ByteArray.size_append,ZP];omega);have q0:=Za k0;have q1:=Za k1;have q2:=Za k2;go_enter Tryz.func70,Tryz.ntmps70;go_wp2_with (first|(go_at_call 114;refine(YA x _ hx).mono ?_;rintro e w2 ⟨rfl,hb⟩;have hB2:=Za (Below.up hB.out hb);have k0:=Zg hb hz q0.out;have k1:=Zg hb hz q1.out;have k2:=Zg hb hz q2.out;have hz2:=Nat.lt_of_lt_of_le hz hb.size;clear hb)|fail)
 have p0:=Za k0;have p1:=Za k1;have p2:=Za k2;have hC:=Za (Zb (Below.refl w2.heap.size w2) 1);go_region_held3 (λw'=>w'.cell? ⟨w.heap.size,0,none⟩=some (.string x.fSort)/\w'.cell? ⟨w.heap.size,1,none⟩=some (.int .i64 x.fYear)/\w'.cell? ⟨w.heap.size,2,none⟩=some (.int .i64 x.fBundles)) (first|go_keep|exact⟨Zg hC.out hz2 p0.out,Zg hC.out hz2 p1.out,Zg hC.out hz2 p2.out⟩)
  (first|(go_at_call 36;refine(YQ _ _ (by omega) (by omega) (by exact hGh.out.below (Below.up hB2.out hC.out))).mono ?_;rintro e w3 ⟨rfl,hb⟩;replace hC:=Za (Below.up hC.out hb);clear hb)|fail)
 all_goals go_wp2
 all_goals go_ret
 all_goals exact⟨by rw[hm.out];rfl,Below.up hB2.out hC.out⟩
theorem Zbe (b o:Nat)(x:Heap)(w:World)(hk:x.ok=true)(hlt:b<w.heap.size)(d0:w.cell? ⟨b,o,none⟩=some (.string x.fSort))(d1:w.cell? ⟨b,o+1,none⟩=some (.int .i64 x.fYear))(d2:w.cell? ⟨b,o+2,none⟩=some (.int .i64 x.fBundles)) :
  Calls Tryz.prog 154 #[.pointer (some ⟨b,o,none⟩)] w λe w'=>e = .returned (.string (Zft x))/\Below w.heap.size w w':=by
 obtain⟨_,⟨b1,b2⟩,b3,b4⟩:=Heap.ok_iff.1 hk;have s1:=XK (Heap.ok_iff.1 hk).1;have s2:=Zv x.fYear (by omega) (by omega);have s3:=Zv x.fBundles (by omega) (by omega);have j1:=Zr x.fSort ⟨#[32]⟩ (by simp only[ZP];omega);have j2:=Zr (x.fSort++⟨#[32]⟩) (decB x.fYear) (by simp only[ByteArray.size_append,ZP];omega);have j3:=Zr (x.fSort++⟨#[32]⟩++decB x.fYear) ⟨#[32]⟩ (by simp only[ByteArray.size_append,ZP];omega);have j4:=Zr (x.fSort++⟨#[32]⟩++decB x.fYear++⟨#[32]⟩) (decB x.fBundles) (by simp only[ByteArray.size_append,ZP];omega);clear hk;have q0:=Za d0;have q1:=Za d1;have q2:=Za d2;go_enter Tryz.func154,Tryz.ntmps154;go_wp2_with fail
 have hC:=Za (Zb (Below.refl w.heap.size w) 1);go_region_held3 (λw'=>w'.cell? ⟨b,o,none⟩=some (.string x.fSort)/\w'.cell? ⟨b,o+1,none⟩=some (.int .i64 x.fYear)/\w'.cell? ⟨b,o+2,none⟩=some (.int .i64 x.fBundles)) (first|go_keep|exact⟨Zg hC.out hlt q0.out,Zg hC.out hlt q1.out,Zg hC.out hlt q2.out⟩)
  (first|(go_at_call 148;refine(Yw _ _ (by omega) (by omega)).mono ?_;rintro e w2 ⟨rfl,hb⟩;replace hC:=Za (Below.up hC.out hb);clear hb)|fail)
 all_goals go_wp2
 all_goals go_ret
 all_goals exact⟨rfl,hC.out⟩
end Go.Proofs.YtfpaejlipaainaaGreatDoor
