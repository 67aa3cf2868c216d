-- MERGED BY A PROGRAM out of texts of this claim: hand work, and what a (turned) print of the kit has written for it
import Derived.Outline
import Derived.Test.YtgmbbfmbimofoaaMh23
import Derived.Test.YtgmbbfmbimofoaaMh6
import Derived.Test.YtgmbbfmbimofoaaMh19
import Derived.Test.YtgmbbfmbimofoaaMh5
import Derived.Test.YtgmbbfmbimofoaaMh7
import Derived.Test.YtgmbbfmbimofoaaMh22
namespace Go.Proofs.Ytgmbbfmbimofoaa.P
open Go.RowKit Go.Proofs.YtgmbbfmbimofoaaW.PrintWords Go.Proofs.YtgmbbfmbimofoaaW.PrintLast Go.Proofs.YtgmbbfmbimofoaaW.PrintMore
attribute [local go_sem] zI zM zO zP zC zD zK zJ
set_option linter.unusedVariables false
set_option linter.unusedSimpArgs false
def zdj : ByteArray := ⟨#[97, 110, 110, 97]⟩
def zed : ByteArray := ⟨#[98, 101, 110]⟩
def zhx : ByteArray := ⟨#[99, 121, 100]⟩
def zfH : ByteArray := ⟨#[98, 101, 97]⟩
def zfB : ByteArray := ⟨#[99, 105, 100]⟩
def zhm : ByteArray := ⟨#[100, 97, 110]⟩
def ziU : ByteArray := ⟨#[97, 98, 101]⟩
def zdh : List ByteArray := [zdj, zed, zhx]
def zcV : List S63 := [⟨1, 1, zfH⟩, ⟨2, 2, zfB⟩]
def zej : List (List ByteArray) := [[zdj, zed], [zdj, zhx]]
theorem zha : zcf.f 100 zdh zcV = some ([zdj, zfH, zed, zfB], 0) := by kernel_rfl
theorem zgy : zaW.f 100 zej [zdj, zed, zhm] = some ([1, 0, -1], 0) := by kernel_rfl
theorem zib : zad.f 100 [zdj, zfH, zed, zfB] [zdj, zfH, zed, zfB] = some true := by kernel_rfl
theorem zg7 : zcd.f zdh [⟨1, 0, ziU⟩, ⟨3, 1, ⟨#[]⟩⟩, ⟨3, 2, ⟨#[]⟩⟩] 3 = some ([1, 0, 2], 0) := by kernel_rfl
theorem zh2 : zak.f 100 zcV zcV = some true := by kernel_rfl
theorem zhy : zaB.f 100 [1, 0, 2] [1, 0, 2] = some true := by kernel_rfl
theorem zhz : zaB.f 100 [1, 0, -1] [1, 0, -1] = some true := by kernel_rfl
theorem zho : zbA.f 100 zdh [zdj, zfH, zed, zfB] = some (zcV, 0) := by kernel_rfl
theorem zhn : zc9.f 100 zej [⟨1, 2, zhm⟩] [zdj, zhx, zed, zhm] = some (2, 2, 0) := by kernel_rfl
set_option maxHeartbeats 4000000 in
set_option maxRecDepth 100000 in
theorem zci (w : World) : Calls Try.prog 18 #[] w fun e w' => e = .returned (.bool true) ∧ Below w.heap.size w w' := by
 go_enter Try.func18, Try.ntmps18
 have HB := za.mk (Below.refl w.heap.size w)
 go_wp2_with fail
 refine (zbD.calls zdh _ rfl).mono ?_
 rintro e w1 ⟨v1, rfl, hR1, hb1⟩
 replace HB := za.mk (zo HB.out hb1)
 obtain ⟨A1, c1, rfl, _, _⟩ := Kd.zaa hR1
 have F1 := za.mk hR1
 clear hR1 hb1
 go_wp2_with fail
 refine (zbO.calls zcV _ rfl).mono ?_
 rintro e w2 ⟨v2, rfl, hR2, hb2⟩
 replace HB := za.mk (zo HB.out hb2)
 replace F1 := za.mk (Kd.zB F1.out hb2)
 obtain ⟨A2, c2, rfl, _, _⟩ := Kd.zaa hR2
 have F2 := za.mk hR2
 clear hR2 hb2
 go_wp2_with fail
 refine (zcf.calls 100 _ _ zdh _ _ zcV [⟨#[97, 110, 110, 97]⟩, ⟨#[98, 101, 97]⟩, ⟨#[98, 101, 110]⟩, ⟨#[99, 105, 100]⟩] 0 _ (zZ F1.out).1 (zZ F1.out).2 (zZ F2.out).1 (zZ F2.out).2 zha).mono ?_
 rintro e w3 ⟨v3, rfl, hR3, hb3⟩
 replace HB := za.mk (zo HB.out hb3)
 replace F1 := za.mk (Kd.zB F1.out hb3)
 replace F2 := za.mk (Kd.zB F2.out hb3)
 obtain ⟨A3, c3, rfl, _, _⟩ := Kd.zaa hR3
 have F3 := za.mk hR3
 clear hR3 hb3
 clear F1 F2
 go_wp2_with fail
 refine (zbD.calls zdh _ rfl).mono ?_
 rintro e w4 ⟨v4, rfl, hR4, hb4⟩
 replace HB := za.mk (zo HB.out hb4)
 replace F3 := za.mk (Kd.zB F3.out hb4)
 obtain ⟨A4, c4, rfl, _, _⟩ := Kd.zaa hR4
 have F4 := za.mk hR4
 clear hR4 hb4
 go_wp2_with fail
 have hbx := ze (Below.refl w4.heap.size w4) (.cells #[.string ⟨#[97, 110, 110, 97]⟩, .string ⟨#[98, 101, 97]⟩, .string ⟨#[98, 101, 110]⟩, .string ⟨#[99, 105, 100]⟩] 9)
 have X1 := za.mk (heap_alloc_new w4 (.cells #[.string ⟨#[97, 110, 110, 97]⟩, .string ⟨#[98, 101, 97]⟩, .string ⟨#[98, 101, 110]⟩, .string ⟨#[99, 105, 100]⟩] 9))
 replace HB := za.mk (zo HB.out hbx)
 replace F3 := za.mk (Kd.zB F3.out hbx)
 replace F4 := za.mk (Kd.zB F4.out hbx)
 obtain ⟨u4, hu⟩ : ∃ u_, w4.alloc (.cells #[.string ⟨#[97, 110, 110, 97]⟩, .string ⟨#[98, 101, 97]⟩, .string ⟨#[98, 101, 110]⟩, .string ⟨#[99, 105, 100]⟩] 9) = u_ := ⟨_, rfl⟩
 rw [hu] at F3 F4 X1 HB ⊢
 clear hu hbx
 refine (zbA.calls 100 _ _ zdh _ _ [⟨#[97, 110, 110, 97]⟩, ⟨#[98, 101, 97]⟩, ⟨#[98, 101, 110]⟩, ⟨#[99, 105, 100]⟩] zcV 0 _ (zZ F4.out).1 (zZ F4.out).2 (zeR X1.out rfl (by decide)) (by decide) zho).mono ?_
 rintro e w5 ⟨v5, rfl, hR5, hb5⟩
 replace HB := za.mk (zo HB.out hb5)
 replace F3 := za.mk (Kd.zB F3.out hb5)
 replace F4 := za.mk (Kd.zB F4.out hb5)
 replace X1 := za.mk (zA X1.out hb5)
 obtain ⟨A5, c5, rfl, _, _⟩ := Kd.zaa hR5
 have F5 := za.mk hR5
 clear hR5 hb5
 clear F4 X1
 go_wp2_with fail
 refine (zbD.calls zdh _ rfl).mono ?_
 rintro e w6 ⟨v6, rfl, hR6, hb6⟩
 replace HB := za.mk (zo HB.out hb6)
 replace F3 := za.mk (Kd.zB F3.out hb6)
 replace F5 := za.mk (Kd.zB F5.out hb6)
 obtain ⟨A6, c6, rfl, _, _⟩ := Kd.zaa hR6
 have F6 := za.mk hR6
 clear hR6 hb6
 go_wp2_with fail
 refine (zbn.calls 0 ⟨#[97, 98, 101]⟩ 1 0 ⟨#[97, 98, 101]⟩ _ rfl).mono ?_
 rintro e w7 ⟨rfl, hb7⟩
 replace HB := za.mk (zo HB.out hb7)
 replace F3 := za.mk (Kd.zB F3.out hb7)
 replace F5 := za.mk (Kd.zB F5.out hb7)
 replace F6 := za.mk (Kd.zB F6.out hb7)
 clear hb7
 go_wp2_with fail
 refine (zbU.calls 1 3 1 ⟨#[]⟩ _ rfl).mono ?_
 rintro e w8 ⟨rfl, hb8⟩
 replace HB := za.mk (zo HB.out hb8)
 replace F3 := za.mk (Kd.zB F3.out hb8)
 replace F5 := za.mk (Kd.zB F5.out hb8)
 replace F6 := za.mk (Kd.zB F6.out hb8)
 clear hb8
 go_wp2_with fail
 refine (zbU.calls 2 3 2 ⟨#[]⟩ _ rfl).mono ?_
 rintro e w9 ⟨rfl, hb9⟩
 replace HB := za.mk (zo HB.out hb9)
 replace F3 := za.mk (Kd.zB F3.out hb9)
 replace F5 := za.mk (Kd.zB F5.out hb9)
 replace F6 := za.mk (Kd.zB F6.out hb9)
 clear hb9
 go_wp2_with fail
 have hbx := ze (Below.refl w9.heap.size w9) (.cells #[.int .i64 1, .int .i64 0, .string ⟨#[97, 98, 101]⟩, .int .i64 3, .int .i64 1, .string ⟨#[]⟩, .int .i64 3, .int .i64 2, .string ⟨#[]⟩] 63)
 have X2 := za.mk (heap_alloc_new w9 (.cells #[.int .i64 1, .int .i64 0, .string ⟨#[97, 98, 101]⟩, .int .i64 3, .int .i64 1, .string ⟨#[]⟩, .int .i64 3, .int .i64 2, .string ⟨#[]⟩] 63))
 replace HB := za.mk (zo HB.out hbx)
 replace F3 := za.mk (Kd.zB F3.out hbx)
 replace F5 := za.mk (Kd.zB F5.out hbx)
 replace F6 := za.mk (Kd.zB F6.out hbx)
 obtain ⟨u9, hu⟩ : ∃ u_, w9.alloc (.cells #[.int .i64 1, .int .i64 0, .string ⟨#[97, 98, 101]⟩, .int .i64 3, .int .i64 1, .string ⟨#[]⟩, .int .i64 3, .int .i64 2, .string ⟨#[]⟩] 63) = u_ := ⟨_, rfl⟩
 rw [hu] at F3 F5 F6 X2 HB ⊢
 clear hu hbx
 refine (zcd.calls _ _ zdh _ _ [⟨1, 0, ⟨#[97, 98, 101]⟩⟩, ⟨3, 1, ⟨#[]⟩⟩, ⟨3, 2, ⟨#[]⟩⟩] 3 [1, 0, 2] 0 _ (zZ F6.out).1 (zZ F6.out).2 (zgd X2.out rfl (by decide)) (by decide) zg7).mono ?_
 rintro e w10 ⟨v10, rfl, hR10, hb10⟩
 replace HB := za.mk (zo HB.out hb10)
 replace F3 := za.mk (Kd.zB F3.out hb10)
 replace F5 := za.mk (Kd.zB F5.out hb10)
 replace F6 := za.mk (Kd.zB F6.out hb10)
 replace X2 := za.mk (zA X2.out hb10)
 obtain ⟨A10, c10, rfl, _, _⟩ := Kd.zaa hR10
 have F7 := za.mk hR10
 clear hR10 hb10
 clear F6 X2
 go_wp2_with fail
 refine (zbN.calls zej _ rfl).mono ?_
 rintro e w11 ⟨v11, rfl, hR11, hb11⟩
 replace HB := za.mk (zo HB.out hb11)
 replace F3 := za.mk (Kd.zB F3.out hb11)
 replace F5 := za.mk (Kd.zB F5.out hb11)
 replace F7 := za.mk (Kd.zB F7.out hb11)
 obtain ⟨A11, c11, rfl, _, _⟩ := Kd.zgr hR11
 have F8 := za.mk hR11
 clear hR11 hb11
 go_wp2_with fail
 have hbx := ze (Below.refl w11.heap.size w11) (.cells #[.string ⟨#[97, 110, 110, 97]⟩, .string ⟨#[98, 101, 110]⟩, .string ⟨#[100, 97, 110]⟩] 9)
 have X3 := za.mk (heap_alloc_new w11 (.cells #[.string ⟨#[97, 110, 110, 97]⟩, .string ⟨#[98, 101, 110]⟩, .string ⟨#[100, 97, 110]⟩] 9))
 replace HB := za.mk (zo HB.out hbx)
 replace F3 := za.mk (Kd.zB F3.out hbx)
 replace F5 := za.mk (Kd.zB F5.out hbx)
 replace F7 := za.mk (Kd.zB F7.out hbx)
 replace F8 := za.mk (Kd.zcq F8.out hbx)
 obtain ⟨u11, hu⟩ : ∃ u_, w11.alloc (.cells #[.string ⟨#[97, 110, 110, 97]⟩, .string ⟨#[98, 101, 110]⟩, .string ⟨#[100, 97, 110]⟩] 9) = u_ := ⟨_, rfl⟩
 rw [hu] at F3 F5 F7 F8 X3 HB ⊢
 clear hu hbx
 refine (zaW.calls 100 _ _ zej _ _ [⟨#[97, 110, 110, 97]⟩, ⟨#[98, 101, 110]⟩, ⟨#[100, 97, 110]⟩] [1, 0, -1] 0 _ (Kd.zdt F8.out).2.2 (Kd.zdt F8.out).2.1 (zeR X3.out rfl (by decide)) (by decide) zgy).mono ?_
 rintro e w12 ⟨v12, rfl, hR12, hb12⟩
 replace HB := za.mk (zo HB.out hb12)
 replace F3 := za.mk (Kd.zB F3.out hb12)
 replace F5 := za.mk (Kd.zB F5.out hb12)
 replace F7 := za.mk (Kd.zB F7.out hb12)
 replace F8 := za.mk (Kd.zcq F8.out hb12)
 replace X3 := za.mk (zA X3.out hb12)
 obtain ⟨A12, c12, rfl, _, _⟩ := Kd.zaa hR12
 have F9 := za.mk hR12
 clear hR12 hb12
 clear F8 X3
 go_wp2_with fail
 refine (zbN.calls zej _ rfl).mono ?_
 rintro e w13 ⟨v13, rfl, hR13, hb13⟩
 replace HB := za.mk (zo HB.out hb13)
 replace F3 := za.mk (Kd.zB F3.out hb13)
 replace F5 := za.mk (Kd.zB F5.out hb13)
 replace F7 := za.mk (Kd.zB F7.out hb13)
 replace F9 := za.mk (Kd.zB F9.out hb13)
 obtain ⟨A13, c13, rfl, _, _⟩ := Kd.zgr hR13
 have F10 := za.mk hR13
 clear hR13 hb13
 go_wp2_with fail
 refine (zbn.calls 2 ⟨#[100, 97, 110]⟩ 1 2 ⟨#[100, 97, 110]⟩ _ rfl).mono ?_
 rintro e w14 ⟨rfl, hb14⟩
 replace HB := za.mk (zo HB.out hb14)
 replace F3 := za.mk (Kd.zB F3.out hb14)
 replace F5 := za.mk (Kd.zB F5.out hb14)
 replace F7 := za.mk (Kd.zB F7.out hb14)
 replace F9 := za.mk (Kd.zB F9.out hb14)
 replace F10 := za.mk (Kd.zcq F10.out hb14)
 clear hb14
 go_wp2_with fail
 have hbx := ze (Below.refl w14.heap.size w14) (.cells #[.int .i64 1, .int .i64 2, .string ⟨#[100, 97, 110]⟩] 63)
 have X4 := za.mk (heap_alloc_new w14 (.cells #[.int .i64 1, .int .i64 2, .string ⟨#[100, 97, 110]⟩] 63))
 replace HB := za.mk (zo HB.out hbx)
 replace F3 := za.mk (Kd.zB F3.out hbx)
 replace F5 := za.mk (Kd.zB F5.out hbx)
 replace F7 := za.mk (Kd.zB F7.out hbx)
 replace F9 := za.mk (Kd.zB F9.out hbx)
 replace F10 := za.mk (Kd.zcq F10.out hbx)
 have e4 : (w14.alloc (.cells #[.int .i64 1, .int .i64 2, .string ⟨#[100, 97, 110]⟩] 63)).heap.size = w14.heap.size + 1 := Array.size_push _
 have hby := ze (Below.refl _ (w14.alloc (.cells #[.int .i64 1, .int .i64 2, .string ⟨#[100, 97, 110]⟩] 63))) (.cells #[.string ⟨#[97, 110, 110, 97]⟩, .string ⟨#[99, 121, 100]⟩, .string ⟨#[98, 101, 110]⟩, .string ⟨#[100, 97, 110]⟩] 9)
 have X5 := za.mk (heap_alloc_new (w14.alloc (.cells #[.int .i64 1, .int .i64 2, .string ⟨#[100, 97, 110]⟩] 63)) (.cells #[.string ⟨#[97, 110, 110, 97]⟩, .string ⟨#[99, 121, 100]⟩, .string ⟨#[98, 101, 110]⟩, .string ⟨#[100, 97, 110]⟩] 9))
 rw [e4] at X5
 replace HB := za.mk (zo HB.out hby)
 replace F3 := za.mk (Kd.zB F3.out hby)
 replace F5 := za.mk (Kd.zB F5.out hby)
 replace F7 := za.mk (Kd.zB F7.out hby)
 replace F9 := za.mk (Kd.zB F9.out hby)
 replace F10 := za.mk (Kd.zcq F10.out hby)
 replace X4 := za.mk (zA X4.out hby)
 obtain ⟨u14, hu⟩ : ∃ u_, (w14.alloc (.cells #[.int .i64 1, .int .i64 2, .string ⟨#[100, 97, 110]⟩] 63)).alloc (.cells #[.string ⟨#[97, 110, 110, 97]⟩, .string ⟨#[99, 121, 100]⟩, .string ⟨#[98, 101, 110]⟩, .string ⟨#[100, 97, 110]⟩] 9) = u_ := ⟨_, rfl⟩
 rw [hu] at F3 F5 F7 F9 F10 X4 X5 HB ⊢
 clear hu hbx hby e4
 refine (zc9.calls 100 _ _ zej _ _ [⟨1, 2, ⟨#[100, 97, 110]⟩⟩] _ _ [⟨#[97, 110, 110, 97]⟩, ⟨#[99, 121, 100]⟩, ⟨#[98, 101, 110]⟩, ⟨#[100, 97, 110]⟩] 2 2 0 _ (Kd.zdt F10.out).2.2 (Kd.zdt F10.out).2.1 (zgd X4.out rfl (by decide)) (by decide) (zeR X5.out rfl (by decide)) (by decide) zhn).mono ?_
 rintro e w15 ⟨rfl, hb15⟩
 replace HB := za.mk (zo HB.out hb15)
 replace F3 := za.mk (Kd.zB F3.out hb15)
 replace F5 := za.mk (Kd.zB F5.out hb15)
 replace F7 := za.mk (Kd.zB F7.out hb15)
 replace F9 := za.mk (Kd.zB F9.out hb15)
 replace F10 := za.mk (Kd.zcq F10.out hb15)
 replace X4 := za.mk (zA X4.out hb15)
 replace X5 := za.mk (zA X5.out hb15)
 clear hb15
 clear F10 X4 X5
 go_wp2_with fail
 have hbx := ze (Below.refl w15.heap.size w15) (.cells #[.int .i64 2, .int .i64 2] 54)
 replace HB := za.mk (zo HB.out hbx)
 replace F3 := za.mk (Kd.zB F3.out hbx)
 replace F5 := za.mk (Kd.zB F5.out hbx)
 replace F7 := za.mk (Kd.zB F7.out hbx)
 replace F9 := za.mk (Kd.zB F9.out hbx)
 have e4 : (w15.alloc (.cells #[.int .i64 2, .int .i64 2] 54)).heap.size = w15.heap.size + 1 := Array.size_push _
 have hby := ze (Below.refl _ (w15.alloc (.cells #[.int .i64 2, .int .i64 2] 54))) (.cells #[.string ⟨#[97, 110, 110, 97]⟩, .string ⟨#[98, 101, 97]⟩, .string ⟨#[98, 101, 110]⟩, .string ⟨#[99, 105, 100]⟩] 9)
 have X6 := za.mk (heap_alloc_new (w15.alloc (.cells #[.int .i64 2, .int .i64 2] 54)) (.cells #[.string ⟨#[97, 110, 110, 97]⟩, .string ⟨#[98, 101, 97]⟩, .string ⟨#[98, 101, 110]⟩, .string ⟨#[99, 105, 100]⟩] 9))
 rw [e4] at X6
 replace HB := za.mk (zo HB.out hby)
 replace F3 := za.mk (Kd.zB F3.out hby)
 replace F5 := za.mk (Kd.zB F5.out hby)
 replace F7 := za.mk (Kd.zB F7.out hby)
 replace F9 := za.mk (Kd.zB F9.out hby)
 obtain ⟨u15, hu⟩ : ∃ u_, (w15.alloc (.cells #[.int .i64 2, .int .i64 2] 54)).alloc (.cells #[.string ⟨#[97, 110, 110, 97]⟩, .string ⟨#[98, 101, 97]⟩, .string ⟨#[98, 101, 110]⟩, .string ⟨#[99, 105, 100]⟩] 9) = u_ := ⟨_, rfl⟩
 rw [hu] at F3 F5 F7 F9 X6 HB ⊢
 clear hu hbx hby e4
 refine (zad.calls 100 _ _ [⟨#[97, 110, 110, 97]⟩, ⟨#[98, 101, 97]⟩, ⟨#[98, 101, 110]⟩, ⟨#[99, 105, 100]⟩] _ _ [⟨#[97, 110, 110, 97]⟩, ⟨#[98, 101, 97]⟩, ⟨#[98, 101, 110]⟩, ⟨#[99, 105, 100]⟩] true _ (zZ F3.out).1 (zZ F3.out).2 (zeR X6.out rfl (by decide)) (by decide) zib).mono ?_
 rintro e w16 ⟨rfl, nd16, hw16⟩
 have hb16 : Below u15.heap.size u15 w16 := by rw [hw16]; exact zb (Below.refl _ _) _
 clear hw16
 replace HB := za.mk (zo HB.out hb16)
 replace F3 := za.mk (Kd.zB F3.out hb16)
 replace F5 := za.mk (Kd.zB F5.out hb16)
 replace F7 := za.mk (Kd.zB F7.out hb16)
 replace F9 := za.mk (Kd.zB F9.out hb16)
 replace X6 := za.mk (zA X6.out hb16)
 clear hb16
 clear F3 X6
 go_wp2_with fail
 refine (zbO.calls zcV _ rfl).mono ?_
 rintro e w17 ⟨v17, rfl, hR17, hb17⟩
 replace HB := za.mk (zo HB.out hb17)
 replace F5 := za.mk (Kd.zB F5.out hb17)
 replace F7 := za.mk (Kd.zB F7.out hb17)
 replace F9 := za.mk (Kd.zB F9.out hb17)
 obtain ⟨A17, c17, rfl, _, _⟩ := Kd.zaa hR17
 have F11 := za.mk hR17
 clear hR17 hb17
 go_wp2_with fail
 refine (zak.calls 100 _ _ zcV _ _ zcV true _ (zZ F5.out).1 (zZ F5.out).2 (zZ F11.out).1 (zZ F11.out).2 zh2).mono ?_
 rintro e w18 ⟨rfl, nd18, hw18⟩
 have hb18 : Below w17.heap.size w17 w18 := by rw [hw18]; exact zb (Below.refl _ _) _
 clear hw18
 replace HB := za.mk (zo HB.out hb18)
 replace F5 := za.mk (Kd.zB F5.out hb18)
 replace F7 := za.mk (Kd.zB F7.out hb18)
 replace F9 := za.mk (Kd.zB F9.out hb18)
 replace F11 := za.mk (Kd.zB F11.out hb18)
 clear hb18
 clear F5 F11
 go_wp2_with fail
 have hbx := ze (Below.refl w18.heap.size w18) (.cells #[.int .i64 1, .int .i64 0, .int .i64 2] 3)
 have X7 := za.mk (heap_alloc_new w18 (.cells #[.int .i64 1, .int .i64 0, .int .i64 2] 3))
 replace HB := za.mk (zo HB.out hbx)
 replace F7 := za.mk (Kd.zB F7.out hbx)
 replace F9 := za.mk (Kd.zB F9.out hbx)
 obtain ⟨u18, hu⟩ : ∃ u_, w18.alloc (.cells #[.int .i64 1, .int .i64 0, .int .i64 2] 3) = u_ := ⟨_, rfl⟩
 rw [hu] at F7 F9 X7 HB ⊢
 clear hu hbx
 refine (zaB.calls 100 _ _ [1, 0, 2] _ _ [1, 0, 2] true _ (zZ F7.out).1 (zZ F7.out).2 (zgX X7.out rfl (by decide)) (by decide) zhy).mono ?_
 rintro e w19 ⟨rfl, nd19, hw19⟩
 have hb19 : Below u18.heap.size u18 w19 := by rw [hw19]; exact zb (Below.refl _ _) _
 clear hw19
 replace HB := za.mk (zo HB.out hb19)
 replace F7 := za.mk (Kd.zB F7.out hb19)
 replace F9 := za.mk (Kd.zB F9.out hb19)
 replace X7 := za.mk (zA X7.out hb19)
 clear hb19
 clear F7 X7
 go_wp2_with fail
 have hbx := ze (Below.refl w19.heap.size w19) (.cells #[.int .i64 1, .int .i64 0, .int .i64 (-1)] 3)
 have X8 := za.mk (heap_alloc_new w19 (.cells #[.int .i64 1, .int .i64 0, .int .i64 (-1)] 3))
 replace HB := za.mk (zo HB.out hbx)
 replace F9 := za.mk (Kd.zB F9.out hbx)
 obtain ⟨u19, hu⟩ : ∃ u_, w19.alloc (.cells #[.int .i64 1, .int .i64 0, .int .i64 (-1)] 3) = u_ := ⟨_, rfl⟩
 rw [hu] at F9 X8 HB ⊢
 clear hu hbx
 refine (zaB.calls 100 _ _ [1, 0, -1] _ _ [1, 0, -1] true _ (zZ F9.out).1 (zZ F9.out).2 (zgX X8.out rfl (by decide)) (by decide) zhz).mono ?_
 rintro e w20 ⟨rfl, nd20, hw20⟩
 have hb20 : Below u19.heap.size u19 w20 := by rw [hw20]; exact zb (Below.refl _ _) _
 clear hw20
 replace HB := za.mk (zo HB.out hb20)
 replace F9 := za.mk (Kd.zB F9.out hb20)
 replace X8 := za.mk (zA X8.out hb20)
 clear hb20
 clear F9 X8
 go_wp2_with fail
 go_ret
 exact ⟨rfl, HB.out⟩
def named (ms : List S63) (i : Nat) : Bool := ms.any fun m => m.f1 == (i : Int) && m.f0 != 1
def zcI (ms : List S63) : Nat → List ByteArray → List ByteArray
 | _, [] => []
 | i, x :: a => if named ms i = true then zcI ms (i + 1) a else x :: zcI ms (i + 1) a
theorem zdg (m : S63) (ms : List S63) : ∀ (a : List ByteArray) (i : Nat), (m.f1 < (i : Int) ∨ m.f0 = 1) → zcI (m :: ms) i a = zcI ms i a
 | [], _, _ => rfl
 | x :: a, i, h => by
  have e : named (m :: ms) i = named ms i := by
   unfold named
   rw [List.any_cons]
   have : (m.f1 == (i : Int) && m.f0 != 1) = false := by
    rcases h with h | h
    ·rw [show (m.f1 == (i : Int)) = false from beq_eq_false_iff_ne.2 (by omega), Bool.false_and]
    ·rw [h]; simp
   rw [this, Bool.false_or]
  rw [zcI, zcI, e, zdg m ms a (i + 1) (h.imp (fun h => by omega) id)]
theorem zb5.kept {i : Nat} {a b : List ByteArray} {ms : List S63} (h : zb5 i a b ms) : (zcI ms i a).Sublist b ∧ ((zcI ms i a).length : Int) + zby ms = b.length := by
 induction h with
 | nil i => exact ⟨List.Sublist.refl _, rfl⟩
 | @ins i a b ms y h ih =>
  rw [zdg _ _ _ _ (.inr rfl)]
  refine ⟨ih.1.cons y, ?_⟩
  simp [zby]; omega
 | @del i a b ms x h ih =>
  have e : named (⟨3, (i : Int), ⟨#[]⟩⟩ :: ms) i = true := by simp [named]
  rw [zcI, if_pos e, zdg _ _ _ _ (.inl (by dsimp only; omega))]
  refine ⟨ih.1, ?_⟩
  simp [zby]; omega
 | @set i a b ms x y h ih =>
  have e : named (⟨2, (i : Int), y⟩ :: ms) i = true := by simp [named]
  rw [zcI, if_pos e, zdg _ _ _ _ (.inl (by dsimp only; omega))]
  refine ⟨ih.1.cons y, ?_⟩
  simp [zby]; omega
 | @keep i a b ms x h ih =>
  have e : named ms i = false := by
   unfold named
   rw [List.any_eq_false]
   intro m hm
   have := h.ge m hm
   have : (m.f1 == (i : Int)) = false := beq_eq_false_iff_ne.2 (by omega)
   simp [this]
  rw [zcI, e, if_neg (by decide)]
  refine ⟨ih.1.cons_cons x, ?_⟩
  simp only [List.length_cons]; omega
def okP (v : Int) : Prop := (97 ≤ v ∧ v ≤ 122) ∨ (48 ≤ v ∧ v ≤ 57) ∨ v = 32
theorem ziF {A : Nat → Option Int} {v r : Int} (hok : okP v → Ev A r) (hbad : ¬ okP v → r = 2) :
  Ev (fun k => if v < 97 then (if v < 48 then (if v = 32 then A k else some 2) else (if v > 57 then (if v = 32 then A k else some 2) else A k)) else (if v > 122 then (if v < 48 then (if v = 32 then A k else some 2) else (if v > 57 then (if v = 32 then A k else some 2) else A k)) else A k)) r := by
 unfold okP at hok hbad
 by_cases c1 : v < 97
 ·refine Ev.ifp c1 ?_
  by_cases c2 : v < 48
  ·refine Ev.ifp c2 ?_
   by_cases c3 : v = 32
   ·exact Ev.ifp c3 (hok (by omega))
   ·refine Ev.ifn c3 ?_
    rw [hbad (by omega)]; exact Ev.now _
  ·refine Ev.ifn c2 ?_
   by_cases c3 : v > 57
   ·refine Ev.ifp c3 (Ev.ifn (by omega) ?_)
    rw [hbad (by omega)]; exact Ev.now _
   ·exact Ev.ifn c3 (hok (by omega))
 ·refine Ev.ifn c1 ?_
  by_cases c2 : v > 122
  ·refine Ev.ifp c2 (Ev.ifn (by omega) (Ev.ifp (by omega) (Ev.ifn (by omega) ?_)))
   rw [hbad (by omega)]; exact Ev.now _
  ·exact Ev.ifn c2 (hok (by omega))
theorem zge (c : UInt8) : okb c = true ↔ okP (c.toNat : Int) := by
 rw [zgq]; unfold okP
 simp only [Bool.or_eq_true, Bool.and_eq_true, decide_eq_true_eq]
 omega
theorem zia (s : ByteArray) (i : Nat) (h : i < s.data.toList.length) : bt s (i : Int) = (s.data.toList[i].toNat : Int) := by
 have h' : i < s.size := by simpa using h
 simp only [bt, Int.toNat_natCast]
 rw [dif_pos h']
 simp [ByteArray.getElem_eq_getElem_data]
theorem zf2 (s : ByteArray) : Ev (fun k => zS.f k s) (za0 s) := by
 have hsz : s.size = s.data.toList.length := by simp
 obtain ⟨L, hL⟩ : ∃ L, s.data.toList = L := ⟨_, rfl⟩
 have hbt : ∀ (i : Nat) (h : i < L.length), bt s (i : Int) = (L[i].toNat : Int) := by subst hL; exact zia s
 unfold zS.f za0
 rw [hsz, hL]
 by_cases h0 : L.length = 0
 ·simp only [if_pos h0]
  exact Ev.ifp (by omega) (Ev.now _)
 ·simp only [if_neg h0]
  refine Ev.ifn (by omega) ?_
  by_cases h10 : 10 < L.length
  ·simp only [if_pos h10]
   exact Ev.ifp (by omega) (Ev.now _)
  ·simp only [if_neg h10]
   refine Ev.ifn (by omega) ?_
   have hfin : ∀ r, (if L.head? = some 32 ∨ L.getLast? = some 32 then (2 : Int) else 0) = r → Ev (fun _ => if 0 < (s.size : Int) then (if (bt s 0) = 32 then (some 2) else (if 0 ≤ (wrap64 ((s.size : Int) - 1)) then (if (wrap64 ((s.size : Int) - 1)) < (s.size : Int) then (if (bt s (wrap64 ((s.size : Int) - 1))) = 32 then (some 2) else (some 0)) else (none)) else (none))) else (none)) r := by
    intro r hr
    have e0 := hbt 0 (by omega)
    have e1 := hbt (L.length - 1) (by omega)
    have hs1 : ((L.length - 1 : Nat) : Int) = (L.length : Int) - 1 := by omega
    rw [hs1] at e1
    have e0' : bt s 0 = (L[0].toNat : Int) := e0
    have hh : L.head? = some L[0] := by rw [List.head?_eq_getElem?, List.getElem?_eq_getElem (by omega)]
    have ht : L.getLast? = some L[L.length - 1] := by rw [List.getLast?_eq_getElem?, List.getElem?_eq_getElem (by omega)]
    have u32 : ∀ c : UInt8, (some c = some (32 : UInt8)) ↔ (c.toNat : Int) = 32 := by
     intro c
     rw [Option.some.injEq, ← UInt8.toNat_inj]
     constructor
     ·intro h; rw [h]; rfl
     ·intro h; have : c.toNat = 32 := by omega
      rw [this]; rfl
    simp only [hh, ht, u32] at hr
    rw [hsz, hL, ze4 (by omega) (by omega), e0', e1]
    refine Ev.ifp (by omega) ?_
    by_cases c0 : (L[0].toNat : Int) = 32
    ·rw [if_pos (.inl c0)] at hr
     rw [← hr]; exact Ev.ifp c0 (Ev.now _)
    ·refine Ev.ifn c0 (Ev.ifp (by omega) (Ev.ifp (by omega) ?_))
     by_cases c1 : (L[L.length - 1].toNat : Int) = 32
     ·rw [if_pos (.inr c1)] at hr
      rw [← hr]; exact Ev.ifp c1 (Ev.now _)
     ·rw [if_neg (fun h => h.elim c0 c1)] at hr
      rw [← hr]; exact Ev.ifn c1 (Ev.now _)
   have go : ∀ (m i : Nat), L.length - i = m → i ≤ L.length → Ev (fun k => zS.l0 k s (i : Int)) (if (L.drop i).all okb = true then (if L.head? = some 32 ∨ L.getLast? = some 32 then (2 : Int) else 0) else 2) := by
    intro m
    induction m with
    | zero =>
     intro i hm hi
     rw [List.drop_eq_nil_of_le (by omega), List.all_nil, if_pos rfl]
     refine Ev.step (fun k => by rw [zS.l0]) ?_
     refine Ev.ifn (by rw [hsz, hL]; omega) ?_
     exact hfin _ rfl
    | succ m ih =>
     intro i hm hi
     have hlt : i < L.length := by omega
     have hnext := ih (i + 1) (by omega) (by omega)
     rw [List.drop_eq_getElem_cons hlt, List.all_cons]
     refine Ev.step (fun k => by rw [zS.l0]) ?_
     refine Ev.ifp (by rw [hsz, hL]; omega) ?_
     refine Ev.ifp (by omega) ?_
     rw [hbt i hlt, zcX _ (by omega)]
     refine ziF ?_ ?_
     ·intro hk
      rw [(zge _).2 hk, Bool.true_and]
      exact hnext
     ·intro hk
      have : okb L[i] = false := Bool.eq_false_iff.2 (fun h => hk ((zge _).1 h))
      rw [this, Bool.false_and, if_neg (by decide)]
   have := go L.length 0 (by omega) (by omega)
   rw [List.drop_zero] at this
   exact this
theorem zer (p : List ByteArray) : Ev (fun k => zV.f k p) (zaS p) := by
 unfold zV.f zaS
 by_cases h6 : 6 < p.length
 ·simp only [if_pos h6]
  exact Ev.ifp (by omega) (Ev.now _)
 ·simp only [if_neg h6]
  refine Ev.ifn (by omega) ?_
  have go : ∀ (m i : Nat), p.length - i = m → i ≤ p.length → Ev (fun k => zV.l0 k p (i : Int)) (zb7 (p.drop i)) := by
   intro m
   induction m with
   | zero =>
    intro i hm hi
    rw [List.drop_eq_nil_of_le (by omega), zb7]
    refine Ev.step (fun k => by rw [zV.l0]) ?_
    exact Ev.ifn (by omega) (Ev.now _)
   | succ m ih =>
    intro i hm hi
    have hlt : i < p.length := by omega
    have r1 : zaH ByteArray.empty p (i : Int) = p[i] := by simp [zaH, hlt]
    rw [List.drop_eq_getElem_cons hlt, zb7]
    refine Ev.step (fun k => by rw [zV.l0]) ?_
    refine Ev.ifp (by omega) ?_
    refine Ev.ifp (by omega) ?_
    rw [r1, zcX _ (by omega)]
    refine Ev.be (zf2 _) ?_
    by_cases he : za0 p[i] = 0
    ·simp only [if_pos he]
     exact ih (i + 1) (by omega) (by omega)
    ·simp only [if_neg he]
     exact Ev.now _
  have := go p.length 0 (by omega) (by omega)
  rw [List.drop_zero] at this
  exact this
theorem zde (ms : List S63) (hm : ms.length ≤ 1000) : Ev (fun k => zN.f k ms) (zby ms) := by
 have go : ∀ (m i : Nat) (n : Int), ms.length - i = m → i ≤ ms.length → 0 ≤ n → n ≤ (i : Int) → Ev (fun k => zN.l0 k ms n (i : Int)) (n + zby (ms.drop i)) := by
  intro m
  induction m with
  | zero =>
   intro i n hm hi h0 h1
   rw [List.drop_eq_nil_of_le (by omega), zby, Int.add_zero]
   refine Ev.step (fun k => by rw [zN.l0]) ?_
   exact Ev.ifn (by omega) (Ev.now _)
  | succ m ih =>
   intro i n hm hi h0 h1
   have hlt : i < ms.length := by omega
   have hlt' : (i : Int) < (ms.length : Int) := by omega
   have r1 : zk ms (i : Int) = ms[i] := by simp [zk, hlt]
   rw [List.drop_eq_getElem_cons hlt, zby]
   refine Ev.step (fun k => by rw [zN.l0]) ?_
   refine Ev.ifp hlt' ?_
   refine Ev.ifp (by omega) ?_
   rw [r1, zcX _ (by omega)]
   by_cases hc : ms[i].f0 = 3
   ·rw [if_pos hc, Int.zero_add]
    exact Ev.ifp hc (ih (i + 1) n (by omega) (by omega) h0 (by omega))
   ·rw [if_neg hc]
    refine Ev.ifn hc ?_
    rw [ze4 (by omega) (by omega)]
    have := ih (i + 1) (n + 1) (by omega) (by omega) (by omega) (by omega)
    rw [Int.add_assoc] at this
    exact this
 have := go ms.length 0 0 (by omega) (by omega) (by omega) (by omega)
 rw [List.drop_zero, Int.zero_add] at this
 exact this
theorem zfD (p : List ByteArray) (hp : p.length ≤ 1000) : Ev (fun k => zad.f k p p) true := ⟨p.length + 1, fun k hk => zfe p hp k (by omega)⟩
theorem zgH (ms : List S63) (hp : ms.length ≤ 1000) : Ev (fun k => zak.f k ms ms) true := by
 have go : ∀ (m i : Nat), ms.length - i = m → i ≤ ms.length → Ev (fun k => zak.l0 k ms ms (i : Int)) true := by
  intro m
  induction m with
  | zero =>
   intro i h hi
   refine Ev.step (fun k => by rw [zak.l0]) ?_
   exact Ev.ifn (by omega) (Ev.now _)
  | succ m ih =>
   intro i h hi
   have hlt : (i : Int) < (ms.length : Int) := by omega
   refine Ev.step (fun k => by rw [zak.l0]) ?_
   refine Ev.ifp hlt (Ev.ifp (by omega) (Ev.ifp hlt ?_))
   refine Ev.ifn (by simp) ?_
   rw [zcX _ (by omega)]
   exact ih (i + 1) (by omega) (by omega)
 unfold zak.f
 exact Ev.ifp rfl (go ms.length 0 (by omega) (by omega))
theorem zgi (p : List ByteArray) (hp : p.length ≤ 9223372036854775807) : ∃ b : Bool, Ev (fun k => zaq.f k p) b ∧ (b = false → p.length ≤ 20) := by
 have go : ∀ (m i : Nat), p.length - i = m → i ≤ p.length → ∃ b : Bool, Ev (fun k => zaq.l0 k p (i : Int)) b ∧ (b = false → p.length ≤ 20) := by
  intro m
  induction m with
  | zero =>
   intro i h hi
   refine ⟨decide ((p.length : Int) > 20), ?_, fun h => by have := of_decide_eq_false h; omega⟩
   refine Ev.step (fun k => by rw [zaq.l0]) ?_
   exact Ev.ifn (by omega) (Ev.now _)
  | succ m ih =>
   intro i h hi
   have hlt : (i : Int) < (p.length : Int) := by omega
   have hw : wrap64 ((i : Int) + 1) = ((i + 1 : Nat) : Int) := by unfold wrap64; omega
   by_cases hc : ((zaH ByteArray.empty p (i : Int)).size : Int) > 30
   ·refine ⟨true, ?_, fun h => by cases h⟩
    refine Ev.step (fun k => by rw [zaq.l0]) ?_
    exact Ev.ifp hlt (Ev.ifp (by omega) (Ev.ifp hc (Ev.now _)))
   ·obtain ⟨b, h1, h2⟩ := ih (i + 1) (by omega) (by omega)
    refine ⟨b, ?_, h2⟩
    refine Ev.step (fun k => by rw [zaq.l0]) ?_
    refine Ev.ifp hlt (Ev.ifp (by omega) (Ev.ifn hc ?_))
    rw [hw]; exact h1
 exact go p.length 0 (by omega) (by omega)
def zdR (a b : S63) : Bool := if a.f1 = b.f1 then (if a.f0 = b.f0 then Op.bytesLess a.f2.toList b.f2.toList else decide (a.f0 < b.f0)) else decide (a.f1 < b.f1)
def zdV (a b : S63) : Bool := a.f0 == b.f0 && a.f1 == b.f1 && a.f2.toList == b.f2.toList
def zcl : List S63 → List S63 → Bool
 | a :: x, b :: y => if zdV a b = true then zcl x y else zdR a b
 | _, _ => false
def zb3 (x y : List S63) : Bool := if zby x = zby y then (if x.length = y.length then zcl x y else decide (x.length < y.length)) else decide (zby x < zby y)
theorem zhD (a b : S63) : zbf.f a.f0 a.f1 a.f2 b.f0 b.f1 b.f2 = some (zdR a b) := by
 unfold zbf.f zdR
 split <;> (try split) <;> simp_all
theorem zcY (x y : List S63) (hx : x.length ≤ 1000) (hy : y.length ≤ 1000) : Ev (fun k => zz.f k x y) (zb3 x y) := by
 have go : ∀ (m i : Nat), x.length - i = m → i ≤ x.length → x.length = y.length → Ev (fun k => zz.l0 k x y (i : Int)) (zcl (x.drop i) (y.drop i)) := by
  intro m
  induction m with
  | zero =>
   intro i hm hi he
   rw [List.drop_eq_nil_of_le (by omega), show zcl [] (y.drop i) = false by cases y.drop i <;> rfl]
   refine Ev.step (fun k => by rw [zz.l0]) ?_
   exact Ev.ifn (by omega) (Ev.now _)
  | succ m ih =>
   intro i hm hi he
   have hlt : i < x.length := by omega
   have hlt2 : i < y.length := by omega
   have c1 : (i : Int) < (x.length : Int) := by omega
   have c2 : (i : Int) < (y.length : Int) := by omega
   have r1 : zk x (i : Int) = x[i] := by simp [zk, hlt]
   have r2 : zk y (i : Int) = y[i] := by simp [zk, hlt2]
   have hn := ih (i + 1) (by omega) (by omega) he
   rw [List.drop_eq_getElem_cons hlt, List.drop_eq_getElem_cons hlt2, zcl]
   obtain ⟨a, ha⟩ : ∃ a, x[i] = a := ⟨_, rfl⟩
   obtain ⟨b, hb⟩ : ∃ b, y[i] = b := ⟨_, rfl⟩
   rw [ha] at r1 ⊢
   rw [hb] at r2 ⊢
   refine Ev.step (fun k => by rw [zz.l0]) ?_
   refine Ev.ifp c1 (Ev.ifp (by omega) (Ev.ifp c2 ?_))
   rw [r1, r2, zcX _ (by omega)]
   by_cases hs : zdV a b = true
   ·rw [if_pos hs]
    refine Ev.ifn ?_ hn
    unfold zdV at hs
    simp only [Bool.and_eq_true] at hs
    obtain ⟨⟨h1, h2⟩, h3⟩ := hs
    rw [h1, h2, h3]; decide
   ·rw [if_neg hs]
    refine Ev.ifp ?_ (Ev.bs (zhD a b) (Ev.now _))
    unfold zdV at hs
    cases h1 : (a.f0 == b.f0) <;> cases h2 : (a.f1 == b.f1) <;> cases h3 : (a.f2.toList == b.f2.toList) <;> simp_all
 unfold zz.f zb3
 refine Ev.be (zde x hx) ?_
 refine Ev.be (zde y hy) ?_
 by_cases hc : zby x = zby y
 ·simp only [if_pos hc]
  by_cases hl : x.length = y.length
  ·simp only [if_pos hl]
   refine Ev.ifp (by omega) ?_
   have := go x.length 0 (by omega) (by omega) hl
   rw [List.drop_zero, List.drop_zero] at this
   exact this
  ·simp only [if_neg hl]
   refine Ev.ifn (by omega) ?_
   rw [show decide (x.length < y.length) = decide ((x.length : Int) < (y.length : Int)) by rw [decide_eq_decide]; omega]
   exact Ev.now _
 ·simp only [if_neg hc]
  refine Ev.be (zde x hx) ?_
  refine Ev.be (zde y hy) ?_
  exact Ev.now _
def zbc (best : Option (List S63)) (l : List S63) : Option (List S63) := match best with
 | none => some l
 | some b => if zb3 l b = true then some l else some b
def zbZ : Option (List S63) → List S63
 | some l => l
 | none => []
def rdS (i : Nat) : List ByteArray → List ByteArray → List S63
 | [], [] => []
 | [], y :: b => zbZ (zbc none (⟨1, i, y⟩ :: rdS i [] b))
 | _ :: a, [] => zbZ (zbc none (⟨3, i, ⟨#[]⟩⟩ :: rdS (i + 1) a []))
 | x :: a, y :: b => zbZ (zbc (zbc (zbc (if x.toList = y.toList then some (rdS (i + 1) a b) else none) (⟨1, i, y⟩ :: rdS i (x :: a) b)) (⟨2, i, y⟩ :: rdS (i + 1) a b)) (⟨3, i, ⟨#[]⟩⟩ :: rdS (i + 1) a (y :: b)))
termination_by a b => a.length + b.length
theorem zcy {best : Option (List S63)} {l : List S63} {n : Nat} (hb : (zbZ best).length ≤ n) (hl : l.length ≤ n) : (zbZ (zbc best l)).length ≤ n := by
 unfold zbc
 cases best with
 | none => exact hl
 | some b =>
  dsimp only
  split
  ·exact hl
  ·exact hb
theorem zdn (a : List ByteArray) : ∀ (b : List ByteArray) (i : Nat), (rdS i a b).length ≤ a.length + b.length := by
 induction a with
 | nil =>
  intro b
  induction b with
  | nil => intro i; rw [rdS]; simp
  | cons y b ih =>
   intro i; rw [rdS]
   have := ih i
   refine zcy (Nat.zero_le _) ?_
   simp only [List.length_cons] at this ⊢; omega
 | cons x a iha =>
  intro b
  induction b with
  | nil =>
   intro i; rw [rdS]
   have := iha [] (i + 1)
   refine zcy (Nat.zero_le _) ?_
   simp only [List.length_cons] at this ⊢; omega
  | cons y b ih =>
   intro i; rw [rdS]
   have h1 := ih i
   have h2 := iha (y :: b) (i + 1)
   have h3 := iha b (i + 1)
   simp only [List.length_cons] at h1 h2 ⊢
   refine zcy (zcy (zcy ?_ ?_) ?_) ?_
   ·split
    ·simp only [zbZ]; omega
    ·simp [zbZ]
   ·simp only [List.length_cons]; omega
   ·simp only [List.length_cons]; omega
   ·simp only [List.length_cons]; omega
end Go.Proofs.Ytgmbbfmbimofoaa.P
