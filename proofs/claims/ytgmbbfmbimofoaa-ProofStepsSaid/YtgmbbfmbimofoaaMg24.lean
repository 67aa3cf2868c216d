-- MERGED BY A PROGRAM out of texts of this claim: hand work, and what a (turned) print of the kit has written for it
import Derived.Outline
import Derived.Test.YtgmbbfmbimofoaaMg23
import Derived.Test.YtgmbbfmbimofoaaMg6
import Derived.Test.YtgmbbfmbimofoaaMg19
import Derived.Test.YtgmbbfmbimofoaaMg5
import Derived.Test.YtgmbbfmbimofoaaMg7
import Derived.Test.YtgmbbfmbimofoaaMg22
namespace Go.Proofs.Ytgmbbfmbimofoaa.P
open Go.RowKit Go.Proofs.YtgmbbfmbimofoaaW.PrintWords Go.Proofs.YtgmbbfmbimofoaaW.PrintLast Go.Proofs.YtgmbbfmbimofoaaW.PrintMore
attribute [local go_sem] zI zJ zP zO zH zG zM zK
set_option linter.unusedVariables false
set_option linter.unusedSimpArgs false
def zdd : ByteArray := ⟨#[97, 110, 110, 97]⟩
def zd7 : ByteArray := ⟨#[98, 101, 110]⟩
def zhx : ByteArray := ⟨#[99, 121, 100]⟩
def zfK : ByteArray := ⟨#[98, 101, 97]⟩
def zfB : ByteArray := ⟨#[99, 105, 100]⟩
def zhm : ByteArray := ⟨#[100, 97, 110]⟩
def ziD : ByteArray := ⟨#[97, 98, 101]⟩
def zdk : List ByteArray := [zdd, zd7, zhx]
def zc3 : List S63 := [⟨1, 1, zfK⟩, ⟨2, 2, zfB⟩]
def zee : List (List ByteArray) := [[zdd, zd7], [zdd, zhx]]
theorem zgZ : zct.f 100 zdk zc3 = some ([zdd, zfK, zd7, zfB], 0) := by kernel_rfl
theorem zgu : za5.f 100 zee [zdd, zd7, zhm] = some ([1, 0, -1], 0) := by kernel_rfl
theorem zhV : zae.f 100 [zdd, zfK, zd7, zfB] [zdd, zfK, zd7, zfB] = some true := by kernel_rfl
theorem zgP : zbJ.f zdk [⟨1, 0, ziD⟩, ⟨3, 1, ⟨#[]⟩⟩, ⟨3, 2, ⟨#[]⟩⟩] 3 = some ([1, 0, 2], 0) := by kernel_rfl
theorem zh1 : zaq.f 100 zc3 zc3 = some true := by kernel_rfl
theorem zhe : zam.f 100 [1, 0, 2] [1, 0, 2] = some true := by kernel_rfl
theorem zhw : zam.f 100 [1, 0, -1] [1, 0, -1] = some true := by kernel_rfl
theorem zhA : zdj.f 100 zdk [zdd, zfK, zd7, zfB] = some (zc3, 0) := by kernel_rfl
theorem zhh : zdh.f 100 zee [⟨1, 2, zhm⟩] [zdd, zhx, zd7, zhm] = some (2, 2, 0) := by kernel_rfl
set_option maxHeartbeats 4000000 in
set_option maxRecDepth 100000 in
theorem zcR (w : World) : Calls Try.prog 18 #[] w fun e w' => e = .returned (.bool true) ∧ Below w.heap.size w w' := by
 go_enter Try.func18, Try.ntmps18
 have HB := za.mk (Below.refl w.heap.size w)
 go_wp2_with fail
 refine (zbH.calls zdk _ rfl).mono ?_
 rintro e w1 ⟨v1, rfl, hR1, hb1⟩
 replace HB := za.mk (zo HB.out hb1)
 obtain ⟨A1, c1, rfl, _, _⟩ := Kd.zan hR1
 have F1 := za.mk hR1
 clear hR1 hb1
 go_wp2_with fail
 refine (zb0.calls zc3 _ rfl).mono ?_
 rintro e w2 ⟨v2, rfl, hR2, hb2⟩
 replace HB := za.mk (zo HB.out hb2)
 replace F1 := za.mk (Kd.zN F1.out hb2)
 obtain ⟨A2, c2, rfl, _, _⟩ := Kd.zan hR2
 have F2 := za.mk hR2
 clear hR2 hb2
 go_wp2_with fail
 refine (zct.calls 100 _ _ zdk _ _ zc3 [⟨#[97, 110, 110, 97]⟩, ⟨#[98, 101, 97]⟩, ⟨#[98, 101, 110]⟩, ⟨#[99, 105, 100]⟩] 0 _ (zaS F1.out).1 (zaS F1.out).2 (zaS F2.out).1 (zaS F2.out).2 zgZ).mono ?_
 rintro e w3 ⟨v3, rfl, hR3, hb3⟩
 replace HB := za.mk (zo HB.out hb3)
 replace F1 := za.mk (Kd.zN F1.out hb3)
 replace F2 := za.mk (Kd.zN F2.out hb3)
 obtain ⟨A3, c3, rfl, _, _⟩ := Kd.zan hR3
 have F3 := za.mk hR3
 clear hR3 hb3
 clear F1 F2
 go_wp2_with fail
 refine (zbH.calls zdk _ rfl).mono ?_
 rintro e w4 ⟨v4, rfl, hR4, hb4⟩
 replace HB := za.mk (zo HB.out hb4)
 replace F3 := za.mk (Kd.zN F3.out hb4)
 obtain ⟨A4, c4, rfl, _, _⟩ := Kd.zan hR4
 have F4 := za.mk hR4
 clear hR4 hb4
 go_wp2_with fail
 have hbx := ze (Below.refl w4.heap.size w4) (.cells #[.string ⟨#[97, 110, 110, 97]⟩, .string ⟨#[98, 101, 97]⟩, .string ⟨#[98, 101, 110]⟩, .string ⟨#[99, 105, 100]⟩] 9)
 have X1 := za.mk (heap_alloc_new w4 (.cells #[.string ⟨#[97, 110, 110, 97]⟩, .string ⟨#[98, 101, 97]⟩, .string ⟨#[98, 101, 110]⟩, .string ⟨#[99, 105, 100]⟩] 9))
 replace HB := za.mk (zo HB.out hbx)
 replace F3 := za.mk (Kd.zN F3.out hbx)
 replace F4 := za.mk (Kd.zN F4.out hbx)
 obtain ⟨u4, hu⟩ : ∃ u_, w4.alloc (.cells #[.string ⟨#[97, 110, 110, 97]⟩, .string ⟨#[98, 101, 97]⟩, .string ⟨#[98, 101, 110]⟩, .string ⟨#[99, 105, 100]⟩] 9) = u_ := ⟨_, rfl⟩
 rw [hu] at F3 F4 X1 HB ⊢
 clear hu hbx
 refine (zdj.calls 100 _ _ zdk _ _ [⟨#[97, 110, 110, 97]⟩, ⟨#[98, 101, 97]⟩, ⟨#[98, 101, 110]⟩, ⟨#[99, 105, 100]⟩] zc3 0 _ (zaS F4.out).1 (zaS F4.out).2 (zeH X1.out rfl (by decide)) (by decide) zhA).mono ?_
 rintro e w5 ⟨v5, rfl, hR5, hb5⟩
 replace HB := za.mk (zo HB.out hb5)
 replace F3 := za.mk (Kd.zN F3.out hb5)
 replace F4 := za.mk (Kd.zN F4.out hb5)
 replace X1 := za.mk (zF X1.out hb5)
 obtain ⟨A5, c5, rfl, _, _⟩ := Kd.zan hR5
 have F5 := za.mk hR5
 clear hR5 hb5
 clear F4 X1
 go_wp2_with fail
 refine (zbH.calls zdk _ rfl).mono ?_
 rintro e w6 ⟨v6, rfl, hR6, hb6⟩
 replace HB := za.mk (zo HB.out hb6)
 replace F3 := za.mk (Kd.zN F3.out hb6)
 replace F5 := za.mk (Kd.zN F5.out hb6)
 obtain ⟨A6, c6, rfl, _, _⟩ := Kd.zan hR6
 have F6 := za.mk hR6
 clear hR6 hb6
 go_wp2_with fail
 refine (zbu.calls 0 ⟨#[97, 98, 101]⟩ 1 0 ⟨#[97, 98, 101]⟩ _ rfl).mono ?_
 rintro e w7 ⟨rfl, hb7⟩
 replace HB := za.mk (zo HB.out hb7)
 replace F3 := za.mk (Kd.zN F3.out hb7)
 replace F5 := za.mk (Kd.zN F5.out hb7)
 replace F6 := za.mk (Kd.zN F6.out hb7)
 clear hb7
 go_wp2_with fail
 refine (zb2.calls 1 3 1 ⟨#[]⟩ _ rfl).mono ?_
 rintro e w8 ⟨rfl, hb8⟩
 replace HB := za.mk (zo HB.out hb8)
 replace F3 := za.mk (Kd.zN F3.out hb8)
 replace F5 := za.mk (Kd.zN F5.out hb8)
 replace F6 := za.mk (Kd.zN F6.out hb8)
 clear hb8
 go_wp2_with fail
 refine (zb2.calls 2 3 2 ⟨#[]⟩ _ rfl).mono ?_
 rintro e w9 ⟨rfl, hb9⟩
 replace HB := za.mk (zo HB.out hb9)
 replace F3 := za.mk (Kd.zN F3.out hb9)
 replace F5 := za.mk (Kd.zN F5.out hb9)
 replace F6 := za.mk (Kd.zN F6.out hb9)
 clear hb9
 go_wp2_with fail
 have hbx := ze (Below.refl w9.heap.size w9) (.cells #[.int .i64 1, .int .i64 0, .string ⟨#[97, 98, 101]⟩, .int .i64 3, .int .i64 1, .string ⟨#[]⟩, .int .i64 3, .int .i64 2, .string ⟨#[]⟩] 63)
 have X2 := za.mk (heap_alloc_new w9 (.cells #[.int .i64 1, .int .i64 0, .string ⟨#[97, 98, 101]⟩, .int .i64 3, .int .i64 1, .string ⟨#[]⟩, .int .i64 3, .int .i64 2, .string ⟨#[]⟩] 63))
 replace HB := za.mk (zo HB.out hbx)
 replace F3 := za.mk (Kd.zN F3.out hbx)
 replace F5 := za.mk (Kd.zN F5.out hbx)
 replace F6 := za.mk (Kd.zN F6.out hbx)
 obtain ⟨u9, hu⟩ : ∃ u_, w9.alloc (.cells #[.int .i64 1, .int .i64 0, .string ⟨#[97, 98, 101]⟩, .int .i64 3, .int .i64 1, .string ⟨#[]⟩, .int .i64 3, .int .i64 2, .string ⟨#[]⟩] 63) = u_ := ⟨_, rfl⟩
 rw [hu] at F3 F5 F6 X2 HB ⊢
 clear hu hbx
 refine (zbJ.calls _ _ zdk _ _ [⟨1, 0, ⟨#[97, 98, 101]⟩⟩, ⟨3, 1, ⟨#[]⟩⟩, ⟨3, 2, ⟨#[]⟩⟩] 3 [1, 0, 2] 0 _ (zaS F6.out).1 (zaS F6.out).2 (zgd X2.out rfl (by decide)) (by decide) zgP).mono ?_
 rintro e w10 ⟨v10, rfl, hR10, hb10⟩
 replace HB := za.mk (zo HB.out hb10)
 replace F3 := za.mk (Kd.zN F3.out hb10)
 replace F5 := za.mk (Kd.zN F5.out hb10)
 replace F6 := za.mk (Kd.zN F6.out hb10)
 replace X2 := za.mk (zF X2.out hb10)
 obtain ⟨A10, c10, rfl, _, _⟩ := Kd.zan hR10
 have F7 := za.mk hR10
 clear hR10 hb10
 clear F6 X2
 go_wp2_with fail
 refine (zbZ.calls zee _ rfl).mono ?_
 rintro e w11 ⟨v11, rfl, hR11, hb11⟩
 replace HB := za.mk (zo HB.out hb11)
 replace F3 := za.mk (Kd.zN F3.out hb11)
 replace F5 := za.mk (Kd.zN F5.out hb11)
 replace F7 := za.mk (Kd.zN F7.out hb11)
 obtain ⟨A11, c11, rfl, _, _⟩ := Kd.zgm hR11
 have F8 := za.mk hR11
 clear hR11 hb11
 go_wp2_with fail
 have hbx := ze (Below.refl w11.heap.size w11) (.cells #[.string ⟨#[97, 110, 110, 97]⟩, .string ⟨#[98, 101, 110]⟩, .string ⟨#[100, 97, 110]⟩] 9)
 have X3 := za.mk (heap_alloc_new w11 (.cells #[.string ⟨#[97, 110, 110, 97]⟩, .string ⟨#[98, 101, 110]⟩, .string ⟨#[100, 97, 110]⟩] 9))
 replace HB := za.mk (zo HB.out hbx)
 replace F3 := za.mk (Kd.zN F3.out hbx)
 replace F5 := za.mk (Kd.zN F5.out hbx)
 replace F7 := za.mk (Kd.zN F7.out hbx)
 replace F8 := za.mk (Kd.zcA F8.out hbx)
 obtain ⟨u11, hu⟩ : ∃ u_, w11.alloc (.cells #[.string ⟨#[97, 110, 110, 97]⟩, .string ⟨#[98, 101, 110]⟩, .string ⟨#[100, 97, 110]⟩] 9) = u_ := ⟨_, rfl⟩
 rw [hu] at F3 F5 F7 F8 X3 HB ⊢
 clear hu hbx
 refine (za5.calls 100 _ _ zee _ _ [⟨#[97, 110, 110, 97]⟩, ⟨#[98, 101, 110]⟩, ⟨#[100, 97, 110]⟩] [1, 0, -1] 0 _ (Kd.zdr F8.out).2.2 (Kd.zdr F8.out).2.1 (zeH X3.out rfl (by decide)) (by decide) zgu).mono ?_
 rintro e w12 ⟨v12, rfl, hR12, hb12⟩
 replace HB := za.mk (zo HB.out hb12)
 replace F3 := za.mk (Kd.zN F3.out hb12)
 replace F5 := za.mk (Kd.zN F5.out hb12)
 replace F7 := za.mk (Kd.zN F7.out hb12)
 replace F8 := za.mk (Kd.zcA F8.out hb12)
 replace X3 := za.mk (zF X3.out hb12)
 obtain ⟨A12, c12, rfl, _, _⟩ := Kd.zan hR12
 have F9 := za.mk hR12
 clear hR12 hb12
 clear F8 X3
 go_wp2_with fail
 refine (zbZ.calls zee _ rfl).mono ?_
 rintro e w13 ⟨v13, rfl, hR13, hb13⟩
 replace HB := za.mk (zo HB.out hb13)
 replace F3 := za.mk (Kd.zN F3.out hb13)
 replace F5 := za.mk (Kd.zN F5.out hb13)
 replace F7 := za.mk (Kd.zN F7.out hb13)
 replace F9 := za.mk (Kd.zN F9.out hb13)
 obtain ⟨A13, c13, rfl, _, _⟩ := Kd.zgm hR13
 have F10 := za.mk hR13
 clear hR13 hb13
 go_wp2_with fail
 refine (zbu.calls 2 ⟨#[100, 97, 110]⟩ 1 2 ⟨#[100, 97, 110]⟩ _ rfl).mono ?_
 rintro e w14 ⟨rfl, hb14⟩
 replace HB := za.mk (zo HB.out hb14)
 replace F3 := za.mk (Kd.zN F3.out hb14)
 replace F5 := za.mk (Kd.zN F5.out hb14)
 replace F7 := za.mk (Kd.zN F7.out hb14)
 replace F9 := za.mk (Kd.zN F9.out hb14)
 replace F10 := za.mk (Kd.zcA F10.out hb14)
 clear hb14
 go_wp2_with fail
 have hbx := ze (Below.refl w14.heap.size w14) (.cells #[.int .i64 1, .int .i64 2, .string ⟨#[100, 97, 110]⟩] 63)
 have X4 := za.mk (heap_alloc_new w14 (.cells #[.int .i64 1, .int .i64 2, .string ⟨#[100, 97, 110]⟩] 63))
 replace HB := za.mk (zo HB.out hbx)
 replace F3 := za.mk (Kd.zN F3.out hbx)
 replace F5 := za.mk (Kd.zN F5.out hbx)
 replace F7 := za.mk (Kd.zN F7.out hbx)
 replace F9 := za.mk (Kd.zN F9.out hbx)
 replace F10 := za.mk (Kd.zcA F10.out hbx)
 have e4 : (w14.alloc (.cells #[.int .i64 1, .int .i64 2, .string ⟨#[100, 97, 110]⟩] 63)).heap.size = w14.heap.size + 1 := Array.size_push _
 have hby := ze (Below.refl _ (w14.alloc (.cells #[.int .i64 1, .int .i64 2, .string ⟨#[100, 97, 110]⟩] 63))) (.cells #[.string ⟨#[97, 110, 110, 97]⟩, .string ⟨#[99, 121, 100]⟩, .string ⟨#[98, 101, 110]⟩, .string ⟨#[100, 97, 110]⟩] 9)
 have X5 := za.mk (heap_alloc_new (w14.alloc (.cells #[.int .i64 1, .int .i64 2, .string ⟨#[100, 97, 110]⟩] 63)) (.cells #[.string ⟨#[97, 110, 110, 97]⟩, .string ⟨#[99, 121, 100]⟩, .string ⟨#[98, 101, 110]⟩, .string ⟨#[100, 97, 110]⟩] 9))
 rw [e4] at X5
 replace HB := za.mk (zo HB.out hby)
 replace F3 := za.mk (Kd.zN F3.out hby)
 replace F5 := za.mk (Kd.zN F5.out hby)
 replace F7 := za.mk (Kd.zN F7.out hby)
 replace F9 := za.mk (Kd.zN F9.out hby)
 replace F10 := za.mk (Kd.zcA F10.out hby)
 replace X4 := za.mk (zF X4.out hby)
 obtain ⟨u14, hu⟩ : ∃ u_, (w14.alloc (.cells #[.int .i64 1, .int .i64 2, .string ⟨#[100, 97, 110]⟩] 63)).alloc (.cells #[.string ⟨#[97, 110, 110, 97]⟩, .string ⟨#[99, 121, 100]⟩, .string ⟨#[98, 101, 110]⟩, .string ⟨#[100, 97, 110]⟩] 9) = u_ := ⟨_, rfl⟩
 rw [hu] at F3 F5 F7 F9 F10 X4 X5 HB ⊢
 clear hu hbx hby e4
 refine (zdh.calls 100 _ _ zee _ _ [⟨1, 2, ⟨#[100, 97, 110]⟩⟩] _ _ [⟨#[97, 110, 110, 97]⟩, ⟨#[99, 121, 100]⟩, ⟨#[98, 101, 110]⟩, ⟨#[100, 97, 110]⟩] 2 2 0 _ (Kd.zdr F10.out).2.2 (Kd.zdr F10.out).2.1 (zgd X4.out rfl (by decide)) (by decide) (zeH X5.out rfl (by decide)) (by decide) zhh).mono ?_
 rintro e w15 ⟨rfl, hb15⟩
 replace HB := za.mk (zo HB.out hb15)
 replace F3 := za.mk (Kd.zN F3.out hb15)
 replace F5 := za.mk (Kd.zN F5.out hb15)
 replace F7 := za.mk (Kd.zN F7.out hb15)
 replace F9 := za.mk (Kd.zN F9.out hb15)
 replace F10 := za.mk (Kd.zcA F10.out hb15)
 replace X4 := za.mk (zF X4.out hb15)
 replace X5 := za.mk (zF X5.out hb15)
 clear hb15
 clear F10 X4 X5
 go_wp2_with fail
 have hbx := ze (Below.refl w15.heap.size w15) (.cells #[.int .i64 2, .int .i64 2] 54)
 replace HB := za.mk (zo HB.out hbx)
 replace F3 := za.mk (Kd.zN F3.out hbx)
 replace F5 := za.mk (Kd.zN F5.out hbx)
 replace F7 := za.mk (Kd.zN F7.out hbx)
 replace F9 := za.mk (Kd.zN F9.out hbx)
 have e4 : (w15.alloc (.cells #[.int .i64 2, .int .i64 2] 54)).heap.size = w15.heap.size + 1 := Array.size_push _
 have hby := ze (Below.refl _ (w15.alloc (.cells #[.int .i64 2, .int .i64 2] 54))) (.cells #[.string ⟨#[97, 110, 110, 97]⟩, .string ⟨#[98, 101, 97]⟩, .string ⟨#[98, 101, 110]⟩, .string ⟨#[99, 105, 100]⟩] 9)
 have X6 := za.mk (heap_alloc_new (w15.alloc (.cells #[.int .i64 2, .int .i64 2] 54)) (.cells #[.string ⟨#[97, 110, 110, 97]⟩, .string ⟨#[98, 101, 97]⟩, .string ⟨#[98, 101, 110]⟩, .string ⟨#[99, 105, 100]⟩] 9))
 rw [e4] at X6
 replace HB := za.mk (zo HB.out hby)
 replace F3 := za.mk (Kd.zN F3.out hby)
 replace F5 := za.mk (Kd.zN F5.out hby)
 replace F7 := za.mk (Kd.zN F7.out hby)
 replace F9 := za.mk (Kd.zN F9.out hby)
 obtain ⟨u15, hu⟩ : ∃ u_, (w15.alloc (.cells #[.int .i64 2, .int .i64 2] 54)).alloc (.cells #[.string ⟨#[97, 110, 110, 97]⟩, .string ⟨#[98, 101, 97]⟩, .string ⟨#[98, 101, 110]⟩, .string ⟨#[99, 105, 100]⟩] 9) = u_ := ⟨_, rfl⟩
 rw [hu] at F3 F5 F7 F9 X6 HB ⊢
 clear hu hbx hby e4
 refine (zae.calls 100 _ _ [⟨#[97, 110, 110, 97]⟩, ⟨#[98, 101, 97]⟩, ⟨#[98, 101, 110]⟩, ⟨#[99, 105, 100]⟩] _ _ [⟨#[97, 110, 110, 97]⟩, ⟨#[98, 101, 97]⟩, ⟨#[98, 101, 110]⟩, ⟨#[99, 105, 100]⟩] true _ (zaS F3.out).1 (zaS F3.out).2 (zeH X6.out rfl (by decide)) (by decide) zhV).mono ?_
 rintro e w16 ⟨rfl, nd16, hw16⟩
 have hb16 : Below u15.heap.size u15 w16 := by rw [hw16]; exact zb (Below.refl _ _) _
 clear hw16
 replace HB := za.mk (zo HB.out hb16)
 replace F3 := za.mk (Kd.zN F3.out hb16)
 replace F5 := za.mk (Kd.zN F5.out hb16)
 replace F7 := za.mk (Kd.zN F7.out hb16)
 replace F9 := za.mk (Kd.zN F9.out hb16)
 replace X6 := za.mk (zF X6.out hb16)
 clear hb16
 clear F3 X6
 go_wp2_with fail
 refine (zb0.calls zc3 _ rfl).mono ?_
 rintro e w17 ⟨v17, rfl, hR17, hb17⟩
 replace HB := za.mk (zo HB.out hb17)
 replace F5 := za.mk (Kd.zN F5.out hb17)
 replace F7 := za.mk (Kd.zN F7.out hb17)
 replace F9 := za.mk (Kd.zN F9.out hb17)
 obtain ⟨A17, c17, rfl, _, _⟩ := Kd.zan hR17
 have F11 := za.mk hR17
 clear hR17 hb17
 go_wp2_with fail
 refine (zaq.calls 100 _ _ zc3 _ _ zc3 true _ (zaS F5.out).1 (zaS F5.out).2 (zaS F11.out).1 (zaS F11.out).2 zh1).mono ?_
 rintro e w18 ⟨rfl, nd18, hw18⟩
 have hb18 : Below w17.heap.size w17 w18 := by rw [hw18]; exact zb (Below.refl _ _) _
 clear hw18
 replace HB := za.mk (zo HB.out hb18)
 replace F5 := za.mk (Kd.zN F5.out hb18)
 replace F7 := za.mk (Kd.zN F7.out hb18)
 replace F9 := za.mk (Kd.zN F9.out hb18)
 replace F11 := za.mk (Kd.zN F11.out hb18)
 clear hb18
 clear F5 F11
 go_wp2_with fail
 have hbx := ze (Below.refl w18.heap.size w18) (.cells #[.int .i64 1, .int .i64 0, .int .i64 2] 3)
 have X7 := za.mk (heap_alloc_new w18 (.cells #[.int .i64 1, .int .i64 0, .int .i64 2] 3))
 replace HB := za.mk (zo HB.out hbx)
 replace F7 := za.mk (Kd.zN F7.out hbx)
 replace F9 := za.mk (Kd.zN F9.out hbx)
 obtain ⟨u18, hu⟩ : ∃ u_, w18.alloc (.cells #[.int .i64 1, .int .i64 0, .int .i64 2] 3) = u_ := ⟨_, rfl⟩
 rw [hu] at F7 F9 X7 HB ⊢
 clear hu hbx
 refine (zam.calls 100 _ _ [1, 0, 2] _ _ [1, 0, 2] true _ (zaS F7.out).1 (zaS F7.out).2 (zd9 X7.out rfl (by decide)) (by decide) zhe).mono ?_
 rintro e w19 ⟨rfl, nd19, hw19⟩
 have hb19 : Below u18.heap.size u18 w19 := by rw [hw19]; exact zb (Below.refl _ _) _
 clear hw19
 replace HB := za.mk (zo HB.out hb19)
 replace F7 := za.mk (Kd.zN F7.out hb19)
 replace F9 := za.mk (Kd.zN F9.out hb19)
 replace X7 := za.mk (zF X7.out hb19)
 clear hb19
 clear F7 X7
 go_wp2_with fail
 have hbx := ze (Below.refl w19.heap.size w19) (.cells #[.int .i64 1, .int .i64 0, .int .i64 (-1)] 3)
 have X8 := za.mk (heap_alloc_new w19 (.cells #[.int .i64 1, .int .i64 0, .int .i64 (-1)] 3))
 replace HB := za.mk (zo HB.out hbx)
 replace F9 := za.mk (Kd.zN F9.out hbx)
 obtain ⟨u19, hu⟩ : ∃ u_, w19.alloc (.cells #[.int .i64 1, .int .i64 0, .int .i64 (-1)] 3) = u_ := ⟨_, rfl⟩
 rw [hu] at F9 X8 HB ⊢
 clear hu hbx
 refine (zam.calls 100 _ _ [1, 0, -1] _ _ [1, 0, -1] true _ (zaS F9.out).1 (zaS F9.out).2 (zd9 X8.out rfl (by decide)) (by decide) zhw).mono ?_
 rintro e w20 ⟨rfl, nd20, hw20⟩
 have hb20 : Below u19.heap.size u19 w20 := by rw [hw20]; exact zb (Below.refl _ _) _
 clear hw20
 replace HB := za.mk (zo HB.out hb20)
 replace F9 := za.mk (Kd.zN F9.out hb20)
 replace X8 := za.mk (zF X8.out hb20)
 clear hb20
 clear F9 X8
 go_wp2_with fail
 go_ret
 exact ⟨rfl, HB.out⟩
def named (ms : List S63) (i : Nat) : Bool := ms.any fun m => m.f1 == (i : Int) && m.f0 != 1
def zcT (ms : List S63) : Nat → List ByteArray → List ByteArray
 | _, [] => []
 | i, x :: a => if named ms i = true then zcT ms (i + 1) a else x :: zcT ms (i + 1) a
theorem zdg (m : S63) (ms : List S63) : ∀ (a : List ByteArray) (i : Nat), (m.f1 < (i : Int) ∨ m.f0 = 1) → zcT (m :: ms) i a = zcT ms i a
 | [], _, _ => rfl
 | x :: a, i, h => by
  have e : named (m :: ms) i = named ms i := by
   unfold named
   rw [List.any_cons]
   have : (m.f1 == (i : Int) && m.f0 != 1) = false := by
    rcases h with h | h
    ·rw [show (m.f1 == (i : Int)) = false from beq_eq_false_iff_ne.2 (by omega), Bool.false_and]
    ·rw [h]; simp
   rw [this, Bool.false_or]
  rw [zcT, zcT, e, zdg m ms a (i + 1) (h.imp (fun h => by omega) id)]
theorem zcj.kept {i : Nat} {a b : List ByteArray} {ms : List S63} (h : zcj i a b ms) : (zcT ms i a).Sublist b ∧ ((zcT ms i a).length : Int) + zdl ms = b.length := by
 induction h with
 | nil i => exact ⟨List.Sublist.refl _, rfl⟩
 | @ins i a b ms y h ih =>
  rw [zdg _ _ _ _ (.inr rfl)]
  refine ⟨ih.1.cons y, ?_⟩
  simp [zdl]; omega
 | @del i a b ms x h ih =>
  have e : named (⟨3, (i : Int), ⟨#[]⟩⟩ :: ms) i = true := by simp [named]
  rw [zcT, if_pos e, zdg _ _ _ _ (.inl (by dsimp only; omega))]
  refine ⟨ih.1, ?_⟩
  simp [zdl]; omega
 | @set i a b ms x y h ih =>
  have e : named (⟨2, (i : Int), y⟩ :: ms) i = true := by simp [named]
  rw [zcT, if_pos e, zdg _ _ _ _ (.inl (by dsimp only; omega))]
  refine ⟨ih.1.cons y, ?_⟩
  simp [zdl]; omega
 | @keep i a b ms x h ih =>
  have e : named ms i = false := by
   unfold named
   rw [List.any_eq_false]
   intro m hm
   have := h.ge m hm
   have : (m.f1 == (i : Int)) = false := beq_eq_false_iff_ne.2 (by omega)
   simp [this]
  rw [zcT, e, if_neg (by decide)]
  refine ⟨ih.1.cons_cons x, ?_⟩
  simp only [List.length_cons]; omega
def okP (v : Int) : Prop := (97 ≤ v ∧ v ≤ 122) ∨ (48 ≤ v ∧ v ≤ 57) ∨ v = 32
theorem zil {A : Nat → Option Int} {v r : Int} (hok : okP v → Ev A r) (hbad : ¬ okP v → r = 2) :
  Ev (fun k => if v < 97 then (if v < 48 then (if v = 32 then A k else some 2) else (if v > 57 then (if v = 32 then A k else some 2) else A k)) else (if v > 122 then (if v < 48 then (if v = 32 then A k else some 2) else (if v > 57 then (if v = 32 then A k else some 2) else A k)) else A k)) r := by
 unfold okP at hok hbad
 by_cases c1 : v < 97
 ·refine Ev.ifp c1 ?_
  by_cases c2 : v < 48
  ·refine Ev.ifp c2 ?_
   by_cases c3 : v = 32
   ·exact Ev.ifp c3 (hok (by omega))
   ·refine Ev.ifn c3 ?_
    rw [hbad (by omega)]; exact Ev.now _
  ·refine Ev.ifn c2 ?_
   by_cases c3 : v > 57
   ·refine Ev.ifp c3 (Ev.ifn (by omega) ?_)
    rw [hbad (by omega)]; exact Ev.now _
   ·exact Ev.ifn c3 (hok (by omega))
 ·refine Ev.ifn c1 ?_
  by_cases c2 : v > 122
  ·refine Ev.ifp c2 (Ev.ifn (by omega) (Ev.ifp (by omega) (Ev.ifn (by omega) ?_)))
   rw [hbad (by omega)]; exact Ev.now _
  ·exact Ev.ifn c2 (hok (by omega))
theorem zgi (c : UInt8) : okb c = true ↔ okP (c.toNat : Int) := by
 rw [zge]; unfold okP
 simp only [Bool.or_eq_true, Bool.and_eq_true, decide_eq_true_eq]
 omega
theorem zh8 (s : ByteArray) (i : Nat) (h : i < s.data.toList.length) : bt s (i : Int) = (s.data.toList[i].toNat : Int) := by
 have h' : i < s.size := by simpa using h
 simp only [bt, Int.toNat_natCast]
 rw [dif_pos h']
 simp [ByteArray.getElem_eq_getElem_data]
theorem zeb (s : ByteArray) : Ev (fun k => zQ.f k s) (za3 s) := by
 have hsz : s.size = s.data.toList.length := by simp
 obtain ⟨L, hL⟩ : ∃ L, s.data.toList = L := ⟨_, rfl⟩
 have hbt : ∀ (i : Nat) (h : i < L.length), bt s (i : Int) = (L[i].toNat : Int) := by subst hL; exact zh8 s
 unfold zQ.f za3
 rw [hsz, hL]
 by_cases h0 : L.length = 0
 ·simp only [if_pos h0]
  exact Ev.ifp (by omega) (Ev.now _)
 ·simp only [if_neg h0]
  refine Ev.ifn (by omega) ?_
  by_cases h10 : 10 < L.length
  ·simp only [if_pos h10]
   exact Ev.ifp (by omega) (Ev.now _)
  ·simp only [if_neg h10]
   refine Ev.ifn (by omega) ?_
   have hfin : ∀ r, (if L.head? = some 32 ∨ L.getLast? = some 32 then (2 : Int) else 0) = r → Ev (fun _ => if 0 < (s.size : Int) then (if (bt s 0) = 32 then (some 2) else (if 0 ≤ (wrap64 ((s.size : Int) - 1)) then (if (wrap64 ((s.size : Int) - 1)) < (s.size : Int) then (if (bt s (wrap64 ((s.size : Int) - 1))) = 32 then (some 2) else (some 0)) else (none)) else (none))) else (none)) r := by
    intro r hr
    have e0 := hbt 0 (by omega)
    have e1 := hbt (L.length - 1) (by omega)
    have hs1 : ((L.length - 1 : Nat) : Int) = (L.length : Int) - 1 := by omega
    rw [hs1] at e1
    have e0' : bt s 0 = (L[0].toNat : Int) := e0
    have hh : L.head? = some L[0] := by rw [List.head?_eq_getElem?, List.getElem?_eq_getElem (by omega)]
    have ht : L.getLast? = some L[L.length - 1] := by rw [List.getLast?_eq_getElem?, List.getElem?_eq_getElem (by omega)]
    have u32 : ∀ c : UInt8, (some c = some (32 : UInt8)) ↔ (c.toNat : Int) = 32 := by
     intro c
     rw [Option.some.injEq, ← UInt8.toNat_inj]
     constructor
     ·intro h; rw [h]; rfl
     ·intro h; have : c.toNat = 32 := by omega
      rw [this]; rfl
    simp only [hh, ht, u32] at hr
    rw [hsz, hL, zcW (by omega) (by omega), e0', e1]
    refine Ev.ifp (by omega) ?_
    by_cases c0 : (L[0].toNat : Int) = 32
    ·rw [if_pos (.inl c0)] at hr
     rw [← hr]; exact Ev.ifp c0 (Ev.now _)
    ·refine Ev.ifn c0 (Ev.ifp (by omega) (Ev.ifp (by omega) ?_))
     by_cases c1 : (L[L.length - 1].toNat : Int) = 32
     ·rw [if_pos (.inr c1)] at hr
      rw [← hr]; exact Ev.ifp c1 (Ev.now _)
     ·rw [if_neg (fun h => h.elim c0 c1)] at hr
      rw [← hr]; exact Ev.ifn c1 (Ev.now _)
   have go : ∀ (m i : Nat), L.length - i = m → i ≤ L.length → Ev (fun k => zQ.l0 k s (i : Int)) (if (L.drop i).all okb = true then (if L.head? = some 32 ∨ L.getLast? = some 32 then (2 : Int) else 0) else 2) := by
    intro m
    induction m with
    | zero =>
     intro i hm hi
     rw [List.drop_eq_nil_of_le (by omega), List.all_nil, if_pos rfl]
     refine Ev.step (fun k => by rw [zQ.l0]) ?_
     refine Ev.ifn (by rw [hsz, hL]; omega) ?_
     exact hfin _ rfl
    | succ m ih =>
     intro i hm hi
     have hlt : i < L.length := by omega
     have hnext := ih (i + 1) (by omega) (by omega)
     rw [List.drop_eq_getElem_cons hlt, List.all_cons]
     refine Ev.step (fun k => by rw [zQ.l0]) ?_
     refine Ev.ifp (by rw [hsz, hL]; omega) ?_
     refine Ev.ifp (by omega) ?_
     rw [hbt i hlt, zbO _ (by omega)]
     refine zil ?_ ?_
     ·intro hk
      rw [(zgi _).2 hk, Bool.true_and]
      exact hnext
     ·intro hk
      have : okb L[i] = false := Bool.eq_false_iff.2 (fun h => hk ((zgi _).1 h))
      rw [this, Bool.false_and, if_neg (by decide)]
   have := go L.length 0 (by omega) (by omega)
   rw [List.drop_zero] at this
   exact this
theorem zf5 (p : List ByteArray) : Ev (fun k => zaj.f k p) (zbU p) := by
 unfold zaj.f zbU
 by_cases h6 : 6 < p.length
 ·simp only [if_pos h6]
  exact Ev.ifp (by omega) (Ev.now _)
 ·simp only [if_neg h6]
  refine Ev.ifn (by omega) ?_
  have go : ∀ (m i : Nat), p.length - i = m → i ≤ p.length → Ev (fun k => zaj.l0 k p (i : Int)) (zcf (p.drop i)) := by
   intro m
   induction m with
   | zero =>
    intro i hm hi
    rw [List.drop_eq_nil_of_le (by omega), zcf]
    refine Ev.step (fun k => by rw [zaj.l0]) ?_
    exact Ev.ifn (by omega) (Ev.now _)
   | succ m ih =>
    intro i hm hi
    have hlt : i < p.length := by omega
    have r1 : zaZ ByteArray.empty p (i : Int) = p[i] := by simp [zaZ, hlt]
    rw [List.drop_eq_getElem_cons hlt, zcf]
    refine Ev.step (fun k => by rw [zaj.l0]) ?_
    refine Ev.ifp (by omega) ?_
    refine Ev.ifp (by omega) ?_
    rw [r1, zbO _ (by omega)]
    refine Ev.be (zeb _) ?_
    by_cases he : za3 p[i] = 0
    ·simp only [if_pos he]
     exact ih (i + 1) (by omega) (by omega)
    ·simp only [if_neg he]
     exact Ev.now _
  have := go p.length 0 (by omega) (by omega)
  rw [List.drop_zero] at this
  exact this
theorem zfA (n : Nat) (hn : n ≤ 1000) (ms : List S63) (hms : ms.length ≤ 1000) (i : Nat) (hi : i < ms.length) (x : S63) (hx : ms[i] = x) : Ev (fun k => zy.f k (n : Int) ms (i : Int)) (zcs n (zbX ms i) x) := by
 have r1 : zh ms (i : Int) = x := by simp [zh, hi, hx]
 obtain ⟨f0, f1, f2⟩ := x
 have J1 : ∀ kd : Int, kd = f0 → Ev (fun k => zy.j1 k ms (i : Int) kd f1 f2) (zbC (zbX ms i) ⟨f0, f1, f2⟩) := by
  rintro kd rfl
  refine Ev.step (fun k => by rw [zy.j1]) ?_
  by_cases h0 : i = 0
  ·subst h0
   exact Ev.ifp rfl (Ev.now _)
  ·have hi1 : i - 1 < ms.length := by omega
   have w3 : wrap64 ((i : Int) - 1) = ((i - 1 : Nat) : Int) := by rw [zcW (by omega) (by omega)]; omega
   have hp : zbX ms i = some ms[i - 1] := by simp [zbX, h0, hi1]
   have r2 : zh ms ((i - 1 : Nat) : Int) = ms[i - 1] := by simp [zh, hi1]
   rw [hp, w3, r2]
   clear w3
   obtain ⟨q, hq⟩ : ∃ q, ms[i - 1] = q := ⟨_, rfl⟩
   rw [hq]
   refine Ev.ifn (by omega) ?_
   refine Ev.ifp (by omega) ?_
   refine Ev.ifp (by omega) ?_
   simp only [zbC]
   by_cases c1 : f1 < q.f1
   ·simp only [if_pos c1]; exact Ev.now _
   ·simp only [if_neg c1]
    by_cases c2 : q.f1 < f1
    ·have hP : q.f1 < f1 ∨ q.f0 = 1 := .inl c2
     simp only [if_pos hP]
     refine Ev.ifp c2 ?_
     refine Ev.step (fun k => by rw [zy.j2]) ?_
     exact Ev.ifp rfl (Ev.now _)
    ·refine Ev.ifn c2 ?_
     refine Ev.step (fun k => by rw [zy.j2]) ?_
     by_cases c3 : q.f0 = 1
     ·have hP : q.f1 < f1 ∨ q.f0 = 1 := .inr c3
      simp only [if_pos hP]
      exact Ev.ifp (beq_iff_eq.2 c3) (Ev.now _)
     ·have hP : ¬ (q.f1 < f1 ∨ q.f0 = 1) := fun h => h.elim c2 c3
      simp only [if_neg hP]
      refine Ev.ifn (fun h => c3 (beq_iff_eq.1 h)) ?_
      by_cases c4 : kd = 1
      ·simp only [if_pos c4]; exact Ev.now _
      ·simp only [if_neg c4]; exact Ev.now _
 have J0 : ∀ b : Bool, (b = true ↔ (f1 < 0 ∨ (if f0 = 1 then (n : Int) else (n : Int) - 1) < f1)) → Ev (fun k => zy.j0 k ms (i : Int) b f0 f1 f2) (if f1 < 0 ∨ (if f0 = 1 then (n : Int) else (n : Int) - 1) < f1 then 3 else if zcq ⟨f0, f1, f2⟩ = 0 then zbC (zbX ms i) ⟨f0, f1, f2⟩ else zcq ⟨f0, f1, f2⟩) := by
  intro b hb
  refine Ev.step (fun k => by rw [zy.j0]) ?_
  cases b with
  | true =>
   rw [if_pos (hb.1 rfl)]
   exact Ev.ifp rfl (Ev.now _)
  | false =>
   have hnot : ¬ (f1 < 0 ∨ (if f0 = 1 then (n : Int) else (n : Int) - 1) < f1) := fun h => by have := hb.2 h; cases this
   rw [if_neg hnot]
   refine Ev.ifn Bool.false_ne_true ?_
   unfold zcq
   dsimp only
   by_cases k3 : f0 = 3
   ·simp only [if_pos k3]
    by_cases ht : f2.toList = []
    ·simp only [if_pos ht, if_true]
     exact J1 _ rfl
    ·simp only [if_neg ht]
     rw [if_neg (by decide)]
     exact Ev.now _
   ·simp only [if_neg k3]
    refine Ev.be (zeb f2) ?_
    by_cases hl : za3 f2 = 0
    ·simp only [if_pos hl]
     exact J1 _ rfl
    ·simp only [if_neg hl]
     exact Ev.now _
 unfold zy.f zcs
 rw [r1]
 dsimp only
 refine Ev.ifp (by omega) (Ev.ifp (by omega) ?_)
 unfold zax.f
 have hw : wrap64 ((n : Int) - 1) = (n : Int) - 1 := zcW (by omega) (by omega)
 rw [hw]
 clear hw
 by_cases k0 : f0 < 1 ∨ 3 < f0
 ·rw [if_pos k0]
  by_cases k1 : f0 ≥ 1
  ·rw [if_pos k1, decide_eq_false (by omega)]
   refine Ev.bs rfl ?_
   exact Ev.ifn Bool.false_ne_true (Ev.now _)
  ·rw [if_neg k1]
   refine Ev.bs rfl ?_
   exact Ev.ifn Bool.false_ne_true (Ev.now _)
 ·rw [if_neg k0, if_pos (by omega), decide_eq_true (by omega)]
  refine Ev.bs rfl ?_
  refine Ev.ifp rfl ?_
  by_cases k1 : f1 ≥ 0
  ·rw [if_pos k1]
   refine Ev.bs rfl ?_
   by_cases k2 : f1 ≤ (n : Int) - 1
   ·refine Ev.ifp (decide_eq_true k2) ?_
    refine J0 false ?_
    constructor
    ·intro h; cases h
    ·intro h; by_cases k5 : f0 = 1
     ·rw [if_pos k5] at h; omega
     ·rw [if_neg k5] at h; omega
   ·refine Ev.ifn (by rw [decide_eq_false k2]; decide) ?_
    by_cases k5 : f0 = 1
    ·refine Ev.ifp k5 ?_
     refine J0 _ ?_
     rw [if_pos k5, bne_iff_ne]; omega
    ·refine Ev.ifn k5 ?_
     refine J0 true ?_
     rw [if_neg k5]; exact ⟨fun _ => by omega, fun _ => rfl⟩
  ·rw [if_neg k1]
   refine Ev.bs rfl ?_
   refine Ev.ifn Bool.false_ne_true ?_
   by_cases k5 : f0 = 1
   ·refine Ev.ifp k5 ?_
    refine J0 _ ?_
    rw [if_pos k5, bne_iff_ne]; omega
   ·refine Ev.ifn k5 ?_
    refine J0 true ?_
    rw [if_neg k5]; exact ⟨fun _ => by omega, fun _ => rfl⟩
theorem zfo (n : Nat) (hn : n ≤ 1000) (ms : List S63) : Ev (fun k => zV.f k (n : Int) ms) (zda n ms) := by
 unfold zV.f zda
 by_cases h : 12 < ms.length
 ·simp only [if_pos h]
  exact Ev.ifp (by omega) (Ev.now _)
 ·simp only [if_neg h]
  refine Ev.ifn (by omega) ?_
  have go : ∀ (m i : Nat), ms.length - i = m → i ≤ ms.length → Ev (fun k => zV.l0 k (n : Int) ms (i : Int)) (zbQ n (zbX ms i) (ms.drop i)) := by
   intro m
   induction m with
   | zero =>
    intro i hm hi
    rw [List.drop_eq_nil_of_le (by omega), zbQ]
    refine Ev.step (fun k => by rw [zV.l0]) ?_
    exact Ev.ifn (by omega) (Ev.now _)
   | succ m ih =>
    intro i hm hi
    have hlt : i < ms.length := by omega
    have hp1 : zbX ms (i + 1) = some ms[i] := by simp [zbX, hlt]
    have hnext := ih (i + 1) (by omega) (by omega)
    rw [hp1] at hnext
    rw [List.drop_eq_getElem_cons hlt, zbQ]
    refine Ev.step (fun k => by rw [zV.l0]) ?_
    refine Ev.ifp (by omega) ?_
    rw [zbO _ (by omega)]
    refine Ev.be (zfA n hn ms (by omega) i hlt _ rfl) ?_
    by_cases he : zcs n (zbX ms i) ms[i] = 0
    ·simp only [if_pos he]; exact hnext
    ·simp only [if_neg he]; exact Ev.now _
  have := go ms.length 0 (by omega) (by omega)
  rw [List.drop_zero] at this
  exact this
theorem zf4 (p : List ByteArray) (ms : List S63) : Ev (fun k => zaM.f k p ms) (zbT p ms) := by
 unfold zaM.f zbT
 refine Ev.be (zf5 p) ?_
 by_cases h : zbU p = 0
 ·simp only [if_pos h]
  have := zeT h
  exact Ev.be (zfo p.length (by omega) ms) (Ev.now _)
 ·simp only [if_neg h]; exact Ev.now _
theorem ziy (ms : List S63) (hm : ms.length ≤ 1000) : Ev (fun k => za9.f k ms) (zdl ms) := by
 have go : ∀ (m i : Nat) (n : Int), ms.length - i = m → i ≤ ms.length → 0 ≤ n → n ≤ (i : Int) → Ev (fun k => za9.l0 k ms n (i : Int)) (n + zdl (ms.drop i)) := by
  intro m
  induction m with
  | zero =>
   intro i n hm hi h0 h1
   rw [List.drop_eq_nil_of_le (by omega), zdl, Int.add_zero]
   refine Ev.step (fun k => by rw [za9.l0]) ?_
   exact Ev.ifn (by omega) (Ev.now _)
  | succ m ih =>
   intro i n hm hi h0 h1
   have hlt : i < ms.length := by omega
   have hlt' : (i : Int) < (ms.length : Int) := by omega
   have r1 : zh ms (i : Int) = ms[i] := by simp [zh, hlt]
   rw [List.drop_eq_getElem_cons hlt, zdl]
   refine Ev.step (fun k => by rw [za9.l0]) ?_
   refine Ev.ifp hlt' ?_
   refine Ev.ifp (by omega) ?_
   rw [r1, zbO _ (by omega)]
   by_cases hc : ms[i].f0 = 3
   ·rw [if_pos hc, Int.zero_add]
    exact Ev.ifp hc (ih (i + 1) n (by omega) (by omega) h0 (by omega))
   ·rw [if_neg hc]
    refine Ev.ifn hc ?_
    rw [zcW (by omega) (by omega)]
    have := ih (i + 1) (n + 1) (by omega) (by omega) (by omega) (by omega)
    rw [Int.add_assoc] at this
    exact this
 have := go ms.length 0 0 (by omega) (by omega) (by omega) (by omega)
 rw [List.drop_zero, Int.zero_add] at this
 exact this
theorem zht (p : List ByteArray) (hp : p.length ≤ 1000) : Ev (fun k => zae.f k p p) true := ⟨p.length + 1, fun k hk => ze1 p hp k (by omega)⟩
theorem zgs (ms : List S63) (hp : ms.length ≤ 1000) : Ev (fun k => zaq.f k ms ms) true := by
 have go : ∀ (m i : Nat), ms.length - i = m → i ≤ ms.length → Ev (fun k => zaq.l0 k ms ms (i : Int)) true := by
  intro m
  induction m with
  | zero =>
   intro i h hi
   refine Ev.step (fun k => by rw [zaq.l0]) ?_
   exact Ev.ifn (by omega) (Ev.now _)
  | succ m ih =>
   intro i h hi
   have hlt : (i : Int) < (ms.length : Int) := by omega
   refine Ev.step (fun k => by rw [zaq.l0]) ?_
   refine Ev.ifp hlt (Ev.ifp (by omega) (Ev.ifp hlt ?_))
   refine Ev.ifn (by simp) ?_
   rw [zbO _ (by omega)]
   exact ih (i + 1) (by omega) (by omega)
 unfold zaq.f
 exact Ev.ifp rfl (go ms.length 0 (by omega) (by omega))
theorem zh7 (p : List ByteArray) (hp : p.length ≤ 9223372036854775807) : ∃ b : Bool, Ev (fun k => zaC.f k p) b ∧ (b = false → p.length ≤ 20) := by
 have go : ∀ (m i : Nat), p.length - i = m → i ≤ p.length → ∃ b : Bool, Ev (fun k => zaC.l0 k p (i : Int)) b ∧ (b = false → p.length ≤ 20) := by
  intro m
  induction m with
  | zero =>
   intro i h hi
   refine ⟨decide ((p.length : Int) > 20), ?_, fun h => by have := of_decide_eq_false h; omega⟩
   refine Ev.step (fun k => by rw [zaC.l0]) ?_
   exact Ev.ifn (by omega) (Ev.now _)
  | succ m ih =>
   intro i h hi
   have hlt : (i : Int) < (p.length : Int) := by omega
   have hw : wrap64 ((i : Int) + 1) = ((i + 1 : Nat) : Int) := by unfold wrap64; omega
   by_cases hc : ((zaZ ByteArray.empty p (i : Int)).size : Int) > 30
   ·refine ⟨true, ?_, fun h => by cases h⟩
    refine Ev.step (fun k => by rw [zaC.l0]) ?_
    exact Ev.ifp hlt (Ev.ifp (by omega) (Ev.ifp hc (Ev.now _)))
   ·obtain ⟨b, h1, h2⟩ := ih (i + 1) (by omega) (by omega)
    refine ⟨b, ?_, h2⟩
    refine Ev.step (fun k => by rw [zaC.l0]) ?_
    refine Ev.ifp hlt (Ev.ifp (by omega) (Ev.ifn hc ?_))
    rw [hw]; exact h1
 exact go p.length 0 (by omega) (by omega)
theorem zhR (p : List S63) (hp : p.length ≤ 9223372036854775807) : ∃ b : Bool, Ev (fun k => zaD.f k p) b ∧ (b = false → p.length ≤ 20) := by
 have go : ∀ (m i : Nat), p.length - i = m → i ≤ p.length → ∃ b : Bool, Ev (fun k => zaD.l0 k p (i : Int)) b ∧ (b = false → p.length ≤ 20) := by
  intro m
  induction m with
  | zero =>
   intro i h hi
   refine ⟨decide ((p.length : Int) > 20), ?_, fun h => by have := of_decide_eq_false h; omega⟩
   refine Ev.step (fun k => by rw [zaD.l0]) ?_
   exact Ev.ifn (by omega) (Ev.now _)
  | succ m ih =>
   intro i h hi
   have hlt : (i : Int) < (p.length : Int) := by omega
   have hw : wrap64 ((i : Int) + 1) = ((i + 1 : Nat) : Int) := by unfold wrap64; omega
   by_cases hc : ((zh p (i : Int)).f2.size : Int) > 30
   ·refine ⟨true, ?_, fun h => by cases h⟩
    refine Ev.step (fun k => by rw [zaD.l0]) ?_
    exact Ev.ifp hlt (Ev.ifp (by omega) (Ev.ifp hc (Ev.now _)))
   ·obtain ⟨b, h1, h2⟩ := ih (i + 1) (by omega) (by omega)
    refine ⟨b, ?_, h2⟩
    refine Ev.step (fun k => by rw [zaD.l0]) ?_
    refine Ev.ifp hlt (Ev.ifp (by omega) (Ev.ifn hc ?_))
    rw [hw]; exact h1
 exact go p.length 0 (by omega) (by omega)
theorem ziB (l : List Int) (x : Int) (hp : l.length ≤ 1000) : ∃ r : Int, Ev (fun k => zbc.f k l x) r ∧ (r < 0 ↔ l.contains x = false) := by
 have go : ∀ (m i : Nat), l.length - i = m → i ≤ l.length → ∃ r : Int, Ev (fun k => zbc.l0 k l x (i : Int)) r ∧ (r < 0 ↔ (l.drop i).contains x = false) := by
  intro m
  induction m with
  | zero =>
   intro i h hi
   refine ⟨-1, Ev.step (fun k => by rw [zbc.l0]) (Ev.ifn (by omega) (Ev.now _)), ?_⟩
   rw [List.drop_eq_nil_of_le (by omega)]; simp
  | succ m ih =>
   intro i h hi
   have hlt : i < l.length := by omega
   have r1 : rd l (i : Int) = l[i] := by simp [rd, hlt]
   by_cases he : l[i] = x
   ·refine ⟨i, Ev.step (fun k => by rw [zbc.l0]) (Ev.ifp (by omega) (Ev.ifp (by omega) (Ev.ifp (by rw [r1]; exact he) (Ev.now _)))), ?_⟩
    rw [List.drop_eq_getElem_cons hlt, List.contains_cons, he]; simp
   ·obtain ⟨r, h1, h2⟩ := ih (i + 1) (by omega) (by omega)
    refine ⟨r, Ev.step (fun k => by rw [zbc.l0]) (Ev.ifp (by omega) (Ev.ifp (by omega) (Ev.ifn (by rw [r1]; exact he) ?_))), ?_⟩
    ·rw [zbO _ (by omega)]; exact h1
    ·rw [List.drop_eq_getElem_cons hlt, List.contains_cons, h2]
     have : (x == l[i]) = false := beq_eq_false_iff_ne.2 (fun h => he h.symm)
     rw [this, Bool.false_or]
 obtain ⟨r, h1, h2⟩ := go l.length 0 (by omega) (by omega)
 exact ⟨r, h1, by rw [List.drop_zero] at h2; exact h2⟩
theorem zew (n : Nat) : ∀ (f : Nat) (l : List Int), (∀ i ∈ l, 0 ≤ i ∧ i < (n : Int)) → ∀ x ∈ zbm n f l, x.length = l.length + f ∧ ∀ i ∈ x, 0 ≤ i ∧ i < (n : Int)
 | 0, l, hl, x, hx => by
  rw [zbm, List.mem_singleton] at hx
  subst hx; exact ⟨rfl, hl⟩
 | f + 1, l, hl, x, hx => by
  rw [zbm, List.mem_flatMap] at hx
  obtain ⟨i, hi, hx⟩ := hx
  rw [List.mem_range] at hi
  split at hx
  ·cases hx
  ·have h := zew n f (l ++ [(i : Int)]) (fun j hj => by
    rcases List.mem_append.1 hj with h | h
    ·exact hl j h
    ·rw [List.mem_singleton.1 h]; omega) x hx
   rw [List.length_append, List.length_singleton] at h
   exact ⟨by omega, h.2⟩
theorem zg4 (a : List Int) (ha : a.length ≤ 1000) : Ev (fun k => zam.f k a a) true := by
 have go : ∀ (m i : Nat), a.length - i = m → i ≤ a.length → Ev (fun k => zam.l0 k a a (i : Int)) true := by
  intro m
  induction m with
  | zero =>
   intro i h hi
   exact Ev.step (fun k => by rw [zam.l0]) (Ev.ifn (by omega) (Ev.now _))
  | succ m ih =>
   intro i h hi
   have hlt : (i : Int) < (a.length : Int) := by omega
   refine Ev.step (fun k => by rw [zam.l0]) (Ev.ifp hlt (Ev.ifp (by omega) (Ev.ifp hlt (Ev.ifp rfl ?_))))
   rw [zbO _ (by omega)]
   exact ih (i + 1) (by omega) (by omega)
 unfold zam.f
 exact Ev.ifp rfl (go a.length 0 (by omega) (by omega))
end Go.Proofs.Ytgmbbfmbimofoaa.P
