-- MERGED BY A PROGRAM out of texts of this claim: hand work, and what a (turned) print of the kit has written for it
import Derived.Outline
import Derived.Test.YtgmbbfmbimofoaaMc21
import Derived.Test.YtgmbbfmbimofoaaMc5
import Derived.Test.YtgmbbfmbimofoaaMc17
import Derived.Test.YtgmbbfmbimofoaaMc8
import Derived.Test.YtgmbbfmbimofoaaMc6
namespace Go.Proofs.Ytgmbbfmbimofoaa.P
open Go.RowKit Go.Proofs.YtgmbbfmbimofoaaW.PrintWords Go.Proofs.YtgmbbfmbimofoaaW.PrintLast Go.Proofs.YtgmbbfmbimofoaaW.PrintMore
attribute [local go_sem] zR zQ zV zU zK zM zP zO
set_option linter.unusedVariables false
set_option linter.unusedSimpArgs false
def zc7 : ByteArray := ⟨#[97, 110, 110, 97]⟩
def zdV : ByteArray := ⟨#[98, 101, 110]⟩
def zg8 : ByteArray := ⟨#[99, 121, 100]⟩
def zfz : ByteArray := ⟨#[98, 101, 97]⟩
def zfx : ByteArray := ⟨#[99, 105, 100]⟩
def zhj : ByteArray := ⟨#[100, 97, 110]⟩
def ziz : ByteArray := ⟨#[97, 98, 101]⟩
def zc8 : List ByteArray := [zc7, zdV, zg8]
def zcS : List S63 := [⟨1, 1, zfz⟩, ⟨2, 2, zfx⟩]
def zef : List (List ByteArray) := [[zc7, zdV], [zc7, zg8]]
theorem zgG : zci.f 100 zc8 zcS = some ([zc7, zfz, zdV, zfx], 0) := by kernel_rfl
theorem zgq : za3.f 100 zef [zc7, zdV, zhj] = some ([1, 0, -1], 0) := by kernel_rfl
theorem zhO : zaI.f 100 [zc7, zfz, zdV, zfx] [zc7, zfz, zdV, zfx] = some true := by kernel_rfl
theorem zgW : za5.f zc8 [⟨1, 0, ziz⟩, ⟨3, 1, ⟨#[]⟩⟩, ⟨3, 2, ⟨#[]⟩⟩] 3 = some ([1, 0, 2], 0) := by kernel_rfl
theorem zhM : zaL.f 100 zcS zcS = some true := by kernel_rfl
theorem zhf : zaa.f 100 [1, 0, 2] [1, 0, 2] = some true := by kernel_rfl
theorem zhn : zaa.f 100 [1, 0, -1] [1, 0, -1] = some true := by kernel_rfl
theorem zg3 : zc2.f 100 zc8 [zc7, zfz, zdV, zfx] = some (zcS, 0) := by kernel_rfl
theorem zhg : zc5.f 100 zef [⟨1, 2, zhj⟩] [zc7, zg8, zdV, zhj] = some (2, 2, 0) := by kernel_rfl
set_option maxHeartbeats 4000000 in
set_option maxRecDepth 100000 in
theorem zeO (w : World) : Calls Try.prog 18 #[] w fun e w' => e = .returned (.bool true) ∧ Below w.heap.size w w' := by
 go_enter Try.func18, Try.ntmps18
 have HB := za.mk (Below.refl w.heap.size w)
 go_wp2_with fail
 refine (zbC.calls zc8 _ rfl).mono ?_
 rintro e w1 ⟨v1, rfl, hR1, hb1⟩
 replace HB := za.mk (zu HB.out hb1)
 obtain ⟨A1, c1, rfl, _, _⟩ := Kd.zaE hR1
 have F1 := za.mk hR1
 clear hR1 hb1
 go_wp2_with fail
 refine (zbQ.calls zcS _ rfl).mono ?_
 rintro e w2 ⟨v2, rfl, hR2, hb2⟩
 replace HB := za.mk (zu HB.out hb2)
 replace F1 := za.mk (Kd.zH F1.out hb2)
 obtain ⟨A2, c2, rfl, _, _⟩ := Kd.zaE hR2
 have F2 := za.mk hR2
 clear hR2 hb2
 go_wp2_with fail
 refine (zci.calls 100 _ _ zc8 _ _ zcS [⟨#[97, 110, 110, 97]⟩, ⟨#[98, 101, 97]⟩, ⟨#[98, 101, 110]⟩, ⟨#[99, 105, 100]⟩] 0 _ (zbm F1.out).1 (zbm F1.out).2 (zbm F2.out).1 (zbm F2.out).2 zgG).mono ?_
 rintro e w3 ⟨v3, rfl, hR3, hb3⟩
 replace HB := za.mk (zu HB.out hb3)
 replace F1 := za.mk (Kd.zH F1.out hb3)
 replace F2 := za.mk (Kd.zH F2.out hb3)
 obtain ⟨A3, c3, rfl, _, _⟩ := Kd.zaE hR3
 have F3 := za.mk hR3
 clear hR3 hb3
 clear F1 F2
 go_wp2_with fail
 refine (zbC.calls zc8 _ rfl).mono ?_
 rintro e w4 ⟨v4, rfl, hR4, hb4⟩
 replace HB := za.mk (zu HB.out hb4)
 replace F3 := za.mk (Kd.zH F3.out hb4)
 obtain ⟨A4, c4, rfl, _, _⟩ := Kd.zaE hR4
 have F4 := za.mk hR4
 clear hR4 hb4
 go_wp2_with fail
 have hbx := ze (Below.refl w4.heap.size w4) (.cells #[.string ⟨#[97, 110, 110, 97]⟩, .string ⟨#[98, 101, 97]⟩, .string ⟨#[98, 101, 110]⟩, .string ⟨#[99, 105, 100]⟩] 9)
 have X1 := za.mk (heap_alloc_new w4 (.cells #[.string ⟨#[97, 110, 110, 97]⟩, .string ⟨#[98, 101, 97]⟩, .string ⟨#[98, 101, 110]⟩, .string ⟨#[99, 105, 100]⟩] 9))
 replace HB := za.mk (zu HB.out hbx)
 replace F3 := za.mk (Kd.zH F3.out hbx)
 replace F4 := za.mk (Kd.zH F4.out hbx)
 obtain ⟨u4, hu⟩ : ∃ u_, w4.alloc (.cells #[.string ⟨#[97, 110, 110, 97]⟩, .string ⟨#[98, 101, 97]⟩, .string ⟨#[98, 101, 110]⟩, .string ⟨#[99, 105, 100]⟩] 9) = u_ := ⟨_, rfl⟩
 rw [hu] at F3 F4 X1 HB ⊢
 clear hu hbx
 refine (zc2.calls 100 _ _ zc8 _ _ [⟨#[97, 110, 110, 97]⟩, ⟨#[98, 101, 97]⟩, ⟨#[98, 101, 110]⟩, ⟨#[99, 105, 100]⟩] zcS 0 _ (zbm F4.out).1 (zbm F4.out).2 (zeS X1.out rfl (by decide)) (by decide) zg3).mono ?_
 rintro e w5 ⟨v5, rfl, hR5, hb5⟩
 replace HB := za.mk (zu HB.out hb5)
 replace F3 := za.mk (Kd.zH F3.out hb5)
 replace F4 := za.mk (Kd.zH F4.out hb5)
 replace X1 := za.mk (zD X1.out hb5)
 obtain ⟨A5, c5, rfl, _, _⟩ := Kd.zaE hR5
 have F5 := za.mk hR5
 clear hR5 hb5
 clear F4 X1
 go_wp2_with fail
 refine (zbC.calls zc8 _ rfl).mono ?_
 rintro e w6 ⟨v6, rfl, hR6, hb6⟩
 replace HB := za.mk (zu HB.out hb6)
 replace F3 := za.mk (Kd.zH F3.out hb6)
 replace F5 := za.mk (Kd.zH F5.out hb6)
 obtain ⟨A6, c6, rfl, _, _⟩ := Kd.zaE hR6
 have F6 := za.mk hR6
 clear hR6 hb6
 go_wp2_with fail
 refine (zbq.calls 0 ⟨#[97, 98, 101]⟩ 1 0 ⟨#[97, 98, 101]⟩ _ rfl).mono ?_
 rintro e w7 ⟨rfl, hb7⟩
 replace HB := za.mk (zu HB.out hb7)
 replace F3 := za.mk (Kd.zH F3.out hb7)
 replace F5 := za.mk (Kd.zH F5.out hb7)
 replace F6 := za.mk (Kd.zH F6.out hb7)
 clear hb7
 go_wp2_with fail
 refine (zbX.calls 1 3 1 ⟨#[]⟩ _ rfl).mono ?_
 rintro e w8 ⟨rfl, hb8⟩
 replace HB := za.mk (zu HB.out hb8)
 replace F3 := za.mk (Kd.zH F3.out hb8)
 replace F5 := za.mk (Kd.zH F5.out hb8)
 replace F6 := za.mk (Kd.zH F6.out hb8)
 clear hb8
 go_wp2_with fail
 refine (zbX.calls 2 3 2 ⟨#[]⟩ _ rfl).mono ?_
 rintro e w9 ⟨rfl, hb9⟩
 replace HB := za.mk (zu HB.out hb9)
 replace F3 := za.mk (Kd.zH F3.out hb9)
 replace F5 := za.mk (Kd.zH F5.out hb9)
 replace F6 := za.mk (Kd.zH F6.out hb9)
 clear hb9
 go_wp2_with fail
 have hbx := ze (Below.refl w9.heap.size w9) (.cells #[.int .i64 1, .int .i64 0, .string ⟨#[97, 98, 101]⟩, .int .i64 3, .int .i64 1, .string ⟨#[]⟩, .int .i64 3, .int .i64 2, .string ⟨#[]⟩] 63)
 have X2 := za.mk (heap_alloc_new w9 (.cells #[.int .i64 1, .int .i64 0, .string ⟨#[97, 98, 101]⟩, .int .i64 3, .int .i64 1, .string ⟨#[]⟩, .int .i64 3, .int .i64 2, .string ⟨#[]⟩] 63))
 replace HB := za.mk (zu HB.out hbx)
 replace F3 := za.mk (Kd.zH F3.out hbx)
 replace F5 := za.mk (Kd.zH F5.out hbx)
 replace F6 := za.mk (Kd.zH F6.out hbx)
 obtain ⟨u9, hu⟩ : ∃ u_, w9.alloc (.cells #[.int .i64 1, .int .i64 0, .string ⟨#[97, 98, 101]⟩, .int .i64 3, .int .i64 1, .string ⟨#[]⟩, .int .i64 3, .int .i64 2, .string ⟨#[]⟩] 63) = u_ := ⟨_, rfl⟩
 rw [hu] at F3 F5 F6 X2 HB ⊢
 clear hu hbx
 refine (za5.calls _ _ zc8 _ _ [⟨1, 0, ⟨#[97, 98, 101]⟩⟩, ⟨3, 1, ⟨#[]⟩⟩, ⟨3, 2, ⟨#[]⟩⟩] 3 [1, 0, 2] 0 _ (zbm F6.out).1 (zbm F6.out).2 (zgi X2.out rfl (by decide)) (by decide) zgW).mono ?_
 rintro e w10 ⟨v10, rfl, hR10, hb10⟩
 replace HB := za.mk (zu HB.out hb10)
 replace F3 := za.mk (Kd.zH F3.out hb10)
 replace F5 := za.mk (Kd.zH F5.out hb10)
 replace F6 := za.mk (Kd.zH F6.out hb10)
 replace X2 := za.mk (zD X2.out hb10)
 obtain ⟨A10, c10, rfl, _, _⟩ := Kd.zaE hR10
 have F7 := za.mk hR10
 clear hR10 hb10
 clear F6 X2
 go_wp2_with fail
 refine (zbP.calls zef _ rfl).mono ?_
 rintro e w11 ⟨v11, rfl, hR11, hb11⟩
 replace HB := za.mk (zu HB.out hb11)
 replace F3 := za.mk (Kd.zH F3.out hb11)
 replace F5 := za.mk (Kd.zH F5.out hb11)
 replace F7 := za.mk (Kd.zH F7.out hb11)
 obtain ⟨A11, c11, rfl, _, _⟩ := Kd.zf8 hR11
 have F8 := za.mk hR11
 clear hR11 hb11
 go_wp2_with fail
 have hbx := ze (Below.refl w11.heap.size w11) (.cells #[.string ⟨#[97, 110, 110, 97]⟩, .string ⟨#[98, 101, 110]⟩, .string ⟨#[100, 97, 110]⟩] 9)
 have X3 := za.mk (heap_alloc_new w11 (.cells #[.string ⟨#[97, 110, 110, 97]⟩, .string ⟨#[98, 101, 110]⟩, .string ⟨#[100, 97, 110]⟩] 9))
 replace HB := za.mk (zu HB.out hbx)
 replace F3 := za.mk (Kd.zH F3.out hbx)
 replace F5 := za.mk (Kd.zH F5.out hbx)
 replace F7 := za.mk (Kd.zH F7.out hbx)
 replace F8 := za.mk (Kd.zbU F8.out hbx)
 obtain ⟨u11, hu⟩ : ∃ u_, w11.alloc (.cells #[.string ⟨#[97, 110, 110, 97]⟩, .string ⟨#[98, 101, 110]⟩, .string ⟨#[100, 97, 110]⟩] 9) = u_ := ⟨_, rfl⟩
 rw [hu] at F3 F5 F7 F8 X3 HB ⊢
 clear hu hbx
 refine (za3.calls 100 _ _ zef _ _ [⟨#[97, 110, 110, 97]⟩, ⟨#[98, 101, 110]⟩, ⟨#[100, 97, 110]⟩] [1, 0, -1] 0 _ (Kd.zao F8.out).2.2 (Kd.zao F8.out).2.1 (zeS X3.out rfl (by decide)) (by decide) zgq).mono ?_
 rintro e w12 ⟨v12, rfl, hR12, hb12⟩
 replace HB := za.mk (zu HB.out hb12)
 replace F3 := za.mk (Kd.zH F3.out hb12)
 replace F5 := za.mk (Kd.zH F5.out hb12)
 replace F7 := za.mk (Kd.zH F7.out hb12)
 replace F8 := za.mk (Kd.zbU F8.out hb12)
 replace X3 := za.mk (zD X3.out hb12)
 obtain ⟨A12, c12, rfl, _, _⟩ := Kd.zaE hR12
 have F9 := za.mk hR12
 clear hR12 hb12
 clear F8 X3
 go_wp2_with fail
 refine (zbP.calls zef _ rfl).mono ?_
 rintro e w13 ⟨v13, rfl, hR13, hb13⟩
 replace HB := za.mk (zu HB.out hb13)
 replace F3 := za.mk (Kd.zH F3.out hb13)
 replace F5 := za.mk (Kd.zH F5.out hb13)
 replace F7 := za.mk (Kd.zH F7.out hb13)
 replace F9 := za.mk (Kd.zH F9.out hb13)
 obtain ⟨A13, c13, rfl, _, _⟩ := Kd.zf8 hR13
 have F10 := za.mk hR13
 clear hR13 hb13
 go_wp2_with fail
 refine (zbq.calls 2 ⟨#[100, 97, 110]⟩ 1 2 ⟨#[100, 97, 110]⟩ _ rfl).mono ?_
 rintro e w14 ⟨rfl, hb14⟩
 replace HB := za.mk (zu HB.out hb14)
 replace F3 := za.mk (Kd.zH F3.out hb14)
 replace F5 := za.mk (Kd.zH F5.out hb14)
 replace F7 := za.mk (Kd.zH F7.out hb14)
 replace F9 := za.mk (Kd.zH F9.out hb14)
 replace F10 := za.mk (Kd.zbU F10.out hb14)
 clear hb14
 go_wp2_with fail
 have hbx := ze (Below.refl w14.heap.size w14) (.cells #[.int .i64 1, .int .i64 2, .string ⟨#[100, 97, 110]⟩] 63)
 have X4 := za.mk (heap_alloc_new w14 (.cells #[.int .i64 1, .int .i64 2, .string ⟨#[100, 97, 110]⟩] 63))
 replace HB := za.mk (zu HB.out hbx)
 replace F3 := za.mk (Kd.zH F3.out hbx)
 replace F5 := za.mk (Kd.zH F5.out hbx)
 replace F7 := za.mk (Kd.zH F7.out hbx)
 replace F9 := za.mk (Kd.zH F9.out hbx)
 replace F10 := za.mk (Kd.zbU F10.out hbx)
 have e4 : (w14.alloc (.cells #[.int .i64 1, .int .i64 2, .string ⟨#[100, 97, 110]⟩] 63)).heap.size = w14.heap.size + 1 := Array.size_push _
 have hby := ze (Below.refl _ (w14.alloc (.cells #[.int .i64 1, .int .i64 2, .string ⟨#[100, 97, 110]⟩] 63))) (.cells #[.string ⟨#[97, 110, 110, 97]⟩, .string ⟨#[99, 121, 100]⟩, .string ⟨#[98, 101, 110]⟩, .string ⟨#[100, 97, 110]⟩] 9)
 have X5 := za.mk (heap_alloc_new (w14.alloc (.cells #[.int .i64 1, .int .i64 2, .string ⟨#[100, 97, 110]⟩] 63)) (.cells #[.string ⟨#[97, 110, 110, 97]⟩, .string ⟨#[99, 121, 100]⟩, .string ⟨#[98, 101, 110]⟩, .string ⟨#[100, 97, 110]⟩] 9))
 rw [e4] at X5
 replace HB := za.mk (zu HB.out hby)
 replace F3 := za.mk (Kd.zH F3.out hby)
 replace F5 := za.mk (Kd.zH F5.out hby)
 replace F7 := za.mk (Kd.zH F7.out hby)
 replace F9 := za.mk (Kd.zH F9.out hby)
 replace F10 := za.mk (Kd.zbU F10.out hby)
 replace X4 := za.mk (zD X4.out hby)
 obtain ⟨u14, hu⟩ : ∃ u_, (w14.alloc (.cells #[.int .i64 1, .int .i64 2, .string ⟨#[100, 97, 110]⟩] 63)).alloc (.cells #[.string ⟨#[97, 110, 110, 97]⟩, .string ⟨#[99, 121, 100]⟩, .string ⟨#[98, 101, 110]⟩, .string ⟨#[100, 97, 110]⟩] 9) = u_ := ⟨_, rfl⟩
 rw [hu] at F3 F5 F7 F9 F10 X4 X5 HB ⊢
 clear hu hbx hby e4
 refine (zc5.calls 100 _ _ zef _ _ [⟨1, 2, ⟨#[100, 97, 110]⟩⟩] _ _ [⟨#[97, 110, 110, 97]⟩, ⟨#[99, 121, 100]⟩, ⟨#[98, 101, 110]⟩, ⟨#[100, 97, 110]⟩] 2 2 0 _ (Kd.zao F10.out).2.2 (Kd.zao F10.out).2.1 (zgi X4.out rfl (by decide)) (by decide) (zeS X5.out rfl (by decide)) (by decide) zhg).mono ?_
 rintro e w15 ⟨rfl, hb15⟩
 replace HB := za.mk (zu HB.out hb15)
 replace F3 := za.mk (Kd.zH F3.out hb15)
 replace F5 := za.mk (Kd.zH F5.out hb15)
 replace F7 := za.mk (Kd.zH F7.out hb15)
 replace F9 := za.mk (Kd.zH F9.out hb15)
 replace F10 := za.mk (Kd.zbU F10.out hb15)
 replace X4 := za.mk (zD X4.out hb15)
 replace X5 := za.mk (zD X5.out hb15)
 clear hb15
 clear F10 X4 X5
 go_wp2_with fail
 have hbx := ze (Below.refl w15.heap.size w15) (.cells #[.int .i64 2, .int .i64 2] 54)
 replace HB := za.mk (zu HB.out hbx)
 replace F3 := za.mk (Kd.zH F3.out hbx)
 replace F5 := za.mk (Kd.zH F5.out hbx)
 replace F7 := za.mk (Kd.zH F7.out hbx)
 replace F9 := za.mk (Kd.zH F9.out hbx)
 have e4 : (w15.alloc (.cells #[.int .i64 2, .int .i64 2] 54)).heap.size = w15.heap.size + 1 := Array.size_push _
 have hby := ze (Below.refl _ (w15.alloc (.cells #[.int .i64 2, .int .i64 2] 54))) (.cells #[.string ⟨#[97, 110, 110, 97]⟩, .string ⟨#[98, 101, 97]⟩, .string ⟨#[98, 101, 110]⟩, .string ⟨#[99, 105, 100]⟩] 9)
 have X6 := za.mk (heap_alloc_new (w15.alloc (.cells #[.int .i64 2, .int .i64 2] 54)) (.cells #[.string ⟨#[97, 110, 110, 97]⟩, .string ⟨#[98, 101, 97]⟩, .string ⟨#[98, 101, 110]⟩, .string ⟨#[99, 105, 100]⟩] 9))
 rw [e4] at X6
 replace HB := za.mk (zu HB.out hby)
 replace F3 := za.mk (Kd.zH F3.out hby)
 replace F5 := za.mk (Kd.zH F5.out hby)
 replace F7 := za.mk (Kd.zH F7.out hby)
 replace F9 := za.mk (Kd.zH F9.out hby)
 obtain ⟨u15, hu⟩ : ∃ u_, (w15.alloc (.cells #[.int .i64 2, .int .i64 2] 54)).alloc (.cells #[.string ⟨#[97, 110, 110, 97]⟩, .string ⟨#[98, 101, 97]⟩, .string ⟨#[98, 101, 110]⟩, .string ⟨#[99, 105, 100]⟩] 9) = u_ := ⟨_, rfl⟩
 rw [hu] at F3 F5 F7 F9 X6 HB ⊢
 clear hu hbx hby e4
 refine (zaI.calls 100 _ _ [⟨#[97, 110, 110, 97]⟩, ⟨#[98, 101, 97]⟩, ⟨#[98, 101, 110]⟩, ⟨#[99, 105, 100]⟩] _ _ [⟨#[97, 110, 110, 97]⟩, ⟨#[98, 101, 97]⟩, ⟨#[98, 101, 110]⟩, ⟨#[99, 105, 100]⟩] true _ (zbm F3.out).1 (zbm F3.out).2 (zeS X6.out rfl (by decide)) (by decide) zhO).mono ?_
 rintro e w16 ⟨rfl, nd16, hw16⟩
 have hb16 : Below u15.heap.size u15 w16 := by rw [hw16]; exact zb (Below.refl _ _) _
 clear hw16
 replace HB := za.mk (zu HB.out hb16)
 replace F3 := za.mk (Kd.zH F3.out hb16)
 replace F5 := za.mk (Kd.zH F5.out hb16)
 replace F7 := za.mk (Kd.zH F7.out hb16)
 replace F9 := za.mk (Kd.zH F9.out hb16)
 replace X6 := za.mk (zD X6.out hb16)
 clear hb16
 clear F3 X6
 go_wp2_with fail
 refine (zbQ.calls zcS _ rfl).mono ?_
 rintro e w17 ⟨v17, rfl, hR17, hb17⟩
 replace HB := za.mk (zu HB.out hb17)
 replace F5 := za.mk (Kd.zH F5.out hb17)
 replace F7 := za.mk (Kd.zH F7.out hb17)
 replace F9 := za.mk (Kd.zH F9.out hb17)
 obtain ⟨A17, c17, rfl, _, _⟩ := Kd.zaE hR17
 have F11 := za.mk hR17
 clear hR17 hb17
 go_wp2_with fail
 refine (zaL.calls 100 _ _ zcS _ _ zcS true _ (zbm F5.out).1 (zbm F5.out).2 (zbm F11.out).1 (zbm F11.out).2 zhM).mono ?_
 rintro e w18 ⟨rfl, nd18, hw18⟩
 have hb18 : Below w17.heap.size w17 w18 := by rw [hw18]; exact zb (Below.refl _ _) _
 clear hw18
 replace HB := za.mk (zu HB.out hb18)
 replace F5 := za.mk (Kd.zH F5.out hb18)
 replace F7 := za.mk (Kd.zH F7.out hb18)
 replace F9 := za.mk (Kd.zH F9.out hb18)
 replace F11 := za.mk (Kd.zH F11.out hb18)
 clear hb18
 clear F5 F11
 go_wp2_with fail
 have hbx := ze (Below.refl w18.heap.size w18) (.cells #[.int .i64 1, .int .i64 0, .int .i64 2] 3)
 have X7 := za.mk (heap_alloc_new w18 (.cells #[.int .i64 1, .int .i64 0, .int .i64 2] 3))
 replace HB := za.mk (zu HB.out hbx)
 replace F7 := za.mk (Kd.zH F7.out hbx)
 replace F9 := za.mk (Kd.zH F9.out hbx)
 obtain ⟨u18, hu⟩ : ∃ u_, w18.alloc (.cells #[.int .i64 1, .int .i64 0, .int .i64 2] 3) = u_ := ⟨_, rfl⟩
 rw [hu] at F7 F9 X7 HB ⊢
 clear hu hbx
 refine (zaa.calls 100 _ _ [1, 0, 2] _ _ [1, 0, 2] true _ (zbm F7.out).1 (zbm F7.out).2 (zgX X7.out rfl (by decide)) (by decide) zhf).mono ?_
 rintro e w19 ⟨rfl, nd19, hw19⟩
 have hb19 : Below u18.heap.size u18 w19 := by rw [hw19]; exact zb (Below.refl _ _) _
 clear hw19
 replace HB := za.mk (zu HB.out hb19)
 replace F7 := za.mk (Kd.zH F7.out hb19)
 replace F9 := za.mk (Kd.zH F9.out hb19)
 replace X7 := za.mk (zD X7.out hb19)
 clear hb19
 clear F7 X7
 go_wp2_with fail
 have hbx := ze (Below.refl w19.heap.size w19) (.cells #[.int .i64 1, .int .i64 0, .int .i64 (-1)] 3)
 have X8 := za.mk (heap_alloc_new w19 (.cells #[.int .i64 1, .int .i64 0, .int .i64 (-1)] 3))
 replace HB := za.mk (zu HB.out hbx)
 replace F9 := za.mk (Kd.zH F9.out hbx)
 obtain ⟨u19, hu⟩ : ∃ u_, w19.alloc (.cells #[.int .i64 1, .int .i64 0, .int .i64 (-1)] 3) = u_ := ⟨_, rfl⟩
 rw [hu] at F9 X8 HB ⊢
 clear hu hbx
 refine (zaa.calls 100 _ _ [1, 0, -1] _ _ [1, 0, -1] true _ (zbm F9.out).1 (zbm F9.out).2 (zgX X8.out rfl (by decide)) (by decide) zhn).mono ?_
 rintro e w20 ⟨rfl, nd20, hw20⟩
 have hb20 : Below u19.heap.size u19 w20 := by rw [hw20]; exact zb (Below.refl _ _) _
 clear hw20
 replace HB := za.mk (zu HB.out hb20)
 replace F9 := za.mk (Kd.zH F9.out hb20)
 replace X8 := za.mk (zD X8.out hb20)
 clear hb20
 clear F9 X8
 go_wp2_with fail
 go_ret
 exact ⟨rfl, HB.out⟩
def zaA.f : Option Bool := some true
theorem zaA.calls (r : Bool) (w : World) (h : zaA.f = some r) : Calls Try.prog 18 #[] w fun e w' => e = .returned (.bool r) ∧ Below w.heap.size w w' := by
 obtain rfl : true = r := Option.some.inj h
 exact zeO w
mutual
def zt.l0 : Nat → List ByteArray → List (S63) → Int → List Int → Int → List (List Int) → Int → Option (Bool)
 | 0, _, _, _, _, _, _, _ => none
 | k + 1, x4, x5, x6, x7, x8, x9, x10 => if x10 < (x9.length : Int) then (zt.l1 k x4 x5 x6 x7 x8 x9 x10 (x4.length : Int) true 0) else (if x8 = 11 then (if (x7.length : Int) = 0 then ((zaA.f).bind fun t525 => (some t525)) else (some false)) else (some false))
def zt.l1 : Nat → List ByteArray → List (S63) → Int → List Int → Int → List (List Int) → Int → Int → Bool → Int → Option (Bool)
 | 0, _, _, _, _, _, _, _, _, _, _ => none
 | k + 1, x4, x5, x6, x7, x8, x9, x10, x11, x12, x13 => if 0 ≤ x10 then (if x10 < (x9.length : Int) then (if x13 < ((zak x9 x10).length : Int) then (if 0 ≤ x13 then (if 0 ≤ (rd (zak x9 x10) x13) then (if (rd (zak x9 x10) x13) < (x5.length : Int) then (if ((zk x5 (rd (zak x9 x10) x13)).f0) = 1 then (if x12 = true then (zt.l1 k x4 x5 x6 x7 x8 x9 x10 (wrap64 (x11 + 1)) (decide ((wrap64 (x11 + 1)) ≤ x6)) (wrap64 (x13 + 1))) else (zt.l1 k x4 x5 x6 x7 x8 x9 x10 (wrap64 (x11 + 1)) false (wrap64 (x13 + 1)))) else (if ((zk x5 (rd (zak x9 x10) x13)).f0) = 3 then (if x12 = true then (zt.l1 k x4 x5 x6 x7 x8 x9 x10 (wrap64 (x11 - 1)) (decide ((wrap64 (x11 - 1)) ≤ x6)) (wrap64 (x13 + 1))) else (zt.l1 k x4 x5 x6 x7 x8 x9 x10 (wrap64 (x11 - 1)) false (wrap64 (x13 + 1)))) else (if x12 = true then (zt.l1 k x4 x5 x6 x7 x8 x9 x10 x11 (decide (x11 ≤ x6)) (wrap64 (x13 + 1))) else (zt.l1 k x4 x5 x6 x7 x8 x9 x10 x11 false (wrap64 (x13 + 1)))))) else (none)) else (none)) else (none)) else (if x12 = true then (if x8 = 0 then ((zaa.f k x7 (zak x9 x10)).bind fun t531 => (if t531 = true then ((zaA.f).bind fun t532 => (some t532)) else (some false))) else (some false)) else (zt.l0 k x4 x5 x6 x7 x8 x9 (wrap64 (x10 + 1))))) else (none)) else (none)
end
def zt.f (k : Nat) (l0 : List Int) : Option (Bool) := (zbo.f l0).bind fun bt501 => ((zN.f k bt501.1 bt501.2.1 bt501.2.2 4).bind fun bt505 => ((zq.f k bt501.1 bt505.2.1 bt505.2.2 (bt505.1.length : Int) 4).bind fun bt510 => ((zX.f bt501.1 bt510.2.1 bt510.2.2 2).bind fun bt515 => ((za5.f bt505.1 bt510.1 (wrap64 ((bt505.1.length : Int) + bt515.1))).bind fun bt518 => ((zG.f k (bt510.1.length : Int) ([] : List Int)).bind fun t522 => (zt.l0 k bt505.1 bt510.1 (wrap64 ((bt505.1.length : Int) + bt515.1)) bt518.1 bt518.2 t522 0))))))
set_option maxHeartbeats 8000000 in
set_option maxRecDepth 100000 in
theorem zt.calls (k : Nat) (A0 : Option Addr) (c0 : Nat) (l0 : List Int) (r : Bool) (w : World) (hr0 : Kd.C (Kd.int .i64) w A0 l0.length l0) (hc0 : l0.length ≤ c0) (h : zt.f k l0 = some r) :
  Calls Try.prog 7 #[.slice A0 l0.length c0] w fun e w' => e = .returned (.bool r) ∧ Below w.heap.size w w' := by
 have HR0 := za.mk hr0
 have HC0 := za.mk hc0
 clear hr0 hc0
 have HB := za.mk (Below.refl w.heap.size w)
 have H : ((zbo.f l0).bind fun bt501 => ((zN.f k bt501.1 bt501.2.1 bt501.2.2 4).bind fun bt505 => ((zq.f k bt501.1 bt505.2.1 bt505.2.2 (bt505.1.length : Int) 4).bind fun bt510 => ((zX.f bt501.1 bt510.2.1 bt510.2.2 2).bind fun bt515 => ((za5.f bt505.1 bt510.1 (wrap64 ((bt505.1.length : Int) + bt515.1))).bind fun bt518 => ((zG.f k (bt510.1.length : Int) ([] : List Int)).bind fun t522 => (zt.l0 k bt505.1 bt510.1 (wrap64 ((bt505.1.length : Int) + bt515.1)) bt518.1 bt518.2 t522 0))))))) = some r := h
 clear h
 replace H := Option.bind_eq_some_iff.mp H
 obtain ⟨⟨t501, t502, t503⟩, A20, H⟩ := H
 replace H : ((zN.f k t501 t502 t503 4).bind fun bt505 => ((zq.f k t501 bt505.2.1 bt505.2.2 (bt505.1.length : Int) 4).bind fun bt510 => ((zX.f t501 bt510.2.1 bt510.2.2 2).bind fun bt515 => ((za5.f bt505.1 bt510.1 (wrap64 ((bt505.1.length : Int) + bt515.1))).bind fun bt518 => ((zG.f k (bt510.1.length : Int) ([] : List Int)).bind fun t522 => (zt.l0 k bt505.1 bt510.1 (wrap64 ((bt505.1.length : Int) + bt515.1)) bt518.1 bt518.2 t522 0)))))) = some r := H
 have A2 := za.mk A20
 clear A20
 replace H := Option.bind_eq_some_iff.mp H
 obtain ⟨⟨t505, t508, t509⟩, A30, H⟩ := H
 replace H : ((zq.f k t501 t508 t509 (t505.length : Int) 4).bind fun bt510 => ((zX.f t501 bt510.2.1 bt510.2.2 2).bind fun bt515 => ((za5.f t505 bt510.1 (wrap64 ((t505.length : Int) + bt515.1))).bind fun bt518 => ((zG.f k (bt510.1.length : Int) ([] : List Int)).bind fun t522 => (zt.l0 k t505 bt510.1 (wrap64 ((t505.length : Int) + bt515.1)) bt518.1 bt518.2 t522 0))))) = some r := H
 have A3 := za.mk A30
 clear A30
 replace H := Option.bind_eq_some_iff.mp H
 obtain ⟨⟨t510, t513, t514⟩, A40, H⟩ := H
 replace H : ((zX.f t501 t513 t514 2).bind fun bt515 => ((za5.f t505 t510 (wrap64 ((t505.length : Int) + bt515.1))).bind fun bt518 => ((zG.f k (t510.length : Int) ([] : List Int)).bind fun t522 => (zt.l0 k t505 t510 (wrap64 ((t505.length : Int) + bt515.1)) bt518.1 bt518.2 t522 0)))) = some r := H
 have A4 := za.mk A40
 clear A40
 replace H := Option.bind_eq_some_iff.mp H
 obtain ⟨⟨t515, t516, t517⟩, A50, H⟩ := H
 replace H : ((za5.f t505 t510 (wrap64 ((t505.length : Int) + t515))).bind fun bt518 => ((zG.f k (t510.length : Int) ([] : List Int)).bind fun t522 => (zt.l0 k t505 t510 (wrap64 ((t505.length : Int) + t515)) bt518.1 bt518.2 t522 0))) = some r := H
 have A5 := za.mk A50
 clear A50
 replace H := Option.bind_eq_some_iff.mp H
 obtain ⟨⟨t518, t519⟩, A60, H⟩ := H
 replace H : ((zG.f k (t510.length : Int) ([] : List Int)).bind fun t522 => (zt.l0 k t505 t510 (wrap64 ((t505.length : Int) + t515)) t518 t519 t522 0)) = some r := H
 have A6 := za.mk A60
 clear A60
 replace H := Option.bind_eq_some_iff.mp H
 obtain ⟨t522, A70, H⟩ := H
 replace H : (zt.l0 k t505 t510 (wrap64 ((t505.length : Int) + t515)) t518 t519 t522 0) = some r := H
 have A7 := za.mk A70
 clear A70
 have H' := za.mk H
 clear H
 go_enter Try.func7, Try.ntmps7
 go_wp2_with (first | ((with_reducible refine zC (f := 19) rfl ?_); refine zW (some 15) rfl rfl Try.func19 (by kernel_rfl) rfl #[.slice A0 l0.length c0] rfl (by (try simp only [List.map_toArray, List.map_cons, List.map_nil]); first | done | rfl | (simp only [List.length_drop, List.length_take]; rfl)) ?_; (with_reducible refine (zbo.calls _ _ l0 t501 t502 t503 w _ ?side1 ?side2 ?side3 A2.out).mono ?_); (case side1 => repeat (first | (with_reducible first | exact HB.out | apply ze | apply zb | apply zf) | exact HB.out)); (case side2 => exact HR0.out); (case side3 => exact HC0.out); rintro e w8 ⟨g504, rfl, hi, hb, hb2⟩; refine ⟨_, rfl, ?_⟩; have n0_ := za.mk (hb); have n1_ := za.mk (hi); clear HB; have HB := n0_; have HI504 := n1_; clear n0_ n1_; (try clear hb); (try clear hb2); (try clear hk); (try clear hi)) | ((with_reducible refine zC (f := 20) rfl ?_); refine zW (some 17) rfl rfl Try.func20 (by kernel_rfl) rfl #[.pointer (some ⟨g504, 0, none⟩), .int .i64 4] rfl (by (try simp only [List.map_toArray, List.map_cons, List.map_nil]); first | done | rfl | (simp only [List.length_drop, List.length_take]; rfl)) ?_; (with_reducible refine (zN.calls k g504 t501 t502 t503 4 t505 t508 t509 w _ ?side1 ?side2 A3.out).mono ?_); (case side1 => repeat (first | (with_reducible first | exact HI504.out | apply zn.alloc | apply zn.drewN | apply zn.drew | apply zn.zay | apply zn.zaz) | exact HI504.out)); (case side2 => repeat (first | (with_reducible first | exact HB.out | apply ze | apply zb | apply zf | refine zh ?_ (zn.ge HI504.out)) | exact HB.out)); rintro e w9 ⟨v506, rfl, ho0, hi, hb, hk⟩; refine ⟨_, rfl, ?_⟩; have n0_ := za.mk (Kd.zaT ho0 (zB (by repeat (first | (with_reducible first | exact HB.out | apply ze | apply zb | apply zf | refine zh ?_ (zn.ge HI504.out)) | exact HB.out)))); have n1_ := za.mk (hb); have n2_ := za.mk (hi); clear HB; clear HI504; have HO507 := n0_; have HB := n1_; have HI504 := n2_; clear n0_ n1_ n2_; (try clear hb); (try clear hb2); (try clear hk); (try clear hi); (try clear ho0); obtain ⟨Ao10, co10, eo10⟩ := Kd.zaX HO507.out; subst eo10) | ((with_reducible refine zC (f := 27) rfl ?_); refine zW (some 21) rfl rfl Try.func27 (by kernel_rfl) rfl #[.pointer (some ⟨g504, 0, none⟩), .int .i64 (t505.length : Int), .int .i64 4] rfl (by (try simp only [List.map_toArray, List.map_cons, List.map_nil]); first | done | rfl | (simp only [List.length_drop, List.length_take]; rfl)) ?_; (with_reducible refine (zq.calls k g504 t501 t508 t509 (t505.length : Int) 4 t510 t513 t514 w _ ?side1 ?side2 A4.out).mono ?_); (case side1 => repeat (first | (with_reducible first | exact HI504.out | apply zn.alloc | apply zn.drewN | apply zn.drew | apply zn.zay | apply zn.zaz) | exact HI504.out)); (case side2 => repeat (first | (with_reducible first | exact HB.out | apply ze | apply zb | apply zf | refine zh ?_ (zn.ge HI504.out)) | exact HB.out)); rintro e w11 ⟨v511, rfl, ho0, hi, hb, hk⟩; refine ⟨_, rfl, ?_⟩; have n0_ := za.mk (Kd.zaB (Kd.zb5 (zn.apart (show zn w _ g504 t501 t508 t509 from by repeat (first | (with_reducible first | exact HI504.out | apply zn.alloc | apply zn.drewN | apply zn.drew | apply zn.zay | apply zn.zaz) | exact HI504.out)) (by (with_reducible repeat (first | apply Kd.zJ | apply Kd.zI | apply Kd.zS)); exact HO507.out) (by decide)) hk (fun _ h => h.2)) (fun _ h => h.1)); have n1_ := za.mk (Kd.zaT ho0 (zB (by repeat (first | (with_reducible first | exact HB.out | apply ze | apply zb | apply zf | refine zh ?_ (zn.ge HI504.out)) | exact HB.out)))); have n2_ := za.mk (hb); have n3_ := za.mk (hi); clear HO507; clear HB; clear HI504; have HO507 := n0_; have HO512 := n1_; have HB := n2_; have HI504 := n3_; clear n0_ n1_ n2_ n3_; (try clear hb); (try clear hb2); (try clear hk); (try clear hi); (try clear ho0)) | ((with_reducible refine zC (f := 28) rfl ?_); refine zW (some 25) rfl rfl Try.func28 (by kernel_rfl) rfl #[.pointer (some ⟨g504, 0, none⟩), .int .i64 2] rfl (by (try simp only [List.map_toArray, List.map_cons, List.map_nil]); first | done | rfl | (simp only [List.length_drop, List.length_take]; rfl)) ?_; (with_reducible refine (zX.calls g504 t501 t513 t514 2 t515 t516 t517 w _ ?side1 ?side2 A5.out).mono ?_); (case side1 => repeat (first | (with_reducible first | exact HI504.out | apply zn.alloc | apply zn.drewN | apply zn.drew | apply zn.zay | apply zn.zaz) | exact HI504.out)); (case side2 => repeat (first | (with_reducible first | exact HB.out | apply ze | apply zb | apply zf | refine zh ?_ (zn.ge HI504.out)) | exact HB.out)); rintro e w12 ⟨rfl, hi, hb, hk⟩; refine ⟨_, rfl, ?_⟩; have n0_ := za.mk (Kd.zaB (Kd.zb5 (zn.apart (show zn w _ g504 t501 t513 t514 from by repeat (first | (with_reducible first | exact HI504.out | apply zn.alloc | apply zn.drewN | apply zn.drew | apply zn.zay | apply zn.zaz) | exact HI504.out)) (by (with_reducible repeat (first | apply Kd.zJ | apply Kd.zI | apply Kd.zS)); exact HO507.out) (by decide)) hk (fun _ h => h.2)) (fun _ h => h.1)); have n1_ := za.mk (Kd.zaB (Kd.zb5 (zn.apart (show zn w _ g504 t501 t513 t514 from by repeat (first | (with_reducible first | exact HI504.out | apply zn.alloc | apply zn.drewN | apply zn.drew | apply zn.zay | apply zn.zaz) | exact HI504.out)) (by (with_reducible repeat (first | apply Kd.zJ | apply Kd.zI | apply Kd.zS)); exact HO512.out) (by decide)) hk (fun _ h => h.2)) (fun _ h => h.1)); have n2_ := za.mk (hb); have n3_ := za.mk (hi); clear HO507; clear HO512; clear HB; clear HI504; have HO507 := n0_; have HO512 := n1_; have HB := n2_; have HI504 := n3_; clear n0_ n1_ n2_ n3_; (try clear hb); (try clear hb2); (try clear hk); (try clear hi); obtain ⟨Ao13, co13, eo13⟩ := Kd.zaX HO512.out; subst eo13) | ((with_reducible refine zC (f := 29) rfl ?_); refine zW (some 31) rfl rfl Try.func29 (by kernel_rfl) rfl #[.slice Ao10 t505.length co10, .slice Ao13 t510.length co13, .int .i64 (wrap64 ((t505.length : Int) + t515))] rfl (by (try simp only [List.map_toArray, List.map_cons, List.map_nil]); first | done | rfl | (simp only [List.length_drop, List.length_take]; rfl)) ?_; (with_reducible refine (za5.calls _ _ t505 _ _ t510 (wrap64 ((t505.length : Int) + t515)) t518 t519 _ ?side1 ?side2 ?side3 ?side4 A6.out).mono ?_); (case side1 => repeat (first | exact (Kd.zaP HO507.out).2.2 | (with_reducible refine Kd.zZ ?_ _) | (with_reducible refine Kd.z8 ?_ _) | (with_reducible refine Kd.zal ?_))); (case side2 => exact (Kd.zaP HO507.out).2.1); (case side3 => repeat (first | exact (Kd.zaP HO512.out).2.2 | (with_reducible refine Kd.zZ ?_ _) | (with_reducible refine Kd.z8 ?_ _) | (with_reducible refine Kd.zal ?_))); (case side4 => exact (Kd.zaP HO512.out).2.1); rintro e w14 ⟨v520, rfl, ho0, hb⟩; refine ⟨_, rfl, ?_⟩; have n0_ := za.mk (Kd.zH (by (with_reducible repeat (first | apply Kd.zJ | apply Kd.zI | apply Kd.zS)); exact HO507.out) hb); have n1_ := za.mk (Kd.zH (by (with_reducible repeat (first | apply Kd.zJ | apply Kd.zI | apply Kd.zS)); exact HO512.out) hb); have n2_ := za.mk (Kd.zaT ho0 (zB (by repeat (first | (with_reducible first | exact HB.out | apply ze | apply zb | apply zf | refine zh ?_ (zn.ge HI504.out)) | exact HB.out)))); have n3_ := za.mk (zn.below (by repeat (first | (with_reducible first | exact HI504.out | apply zn.alloc | apply zn.drewN | apply zn.drew | apply zn.zay | apply zn.zaz) | exact HI504.out)) hb); have n4_ := za.mk (zu (by repeat (first | (with_reducible first | exact HB.out | apply ze | apply zb | apply zf | refine zh ?_ (zn.ge HI504.out)) | exact HB.out)) hb); clear HO507; clear HO512; clear HI504; clear HB; have HO507 := n0_; have HO512 := n1_; have HO521 := n2_; have HI504 := n3_; have HB := n4_; clear n0_ n1_ n2_ n3_ n4_; (try clear hb); (try clear hb2); (try clear hk); (try clear hi); (try clear ho0)) | ((with_reducible refine zC (f := 41) rfl ?_); refine zW (some 36) rfl rfl Try.func41 (by kernel_rfl) rfl #[.int .i64 (t510.length : Int), .slice none 0 0] rfl (by (try simp only [List.map_toArray, List.map_cons, List.map_nil]); first | done | rfl | (simp only [List.length_drop, List.length_take]; rfl)) ?_; (refine (zG.calls k (t510.length : Int) (fun k_ => False) _ _ ([] : List Int) t522 _ ?side1 A7.out).mono ?_); (case side1 => exact Kd.zcR _ _ _ _ _); rintro e w15 ⟨v523, rfl, ho0, hb⟩; refine ⟨_, rfl, ?_⟩; have n0_ := za.mk (Kd.zH (by (with_reducible repeat (first | apply Kd.zJ | apply Kd.zI | apply Kd.zS)); exact HO507.out) hb); have n1_ := za.mk (Kd.zH (by (with_reducible repeat (first | apply Kd.zJ | apply Kd.zI | apply Kd.zS)); exact HO512.out) hb); have n2_ := za.mk (Kd.zH (by (with_reducible repeat (first | apply Kd.zJ | apply Kd.zI | apply Kd.zS)); exact HO521.out) hb); have n3_ := za.mk (Kd.zd8 (Kd.zdi (ok' := fun k_ => some k_ ≠ (.slice Ao10 t505.length co10 : Value).ownBlock ∧ some k_ ≠ (.slice Ao13 t510.length co13 : Value).ownBlock ∧ some k_ ≠ (v520 : Value).ownBlock ∧ k_ ≠ g504) ho0 (fun k_ hk_ => ⟨Or.elim hk_ (fun hs_ => (hs_).elim) (fun hn_ => (Kd.fresh' (Kd.zfB (by (with_reducible repeat (first | apply Kd.zJ | apply Kd.zI | apply Kd.zS)); exact HO507.out)) k_ hn_)), Or.elim hk_ (fun hs_ => (hs_).elim) (fun hn_ => (Kd.fresh' (Kd.zfB (by (with_reducible repeat (first | apply Kd.zJ | apply Kd.zI | apply Kd.zS)); exact HO512.out)) k_ hn_)), Or.elim hk_ (fun hs_ => (hs_).elim) (fun hn_ => (Kd.fresh' (Kd.zfB (by (with_reducible repeat (first | apply Kd.zJ | apply Kd.zI | apply Kd.zS)); exact HO521.out)) k_ hn_)), Or.elim hk_ (fun hs_ => (hs_).elim) (fun hn_ => (zn.fresh (by repeat (first | (with_reducible first | exact HI504.out | apply zn.alloc | apply zn.drewN | apply zn.drew | apply zn.zay | apply zn.zaz) | exact HI504.out)) k_ hn_))⟩)) (zB (by repeat (first | (with_reducible first | exact HB.out | apply ze | apply zb | apply zf | refine zh ?_ (zn.ge HI504.out)) | exact HB.out)))); have n4_ := za.mk (zn.below (by repeat (first | (with_reducible first | exact HI504.out | apply zn.alloc | apply zn.drewN | apply zn.drew | apply zn.zay | apply zn.zaz) | exact HI504.out)) hb); have n5_ := za.mk (zu (by repeat (first | (with_reducible first | exact HB.out | apply ze | apply zb | apply zf | refine zh ?_ (zn.ge HI504.out)) | exact HB.out)) hb); clear HO507; clear HO512; clear HO521; clear HI504; clear HB; have HO507 := n0_; have HO512 := n1_; have HO521 := n2_; have HO524 := n3_; have HI504 := n4_; have HB := n5_; clear n0_ n1_ n2_ n3_ n4_ n5_; (try clear hb); (try clear hb2); (try clear hk); (try clear hi); (try clear ho0)))
 go_loopg [10] k (fun kq v10 w' => ∃ (x10_1 : Int), v10 = .int .i64 x10_1 ∧ za (zt.l0 kq t505 t510 (wrap64 ((t505.length : Int) + t515)) t518 t519 t522 x10_1 = some r) ∧ za (kq ≤ k) ∧ za (Kd.R Kd.string 9 w' w.heap.size (fun _ => True) (.slice Ao10 t505.length co10) t505) ∧ za (Kd.R k63 63 w' w.heap.size (fun _ => True) (.slice Ao13 t510.length co13) t510) ∧ za (Kd.R (Kd.int .i64) 3 w' w.heap.size (fun _ => True) v520 t518) ∧ za (Kd.N (Kd.slice 3 (Kd.int .i64)) 23 w' w.heap.size (fun k_ => some k_ ≠ ((.slice Ao10 t505.length co10) : Value).ownBlock ∧ some k_ ≠ ((.slice Ao13 t510.length co13) : Value).ownBlock ∧ some k_ ≠ (v520 : Value).ownBlock) v523 t522) ∧ za (Below w.heap.size w w'))
 case atStart => exact ⟨(0), (by first | rfl | (simp; done) | (simp [*]; done)), H', ⟨Nat.le_refl _⟩, ⟨by (with_reducible repeat (first | apply Kd.zJ | apply Kd.zI | apply Kd.zS)); exact HO507.out⟩, ⟨by (with_reducible repeat (first | apply Kd.zJ | apply Kd.zI | apply Kd.zS)); exact HO512.out⟩, ⟨by (with_reducible repeat (first | apply Kd.zJ | apply Kd.zI | apply Kd.zS)); exact HO521.out⟩, ⟨by (with_reducible repeat (first | apply Kd.za8 | apply Kd.za7 | apply Kd.zbk)); exact Kd.zdi HO524.out (fun _ hk => ⟨hk.1, ⟨hk.2.1, hk.2.2.1⟩⟩)⟩, ⟨by repeat (first | (with_reducible first | exact HB.out | apply ze | apply zb | apply zf | refine zh ?_ (zn.ge HI504.out)) | exact HB.out)⟩⟩
 case round =>
  clear H'
  try clear c1
  try clear c2
  try clear p2
  try clear c4
  try clear p6
  try clear c7
  obtain ⟨x10_1, rfl, HA, HK1, HO_4, HO_5, HO_7, HO_9, HB⟩ := hrel
  cases gk with
  | zero => exact absurd HA.out (by simp [zt.l0])
  | succ k1 =>
   have H := HA.out
   clear HA
   simp only [zt.l0] at H
   by_cases c16 : x10_1 < (t522.length : Int)
   ·rw [if_pos c16] at H
    have c16b0 : decide (x10_1 < (t522.length : Int)) = true := decide_eq_true c16
    clear c16
    have H' := za.mk H
    clear H
    obtain ⟨Ao17, co17, eo17⟩ := Kd.zde HO_9.out
    subst eo17
    go_wp2
    go_loopg [11, 12, 13] k1 (fun kq v11 v12 v13 w' => ∃ (x11_2 : Int) (x12_2 : Bool) (x13_2 : Int), v11 = .int .i64 x11_2 ∧ v12 = .bool x12_2 ∧ v13 = .int .i64 x13_2 ∧ za (zt.l1 kq t505 t510 (wrap64 ((t505.length : Int) + t515)) t518 t519 t522 x10_1 x11_2 x12_2 x13_2 = some r) ∧ za (kq ≤ k1) ∧ za (Kd.R Kd.string 9 w' w.heap.size (fun _ => True) (.slice Ao10 t505.length co10) t505) ∧ za (Kd.R k63 63 w' w.heap.size (fun _ => True) (.slice Ao13 t510.length co13) t510) ∧ za (Kd.R (Kd.int .i64) 3 w' w.heap.size (fun _ => True) v520 t518) ∧ za (Kd.N (Kd.slice 3 (Kd.int .i64)) 23 w' w.heap.size (fun k_ => some k_ ≠ ((.slice Ao10 t505.length co10) : Value).ownBlock ∧ some k_ ≠ ((.slice Ao13 t510.length co13) : Value).ownBlock ∧ some k_ ≠ (v520 : Value).ownBlock) (.slice Ao17 t522.length co17) t522) ∧ za (Below w.heap.size w w'))
    case atStart => exact ⟨((t505.length : Int)), (true), (0), (by first | rfl | (simp; done) | (simp [*]; done)), (by first | rfl | (simp; done) | (simp [*]; done)), (by first | rfl | (simp; done) | (simp [*]; done)), H', ⟨Nat.le_refl _⟩, ⟨by (with_reducible repeat (first | apply Kd.zJ | apply Kd.zI | apply Kd.zS)); exact HO_4.out⟩, ⟨by (with_reducible repeat (first | apply Kd.zJ | apply Kd.zI | apply Kd.zS)); exact HO_5.out⟩, ⟨by (with_reducible repeat (first | apply Kd.zJ | apply Kd.zI | apply Kd.zS)); exact HO_7.out⟩, ⟨by (with_reducible repeat (first | apply Kd.za8 | apply Kd.za7 | apply Kd.zbk)); exact HO_9.out⟩, ⟨by repeat (first | (with_reducible first | exact HB.out | apply ze | apply zb | apply zf) | exact HB.out)⟩⟩
    case round =>
     clear H'
     try clear c1
     try clear c2
     try clear p2
     try clear c4
     try clear p6
     try clear c7
     try clear c16
     try clear c16b0
     try clear p2
     try clear p6
     obtain ⟨x11_2, x12_2, x13_2, rfl, rfl, rfl, HA, HK2, HO_4, HO_5, HO_7, HO_9, HB⟩ := hrel
     cases gk with
     | zero => exact absurd HA.out (by simp [zt.l1])
     | succ k2 =>
      have H := HA.out
      clear HA
      simp only [zt.l1] at H
      by_cases c18 : 0 ≤ x10_1
      ·rw [if_pos c18] at H
       have c18b0 : decide (0 ≤ x10_1) = true := decide_eq_true c18
       clear c18
       by_cases c19 : x10_1 < (t522.length : Int)
       ·rw [if_pos c19] at H
        have c19b0 : decide (x10_1 < (t522.length : Int)) = true := decide_eq_true c19
        clear c19
        by_cases c20 : x13_2 < ((zak t522 x10_1).length : Int)
        ·rw [if_pos c20] at H
         have c20b0 : decide (x13_2 < ((zak t522 x10_1).length : Int)) = true := decide_eq_true c20
         clear c20
         by_cases c21 : 0 ≤ x13_2
         ·rw [if_pos c21] at H
          have c21b0 : decide (0 ≤ x13_2) = true := decide_eq_true c21
          clear c21
          by_cases c22 : 0 ≤ (rd (zak t522 x10_1) x13_2)
          ·rw [if_pos c22] at H
           have c22b0 : decide (0 ≤ (rd (zak t522 x10_1) x13_2)) = true := decide_eq_true c22
           clear c22
           by_cases c23 : (rd (zak t522 x10_1) x13_2) < (t510.length : Int)
           ·rw [if_pos c23] at H
            have c23b0 : decide ((rd (zak t522 x10_1) x13_2) < (t510.length : Int)) = true := decide_eq_true c23
            clear c23
            by_cases c24 : ((zk t510 (rd (zak t522 x10_1) x13_2)).f0) = 1
            ·rw [if_pos c24] at H
             have c24b0 : (((zk t510 (rd (zak t522 x10_1) x13_2)).f0) == 1) = true := beq_iff_eq.mpr c24
             have c24b1 : (((zk t510 (rd (zak t522 x10_1) x13_2)).f0) != 1) = false := bne_eq_false_iff_eq.mpr c24
             clear c24
             by_cases c25 : x12_2 = true
             ·subst c25
              have H1 : (zt.l1 k2 t505 t510 (wrap64 ((t505.length : Int) + t515)) t518 t519 t522 x10_1 (wrap64 (x11_2 + 1)) (decide ((wrap64 (x11_2 + 1)) ≤ (wrap64 ((t505.length : Int) + t515)))) (wrap64 (x13_2 + 1))) = some r := by rw [if_pos rfl] at H; exact H
              clear H
              have H := H1
              clear H1
              have H' := za.mk H
              clear H
              have p526 : 0 ≤ (x10_1 : Int) := of_decide_eq_true (by first | (with_reducible assumption) | assumption)
              have q526 : x10_1 < (t522.length : Int) := of_decide_eq_true (by first | (with_reducible assumption) | assumption)
              obtain ⟨ad526, A526_0, c526_0, e526, hx526_0, hl526_0, hi526_0⟩ := zbT (Kd.zao HO_9.out).2.2 x10_1 p526 q526
              cases e526
              obtain ⟨ce526, hce526, hMe526, hcc526⟩ := Kd.zbR HO_9.out [] x10_1 p526 (by first | exact q526 | exact of_decide_eq_true (by first | (with_reducible assumption) | assumption) | (have e_ := (Kd.zao HO_9.out).1; omega))
              obtain ⟨ua526_0, uc526_0, rfl, ul526_0, ge526_0⟩ := Kd.zaK hMe526
              have hv526_0 := hcc526 0 _ rfl
              rw [Nat.add_zero, show ((Kd.slice 3 (Kd.int .i64))).sz = 1 from rfl, Nat.mul_one] at hv526_0
              replace hv526_0 := Option.some.inj (hv526_0.symm.trans hx526_0)
              injection hv526_0 with hva_ hvn_ hvc_
              rw [hva_] at ge526_0
              rw [hvc_] at ul526_0
              have HL526_0 := za.mk (show Kd.V (Kd.int .i64) 3 _ w.heap.size _ _ (zak t522 x10_1) from Kd.zcj ul526_0 ge526_0)
              clear hva_ hvn_ hvc_ ge526_0 ul526_0
              clear hcc526 hce526
              have HR526_0 := za.mk hi526_0
              have HC526_0 := za.mk hl526_0
              clear hi526_0 hl526_0
              replace p526 := eq_true p526
              replace q526 := eq_true q526
              have p527 : 0 ≤ (x10_1 : Int) := of_decide_eq_true (by first | (with_reducible assumption) | assumption)
              have q527 : x10_1 < (t522.length : Int) := of_decide_eq_true (by first | (with_reducible assumption) | assumption)
              obtain ⟨ad527, A527_0, c527_0, e527, hx527_0, hl527_0, hi527_0⟩ := zbT (Kd.zao HO_9.out).2.2 x10_1 p527 q527
              obtain rfl : ad526 = ad527 := (by injection e527)
              obtain ⟨ce527, hce527, hMe527, hcc527⟩ := Kd.zbR HO_9.out [] x10_1 p527 (by first | exact q527 | exact of_decide_eq_true (by first | (with_reducible assumption) | assumption) | (have e_ := (Kd.zao HO_9.out).1; omega))
              obtain ⟨ua527_0, uc527_0, rfl, ul527_0, ge527_0⟩ := Kd.zaK hMe527
              have hv527_0 := hcc527 0 _ rfl
              rw [Nat.add_zero, show ((Kd.slice 3 (Kd.int .i64))).sz = 1 from rfl, Nat.mul_one] at hv527_0
              replace hv527_0 := Option.some.inj (hv527_0.symm.trans hx527_0)
              injection hv527_0 with hva_ hvn_ hvc_
              rw [hva_] at ge527_0
              rw [hvc_] at ul527_0
              have HL527_0 := za.mk (show Kd.V (Kd.int .i64) 3 _ w.heap.size _ _ (zak t522 x10_1) from Kd.zcj ul527_0 ge527_0)
              clear hva_ hvn_ hvc_ ge527_0 ul527_0
              clear hcc527 hce527
              have HR527_0 := za.mk hi527_0
              have HC527_0 := za.mk hl527_0
              clear hi527_0 hl527_0
              replace p527 := eq_true p527
              replace q527 := eq_true q527
              have ea_ := Option.some.inj (hx526_0.symm.trans hx527_0)
              injection ea_ with ea_ en_ ec_
              subst ea_
              subst ec_
              clear en_
              have p528 : 0 ≤ (x13_2 : Int) := of_decide_eq_true (by first | (with_reducible assumption) | assumption)
              have q528 : x13_2 < ((zak t522 x10_1).length : Int) := of_decide_eq_true (by first | (with_reducible assumption) | assumption)
              obtain ⟨ad528, e528, hx528_0⟩ := Kd.zbJ (by repeat (first | (with_reducible exact HR527_0.out) | (with_reducible refine Kd.zZ ?_ _) | (with_reducible refine Kd.z8 ?_ _) | (with_reducible refine Kd.zal ?_) | exact HR527_0.out)) x13_2 p528 q528
              cases e528
              replace p528 := eq_true p528
              replace q528 := eq_true q528
              have p529 : 0 ≤ ((rd (zak t522 x10_1) x13_2) : Int) := of_decide_eq_true (by first | (with_reducible assumption) | assumption)
              have q529 : (rd (zak t522 x10_1) x13_2) < (t510.length : Int) := of_decide_eq_true (by first | (with_reducible assumption) | assumption)
              obtain ⟨ad529, e529, hx529_0, hx529_1, hx529_2⟩ := zbv (Kd.zaP HO_5.out).2.2 (rd (zak t522 x10_1) x13_2) p529 q529
              cases e529
              replace p529 := eq_true p529
              replace q529 := eq_true q529
              go_wp2
              go_roundg k2
              case measure => have := HK1.out; have := HK2.out; omega
              case rel => exact ⟨(wrap64 (x11_2 + 1)), (decide ((wrap64 (x11_2 + 1)) ≤ (wrap64 ((t505.length : Int) + t515)))), (wrap64 (x13_2 + 1)), (by first | rfl | (simp; done) | (simp [*]; done)), (by first | rfl | (simp; done) | (simp [*]; done)), (by first | rfl | (simp; done) | (simp [*]; done)), H', ⟨by have := HK1.out; have := HK2.out; omega⟩, ⟨by (with_reducible repeat (first | apply Kd.zJ | apply Kd.zI | apply Kd.zS)); exact HO_4.out⟩, ⟨by (with_reducible repeat (first | apply Kd.zJ | apply Kd.zI | apply Kd.zS)); exact HO_5.out⟩, ⟨by (with_reducible repeat (first | apply Kd.zJ | apply Kd.zI | apply Kd.zS)); exact HO_7.out⟩, ⟨by (with_reducible repeat (first | apply Kd.za8 | apply Kd.za7 | apply Kd.zbk)); exact HO_9.out⟩, ⟨by repeat (first | (with_reducible first | exact HB.out | apply ze | apply zb | apply zf) | exact HB.out)⟩⟩
             ·replace c25 := Bool.eq_false_iff.mpr c25
              subst c25
              have H1 : (zt.l1 k2 t505 t510 (wrap64 ((t505.length : Int) + t515)) t518 t519 t522 x10_1 (wrap64 (x11_2 + 1)) false (wrap64 (x13_2 + 1))) = some r := by rw [if_neg (show ¬ (false = true) by decide)] at H; exact H
              clear H
              have H := H1
              clear H1
              have H' := za.mk H
              clear H
              have p526 : 0 ≤ (x10_1 : Int) := of_decide_eq_true (by first | (with_reducible assumption) | assumption)
              have q526 : x10_1 < (t522.length : Int) := of_decide_eq_true (by first | (with_reducible assumption) | assumption)
              obtain ⟨ad526, A526_0, c526_0, e526, hx526_0, hl526_0, hi526_0⟩ := zbT (Kd.zao HO_9.out).2.2 x10_1 p526 q526
              cases e526
              obtain ⟨ce526, hce526, hMe526, hcc526⟩ := Kd.zbR HO_9.out [] x10_1 p526 (by first | exact q526 | exact of_decide_eq_true (by first | (with_reducible assumption) | assumption) | (have e_ := (Kd.zao HO_9.out).1; omega))
              obtain ⟨ua526_0, uc526_0, rfl, ul526_0, ge526_0⟩ := Kd.zaK hMe526
              have hv526_0 := hcc526 0 _ rfl
              rw [Nat.add_zero, show ((Kd.slice 3 (Kd.int .i64))).sz = 1 from rfl, Nat.mul_one] at hv526_0
              replace hv526_0 := Option.some.inj (hv526_0.symm.trans hx526_0)
              injection hv526_0 with hva_ hvn_ hvc_
              rw [hva_] at ge526_0
              rw [hvc_] at ul526_0
              have HL526_0 := za.mk (show Kd.V (Kd.int .i64) 3 _ w.heap.size _ _ (zak t522 x10_1) from Kd.zcj ul526_0 ge526_0)
              clear hva_ hvn_ hvc_ ge526_0 ul526_0
              clear hcc526 hce526
              have HR526_0 := za.mk hi526_0
              have HC526_0 := za.mk hl526_0
              clear hi526_0 hl526_0
              replace p526 := eq_true p526
              replace q526 := eq_true q526
              have p527 : 0 ≤ (x10_1 : Int) := of_decide_eq_true (by first | (with_reducible assumption) | assumption)
              have q527 : x10_1 < (t522.length : Int) := of_decide_eq_true (by first | (with_reducible assumption) | assumption)
              obtain ⟨ad527, A527_0, c527_0, e527, hx527_0, hl527_0, hi527_0⟩ := zbT (Kd.zao HO_9.out).2.2 x10_1 p527 q527
              obtain rfl : ad526 = ad527 := (by injection e527)
              obtain ⟨ce527, hce527, hMe527, hcc527⟩ := Kd.zbR HO_9.out [] x10_1 p527 (by first | exact q527 | exact of_decide_eq_true (by first | (with_reducible assumption) | assumption) | (have e_ := (Kd.zao HO_9.out).1; omega))
              obtain ⟨ua527_0, uc527_0, rfl, ul527_0, ge527_0⟩ := Kd.zaK hMe527
              have hv527_0 := hcc527 0 _ rfl
              rw [Nat.add_zero, show ((Kd.slice 3 (Kd.int .i64))).sz = 1 from rfl, Nat.mul_one] at hv527_0
              replace hv527_0 := Option.some.inj (hv527_0.symm.trans hx527_0)
              injection hv527_0 with hva_ hvn_ hvc_
              rw [hva_] at ge527_0
              rw [hvc_] at ul527_0
              have HL527_0 := za.mk (show Kd.V (Kd.int .i64) 3 _ w.heap.size _ _ (zak t522 x10_1) from Kd.zcj ul527_0 ge527_0)
              clear hva_ hvn_ hvc_ ge527_0 ul527_0
              clear hcc527 hce527
              have HR527_0 := za.mk hi527_0
              have HC527_0 := za.mk hl527_0
              clear hi527_0 hl527_0
              replace p527 := eq_true p527
              replace q527 := eq_true q527
              have ea_ := Option.some.inj (hx526_0.symm.trans hx527_0)
              injection ea_ with ea_ en_ ec_
              subst ea_
              subst ec_
              clear en_
              have p528 : 0 ≤ (x13_2 : Int) := of_decide_eq_true (by first | (with_reducible assumption) | assumption)
              have q528 : x13_2 < ((zak t522 x10_1).length : Int) := of_decide_eq_true (by first | (with_reducible assumption) | assumption)
              obtain ⟨ad528, e528, hx528_0⟩ := Kd.zbJ (by repeat (first | (with_reducible exact HR527_0.out) | (with_reducible refine Kd.zZ ?_ _) | (with_reducible refine Kd.z8 ?_ _) | (with_reducible refine Kd.zal ?_) | exact HR527_0.out)) x13_2 p528 q528
              cases e528
              replace p528 := eq_true p528
              replace q528 := eq_true q528
              have p529 : 0 ≤ ((rd (zak t522 x10_1) x13_2) : Int) := of_decide_eq_true (by first | (with_reducible assumption) | assumption)
              have q529 : (rd (zak t522 x10_1) x13_2) < (t510.length : Int) := of_decide_eq_true (by first | (with_reducible assumption) | assumption)
              obtain ⟨ad529, e529, hx529_0, hx529_1, hx529_2⟩ := zbv (Kd.zaP HO_5.out).2.2 (rd (zak t522 x10_1) x13_2) p529 q529
              cases e529
              replace p529 := eq_true p529
              replace q529 := eq_true q529
              go_wp2
              go_roundg k2
              case measure => have := HK1.out; have := HK2.out; omega
              case rel => exact ⟨(wrap64 (x11_2 + 1)), (false), (wrap64 (x13_2 + 1)), (by first | rfl | (simp; done) | (simp [*]; done)), (by first | rfl | (simp; done) | (simp [*]; done)), (by first | rfl | (simp; done) | (simp [*]; done)), H', ⟨by have := HK1.out; have := HK2.out; omega⟩, ⟨by (with_reducible repeat (first | apply Kd.zJ | apply Kd.zI | apply Kd.zS)); exact HO_4.out⟩, ⟨by (with_reducible repeat (first | apply Kd.zJ | apply Kd.zI | apply Kd.zS)); exact HO_5.out⟩, ⟨by (with_reducible repeat (first | apply Kd.zJ | apply Kd.zI | apply Kd.zS)); exact HO_7.out⟩, ⟨by (with_reducible repeat (first | apply Kd.za8 | apply Kd.za7 | apply Kd.zbk)); exact HO_9.out⟩, ⟨by repeat (first | (with_reducible first | exact HB.out | apply ze | apply zb | apply zf) | exact HB.out)⟩⟩
            ·rw [if_neg c24] at H
             have c24b0 : (((zk t510 (rd (zak t522 x10_1) x13_2)).f0) == 1) = false := beq_eq_false_iff_ne.mpr c24
             have c24b1 : (((zk t510 (rd (zak t522 x10_1) x13_2)).f0) != 1) = true := bne_iff_ne.mpr c24
             by_cases c26 : ((zk t510 (rd (zak t522 x10_1) x13_2)).f0) = 3
             ·rw [if_pos c26] at H
              have c26b0 : (((zk t510 (rd (zak t522 x10_1) x13_2)).f0) == 3) = true := beq_iff_eq.mpr c26
              have c26b1 : (((zk t510 (rd (zak t522 x10_1) x13_2)).f0) != 3) = false := bne_eq_false_iff_eq.mpr c26
              clear c26
              by_cases c27 : x12_2 = true
              ·subst c27
               have H1 : (zt.l1 k2 t505 t510 (wrap64 ((t505.length : Int) + t515)) t518 t519 t522 x10_1 (wrap64 (x11_2 - 1)) (decide ((wrap64 (x11_2 - 1)) ≤ (wrap64 ((t505.length : Int) + t515)))) (wrap64 (x13_2 + 1))) = some r := by rw [if_pos rfl] at H; exact H
               clear H
               have H := H1
               clear H1
               have H' := za.mk H
               clear H
               have p526 : 0 ≤ (x10_1 : Int) := of_decide_eq_true (by first | (with_reducible assumption) | assumption)
               have q526 : x10_1 < (t522.length : Int) := of_decide_eq_true (by first | (with_reducible assumption) | assumption)
               obtain ⟨ad526, A526_0, c526_0, e526, hx526_0, hl526_0, hi526_0⟩ := zbT (Kd.zao HO_9.out).2.2 x10_1 p526 q526
               cases e526
               obtain ⟨ce526, hce526, hMe526, hcc526⟩ := Kd.zbR HO_9.out [] x10_1 p526 (by first | exact q526 | exact of_decide_eq_true (by first | (with_reducible assumption) | assumption) | (have e_ := (Kd.zao HO_9.out).1; omega))
               obtain ⟨ua526_0, uc526_0, rfl, ul526_0, ge526_0⟩ := Kd.zaK hMe526
               have hv526_0 := hcc526 0 _ rfl
               rw [Nat.add_zero, show ((Kd.slice 3 (Kd.int .i64))).sz = 1 from rfl, Nat.mul_one] at hv526_0
               replace hv526_0 := Option.some.inj (hv526_0.symm.trans hx526_0)
               injection hv526_0 with hva_ hvn_ hvc_
               rw [hva_] at ge526_0
               rw [hvc_] at ul526_0
               have HL526_0 := za.mk (show Kd.V (Kd.int .i64) 3 _ w.heap.size _ _ (zak t522 x10_1) from Kd.zcj ul526_0 ge526_0)
               clear hva_ hvn_ hvc_ ge526_0 ul526_0
               clear hcc526 hce526
               have HR526_0 := za.mk hi526_0
               have HC526_0 := za.mk hl526_0
               clear hi526_0 hl526_0
               replace p526 := eq_true p526
               replace q526 := eq_true q526
               have p527 : 0 ≤ (x10_1 : Int) := of_decide_eq_true (by first | (with_reducible assumption) | assumption)
               have q527 : x10_1 < (t522.length : Int) := of_decide_eq_true (by first | (with_reducible assumption) | assumption)
               obtain ⟨ad527, A527_0, c527_0, e527, hx527_0, hl527_0, hi527_0⟩ := zbT (Kd.zao HO_9.out).2.2 x10_1 p527 q527
               obtain rfl : ad526 = ad527 := (by injection e527)
               obtain ⟨ce527, hce527, hMe527, hcc527⟩ := Kd.zbR HO_9.out [] x10_1 p527 (by first | exact q527 | exact of_decide_eq_true (by first | (with_reducible assumption) | assumption) | (have e_ := (Kd.zao HO_9.out).1; omega))
               obtain ⟨ua527_0, uc527_0, rfl, ul527_0, ge527_0⟩ := Kd.zaK hMe527
               have hv527_0 := hcc527 0 _ rfl
               rw [Nat.add_zero, show ((Kd.slice 3 (Kd.int .i64))).sz = 1 from rfl, Nat.mul_one] at hv527_0
               replace hv527_0 := Option.some.inj (hv527_0.symm.trans hx527_0)
               injection hv527_0 with hva_ hvn_ hvc_
               rw [hva_] at ge527_0
               rw [hvc_] at ul527_0
               have HL527_0 := za.mk (show Kd.V (Kd.int .i64) 3 _ w.heap.size _ _ (zak t522 x10_1) from Kd.zcj ul527_0 ge527_0)
               clear hva_ hvn_ hvc_ ge527_0 ul527_0
               clear hcc527 hce527
               have HR527_0 := za.mk hi527_0
               have HC527_0 := za.mk hl527_0
               clear hi527_0 hl527_0
               replace p527 := eq_true p527
               replace q527 := eq_true q527
               have ea_ := Option.some.inj (hx526_0.symm.trans hx527_0)
               injection ea_ with ea_ en_ ec_
               subst ea_
               subst ec_
               clear en_
               have p528 : 0 ≤ (x13_2 : Int) := of_decide_eq_true (by first | (with_reducible assumption) | assumption)
               have q528 : x13_2 < ((zak t522 x10_1).length : Int) := of_decide_eq_true (by first | (with_reducible assumption) | assumption)
               obtain ⟨ad528, e528, hx528_0⟩ := Kd.zbJ (by repeat (first | (with_reducible exact HR527_0.out) | (with_reducible refine Kd.zZ ?_ _) | (with_reducible refine Kd.z8 ?_ _) | (with_reducible refine Kd.zal ?_) | exact HR527_0.out)) x13_2 p528 q528
               cases e528
               replace p528 := eq_true p528
               replace q528 := eq_true q528
               have p529 : 0 ≤ ((rd (zak t522 x10_1) x13_2) : Int) := of_decide_eq_true (by first | (with_reducible assumption) | assumption)
               have q529 : (rd (zak t522 x10_1) x13_2) < (t510.length : Int) := of_decide_eq_true (by first | (with_reducible assumption) | assumption)
               obtain ⟨ad529, e529, hx529_0, hx529_1, hx529_2⟩ := zbv (Kd.zaP HO_5.out).2.2 (rd (zak t522 x10_1) x13_2) p529 q529
               cases e529
               replace p529 := eq_true p529
               replace q529 := eq_true q529
               go_wp2
               go_roundg k2
               case measure => have := HK1.out; have := HK2.out; omega
               case rel => exact ⟨(wrap64 (x11_2 - 1)), (decide ((wrap64 (x11_2 - 1)) ≤ (wrap64 ((t505.length : Int) + t515)))), (wrap64 (x13_2 + 1)), (by first | rfl | (simp; done) | (simp [*]; done)), (by first | rfl | (simp; done) | (simp [*]; done)), (by first | rfl | (simp; done) | (simp [*]; done)), H', ⟨by have := HK1.out; have := HK2.out; omega⟩, ⟨by (with_reducible repeat (first | apply Kd.zJ | apply Kd.zI | apply Kd.zS)); exact HO_4.out⟩, ⟨by (with_reducible repeat (first | apply Kd.zJ | apply Kd.zI | apply Kd.zS)); exact HO_5.out⟩, ⟨by (with_reducible repeat (first | apply Kd.zJ | apply Kd.zI | apply Kd.zS)); exact HO_7.out⟩, ⟨by (with_reducible repeat (first | apply Kd.za8 | apply Kd.za7 | apply Kd.zbk)); exact HO_9.out⟩, ⟨by repeat (first | (with_reducible first | exact HB.out | apply ze | apply zb | apply zf) | exact HB.out)⟩⟩
              ·replace c27 := Bool.eq_false_iff.mpr c27
               subst c27
               have H1 : (zt.l1 k2 t505 t510 (wrap64 ((t505.length : Int) + t515)) t518 t519 t522 x10_1 (wrap64 (x11_2 - 1)) false (wrap64 (x13_2 + 1))) = some r := by rw [if_neg (show ¬ (false = true) by decide)] at H; exact H
               clear H
               have H := H1
               clear H1
               have H' := za.mk H
               clear H
               have p526 : 0 ≤ (x10_1 : Int) := of_decide_eq_true (by first | (with_reducible assumption) | assumption)
               have q526 : x10_1 < (t522.length : Int) := of_decide_eq_true (by first | (with_reducible assumption) | assumption)
               obtain ⟨ad526, A526_0, c526_0, e526, hx526_0, hl526_0, hi526_0⟩ := zbT (Kd.zao HO_9.out).2.2 x10_1 p526 q526
               cases e526
               obtain ⟨ce526, hce526, hMe526, hcc526⟩ := Kd.zbR HO_9.out [] x10_1 p526 (by first | exact q526 | exact of_decide_eq_true (by first | (with_reducible assumption) | assumption) | (have e_ := (Kd.zao HO_9.out).1; omega))
               obtain ⟨ua526_0, uc526_0, rfl, ul526_0, ge526_0⟩ := Kd.zaK hMe526
               have hv526_0 := hcc526 0 _ rfl
               rw [Nat.add_zero, show ((Kd.slice 3 (Kd.int .i64))).sz = 1 from rfl, Nat.mul_one] at hv526_0
               replace hv526_0 := Option.some.inj (hv526_0.symm.trans hx526_0)
               injection hv526_0 with hva_ hvn_ hvc_
               rw [hva_] at ge526_0
               rw [hvc_] at ul526_0
               have HL526_0 := za.mk (show Kd.V (Kd.int .i64) 3 _ w.heap.size _ _ (zak t522 x10_1) from Kd.zcj ul526_0 ge526_0)
               clear hva_ hvn_ hvc_ ge526_0 ul526_0
               clear hcc526 hce526
               have HR526_0 := za.mk hi526_0
               have HC526_0 := za.mk hl526_0
               clear hi526_0 hl526_0
               replace p526 := eq_true p526
               replace q526 := eq_true q526
               have p527 : 0 ≤ (x10_1 : Int) := of_decide_eq_true (by first | (with_reducible assumption) | assumption)
               have q527 : x10_1 < (t522.length : Int) := of_decide_eq_true (by first | (with_reducible assumption) | assumption)
               obtain ⟨ad527, A527_0, c527_0, e527, hx527_0, hl527_0, hi527_0⟩ := zbT (Kd.zao HO_9.out).2.2 x10_1 p527 q527
               obtain rfl : ad526 = ad527 := (by injection e527)
               obtain ⟨ce527, hce527, hMe527, hcc527⟩ := Kd.zbR HO_9.out [] x10_1 p527 (by first | exact q527 | exact of_decide_eq_true (by first | (with_reducible assumption) | assumption) | (have e_ := (Kd.zao HO_9.out).1; omega))
               obtain ⟨ua527_0, uc527_0, rfl, ul527_0, ge527_0⟩ := Kd.zaK hMe527
               have hv527_0 := hcc527 0 _ rfl
               rw [Nat.add_zero, show ((Kd.slice 3 (Kd.int .i64))).sz = 1 from rfl, Nat.mul_one] at hv527_0
               replace hv527_0 := Option.some.inj (hv527_0.symm.trans hx527_0)
               injection hv527_0 with hva_ hvn_ hvc_
               rw [hva_] at ge527_0
               rw [hvc_] at ul527_0
               have HL527_0 := za.mk (show Kd.V (Kd.int .i64) 3 _ w.heap.size _ _ (zak t522 x10_1) from Kd.zcj ul527_0 ge527_0)
               clear hva_ hvn_ hvc_ ge527_0 ul527_0
               clear hcc527 hce527
               have HR527_0 := za.mk hi527_0
               have HC527_0 := za.mk hl527_0
               clear hi527_0 hl527_0
               replace p527 := eq_true p527
               replace q527 := eq_true q527
               have ea_ := Option.some.inj (hx526_0.symm.trans hx527_0)
               injection ea_ with ea_ en_ ec_
               subst ea_
               subst ec_
               clear en_
               have p528 : 0 ≤ (x13_2 : Int) := of_decide_eq_true (by first | (with_reducible assumption) | assumption)
               have q528 : x13_2 < ((zak t522 x10_1).length : Int) := of_decide_eq_true (by first | (with_reducible assumption) | assumption)
               obtain ⟨ad528, e528, hx528_0⟩ := Kd.zbJ (by repeat (first | (with_reducible exact HR527_0.out) | (with_reducible refine Kd.zZ ?_ _) | (with_reducible refine Kd.z8 ?_ _) | (with_reducible refine Kd.zal ?_) | exact HR527_0.out)) x13_2 p528 q528
               cases e528
               replace p528 := eq_true p528
               replace q528 := eq_true q528
               have p529 : 0 ≤ ((rd (zak t522 x10_1) x13_2) : Int) := of_decide_eq_true (by first | (with_reducible assumption) | assumption)
               have q529 : (rd (zak t522 x10_1) x13_2) < (t510.length : Int) := of_decide_eq_true (by first | (with_reducible assumption) | assumption)
               obtain ⟨ad529, e529, hx529_0, hx529_1, hx529_2⟩ := zbv (Kd.zaP HO_5.out).2.2 (rd (zak t522 x10_1) x13_2) p529 q529
               cases e529
               replace p529 := eq_true p529
               replace q529 := eq_true q529
               go_wp2
               go_roundg k2
               case measure => have := HK1.out; have := HK2.out; omega
               case rel => exact ⟨(wrap64 (x11_2 - 1)), (false), (wrap64 (x13_2 + 1)), (by first | rfl | (simp; done) | (simp [*]; done)), (by first | rfl | (simp; done) | (simp [*]; done)), (by first | rfl | (simp; done) | (simp [*]; done)), H', ⟨by have := HK1.out; have := HK2.out; omega⟩, ⟨by (with_reducible repeat (first | apply Kd.zJ | apply Kd.zI | apply Kd.zS)); exact HO_4.out⟩, ⟨by (with_reducible repeat (first | apply Kd.zJ | apply Kd.zI | apply Kd.zS)); exact HO_5.out⟩, ⟨by (with_reducible repeat (first | apply Kd.zJ | apply Kd.zI | apply Kd.zS)); exact HO_7.out⟩, ⟨by (with_reducible repeat (first | apply Kd.za8 | apply Kd.za7 | apply Kd.zbk)); exact HO_9.out⟩, ⟨by repeat (first | (with_reducible first | exact HB.out | apply ze | apply zb | apply zf) | exact HB.out)⟩⟩
             ·rw [if_neg c26] at H
              have c26b0 : (((zk t510 (rd (zak t522 x10_1) x13_2)).f0) == 3) = false := beq_eq_false_iff_ne.mpr c26
              have c26b1 : (((zk t510 (rd (zak t522 x10_1) x13_2)).f0) != 3) = true := bne_iff_ne.mpr c26
              by_cases c28 : x12_2 = true
              ·subst c28
               have H1 : (zt.l1 k2 t505 t510 (wrap64 ((t505.length : Int) + t515)) t518 t519 t522 x10_1 x11_2 (decide (x11_2 ≤ (wrap64 ((t505.length : Int) + t515)))) (wrap64 (x13_2 + 1))) = some r := by rw [if_pos rfl] at H; exact H
               clear H
               have H := H1
               clear H1
               have H' := za.mk H
               clear H
               have p526 : 0 ≤ (x10_1 : Int) := of_decide_eq_true (by first | (with_reducible assumption) | assumption)
               have q526 : x10_1 < (t522.length : Int) := of_decide_eq_true (by first | (with_reducible assumption) | assumption)
               obtain ⟨ad526, A526_0, c526_0, e526, hx526_0, hl526_0, hi526_0⟩ := zbT (Kd.zao HO_9.out).2.2 x10_1 p526 q526
               cases e526
               obtain ⟨ce526, hce526, hMe526, hcc526⟩ := Kd.zbR HO_9.out [] x10_1 p526 (by first | exact q526 | exact of_decide_eq_true (by first | (with_reducible assumption) | assumption) | (have e_ := (Kd.zao HO_9.out).1; omega))
               obtain ⟨ua526_0, uc526_0, rfl, ul526_0, ge526_0⟩ := Kd.zaK hMe526
               have hv526_0 := hcc526 0 _ rfl
               rw [Nat.add_zero, show ((Kd.slice 3 (Kd.int .i64))).sz = 1 from rfl, Nat.mul_one] at hv526_0
               replace hv526_0 := Option.some.inj (hv526_0.symm.trans hx526_0)
               injection hv526_0 with hva_ hvn_ hvc_
               rw [hva_] at ge526_0
               rw [hvc_] at ul526_0
               have HL526_0 := za.mk (show Kd.V (Kd.int .i64) 3 _ w.heap.size _ _ (zak t522 x10_1) from Kd.zcj ul526_0 ge526_0)
               clear hva_ hvn_ hvc_ ge526_0 ul526_0
               clear hcc526 hce526
               have HR526_0 := za.mk hi526_0
               have HC526_0 := za.mk hl526_0
               clear hi526_0 hl526_0
               replace p526 := eq_true p526
               replace q526 := eq_true q526
               have p527 : 0 ≤ (x10_1 : Int) := of_decide_eq_true (by first | (with_reducible assumption) | assumption)
               have q527 : x10_1 < (t522.length : Int) := of_decide_eq_true (by first | (with_reducible assumption) | assumption)
               obtain ⟨ad527, A527_0, c527_0, e527, hx527_0, hl527_0, hi527_0⟩ := zbT (Kd.zao HO_9.out).2.2 x10_1 p527 q527
               obtain rfl : ad526 = ad527 := (by injection e527)
               obtain ⟨ce527, hce527, hMe527, hcc527⟩ := Kd.zbR HO_9.out [] x10_1 p527 (by first | exact q527 | exact of_decide_eq_true (by first | (with_reducible assumption) | assumption) | (have e_ := (Kd.zao HO_9.out).1; omega))
               obtain ⟨ua527_0, uc527_0, rfl, ul527_0, ge527_0⟩ := Kd.zaK hMe527
               have hv527_0 := hcc527 0 _ rfl
               rw [Nat.add_zero, show ((Kd.slice 3 (Kd.int .i64))).sz = 1 from rfl, Nat.mul_one] at hv527_0
               replace hv527_0 := Option.some.inj (hv527_0.symm.trans hx527_0)
               injection hv527_0 with hva_ hvn_ hvc_
               rw [hva_] at ge527_0
               rw [hvc_] at ul527_0
               have HL527_0 := za.mk (show Kd.V (Kd.int .i64) 3 _ w.heap.size _ _ (zak t522 x10_1) from Kd.zcj ul527_0 ge527_0)
               clear hva_ hvn_ hvc_ ge527_0 ul527_0
               clear hcc527 hce527
               have HR527_0 := za.mk hi527_0
               have HC527_0 := za.mk hl527_0
               clear hi527_0 hl527_0
               replace p527 := eq_true p527
               replace q527 := eq_true q527
               have ea_ := Option.some.inj (hx526_0.symm.trans hx527_0)
               injection ea_ with ea_ en_ ec_
               subst ea_
               subst ec_
               clear en_
               have p528 : 0 ≤ (x13_2 : Int) := of_decide_eq_true (by first | (with_reducible assumption) | assumption)
               have q528 : x13_2 < ((zak t522 x10_1).length : Int) := of_decide_eq_true (by first | (with_reducible assumption) | assumption)
               obtain ⟨ad528, e528, hx528_0⟩ := Kd.zbJ (by repeat (first | (with_reducible exact HR527_0.out) | (with_reducible refine Kd.zZ ?_ _) | (with_reducible refine Kd.z8 ?_ _) | (with_reducible refine Kd.zal ?_) | exact HR527_0.out)) x13_2 p528 q528
               cases e528
               replace p528 := eq_true p528
               replace q528 := eq_true q528
               have p529 : 0 ≤ ((rd (zak t522 x10_1) x13_2) : Int) := of_decide_eq_true (by first | (with_reducible assumption) | assumption)
               have q529 : (rd (zak t522 x10_1) x13_2) < (t510.length : Int) := of_decide_eq_true (by first | (with_reducible assumption) | assumption)
               obtain ⟨ad529, e529, hx529_0, hx529_1, hx529_2⟩ := zbv (Kd.zaP HO_5.out).2.2 (rd (zak t522 x10_1) x13_2) p529 q529
               cases e529
               replace p529 := eq_true p529
               replace q529 := eq_true q529
               go_wp2
               go_roundg k2
               case measure => have := HK1.out; have := HK2.out; omega
               case rel => exact ⟨(x11_2), (decide (x11_2 ≤ (wrap64 ((t505.length : Int) + t515)))), (wrap64 (x13_2 + 1)), (by first | rfl | (simp; done) | (simp [*]; done)), (by first | rfl | (simp; done) | (simp [*]; done)), (by first | rfl | (simp; done) | (simp [*]; done)), H', ⟨by have := HK1.out; have := HK2.out; omega⟩, ⟨by (with_reducible repeat (first | apply Kd.zJ | apply Kd.zI | apply Kd.zS)); exact HO_4.out⟩, ⟨by (with_reducible repeat (first | apply Kd.zJ | apply Kd.zI | apply Kd.zS)); exact HO_5.out⟩, ⟨by (with_reducible repeat (first | apply Kd.zJ | apply Kd.zI | apply Kd.zS)); exact HO_7.out⟩, ⟨by (with_reducible repeat (first | apply Kd.za8 | apply Kd.za7 | apply Kd.zbk)); exact HO_9.out⟩, ⟨by repeat (first | (with_reducible first | exact HB.out | apply ze | apply zb | apply zf) | exact HB.out)⟩⟩
              ·replace c28 := Bool.eq_false_iff.mpr c28
               subst c28
               have H1 : (zt.l1 k2 t505 t510 (wrap64 ((t505.length : Int) + t515)) t518 t519 t522 x10_1 x11_2 false (wrap64 (x13_2 + 1))) = some r := by rw [if_neg (show ¬ (false = true) by decide)] at H; exact H
               clear H
               have H := H1
               clear H1
               have H' := za.mk H
               clear H
               have p526 : 0 ≤ (x10_1 : Int) := of_decide_eq_true (by first | (with_reducible assumption) | assumption)
               have q526 : x10_1 < (t522.length : Int) := of_decide_eq_true (by first | (with_reducible assumption) | assumption)
               obtain ⟨ad526, A526_0, c526_0, e526, hx526_0, hl526_0, hi526_0⟩ := zbT (Kd.zao HO_9.out).2.2 x10_1 p526 q526
               cases e526
               obtain ⟨ce526, hce526, hMe526, hcc526⟩ := Kd.zbR HO_9.out [] x10_1 p526 (by first | exact q526 | exact of_decide_eq_true (by first | (with_reducible assumption) | assumption) | (have e_ := (Kd.zao HO_9.out).1; omega))
               obtain ⟨ua526_0, uc526_0, rfl, ul526_0, ge526_0⟩ := Kd.zaK hMe526
               have hv526_0 := hcc526 0 _ rfl
               rw [Nat.add_zero, show ((Kd.slice 3 (Kd.int .i64))).sz = 1 from rfl, Nat.mul_one] at hv526_0
               replace hv526_0 := Option.some.inj (hv526_0.symm.trans hx526_0)
               injection hv526_0 with hva_ hvn_ hvc_
               rw [hva_] at ge526_0
               rw [hvc_] at ul526_0
               have HL526_0 := za.mk (show Kd.V (Kd.int .i64) 3 _ w.heap.size _ _ (zak t522 x10_1) from Kd.zcj ul526_0 ge526_0)
               clear hva_ hvn_ hvc_ ge526_0 ul526_0
               clear hcc526 hce526
               have HR526_0 := za.mk hi526_0
               have HC526_0 := za.mk hl526_0
               clear hi526_0 hl526_0
               replace p526 := eq_true p526
               replace q526 := eq_true q526
               have p527 : 0 ≤ (x10_1 : Int) := of_decide_eq_true (by first | (with_reducible assumption) | assumption)
               have q527 : x10_1 < (t522.length : Int) := of_decide_eq_true (by first | (with_reducible assumption) | assumption)
               obtain ⟨ad527, A527_0, c527_0, e527, hx527_0, hl527_0, hi527_0⟩ := zbT (Kd.zao HO_9.out).2.2 x10_1 p527 q527
               obtain rfl : ad526 = ad527 := (by injection e527)
               obtain ⟨ce527, hce527, hMe527, hcc527⟩ := Kd.zbR HO_9.out [] x10_1 p527 (by first | exact q527 | exact of_decide_eq_true (by first | (with_reducible assumption) | assumption) | (have e_ := (Kd.zao HO_9.out).1; omega))
               obtain ⟨ua527_0, uc527_0, rfl, ul527_0, ge527_0⟩ := Kd.zaK hMe527
               have hv527_0 := hcc527 0 _ rfl
               rw [Nat.add_zero, show ((Kd.slice 3 (Kd.int .i64))).sz = 1 from rfl, Nat.mul_one] at hv527_0
               replace hv527_0 := Option.some.inj (hv527_0.symm.trans hx527_0)
               injection hv527_0 with hva_ hvn_ hvc_
               rw [hva_] at ge527_0
               rw [hvc_] at ul527_0
               have HL527_0 := za.mk (show Kd.V (Kd.int .i64) 3 _ w.heap.size _ _ (zak t522 x10_1) from Kd.zcj ul527_0 ge527_0)
               clear hva_ hvn_ hvc_ ge527_0 ul527_0
               clear hcc527 hce527
               have HR527_0 := za.mk hi527_0
               have HC527_0 := za.mk hl527_0
               clear hi527_0 hl527_0
               replace p527 := eq_true p527
               replace q527 := eq_true q527
               have ea_ := Option.some.inj (hx526_0.symm.trans hx527_0)
               injection ea_ with ea_ en_ ec_
               subst ea_
               subst ec_
               clear en_
               have p528 : 0 ≤ (x13_2 : Int) := of_decide_eq_true (by first | (with_reducible assumption) | assumption)
               have q528 : x13_2 < ((zak t522 x10_1).length : Int) := of_decide_eq_true (by first | (with_reducible assumption) | assumption)
               obtain ⟨ad528, e528, hx528_0⟩ := Kd.zbJ (by repeat (first | (with_reducible exact HR527_0.out) | (with_reducible refine Kd.zZ ?_ _) | (with_reducible refine Kd.z8 ?_ _) | (with_reducible refine Kd.zal ?_) | exact HR527_0.out)) x13_2 p528 q528
               cases e528
               replace p528 := eq_true p528
               replace q528 := eq_true q528
               have p529 : 0 ≤ ((rd (zak t522 x10_1) x13_2) : Int) := of_decide_eq_true (by first | (with_reducible assumption) | assumption)
               have q529 : (rd (zak t522 x10_1) x13_2) < (t510.length : Int) := of_decide_eq_true (by first | (with_reducible assumption) | assumption)
               obtain ⟨ad529, e529, hx529_0, hx529_1, hx529_2⟩ := zbv (Kd.zaP HO_5.out).2.2 (rd (zak t522 x10_1) x13_2) p529 q529
               cases e529
               replace p529 := eq_true p529
               replace q529 := eq_true q529
               go_wp2
               go_roundg k2
               case measure => have := HK1.out; have := HK2.out; omega
               case rel => exact ⟨(x11_2), (false), (wrap64 (x13_2 + 1)), (by first | rfl | (simp; done) | (simp [*]; done)), (by first | rfl | (simp; done) | (simp [*]; done)), (by first | rfl | (simp; done) | (simp [*]; done)), H', ⟨by have := HK1.out; have := HK2.out; omega⟩, ⟨by (with_reducible repeat (first | apply Kd.zJ | apply Kd.zI | apply Kd.zS)); exact HO_4.out⟩, ⟨by (with_reducible repeat (first | apply Kd.zJ | apply Kd.zI | apply Kd.zS)); exact HO_5.out⟩, ⟨by (with_reducible repeat (first | apply Kd.zJ | apply Kd.zI | apply Kd.zS)); exact HO_7.out⟩, ⟨by (with_reducible repeat (first | apply Kd.za8 | apply Kd.za7 | apply Kd.zbk)); exact HO_9.out⟩, ⟨by repeat (first | (with_reducible first | exact HB.out | apply ze | apply zb | apply zf) | exact HB.out)⟩⟩
           ·rw [if_neg c23] at H
            exact absurd H (by simp)
          ·rw [if_neg c22] at H
           exact absurd H (by simp)
         ·rw [if_neg c21] at H
          exact absurd H (by simp)
        ·rw [if_neg c20] at H
         have c20b0 : decide (x13_2 < ((zak t522 x10_1).length : Int)) = false := decide_eq_false c20
         clear c20
         by_cases c29 : x12_2 = true
         ·subst c29
          have H1 : (if t519 = 0 then ((zaa.f k2 t518 (zak t522 x10_1)).bind fun t531 => (if t531 = true then ((zaA.f).bind fun t532 => (some t532)) else (some false))) else (some false)) = some r := by rw [if_pos rfl] at H; exact H
          clear H
          have H := H1
          clear H1
          by_cases c30 : t519 = 0
          ·rw [if_pos c30] at H
           have c30b0 : (t519 == 0) = true := beq_iff_eq.mpr c30
           have c30b1 : (t519 != 0) = false := bne_eq_false_iff_eq.mpr c30
           clear c30
           replace H := Option.bind_eq_some_iff.mp H
           obtain ⟨t531, A310, H⟩ := H
           replace H : (if t531 = true then ((zaA.f).bind fun t532 => (some t532)) else (some false)) = some r := H
           have A31 := za.mk A310
           clear A310
           by_cases c32 : t531 = true
           ·subst c32
            have H1 : ((zaA.f).bind fun t532 => (some t532)) = some r := by rw [if_pos rfl] at H; exact H
            clear H
            have H := H1
            clear H1
            replace H := Option.bind_eq_some_iff.mp H
            obtain ⟨t532, A330, H⟩ := H
            replace H : (some t532) = some r := H
            have A33 := za.mk A330
            clear A330
            obtain rfl := Option.some.inj H
            have p526 : 0 ≤ (x10_1 : Int) := of_decide_eq_true (by first | (with_reducible assumption) | assumption)
            have q526 : x10_1 < (t522.length : Int) := of_decide_eq_true (by first | (with_reducible assumption) | assumption)
            obtain ⟨ad526, A526_0, c526_0, e526, hx526_0, hl526_0, hi526_0⟩ := zbT (Kd.zao HO_9.out).2.2 x10_1 p526 q526
            cases e526
            obtain ⟨ce526, hce526, hMe526, hcc526⟩ := Kd.zbR HO_9.out [] x10_1 p526 (by first | exact q526 | exact of_decide_eq_true (by first | (with_reducible assumption) | assumption) | (have e_ := (Kd.zao HO_9.out).1; omega))
            obtain ⟨ua526_0, uc526_0, rfl, ul526_0, ge526_0⟩ := Kd.zaK hMe526
            have hv526_0 := hcc526 0 _ rfl
            rw [Nat.add_zero, show ((Kd.slice 3 (Kd.int .i64))).sz = 1 from rfl, Nat.mul_one] at hv526_0
            replace hv526_0 := Option.some.inj (hv526_0.symm.trans hx526_0)
            injection hv526_0 with hva_ hvn_ hvc_
            rw [hva_] at ge526_0
            rw [hvc_] at ul526_0
            have HL526_0 := za.mk (show Kd.V (Kd.int .i64) 3 _ w.heap.size _ _ (zak t522 x10_1) from Kd.zcj ul526_0 ge526_0)
            clear hva_ hvn_ hvc_ ge526_0 ul526_0
            clear hcc526 hce526
            have HR526_0 := za.mk hi526_0
            have HC526_0 := za.mk hl526_0
            clear hi526_0 hl526_0
            replace p526 := eq_true p526
            replace q526 := eq_true q526
            have p530 : 0 ≤ (x10_1 : Int) := of_decide_eq_true (by first | (with_reducible assumption) | assumption)
            have q530 : x10_1 < (t522.length : Int) := of_decide_eq_true (by first | (with_reducible assumption) | assumption)
            obtain ⟨ad530, A530_0, c530_0, e530, hx530_0, hl530_0, hi530_0⟩ := zbT (Kd.zao HO_9.out).2.2 x10_1 p530 q530
            obtain rfl : ad526 = ad530 := (by injection e530)
            obtain ⟨ce530, hce530, hMe530, hcc530⟩ := Kd.zbR HO_9.out [] x10_1 p530 (by first | exact q530 | exact of_decide_eq_true (by first | (with_reducible assumption) | assumption) | (have e_ := (Kd.zao HO_9.out).1; omega))
            obtain ⟨ua530_0, uc530_0, rfl, ul530_0, ge530_0⟩ := Kd.zaK hMe530
            have hv530_0 := hcc530 0 _ rfl
            rw [Nat.add_zero, show ((Kd.slice 3 (Kd.int .i64))).sz = 1 from rfl, Nat.mul_one] at hv530_0
            replace hv530_0 := Option.some.inj (hv530_0.symm.trans hx530_0)
            injection hv530_0 with hva_ hvn_ hvc_
            rw [hva_] at ge530_0
            rw [hvc_] at ul530_0
            have HL530_0 := za.mk (show Kd.V (Kd.int .i64) 3 _ w.heap.size _ _ (zak t522 x10_1) from Kd.zcj ul530_0 ge530_0)
            clear hva_ hvn_ hvc_ ge530_0 ul530_0
            clear hcc530 hce530
            have HR530_0 := za.mk hi530_0
            have HC530_0 := za.mk hl530_0
            clear hi530_0 hl530_0
            replace p530 := eq_true p530
            replace q530 := eq_true q530
            have ea_ := Option.some.inj (hx526_0.symm.trans hx530_0)
            injection ea_ with ea_ en_ ec_
            subst ea_
            subst ec_
            clear en_
            obtain ⟨Ao34, co34, eo34⟩ := Kd.zaX HO_7.out
            subst eo34
            go_wp2_with (first | (go_at_call 31; (with_reducible refine (zaa.calls k2 _ _ t518 _ _ (zak t522 x10_1) true _ ?side1 ?side2 ?side3 ?side4 A31.out).mono ?_); (case side1 => repeat (first | exact (Kd.zaP HO_7.out).2.2 | (with_reducible refine Kd.zZ ?_ _) | (with_reducible refine Kd.z8 ?_ _) | (with_reducible refine Kd.zal ?_))); (case side2 => exact (Kd.zaP HO_7.out).2.1); (case side3 => repeat (first | exact (by repeat (first | (with_reducible exact HR530_0.out) | (with_reducible refine Kd.zZ ?_ _) | (with_reducible refine Kd.z8 ?_ _) | (with_reducible refine Kd.zal ?_) | exact HR530_0.out)) | (with_reducible refine Kd.zZ ?_ _) | (with_reducible refine Kd.z8 ?_ _) | (with_reducible refine Kd.zal ?_))); (case side4 => exact HC530_0.out); rintro e w' ⟨rfl, ⟨nd, rfl⟩⟩) | (go_at_call 18; (with_reducible refine (zaA.calls  t532 _ A33.out).mono ?_); rintro e w35 ⟨rfl, hb⟩; have n0_ := za.mk (Kd.zH (by (with_reducible repeat (first | apply Kd.zJ | apply Kd.zI | apply Kd.zS)); exact HO_4.out) hb); have n1_ := za.mk (Kd.zH (by (with_reducible repeat (first | apply Kd.zJ | apply Kd.zI | apply Kd.zS)); exact HO_5.out) hb); have n2_ := za.mk (Kd.zH (by (with_reducible repeat (first | apply Kd.zJ | apply Kd.zI | apply Kd.zS)); exact HO_7.out) hb); have n3_ := za.mk (Kd.zbU (by (with_reducible repeat (first | apply Kd.za8 | apply Kd.za7 | apply Kd.zbk)); exact HO_9.out) hb); have n4_ := za.mk (Kd.zgb (by (with_reducible repeat (first | apply Kd.zb8 | apply Kd.zb7 | apply Kd.zcm)); exact HL526_0.out) hb); have n5_ := za.mk (Kd.zgb (by (with_reducible repeat (first | apply Kd.zb8 | apply Kd.zb7 | apply Kd.zcm)); exact HL530_0.out) hb); have n6_ := za.mk (Kd.zae (by repeat (first | (with_reducible exact HR526_0.out) | (with_reducible refine Kd.zZ ?_ _) | (with_reducible refine Kd.z8 ?_ _) | (with_reducible refine Kd.zal ?_) | exact HR526_0.out)) hb); have n7_ := za.mk (Kd.zae (by repeat (first | (with_reducible exact HR530_0.out) | (with_reducible refine Kd.zZ ?_ _) | (with_reducible refine Kd.z8 ?_ _) | (with_reducible refine Kd.zal ?_) | exact HR530_0.out)) hb); have n8_ := za.mk (zu (by repeat (first | (with_reducible first | exact HB.out | apply ze | apply zb | apply zf) | exact HB.out)) hb); clear HO_4; clear HO_5; clear HO_7; clear HO_9; clear HL526_0; clear HL530_0; clear HR526_0; clear HR530_0; clear HB; have HO_4 := n0_; have HO_5 := n1_; have HO_7 := n2_; have HO_9 := n3_; have HL526_0 := n4_; have HL530_0 := n5_; have HR526_0 := n6_; have HR530_0 := n7_; have HB := n8_; clear n0_ n1_ n2_ n3_ n4_ n5_ n6_ n7_ n8_; (try clear hb); (try clear hb2); (try clear hk); (try clear hi)))
            go_ret
            exact ⟨by first | rfl | (simp [zx, zy] <;> rfl) | (simp [*, zx, zy] <;> rfl), by repeat (first | (with_reducible first | exact HB.out | apply ze | apply zb | apply zf) | exact HB.out)⟩
           ·replace c32 := Bool.eq_false_iff.mpr c32
            subst c32
            have H1 : (some false) = some r := by rw [if_neg (show ¬ (false = true) by decide)] at H; exact H
            clear H
            have H := H1
            clear H1
            obtain rfl := Option.some.inj H
            have p526 : 0 ≤ (x10_1 : Int) := of_decide_eq_true (by first | (with_reducible assumption) | assumption)
            have q526 : x10_1 < (t522.length : Int) := of_decide_eq_true (by first | (with_reducible assumption) | assumption)
            obtain ⟨ad526, A526_0, c526_0, e526, hx526_0, hl526_0, hi526_0⟩ := zbT (Kd.zao HO_9.out).2.2 x10_1 p526 q526
            cases e526
            obtain ⟨ce526, hce526, hMe526, hcc526⟩ := Kd.zbR HO_9.out [] x10_1 p526 (by first | exact q526 | exact of_decide_eq_true (by first | (with_reducible assumption) | assumption) | (have e_ := (Kd.zao HO_9.out).1; omega))
            obtain ⟨ua526_0, uc526_0, rfl, ul526_0, ge526_0⟩ := Kd.zaK hMe526
            have hv526_0 := hcc526 0 _ rfl
            rw [Nat.add_zero, show ((Kd.slice 3 (Kd.int .i64))).sz = 1 from rfl, Nat.mul_one] at hv526_0
            replace hv526_0 := Option.some.inj (hv526_0.symm.trans hx526_0)
            injection hv526_0 with hva_ hvn_ hvc_
            rw [hva_] at ge526_0
            rw [hvc_] at ul526_0
            have HL526_0 := za.mk (show Kd.V (Kd.int .i64) 3 _ w.heap.size _ _ (zak t522 x10_1) from Kd.zcj ul526_0 ge526_0)
            clear hva_ hvn_ hvc_ ge526_0 ul526_0
            clear hcc526 hce526
            have HR526_0 := za.mk hi526_0
            have HC526_0 := za.mk hl526_0
            clear hi526_0 hl526_0
            replace p526 := eq_true p526
            replace q526 := eq_true q526
            have p530 : 0 ≤ (x10_1 : Int) := of_decide_eq_true (by first | (with_reducible assumption) | assumption)
            have q530 : x10_1 < (t522.length : Int) := of_decide_eq_true (by first | (with_reducible assumption) | assumption)
            obtain ⟨ad530, A530_0, c530_0, e530, hx530_0, hl530_0, hi530_0⟩ := zbT (Kd.zao HO_9.out).2.2 x10_1 p530 q530
            obtain rfl : ad526 = ad530 := (by injection e530)
            obtain ⟨ce530, hce530, hMe530, hcc530⟩ := Kd.zbR HO_9.out [] x10_1 p530 (by first | exact q530 | exact of_decide_eq_true (by first | (with_reducible assumption) | assumption) | (have e_ := (Kd.zao HO_9.out).1; omega))
            obtain ⟨ua530_0, uc530_0, rfl, ul530_0, ge530_0⟩ := Kd.zaK hMe530
            have hv530_0 := hcc530 0 _ rfl
            rw [Nat.add_zero, show ((Kd.slice 3 (Kd.int .i64))).sz = 1 from rfl, Nat.mul_one] at hv530_0
            replace hv530_0 := Option.some.inj (hv530_0.symm.trans hx530_0)
            injection hv530_0 with hva_ hvn_ hvc_
            rw [hva_] at ge530_0
            rw [hvc_] at ul530_0
            have HL530_0 := za.mk (show Kd.V (Kd.int .i64) 3 _ w.heap.size _ _ (zak t522 x10_1) from Kd.zcj ul530_0 ge530_0)
            clear hva_ hvn_ hvc_ ge530_0 ul530_0
            clear hcc530 hce530
            have HR530_0 := za.mk hi530_0
            have HC530_0 := za.mk hl530_0
            clear hi530_0 hl530_0
            replace p530 := eq_true p530
            replace q530 := eq_true q530
            have ea_ := Option.some.inj (hx526_0.symm.trans hx530_0)
            injection ea_ with ea_ en_ ec_
            subst ea_
            subst ec_
            clear en_
            obtain ⟨Ao36, co36, eo36⟩ := Kd.zaX HO_7.out
            subst eo36
            go_wp2_with (first | (go_at_call 31; (with_reducible refine (zaa.calls k2 _ _ t518 _ _ (zak t522 x10_1) false _ ?side1 ?side2 ?side3 ?side4 A31.out).mono ?_); (case side1 => repeat (first | exact (Kd.zaP HO_7.out).2.2 | (with_reducible refine Kd.zZ ?_ _) | (with_reducible refine Kd.z8 ?_ _) | (with_reducible refine Kd.zal ?_))); (case side2 => exact (Kd.zaP HO_7.out).2.1); (case side3 => repeat (first | exact (by repeat (first | (with_reducible exact HR530_0.out) | (with_reducible refine Kd.zZ ?_ _) | (with_reducible refine Kd.z8 ?_ _) | (with_reducible refine Kd.zal ?_) | exact HR530_0.out)) | (with_reducible refine Kd.zZ ?_ _) | (with_reducible refine Kd.z8 ?_ _) | (with_reducible refine Kd.zal ?_))); (case side4 => exact HC530_0.out); rintro e w' ⟨rfl, ⟨nd, rfl⟩⟩))
            go_ret
            exact ⟨by first | rfl | (simp [zx, zy] <;> rfl) | (simp [*, zx, zy] <;> rfl), by repeat (first | (with_reducible first | exact HB.out | apply ze | apply zb | apply zf) | exact HB.out)⟩
          ·rw [if_neg c30] at H
           have c30b0 : (t519 == 0) = false := beq_eq_false_iff_ne.mpr c30
           have c30b1 : (t519 != 0) = true := bne_iff_ne.mpr c30
           obtain rfl := Option.some.inj H
           have p526 : 0 ≤ (x10_1 : Int) := of_decide_eq_true (by first | (with_reducible assumption) | assumption)
           have q526 : x10_1 < (t522.length : Int) := of_decide_eq_true (by first | (with_reducible assumption) | assumption)
           obtain ⟨ad526, A526_0, c526_0, e526, hx526_0, hl526_0, hi526_0⟩ := zbT (Kd.zao HO_9.out).2.2 x10_1 p526 q526
           cases e526
           obtain ⟨ce526, hce526, hMe526, hcc526⟩ := Kd.zbR HO_9.out [] x10_1 p526 (by first | exact q526 | exact of_decide_eq_true (by first | (with_reducible assumption) | assumption) | (have e_ := (Kd.zao HO_9.out).1; omega))
           obtain ⟨ua526_0, uc526_0, rfl, ul526_0, ge526_0⟩ := Kd.zaK hMe526
           have hv526_0 := hcc526 0 _ rfl
           rw [Nat.add_zero, show ((Kd.slice 3 (Kd.int .i64))).sz = 1 from rfl, Nat.mul_one] at hv526_0
           replace hv526_0 := Option.some.inj (hv526_0.symm.trans hx526_0)
           injection hv526_0 with hva_ hvn_ hvc_
           rw [hva_] at ge526_0
           rw [hvc_] at ul526_0
           have HL526_0 := za.mk (show Kd.V (Kd.int .i64) 3 _ w.heap.size _ _ (zak t522 x10_1) from Kd.zcj ul526_0 ge526_0)
           clear hva_ hvn_ hvc_ ge526_0 ul526_0
           clear hcc526 hce526
           have HR526_0 := za.mk hi526_0
           have HC526_0 := za.mk hl526_0
           clear hi526_0 hl526_0
           replace p526 := eq_true p526
           replace q526 := eq_true q526
           go_wp2
           go_ret
           exact ⟨by first | rfl | (simp [zx, zy] <;> rfl) | (simp [*, zx, zy] <;> rfl), by repeat (first | (with_reducible first | exact HB.out | apply ze | apply zb | apply zf) | exact HB.out)⟩
         ·replace c29 := Bool.eq_false_iff.mpr c29
          subst c29
          have H1 : (zt.l0 k2 t505 t510 (wrap64 ((t505.length : Int) + t515)) t518 t519 t522 (wrap64 (x10_1 + 1))) = some r := by rw [if_neg (show ¬ (false = true) by decide)] at H; exact H
          clear H
          have H := H1
          clear H1
          have H' := za.mk H
          clear H
          have p526 : 0 ≤ (x10_1 : Int) := of_decide_eq_true (by first | (with_reducible assumption) | assumption)
          have q526 : x10_1 < (t522.length : Int) := of_decide_eq_true (by first | (with_reducible assumption) | assumption)
          obtain ⟨ad526, A526_0, c526_0, e526, hx526_0, hl526_0, hi526_0⟩ := zbT (Kd.zao HO_9.out).2.2 x10_1 p526 q526
          cases e526
          obtain ⟨ce526, hce526, hMe526, hcc526⟩ := Kd.zbR HO_9.out [] x10_1 p526 (by first | exact q526 | exact of_decide_eq_true (by first | (with_reducible assumption) | assumption) | (have e_ := (Kd.zao HO_9.out).1; omega))
          obtain ⟨ua526_0, uc526_0, rfl, ul526_0, ge526_0⟩ := Kd.zaK hMe526
          have hv526_0 := hcc526 0 _ rfl
          rw [Nat.add_zero, show ((Kd.slice 3 (Kd.int .i64))).sz = 1 from rfl, Nat.mul_one] at hv526_0
          replace hv526_0 := Option.some.inj (hv526_0.symm.trans hx526_0)
          injection hv526_0 with hva_ hvn_ hvc_
          rw [hva_] at ge526_0
          rw [hvc_] at ul526_0
          have HL526_0 := za.mk (show Kd.V (Kd.int .i64) 3 _ w.heap.size _ _ (zak t522 x10_1) from Kd.zcj ul526_0 ge526_0)
          clear hva_ hvn_ hvc_ ge526_0 ul526_0
          clear hcc526 hce526
          have HR526_0 := za.mk hi526_0
          have HC526_0 := za.mk hl526_0
          clear hi526_0 hl526_0
          replace p526 := eq_true p526
          replace q526 := eq_true q526
          go_wp2
          go_roundg k2
          case measure => have := HK1.out; have := HK2.out; omega
          case rel => exact ⟨(wrap64 (x10_1 + 1)), (by first | rfl | (simp; done) | (simp [*]; done)), H', ⟨by have := HK1.out; have := HK2.out; omega⟩, ⟨by (with_reducible repeat (first | apply Kd.zJ | apply Kd.zI | apply Kd.zS)); exact HO_4.out⟩, ⟨by (with_reducible repeat (first | apply Kd.zJ | apply Kd.zI | apply Kd.zS)); exact HO_5.out⟩, ⟨by (with_reducible repeat (first | apply Kd.zJ | apply Kd.zI | apply Kd.zS)); exact HO_7.out⟩, ⟨by (with_reducible repeat (first | apply Kd.za8 | apply Kd.za7 | apply Kd.zbk)); exact HO_9.out⟩, ⟨by repeat (first | (with_reducible first | exact HB.out | apply ze | apply zb | apply zf) | exact HB.out)⟩⟩
       ·rw [if_neg c19] at H
        exact absurd H (by simp)
      ·rw [if_neg c18] at H
       exact absurd H (by simp)
   ·rw [if_neg c16] at H
    have c16b0 : decide (x10_1 < (t522.length : Int)) = false := decide_eq_false c16
    clear c16
    by_cases c37 : t519 = 11
    ·rw [if_pos c37] at H
     have c37b0 : (t519 == 11) = true := beq_iff_eq.mpr c37
     have c37b1 : (t519 != 11) = false := bne_eq_false_iff_eq.mpr c37
     clear c37
     by_cases c38 : (t518.length : Int) = 0
     ·rw [if_pos c38] at H
      have c38b0 : ((t518.length : Int) == 0) = true := beq_iff_eq.mpr c38
      have c38b1 : ((t518.length : Int) != 0) = false := bne_eq_false_iff_eq.mpr c38
      clear c38
      replace H := Option.bind_eq_some_iff.mp H
      obtain ⟨t525, A390, H⟩ := H
      replace H : (some t525) = some r := H
      have A39 := za.mk A390
      clear A390
      obtain rfl := Option.some.inj H
      obtain ⟨Ao40, co40, eo40⟩ := Kd.zde HO_9.out
      subst eo40
      obtain ⟨Ao41, co41, eo41⟩ := Kd.zaX HO_7.out
      subst eo41
      go_wp2_with (first | (go_at_call 18; (with_reducible refine (zaA.calls  t525 _ A39.out).mono ?_); rintro e w42 ⟨rfl, hb⟩; have n0_ := za.mk (Kd.zH (by (with_reducible repeat (first | apply Kd.zJ | apply Kd.zI | apply Kd.zS)); exact HO_4.out) hb); have n1_ := za.mk (Kd.zH (by (with_reducible repeat (first | apply Kd.zJ | apply Kd.zI | apply Kd.zS)); exact HO_5.out) hb); have n2_ := za.mk (Kd.zH (by (with_reducible repeat (first | apply Kd.zJ | apply Kd.zI | apply Kd.zS)); exact HO_7.out) hb); have n3_ := za.mk (Kd.zbU (by (with_reducible repeat (first | apply Kd.za8 | apply Kd.za7 | apply Kd.zbk)); exact HO_9.out) hb); have n4_ := za.mk (zu (by repeat (first | (with_reducible first | exact HB.out | apply ze | apply zb | apply zf) | exact HB.out)) hb); clear HO_4; clear HO_5; clear HO_7; clear HO_9; clear HB; have HO_4 := n0_; have HO_5 := n1_; have HO_7 := n2_; have HO_9 := n3_; have HB := n4_; clear n0_ n1_ n2_ n3_ n4_; (try clear hb); (try clear hb2); (try clear hk); (try clear hi)))
      go_ret
      exact ⟨by first | rfl | (simp [zx, zy] <;> rfl) | (simp [*, zx, zy] <;> rfl), by repeat (first | (with_reducible first | exact HB.out | apply ze | apply zb | apply zf) | exact HB.out)⟩
     ·rw [if_neg c38] at H
      have c38b0 : ((t518.length : Int) == 0) = false := beq_eq_false_iff_ne.mpr c38
      have c38b1 : ((t518.length : Int) != 0) = true := bne_iff_ne.mpr c38
      have c38b2 : ¬ (t518 = []) := fun h_ => c38 (by rw [h_]; rfl)
      obtain rfl := Option.some.inj H
      obtain ⟨Ao43, co43, eo43⟩ := Kd.zde HO_9.out
      subst eo43
      obtain ⟨Ao44, co44, eo44⟩ := Kd.zaX HO_7.out
      subst eo44
      go_wp2
      go_ret
      exact ⟨by first | rfl | (simp [zx, zy] <;> rfl) | (simp [*, zx, zy] <;> rfl), by repeat (first | (with_reducible first | exact HB.out | apply ze | apply zb | apply zf) | exact HB.out)⟩
    ·rw [if_neg c37] at H
     have c37b0 : (t519 == 11) = false := beq_eq_false_iff_ne.mpr c37
     have c37b1 : (t519 != 11) = true := bne_iff_ne.mpr c37
     obtain rfl := Option.some.inj H
     obtain ⟨Ao45, co45, eo45⟩ := Kd.zde HO_9.out
     subst eo45
     go_wp2
     go_ret
     exact ⟨by first | rfl | (simp [zx, zy] <;> rfl) | (simp [*, zx, zy] <;> rfl), by repeat (first | (with_reducible first | exact HB.out | apply ze | apply zb | apply zf) | exact HB.out)⟩
def zt.Pure : Prop := ∀ (l0 : List Int), l0.length ≤ maxLen → l0.length * 8 ≤ 140737488351232 → (∀ x ∈ l0, (Lit.int .i64 x).wf = true) → ∃ k, zt.f k l0 = some true
theorem zt.walk (P : zt.Pure) (a0 : Option Addr) (len0 cap0 : Nat) (z0 : List Int) (w : World) (w0 : (a0 = none ∧ len0 = 0 ∧ cap0 = 0 ∧ z0 = []) ∨ ∃ x, a0 = some x ∧ len0 ≤ cap0 ∧ cap0 ≤ maxLen ∧ z0.length = cap0 ∧ (∀ i, i < z0.length → w.cell? (x.add i) = some (.int .i64 (z0.getD i 0))) ∧ ∀ n ∈ z0, (Lit.int .i64 n).wf = true) (y0 : len0 * 8 ≤ 140737488351232) :
  Calls Try.prog 7 #[.slice a0 len0 cap0] w fun e w' => e = .returned (.bool true) ∧ Below w.heap.size w w' := by
 obtain ⟨l0, rfl, hr0, hm0, hw0, hc0⟩ := zaR.zh2 w0
 obtain ⟨k, h⟩ := P l0 hm0 y0 hw0
 refine (zt.calls k _ _ l0 true w (Kd.zdK (d := (0 : Int)) (h1 := fun _ => rfl) hr0) hc0 h).mono ?_
 rintro e w' ⟨rfl, hd⟩
 exact ⟨rfl, hd⟩
theorem zgS (l : List Int) (x : Int) (hp : l.length ≤ 1000) : ∃ r : Int, Ev (fun k => zat.f k l x) r ∧ (r < 0 ↔ l.contains x = false) := by
 have go : ∀ (m i : Nat), l.length - i = m → i ≤ l.length → ∃ r : Int, Ev (fun k => zat.l0 k l x (i : Int)) r ∧ (r < 0 ↔ (l.drop i).contains x = false) := by
  intro m
  induction m with
  | zero =>
   intro i h hi
   refine ⟨-1, Ev.step (fun k => by rw [zat.l0]) (Ev.ifn (by omega) (Ev.now _)), ?_⟩
   rw [List.drop_eq_nil_of_le (by omega)]; simp
  | succ m ih =>
   intro i h hi
   have hlt : i < l.length := by omega
   have r1 : rd l (i : Int) = l[i] := by simp [rd, hlt]
   by_cases he : l[i] = x
   ·refine ⟨i, Ev.step (fun k => by rw [zat.l0]) (Ev.ifp (by omega) (Ev.ifp (by omega) (Ev.ifp (by rw [r1]; exact he) (Ev.now _)))), ?_⟩
    rw [List.drop_eq_getElem_cons hlt, List.contains_cons, he]; simp
   ·obtain ⟨r, h1, h2⟩ := ih (i + 1) (by omega) (by omega)
    refine ⟨r, Ev.step (fun k => by rw [zat.l0]) (Ev.ifp (by omega) (Ev.ifp (by omega) (Ev.ifn (by rw [r1]; exact he) ?_))), ?_⟩
    ·rw [zbN _ (by omega)]; exact h1
    ·rw [List.drop_eq_getElem_cons hlt, List.contains_cons, h2]
     have : (x == l[i]) = false := beq_eq_false_iff_ne.2 (fun h => he h.symm)
     rw [this, Bool.false_or]
 obtain ⟨r, h1, h2⟩ := go l.length 0 (by omega) (by omega)
 exact ⟨r, h1, by rw [List.drop_zero] at h2; exact h2⟩
theorem zds (n : Nat) (hn : n ≤ 6) : ∀ (f : Nat) (l : List Int), f ≤ 6 → (za1 n f l).length ≤ 6 ^ f
 | 0, l, _ => by simp [za1]
 | f + 1, l, hf => by
  rw [za1, List.length_flatMap]
  have h : ∀ (xs : List Nat), xs.length ≤ 6 → (xs.map fun i => (if l.contains ((i : Nat) : Int) = true then [] else za1 n f (l ++ [((i : Nat) : Int)])).length).sum ≤ xs.length * 6 ^ f := by
   intro xs
   induction xs with
   | nil => simp
   | cons x xs ih =>
    intro hx
    simp only [List.length_cons] at hx
    have h1 := ih (by omega)
    have h2 : (if l.contains ((x : Nat) : Int) = true then [] else za1 n f (l ++ [((x : Nat) : Int)])).length ≤ 6 ^ f := by
     split
     ·simp
     ·exact zds n hn f _ (by omega)
    simp only [List.map_cons, List.sum_cons, List.length_cons, Nat.succ_mul]
    omega
  have h1 := h (List.range n) (by simpa using hn)
  have h2 : (List.range n).length * 6 ^ f ≤ 6 * 6 ^ f := Nat.mul_le_mul_right _ (by simpa using hn)
  have h3 : (6 : Nat) ^ (f + 1) = 6 * 6 ^ f := by rw [Nat.pow_succ, Nat.mul_comm]
  omega
theorem zij : ∀ f : Nat, f ≤ 6 → 6 ^ f ≤ 46656 := by decide
theorem zd4 (n : Nat) (hn : n ≤ 6) : ∀ (f : Nat) (l : List Int), l.length + f = n → Ev (fun k => zG.f k (n : Int) l) (za1 n f l)
 | 0, l, h => by
  refine Ev.step (fun k => by rw [zG.f]) ?_
  exact Ev.ifp (by omega) (Ev.now _)
 | f + 1, l, h => by
  have go : ∀ (m i : Nat), n - i = m → i ≤ n → ∀ acc : List (List Int), acc.length ≤ i * 46656 → Ev (fun k => zG.l0 k (n : Int) l acc (i : Int)) (acc ++ ((List.range n).drop i).flatMap fun i => if l.contains ((i : Nat) : Int) = true then [] else za1 n f (l ++ [((i : Nat) : Int)])) := by
   intro m
   induction m with
   | zero =>
    intro i h1 hi acc _
    rw [List.drop_eq_nil_of_le (by simp; omega), List.flatMap_nil, List.append_nil]
    exact Ev.step (fun k => by rw [zG.l0]) (Ev.ifn (by omega) (Ev.now _))
   | succ m ih =>
    intro i h1 hi acc ha
    have hlt : i < (List.range n).length := by simp; omega
    have hc1 : (i : Int) < (n : Int) := by omega
    obtain ⟨r, hr, hri⟩ := zgS l (i : Int) (by omega)
    rw [List.drop_eq_getElem_cons hlt, List.flatMap_cons, List.getElem_range]
    refine Ev.step (fun k => by rw [zG.l0]) (Ev.ifp hc1 (Ev.be hr ?_))
    by_cases hc : l.contains (i : Int) = true
    ·rw [if_pos hc, List.nil_append]
     have hn0 : ¬ r < 0 := fun h => by rw [hri] at h; rw [h] at hc; cases hc
     refine Ev.ifn hn0 ?_
     rw [zbN _ (by omega)]
     exact ih (i + 1) (by omega) (by omega) acc (Nat.le_trans ha (Nat.mul_le_mul_right _ (Nat.le_succ i)))
    ·rw [if_neg hc]
     have hn0 : r < 0 := hri.2 (Bool.eq_false_iff.2 hc)
     have hl1 : l.length < 17592186044416 := by omega
     have hlen : (za1 n f (l ++ [(i : Int)])).length ≤ 46656 := Nat.le_trans (zds n hn f (l ++ [(i : Int)]) (by omega)) (zij f (by omega))
     have hi6 : i ≤ 6 := by omega
     have hsum : acc.length + (za1 n f (l ++ [(i : Int)])).length < 5864062014805 := Nat.lt_of_le_of_lt (Nat.add_le_add (Nat.le_trans ha (Nat.mul_le_mul_right _ hi6)) hlen) (by decide)
     refine Ev.ifp hn0 (Ev.bs rfl ?_)
     refine Ev.ifp (by simpa using hl1) (Ev.bs rfl ?_)
     refine Ev.ifp (by simpa using hl1) ?_
     rw [List.nil_append]
     refine Ev.be (zd4 n hn f (l ++ [(i : Int)]) (by simp; omega)) ?_
     refine Ev.ifp hsum ?_
     rw [zbN _ (by omega)]
     have := ih (i + 1) (by omega) (by omega) (acc ++ za1 n f (l ++ [(i : Int)])) (by rw [List.length_append, Nat.succ_mul]; exact Nat.add_le_add ha hlen)
     rw [List.append_assoc] at this
     exact this
  refine Ev.step (fun k => by rw [zG.f]) (Ev.ifn (by omega) ?_)
  have := go n 0 (by omega) (by omega) [] (by simp)
  rw [List.drop_zero, List.nil_append] at this
  rw [za1]
  exact this
theorem zep (n : Nat) : ∀ (f : Nat) (l : List Int), (∀ i ∈ l, 0 ≤ i ∧ i < (n : Int)) → ∀ x ∈ za1 n f l, x.length = l.length + f ∧ ∀ i ∈ x, 0 ≤ i ∧ i < (n : Int)
 | 0, l, hl, x, hx => by
  rw [za1, List.mem_singleton] at hx
  subst hx; exact ⟨rfl, hl⟩
 | f + 1, l, hl, x, hx => by
  rw [za1, List.mem_flatMap] at hx
  obtain ⟨i, hi, hx⟩ := hx
  rw [List.mem_range] at hi
  split at hx
  ·cases hx
  ·have h := zep n f (l ++ [(i : Int)]) (fun j hj => by
    rcases List.mem_append.1 hj with h | h
    ·exact hl j h
    ·rw [List.mem_singleton.1 h]; omega) x hx
   rw [List.length_append, List.length_singleton] at h
   exact ⟨by omega, h.2⟩
theorem zgT (a : List Int) (ha : a.length ≤ 1000) : Ev (fun k => zaa.f k a a) true := by
 have go : ∀ (m i : Nat), a.length - i = m → i ≤ a.length → Ev (fun k => zaa.l0 k a a (i : Int)) true := by
  intro m
  induction m with
  | zero =>
   intro i h hi
   exact Ev.step (fun k => by rw [zaa.l0]) (Ev.ifn (by omega) (Ev.now _))
  | succ m ih =>
   intro i h hi
   have hlt : (i : Int) < (a.length : Int) := by omega
   refine Ev.step (fun k => by rw [zaa.l0]) (Ev.ifp hlt (Ev.ifp (by omega) (Ev.ifp hlt (Ev.ifp rfl ?_))))
   rw [zbN _ (by omega)]
   exact ih (i + 1) (by omega) (by omega)
 unfold zaa.f
 exact Ev.ifp rfl (go a.length 0 (by omega) (by omega))
theorem zhu : zaA.f = some true := rfl
theorem zf3 (n kind : Int) (h : -1000 ≤ n ∧ n ≤ 1000) : n - 1 ≤ zbS n kind ∧ zbS n kind ≤ n + 1 := by
 unfold zbS
 split
 ·rw [zee (by omega) (by omega)]; omega
 ·split
  ·rw [zee (by omega) (by omega)]; omega
  ·omega
theorem zfY (pg : List ByteArray) (ms : List S63) (most : Int) (got : List Int) (e : Int) (all : List (List Int)) (q : Nat) (x : List Int) (hq : q < all.length) (hx : all[q] = x) (hxl : x.length ≤ 100) (hxm : ∀ i ∈ x, 0 ≤ i ∧ i < (ms.length : Int)) (r : Bool)
  (Hyes : zbZ ms most (pg.length : Int) x = true → Ev (fun k => if e = 0 then ((zaa.f k got (zak all (q : Int))).bind fun t531 => (if t531 = true then ((zaA.f).bind fun t532 => (some t532)) else (some false))) else (some false)) r)
  (Hno : zbZ ms most (pg.length : Int) x = false → Ev (fun k => zt.l0 k pg ms most got e all (wrap64 ((q : Int) + 1))) r) :
  ∀ (m i : Nat) (n : Int) (fine : Bool), x.length - i = m → i ≤ x.length → -(i : Int) ≤ n → n ≤ 800 + (i : Int) → zbZ ms most (pg.length : Int) x = (fine && zbZ ms most n (x.drop i)) →
   Ev (fun k => zt.l1 k pg ms most got e all (q : Int) n fine (i : Int)) r
 | 0, i, n, fine, hm, hi, hn0, hn1, hf => by
  rw [List.drop_eq_nil_of_le (by omega), zbZ, Bool.and_true] at hf
  have r1 : zak all (q : Int) = x := by simp [zak, hq, hx]
  have hq' : (q : Int) < (all.length : Int) := by omega
  refine Ev.step (fun k => by rw [zt.l1]) (Ev.ifp (by omega) (Ev.ifp hq' ?_))
  refine Ev.ifn (by rw [r1]; omega) ?_
  cases fine with
  | true => exact Ev.ifp rfl (Hyes hf)
  | false => exact Ev.ifn Bool.false_ne_true (Hno hf)
 | m + 1, i, n, fine, hm, hi, hn0, hn1, hf => by
  have hlt : i < x.length := by omega
  have r1 : zak all (q : Int) = x := by simp [zak, hq, hx]
  have hq' : (q : Int) < (all.length : Int) := by omega
  obtain ⟨y, hy⟩ : ∃ y, x[i] = y := ⟨_, rfl⟩
  have r2 : rd x (i : Int) = y := by simp [rd, hlt, hy]
  have hym := hxm y (by rw [← hy]; exact List.getElem_mem _)
  obtain ⟨kd, hkd⟩ : ∃ kd, (zk ms y).f0 = kd := ⟨_, rfl⟩
  have hb := zf3 n kd (by omega)
  have hi6 : i ≤ 1000000 := by omega
  have ih := zfY pg ms most got e all q x hq hx hxl hxm r Hyes Hno m (i + 1) (zbS n kd) (fine && decide (zbS n kd ≤ most)) (by omega) (by omega) (by omega) (by omega) (by
   rw [hf, List.drop_eq_getElem_cons hlt, zbZ, hy, hkd]
   by_cases hc : most < zbS n kd
   ·rw [if_pos hc, decide_eq_false (by omega)]; simp
   ·rw [if_neg hc, decide_eq_true (by omega)]; simp)
  rw [← zbN _ hi6] at ih
  refine Ev.step (fun k => by rw [zt.l1]) (Ev.ifp (by omega) (Ev.ifp hq' ?_))
  rw [r1, r2, hkd]
  refine Ev.ifp (by omega) (Ev.ifp (by omega) (Ev.ifp hym.1 (Ev.ifp hym.2 ?_)))
  by_cases k1 : kd = 1
  ·have e1 : zbS n kd = wrap64 (n + 1) := by unfold zbS; rw [if_pos k1]
   rw [e1] at ih
   refine Ev.ifp k1 ?_
   cases fine with
   | true => refine Ev.ifp rfl ?_; rw [Bool.true_and] at ih; exact ih
   | false => refine Ev.ifn Bool.false_ne_true ?_; rw [Bool.false_and] at ih; exact ih
  ·refine Ev.ifn k1 ?_
   by_cases k3 : kd = 3
   ·have e1 : zbS n kd = wrap64 (n - 1) := by unfold zbS; rw [if_neg k1, if_pos k3]
    rw [e1] at ih
    refine Ev.ifp k3 ?_
    cases fine with
    | true => refine Ev.ifp rfl ?_; rw [Bool.true_and] at ih; exact ih
    | false => refine Ev.ifn Bool.false_ne_true ?_; rw [Bool.false_and] at ih; exact ih
   ·have e1 : zbS n kd = n := by unfold zbS; rw [if_neg k1, if_neg k3]
    rw [e1] at ih
    refine Ev.ifn k3 ?_
    cases fine with
    | true => refine Ev.ifp rfl ?_; rw [Bool.true_and] at ih; exact ih
    | false => refine Ev.ifn Bool.false_ne_true ?_; rw [Bool.false_and] at ih; exact ih
theorem zfh (pg : List ByteArray) (ms : List S63) (most : Int) (got : List Int) (e : Int) (all : List (List Int)) (hpg : pg.length ≤ 800) (hal : all.length ≤ 900000) (hall : ∀ x ∈ all, x.length ≤ 100 ∧ ∀ i ∈ x, 0 ≤ i ∧ i < (ms.length : Int)) :
  ∀ (m q : Nat), all.length - q = m → q ≤ all.length →
   (match (all.drop q).find? (zbZ ms most (pg.length : Int)) with | some x => got = x ∧ e = 0 | none => got = [] ∧ e = 11) →
   Ev (fun k => zt.l0 k pg ms most got e all (q : Int)) true
 | 0, q, hm, hq, hf => by
  rw [List.drop_eq_nil_of_le (by omega), List.find?_nil] at hf
  obtain ⟨rfl, rfl⟩ := hf
  refine Ev.step (fun k => by rw [zt.l0]) ?_
  refine Ev.ifn (by omega) ?_
  refine Ev.ifp rfl ?_
  refine Ev.ifp rfl ?_
  exact Ev.bs zhu (Ev.now _)
 | m + 1, q, hm, hq, hf => by
  have hlt : q < all.length := by omega
  obtain ⟨x, hx⟩ : ∃ x, all[q] = x := ⟨_, rfl⟩
  have hxa := hall x (by rw [← hx]; exact List.getElem_mem _)
  rw [List.drop_eq_getElem_cons hlt, hx, List.find?_cons] at hf
  have hq' : (q : Int) < (all.length : Int) := by omega
  have r1 : zak all (q : Int) = x := by simp [zak, hlt, hx]
  refine Ev.step (fun k => by rw [zt.l0]) (Ev.ifp hq' ?_)
  refine zfY pg ms most got e all q x hlt hx hxa.1 hxa.2 true ?_ ?_ x.length 0 (pg.length : Int) true (by omega) (by omega) (by omega) (by omega) (by simp)
  ·intro hfit
   rw [hfit] at hf
   obtain ⟨rfl, rfl⟩ := hf
   refine Ev.ifp rfl ?_
   rw [r1]
   exact Ev.be (zgT _ (by omega)) (Ev.ifp rfl (Ev.bs zhu (Ev.now _)))
  ·intro hfit
   rw [hfit] at hf
   rw [zbN _ (by omega)]
   exact zfh pg ms most got e all hpg hal hall m (q + 1) (by omega) (by omega) hf
theorem zg1 (pg : List ByteArray) (ms : List S63) (most : Int) (hg : Good 6 pg) (h : MOK pg.length ms) (hl : ms.length ≤ 5) (h1 : (pg.length : Int) ≤ most) :
  za5.f pg ms most = some (match (za1 ms.length ms.length []).find? (zbZ ms most (pg.length : Int)) with | some x => (x, 0) | none => ([], 11)) := by
 have hg1 := hg.1
 unfold za5.f
 rw [if_pos ⟨by omega, by omega⟩, zgy pg ms 1000 (by omega), Option.bind_some, h.checked hg (by omega), if_pos rfl, if_neg (by omega), if_neg (by omega), if_neg (by omega)]
 cases (za1 ms.length ms.length []).find? (zbZ ms most (pg.length : Int)) <;> rfl
theorem zf2 : zt.Pure := by
 intro l0 _ hl _
 have hl' : l0.length ≤ 17592186044416 := by omega
 refine Ev.rounds (g := fun k => zt.f k l0) ?_
 obtain ⟨p, t1, t2, g1, g2, g3, g4⟩ := zhJ l0 0 11400714819323198485 (Int.le_refl _) hl' 4 (by decide) 200 (by decide)
 obtain ⟨ms, u1, u2, h1, h2, h3, h4⟩ := zg5 l0 hl' t1 t2 g4 p.length 4 (by omega) (by omega)
 obtain ⟨d, v1, v2, k1, k2, k3, k4⟩ := zeB l0 u1 u2 h4 hl' 2 (by omega) (by omega)
 have hg : Good 6 p := ⟨by omega, g3⟩
 unfold zt.f zbo.f
 refine Ev.bs rfl ?_
 refine Ev.be (Ev.of (zN.mono _ _ _ _) g1) ?_
 refine Ev.be h1 ?_
 refine Ev.bs k1 ?_
 dsimp only
 rw [zee (by omega) (by omega)]
 refine Ev.bs (zg1 p ms _ hg h3 (by omega) (by omega)) ?_
 refine Ev.be (zd4 ms.length (by omega) ms.length [] (by simp)) ?_
 have hfew := zds ms.length (by omega) ms.length [] (by omega)
 have hp6 := zij ms.length (by omega)
 refine zfh p ms _ _ _ _ (by omega) (by omega) ?_ _ 0 rfl (by omega) ?_
 ·intro x hx
  have h := zep ms.length ms.length [] (fun i hi => by cases hi) x hx
  rw [List.length_nil] at h
  exact ⟨by omega, h.2⟩
 ·rw [List.drop_zero]
  cases (za1 ms.length ms.length []).find? (zbZ ms ((p.length : Int) + d) (p.length : Int)) with
  | some x => exact ⟨rfl, rfl⟩
  | none => exact ⟨rfl, rfl⟩
end Go.Proofs.Ytgmbbfmbimofoaa.P
