-- MERGED BY A PROGRAM out of texts of this claim: hand work, and what a (turned) print of the kit has written for it
import Derived.Outline
import Derived.Test.YtgmbbfmbimofoaaMd21
import Derived.Test.YtgmbbfmbimofoaaMd5
import Derived.Test.YtgmbbfmbimofoaaMd17
import Derived.Test.YtgmbbfmbimofoaaMd8
import Derived.Test.YtgmbbfmbimofoaaMd20
import Derived.Test.YtgmbbfmbimofoaaMd6
namespace Go.Proofs.Ytgmbbfmbimofoaa.P
open Go.RowKit Go.Proofs.YtgmbbfmbimofoaaW.PrintWords Go.Proofs.YtgmbbfmbimofoaaW.PrintLast Go.Proofs.YtgmbbfmbimofoaaW.PrintMore
attribute [local go_sem] zR zO zT zU zM zK zQ zP
set_option linter.unusedVariables false
set_option linter.unusedSimpArgs false
def zc0 : ByteArray := ⟨#[97, 110, 110, 97]⟩
def zdT : ByteArray := ⟨#[98, 101, 110]⟩
def zg4 : ByteArray := ⟨#[99, 121, 100]⟩
def zfP : ByteArray := ⟨#[98, 101, 97]⟩
def zfu : ByteArray := ⟨#[99, 105, 100]⟩
def zhr : ByteArray := ⟨#[100, 97, 110]⟩
def ziw : ByteArray := ⟨#[97, 98, 101]⟩
def zc6 : List ByteArray := [zc0, zdT, zg4]
def zcL : List S63 := [⟨1, 1, zfP⟩, ⟨2, 2, zfu⟩]
def zeb : List (List ByteArray) := [[zc0, zdT], [zc0, zg4]]
theorem zgO : zbu.f 100 zc6 zcL = some ([zc0, zfP, zdT, zfu], 0) := by kernel_rfl
theorem zgt : za0.f 100 zeb [zc0, zdT, zhr] = some ([1, 0, -1], 0) := by kernel_rfl
theorem zhR : zaH.f 100 [zc0, zfP, zdT, zfu] [zc0, zfP, zdT, zfu] = some true := by kernel_rfl
theorem zgI : zcb.f zc6 [⟨1, 0, ziw⟩, ⟨3, 1, ⟨#[]⟩⟩, ⟨3, 2, ⟨#[]⟩⟩] 3 = some ([1, 0, 2], 0) := by kernel_rfl
theorem zh1 : zaM.f 100 zcL zcL = some true := by kernel_rfl
theorem zg2 : zaG.f 100 [1, 0, 2] [1, 0, 2] = some true := by kernel_rfl
theorem zhh : zaG.f 100 [1, 0, -1] [1, 0, -1] = some true := by kernel_rfl
theorem zg5 : zcZ.f 100 zc6 [zc0, zfP, zdT, zfu] = some (zcL, 0) := by kernel_rfl
theorem zha : zda.f 100 zeb [⟨1, 2, zhr⟩] [zc0, zg4, zdT, zhr] = some (2, 2, 0) := by kernel_rfl
set_option maxHeartbeats 4000000 in
set_option maxRecDepth 100000 in
theorem zeI (w : World) : Calls Try.prog 18 #[] w fun e w' => e = .returned (.bool true) ∧ Below w.heap.size w w' := by
 go_enter Try.func18, Try.ntmps18
 have HB := za.mk (Below.refl w.heap.size w)
 go_wp2_with fail
 refine (zbA.calls zc6 _ rfl).mono ?_
 rintro e w1 ⟨v1, rfl, hR1, hb1⟩
 replace HB := za.mk (zu HB.out hb1)
 obtain ⟨A1, c1, rfl, _, _⟩ := Kd.zaA hR1
 have F1 := za.mk hR1
 clear hR1 hb1
 go_wp2_with fail
 refine (zbP.calls zcL _ rfl).mono ?_
 rintro e w2 ⟨v2, rfl, hR2, hb2⟩
 replace HB := za.mk (zu HB.out hb2)
 replace F1 := za.mk (Kd.zH F1.out hb2)
 obtain ⟨A2, c2, rfl, _, _⟩ := Kd.zaA hR2
 have F2 := za.mk hR2
 clear hR2 hb2
 go_wp2_with fail
 refine (zbu.calls 100 _ _ zc6 _ _ zcL [⟨#[97, 110, 110, 97]⟩, ⟨#[98, 101, 97]⟩, ⟨#[98, 101, 110]⟩, ⟨#[99, 105, 100]⟩] 0 _ (zbg F1.out).1 (zbg F1.out).2 (zbg F2.out).1 (zbg F2.out).2 zgO).mono ?_
 rintro e w3 ⟨v3, rfl, hR3, hb3⟩
 replace HB := za.mk (zu HB.out hb3)
 replace F1 := za.mk (Kd.zH F1.out hb3)
 replace F2 := za.mk (Kd.zH F2.out hb3)
 obtain ⟨A3, c3, rfl, _, _⟩ := Kd.zaA hR3
 have F3 := za.mk hR3
 clear hR3 hb3
 clear F1 F2
 go_wp2_with fail
 refine (zbA.calls zc6 _ rfl).mono ?_
 rintro e w4 ⟨v4, rfl, hR4, hb4⟩
 replace HB := za.mk (zu HB.out hb4)
 replace F3 := za.mk (Kd.zH F3.out hb4)
 obtain ⟨A4, c4, rfl, _, _⟩ := Kd.zaA hR4
 have F4 := za.mk hR4
 clear hR4 hb4
 go_wp2_with fail
 have hbx := ze (Below.refl w4.heap.size w4) (.cells #[.string ⟨#[97, 110, 110, 97]⟩, .string ⟨#[98, 101, 97]⟩, .string ⟨#[98, 101, 110]⟩, .string ⟨#[99, 105, 100]⟩] 9)
 have X1 := za.mk (heap_alloc_new w4 (.cells #[.string ⟨#[97, 110, 110, 97]⟩, .string ⟨#[98, 101, 97]⟩, .string ⟨#[98, 101, 110]⟩, .string ⟨#[99, 105, 100]⟩] 9))
 replace HB := za.mk (zu HB.out hbx)
 replace F3 := za.mk (Kd.zH F3.out hbx)
 replace F4 := za.mk (Kd.zH F4.out hbx)
 obtain ⟨u4, hu⟩ : ∃ u_, w4.alloc (.cells #[.string ⟨#[97, 110, 110, 97]⟩, .string ⟨#[98, 101, 97]⟩, .string ⟨#[98, 101, 110]⟩, .string ⟨#[99, 105, 100]⟩] 9) = u_ := ⟨_, rfl⟩
 rw [hu] at F3 F4 X1 HB ⊢
 clear hu hbx
 refine (zcZ.calls 100 _ _ zc6 _ _ [⟨#[97, 110, 110, 97]⟩, ⟨#[98, 101, 97]⟩, ⟨#[98, 101, 110]⟩, ⟨#[99, 105, 100]⟩] zcL 0 _ (zbg F4.out).1 (zbg F4.out).2 (zeC X1.out rfl (by decide)) (by decide) zg5).mono ?_
 rintro e w5 ⟨v5, rfl, hR5, hb5⟩
 replace HB := za.mk (zu HB.out hb5)
 replace F3 := za.mk (Kd.zH F3.out hb5)
 replace F4 := za.mk (Kd.zH F4.out hb5)
 replace X1 := za.mk (zF X1.out hb5)
 obtain ⟨A5, c5, rfl, _, _⟩ := Kd.zaA hR5
 have F5 := za.mk hR5
 clear hR5 hb5
 clear F4 X1
 go_wp2_with fail
 refine (zbA.calls zc6 _ rfl).mono ?_
 rintro e w6 ⟨v6, rfl, hR6, hb6⟩
 replace HB := za.mk (zu HB.out hb6)
 replace F3 := za.mk (Kd.zH F3.out hb6)
 replace F5 := za.mk (Kd.zH F5.out hb6)
 obtain ⟨A6, c6, rfl, _, _⟩ := Kd.zaA hR6
 have F6 := za.mk hR6
 clear hR6 hb6
 go_wp2_with fail
 refine (zbk.calls 0 ⟨#[97, 98, 101]⟩ 1 0 ⟨#[97, 98, 101]⟩ _ rfl).mono ?_
 rintro e w7 ⟨rfl, hb7⟩
 replace HB := za.mk (zu HB.out hb7)
 replace F3 := za.mk (Kd.zH F3.out hb7)
 replace F5 := za.mk (Kd.zH F5.out hb7)
 replace F6 := za.mk (Kd.zH F6.out hb7)
 clear hb7
 go_wp2_with fail
 refine (zbV.calls 1 3 1 ⟨#[]⟩ _ rfl).mono ?_
 rintro e w8 ⟨rfl, hb8⟩
 replace HB := za.mk (zu HB.out hb8)
 replace F3 := za.mk (Kd.zH F3.out hb8)
 replace F5 := za.mk (Kd.zH F5.out hb8)
 replace F6 := za.mk (Kd.zH F6.out hb8)
 clear hb8
 go_wp2_with fail
 refine (zbV.calls 2 3 2 ⟨#[]⟩ _ rfl).mono ?_
 rintro e w9 ⟨rfl, hb9⟩
 replace HB := za.mk (zu HB.out hb9)
 replace F3 := za.mk (Kd.zH F3.out hb9)
 replace F5 := za.mk (Kd.zH F5.out hb9)
 replace F6 := za.mk (Kd.zH F6.out hb9)
 clear hb9
 go_wp2_with fail
 have hbx := ze (Below.refl w9.heap.size w9) (.cells #[.int .i64 1, .int .i64 0, .string ⟨#[97, 98, 101]⟩, .int .i64 3, .int .i64 1, .string ⟨#[]⟩, .int .i64 3, .int .i64 2, .string ⟨#[]⟩] 63)
 have X2 := za.mk (heap_alloc_new w9 (.cells #[.int .i64 1, .int .i64 0, .string ⟨#[97, 98, 101]⟩, .int .i64 3, .int .i64 1, .string ⟨#[]⟩, .int .i64 3, .int .i64 2, .string ⟨#[]⟩] 63))
 replace HB := za.mk (zu HB.out hbx)
 replace F3 := za.mk (Kd.zH F3.out hbx)
 replace F5 := za.mk (Kd.zH F5.out hbx)
 replace F6 := za.mk (Kd.zH F6.out hbx)
 obtain ⟨u9, hu⟩ : ∃ u_, w9.alloc (.cells #[.int .i64 1, .int .i64 0, .string ⟨#[97, 98, 101]⟩, .int .i64 3, .int .i64 1, .string ⟨#[]⟩, .int .i64 3, .int .i64 2, .string ⟨#[]⟩] 63) = u_ := ⟨_, rfl⟩
 rw [hu] at F3 F5 F6 X2 HB ⊢
 clear hu hbx
 refine (zcb.calls _ _ zc6 _ _ [⟨1, 0, ⟨#[97, 98, 101]⟩⟩, ⟨3, 1, ⟨#[]⟩⟩, ⟨3, 2, ⟨#[]⟩⟩] 3 [1, 0, 2] 0 _ (zbg F6.out).1 (zbg F6.out).2 (zf8 X2.out rfl (by decide)) (by decide) zgI).mono ?_
 rintro e w10 ⟨v10, rfl, hR10, hb10⟩
 replace HB := za.mk (zu HB.out hb10)
 replace F3 := za.mk (Kd.zH F3.out hb10)
 replace F5 := za.mk (Kd.zH F5.out hb10)
 replace F6 := za.mk (Kd.zH F6.out hb10)
 replace X2 := za.mk (zF X2.out hb10)
 obtain ⟨A10, c10, rfl, _, _⟩ := Kd.zaA hR10
 have F7 := za.mk hR10
 clear hR10 hb10
 clear F6 X2
 go_wp2_with fail
 refine (zbO.calls zeb _ rfl).mono ?_
 rintro e w11 ⟨v11, rfl, hR11, hb11⟩
 replace HB := za.mk (zu HB.out hb11)
 replace F3 := za.mk (Kd.zH F3.out hb11)
 replace F5 := za.mk (Kd.zH F5.out hb11)
 replace F7 := za.mk (Kd.zH F7.out hb11)
 obtain ⟨A11, c11, rfl, _, _⟩ := Kd.zf9 hR11
 have F8 := za.mk hR11
 clear hR11 hb11
 go_wp2_with fail
 have hbx := ze (Below.refl w11.heap.size w11) (.cells #[.string ⟨#[97, 110, 110, 97]⟩, .string ⟨#[98, 101, 110]⟩, .string ⟨#[100, 97, 110]⟩] 9)
 have X3 := za.mk (heap_alloc_new w11 (.cells #[.string ⟨#[97, 110, 110, 97]⟩, .string ⟨#[98, 101, 110]⟩, .string ⟨#[100, 97, 110]⟩] 9))
 replace HB := za.mk (zu HB.out hbx)
 replace F3 := za.mk (Kd.zH F3.out hbx)
 replace F5 := za.mk (Kd.zH F5.out hbx)
 replace F7 := za.mk (Kd.zH F7.out hbx)
 replace F8 := za.mk (Kd.zcp F8.out hbx)
 obtain ⟨u11, hu⟩ : ∃ u_, w11.alloc (.cells #[.string ⟨#[97, 110, 110, 97]⟩, .string ⟨#[98, 101, 110]⟩, .string ⟨#[100, 97, 110]⟩] 9) = u_ := ⟨_, rfl⟩
 rw [hu] at F3 F5 F7 F8 X3 HB ⊢
 clear hu hbx
 refine (za0.calls 100 _ _ zeb _ _ [⟨#[97, 110, 110, 97]⟩, ⟨#[98, 101, 110]⟩, ⟨#[100, 97, 110]⟩] [1, 0, -1] 0 _ (Kd.zdi F8.out).2.2 (Kd.zdi F8.out).2.1 (zeC X3.out rfl (by decide)) (by decide) zgt).mono ?_
 rintro e w12 ⟨v12, rfl, hR12, hb12⟩
 replace HB := za.mk (zu HB.out hb12)
 replace F3 := za.mk (Kd.zH F3.out hb12)
 replace F5 := za.mk (Kd.zH F5.out hb12)
 replace F7 := za.mk (Kd.zH F7.out hb12)
 replace F8 := za.mk (Kd.zcp F8.out hb12)
 replace X3 := za.mk (zF X3.out hb12)
 obtain ⟨A12, c12, rfl, _, _⟩ := Kd.zaA hR12
 have F9 := za.mk hR12
 clear hR12 hb12
 clear F8 X3
 go_wp2_with fail
 refine (zbO.calls zeb _ rfl).mono ?_
 rintro e w13 ⟨v13, rfl, hR13, hb13⟩
 replace HB := za.mk (zu HB.out hb13)
 replace F3 := za.mk (Kd.zH F3.out hb13)
 replace F5 := za.mk (Kd.zH F5.out hb13)
 replace F7 := za.mk (Kd.zH F7.out hb13)
 replace F9 := za.mk (Kd.zH F9.out hb13)
 obtain ⟨A13, c13, rfl, _, _⟩ := Kd.zf9 hR13
 have F10 := za.mk hR13
 clear hR13 hb13
 go_wp2_with fail
 refine (zbk.calls 2 ⟨#[100, 97, 110]⟩ 1 2 ⟨#[100, 97, 110]⟩ _ rfl).mono ?_
 rintro e w14 ⟨rfl, hb14⟩
 replace HB := za.mk (zu HB.out hb14)
 replace F3 := za.mk (Kd.zH F3.out hb14)
 replace F5 := za.mk (Kd.zH F5.out hb14)
 replace F7 := za.mk (Kd.zH F7.out hb14)
 replace F9 := za.mk (Kd.zH F9.out hb14)
 replace F10 := za.mk (Kd.zcp F10.out hb14)
 clear hb14
 go_wp2_with fail
 have hbx := ze (Below.refl w14.heap.size w14) (.cells #[.int .i64 1, .int .i64 2, .string ⟨#[100, 97, 110]⟩] 63)
 have X4 := za.mk (heap_alloc_new w14 (.cells #[.int .i64 1, .int .i64 2, .string ⟨#[100, 97, 110]⟩] 63))
 replace HB := za.mk (zu HB.out hbx)
 replace F3 := za.mk (Kd.zH F3.out hbx)
 replace F5 := za.mk (Kd.zH F5.out hbx)
 replace F7 := za.mk (Kd.zH F7.out hbx)
 replace F9 := za.mk (Kd.zH F9.out hbx)
 replace F10 := za.mk (Kd.zcp F10.out hbx)
 have e4 : (w14.alloc (.cells #[.int .i64 1, .int .i64 2, .string ⟨#[100, 97, 110]⟩] 63)).heap.size = w14.heap.size + 1 := Array.size_push _
 have hby := ze (Below.refl _ (w14.alloc (.cells #[.int .i64 1, .int .i64 2, .string ⟨#[100, 97, 110]⟩] 63))) (.cells #[.string ⟨#[97, 110, 110, 97]⟩, .string ⟨#[99, 121, 100]⟩, .string ⟨#[98, 101, 110]⟩, .string ⟨#[100, 97, 110]⟩] 9)
 have X5 := za.mk (heap_alloc_new (w14.alloc (.cells #[.int .i64 1, .int .i64 2, .string ⟨#[100, 97, 110]⟩] 63)) (.cells #[.string ⟨#[97, 110, 110, 97]⟩, .string ⟨#[99, 121, 100]⟩, .string ⟨#[98, 101, 110]⟩, .string ⟨#[100, 97, 110]⟩] 9))
 rw [e4] at X5
 replace HB := za.mk (zu HB.out hby)
 replace F3 := za.mk (Kd.zH F3.out hby)
 replace F5 := za.mk (Kd.zH F5.out hby)
 replace F7 := za.mk (Kd.zH F7.out hby)
 replace F9 := za.mk (Kd.zH F9.out hby)
 replace F10 := za.mk (Kd.zcp F10.out hby)
 replace X4 := za.mk (zF X4.out hby)
 obtain ⟨u14, hu⟩ : ∃ u_, (w14.alloc (.cells #[.int .i64 1, .int .i64 2, .string ⟨#[100, 97, 110]⟩] 63)).alloc (.cells #[.string ⟨#[97, 110, 110, 97]⟩, .string ⟨#[99, 121, 100]⟩, .string ⟨#[98, 101, 110]⟩, .string ⟨#[100, 97, 110]⟩] 9) = u_ := ⟨_, rfl⟩
 rw [hu] at F3 F5 F7 F9 F10 X4 X5 HB ⊢
 clear hu hbx hby e4
 refine (zda.calls 100 _ _ zeb _ _ [⟨1, 2, ⟨#[100, 97, 110]⟩⟩] _ _ [⟨#[97, 110, 110, 97]⟩, ⟨#[99, 121, 100]⟩, ⟨#[98, 101, 110]⟩, ⟨#[100, 97, 110]⟩] 2 2 0 _ (Kd.zdi F10.out).2.2 (Kd.zdi F10.out).2.1 (zf8 X4.out rfl (by decide)) (by decide) (zeC X5.out rfl (by decide)) (by decide) zha).mono ?_
 rintro e w15 ⟨rfl, hb15⟩
 replace HB := za.mk (zu HB.out hb15)
 replace F3 := za.mk (Kd.zH F3.out hb15)
 replace F5 := za.mk (Kd.zH F5.out hb15)
 replace F7 := za.mk (Kd.zH F7.out hb15)
 replace F9 := za.mk (Kd.zH F9.out hb15)
 replace F10 := za.mk (Kd.zcp F10.out hb15)
 replace X4 := za.mk (zF X4.out hb15)
 replace X5 := za.mk (zF X5.out hb15)
 clear hb15
 clear F10 X4 X5
 go_wp2_with fail
 have hbx := ze (Below.refl w15.heap.size w15) (.cells #[.int .i64 2, .int .i64 2] 54)
 replace HB := za.mk (zu HB.out hbx)
 replace F3 := za.mk (Kd.zH F3.out hbx)
 replace F5 := za.mk (Kd.zH F5.out hbx)
 replace F7 := za.mk (Kd.zH F7.out hbx)
 replace F9 := za.mk (Kd.zH F9.out hbx)
 have e4 : (w15.alloc (.cells #[.int .i64 2, .int .i64 2] 54)).heap.size = w15.heap.size + 1 := Array.size_push _
 have hby := ze (Below.refl _ (w15.alloc (.cells #[.int .i64 2, .int .i64 2] 54))) (.cells #[.string ⟨#[97, 110, 110, 97]⟩, .string ⟨#[98, 101, 97]⟩, .string ⟨#[98, 101, 110]⟩, .string ⟨#[99, 105, 100]⟩] 9)
 have X6 := za.mk (heap_alloc_new (w15.alloc (.cells #[.int .i64 2, .int .i64 2] 54)) (.cells #[.string ⟨#[97, 110, 110, 97]⟩, .string ⟨#[98, 101, 97]⟩, .string ⟨#[98, 101, 110]⟩, .string ⟨#[99, 105, 100]⟩] 9))
 rw [e4] at X6
 replace HB := za.mk (zu HB.out hby)
 replace F3 := za.mk (Kd.zH F3.out hby)
 replace F5 := za.mk (Kd.zH F5.out hby)
 replace F7 := za.mk (Kd.zH F7.out hby)
 replace F9 := za.mk (Kd.zH F9.out hby)
 obtain ⟨u15, hu⟩ : ∃ u_, (w15.alloc (.cells #[.int .i64 2, .int .i64 2] 54)).alloc (.cells #[.string ⟨#[97, 110, 110, 97]⟩, .string ⟨#[98, 101, 97]⟩, .string ⟨#[98, 101, 110]⟩, .string ⟨#[99, 105, 100]⟩] 9) = u_ := ⟨_, rfl⟩
 rw [hu] at F3 F5 F7 F9 X6 HB ⊢
 clear hu hbx hby e4
 refine (zaH.calls 100 _ _ [⟨#[97, 110, 110, 97]⟩, ⟨#[98, 101, 97]⟩, ⟨#[98, 101, 110]⟩, ⟨#[99, 105, 100]⟩] _ _ [⟨#[97, 110, 110, 97]⟩, ⟨#[98, 101, 97]⟩, ⟨#[98, 101, 110]⟩, ⟨#[99, 105, 100]⟩] true _ (zbg F3.out).1 (zbg F3.out).2 (zeC X6.out rfl (by decide)) (by decide) zhR).mono ?_
 rintro e w16 ⟨rfl, nd16, hw16⟩
 have hb16 : Below u15.heap.size u15 w16 := by rw [hw16]; exact zb (Below.refl _ _) _
 clear hw16
 replace HB := za.mk (zu HB.out hb16)
 replace F3 := za.mk (Kd.zH F3.out hb16)
 replace F5 := za.mk (Kd.zH F5.out hb16)
 replace F7 := za.mk (Kd.zH F7.out hb16)
 replace F9 := za.mk (Kd.zH F9.out hb16)
 replace X6 := za.mk (zF X6.out hb16)
 clear hb16
 clear F3 X6
 go_wp2_with fail
 refine (zbP.calls zcL _ rfl).mono ?_
 rintro e w17 ⟨v17, rfl, hR17, hb17⟩
 replace HB := za.mk (zu HB.out hb17)
 replace F5 := za.mk (Kd.zH F5.out hb17)
 replace F7 := za.mk (Kd.zH F7.out hb17)
 replace F9 := za.mk (Kd.zH F9.out hb17)
 obtain ⟨A17, c17, rfl, _, _⟩ := Kd.zaA hR17
 have F11 := za.mk hR17
 clear hR17 hb17
 go_wp2_with fail
 refine (zaM.calls 100 _ _ zcL _ _ zcL true _ (zbg F5.out).1 (zbg F5.out).2 (zbg F11.out).1 (zbg F11.out).2 zh1).mono ?_
 rintro e w18 ⟨rfl, nd18, hw18⟩
 have hb18 : Below w17.heap.size w17 w18 := by rw [hw18]; exact zb (Below.refl _ _) _
 clear hw18
 replace HB := za.mk (zu HB.out hb18)
 replace F5 := za.mk (Kd.zH F5.out hb18)
 replace F7 := za.mk (Kd.zH F7.out hb18)
 replace F9 := za.mk (Kd.zH F9.out hb18)
 replace F11 := za.mk (Kd.zH F11.out hb18)
 clear hb18
 clear F5 F11
 go_wp2_with fail
 have hbx := ze (Below.refl w18.heap.size w18) (.cells #[.int .i64 1, .int .i64 0, .int .i64 2] 3)
 have X7 := za.mk (heap_alloc_new w18 (.cells #[.int .i64 1, .int .i64 0, .int .i64 2] 3))
 replace HB := za.mk (zu HB.out hbx)
 replace F7 := za.mk (Kd.zH F7.out hbx)
 replace F9 := za.mk (Kd.zH F9.out hbx)
 obtain ⟨u18, hu⟩ : ∃ u_, w18.alloc (.cells #[.int .i64 1, .int .i64 0, .int .i64 2] 3) = u_ := ⟨_, rfl⟩
 rw [hu] at F7 F9 X7 HB ⊢
 clear hu hbx
 refine (zaG.calls 100 _ _ [1, 0, 2] _ _ [1, 0, 2] true _ (zbg F7.out).1 (zbg F7.out).2 (zgM X7.out rfl (by decide)) (by decide) zg2).mono ?_
 rintro e w19 ⟨rfl, nd19, hw19⟩
 have hb19 : Below u18.heap.size u18 w19 := by rw [hw19]; exact zb (Below.refl _ _) _
 clear hw19
 replace HB := za.mk (zu HB.out hb19)
 replace F7 := za.mk (Kd.zH F7.out hb19)
 replace F9 := za.mk (Kd.zH F9.out hb19)
 replace X7 := za.mk (zF X7.out hb19)
 clear hb19
 clear F7 X7
 go_wp2_with fail
 have hbx := ze (Below.refl w19.heap.size w19) (.cells #[.int .i64 1, .int .i64 0, .int .i64 (-1)] 3)
 have X8 := za.mk (heap_alloc_new w19 (.cells #[.int .i64 1, .int .i64 0, .int .i64 (-1)] 3))
 replace HB := za.mk (zu HB.out hbx)
 replace F9 := za.mk (Kd.zH F9.out hbx)
 obtain ⟨u19, hu⟩ : ∃ u_, w19.alloc (.cells #[.int .i64 1, .int .i64 0, .int .i64 (-1)] 3) = u_ := ⟨_, rfl⟩
 rw [hu] at F9 X8 HB ⊢
 clear hu hbx
 refine (zaG.calls 100 _ _ [1, 0, -1] _ _ [1, 0, -1] true _ (zbg F9.out).1 (zbg F9.out).2 (zgM X8.out rfl (by decide)) (by decide) zhh).mono ?_
 rintro e w20 ⟨rfl, nd20, hw20⟩
 have hb20 : Below u19.heap.size u19 w20 := by rw [hw20]; exact zb (Below.refl _ _) _
 clear hw20
 replace HB := za.mk (zu HB.out hb20)
 replace F9 := za.mk (Kd.zH F9.out hb20)
 replace X8 := za.mk (zF X8.out hb20)
 clear hb20
 clear F9 X8
 go_wp2_with fail
 go_ret
 exact ⟨rfl, HB.out⟩
def zay.f : Option Bool := some true
theorem zay.calls (r : Bool) (w : World) (h : zay.f = some r) : Calls Try.prog 18 #[] w fun e w' => e = .returned (.bool r) ∧ Below w.heap.size w w' := by
 obtain rfl : true = r := Option.some.inj h
 exact zeI w
mutual
def zo.l0 : Nat → List ByteArray → List (S63) → Int → Int → Option (Bool)
 | 0, _, _, _, _ => none
 | k + 1, x4, x5, x6, x7 => if x7 < (x5.length : Int) then (if 0 ≤ x7 then (if ((zk x5 x7).f0) = 1 then (zo.l0 k x4 x5 (wrap64 (x6 + 1)) (wrap64 (x7 + 1))) else (if ((zk x5 x7).f0) = 3 then (zo.l0 k x4 x5 (wrap64 (x6 - 1)) (wrap64 (x7 + 1))) else (zo.l0 k x4 x5 x6 (wrap64 (x7 + 1))))) else (none)) else ((zbu.f k x4 x5).bind fun bt679 => ((zaT.f k x4 x5).bind fun bt683 => (if bt683.2 = 0 then (if bt683.1 < 0 then (zo.j1 k x4 x5 x6 bt679.1 bt679.2 bt683.1 true) else (zo.j1 k x4 x5 x6 bt679.1 bt679.2 bt683.1 (decide (bt683.1 > (x5.length : Int))))) else (zo.j1 k x4 x5 x6 bt679.1 bt679.2 bt683.1 true))))
def zo.j1 : Nat → List ByteArray → List (S63) → Int → List ByteArray → Int → Int → Bool → Option (Bool)
 | 0, _, _, _, _, _, _, _ => none
 | k + 1, x4, x5, x6, x8, x9, x10, x68 => if x68 = true then (some false) else (if x6 > 6 then (if x9 = 6 then (if (x8.length : Int) = 0 then ((zay.f).bind fun t685 => (some t685)) else (some false)) else (some false)) else (zo.l1 k x4 x5 x6 x8 x9 x10 ([] : List ByteArray) 0))
def zo.l1 : Nat → List ByteArray → List (S63) → Int → List ByteArray → Int → Int → List ByteArray → Int → Option (Bool)
 | 0, _, _, _, _, _, _, _, _ => none
 | k + 1, x4, x5, x6, x8, x9, x10, x12, x13 => if x13 < (x4.length : Int) then (zo.l2 k x4 x5 x6 x8 x9 x10 x12 x13 false 0) else (if x9 = 0 then (if (x8.length : Int) = x6 then ((zaY.f k x12 x8).bind fun t686 => (if t686 = true then (if (wrap64 ((x12.length : Int) + x10)) = x6 then ((zay.f).bind fun t687 => (some t687)) else (some false)) else (some false))) else (some false)) else (some false))
def zo.l2 : Nat → List ByteArray → List (S63) → Int → List ByteArray → Int → Int → List ByteArray → Int → Bool → Int → Option (Bool)
 | 0, _, _, _, _, _, _, _, _, _, _ => none
 | k + 1, x4, x5, x6, x8, x9, x10, x12, x13, x14, x15 => if x15 < (x5.length : Int) then (if x14 = true then (zo.l2 k x4 x5 x6 x8 x9 x10 x12 x13 true (wrap64 (x15 + 1))) else (if 0 ≤ x15 then (if ((zk x5 x15).f1) = x13 then (zo.l2 k x4 x5 x6 x8 x9 x10 x12 x13 (((zk x5 x15).f0) != 1) (wrap64 (x15 + 1))) else (zo.l2 k x4 x5 x6 x8 x9 x10 x12 x13 false (wrap64 (x15 + 1)))) else (none))) else (if x14 = true then (zo.l1 k x4 x5 x6 x8 x9 x10 x12 (wrap64 (x13 + 1))) else (if 0 ≤ x13 then (if x13 < (x4.length : Int) then (if x12.length < 8796093022208 then (zo.l1 k x4 x5 x6 x8 x9 x10 (x12 ++ [zaJ ByteArray.empty x4 x13]) (wrap64 (x13 + 1))) else (none)) else (none)) else (none)))
end
def zo.f (k : Nat) (l0 : List Int) : Option (Bool) := (zbh.f l0).bind fun bt664 => ((zS.f k bt664.1 bt664.2.1 bt664.2.2 6).bind fun bt668 => ((zt.f k bt664.1 bt668.2.1 bt668.2.2 (bt668.1.length : Int) 12).bind fun bt673 => (zo.l0 k bt668.1 bt673.1 (bt668.1.length : Int) 0)))
set_option maxHeartbeats 8000000 in
set_option maxRecDepth 100000 in
theorem zo.calls (k : Nat) (A0 : Option Addr) (c0 : Nat) (l0 : List Int) (r : Bool) (w : World) (hr0 : Kd.C (Kd.int .i64) w A0 l0.length l0) (hc0 : l0.length ≤ c0) (h : zo.f k l0 = some r) :
  Calls Try.prog 12 #[.slice A0 l0.length c0] w fun e w' => e = .returned (.bool r) ∧ Below w.heap.size w w' := by
 have HR0 := za.mk hr0
 have HC0 := za.mk hc0
 clear hr0 hc0
 have HB := za.mk (Below.refl w.heap.size w)
 have H : ((zbh.f l0).bind fun bt664 => ((zS.f k bt664.1 bt664.2.1 bt664.2.2 6).bind fun bt668 => ((zt.f k bt664.1 bt668.2.1 bt668.2.2 (bt668.1.length : Int) 12).bind fun bt673 => (zo.l0 k bt668.1 bt673.1 (bt668.1.length : Int) 0)))) = some r := h
 clear h
 replace H := Option.bind_eq_some_iff.mp H
 obtain ⟨⟨t664, t665, t666⟩, A20, H⟩ := H
 replace H : ((zS.f k t664 t665 t666 6).bind fun bt668 => ((zt.f k t664 bt668.2.1 bt668.2.2 (bt668.1.length : Int) 12).bind fun bt673 => (zo.l0 k bt668.1 bt673.1 (bt668.1.length : Int) 0))) = some r := H
 have A2 := za.mk A20
 clear A20
 replace H := Option.bind_eq_some_iff.mp H
 obtain ⟨⟨t668, t671, t672⟩, A30, H⟩ := H
 replace H : ((zt.f k t664 t671 t672 (t668.length : Int) 12).bind fun bt673 => (zo.l0 k t668 bt673.1 (t668.length : Int) 0)) = some r := H
 have A3 := za.mk A30
 clear A30
 replace H := Option.bind_eq_some_iff.mp H
 obtain ⟨⟨t673, t676, t677⟩, A40, H⟩ := H
 replace H : (zo.l0 k t668 t673 (t668.length : Int) 0) = some r := H
 have A4 := za.mk A40
 clear A40
 have H' := za.mk H
 clear H
 go_enter Try.func12, Try.ntmps12
 go_wp2_with (first | ((with_reducible refine zD (f := 19) rfl ?_); refine zW (some 17) rfl rfl Try.func19 (by kernel_rfl) rfl #[.slice A0 l0.length c0] rfl (by (try simp only [List.map_toArray, List.map_cons, List.map_nil]); first | done | rfl | (simp only [List.length_drop, List.length_take]; rfl)) ?_; (with_reducible refine (zbh.calls _ _ l0 t664 t665 t666 w _ ?side1 ?side2 ?side3 A2.out).mono ?_); (case side1 => repeat (first | (with_reducible first | exact HB.out | apply ze | apply zb | apply zf) | exact HB.out)); (case side2 => exact HR0.out); (case side3 => exact HC0.out); rintro e w5 ⟨g667, rfl, hi, hb, hb2⟩; refine ⟨_, rfl, ?_⟩; have n0_ := za.mk (hb); have n1_ := za.mk (hi); clear HB; have HB := n0_; have HI667 := n1_; clear n0_ n1_; (try clear hb); (try clear hb2); (try clear hk); (try clear hi)) | ((with_reducible refine zD (f := 20) rfl ?_); refine zW (some 19) rfl rfl Try.func20 (by kernel_rfl) rfl #[.pointer (some ⟨g667, 0, none⟩), .int .i64 6] rfl (by (try simp only [List.map_toArray, List.map_cons, List.map_nil]); first | done | rfl | (simp only [List.length_drop, List.length_take]; rfl)) ?_; (with_reducible refine (zS.calls k g667 t664 t665 t666 6 t668 t671 t672 w _ ?side1 ?side2 A3.out).mono ?_); (case side1 => repeat (first | (with_reducible first | exact HI667.out | apply zn.alloc | apply zn.drewN | apply zn.drew | apply zn.zaD | apply zn.zaF) | exact HI667.out)); (case side2 => repeat (first | (with_reducible first | exact HB.out | apply ze | apply zb | apply zf | refine zh ?_ (zn.ge HI667.out)) | exact HB.out)); rintro e w6 ⟨v669, rfl, ho0, hi, hb, hk⟩; refine ⟨_, rfl, ?_⟩; have n0_ := za.mk (Kd.zaP ho0 (zB (by repeat (first | (with_reducible first | exact HB.out | apply ze | apply zb | apply zf | refine zh ?_ (zn.ge HI667.out)) | exact HB.out)))); have n1_ := za.mk (hb); have n2_ := za.mk (hi); clear HB; clear HI667; have HO670 := n0_; have HB := n1_; have HI667 := n2_; clear n0_ n1_ n2_; (try clear hb); (try clear hb2); (try clear hk); (try clear hi); (try clear ho0); obtain ⟨Ao7, co7, eo7⟩ := Kd.zaI HO670.out; subst eo7) | ((with_reducible refine zD (f := 27) rfl ?_); refine zW (some 23) rfl rfl Try.func27 (by kernel_rfl) rfl #[.pointer (some ⟨g667, 0, none⟩), .int .i64 (t668.length : Int), .int .i64 12] rfl (by (try simp only [List.map_toArray, List.map_cons, List.map_nil]); first | done | rfl | (simp only [List.length_drop, List.length_take]; rfl)) ?_; (with_reducible refine (zt.calls k g667 t664 t671 t672 (t668.length : Int) 12 t673 t676 t677 w _ ?side1 ?side2 A4.out).mono ?_); (case side1 => repeat (first | (with_reducible first | exact HI667.out | apply zn.alloc | apply zn.drewN | apply zn.drew | apply zn.zaD | apply zn.zaF) | exact HI667.out)); (case side2 => repeat (first | (with_reducible first | exact HB.out | apply ze | apply zb | apply zf | refine zh ?_ (zn.ge HI667.out)) | exact HB.out)); rintro e w8 ⟨v674, rfl, ho0, hi, hb, hk⟩; refine ⟨_, rfl, ?_⟩; have n0_ := za.mk (Kd.zat (Kd.zcj (zn.apart (show zn w _ g667 t664 t671 t672 from by repeat (first | (with_reducible first | exact HI667.out | apply zn.alloc | apply zn.drewN | apply zn.drew | apply zn.zaD | apply zn.zaF) | exact HI667.out)) (by (with_reducible repeat (first | apply Kd.zG | apply Kd.zC | apply Kd.zJ)); exact HO670.out) (by decide)) hk (fun _ h => h.2)) (fun _ h => h.1)); have n1_ := za.mk (Kd.zaP ho0 (zB (by repeat (first | (with_reducible first | exact HB.out | apply ze | apply zb | apply zf | refine zh ?_ (zn.ge HI667.out)) | exact HB.out)))); have n2_ := za.mk (hb); have n3_ := za.mk (hi); clear HO670; clear HB; clear HI667; have HO670 := n0_; have HO675 := n1_; have HB := n2_; have HI667 := n3_; clear n0_ n1_ n2_ n3_; (try clear hb); (try clear hb2); (try clear hk); (try clear hi); (try clear ho0)))
 go_loopg [6, 7] k (fun kq v6 v7 w' => ∃ (x6_1 : Int) (x7_1 : Int), v6 = .int .i64 x6_1 ∧ v7 = .int .i64 x7_1 ∧ za (zo.l0 kq t668 t673 x6_1 x7_1 = some r) ∧ za (kq ≤ k) ∧ za (Kd.R Kd.string 9 w' w.heap.size (fun _ => True) (.slice Ao7 t668.length co7) t668) ∧ za (Kd.R k63 63 w' w.heap.size (fun _ => True) v674 t673) ∧ za (Below w.heap.size w w'))
 case atStart => exact ⟨((t668.length : Int)), (0), (by first | rfl | (simp; done) | (simp [*]; done)), (by first | rfl | (simp; done) | (simp [*]; done)), H', ⟨Nat.le_refl _⟩, ⟨by (with_reducible repeat (first | apply Kd.zG | apply Kd.zC | apply Kd.zJ)); exact HO670.out⟩, ⟨by (with_reducible repeat (first | apply Kd.zG | apply Kd.zC | apply Kd.zJ)); exact HO675.out⟩, ⟨by repeat (first | (with_reducible first | exact HB.out | apply ze | apply zb | apply zf | refine zh ?_ (zn.ge HI667.out)) | exact HB.out)⟩⟩
 case round =>
  clear H'
  try clear c1
  try clear c2
  try clear p2
  obtain ⟨x6_1, x7_1, rfl, rfl, HA, HK1, HO_4, HO_5, HB⟩ := hrel
  cases gk with
  | zero => exact absurd HA.out (by simp [zo.l0])
  | succ k1 =>
   have H := HA.out
   clear HA
   simp only [zo.l0] at H
   by_cases c9 : x7_1 < (t673.length : Int)
   ·rw [if_pos c9] at H
    have c9b0 : decide (x7_1 < (t673.length : Int)) = true := decide_eq_true c9
    clear c9
    by_cases c10 : 0 ≤ x7_1
    ·rw [if_pos c10] at H
     have c10b0 : decide (0 ≤ x7_1) = true := decide_eq_true c10
     clear c10
     by_cases c11 : ((zk t673 x7_1).f0) = 1
     ·rw [if_pos c11] at H
      have c11b0 : (((zk t673 x7_1).f0) == 1) = true := beq_iff_eq.mpr c11
      have c11b1 : (((zk t673 x7_1).f0) != 1) = false := bne_eq_false_iff_eq.mpr c11
      clear c11
      have H' := za.mk H
      clear H
      obtain ⟨Ao12, co12, eo12⟩ := Kd.zaI HO_5.out
      subst eo12
      have p678 : 0 ≤ (x7_1 : Int) := of_decide_eq_true (by first | (with_reducible assumption) | assumption)
      have q678 : x7_1 < (t673.length : Int) := of_decide_eq_true (by first | (with_reducible assumption) | assumption)
      obtain ⟨ad678, e678, hx678_0, hx678_1, hx678_2⟩ := zbe (Kd.zam HO_5.out).2.2 x7_1 p678 q678
      cases e678
      replace p678 := eq_true p678
      replace q678 := eq_true q678
      go_wp2
      go_roundg k1
      case measure => have := HK1.out; omega
      case rel => exact ⟨(wrap64 (x6_1 + 1)), (wrap64 (x7_1 + 1)), (by first | rfl | (simp; done) | (simp [*]; done)), (by first | rfl | (simp; done) | (simp [*]; done)), H', ⟨by have := HK1.out; omega⟩, ⟨by (with_reducible repeat (first | apply Kd.zG | apply Kd.zC | apply Kd.zJ)); exact HO_4.out⟩, ⟨by (with_reducible repeat (first | apply Kd.zG | apply Kd.zC | apply Kd.zJ)); exact HO_5.out⟩, ⟨by repeat (first | (with_reducible first | exact HB.out | apply ze | apply zb | apply zf) | exact HB.out)⟩⟩
     ·rw [if_neg c11] at H
      have c11b0 : (((zk t673 x7_1).f0) == 1) = false := beq_eq_false_iff_ne.mpr c11
      have c11b1 : (((zk t673 x7_1).f0) != 1) = true := bne_iff_ne.mpr c11
      by_cases c13 : ((zk t673 x7_1).f0) = 3
      ·rw [if_pos c13] at H
       have c13b0 : (((zk t673 x7_1).f0) == 3) = true := beq_iff_eq.mpr c13
       have c13b1 : (((zk t673 x7_1).f0) != 3) = false := bne_eq_false_iff_eq.mpr c13
       clear c13
       have H' := za.mk H
       clear H
       obtain ⟨Ao14, co14, eo14⟩ := Kd.zaI HO_5.out
       subst eo14
       have p678 : 0 ≤ (x7_1 : Int) := of_decide_eq_true (by first | (with_reducible assumption) | assumption)
       have q678 : x7_1 < (t673.length : Int) := of_decide_eq_true (by first | (with_reducible assumption) | assumption)
       obtain ⟨ad678, e678, hx678_0, hx678_1, hx678_2⟩ := zbe (Kd.zam HO_5.out).2.2 x7_1 p678 q678
       cases e678
       replace p678 := eq_true p678
       replace q678 := eq_true q678
       go_wp2
       go_roundg k1
       case measure => have := HK1.out; omega
       case rel => exact ⟨(wrap64 (x6_1 - 1)), (wrap64 (x7_1 + 1)), (by first | rfl | (simp; done) | (simp [*]; done)), (by first | rfl | (simp; done) | (simp [*]; done)), H', ⟨by have := HK1.out; omega⟩, ⟨by (with_reducible repeat (first | apply Kd.zG | apply Kd.zC | apply Kd.zJ)); exact HO_4.out⟩, ⟨by (with_reducible repeat (first | apply Kd.zG | apply Kd.zC | apply Kd.zJ)); exact HO_5.out⟩, ⟨by repeat (first | (with_reducible first | exact HB.out | apply ze | apply zb | apply zf) | exact HB.out)⟩⟩
      ·rw [if_neg c13] at H
       have c13b0 : (((zk t673 x7_1).f0) == 3) = false := beq_eq_false_iff_ne.mpr c13
       have c13b1 : (((zk t673 x7_1).f0) != 3) = true := bne_iff_ne.mpr c13
       have H' := za.mk H
       clear H
       obtain ⟨Ao15, co15, eo15⟩ := Kd.zaI HO_5.out
       subst eo15
       have p678 : 0 ≤ (x7_1 : Int) := of_decide_eq_true (by first | (with_reducible assumption) | assumption)
       have q678 : x7_1 < (t673.length : Int) := of_decide_eq_true (by first | (with_reducible assumption) | assumption)
       obtain ⟨ad678, e678, hx678_0, hx678_1, hx678_2⟩ := zbe (Kd.zam HO_5.out).2.2 x7_1 p678 q678
       cases e678
       replace p678 := eq_true p678
       replace q678 := eq_true q678
       go_wp2
       go_roundg k1
       case measure => have := HK1.out; omega
       case rel => exact ⟨(x6_1), (wrap64 (x7_1 + 1)), (by first | rfl | (simp; done) | (simp [*]; done)), (by first | rfl | (simp; done) | (simp [*]; done)), H', ⟨by have := HK1.out; omega⟩, ⟨by (with_reducible repeat (first | apply Kd.zG | apply Kd.zC | apply Kd.zJ)); exact HO_4.out⟩, ⟨by (with_reducible repeat (first | apply Kd.zG | apply Kd.zC | apply Kd.zJ)); exact HO_5.out⟩, ⟨by repeat (first | (with_reducible first | exact HB.out | apply ze | apply zb | apply zf) | exact HB.out)⟩⟩
    ·rw [if_neg c10] at H
     exact absurd H (by simp)
   ·rw [if_neg c9] at H
    have c9b0 : decide (x7_1 < (t673.length : Int)) = false := decide_eq_false c9
    clear c9
    replace H := Option.bind_eq_some_iff.mp H
    obtain ⟨⟨t679, t680⟩, A160, H⟩ := H
    replace H : ((zaT.f k1 t668 t673).bind fun bt683 => (if bt683.2 = 0 then (if bt683.1 < 0 then (zo.j1 k1 t668 t673 x6_1 t679 t680 bt683.1 true) else (zo.j1 k1 t668 t673 x6_1 t679 t680 bt683.1 (decide (bt683.1 > (t673.length : Int))))) else (zo.j1 k1 t668 t673 x6_1 t679 t680 bt683.1 true))) = some r := H
    have A16 := za.mk A160
    clear A160
    replace H := Option.bind_eq_some_iff.mp H
    obtain ⟨⟨t683, t684⟩, A170, H⟩ := H
    replace H : (if t684 = 0 then (if t683 < 0 then (zo.j1 k1 t668 t673 x6_1 t679 t680 t683 true) else (zo.j1 k1 t668 t673 x6_1 t679 t680 t683 (decide (t683 > (t673.length : Int))))) else (zo.j1 k1 t668 t673 x6_1 t679 t680 t683 true)) = some r := H
    have A17 := za.mk A170
    clear A170
    have HC18 := za.mk H
    clear H
    obtain ⟨Ao19, co19, eo19⟩ := Kd.zaI HO_5.out
    subst eo19
    go_upto_region 15 with (first | ((with_reducible refine zD (f := 40) rfl ?_); refine zW (some 48) rfl rfl Try.func40 (by kernel_rfl) rfl #[.slice Ao7 t668.length co7, .slice Ao19 t673.length co19] rfl (by (try simp only [List.map_toArray, List.map_cons, List.map_nil]); first | done | rfl | (simp only [List.length_drop, List.length_take]; rfl)) ?_; (with_reducible refine (zbu.calls k1 _ _ t668 _ _ t673 t679 t680 _ ?side1 ?side2 ?side3 ?side4 A16.out).mono ?_); (case side1 => repeat (first | exact (Kd.zam HO_4.out).2.2 | (with_reducible refine Kd.zab ?_ _) | (with_reducible refine Kd.zaa ?_ _) | (with_reducible refine Kd.zaj ?_))); (case side2 => exact (Kd.zam HO_4.out).2.1); (case side3 => repeat (first | exact (Kd.zam HO_5.out).2.2 | (with_reducible refine Kd.zab ?_ _) | (with_reducible refine Kd.zaa ?_ _) | (with_reducible refine Kd.zaj ?_))); (case side4 => exact (Kd.zam HO_5.out).2.1); rintro e w20 ⟨v681, rfl, ho0, hb⟩; refine ⟨_, rfl, ?_⟩; have n0_ := za.mk (Kd.zfs (by (with_reducible repeat (first | apply Kd.zG | apply Kd.zC | apply Kd.zJ)); exact HO_4.out) (Kd.zg1 ho0) hb); have n1_ := za.mk (Kd.zH (by (with_reducible repeat (first | apply Kd.zG | apply Kd.zC | apply Kd.zJ)); exact HO_5.out) hb); have n2_ := za.mk (Kd.zaP (Kd.zgG ho0 (Kd.zge (by (with_reducible repeat (first | apply Kd.zG | apply Kd.zC | apply Kd.zJ)); exact HO_4.out))) (zB (by repeat (first | (with_reducible first | exact HB.out | apply ze | apply zb | apply zf) | exact HB.out)))); have n3_ := za.mk (zu (by repeat (first | (with_reducible first | exact HB.out | apply ze | apply zb | apply zf) | exact HB.out)) hb); clear HO_4; clear HO_5; clear HB; have HO_4 := n0_; have HO_5 := n1_; have HO682 := n2_; have HB := n3_; clear n0_ n1_ n2_ n3_; (try clear hb); (try clear hb2); (try clear hk); (try clear hi); (try clear ho0)) | ((with_reducible refine zD (f := 44) rfl ?_); refine zW (some 54) rfl rfl Try.func44 (by kernel_rfl) rfl #[.slice Ao7 t668.length co7, .slice Ao19 t673.length co19] rfl (by (try simp only [List.map_toArray, List.map_cons, List.map_nil]); first | done | rfl | (simp only [List.length_drop, List.length_take]; rfl)) ?_; (with_reducible refine (zaT.calls k1 _ _ t668 _ _ t673 t683 t684 _ ?side1 ?side2 ?side3 ?side4 A17.out).mono ?_); (case side1 => repeat (first | exact (Kd.zam HO_4.out).2.2 | (with_reducible refine Kd.zab ?_ _) | (with_reducible refine Kd.zaa ?_ _) | (with_reducible refine Kd.zaj ?_))); (case side2 => exact (Kd.zam HO_4.out).2.1); (case side3 => repeat (first | exact (Kd.zam HO_5.out).2.2 | (with_reducible refine Kd.zab ?_ _) | (with_reducible refine Kd.zaa ?_ _) | (with_reducible refine Kd.zaj ?_))); (case side4 => exact (Kd.zam HO_5.out).2.1); rintro e w21 ⟨rfl, hb⟩; refine ⟨_, rfl, ?_⟩; have n0_ := za.mk (Kd.zH (by (with_reducible repeat (first | apply Kd.zG | apply Kd.zC | apply Kd.zJ)); exact HO_4.out) hb); have n1_ := za.mk (Kd.zH (by (with_reducible repeat (first | apply Kd.zG | apply Kd.zC | apply Kd.zJ)); exact HO_5.out) hb); have n2_ := za.mk (Kd.zH (by (with_reducible repeat (first | apply Kd.zG | apply Kd.zC | apply Kd.zJ)); exact HO682.out) hb); have n3_ := za.mk (zu (by repeat (first | (with_reducible first | exact HB.out | apply ze | apply zb | apply zf) | exact HB.out)) hb); clear HO_4; clear HO_5; clear HO682; clear HB; have HO_4 := n0_; have HO_5 := n1_; have HO682 := n2_; have HB := n3_; clear n0_ n1_ n2_ n3_; (try clear hb); (try clear hb2); (try clear hk); (try clear hi)))
    (try simp only [Act.put, List.setIfInBounds_toArray, List.set_cons_zero, List.set_cons_succ])
    go_cut [68] (fun v68 wc => ∃ (kq : Nat) (x68_17 : Bool), v68 = .bool x68_17 ∧ za (zo.j1 kq t668 t673 x6_1 t679 t680 t683 x68_17 = some r) ∧ za (kq ≤ k1) ∧ za (Kd.R Kd.string 9 wc w.heap.size (fun k_ => some k_ ≠ (v681 : Value).ownBlock) (.slice Ao7 t668.length co7) t668) ∧ za (Kd.R k63 63 wc w.heap.size (fun _ => True) (.slice Ao19 t673.length co19) t673) ∧ za (Kd.R Kd.string 9 wc w.heap.size (fun k_ => some k_ ≠ ((.slice Ao7 t668.length co7) : Value).ownBlock) v681 t679) ∧ za (Below w.heap.size w wc))
    case first =>
     have H := HC18.out
     clear HC18
     by_cases c22 : t684 = 0
     ·rw [if_pos c22] at H
      have c22b0 : (t684 == 0) = true := beq_iff_eq.mpr c22
      have c22b1 : (t684 != 0) = false := bne_eq_false_iff_eq.mpr c22
      clear c22
      (first | rw [c22b0] | (simp only [zY, zah]; rw [c22b0]) | skip)
      by_cases c23 : t683 < 0
      ·rw [if_pos c23] at H
       have c23b0 : decide (t683 < 0) = true := decide_eq_true c23
       clear c23
       have H' := za.mk H
       clear H
       go_wp2
       go_meet
       case rel => exact ⟨_, (true), (by first | rfl | (simp; done) | (simp [*]; done)), H', ⟨by have := HK1.out; first | omega | exact Nat.le_refl _⟩, ⟨by (with_reducible repeat (first | apply Kd.zG | apply Kd.zC | apply Kd.zJ)); exact Kd.zat HO_4.out (fun _ hk => hk.2)⟩, ⟨by (with_reducible repeat (first | apply Kd.zG | apply Kd.zC | apply Kd.zJ)); exact HO_5.out⟩, ⟨by (with_reducible repeat (first | apply Kd.zG | apply Kd.zC | apply Kd.zJ)); exact Kd.zat HO682.out (fun _ hk => hk.2)⟩, ⟨by repeat (first | (with_reducible first | exact HB.out | apply ze | apply zb | apply zf) | exact HB.out)⟩⟩
      ·rw [if_neg c23] at H
       have c23b0 : decide (t683 < 0) = false := decide_eq_false c23
       clear c23
       have H' := za.mk H
       clear H
       go_wp2
       go_meet
       case rel => exact ⟨_, (decide (t683 > (t673.length : Int))), (by first | rfl | (simp; done) | (simp [*]; done)), H', ⟨by have := HK1.out; first | omega | exact Nat.le_refl _⟩, ⟨by (with_reducible repeat (first | apply Kd.zG | apply Kd.zC | apply Kd.zJ)); exact Kd.zat HO_4.out (fun _ hk => hk.2)⟩, ⟨by (with_reducible repeat (first | apply Kd.zG | apply Kd.zC | apply Kd.zJ)); exact HO_5.out⟩, ⟨by (with_reducible repeat (first | apply Kd.zG | apply Kd.zC | apply Kd.zJ)); exact Kd.zat HO682.out (fun _ hk => hk.2)⟩, ⟨by repeat (first | (with_reducible first | exact HB.out | apply ze | apply zb | apply zf) | exact HB.out)⟩⟩
     ·rw [if_neg c22] at H
      have c22b0 : (t684 == 0) = false := beq_eq_false_iff_ne.mpr c22
      have c22b1 : (t684 != 0) = true := bne_iff_ne.mpr c22
      (first | rw [c22b0] | (simp only [zY, zah]; rw [c22b0]) | skip)
      have H' := za.mk H
      clear H
      go_wp2
      go_meet
      case rel => exact ⟨_, (true), (by first | rfl | (simp; done) | (simp [*]; done)), H', ⟨by have := HK1.out; first | omega | exact Nat.le_refl _⟩, ⟨by (with_reducible repeat (first | apply Kd.zG | apply Kd.zC | apply Kd.zJ)); exact Kd.zat HO_4.out (fun _ hk => hk.2)⟩, ⟨by (with_reducible repeat (first | apply Kd.zG | apply Kd.zC | apply Kd.zJ)); exact HO_5.out⟩, ⟨by (with_reducible repeat (first | apply Kd.zG | apply Kd.zC | apply Kd.zJ)); exact Kd.zat HO682.out (fun _ hk => hk.2)⟩, ⟨by repeat (first | (with_reducible first | exact HB.out | apply ze | apply zb | apply zf) | exact HB.out)⟩⟩
    case rest =>
     clear HC18
     try clear c1
     try clear c2
     try clear p2
     try clear c4
     try clear p6
     try clear q6
     try clear hx6
     try clear c9
     try clear c9b0
     try clear c10
     try clear c10b0
     try clear c11
     try clear c11b0
     try clear c11b1
     try clear c12
     try clear c13
     try clear c13b0
     try clear c13b1
     try clear c19
     try clear c20
     try clear c22
     try clear c22b0
     try clear c22b1
     try clear c23
     try clear c23b0
     try clear hx678_0
     try clear hx678_1
     try clear hx678_2
     try clear p2
     try clear p678
     try clear q678
     obtain ⟨kq, x68_17, rfl, HA, HJ17, HO_4, HO_5, HO_8, HB⟩ := hcut
     cases kq with
     | zero => exact absurd HA.out (by simp [zo.j1])
     | succ kj17 =>
      have H := HA.out
      clear HA
      simp only [zo.j1] at H
      by_cases c24 : x68_17 = true
      ·subst c24
       have H1 : (some false) = some r := by rw [if_pos rfl] at H; exact H
       clear H
       have H := H1
       clear H1
       obtain rfl := Option.some.inj H
       go_wp2
       go_ret
       exact ⟨by first | rfl | (simp [zx, zw] <;> rfl) | (simp [*, zx, zw] <;> rfl), by repeat (first | (with_reducible first | exact HB.out | apply ze | apply zb | apply zf) | exact HB.out)⟩
      ·replace c24 := Bool.eq_false_iff.mpr c24
       subst c24
       have H1 : (if x6_1 > 6 then (if t680 = 6 then (if (t679.length : Int) = 0 then ((zay.f).bind fun t685 => (some t685)) else (some false)) else (some false)) else (zo.l1 kj17 t668 t673 x6_1 t679 t680 t683 ([] : List ByteArray) 0)) = some r := by rw [if_neg (show ¬ (false = true) by decide)] at H; exact H
       clear H
       have H := H1
       clear H1
       by_cases c25 : x6_1 > 6
       ·rw [if_pos c25] at H
        have c25b0 : decide (6 < x6_1) = true := decide_eq_true c25
        clear c25
        by_cases c26 : t680 = 6
        ·rw [if_pos c26] at H
         have c26b0 : (t680 == 6) = true := beq_iff_eq.mpr c26
         have c26b1 : (t680 != 6) = false := bne_eq_false_iff_eq.mpr c26
         clear c26
         by_cases c27 : (t679.length : Int) = 0
         ·rw [if_pos c27] at H
          have c27b0 : ((t679.length : Int) == 0) = true := beq_iff_eq.mpr c27
          have c27b1 : ((t679.length : Int) != 0) = false := bne_eq_false_iff_eq.mpr c27
          clear c27
          replace H := Option.bind_eq_some_iff.mp H
          obtain ⟨t685, A280, H⟩ := H
          replace H : (some t685) = some r := H
          have A28 := za.mk A280
          clear A280
          obtain rfl := Option.some.inj H
          obtain ⟨Ao29, co29, eo29⟩ := Kd.zaI HO_8.out
          subst eo29
          go_wp2_with (first | (go_at_call 18; (with_reducible refine (zay.calls  t685 _ A28.out).mono ?_); rintro e w30 ⟨rfl, hb⟩; have n0_ := za.mk (Kd.zH (by (with_reducible repeat (first | apply Kd.zG | apply Kd.zC | apply Kd.zJ)); exact HO_4.out) hb); have n1_ := za.mk (Kd.zH (by (with_reducible repeat (first | apply Kd.zG | apply Kd.zC | apply Kd.zJ)); exact HO_5.out) hb); have n2_ := za.mk (Kd.zH (by (with_reducible repeat (first | apply Kd.zG | apply Kd.zC | apply Kd.zJ)); exact HO_8.out) hb); have n3_ := za.mk (zu (by repeat (first | (with_reducible first | exact HB.out | apply ze | apply zb | apply zf) | exact HB.out)) hb); clear HO_4; clear HO_5; clear HO_8; clear HB; have HO_4 := n0_; have HO_5 := n1_; have HO_8 := n2_; have HB := n3_; clear n0_ n1_ n2_ n3_; (try clear hb); (try clear hb2); (try clear hk); (try clear hi)))
          go_ret
          exact ⟨by first | rfl | (simp [zx, zw] <;> rfl) | (simp [*, zx, zw] <;> rfl), by repeat (first | (with_reducible first | exact HB.out | apply ze | apply zb | apply zf) | exact HB.out)⟩
         ·rw [if_neg c27] at H
          have c27b0 : ((t679.length : Int) == 0) = false := beq_eq_false_iff_ne.mpr c27
          have c27b1 : ((t679.length : Int) != 0) = true := bne_iff_ne.mpr c27
          have c27b2 : ¬ (t679 = []) := fun h_ => c27 (by rw [h_]; rfl)
          obtain rfl := Option.some.inj H
          obtain ⟨Ao31, co31, eo31⟩ := Kd.zaI HO_8.out
          subst eo31
          go_wp2
          go_ret
          exact ⟨by first | rfl | (simp [zx, zw] <;> rfl) | (simp [*, zx, zw] <;> rfl), by repeat (first | (with_reducible first | exact HB.out | apply ze | apply zb | apply zf) | exact HB.out)⟩
        ·rw [if_neg c26] at H
         have c26b0 : (t680 == 6) = false := beq_eq_false_iff_ne.mpr c26
         have c26b1 : (t680 != 6) = true := bne_iff_ne.mpr c26
         obtain rfl := Option.some.inj H
         go_wp2
         go_ret
         exact ⟨by first | rfl | (simp [zx, zw] <;> rfl) | (simp [*, zx, zw] <;> rfl), by repeat (first | (with_reducible first | exact HB.out | apply ze | apply zb | apply zf) | exact HB.out)⟩
       ·rw [if_neg c25] at H
        have c25b0 : decide (6 < x6_1) = false := decide_eq_false c25
        clear c25
        have H' := za.mk H
        clear H
        go_wp2
        go_loopg [12, 13] kj17 (fun kq v12 v13 w' => ∃ (x12_3 : List ByteArray) (x13_3 : Int), v13 = .int .i64 x13_3 ∧ za (zo.l1 kq t668 t673 x6_1 t679 t680 t683 x12_3 x13_3 = some r) ∧ za (kq ≤ kj17) ∧ za (Kd.R Kd.string 9 w' w.heap.size (fun k_ => some k_ ≠ (v681 : Value).ownBlock ∧ some k_ ≠ (v12 : Value).ownBlock) (.slice Ao7 t668.length co7) t668) ∧ za (Kd.R k63 63 w' w.heap.size (fun _ => True) (.slice Ao19 t673.length co19) t673) ∧ za (Kd.R Kd.string 9 w' w.heap.size (fun k_ => some k_ ≠ ((.slice Ao7 t668.length co7) : Value).ownBlock ∧ some k_ ≠ (v12 : Value).ownBlock) v681 t679) ∧ za (Kd.R Kd.string 9 w' w.heap.size (fun k_ => some k_ ≠ ((.slice Ao7 t668.length co7) : Value).ownBlock ∧ some k_ ≠ (v681 : Value).ownBlock) v12 x12_3) ∧ za (Below w.heap.size w w'))
        case atStart => exact ⟨(([] : List ByteArray)), (0), (by first | rfl | (simp; done) | (simp [*]; done)), H', ⟨Nat.le_refl _⟩, ⟨by (with_reducible repeat (first | apply Kd.zG | apply Kd.zC | apply Kd.zJ)); exact Kd.zat HO_4.out (fun _ hk => ⟨hk, (by simp [Value.ownBlock])⟩)⟩, ⟨by (with_reducible repeat (first | apply Kd.zG | apply Kd.zC | apply Kd.zJ)); exact HO_5.out⟩, ⟨by (with_reducible repeat (first | apply Kd.zG | apply Kd.zC | apply Kd.zJ)); exact Kd.zat HO_8.out (fun _ hk => ⟨hk, (by simp [Value.ownBlock])⟩)⟩, ⟨by first | exact Kd.zbF _ _ _ _ _ | exact Kd.zc5 _ _ _ _ _ | exact Kd.zc9 _ _ _ _ _ | exact Kd.zc7 _ _ _ _ _ | exact Kd.zc4 _ _ _ _ _⟩, ⟨by repeat (first | (with_reducible first | exact HB.out | apply ze | apply zb | apply zf) | exact HB.out)⟩⟩
        case round =>
         clear H'
         try clear c1
         try clear c2
         try clear p2
         try clear c4
         try clear p6
         try clear q6
         try clear hx6
         try clear c9
         try clear c9b0
         try clear c10
         try clear c10b0
         try clear c11
         try clear c11b0
         try clear c11b1
         try clear c12
         try clear c13
         try clear c13b0
         try clear c13b1
         try clear c19
         try clear c20
         try clear c22
         try clear c22b0
         try clear c22b1
         try clear c23
         try clear c23b0
         try clear c24
         try clear c25
         try clear c25b0
         try clear c26
         try clear c26b0
         try clear c26b1
         try clear c27
         try clear c27b0
         try clear c27b1
         try clear c27b2
         try clear hx678_0
         try clear hx678_1
         try clear hx678_2
         try clear p2
         try clear p6
         try clear p678
         try clear q6
         try clear q678
         obtain ⟨x12_3, x13_3, rfl, HA, HK3, HO_4, HO_5, HO_8, HO_12, HB⟩ := hrel
         cases gk with
         | zero => exact absurd HA.out (by simp [zo.l1])
         | succ k3 =>
          have H := HA.out
          clear HA
          simp only [zo.l1] at H
          by_cases c32 : x13_3 < (t668.length : Int)
          ·rw [if_pos c32] at H
           have c32b0 : decide (x13_3 < (t668.length : Int)) = true := decide_eq_true c32
           clear c32
           have H' := za.mk H
           clear H
           go_wp2
           go_loopg [14, 15] k3 (fun kq v14 v15 w' => ∃ (x14_4 : Bool) (x15_4 : Int), v14 = .bool x14_4 ∧ v15 = .int .i64 x15_4 ∧ za (zo.l2 kq t668 t673 x6_1 t679 t680 t683 x12_3 x13_3 x14_4 x15_4 = some r) ∧ za (kq ≤ k3) ∧ za (Kd.R Kd.string 9 w' w.heap.size (fun k_ => some k_ ≠ (v681 : Value).ownBlock ∧ some k_ ≠ (u12 : Value).ownBlock) (.slice Ao7 t668.length co7) t668) ∧ za (Kd.R k63 63 w' w.heap.size (fun _ => True) (.slice Ao19 t673.length co19) t673) ∧ za (Kd.R Kd.string 9 w' w.heap.size (fun k_ => some k_ ≠ ((.slice Ao7 t668.length co7) : Value).ownBlock ∧ some k_ ≠ (u12 : Value).ownBlock) v681 t679) ∧ za (Kd.R Kd.string 9 w' w.heap.size (fun k_ => some k_ ≠ ((.slice Ao7 t668.length co7) : Value).ownBlock ∧ some k_ ≠ (v681 : Value).ownBlock) u12 x12_3) ∧ za (Below w.heap.size w w'))
           case atStart => exact ⟨(false), (0), (by first | rfl | (simp; done) | (simp [*]; done)), (by first | rfl | (simp; done) | (simp [*]; done)), H', ⟨Nat.le_refl _⟩, ⟨by (with_reducible repeat (first | apply Kd.zG | apply Kd.zC | apply Kd.zJ)); exact HO_4.out⟩, ⟨by (with_reducible repeat (first | apply Kd.zG | apply Kd.zC | apply Kd.zJ)); exact HO_5.out⟩, ⟨by (with_reducible repeat (first | apply Kd.zG | apply Kd.zC | apply Kd.zJ)); exact HO_8.out⟩, ⟨by (with_reducible repeat (first | apply Kd.zG | apply Kd.zC | apply Kd.zJ)); exact HO_12.out⟩, ⟨by repeat (first | (with_reducible first | exact HB.out | apply ze | apply zb | apply zf) | exact HB.out)⟩⟩
           case round =>
            clear H'
            try clear c1
            try clear c2
            try clear p2
            try clear c3
            try clear c4
            try clear p6
            try clear q6
            try clear hx6
            try clear c9
            try clear c9b0
            try clear c10
            try clear c10b0
            try clear c11
            try clear c11b0
            try clear c11b1
            try clear c12
            try clear c13
            try clear c13b0
            try clear c13b1
            try clear c19
            try clear c20
            try clear c22
            try clear c22b0
            try clear c22b1
            try clear c23
            try clear c23b0
            try clear c24
            try clear c25
            try clear c25b0
            try clear c26
            try clear c26b0
            try clear c26b1
            try clear c27
            try clear c27b0
            try clear c27b1
            try clear c27b2
            try clear c32
            try clear c32b0
            try clear hx678_0
            try clear hx678_1
            try clear hx678_2
            try clear p2
            try clear p6
            try clear p678
            try clear q6
            try clear q678
            obtain ⟨x14_4, x15_4, rfl, rfl, HA, HK4, HO_4, HO_5, HO_8, HO_12, HB⟩ := hrel
            cases gk with
            | zero => exact absurd HA.out (by simp [zo.l2])
            | succ k4 =>
             have H := HA.out
             clear HA
             simp only [zo.l2] at H
             by_cases c33 : x15_4 < (t673.length : Int)
             ·rw [if_pos c33] at H
              have c33b0 : decide (x15_4 < (t673.length : Int)) = true := decide_eq_true c33
              clear c33
              by_cases c34 : x14_4 = true
              ·subst c34
               have H1 : (zo.l2 k4 t668 t673 x6_1 t679 t680 t683 x12_3 x13_3 true (wrap64 (x15_4 + 1))) = some r := by rw [if_pos rfl] at H; exact H
               clear H
               have H := H1
               clear H1
               have H' := za.mk H
               clear H
               go_wp2
               go_roundg k4
               case measure => have := HK1.out; have := HJ17.out; have := HK3.out; have := HK4.out; omega
               case rel => exact ⟨(true), (wrap64 (x15_4 + 1)), (by first | rfl | (simp; done) | (simp [*]; done)), (by first | rfl | (simp; done) | (simp [*]; done)), H', ⟨by have := HK1.out; have := HJ17.out; have := HK3.out; have := HK4.out; omega⟩, ⟨by (with_reducible repeat (first | apply Kd.zG | apply Kd.zC | apply Kd.zJ)); exact HO_4.out⟩, ⟨by (with_reducible repeat (first | apply Kd.zG | apply Kd.zC | apply Kd.zJ)); exact HO_5.out⟩, ⟨by (with_reducible repeat (first | apply Kd.zG | apply Kd.zC | apply Kd.zJ)); exact HO_8.out⟩, ⟨by (with_reducible repeat (first | apply Kd.zG | apply Kd.zC | apply Kd.zJ)); exact HO_12.out⟩, ⟨by repeat (first | (with_reducible first | exact HB.out | apply ze | apply zb | apply zf) | exact HB.out)⟩⟩
              ·replace c34 := Bool.eq_false_iff.mpr c34
               subst c34
               have H1 : (if 0 ≤ x15_4 then (if ((zk t673 x15_4).f1) = x13_3 then (zo.l2 k4 t668 t673 x6_1 t679 t680 t683 x12_3 x13_3 (((zk t673 x15_4).f0) != 1) (wrap64 (x15_4 + 1))) else (zo.l2 k4 t668 t673 x6_1 t679 t680 t683 x12_3 x13_3 false (wrap64 (x15_4 + 1)))) else (none)) = some r := by rw [if_neg (show ¬ (false = true) by decide)] at H; exact H
               clear H
               have H := H1
               clear H1
               by_cases c35 : 0 ≤ x15_4
               ·rw [if_pos c35] at H
                have c35b0 : decide (0 ≤ x15_4) = true := decide_eq_true c35
                clear c35
                by_cases c36 : ((zk t673 x15_4).f1) = x13_3
                ·rw [if_pos c36] at H
                 have c36b0 : (((zk t673 x15_4).f1) == x13_3) = true := beq_iff_eq.mpr c36
                 have c36b1 : (((zk t673 x15_4).f1) != x13_3) = false := bne_eq_false_iff_eq.mpr c36
                 clear c36
                 have H' := za.mk H
                 clear H
                 have p688 : 0 ≤ (x15_4 : Int) := of_decide_eq_true (by first | (with_reducible assumption) | assumption)
                 have q688 : x15_4 < (t673.length : Int) := of_decide_eq_true (by first | (with_reducible assumption) | assumption)
                 obtain ⟨ad688, e688, hx688_0, hx688_1, hx688_2⟩ := zbe (Kd.zam HO_5.out).2.2 x15_4 p688 q688
                 cases e688
                 replace p688 := eq_true p688
                 replace q688 := eq_true q688
                 have p689 : 0 ≤ (x15_4 : Int) := of_decide_eq_true (by first | (with_reducible assumption) | assumption)
                 have q689 : x15_4 < (t673.length : Int) := of_decide_eq_true (by first | (with_reducible assumption) | assumption)
                 obtain ⟨ad689, e689, hx689_0, hx689_1, hx689_2⟩ := zbe (Kd.zam HO_5.out).2.2 x15_4 p689 q689
                 obtain rfl : ad688 = ad689 := (by injection e689)
                 replace p689 := eq_true p689
                 replace q689 := eq_true q689
                 go_wp2
                 go_roundg k4
                 case measure => have := HK1.out; have := HJ17.out; have := HK3.out; have := HK4.out; omega
                 case rel => exact ⟨((((zk t673 x15_4).f0) != 1)), (wrap64 (x15_4 + 1)), (by first | rfl | (simp; done) | (simp [*]; done)), (by first | rfl | (simp; done) | (simp [*]; done)), H', ⟨by have := HK1.out; have := HJ17.out; have := HK3.out; have := HK4.out; omega⟩, ⟨by (with_reducible repeat (first | apply Kd.zG | apply Kd.zC | apply Kd.zJ)); exact HO_4.out⟩, ⟨by (with_reducible repeat (first | apply Kd.zG | apply Kd.zC | apply Kd.zJ)); exact HO_5.out⟩, ⟨by (with_reducible repeat (first | apply Kd.zG | apply Kd.zC | apply Kd.zJ)); exact HO_8.out⟩, ⟨by (with_reducible repeat (first | apply Kd.zG | apply Kd.zC | apply Kd.zJ)); exact HO_12.out⟩, ⟨by repeat (first | (with_reducible first | exact HB.out | apply ze | apply zb | apply zf) | exact HB.out)⟩⟩
                ·rw [if_neg c36] at H
                 have c36b0 : (((zk t673 x15_4).f1) == x13_3) = false := beq_eq_false_iff_ne.mpr c36
                 have c36b1 : (((zk t673 x15_4).f1) != x13_3) = true := bne_iff_ne.mpr c36
                 have H' := za.mk H
                 clear H
                 have p688 : 0 ≤ (x15_4 : Int) := of_decide_eq_true (by first | (with_reducible assumption) | assumption)
                 have q688 : x15_4 < (t673.length : Int) := of_decide_eq_true (by first | (with_reducible assumption) | assumption)
                 obtain ⟨ad688, e688, hx688_0, hx688_1, hx688_2⟩ := zbe (Kd.zam HO_5.out).2.2 x15_4 p688 q688
                 cases e688
                 replace p688 := eq_true p688
                 replace q688 := eq_true q688
                 go_wp2
                 go_roundg k4
                 case measure => have := HK1.out; have := HJ17.out; have := HK3.out; have := HK4.out; omega
                 case rel => exact ⟨(false), (wrap64 (x15_4 + 1)), (by first | rfl | (simp; done) | (simp [*]; done)), (by first | rfl | (simp; done) | (simp [*]; done)), H', ⟨by have := HK1.out; have := HJ17.out; have := HK3.out; have := HK4.out; omega⟩, ⟨by (with_reducible repeat (first | apply Kd.zG | apply Kd.zC | apply Kd.zJ)); exact HO_4.out⟩, ⟨by (with_reducible repeat (first | apply Kd.zG | apply Kd.zC | apply Kd.zJ)); exact HO_5.out⟩, ⟨by (with_reducible repeat (first | apply Kd.zG | apply Kd.zC | apply Kd.zJ)); exact HO_8.out⟩, ⟨by (with_reducible repeat (first | apply Kd.zG | apply Kd.zC | apply Kd.zJ)); exact HO_12.out⟩, ⟨by repeat (first | (with_reducible first | exact HB.out | apply ze | apply zb | apply zf) | exact HB.out)⟩⟩
               ·rw [if_neg c35] at H
                exact absurd H (by simp)
             ·rw [if_neg c33] at H
              have c33b0 : decide (x15_4 < (t673.length : Int)) = false := decide_eq_false c33
              clear c33
              by_cases c37 : x14_4 = true
              ·subst c37
               have H1 : (zo.l1 k4 t668 t673 x6_1 t679 t680 t683 x12_3 (wrap64 (x13_3 + 1))) = some r := by rw [if_pos rfl] at H; exact H
               clear H
               have H := H1
               clear H1
               have H' := za.mk H
               clear H
               go_wp2
               go_roundg k4
               case measure => have := HK1.out; have := HJ17.out; have := HK3.out; have := HK4.out; omega
               case rel => exact ⟨(x12_3), (wrap64 (x13_3 + 1)), (by first | rfl | (simp; done) | (simp [*]; done)), H', ⟨by have := HK1.out; have := HJ17.out; have := HK3.out; have := HK4.out; omega⟩, ⟨by (with_reducible repeat (first | apply Kd.zG | apply Kd.zC | apply Kd.zJ)); exact HO_4.out⟩, ⟨by (with_reducible repeat (first | apply Kd.zG | apply Kd.zC | apply Kd.zJ)); exact HO_5.out⟩, ⟨by (with_reducible repeat (first | apply Kd.zG | apply Kd.zC | apply Kd.zJ)); exact HO_8.out⟩, ⟨by (with_reducible repeat (first | apply Kd.zG | apply Kd.zC | apply Kd.zJ)); exact HO_12.out⟩, ⟨by repeat (first | (with_reducible first | exact HB.out | apply ze | apply zb | apply zf) | exact HB.out)⟩⟩
              ·replace c37 := Bool.eq_false_iff.mpr c37
               subst c37
               have H1 : (if 0 ≤ x13_3 then (if x13_3 < (t668.length : Int) then (if x12_3.length < 8796093022208 then (zo.l1 k4 t668 t673 x6_1 t679 t680 t683 (x12_3 ++ [zaJ ByteArray.empty t668 x13_3]) (wrap64 (x13_3 + 1))) else (none)) else (none)) else (none)) = some r := by rw [if_neg (show ¬ (false = true) by decide)] at H; exact H
               clear H
               have H := H1
               clear H1
               by_cases c38 : 0 ≤ x13_3
               ·rw [if_pos c38] at H
                have c38b0 : decide (0 ≤ x13_3) = true := decide_eq_true c38
                clear c38
                by_cases c39 : x13_3 < (t668.length : Int)
                ·rw [if_pos c39] at H
                 have c39b0 : decide (x13_3 < (t668.length : Int)) = true := decide_eq_true c39
                 clear c39
                 by_cases c40 : x12_3.length < 8796093022208
                 ·rw [if_pos c40] at H
                  have LMc40 := za.mk c40
                  clear c40
                  obtain ⟨y691, hy691⟩ : ∃ y_ : List ByteArray, y_ = (x12_3 ++ [zaJ ByteArray.empty t668 x13_3]) := ⟨_, rfl⟩
                  replace H : (zo.l1 k4 t668 t673 x6_1 t679 t680 t683 y691 (wrap64 (x13_3 + 1))) = some r := by first | (rw [hy691]; with_reducible exact H) | (have H2_ := (Option.bind_some _ _).symm.trans H; rw [hy691]; with_reducible exact H2_) | (have H2_ := (Option.bind_some _ _).symm.trans H; with_reducible exact H2_) | with_reducible exact H | (rw [hy691]; exact H) | exact H
                  have Ny691 := za.mk hy691
                  clear hy691
                  have H' := za.mk H
                  clear H
                  have p690 : 0 ≤ (x13_3 : Int) := of_decide_eq_true (by first | (with_reducible assumption) | assumption)
                  have q690 : x13_3 < (t668.length : Int) := of_decide_eq_true (by first | (with_reducible assumption) | assumption)
                  obtain ⟨ad690, e690, hx690_0⟩ := Kd.zbf (Kd.zam HO_4.out).2.2 x13_3 p690 q690
                  cases e690
                  replace p690 := eq_true p690
                  replace q690 := eq_true q690
                  go_wp2_with (first | ((with_reducible refine zbd (b := .append) (xs := #[.tmp 113, .tmp 118]) rfl ?_); (try (refine zc2 (by rfl) ?_; dsimp only)); at_builtin; refine Kd.zbX Kd.string (w0 := w) w.heap.size rfl (.tmp 113) (.tmp 118) 22 9 (.string ⟨#[]⟩) 16 rfl Try.underlying22 zdp rfl (by decide) (by omega) u12 x12_3 (zaJ ByteArray.empty t668 x13_3) [.string (zaJ ByteArray.empty t668 x13_3)] (fun k_ => some k_ ≠ (.slice (some ad690) t668.length co7 : Value).ownBlock ∧ some k_ ≠ (v681 : Value).ownBlock) (fun _ => False) rfl rfl ?aP (fun _ hk => hk.elim) ?aF ?aO ?aB ?aS ?aL ?_; (case aP => exact rfl); (case aB => exact (by repeat (first | (with_reducible first | exact HB.out | apply ze | apply zb | apply zf) | exact HB.out))); (case aF => exact (fun k_ hk => ⟨Kd.fresh' (Kd.zge (by (with_reducible repeat (first | apply Kd.zG | apply Kd.zC | apply Kd.zJ)); exact HO_4.out)) k_ hk, Kd.fresh' (Kd.zge (by (with_reducible repeat (first | apply Kd.zG | apply Kd.zC | apply Kd.zJ)); exact HO_8.out)) k_ hk⟩)); (case aO => exact (by (with_reducible repeat (first | apply Kd.zG | apply Kd.zC | apply Kd.zJ)); exact HO_12.out)); (case aS => exact (zB (by repeat (first | (with_reducible first | exact HB.out | apply ze | apply zb | apply zf) | exact HB.out)))); (case aL => have := LMc40.out; omega); intro v692 w41 ho hb hg hat; rw [← Ny691.out] at ho; have n0_ := za.mk (Kd.zf3 (ok := (fun k_ => some k_ ≠ (v681 : Value).ownBlock)) (by (with_reducible repeat (first | apply Kd.zG | apply Kd.zC | apply Kd.zJ)); exact HO_4.out) hg hat); have n1_ := za.mk (Kd.zhG (by (with_reducible repeat (first | apply Kd.zG | apply Kd.zC | apply Kd.zJ)); exact HO_5.out) (Kd.zhU (by (with_reducible repeat (first | apply Kd.zG | apply Kd.zC | apply Kd.zJ)); exact HO_12.out)) (by decide) hg); have n2_ := za.mk (Kd.zf3 (ok := (fun k_ => some k_ ≠ (.slice (some ad690) t668.length co7 : Value).ownBlock)) (by (with_reducible repeat (first | apply Kd.zG | apply Kd.zC | apply Kd.zJ)); exact HO_8.out) hg hat); have n3_ := za.mk (hb); have n4_ := za.mk (ho); clear HO_4; clear HO_5; clear HO_8; clear HB; clear HO_12; have HO_4 := n0_; have HO_5 := n1_; have HO_8 := n2_; have HB := n3_; have HO693 := n4_; clear n0_ n1_ n2_ n3_ n4_; clear ho hb hg hat))
                  go_roundg k4
                  case measure => have := HK1.out; have := HJ17.out; have := HK3.out; have := HK4.out; omega
                  case rel => exact ⟨(y691), (wrap64 (x13_3 + 1)), (by first | rfl | (simp; done) | (simp [*]; done)), H', ⟨by have := HK1.out; have := HJ17.out; have := HK3.out; have := HK4.out; omega⟩, ⟨by (with_reducible repeat (first | apply Kd.zG | apply Kd.zC | apply Kd.zJ)); exact HO_4.out⟩, ⟨by (with_reducible repeat (first | apply Kd.zG | apply Kd.zC | apply Kd.zJ)); exact HO_5.out⟩, ⟨by (with_reducible repeat (first | apply Kd.zG | apply Kd.zC | apply Kd.zJ)); exact HO_8.out⟩, ⟨by (with_reducible repeat (first | apply Kd.zG | apply Kd.zC | apply Kd.zJ)); exact HO693.out⟩, ⟨by repeat (first | (with_reducible first | exact HB.out | apply ze | apply zb | apply zf) | exact HB.out)⟩⟩
                 ·rw [if_neg c40] at H
                  exact absurd H (by simp)
                ·rw [if_neg c39] at H
                 exact absurd H (by simp)
               ·rw [if_neg c38] at H
                exact absurd H (by simp)
          ·rw [if_neg c32] at H
           have c32b0 : decide (x13_3 < (t668.length : Int)) = false := decide_eq_false c32
           clear c32
           by_cases c42 : t680 = 0
           ·rw [if_pos c42] at H
            have c42b0 : (t680 == 0) = true := beq_iff_eq.mpr c42
            have c42b1 : (t680 != 0) = false := bne_eq_false_iff_eq.mpr c42
            clear c42
            by_cases c43 : (t679.length : Int) = x6_1
            ·rw [if_pos c43] at H
             have c43b0 : ((t679.length : Int) == x6_1) = true := beq_iff_eq.mpr c43
             have c43b1 : ((t679.length : Int) != x6_1) = false := bne_eq_false_iff_eq.mpr c43
             clear c43
             replace H := Option.bind_eq_some_iff.mp H
             obtain ⟨t686, A440, H⟩ := H
             replace H : (if t686 = true then (if (wrap64 ((x12_3.length : Int) + t683)) = x6_1 then ((zay.f).bind fun t687 => (some t687)) else (some false)) else (some false)) = some r := H
             have A44 := za.mk A440
             clear A440
             by_cases c45 : t686 = true
             ·subst c45
              have H1 : (if (wrap64 ((x12_3.length : Int) + t683)) = x6_1 then ((zay.f).bind fun t687 => (some t687)) else (some false)) = some r := by rw [if_pos rfl] at H; exact H
              clear H
              have H := H1
              clear H1
              by_cases c46 : (wrap64 ((x12_3.length : Int) + t683)) = x6_1
              ·rw [if_pos c46] at H
               have c46b0 : ((wrap64 ((x12_3.length : Int) + t683)) == x6_1) = true := beq_iff_eq.mpr c46
               have c46b1 : ((wrap64 ((x12_3.length : Int) + t683)) != x6_1) = false := bne_eq_false_iff_eq.mpr c46
               clear c46
               replace H := Option.bind_eq_some_iff.mp H
               obtain ⟨t687, A470, H⟩ := H
               replace H : (some t687) = some r := H
               have A47 := za.mk A470
               clear A470
               obtain rfl := Option.some.inj H
               obtain ⟨Ao48, co48, eo48⟩ := Kd.zaI HO_8.out
               subst eo48
               obtain ⟨Ao49, co49, eo49⟩ := Kd.zaI HO_12.out
               subst eo49
               go_wp2_with (first | (go_at_call 51; (with_reducible refine (zaY.calls k3 _ _ x12_3 _ _ t679 true _ ?side1 ?side2 ?side3 ?side4 A44.out).mono ?_); (case side1 => repeat (first | exact (Kd.zam HO_12.out).2.2 | (with_reducible refine Kd.zab ?_ _) | (with_reducible refine Kd.zaa ?_ _) | (with_reducible refine Kd.zaj ?_))); (case side2 => exact (Kd.zam HO_12.out).2.1); (case side3 => repeat (first | exact (Kd.zam HO_8.out).2.2 | (with_reducible refine Kd.zab ?_ _) | (with_reducible refine Kd.zaa ?_ _) | (with_reducible refine Kd.zaj ?_))); (case side4 => exact (Kd.zam HO_8.out).2.1); rintro e w50 ⟨rfl, hb⟩; have n0_ := za.mk (Kd.zH (by (with_reducible repeat (first | apply Kd.zG | apply Kd.zC | apply Kd.zJ)); exact HO_4.out) hb); have n1_ := za.mk (Kd.zH (by (with_reducible repeat (first | apply Kd.zG | apply Kd.zC | apply Kd.zJ)); exact HO_5.out) hb); have n2_ := za.mk (Kd.zH (by (with_reducible repeat (first | apply Kd.zG | apply Kd.zC | apply Kd.zJ)); exact HO_8.out) hb); have n3_ := za.mk (Kd.zH (by (with_reducible repeat (first | apply Kd.zG | apply Kd.zC | apply Kd.zJ)); exact HO_12.out) hb); have n4_ := za.mk (zu (by repeat (first | (with_reducible first | exact HB.out | apply ze | apply zb | apply zf) | exact HB.out)) hb); clear HO_4; clear HO_5; clear HO_8; clear HO_12; clear HB; have HO_4 := n0_; have HO_5 := n1_; have HO_8 := n2_; have HO_12 := n3_; have HB := n4_; clear n0_ n1_ n2_ n3_ n4_; (try clear hb); (try clear hb2); (try clear hk); (try clear hi)) | (go_at_call 18; (with_reducible refine (zay.calls  t687 _ A47.out).mono ?_); rintro e w51 ⟨rfl, hb⟩; have n0_ := za.mk (Kd.zH (by (with_reducible repeat (first | apply Kd.zG | apply Kd.zC | apply Kd.zJ)); exact HO_4.out) hb); have n1_ := za.mk (Kd.zH (by (with_reducible repeat (first | apply Kd.zG | apply Kd.zC | apply Kd.zJ)); exact HO_5.out) hb); have n2_ := za.mk (Kd.zH (by (with_reducible repeat (first | apply Kd.zG | apply Kd.zC | apply Kd.zJ)); exact HO_8.out) hb); have n3_ := za.mk (Kd.zH (by (with_reducible repeat (first | apply Kd.zG | apply Kd.zC | apply Kd.zJ)); exact HO_12.out) hb); have n4_ := za.mk (zu (by repeat (first | (with_reducible first | exact HB.out | apply ze | apply zb | apply zf) | exact HB.out)) hb); clear HO_4; clear HO_5; clear HO_8; clear HO_12; clear HB; have HO_4 := n0_; have HO_5 := n1_; have HO_8 := n2_; have HO_12 := n3_; have HB := n4_; clear n0_ n1_ n2_ n3_ n4_; (try clear hb); (try clear hb2); (try clear hk); (try clear hi)))
               go_ret
               exact ⟨by first | rfl | (simp [zx, zw] <;> rfl) | (simp [*, zx, zw] <;> rfl), by repeat (first | (with_reducible first | exact HB.out | apply ze | apply zb | apply zf) | exact HB.out)⟩
              ·rw [if_neg c46] at H
               have c46b0 : ((wrap64 ((x12_3.length : Int) + t683)) == x6_1) = false := beq_eq_false_iff_ne.mpr c46
               have c46b1 : ((wrap64 ((x12_3.length : Int) + t683)) != x6_1) = true := bne_iff_ne.mpr c46
               obtain rfl := Option.some.inj H
               obtain ⟨Ao52, co52, eo52⟩ := Kd.zaI HO_8.out
               subst eo52
               obtain ⟨Ao53, co53, eo53⟩ := Kd.zaI HO_12.out
               subst eo53
               go_wp2_with (first | (go_at_call 51; (with_reducible refine (zaY.calls k3 _ _ x12_3 _ _ t679 true _ ?side1 ?side2 ?side3 ?side4 A44.out).mono ?_); (case side1 => repeat (first | exact (Kd.zam HO_12.out).2.2 | (with_reducible refine Kd.zab ?_ _) | (with_reducible refine Kd.zaa ?_ _) | (with_reducible refine Kd.zaj ?_))); (case side2 => exact (Kd.zam HO_12.out).2.1); (case side3 => repeat (first | exact (Kd.zam HO_8.out).2.2 | (with_reducible refine Kd.zab ?_ _) | (with_reducible refine Kd.zaa ?_ _) | (with_reducible refine Kd.zaj ?_))); (case side4 => exact (Kd.zam HO_8.out).2.1); rintro e w54 ⟨rfl, hb⟩; have n0_ := za.mk (Kd.zH (by (with_reducible repeat (first | apply Kd.zG | apply Kd.zC | apply Kd.zJ)); exact HO_4.out) hb); have n1_ := za.mk (Kd.zH (by (with_reducible repeat (first | apply Kd.zG | apply Kd.zC | apply Kd.zJ)); exact HO_5.out) hb); have n2_ := za.mk (Kd.zH (by (with_reducible repeat (first | apply Kd.zG | apply Kd.zC | apply Kd.zJ)); exact HO_8.out) hb); have n3_ := za.mk (Kd.zH (by (with_reducible repeat (first | apply Kd.zG | apply Kd.zC | apply Kd.zJ)); exact HO_12.out) hb); have n4_ := za.mk (zu (by repeat (first | (with_reducible first | exact HB.out | apply ze | apply zb | apply zf) | exact HB.out)) hb); clear HO_4; clear HO_5; clear HO_8; clear HO_12; clear HB; have HO_4 := n0_; have HO_5 := n1_; have HO_8 := n2_; have HO_12 := n3_; have HB := n4_; clear n0_ n1_ n2_ n3_ n4_; (try clear hb); (try clear hb2); (try clear hk); (try clear hi)))
               go_ret
               exact ⟨by first | rfl | (simp [zx, zw] <;> rfl) | (simp [*, zx, zw] <;> rfl), by repeat (first | (with_reducible first | exact HB.out | apply ze | apply zb | apply zf) | exact HB.out)⟩
             ·replace c45 := Bool.eq_false_iff.mpr c45
              subst c45
              have H1 : (some false) = some r := by rw [if_neg (show ¬ (false = true) by decide)] at H; exact H
              clear H
              have H := H1
              clear H1
              obtain rfl := Option.some.inj H
              obtain ⟨Ao55, co55, eo55⟩ := Kd.zaI HO_8.out
              subst eo55
              obtain ⟨Ao56, co56, eo56⟩ := Kd.zaI HO_12.out
              subst eo56
              go_wp2_with (first | (go_at_call 51; (with_reducible refine (zaY.calls k3 _ _ x12_3 _ _ t679 false _ ?side1 ?side2 ?side3 ?side4 A44.out).mono ?_); (case side1 => repeat (first | exact (Kd.zam HO_12.out).2.2 | (with_reducible refine Kd.zab ?_ _) | (with_reducible refine Kd.zaa ?_ _) | (with_reducible refine Kd.zaj ?_))); (case side2 => exact (Kd.zam HO_12.out).2.1); (case side3 => repeat (first | exact (Kd.zam HO_8.out).2.2 | (with_reducible refine Kd.zab ?_ _) | (with_reducible refine Kd.zaa ?_ _) | (with_reducible refine Kd.zaj ?_))); (case side4 => exact (Kd.zam HO_8.out).2.1); rintro e w57 ⟨rfl, hb⟩; have n0_ := za.mk (Kd.zH (by (with_reducible repeat (first | apply Kd.zG | apply Kd.zC | apply Kd.zJ)); exact HO_4.out) hb); have n1_ := za.mk (Kd.zH (by (with_reducible repeat (first | apply Kd.zG | apply Kd.zC | apply Kd.zJ)); exact HO_5.out) hb); have n2_ := za.mk (Kd.zH (by (with_reducible repeat (first | apply Kd.zG | apply Kd.zC | apply Kd.zJ)); exact HO_8.out) hb); have n3_ := za.mk (Kd.zH (by (with_reducible repeat (first | apply Kd.zG | apply Kd.zC | apply Kd.zJ)); exact HO_12.out) hb); have n4_ := za.mk (zu (by repeat (first | (with_reducible first | exact HB.out | apply ze | apply zb | apply zf) | exact HB.out)) hb); clear HO_4; clear HO_5; clear HO_8; clear HO_12; clear HB; have HO_4 := n0_; have HO_5 := n1_; have HO_8 := n2_; have HO_12 := n3_; have HB := n4_; clear n0_ n1_ n2_ n3_ n4_; (try clear hb); (try clear hb2); (try clear hk); (try clear hi)))
              go_ret
              exact ⟨by first | rfl | (simp [zx, zw] <;> rfl) | (simp [*, zx, zw] <;> rfl), by repeat (first | (with_reducible first | exact HB.out | apply ze | apply zb | apply zf) | exact HB.out)⟩
            ·rw [if_neg c43] at H
             have c43b0 : ((t679.length : Int) == x6_1) = false := beq_eq_false_iff_ne.mpr c43
             have c43b1 : ((t679.length : Int) != x6_1) = true := bne_iff_ne.mpr c43
             obtain rfl := Option.some.inj H
             obtain ⟨Ao58, co58, eo58⟩ := Kd.zaI HO_8.out
             subst eo58
             go_wp2
             go_ret
             exact ⟨by first | rfl | (simp [zx, zw] <;> rfl) | (simp [*, zx, zw] <;> rfl), by repeat (first | (with_reducible first | exact HB.out | apply ze | apply zb | apply zf) | exact HB.out)⟩
           ·rw [if_neg c42] at H
            have c42b0 : (t680 == 0) = false := beq_eq_false_iff_ne.mpr c42
            have c42b1 : (t680 != 0) = true := bne_iff_ne.mpr c42
            obtain rfl := Option.some.inj H
            go_wp2
            go_ret
            exact ⟨by first | rfl | (simp [zx, zw] <;> rfl) | (simp [*, zx, zw] <;> rfl), by repeat (first | (with_reducible first | exact HB.out | apply ze | apply zb | apply zf) | exact HB.out)⟩
def zo.Pure : Prop := ∀ (l0 : List Int), l0.length ≤ maxLen → l0.length * 8 ≤ 140737488351232 → (∀ x ∈ l0, (Lit.int .i64 x).wf = true) → ∃ k, zo.f k l0 = some true
theorem zo.walk (P : zo.Pure) (a0 : Option Addr) (len0 cap0 : Nat) (z0 : List Int) (w : World) (w0 : (a0 = none ∧ len0 = 0 ∧ cap0 = 0 ∧ z0 = []) ∨ ∃ x, a0 = some x ∧ len0 ≤ cap0 ∧ cap0 ≤ maxLen ∧ z0.length = cap0 ∧ (∀ i, i < z0.length → w.cell? (x.add i) = some (.int .i64 (z0.getD i 0))) ∧ ∀ n ∈ z0, (Lit.int .i64 n).wf = true) (y0 : len0 * 8 ≤ 140737488351232) :
  Calls Try.prog 12 #[.slice a0 len0 cap0] w fun e w' => e = .returned (.bool true) ∧ Below w.heap.size w w' := by
 obtain ⟨l0, rfl, hr0, hm0, hw0, hc0⟩ := zaR.zib w0
 obtain ⟨k, h⟩ := P l0 hm0 y0 hw0
 refine (zo.calls k _ _ l0 true w (Kd.zdJ (d := (0 : Int)) (h1 := fun _ => rfl) hr0) hc0 h).mono ?_
 rintro e w' ⟨rfl, hd⟩
 exact ⟨rfl, hd⟩
theorem zht : zay.f = some true := rfl
def named (ms : List S63) (i : Nat) : Bool := ms.any fun m => m.f1 == (i : Int) && m.f0 != 1
def zbU (ms : List S63) : Nat → List ByteArray → List ByteArray
 | _, [] => []
 | i, x :: a => if named ms i = true then zbU ms (i + 1) a else x :: zbU ms (i + 1) a
theorem zc3 (m : S63) (ms : List S63) : ∀ (a : List ByteArray) (i : Nat), (m.f1 < (i : Int) ∨ m.f0 = 1) → zbU (m :: ms) i a = zbU ms i a
 | [], _, _ => rfl
 | x :: a, i, h => by
  have e : named (m :: ms) i = named ms i := by
   unfold named
   rw [List.any_cons]
   have : (m.f1 == (i : Int) && m.f0 != 1) = false := by
    rcases h with h | h
    ·rw [show (m.f1 == (i : Int)) = false from beq_eq_false_iff_ne.2 (by omega), Bool.false_and]
    ·rw [h]; simp
   rw [this, Bool.false_or]
  rw [zbU, zbU, e, zc3 m ms a (i + 1) (h.imp (fun h => by omega) id)]
theorem zby.kept {i : Nat} {a b : List ByteArray} {ms : List S63} (h : zby i a b ms) : (zbU ms i a).Sublist b ∧ ((zbU ms i a).length : Int) + zct ms = b.length := by
 induction h with
 | nil i => exact ⟨List.Sublist.refl _, rfl⟩
 | @ins i a b ms y h ih =>
  rw [zc3 _ _ _ _ (.inr rfl)]
  refine ⟨ih.1.cons y, ?_⟩
  simp [zct]; omega
 | @del i a b ms x h ih =>
  have e : named (⟨3, (i : Int), ⟨#[]⟩⟩ :: ms) i = true := by simp [named]
  rw [zbU, if_pos e, zc3 _ _ _ _ (.inl (by dsimp only; omega))]
  refine ⟨ih.1, ?_⟩
  simp [zct]; omega
 | @set i a b ms x y h ih =>
  have e : named (⟨2, (i : Int), y⟩ :: ms) i = true := by simp [named]
  rw [zbU, if_pos e, zc3 _ _ _ _ (.inl (by dsimp only; omega))]
  refine ⟨ih.1.cons y, ?_⟩
  simp [zct]; omega
 | @keep i a b ms x h ih =>
  have e : named ms i = false := by
   unfold named
   rw [List.any_eq_false]
   intro m hm
   have := h.ge m hm
   have : (m.f1 == (i : Int)) = false := beq_eq_false_iff_ne.2 (by omega)
   simp [this]
  rw [zbU, e, if_neg (by decide)]
  refine ⟨ih.1.cons_cons x, ?_⟩
  simp only [List.length_cons]; omega
theorem zgS (a b : List ByteArray) (ha : a.length ≤ 1000) (hb : b.length ≤ 1000) : Ev (fun k => zaY.f k a b) ((zcX a b : Int) == (a.length : Int)) := by
 unfold zaY.f
 exact Ev.be (zgC a b ha hb) (Ev.now _)
theorem zfl (pg : List ByteArray) (ms : List S63) (n : Int) (md : List ByteArray) (e c : Int) (kept : List ByteArray) (i : Nat) (hi : i < pg.length) (hi6 : i ≤ 1000) (x : ByteArray) (hx : pg[i] = x) (hms : ms.length ≤ 1000) (hk : kept.length ≤ 1000) (r : Bool)
  (Hyes : named ms i = true → Ev (fun k => zo.l1 k pg ms n md e c kept ((i + 1 : Nat) : Int)) r)
  (Hno : named ms i = false → Ev (fun k => zo.l1 k pg ms n md e c (kept ++ [x]) ((i + 1 : Nat) : Int)) r) :
  ∀ (d j : Nat) (b : Bool), ms.length - j = d → j ≤ ms.length → named ms i = (b || named (ms.drop j) i) → Ev (fun k => zo.l2 k pg ms n md e c kept (i : Int) b (j : Int)) r
 | 0, j, b, hd, hj, hb => by
  rw [List.drop_eq_nil_of_le (by omega)] at hb
  have hb' : named ms i = b := by rw [hb]; simp [named]
  have hi' : (i : Int) < (pg.length : Int) := by omega
  have r1 : zaJ ByteArray.empty pg (i : Int) = x := by simp [zaJ, hi, hx]
  have hi6' : i ≤ 1000000 := by omega
  refine Ev.step (fun k => by rw [zo.l2]) ?_
  refine Ev.ifn (by omega) ?_
  rw [zbH _ hi6']
  cases b with
  | true => exact Ev.ifp rfl (Hyes hb')
  | false =>
   refine Ev.ifn Bool.false_ne_true ?_
   refine Ev.ifp (by omega) ?_
   refine Ev.ifp hi' ?_
   refine Ev.ifp (by omega) ?_
   rw [r1]
   exact Hno hb'
 | d + 1, j, b, hd, hj, hb => by
  have hlt : j < ms.length := by omega
  have hlt' : (j : Int) < (ms.length : Int) := by omega
  have hj6 : j ≤ 1000000 := by omega
  have r1 : zk ms (j : Int) = ms[j] := by simp [zk, hlt]
  have go := fun (b : Bool) => zfl pg ms n md e c kept i hi hi6 x hx hms hk r Hyes Hno d (j + 1) b (by omega) (by omega)
  rw [List.drop_eq_getElem_cons hlt] at hb
  have hcons : named (ms[j] :: ms.drop (j + 1)) i = ((ms[j].f1 == (i : Int) && ms[j].f0 != 1) || named (ms.drop (j + 1)) i) := rfl
  rw [hcons] at hb
  refine Ev.step (fun k => by rw [zo.l2]) ?_
  refine Ev.ifp hlt' ?_
  rw [zbH _ hj6, r1]
  cases b with
  | true => exact Ev.ifp rfl (go true (by rw [hb]; simp))
  | false =>
   refine Ev.ifn Bool.false_ne_true ?_
   refine Ev.ifp (by omega) ?_
   by_cases hc : ms[j].f1 = (i : Int)
   ·exact Ev.ifp hc (go _ (by rw [hb, hc]; simp))
   ·refine Ev.ifn hc (go false ?_)
    rw [hb, show (ms[j].f1 == (i : Int)) = false from beq_eq_false_iff_ne.2 hc]; simp
theorem zeq (pg : List ByteArray) (ms : List S63) (n : Int) (md : List ByteArray) (c : Int) (hpg : pg.length ≤ 100) (hms : ms.length ≤ 100) (hmd : md.length ≤ 1000) (hn : (md.length : Int) = n) (hsub : (zbU ms 0 pg).Sublist md) (hc : ((zbU ms 0 pg).length : Int) + c = n) (hcl : 0 ≤ c ∧ c ≤ 1000) :
  ∀ (d i : Nat) (kept : List ByteArray), pg.length - i = d → i ≤ pg.length → kept.length ≤ i → zbU ms 0 pg = kept ++ zbU ms i (pg.drop i) → Ev (fun k => zo.l1 k pg ms n md 0 c kept (i : Int)) true
 | 0, i, kept, hd, hi, hkl, hk => by
  rw [List.drop_eq_nil_of_le (by omega), zbU, List.append_nil] at hk
  rw [hk] at hsub hc
  refine Ev.step (fun k => by rw [zo.l1]) ?_
  refine Ev.ifn (by omega) ?_
  refine Ev.ifp rfl ?_
  refine Ev.ifp hn ?_
  refine Ev.be (zgS kept md (by omega) (by omega)) ?_
  refine Ev.ifp ?_ ?_
  ·rw [(zfW kept md).2 hsub]; simp
  ·rw [zde (by omega) (by omega)]
   exact Ev.ifp hc (Ev.bs zht (Ev.now _))
 | d + 1, i, kept, hd, hi, hkl, hk => by
  have hlt : i < pg.length := by omega
  have hlt' : (i : Int) < (pg.length : Int) := by omega
  rw [List.drop_eq_getElem_cons hlt, zbU] at hk
  refine Ev.step (fun k => by rw [zo.l1]) ?_
  refine Ev.ifp hlt' ?_
  refine zfl pg ms n md 0 c kept i hlt (by omega) pg[i] rfl (by omega) (by omega) true ?_ ?_ ms.length 0 false (by omega) (by omega) (by simp)
  ·intro hnm
   rw [if_pos hnm] at hk
   exact zeq pg ms n md c hpg hms hmd hn hsub hc hcl d (i + 1) kept (by omega) (by omega) (by omega) hk
  ·intro hnm
   rw [hnm, if_neg (by decide)] at hk
   refine zeq pg ms n md c hpg hms hmd hn hsub hc hcl d (i + 1) (kept ++ [pg[i]]) (by omega) (by omega) (by simp; omega) ?_
   rw [hk, List.append_assoc, List.singleton_append]
theorem zfv (pg : List ByteArray) (ms : List S63) (hg : Good 6 pg) (hM : MOK pg.length ms) (hms : ms.length ≤ 12) : ∀ (d j : Nat) (n : Int), ms.length - j = d → j ≤ ms.length → -(j : Int) ≤ n → n ≤ 6 + (j : Int) → (pg.length : Int) + zcs ms = n + zcs (ms.drop j) →
  Ev (fun k => zo.l0 k pg ms n (j : Int)) true
 | 0, j, n, hd, hj, hn0, hn1, hn => by
  rw [List.drop_eq_nil_of_le (by omega), zcs, Int.add_zero] at hn
  have hl := hg.1
  have hck := hM.checked hg hms
  have hmk := zeo (zdt hck).2
  have hgr := hmk.grow
  have hkept := hmk.kept
  have hcs := zfw ms
  have hgl := zfK ms
  have hnlen : ((zcf pg ms).length : Int) = n := by omega
  refine Ev.step (fun k => by rw [zo.l0]) ?_
  refine Ev.ifn (by omega) ?_
  refine Ev.be (zg6 pg ms) ?_
  refine Ev.be (zh2 pg ms hck) ?_
  refine Ev.ifp rfl ?_
  refine Ev.ifn (by dsimp only; omega) ?_
  rw [decide_eq_false (by dsimp only; omega)]
  refine Ev.step (fun k => by rw [zo.j1]) ?_
  refine Ev.ifn Bool.false_ne_true ?_
  unfold zfR
  rw [if_pos hck]
  by_cases h6 : 6 < (zcf pg ms).length
  ·rw [if_pos h6]
   have h6' : n > 6 := by omega
   refine Ev.ifp h6' ?_
   refine Ev.ifp rfl ?_
   refine Ev.ifp rfl ?_
   exact Ev.bs zht (Ev.now _)
  ·rw [if_neg h6]
   have h6' : ¬ n > 6 := by omega
   refine Ev.ifn h6' ?_
   dsimp only
   exact zeq pg ms n _ _ (by omega) (by omega) (by omega) hnlen hkept.1 (by omega) (by omega) pg.length 0 [] (by omega) (by omega) (by simp) (by simp)
 | d + 1, j, n, hd, hj, hn0, hn1, hn => by
  have hlt : j < ms.length := by omega
  have hlt' : (j : Int) < (ms.length : Int) := by omega
  have hj6 : j ≤ 1000000 := by omega
  have r1 : zk ms (j : Int) = ms[j] := by simp [zk, hlt]
  rw [List.drop_eq_getElem_cons hlt, zcs] at hn
  have go := fun (n : Int) => zfv pg ms hg hM hms d (j + 1) n (by omega) (by omega)
  refine Ev.step (fun k => by rw [zo.l0]) ?_
  refine Ev.ifp hlt' ?_
  refine Ev.ifp (by omega) ?_
  have w1 : wrap64 (n + 1) = n + 1 := zde (by omega) (by omega)
  have w2 : wrap64 (n - 1) = n - 1 := zde (by omega) (by omega)
  rw [zbH _ hj6, r1, w1, w2]
  clear w1 w2
  by_cases k1 : ms[j].f0 = 1
  ·rw [if_pos k1] at hn
   exact Ev.ifp k1 (go (n + 1) (by omega) (by omega) (by omega))
  ·rw [if_neg k1] at hn
   refine Ev.ifn k1 ?_
   by_cases k3 : ms[j].f0 = 3
   ·rw [if_pos k3] at hn
    exact Ev.ifp k3 (go (n - 1) (by omega) (by omega) (by omega))
   ·rw [if_neg k3] at hn
    exact Ev.ifn k3 (go n (by omega) (by omega) (by omega))
theorem zgn : zo.Pure := by
 intro l0 _ hl _
 have hl' : l0.length ≤ 17592186044416 := by omega
 refine Ev.rounds (g := fun k => zo.f k l0) ?_
 obtain ⟨p, t1, t2, g1, g2, g3, g4⟩ := zhZ l0 0 11400714819323198485 (Int.le_refl _) hl' 6 (by decide) 200 (by decide)
 obtain ⟨ms, u1, u2, h1, h2, h3, h4⟩ := zhn l0 hl' t1 t2 g4 p.length 12 (by omega) (by omega)
 unfold zo.f zbh.f
 refine Ev.bs rfl ?_
 refine Ev.be (Ev.of (zS.mono _ _ _ _) g1) ?_
 refine Ev.be h1 ?_
 exact zfv p ms ⟨g2, g3⟩ h3 h2 ms.length 0 (p.length : Int) (by omega) (by omega) (by omega) (by omega) (by simp)
end Go.Proofs.Ytgmbbfmbimofoaa.P
