-- MERGED BY A PROGRAM out of texts of this claim: hand work, and what a (turned) print of the kit has written for it
import Derived.Outline
import Derived.Test.YtgmbbfmbimofoaaMf22
import Derived.Test.YtgmbbfmbimofoaaMf6
import Derived.Test.YtgmbbfmbimofoaaMf18
import Derived.Test.YtgmbbfmbimofoaaMf5
import Derived.Test.YtgmbbfmbimofoaaMf7
import Derived.Test.YtgmbbfmbimofoaaMf21
namespace Go.Proofs.Ytgmbbfmbimofoaa.P
open Go.RowKit Go.Proofs.YtgmbbfmbimofoaaW.PrintWords Go.Proofs.YtgmbbfmbimofoaaW.PrintLast Go.Proofs.YtgmbbfmbimofoaaW.PrintMore
attribute [local go_sem] zJ zM zR zQ zI zH zK zN
set_option linter.unusedVariables false
set_option linter.unusedSimpArgs false
def zdh : ByteArray := ⟨#[97, 110, 110, 97]⟩
def zd3 : ByteArray := ⟨#[98, 101, 110]⟩
def zhm : ByteArray := ⟨#[99, 121, 100]⟩
def zfH : ByteArray := ⟨#[98, 101, 97]⟩
def zfY : ByteArray := ⟨#[99, 105, 100]⟩
def zhu : ByteArray := ⟨#[100, 97, 110]⟩
def ziF : ByteArray := ⟨#[97, 98, 101]⟩
def zde : List ByteArray := [zdh, zd3, zhm]
def zcY : List S63 := [⟨1, 1, zfH⟩, ⟨2, 2, zfY⟩]
def zeh : List (List ByteArray) := [[zdh, zd3], [zdh, zhm]]
theorem zgS : zbR.f 100 zde zcY = some ([zdh, zfH, zd3, zfY], 0) := by kernel_rfl
theorem zgw : zba.f 100 zeh [zdh, zd3, zhu] = some ([1, 0, -1], 0) := by kernel_rfl
theorem zh1 : zah.f 100 [zdh, zfH, zd3, zfY] [zdh, zfH, zd3, zfY] = some true := by kernel_rfl
theorem zgX : zcp.f zde [⟨1, 0, ziF⟩, ⟨3, 1, ⟨#[]⟩⟩, ⟨3, 2, ⟨#[]⟩⟩] 3 = some ([1, 0, 2], 0) := by kernel_rfl
theorem zhU : zat.f 100 zcY zcY = some true := by kernel_rfl
theorem zhj : zaO.f 100 [1, 0, 2] [1, 0, 2] = some true := by kernel_rfl
theorem zhh : zaO.f 100 [1, 0, -1] [1, 0, -1] = some true := by kernel_rfl
theorem zhx : zdj.f 100 zde [zdh, zfH, zd3, zfY] = some (zcY, 0) := by kernel_rfl
theorem zhq : zdk.f 100 zeh [⟨1, 2, zhu⟩] [zdh, zhm, zd3, zhu] = some (2, 2, 0) := by kernel_rfl
set_option maxHeartbeats 4000000 in
set_option maxRecDepth 100000 in
theorem zcL (w : World) : Calls Try.prog 18 #[] w fun e w' => e = .returned (.bool true) ∧ Below w.heap.size w w' := by
 go_enter Try.func18, Try.ntmps18
 have HB := za.mk (Below.refl w.heap.size w)
 go_wp2_with fail
 refine (zbN.calls zde _ rfl).mono ?_
 rintro e w1 ⟨v1, rfl, hR1, hb1⟩
 replace HB := za.mk (zq HB.out hb1)
 obtain ⟨A1, c1, rfl, _, _⟩ := Kd.zay hR1
 have F1 := za.mk hR1
 clear hR1 hb1
 go_wp2_with fail
 refine (zb3.calls zcY _ rfl).mono ?_
 rintro e w2 ⟨v2, rfl, hR2, hb2⟩
 replace HB := za.mk (zq HB.out hb2)
 replace F1 := za.mk (Kd.zO F1.out hb2)
 obtain ⟨A2, c2, rfl, _, _⟩ := Kd.zay hR2
 have F2 := za.mk hR2
 clear hR2 hb2
 go_wp2_with fail
 refine (zbR.calls 100 _ _ zde _ _ zcY [⟨#[97, 110, 110, 97]⟩, ⟨#[98, 101, 97]⟩, ⟨#[98, 101, 110]⟩, ⟨#[99, 105, 100]⟩] 0 _ (zaZ F1.out).1 (zaZ F1.out).2 (zaZ F2.out).1 (zaZ F2.out).2 zgS).mono ?_
 rintro e w3 ⟨v3, rfl, hR3, hb3⟩
 replace HB := za.mk (zq HB.out hb3)
 replace F1 := za.mk (Kd.zO F1.out hb3)
 replace F2 := za.mk (Kd.zO F2.out hb3)
 obtain ⟨A3, c3, rfl, _, _⟩ := Kd.zay hR3
 have F3 := za.mk hR3
 clear hR3 hb3
 clear F1 F2
 go_wp2_with fail
 refine (zbN.calls zde _ rfl).mono ?_
 rintro e w4 ⟨v4, rfl, hR4, hb4⟩
 replace HB := za.mk (zq HB.out hb4)
 replace F3 := za.mk (Kd.zO F3.out hb4)
 obtain ⟨A4, c4, rfl, _, _⟩ := Kd.zay hR4
 have F4 := za.mk hR4
 clear hR4 hb4
 go_wp2_with fail
 have hbx := ze (Below.refl w4.heap.size w4) (.cells #[.string ⟨#[97, 110, 110, 97]⟩, .string ⟨#[98, 101, 97]⟩, .string ⟨#[98, 101, 110]⟩, .string ⟨#[99, 105, 100]⟩] 9)
 have X1 := za.mk (heap_alloc_new w4 (.cells #[.string ⟨#[97, 110, 110, 97]⟩, .string ⟨#[98, 101, 97]⟩, .string ⟨#[98, 101, 110]⟩, .string ⟨#[99, 105, 100]⟩] 9))
 replace HB := za.mk (zq HB.out hbx)
 replace F3 := za.mk (Kd.zO F3.out hbx)
 replace F4 := za.mk (Kd.zO F4.out hbx)
 obtain ⟨u4, hu⟩ : ∃ u_, w4.alloc (.cells #[.string ⟨#[97, 110, 110, 97]⟩, .string ⟨#[98, 101, 97]⟩, .string ⟨#[98, 101, 110]⟩, .string ⟨#[99, 105, 100]⟩] 9) = u_ := ⟨_, rfl⟩
 rw [hu] at F3 F4 X1 HB ⊢
 clear hu hbx
 refine (zdj.calls 100 _ _ zde _ _ [⟨#[97, 110, 110, 97]⟩, ⟨#[98, 101, 97]⟩, ⟨#[98, 101, 110]⟩, ⟨#[99, 105, 100]⟩] zcY 0 _ (zaZ F4.out).1 (zaZ F4.out).2 (zeX X1.out rfl (by decide)) (by decide) zhx).mono ?_
 rintro e w5 ⟨v5, rfl, hR5, hb5⟩
 replace HB := za.mk (zq HB.out hb5)
 replace F3 := za.mk (Kd.zO F3.out hb5)
 replace F4 := za.mk (Kd.zO F4.out hb5)
 replace X1 := za.mk (zF X1.out hb5)
 obtain ⟨A5, c5, rfl, _, _⟩ := Kd.zay hR5
 have F5 := za.mk hR5
 clear hR5 hb5
 clear F4 X1
 go_wp2_with fail
 refine (zbN.calls zde _ rfl).mono ?_
 rintro e w6 ⟨v6, rfl, hR6, hb6⟩
 replace HB := za.mk (zq HB.out hb6)
 replace F3 := za.mk (Kd.zO F3.out hb6)
 replace F5 := za.mk (Kd.zO F5.out hb6)
 obtain ⟨A6, c6, rfl, _, _⟩ := Kd.zay hR6
 have F6 := za.mk hR6
 clear hR6 hb6
 go_wp2_with fail
 refine (zbx.calls 0 ⟨#[97, 98, 101]⟩ 1 0 ⟨#[97, 98, 101]⟩ _ rfl).mono ?_
 rintro e w7 ⟨rfl, hb7⟩
 replace HB := za.mk (zq HB.out hb7)
 replace F3 := za.mk (Kd.zO F3.out hb7)
 replace F5 := za.mk (Kd.zO F5.out hb7)
 replace F6 := za.mk (Kd.zO F6.out hb7)
 clear hb7
 go_wp2_with fail
 refine (zb7.calls 1 3 1 ⟨#[]⟩ _ rfl).mono ?_
 rintro e w8 ⟨rfl, hb8⟩
 replace HB := za.mk (zq HB.out hb8)
 replace F3 := za.mk (Kd.zO F3.out hb8)
 replace F5 := za.mk (Kd.zO F5.out hb8)
 replace F6 := za.mk (Kd.zO F6.out hb8)
 clear hb8
 go_wp2_with fail
 refine (zb7.calls 2 3 2 ⟨#[]⟩ _ rfl).mono ?_
 rintro e w9 ⟨rfl, hb9⟩
 replace HB := za.mk (zq HB.out hb9)
 replace F3 := za.mk (Kd.zO F3.out hb9)
 replace F5 := za.mk (Kd.zO F5.out hb9)
 replace F6 := za.mk (Kd.zO F6.out hb9)
 clear hb9
 go_wp2_with fail
 have hbx := ze (Below.refl w9.heap.size w9) (.cells #[.int .i64 1, .int .i64 0, .string ⟨#[97, 98, 101]⟩, .int .i64 3, .int .i64 1, .string ⟨#[]⟩, .int .i64 3, .int .i64 2, .string ⟨#[]⟩] 63)
 have X2 := za.mk (heap_alloc_new w9 (.cells #[.int .i64 1, .int .i64 0, .string ⟨#[97, 98, 101]⟩, .int .i64 3, .int .i64 1, .string ⟨#[]⟩, .int .i64 3, .int .i64 2, .string ⟨#[]⟩] 63))
 replace HB := za.mk (zq HB.out hbx)
 replace F3 := za.mk (Kd.zO F3.out hbx)
 replace F5 := za.mk (Kd.zO F5.out hbx)
 replace F6 := za.mk (Kd.zO F6.out hbx)
 obtain ⟨u9, hu⟩ : ∃ u_, w9.alloc (.cells #[.int .i64 1, .int .i64 0, .string ⟨#[97, 98, 101]⟩, .int .i64 3, .int .i64 1, .string ⟨#[]⟩, .int .i64 3, .int .i64 2, .string ⟨#[]⟩] 63) = u_ := ⟨_, rfl⟩
 rw [hu] at F3 F5 F6 X2 HB ⊢
 clear hu hbx
 refine (zcp.calls _ _ zde _ _ [⟨1, 0, ⟨#[97, 98, 101]⟩⟩, ⟨3, 1, ⟨#[]⟩⟩, ⟨3, 2, ⟨#[]⟩⟩] 3 [1, 0, 2] 0 _ (zaZ F6.out).1 (zaZ F6.out).2 (zgm X2.out rfl (by decide)) (by decide) zgX).mono ?_
 rintro e w10 ⟨v10, rfl, hR10, hb10⟩
 replace HB := za.mk (zq HB.out hb10)
 replace F3 := za.mk (Kd.zO F3.out hb10)
 replace F5 := za.mk (Kd.zO F5.out hb10)
 replace F6 := za.mk (Kd.zO F6.out hb10)
 replace X2 := za.mk (zF X2.out hb10)
 obtain ⟨A10, c10, rfl, _, _⟩ := Kd.zay hR10
 have F7 := za.mk hR10
 clear hR10 hb10
 clear F6 X2
 go_wp2_with fail
 refine (zb2.calls zeh _ rfl).mono ?_
 rintro e w11 ⟨v11, rfl, hR11, hb11⟩
 replace HB := za.mk (zq HB.out hb11)
 replace F3 := za.mk (Kd.zO F3.out hb11)
 replace F5 := za.mk (Kd.zO F5.out hb11)
 replace F7 := za.mk (Kd.zO F7.out hb11)
 obtain ⟨A11, c11, rfl, _, _⟩ := Kd.zf9 hR11
 have F8 := za.mk hR11
 clear hR11 hb11
 go_wp2_with fail
 have hbx := ze (Below.refl w11.heap.size w11) (.cells #[.string ⟨#[97, 110, 110, 97]⟩, .string ⟨#[98, 101, 110]⟩, .string ⟨#[100, 97, 110]⟩] 9)
 have X3 := za.mk (heap_alloc_new w11 (.cells #[.string ⟨#[97, 110, 110, 97]⟩, .string ⟨#[98, 101, 110]⟩, .string ⟨#[100, 97, 110]⟩] 9))
 replace HB := za.mk (zq HB.out hbx)
 replace F3 := za.mk (Kd.zO F3.out hbx)
 replace F5 := za.mk (Kd.zO F5.out hbx)
 replace F7 := za.mk (Kd.zO F7.out hbx)
 replace F8 := za.mk (Kd.zcz F8.out hbx)
 obtain ⟨u11, hu⟩ : ∃ u_, w11.alloc (.cells #[.string ⟨#[97, 110, 110, 97]⟩, .string ⟨#[98, 101, 110]⟩, .string ⟨#[100, 97, 110]⟩] 9) = u_ := ⟨_, rfl⟩
 rw [hu] at F3 F5 F7 F8 X3 HB ⊢
 clear hu hbx
 refine (zba.calls 100 _ _ zeh _ _ [⟨#[97, 110, 110, 97]⟩, ⟨#[98, 101, 110]⟩, ⟨#[100, 97, 110]⟩] [1, 0, -1] 0 _ (Kd.zds F8.out).2.2 (Kd.zds F8.out).2.1 (zeX X3.out rfl (by decide)) (by decide) zgw).mono ?_
 rintro e w12 ⟨v12, rfl, hR12, hb12⟩
 replace HB := za.mk (zq HB.out hb12)
 replace F3 := za.mk (Kd.zO F3.out hb12)
 replace F5 := za.mk (Kd.zO F5.out hb12)
 replace F7 := za.mk (Kd.zO F7.out hb12)
 replace F8 := za.mk (Kd.zcz F8.out hb12)
 replace X3 := za.mk (zF X3.out hb12)
 obtain ⟨A12, c12, rfl, _, _⟩ := Kd.zay hR12
 have F9 := za.mk hR12
 clear hR12 hb12
 clear F8 X3
 go_wp2_with fail
 refine (zb2.calls zeh _ rfl).mono ?_
 rintro e w13 ⟨v13, rfl, hR13, hb13⟩
 replace HB := za.mk (zq HB.out hb13)
 replace F3 := za.mk (Kd.zO F3.out hb13)
 replace F5 := za.mk (Kd.zO F5.out hb13)
 replace F7 := za.mk (Kd.zO F7.out hb13)
 replace F9 := za.mk (Kd.zO F9.out hb13)
 obtain ⟨A13, c13, rfl, _, _⟩ := Kd.zf9 hR13
 have F10 := za.mk hR13
 clear hR13 hb13
 go_wp2_with fail
 refine (zbx.calls 2 ⟨#[100, 97, 110]⟩ 1 2 ⟨#[100, 97, 110]⟩ _ rfl).mono ?_
 rintro e w14 ⟨rfl, hb14⟩
 replace HB := za.mk (zq HB.out hb14)
 replace F3 := za.mk (Kd.zO F3.out hb14)
 replace F5 := za.mk (Kd.zO F5.out hb14)
 replace F7 := za.mk (Kd.zO F7.out hb14)
 replace F9 := za.mk (Kd.zO F9.out hb14)
 replace F10 := za.mk (Kd.zcz F10.out hb14)
 clear hb14
 go_wp2_with fail
 have hbx := ze (Below.refl w14.heap.size w14) (.cells #[.int .i64 1, .int .i64 2, .string ⟨#[100, 97, 110]⟩] 63)
 have X4 := za.mk (heap_alloc_new w14 (.cells #[.int .i64 1, .int .i64 2, .string ⟨#[100, 97, 110]⟩] 63))
 replace HB := za.mk (zq HB.out hbx)
 replace F3 := za.mk (Kd.zO F3.out hbx)
 replace F5 := za.mk (Kd.zO F5.out hbx)
 replace F7 := za.mk (Kd.zO F7.out hbx)
 replace F9 := za.mk (Kd.zO F9.out hbx)
 replace F10 := za.mk (Kd.zcz F10.out hbx)
 have e4 : (w14.alloc (.cells #[.int .i64 1, .int .i64 2, .string ⟨#[100, 97, 110]⟩] 63)).heap.size = w14.heap.size + 1 := Array.size_push _
 have hby := ze (Below.refl _ (w14.alloc (.cells #[.int .i64 1, .int .i64 2, .string ⟨#[100, 97, 110]⟩] 63))) (.cells #[.string ⟨#[97, 110, 110, 97]⟩, .string ⟨#[99, 121, 100]⟩, .string ⟨#[98, 101, 110]⟩, .string ⟨#[100, 97, 110]⟩] 9)
 have X5 := za.mk (heap_alloc_new (w14.alloc (.cells #[.int .i64 1, .int .i64 2, .string ⟨#[100, 97, 110]⟩] 63)) (.cells #[.string ⟨#[97, 110, 110, 97]⟩, .string ⟨#[99, 121, 100]⟩, .string ⟨#[98, 101, 110]⟩, .string ⟨#[100, 97, 110]⟩] 9))
 rw [e4] at X5
 replace HB := za.mk (zq HB.out hby)
 replace F3 := za.mk (Kd.zO F3.out hby)
 replace F5 := za.mk (Kd.zO F5.out hby)
 replace F7 := za.mk (Kd.zO F7.out hby)
 replace F9 := za.mk (Kd.zO F9.out hby)
 replace F10 := za.mk (Kd.zcz F10.out hby)
 replace X4 := za.mk (zF X4.out hby)
 obtain ⟨u14, hu⟩ : ∃ u_, (w14.alloc (.cells #[.int .i64 1, .int .i64 2, .string ⟨#[100, 97, 110]⟩] 63)).alloc (.cells #[.string ⟨#[97, 110, 110, 97]⟩, .string ⟨#[99, 121, 100]⟩, .string ⟨#[98, 101, 110]⟩, .string ⟨#[100, 97, 110]⟩] 9) = u_ := ⟨_, rfl⟩
 rw [hu] at F3 F5 F7 F9 F10 X4 X5 HB ⊢
 clear hu hbx hby e4
 refine (zdk.calls 100 _ _ zeh _ _ [⟨1, 2, ⟨#[100, 97, 110]⟩⟩] _ _ [⟨#[97, 110, 110, 97]⟩, ⟨#[99, 121, 100]⟩, ⟨#[98, 101, 110]⟩, ⟨#[100, 97, 110]⟩] 2 2 0 _ (Kd.zds F10.out).2.2 (Kd.zds F10.out).2.1 (zgm X4.out rfl (by decide)) (by decide) (zeX X5.out rfl (by decide)) (by decide) zhq).mono ?_
 rintro e w15 ⟨rfl, hb15⟩
 replace HB := za.mk (zq HB.out hb15)
 replace F3 := za.mk (Kd.zO F3.out hb15)
 replace F5 := za.mk (Kd.zO F5.out hb15)
 replace F7 := za.mk (Kd.zO F7.out hb15)
 replace F9 := za.mk (Kd.zO F9.out hb15)
 replace F10 := za.mk (Kd.zcz F10.out hb15)
 replace X4 := za.mk (zF X4.out hb15)
 replace X5 := za.mk (zF X5.out hb15)
 clear hb15
 clear F10 X4 X5
 go_wp2_with fail
 have hbx := ze (Below.refl w15.heap.size w15) (.cells #[.int .i64 2, .int .i64 2] 54)
 replace HB := za.mk (zq HB.out hbx)
 replace F3 := za.mk (Kd.zO F3.out hbx)
 replace F5 := za.mk (Kd.zO F5.out hbx)
 replace F7 := za.mk (Kd.zO F7.out hbx)
 replace F9 := za.mk (Kd.zO F9.out hbx)
 have e4 : (w15.alloc (.cells #[.int .i64 2, .int .i64 2] 54)).heap.size = w15.heap.size + 1 := Array.size_push _
 have hby := ze (Below.refl _ (w15.alloc (.cells #[.int .i64 2, .int .i64 2] 54))) (.cells #[.string ⟨#[97, 110, 110, 97]⟩, .string ⟨#[98, 101, 97]⟩, .string ⟨#[98, 101, 110]⟩, .string ⟨#[99, 105, 100]⟩] 9)
 have X6 := za.mk (heap_alloc_new (w15.alloc (.cells #[.int .i64 2, .int .i64 2] 54)) (.cells #[.string ⟨#[97, 110, 110, 97]⟩, .string ⟨#[98, 101, 97]⟩, .string ⟨#[98, 101, 110]⟩, .string ⟨#[99, 105, 100]⟩] 9))
 rw [e4] at X6
 replace HB := za.mk (zq HB.out hby)
 replace F3 := za.mk (Kd.zO F3.out hby)
 replace F5 := za.mk (Kd.zO F5.out hby)
 replace F7 := za.mk (Kd.zO F7.out hby)
 replace F9 := za.mk (Kd.zO F9.out hby)
 obtain ⟨u15, hu⟩ : ∃ u_, (w15.alloc (.cells #[.int .i64 2, .int .i64 2] 54)).alloc (.cells #[.string ⟨#[97, 110, 110, 97]⟩, .string ⟨#[98, 101, 97]⟩, .string ⟨#[98, 101, 110]⟩, .string ⟨#[99, 105, 100]⟩] 9) = u_ := ⟨_, rfl⟩
 rw [hu] at F3 F5 F7 F9 X6 HB ⊢
 clear hu hbx hby e4
 refine (zah.calls 100 _ _ [⟨#[97, 110, 110, 97]⟩, ⟨#[98, 101, 97]⟩, ⟨#[98, 101, 110]⟩, ⟨#[99, 105, 100]⟩] _ _ [⟨#[97, 110, 110, 97]⟩, ⟨#[98, 101, 97]⟩, ⟨#[98, 101, 110]⟩, ⟨#[99, 105, 100]⟩] true _ (zaZ F3.out).1 (zaZ F3.out).2 (zeX X6.out rfl (by decide)) (by decide) zh1).mono ?_
 rintro e w16 ⟨rfl, nd16, hw16⟩
 have hb16 : Below u15.heap.size u15 w16 := by rw [hw16]; exact zb (Below.refl _ _) _
 clear hw16
 replace HB := za.mk (zq HB.out hb16)
 replace F3 := za.mk (Kd.zO F3.out hb16)
 replace F5 := za.mk (Kd.zO F5.out hb16)
 replace F7 := za.mk (Kd.zO F7.out hb16)
 replace F9 := za.mk (Kd.zO F9.out hb16)
 replace X6 := za.mk (zF X6.out hb16)
 clear hb16
 clear F3 X6
 go_wp2_with fail
 refine (zb3.calls zcY _ rfl).mono ?_
 rintro e w17 ⟨v17, rfl, hR17, hb17⟩
 replace HB := za.mk (zq HB.out hb17)
 replace F5 := za.mk (Kd.zO F5.out hb17)
 replace F7 := za.mk (Kd.zO F7.out hb17)
 replace F9 := za.mk (Kd.zO F9.out hb17)
 obtain ⟨A17, c17, rfl, _, _⟩ := Kd.zay hR17
 have F11 := za.mk hR17
 clear hR17 hb17
 go_wp2_with fail
 refine (zat.calls 100 _ _ zcY _ _ zcY true _ (zaZ F5.out).1 (zaZ F5.out).2 (zaZ F11.out).1 (zaZ F11.out).2 zhU).mono ?_
 rintro e w18 ⟨rfl, nd18, hw18⟩
 have hb18 : Below w17.heap.size w17 w18 := by rw [hw18]; exact zb (Below.refl _ _) _
 clear hw18
 replace HB := za.mk (zq HB.out hb18)
 replace F5 := za.mk (Kd.zO F5.out hb18)
 replace F7 := za.mk (Kd.zO F7.out hb18)
 replace F9 := za.mk (Kd.zO F9.out hb18)
 replace F11 := za.mk (Kd.zO F11.out hb18)
 clear hb18
 clear F5 F11
 go_wp2_with fail
 have hbx := ze (Below.refl w18.heap.size w18) (.cells #[.int .i64 1, .int .i64 0, .int .i64 2] 3)
 have X7 := za.mk (heap_alloc_new w18 (.cells #[.int .i64 1, .int .i64 0, .int .i64 2] 3))
 replace HB := za.mk (zq HB.out hbx)
 replace F7 := za.mk (Kd.zO F7.out hbx)
 replace F9 := za.mk (Kd.zO F9.out hbx)
 obtain ⟨u18, hu⟩ : ∃ u_, w18.alloc (.cells #[.int .i64 1, .int .i64 0, .int .i64 2] 3) = u_ := ⟨_, rfl⟩
 rw [hu] at F7 F9 X7 HB ⊢
 clear hu hbx
 refine (zaO.calls 100 _ _ [1, 0, 2] _ _ [1, 0, 2] true _ (zaZ F7.out).1 (zaZ F7.out).2 (zgT X7.out rfl (by decide)) (by decide) zhj).mono ?_
 rintro e w19 ⟨rfl, nd19, hw19⟩
 have hb19 : Below u18.heap.size u18 w19 := by rw [hw19]; exact zb (Below.refl _ _) _
 clear hw19
 replace HB := za.mk (zq HB.out hb19)
 replace F7 := za.mk (Kd.zO F7.out hb19)
 replace F9 := za.mk (Kd.zO F9.out hb19)
 replace X7 := za.mk (zF X7.out hb19)
 clear hb19
 clear F7 X7
 go_wp2_with fail
 have hbx := ze (Below.refl w19.heap.size w19) (.cells #[.int .i64 1, .int .i64 0, .int .i64 (-1)] 3)
 have X8 := za.mk (heap_alloc_new w19 (.cells #[.int .i64 1, .int .i64 0, .int .i64 (-1)] 3))
 replace HB := za.mk (zq HB.out hbx)
 replace F9 := za.mk (Kd.zO F9.out hbx)
 obtain ⟨u19, hu⟩ : ∃ u_, w19.alloc (.cells #[.int .i64 1, .int .i64 0, .int .i64 (-1)] 3) = u_ := ⟨_, rfl⟩
 rw [hu] at F9 X8 HB ⊢
 clear hu hbx
 refine (zaO.calls 100 _ _ [1, 0, -1] _ _ [1, 0, -1] true _ (zaZ F9.out).1 (zaZ F9.out).2 (zgT X8.out rfl (by decide)) (by decide) zhh).mono ?_
 rintro e w20 ⟨rfl, nd20, hw20⟩
 have hb20 : Below u19.heap.size u19 w20 := by rw [hw20]; exact zb (Below.refl _ _) _
 clear hw20
 replace HB := za.mk (zq HB.out hb20)
 replace F9 := za.mk (Kd.zO F9.out hb20)
 replace X8 := za.mk (zF X8.out hb20)
 clear hb20
 clear F9 X8
 go_wp2_with fail
 go_ret
 exact ⟨rfl, HB.out⟩
def named (ms : List S63) (i : Nat) : Bool := ms.any fun m => m.f1 == (i : Int) && m.f0 != 1
def zcR (ms : List S63) : Nat → List ByteArray → List ByteArray
 | _, [] => []
 | i, x :: a => if named ms i = true then zcR ms (i + 1) a else x :: zcR ms (i + 1) a
theorem zdi (m : S63) (ms : List S63) : ∀ (a : List ByteArray) (i : Nat), (m.f1 < (i : Int) ∨ m.f0 = 1) → zcR (m :: ms) i a = zcR ms i a
 | [], _, _ => rfl
 | x :: a, i, h => by
  have e : named (m :: ms) i = named ms i := by
   unfold named
   rw [List.any_cons]
   have : (m.f1 == (i : Int) && m.f0 != 1) = false := by
    rcases h with h | h
    ·rw [show (m.f1 == (i : Int)) = false from beq_eq_false_iff_ne.2 (by omega), Bool.false_and]
    ·rw [h]; simp
   rw [this, Bool.false_or]
  rw [zcR, zcR, e, zdi m ms a (i + 1) (h.imp (fun h => by omega) id)]
theorem zbr.kept {i : Nat} {a b : List ByteArray} {ms : List S63} (h : zbr i a b ms) : (zcR ms i a).Sublist b ∧ ((zcR ms i a).length : Int) + zct ms = b.length := by
 induction h with
 | nil i => exact ⟨List.Sublist.refl _, rfl⟩
 | @ins i a b ms y h ih =>
  rw [zdi _ _ _ _ (.inr rfl)]
  refine ⟨ih.1.cons y, ?_⟩
  simp [zct]; omega
 | @del i a b ms x h ih =>
  have e : named (⟨3, (i : Int), ⟨#[]⟩⟩ :: ms) i = true := by simp [named]
  rw [zcR, if_pos e, zdi _ _ _ _ (.inl (by dsimp only; omega))]
  refine ⟨ih.1, ?_⟩
  simp [zct]; omega
 | @set i a b ms x y h ih =>
  have e : named (⟨2, (i : Int), y⟩ :: ms) i = true := by simp [named]
  rw [zcR, if_pos e, zdi _ _ _ _ (.inl (by dsimp only; omega))]
  refine ⟨ih.1.cons y, ?_⟩
  simp [zct]; omega
 | @keep i a b ms x h ih =>
  have e : named ms i = false := by
   unfold named
   rw [List.any_eq_false]
   intro m hm
   have := h.ge m hm
   have : (m.f1 == (i : Int)) = false := beq_eq_false_iff_ne.2 (by omega)
   simp [this]
  rw [zcR, e, if_neg (by decide)]
  refine ⟨ih.1.cons_cons x, ?_⟩
  simp only [List.length_cons]; omega
def okP (v : Int) : Prop := (97 ≤ v ∧ v ≤ 122) ∨ (48 ≤ v ∧ v ≤ 57) ∨ v = 32
theorem zim {A : Nat → Option Int} {v r : Int} (hok : okP v → Ev A r) (hbad : ¬ okP v → r = 2) :
  Ev (fun k => if v < 97 then (if v < 48 then (if v = 32 then A k else some 2) else (if v > 57 then (if v = 32 then A k else some 2) else A k)) else (if v > 122 then (if v < 48 then (if v = 32 then A k else some 2) else (if v > 57 then (if v = 32 then A k else some 2) else A k)) else A k)) r := by
 unfold okP at hok hbad
 by_cases c1 : v < 97
 ·refine Ev.ifp c1 ?_
  by_cases c2 : v < 48
  ·refine Ev.ifp c2 ?_
   by_cases c3 : v = 32
   ·exact Ev.ifp c3 (hok (by omega))
   ·refine Ev.ifn c3 ?_
    rw [hbad (by omega)]; exact Ev.now _
  ·refine Ev.ifn c2 ?_
   by_cases c3 : v > 57
   ·refine Ev.ifp c3 (Ev.ifn (by omega) ?_)
    rw [hbad (by omega)]; exact Ev.now _
   ·exact Ev.ifn c3 (hok (by omega))
 ·refine Ev.ifn c1 ?_
  by_cases c2 : v > 122
  ·refine Ev.ifp c2 (Ev.ifn (by omega) (Ev.ifp (by omega) (Ev.ifn (by omega) ?_)))
   rw [hbad (by omega)]; exact Ev.now _
  ·exact Ev.ifn c2 (hok (by omega))
theorem zgb (c : UInt8) : okb c = true ↔ okP (c.toNat : Int) := by
 rw [zgk]; unfold okP
 simp only [Bool.or_eq_true, Bool.and_eq_true, decide_eq_true_eq]
 omega
theorem zhZ (s : ByteArray) (i : Nat) (h : i < s.data.toList.length) : bt s (i : Int) = (s.data.toList[i].toNat : Int) := by
 have h' : i < s.size := by simpa using h
 simp only [bt, Int.toNat_natCast]
 rw [dif_pos h']
 simp [ByteArray.getElem_eq_getElem_data]
theorem zea (s : ByteArray) : Ev (fun k => zP.f k s) (za8 s) := by
 have hsz : s.size = s.data.toList.length := by simp
 obtain ⟨L, hL⟩ : ∃ L, s.data.toList = L := ⟨_, rfl⟩
 have hbt : ∀ (i : Nat) (h : i < L.length), bt s (i : Int) = (L[i].toNat : Int) := by subst hL; exact zhZ s
 unfold zP.f za8
 rw [hsz, hL]
 by_cases h0 : L.length = 0
 ·simp only [if_pos h0]
  exact Ev.ifp (by omega) (Ev.now _)
 ·simp only [if_neg h0]
  refine Ev.ifn (by omega) ?_
  by_cases h10 : 10 < L.length
  ·simp only [if_pos h10]
   exact Ev.ifp (by omega) (Ev.now _)
  ·simp only [if_neg h10]
   refine Ev.ifn (by omega) ?_
   have hfin : ∀ r, (if L.head? = some 32 ∨ L.getLast? = some 32 then (2 : Int) else 0) = r → Ev (fun _ => if 0 < (s.size : Int) then (if (bt s 0) = 32 then (some 2) else (if 0 ≤ (wrap64 ((s.size : Int) - 1)) then (if (wrap64 ((s.size : Int) - 1)) < (s.size : Int) then (if (bt s (wrap64 ((s.size : Int) - 1))) = 32 then (some 2) else (some 0)) else (none)) else (none))) else (none)) r := by
    intro r hr
    have e0 := hbt 0 (by omega)
    have e1 := hbt (L.length - 1) (by omega)
    have hs1 : ((L.length - 1 : Nat) : Int) = (L.length : Int) - 1 := by omega
    rw [hs1] at e1
    have e0' : bt s 0 = (L[0].toNat : Int) := e0
    have hh : L.head? = some L[0] := by rw [List.head?_eq_getElem?, List.getElem?_eq_getElem (by omega)]
    have ht : L.getLast? = some L[L.length - 1] := by rw [List.getLast?_eq_getElem?, List.getElem?_eq_getElem (by omega)]
    have u32 : ∀ c : UInt8, (some c = some (32 : UInt8)) ↔ (c.toNat : Int) = 32 := by
     intro c
     rw [Option.some.injEq, ← UInt8.toNat_inj]
     constructor
     ·intro h; rw [h]; rfl
     ·intro h; have : c.toNat = 32 := by omega
      rw [this]; rfl
    simp only [hh, ht, u32] at hr
    rw [hsz, hL, zdp (by omega) (by omega), e0', e1]
    refine Ev.ifp (by omega) ?_
    by_cases c0 : (L[0].toNat : Int) = 32
    ·rw [if_pos (.inl c0)] at hr
     rw [← hr]; exact Ev.ifp c0 (Ev.now _)
    ·refine Ev.ifn c0 (Ev.ifp (by omega) (Ev.ifp (by omega) ?_))
     by_cases c1 : (L[L.length - 1].toNat : Int) = 32
     ·rw [if_pos (.inr c1)] at hr
      rw [← hr]; exact Ev.ifp c1 (Ev.now _)
     ·rw [if_neg (fun h => h.elim c0 c1)] at hr
      rw [← hr]; exact Ev.ifn c1 (Ev.now _)
   have go : ∀ (m i : Nat), L.length - i = m → i ≤ L.length → Ev (fun k => zP.l0 k s (i : Int)) (if (L.drop i).all okb = true then (if L.head? = some 32 ∨ L.getLast? = some 32 then (2 : Int) else 0) else 2) := by
    intro m
    induction m with
    | zero =>
     intro i hm hi
     rw [List.drop_eq_nil_of_le (by omega), List.all_nil, if_pos rfl]
     refine Ev.step (fun k => by rw [zP.l0]) ?_
     refine Ev.ifn (by rw [hsz, hL]; omega) ?_
     exact hfin _ rfl
    | succ m ih =>
     intro i hm hi
     have hlt : i < L.length := by omega
     have hnext := ih (i + 1) (by omega) (by omega)
     rw [List.drop_eq_getElem_cons hlt, List.all_cons]
     refine Ev.step (fun k => by rw [zP.l0]) ?_
     refine Ev.ifp (by rw [hsz, hL]; omega) ?_
     refine Ev.ifp (by omega) ?_
     rw [hbt i hlt, zbE _ (by omega)]
     refine zim ?_ ?_
     ·intro hk
      rw [(zgb _).2 hk, Bool.true_and]
      exact hnext
     ·intro hk
      have : okb L[i] = false := Bool.eq_false_iff.2 (fun h => hk ((zgb _).1 h))
      rw [this, Bool.false_and, if_neg (by decide)]
   have := go L.length 0 (by omega) (by omega)
   rw [List.drop_zero] at this
   exact this
theorem zez (p : List ByteArray) : Ev (fun k => zak.f k p) (zbO p) := by
 unfold zak.f zbO
 by_cases h6 : 6 < p.length
 ·simp only [if_pos h6]
  exact Ev.ifp (by omega) (Ev.now _)
 ·simp only [if_neg h6]
  refine Ev.ifn (by omega) ?_
  have go : ∀ (m i : Nat), p.length - i = m → i ≤ p.length → Ev (fun k => zak.l0 k p (i : Int)) (zch (p.drop i)) := by
   intro m
   induction m with
   | zero =>
    intro i hm hi
    rw [List.drop_eq_nil_of_le (by omega), zch]
    refine Ev.step (fun k => by rw [zak.l0]) ?_
    exact Ev.ifn (by omega) (Ev.now _)
   | succ m ih =>
    intro i hm hi
    have hlt : i < p.length := by omega
    have r1 : zaX ByteArray.empty p (i : Int) = p[i] := by simp [zaX, hlt]
    rw [List.drop_eq_getElem_cons hlt, zch]
    refine Ev.step (fun k => by rw [zak.l0]) ?_
    refine Ev.ifp (by omega) ?_
    refine Ev.ifp (by omega) ?_
    rw [r1, zbE _ (by omega)]
    refine Ev.be (zea _) ?_
    by_cases he : za8 p[i] = 0
    ·simp only [if_pos he]
     exact ih (i + 1) (by omega) (by omega)
    ·simp only [if_neg he]
     exact Ev.now _
  have := go p.length 0 (by omega) (by omega)
  rw [List.drop_zero] at this
  exact this
theorem zfJ (n : Nat) (hn : n ≤ 1000) (ms : List S63) (hms : ms.length ≤ 1000) (i : Nat) (hi : i < ms.length) (x : S63) (hx : ms[i] = x) : Ev (fun k => zy.f k (n : Int) ms (i : Int)) (zbC n (zb0 ms i) x) := by
 have r1 : zg ms (i : Int) = x := by simp [zg, hi, hx]
 obtain ⟨f0, f1, f2⟩ := x
 have J1 : ∀ kd : Int, kd = f0 → Ev (fun k => zy.j1 k ms (i : Int) kd f1 f2) (zbB (zb0 ms i) ⟨f0, f1, f2⟩) := by
  rintro kd rfl
  refine Ev.step (fun k => by rw [zy.j1]) ?_
  by_cases h0 : i = 0
  ·subst h0
   exact Ev.ifp rfl (Ev.now _)
  ·have hi1 : i - 1 < ms.length := by omega
   have w3 : wrap64 ((i : Int) - 1) = ((i - 1 : Nat) : Int) := by rw [zdp (by omega) (by omega)]; omega
   have hp : zb0 ms i = some ms[i - 1] := by simp [zb0, h0, hi1]
   have r2 : zg ms ((i - 1 : Nat) : Int) = ms[i - 1] := by simp [zg, hi1]
   rw [hp, w3, r2]
   clear w3
   obtain ⟨q, hq⟩ : ∃ q, ms[i - 1] = q := ⟨_, rfl⟩
   rw [hq]
   refine Ev.ifn (by omega) ?_
   refine Ev.ifp (by omega) ?_
   refine Ev.ifp (by omega) ?_
   simp only [zbB]
   by_cases c1 : f1 < q.f1
   ·simp only [if_pos c1]; exact Ev.now _
   ·simp only [if_neg c1]
    by_cases c2 : q.f1 < f1
    ·have hP : q.f1 < f1 ∨ q.f0 = 1 := .inl c2
     simp only [if_pos hP]
     refine Ev.ifp c2 ?_
     refine Ev.step (fun k => by rw [zy.j2]) ?_
     exact Ev.ifp rfl (Ev.now _)
    ·refine Ev.ifn c2 ?_
     refine Ev.step (fun k => by rw [zy.j2]) ?_
     by_cases c3 : q.f0 = 1
     ·have hP : q.f1 < f1 ∨ q.f0 = 1 := .inr c3
      simp only [if_pos hP]
      exact Ev.ifp (beq_iff_eq.2 c3) (Ev.now _)
     ·have hP : ¬ (q.f1 < f1 ∨ q.f0 = 1) := fun h => h.elim c2 c3
      simp only [if_neg hP]
      refine Ev.ifn (fun h => c3 (beq_iff_eq.1 h)) ?_
      by_cases c4 : kd = 1
      ·simp only [if_pos c4]; exact Ev.now _
      ·simp only [if_neg c4]; exact Ev.now _
 have J0 : ∀ b : Bool, (b = true ↔ (f1 < 0 ∨ (if f0 = 1 then (n : Int) else (n : Int) - 1) < f1)) → Ev (fun k => zy.j0 k ms (i : Int) b f0 f1 f2) (if f1 < 0 ∨ (if f0 = 1 then (n : Int) else (n : Int) - 1) < f1 then 3 else if zbP ⟨f0, f1, f2⟩ = 0 then zbB (zb0 ms i) ⟨f0, f1, f2⟩ else zbP ⟨f0, f1, f2⟩) := by
  intro b hb
  refine Ev.step (fun k => by rw [zy.j0]) ?_
  cases b with
  | true =>
   rw [if_pos (hb.1 rfl)]
   exact Ev.ifp rfl (Ev.now _)
  | false =>
   have hnot : ¬ (f1 < 0 ∨ (if f0 = 1 then (n : Int) else (n : Int) - 1) < f1) := fun h => by have := hb.2 h; cases this
   rw [if_neg hnot]
   refine Ev.ifn Bool.false_ne_true ?_
   unfold zbP
   dsimp only
   by_cases k3 : f0 = 3
   ·simp only [if_pos k3]
    by_cases ht : f2.toList = []
    ·simp only [if_pos ht, if_true]
     exact J1 _ rfl
    ·simp only [if_neg ht]
     rw [if_neg (by decide)]
     exact Ev.now _
   ·simp only [if_neg k3]
    refine Ev.be (zea f2) ?_
    by_cases hl : za8 f2 = 0
    ·simp only [if_pos hl]
     exact J1 _ rfl
    ·simp only [if_neg hl]
     exact Ev.now _
 unfold zy.f zbC
 rw [r1]
 dsimp only
 refine Ev.ifp (by omega) (Ev.ifp (by omega) ?_)
 unfold zaA.f
 have hw : wrap64 ((n : Int) - 1) = (n : Int) - 1 := zdp (by omega) (by omega)
 rw [hw]
 clear hw
 by_cases k0 : f0 < 1 ∨ 3 < f0
 ·rw [if_pos k0]
  by_cases k1 : f0 ≥ 1
  ·rw [if_pos k1, decide_eq_false (by omega)]
   refine Ev.bs rfl ?_
   exact Ev.ifn Bool.false_ne_true (Ev.now _)
  ·rw [if_neg k1]
   refine Ev.bs rfl ?_
   exact Ev.ifn Bool.false_ne_true (Ev.now _)
 ·rw [if_neg k0, if_pos (by omega), decide_eq_true (by omega)]
  refine Ev.bs rfl ?_
  refine Ev.ifp rfl ?_
  by_cases k1 : f1 ≥ 0
  ·rw [if_pos k1]
   refine Ev.bs rfl ?_
   by_cases k2 : f1 ≤ (n : Int) - 1
   ·refine Ev.ifp (decide_eq_true k2) ?_
    refine J0 false ?_
    constructor
    ·intro h; cases h
    ·intro h; by_cases k5 : f0 = 1
     ·rw [if_pos k5] at h; omega
     ·rw [if_neg k5] at h; omega
   ·refine Ev.ifn (by rw [decide_eq_false k2]; decide) ?_
    by_cases k5 : f0 = 1
    ·refine Ev.ifp k5 ?_
     refine J0 _ ?_
     rw [if_pos k5, bne_iff_ne]; omega
    ·refine Ev.ifn k5 ?_
     refine J0 true ?_
     rw [if_neg k5]; exact ⟨fun _ => by omega, fun _ => rfl⟩
  ·rw [if_neg k1]
   refine Ev.bs rfl ?_
   refine Ev.ifn Bool.false_ne_true ?_
   by_cases k5 : f0 = 1
   ·refine Ev.ifp k5 ?_
    refine J0 _ ?_
    rw [if_pos k5, bne_iff_ne]; omega
   ·refine Ev.ifn k5 ?_
    refine J0 true ?_
    rw [if_neg k5]; exact ⟨fun _ => by omega, fun _ => rfl⟩
theorem zfq (n : Nat) (hn : n ≤ 1000) (ms : List S63) : Ev (fun k => zY.f k (n : Int) ms) (zco n ms) := by
 unfold zY.f zco
 by_cases h : 12 < ms.length
 ·simp only [if_pos h]
  exact Ev.ifp (by omega) (Ev.now _)
 ·simp only [if_neg h]
  refine Ev.ifn (by omega) ?_
  have go : ∀ (m i : Nat), ms.length - i = m → i ≤ ms.length → Ev (fun k => zY.l0 k (n : Int) ms (i : Int)) (zbq n (zb0 ms i) (ms.drop i)) := by
   intro m
   induction m with
   | zero =>
    intro i hm hi
    rw [List.drop_eq_nil_of_le (by omega), zbq]
    refine Ev.step (fun k => by rw [zY.l0]) ?_
    exact Ev.ifn (by omega) (Ev.now _)
   | succ m ih =>
    intro i hm hi
    have hlt : i < ms.length := by omega
    have hp1 : zb0 ms (i + 1) = some ms[i] := by simp [zb0, hlt]
    have hnext := ih (i + 1) (by omega) (by omega)
    rw [hp1] at hnext
    rw [List.drop_eq_getElem_cons hlt, zbq]
    refine Ev.step (fun k => by rw [zY.l0]) ?_
    refine Ev.ifp (by omega) ?_
    rw [zbE _ (by omega)]
    refine Ev.be (zfJ n hn ms (by omega) i hlt _ rfl) ?_
    by_cases he : zbC n (zb0 ms i) ms[i] = 0
    ·simp only [if_pos he]; exact hnext
    ·simp only [if_neg he]; exact Ev.now _
  have := go ms.length 0 (by omega) (by omega)
  rw [List.drop_zero] at this
  exact this
theorem zet (p : List ByteArray) (ms : List S63) : Ev (fun k => zaI.f k p ms) (zbj p ms) := by
 unfold zaI.f zbj
 refine Ev.be (zez p) ?_
 by_cases h : zbO p = 0
 ·simp only [if_pos h]
  have := zdU h
  exact Ev.be (zfq p.length (by omega) ms) (Ev.now _)
 ·simp only [if_neg h]; exact Ev.now _
def zaW (i : Int) (st : List ByteArray × Bool × ByteArray) (m : S63) : List ByteArray × Bool × ByteArray :=
 if m.f1 = i then (if m.f0 = 1 then (st.1 ++ [m.f2], st.2.1, st.2.2) else if m.f0 = 2 then (st.1, st.2.1, m.f2) else (st.1, false, st.2.2)) else st
theorem zdd (i : Int) : ∀ (ms : List S63) (st : List ByteArray × Bool × ByteArray), (∀ m ∈ ms, m.f1 ≠ i) → ms.foldl (zaW i) st = st
 | [], _, _ => rfl
 | m :: ms, st, h => by
  rw [List.foldl_cons, show zaW i st m = st from by unfold zaW; rw [if_neg (h m List.mem_cons_self)]]
  exact zdd i ms st (fun x hx => h x (List.mem_cons_of_mem _ hx))
theorem zed (i : Nat) : ∀ (ys : List ByteArray) (acc : List ByteArray) (b : Bool) (t : ByteArray), (ys.map fun y => (⟨1, (i : Int), y⟩ : S63)).foldl (zaW i) (acc, b, t) = (acc ++ ys, b, t)
 | [], acc, b, t => by simp
 | y :: ys, acc, b, t => by
  rw [List.map_cons, List.foldl_cons]
  have e : zaW (i : Int) (acc, b, t) ⟨1, (i : Int), y⟩ = (acc ++ [y], b, t) := by simp [zaW]
  rw [e, zed i ys (acc ++ [y]) b t, List.append_assoc, List.singleton_append]
theorem zbr.ziG {i : Nat} {a b : List ByteArray} {ms : List S63} (h : zbr i a b ms) : ∃ (ys : List ByteArray) (ms1 : List S63) (b1 : List ByteArray), ms = (ys.map fun y => (⟨1, (i : Int), y⟩ : S63)) ++ ms1 ∧ b = ys ++ b1 ∧
  ((a = [] ∧ ms1 = [] ∧ b1 = []) ∨ (∃ x a' ms2, a = x :: a' ∧ ms1 = ⟨3, (i : Int), ⟨#[]⟩⟩ :: ms2 ∧ zbr (i + 1) a' b1 ms2) ∨ (∃ x a' y ms2 b2, a = x :: a' ∧ ms1 = ⟨2, (i : Int), y⟩ :: ms2 ∧ b1 = y :: b2 ∧ zbr (i + 1) a' b2 ms2) ∨ (∃ x a' b2, a = x :: a' ∧ b1 = x :: b2 ∧ zbr (i + 1) a' b2 ms1)) := by
 induction h with
 | nil i => exact ⟨[], [], [], rfl, rfl, .inl ⟨rfl, rfl, rfl⟩⟩
 | @ins i a b ms y h ih =>
  obtain ⟨ys, ms1, b1, rfl, rfl, hr⟩ := ih
  exact ⟨y :: ys, ms1, b1, rfl, rfl, hr⟩
 | @del i a b ms x h ih => exact ⟨[], _, b, rfl, rfl, .inr (.inl ⟨x, a, ms, rfl, rfl, h⟩)⟩
 | @set i a b ms x y h ih => exact ⟨[], _, _, rfl, rfl, .inr (.inr (.inl ⟨x, a, y, ms, b, rfl, rfl, rfl, h⟩))⟩
 | @keep i a b ms x h ih => exact ⟨[], _, _, rfl, rfl, .inr (.inr (.inr ⟨x, a, b, rfl, rfl, h⟩))⟩
theorem ze5 (p : List ByteArray) (M : List S63) (hM : M.length ≤ 1000) (i : Nat) (r : List ByteArray) : ∀ (m j : Nat) (acc : List ByteArray) (b : Bool) (t : ByteArray), M.length - j = m → j ≤ M.length → acc.length ≤ 10000000 + j →
  Ev (fun k => if (((M.drop j).foldl (zaW i) (acc, b, t)).2.1) = true then (if (((M.drop j).foldl (zaW i) (acc, b, t)).1).length < 8796093022208 then (zG.l0 k p M ((((M.drop j).foldl (zaW i) (acc, b, t)).1) ++ [((M.drop j).foldl (zaW i) (acc, b, t)).2.2]) (wrap64 ((i : Int) + 1))) else (none)) else (zG.l0 k p M (((M.drop j).foldl (zaW i) (acc, b, t)).1) (wrap64 ((i : Int) + 1)))) r →
  Ev (fun k => zG.l1 k p M acc (i : Int) b t (j : Int)) r
 | 0, j, acc, b, t, hm, hj, ha, H => by
  rw [List.drop_eq_nil_of_le (by omega), List.foldl_nil] at H
  refine Ev.step (fun k => by rw [zG.l1]) ?_
  exact Ev.ifn (by omega) H
 | m + 1, j, acc, b, t, hm, hj, ha, H => by
  have hlt : j < M.length := by omega
  have r1 : zg M (j : Int) = M[j] := by simp [zg, hlt]
  have go := fun acc b t (ha : acc.length ≤ 10000000 + (j + 1)) => ze5 p M hM i r m (j + 1) acc b t (by omega) (by omega) ha
  rw [List.drop_eq_getElem_cons hlt, List.foldl_cons] at H
  have hlt' : (j : Int) < (M.length : Int) := by omega
  refine Ev.step (fun k => by rw [zG.l1]) ?_
  refine Ev.ifp hlt' ?_
  refine Ev.ifp (by omega) ?_
  rw [r1, zbE _ (by omega)]
  by_cases c1 : M[j].f1 = (i : Int)
  ·refine Ev.ifp c1 ?_
   by_cases c2 : M[j].f0 = 1
   ·refine Ev.ifp c2 ?_
    have e : zaW (i : Int) (acc, b, t) M[j] = (acc ++ [M[j].f2], b, t) := by unfold zaW; rw [if_pos c1, if_pos c2]
    rw [e] at H
    refine Ev.ifp (by omega) ?_
    exact go _ _ _ (by simp; omega) H
   ·refine Ev.ifn c2 ?_
    by_cases c3 : M[j].f0 = 2
    ·refine Ev.ifp c3 ?_
     have e : zaW (i : Int) (acc, b, t) M[j] = (acc, b, M[j].f2) := by unfold zaW; rw [if_pos c1, if_neg c2, if_pos c3]
     rw [e] at H
     exact go _ _ _ (by omega) H
    ·refine Ev.ifn c3 ?_
     have e : zaW (i : Int) (acc, b, t) M[j] = (acc, false, t) := by unfold zaW; rw [if_pos c1, if_neg c2, if_neg c3]
     rw [e] at H
     exact go _ _ _ (by omega) H
  ·refine Ev.ifn c1 ?_
   have e : zaW (i : Int) (acc, b, t) M[j] = (acc, b, t) := by unfold zaW; rw [if_neg c1]
   rw [e] at H
   exact go _ _ _ (by omega) H
theorem zgg (p : List ByteArray) (M : List S63) (hM : M.length ≤ 1000) (hp : p.length ≤ 1000) : ∀ (d i : Nat) (pre ms : List S63) (acc b : List ByteArray), p.length + 1 - i = d → i ≤ p.length → M = pre ++ ms → (∀ m ∈ pre, m.f1 < (i : Int)) → zbr i (p.drop i) b ms → acc.length ≤ 3000 * i →
  Ev (fun k => zG.l0 k p M acc (i : Int)) (acc ++ b)
 | 0, i, pre, ms, acc, b, hd, hi, _, _, _, _ => by omega
 | d + 1, i, pre, ms, acc, b, hd, hi, hM2, hpre, hmk, ha => by
  have hip : (i : Int) ≤ (p.length : Int) := by omega
  have hi6 : i ≤ 1000000 := by omega
  obtain ⟨ys, ms1, b1, e1, e2, hr⟩ := hmk.ziG
  have hys : ys.length ≤ 1000 := by
   have := congrArg List.length hM2
   rw [e1] at this
   simp at this; omega
  have hfold : ∀ (st : Bool) (t : ByteArray), (M.drop 0).foldl (zaW i) (acc, st, t) = ms1.foldl (zaW i) (acc ++ ys, st, t) := by
   intro st t
   rw [List.drop_zero, hM2, e1, List.foldl_append, List.foldl_append, zdd (i : Int) pre _ (fun m hm => by have := hpre m hm; omega), zed]
  have skip2 : ∀ {a' b' ms2}, zbr (i + 1) a' b' ms2 → ∀ st, ms2.foldl (zaW i) st = st := fun h st => zdd (i : Int) _ st (fun m hm => by have := h.ge m hm; omega)
  have hnext := fun pre ms acc b (h1 : M = pre ++ ms) (h2 : ∀ m ∈ pre, m.f1 < ((i + 1 : Nat) : Int)) (h3 : zbr (i + 1) (p.drop (i + 1)) b ms) (hlt : i < p.length) (h4 : acc.length ≤ 3000 * (i + 1)) =>
   zgg p M hM hp d (i + 1) pre ms acc b (by omega) hlt h1 h2 h3 h4
  have hlen : (acc ++ ys).length ≤ 3000 * i + 1000 := by rw [List.length_append]; omega
  have hpre2 : ∀ m ∈ pre ++ ys.map (fun y => (⟨1, (i : Int), y⟩ : S63)), m.f1 < ((i + 1 : Nat) : Int) := by
   intro m hm
   rcases List.mem_append.1 hm with h | h
   ·have := hpre m h; omega
   ·obtain ⟨y, _, rfl⟩ := List.mem_map.1 h
    dsimp only; omega
  refine Ev.step (fun k => by rw [zG.l0]) ?_
  refine Ev.ifp hip ?_
  rcases hr with ⟨ha0, rfl, rfl⟩ | hr
  ·have hil : i = p.length := by
    have := congrArg List.length ha0
    simp at this; omega
   refine Ev.ifn (by omega) ?_
   rw [decide_eq_false (by omega)]
   refine Ev.step (fun k => by rw [zG.j1]) ?_
   refine ze5 p M hM i _ M.length 0 acc false _ (by omega) (by omega) (by omega) ?_
   rw [hfold]
   refine Ev.ifn Bool.false_ne_true ?_
   rw [zbE _ hi6, e2, List.append_nil]
   refine Ev.step (fun k => by rw [zG.l0]) ?_
   exact Ev.ifn (by omega) (Ev.now _)
  ·have hlt : i < p.length := by
    rcases hr with ⟨x, a', _, h, _⟩ | ⟨x, a', _, _, _, h, _⟩ | ⟨x, a', _, h, _⟩ <;>
    ·have := congrArg List.length h
     simp at this; omega
   have hlt' : (i : Int) < (p.length : Int) := by omega
   have hda : ∀ x a', p.drop i = x :: a' → p[i] = x ∧ p.drop (i + 1) = a' := by
    intro x a' h
    rw [List.drop_eq_getElem_cons hlt] at h
    injection h with h1 h2
    exact ⟨h1, h2⟩
   have r1 : zaX ByteArray.empty p (i : Int) = p[i] := by simp [zaX, hlt]
   have hbig : ∀ zs : List ByteArray, zs.length ≤ 3000 * i + 1000 → zs.length < 8796093022208 := fun zs h => by omega
   refine Ev.ifp hlt' (Ev.ifp (by omega) ?_)
   rw [decide_eq_true hlt', r1]
   refine Ev.step (fun k => by rw [zG.j1]) ?_
   refine ze5 p M hM i _ M.length 0 acc true _ (by omega) (by omega) (by omega) ?_
   rw [hfold, zbE _ hi6]
   rcases hr with ⟨x, a', ms2, h1, rfl, hmk2⟩ | ⟨x, a', y, ms2, b2, h1, rfl, rfl, hmk2⟩ | ⟨x, a', b2, h1, rfl, hmk2⟩
   ·obtain ⟨h2, h3⟩ := hda x a' h1
    have e : zaW (i : Int) (acc ++ ys, true, p[i]) ⟨3, (i : Int), ⟨#[]⟩⟩ = (acc ++ ys, false, p[i]) := by simp [zaW]
    rw [List.foldl_cons, e, skip2 hmk2]
    refine Ev.ifn Bool.false_ne_true ?_
    rw [e2, ← List.append_assoc]
    refine hnext (pre ++ ys.map (fun y => (⟨1, (i : Int), y⟩ : S63)) ++ [⟨3, (i : Int), ⟨#[]⟩⟩]) ms2 (acc ++ ys) b1 (by rw [hM2, e1]; simp) ?_ (by rw [h3]; exact hmk2) hlt (by omega)
    intro m hm
    rcases List.mem_append.1 hm with h | h
    ·exact hpre2 m h
    ·rw [List.mem_singleton.1 h]; dsimp only; omega
   ·obtain ⟨h2, h3⟩ := hda x a' h1
    have e : zaW (i : Int) (acc ++ ys, true, p[i]) ⟨2, (i : Int), y⟩ = (acc ++ ys, true, y) := by simp [zaW]
    rw [List.foldl_cons, e, skip2 hmk2]
    refine Ev.ifp rfl (Ev.ifp (hbig _ hlen) ?_)
    rw [e2, ← List.append_assoc, show acc ++ ys ++ y :: b2 = (acc ++ ys ++ [y]) ++ b2 by simp]
    refine hnext (pre ++ ys.map (fun y => (⟨1, (i : Int), y⟩ : S63)) ++ [⟨2, (i : Int), y⟩]) ms2 (acc ++ ys ++ [y]) b2 (by rw [hM2, e1]; simp) ?_ (by rw [h3]; exact hmk2) hlt (by rw [List.length_append, List.length_singleton]; omega)
    intro m hm
    rcases List.mem_append.1 hm with h | h
    ·exact hpre2 m h
    ·rw [List.mem_singleton.1 h]; dsimp only; omega
   ·obtain ⟨h2, h3⟩ := hda x a' h1
    rw [skip2 hmk2]
    refine Ev.ifp rfl (Ev.ifp (hbig _ hlen) ?_)
    dsimp only
    rw [e2, ← List.append_assoc, h2, show acc ++ ys ++ x :: b2 = (acc ++ ys ++ [x]) ++ b2 by simp]
    exact hnext (pre ++ ys.map (fun y => (⟨1, (i : Int), y⟩ : S63))) ms1 (acc ++ ys ++ [x]) b2 (by rw [hM2, e1]; simp) hpre2 (by rw [h3]; exact hmk2) hlt (by rw [List.length_append, List.length_singleton]; omega)
theorem zgs (p : List ByteArray) (ms : List S63) (h : zbj p ms = 0) : Ev (fun k => zG.f k p ms) (zcm p ms) := by
 obtain ⟨h1, h2⟩ := zcZ h
 have l1 := zdU h1
 have l2 := zdm h2
 have := zgg p ms (by omega) (by omega) _ 0 [] ms [] (zcm p ms) rfl (Nat.zero_le _) rfl (fun m hm => by cases hm) (by rw [List.drop_zero]; exact zew h2) (by simp)
 rw [List.nil_append] at this
 exact this
theorem zf5 (p : List ByteArray) (ms : List S63) : Ev (fun k => zbK.f k p ms) (zdu p ms) := by
 unfold zbK.f zdu
 refine Ev.be (zet p ms) ?_
 by_cases h : zbj p ms = 0
 ·simp only [if_pos h]
  refine Ev.be (zgs p ms h) ?_
  by_cases h6 : 6 < (zcm p ms).length
  ·simp only [if_pos h6]
   exact Ev.ifp (by omega) (Ev.now _)
  ·simp only [if_neg h6]
   exact Ev.ifn (by omega) (Ev.now _)
 ·simp only [if_neg h]
  exact Ev.now _
def zeN (p : List ByteArray) (ms : List S63) : Int × Int := if zbj p ms = 0 then (zct ms, 0) else (0, zbj p ms)
theorem zhp (p : List ByteArray) (ms : List S63) : Ev (fun k => za1.f k p ms) (zeN p ms) := by
 unfold zeN
 by_cases h : zbj p ms = 0
 ·rw [if_pos h]; exact zhX p ms h
 ·rw [if_neg h]
  unfold za1.f
  exact Ev.be (zdY p ms) (Ev.ifn h (Ev.now _))
theorem zgA (ms : List S63) (hm : ms.length ≤ 1000) : Ev (fun k => zao.f k ms) (zct ms) := by
 have go : ∀ (m i : Nat) (n : Int), ms.length - i = m → i ≤ ms.length → 0 ≤ n → n ≤ (i : Int) → Ev (fun k => zao.l0 k ms n (i : Int)) (n + zct (ms.drop i)) := by
  intro m
  induction m with
  | zero =>
   intro i n hm hi h0 h1
   rw [List.drop_eq_nil_of_le (by omega), zct, Int.add_zero]
   refine Ev.step (fun k => by rw [zao.l0]) ?_
   exact Ev.ifn (by omega) (Ev.now _)
  | succ m ih =>
   intro i n hm hi h0 h1
   have hlt : i < ms.length := by omega
   have hlt' : (i : Int) < (ms.length : Int) := by omega
   have r1 : zg ms (i : Int) = ms[i] := by simp [zg, hlt]
   rw [List.drop_eq_getElem_cons hlt, zct]
   refine Ev.step (fun k => by rw [zao.l0]) ?_
   refine Ev.ifp hlt' ?_
   refine Ev.ifp (by omega) ?_
   rw [r1, zbE _ (by omega)]
   by_cases hc : ms[i].f0 = 3
   ·rw [if_pos hc, Int.zero_add]
    exact Ev.ifp hc (ih (i + 1) n (by omega) (by omega) h0 (by omega))
   ·rw [if_neg hc]
    refine Ev.ifn hc ?_
    rw [zdp (by omega) (by omega)]
    have := ih (i + 1) (n + 1) (by omega) (by omega) (by omega) (by omega)
    rw [Int.add_assoc] at this
    exact this
 have := go ms.length 0 0 (by omega) (by omega) (by omega) (by omega)
 rw [List.drop_zero, Int.zero_add] at this
 exact this
theorem zgK (p : List ByteArray) (ms : List S63) : Ev (fun k => zbM.f k p ms) (zeN p ms) := by
 unfold zbM.f zeN
 refine Ev.be (zet p ms) ?_
 by_cases h : zbj p ms = 0
 ·simp only [if_pos h]
  have := zdm (zcZ h).2
  exact Ev.be (zgA ms (by omega)) (Ev.now _)
 ·simp only [if_neg h]; exact Ev.now _
theorem zfP (p : List ByteArray) (hp : p.length ≤ 1000) : Ev (fun k => zah.f k p p) true := ⟨p.length + 1, fun k hk => ze8 p hp k (by omega)⟩
theorem zgq (ms : List S63) (hp : ms.length ≤ 1000) : Ev (fun k => zat.f k ms ms) true := by
 have go : ∀ (m i : Nat), ms.length - i = m → i ≤ ms.length → Ev (fun k => zat.l0 k ms ms (i : Int)) true := by
  intro m
  induction m with
  | zero =>
   intro i h hi
   refine Ev.step (fun k => by rw [zat.l0]) ?_
   exact Ev.ifn (by omega) (Ev.now _)
  | succ m ih =>
   intro i h hi
   have hlt : (i : Int) < (ms.length : Int) := by omega
   refine Ev.step (fun k => by rw [zat.l0]) ?_
   refine Ev.ifp hlt (Ev.ifp (by omega) (Ev.ifp hlt ?_))
   refine Ev.ifn (by simp) ?_
   rw [zbE _ (by omega)]
   exact ih (i + 1) (by omega) (by omega)
 unfold zat.f
 exact Ev.ifp rfl (go ms.length 0 (by omega) (by omega))
theorem zic (p : List ByteArray) (hp : p.length ≤ 9223372036854775807) : ∃ b : Bool, Ev (fun k => zaE.f k p) b ∧ (b = false → p.length ≤ 20) := by
 have go : ∀ (m i : Nat), p.length - i = m → i ≤ p.length → ∃ b : Bool, Ev (fun k => zaE.l0 k p (i : Int)) b ∧ (b = false → p.length ≤ 20) := by
  intro m
  induction m with
  | zero =>
   intro i h hi
   refine ⟨decide ((p.length : Int) > 20), ?_, fun h => by have := of_decide_eq_false h; omega⟩
   refine Ev.step (fun k => by rw [zaE.l0]) ?_
   exact Ev.ifn (by omega) (Ev.now _)
  | succ m ih =>
   intro i h hi
   have hlt : (i : Int) < (p.length : Int) := by omega
   have hw : wrap64 ((i : Int) + 1) = ((i + 1 : Nat) : Int) := by unfold wrap64; omega
   by_cases hc : ((zaX ByteArray.empty p (i : Int)).size : Int) > 30
   ·refine ⟨true, ?_, fun h => by cases h⟩
    refine Ev.step (fun k => by rw [zaE.l0]) ?_
    exact Ev.ifp hlt (Ev.ifp (by omega) (Ev.ifp hc (Ev.now _)))
   ·obtain ⟨b, h1, h2⟩ := ih (i + 1) (by omega) (by omega)
    refine ⟨b, ?_, h2⟩
    refine Ev.step (fun k => by rw [zaE.l0]) ?_
    refine Ev.ifp hlt (Ev.ifp (by omega) (Ev.ifn hc ?_))
    rw [hw]; exact h1
 exact go p.length 0 (by omega) (by omega)
theorem zh0 (p : List S63) (hp : p.length ≤ 9223372036854775807) : ∃ b : Bool, Ev (fun k => zaD.f k p) b ∧ (b = false → p.length ≤ 20) := by
 have go : ∀ (m i : Nat), p.length - i = m → i ≤ p.length → ∃ b : Bool, Ev (fun k => zaD.l0 k p (i : Int)) b ∧ (b = false → p.length ≤ 20) := by
  intro m
  induction m with
  | zero =>
   intro i h hi
   refine ⟨decide ((p.length : Int) > 20), ?_, fun h => by have := of_decide_eq_false h; omega⟩
   refine Ev.step (fun k => by rw [zaD.l0]) ?_
   exact Ev.ifn (by omega) (Ev.now _)
  | succ m ih =>
   intro i h hi
   have hlt : (i : Int) < (p.length : Int) := by omega
   have hw : wrap64 ((i : Int) + 1) = ((i + 1 : Nat) : Int) := by unfold wrap64; omega
   by_cases hc : ((zg p (i : Int)).f2.size : Int) > 30
   ·refine ⟨true, ?_, fun h => by cases h⟩
    refine Ev.step (fun k => by rw [zaD.l0]) ?_
    exact Ev.ifp hlt (Ev.ifp (by omega) (Ev.ifp hc (Ev.now _)))
   ·obtain ⟨b, h1, h2⟩ := ih (i + 1) (by omega) (by omega)
    refine ⟨b, ?_, h2⟩
    refine Ev.step (fun k => by rw [zaD.l0]) ?_
    refine Ev.ifp hlt (Ev.ifp (by omega) (Ev.ifn hc ?_))
    rw [hw]; exact h1
 exact go p.length 0 (by omega) (by omega)
end Go.Proofs.Ytgmbbfmbimofoaa.P
