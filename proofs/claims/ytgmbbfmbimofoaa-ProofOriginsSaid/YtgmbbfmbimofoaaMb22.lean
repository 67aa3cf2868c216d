-- MERGED BY A PROGRAM out of texts of this claim: hand work, and what a (turned) print of the kit has written for it
import Derived.Outline
import Derived.Test.YtgmbbfmbimofoaaMb21
import Derived.Test.YtgmbbfmbimofoaaMb5
import Derived.Test.YtgmbbfmbimofoaaMb17
import Derived.Test.YtgmbbfmbimofoaaMb8
import Derived.Test.YtgmbbfmbimofoaaMb6
namespace Go.Proofs.Ytgmbbfmbimofoaa.P
open Go.RowKit Go.Proofs.YtgmbbfmbimofoaaW.PrintWords Go.Proofs.YtgmbbfmbimofoaaW.PrintLast Go.Proofs.YtgmbbfmbimofoaaW.PrintMore
attribute [local go_sem] zU zV z8 zaa zQ zR zS zT
set_option linter.unusedVariables false
set_option linter.unusedSimpArgs false
def zc6 : ByteArray := ⟨#[97, 110, 110, 97]⟩
def zdY : ByteArray := ⟨#[98, 101, 110]⟩
def zhs : ByteArray := ⟨#[99, 121, 100]⟩
def zfS : ByteArray := ⟨#[98, 101, 97]⟩
def zfX : ByteArray := ⟨#[99, 105, 100]⟩
def zhp : ByteArray := ⟨#[100, 97, 110]⟩
def zi1 : ByteArray := ⟨#[97, 98, 101]⟩
def zc5 : List ByteArray := [zc6, zdY, zhs]
def zcM : List S63 := [⟨1, 1, zfS⟩, ⟨2, 2, zfX⟩]
def zd5 : List (List ByteArray) := [[zc6, zdY], [zc6, zhs]]
theorem zgW : zcf.f 100 zc5 zcM = some ([zc6, zfS, zdY, zfX], 0) := by kernel_rfl
theorem zgp : zaB.f 100 zd5 [zc6, zdY, zhp] = some ([1, 0, -1], 0) := by kernel_rfl
theorem zh5 : zaR.f 100 [zc6, zfS, zdY, zfX] [zc6, zfS, zdY, zfX] = some true := by kernel_rfl
theorem zg0 : zce.f zc5 [⟨1, 0, zi1⟩, ⟨3, 1, ⟨#[]⟩⟩, ⟨3, 2, ⟨#[]⟩⟩] 3 = some ([1, 0, 2], 0) := by kernel_rfl
theorem zh0 : zaW.f 100 zcM zcM = some true := by kernel_rfl
theorem zho : zaQ.f 100 [1, 0, 2] [1, 0, 2] = some true := by kernel_rfl
theorem zg9 : zaQ.f 100 [1, 0, -1] [1, 0, -1] = some true := by kernel_rfl
theorem zhh : zc7.f 100 zc5 [zc6, zfS, zdY, zfX] = some (zcM, 0) := by kernel_rfl
theorem zhe : zc4.f 100 zd5 [⟨1, 2, zhp⟩] [zc6, zhs, zdY, zhp] = some (2, 2, 0) := by kernel_rfl
set_option maxHeartbeats 4000000 in
set_option maxRecDepth 100000 in
theorem zeQ (w : World) : Calls Try.prog 18 #[] w fun e w' => e = .returned (.bool true) ∧ Below w.heap.size w w' := by
 go_enter Try.func18, Try.ntmps18
 have HB := za.mk (Below.refl w.heap.size w)
 go_wp2_with fail
 refine (zbI.calls zc5 _ rfl).mono ?_
 rintro e w1 ⟨v1, rfl, hR1, hb1⟩
 replace HB := za.mk (zu HB.out hb1)
 obtain ⟨A1, c1, rfl, _, _⟩ := Kd.zaN hR1
 have F1 := za.mk hR1
 clear hR1 hb1
 go_wp2_with fail
 refine (zbV.calls zcM _ rfl).mono ?_
 rintro e w2 ⟨v2, rfl, hR2, hb2⟩
 replace HB := za.mk (zu HB.out hb2)
 replace F1 := za.mk (Kd.zM F1.out hb2)
 obtain ⟨A2, c2, rfl, _, _⟩ := Kd.zaN hR2
 have F2 := za.mk hR2
 clear hR2 hb2
 go_wp2_with fail
 refine (zcf.calls 100 _ _ zc5 _ _ zcM [⟨#[97, 110, 110, 97]⟩, ⟨#[98, 101, 97]⟩, ⟨#[98, 101, 110]⟩, ⟨#[99, 105, 100]⟩] 0 _ (zbo F1.out).1 (zbo F1.out).2 (zbo F2.out).1 (zbo F2.out).2 zgW).mono ?_
 rintro e w3 ⟨v3, rfl, hR3, hb3⟩
 replace HB := za.mk (zu HB.out hb3)
 replace F1 := za.mk (Kd.zM F1.out hb3)
 replace F2 := za.mk (Kd.zM F2.out hb3)
 obtain ⟨A3, c3, rfl, _, _⟩ := Kd.zaN hR3
 have F3 := za.mk hR3
 clear hR3 hb3
 clear F1 F2
 go_wp2_with fail
 refine (zbI.calls zc5 _ rfl).mono ?_
 rintro e w4 ⟨v4, rfl, hR4, hb4⟩
 replace HB := za.mk (zu HB.out hb4)
 replace F3 := za.mk (Kd.zM F3.out hb4)
 obtain ⟨A4, c4, rfl, _, _⟩ := Kd.zaN hR4
 have F4 := za.mk hR4
 clear hR4 hb4
 go_wp2_with fail
 have hbx := ze (Below.refl w4.heap.size w4) (.cells #[.string ⟨#[97, 110, 110, 97]⟩, .string ⟨#[98, 101, 97]⟩, .string ⟨#[98, 101, 110]⟩, .string ⟨#[99, 105, 100]⟩] 9)
 have X1 := za.mk (heap_alloc_new w4 (.cells #[.string ⟨#[97, 110, 110, 97]⟩, .string ⟨#[98, 101, 97]⟩, .string ⟨#[98, 101, 110]⟩, .string ⟨#[99, 105, 100]⟩] 9))
 replace HB := za.mk (zu HB.out hbx)
 replace F3 := za.mk (Kd.zM F3.out hbx)
 replace F4 := za.mk (Kd.zM F4.out hbx)
 obtain ⟨u4, hu⟩ : ∃ u_, w4.alloc (.cells #[.string ⟨#[97, 110, 110, 97]⟩, .string ⟨#[98, 101, 97]⟩, .string ⟨#[98, 101, 110]⟩, .string ⟨#[99, 105, 100]⟩] 9) = u_ := ⟨_, rfl⟩
 rw [hu] at F3 F4 X1 HB ⊢
 clear hu hbx
 refine (zc7.calls 100 _ _ zc5 _ _ [⟨#[97, 110, 110, 97]⟩, ⟨#[98, 101, 97]⟩, ⟨#[98, 101, 110]⟩, ⟨#[99, 105, 100]⟩] zcM 0 _ (zbo F4.out).1 (zbo F4.out).2 (zeP X1.out rfl (by decide)) (by decide) zhh).mono ?_
 rintro e w5 ⟨v5, rfl, hR5, hb5⟩
 replace HB := za.mk (zu HB.out hb5)
 replace F3 := za.mk (Kd.zM F3.out hb5)
 replace F4 := za.mk (Kd.zM F4.out hb5)
 replace X1 := za.mk (zF X1.out hb5)
 obtain ⟨A5, c5, rfl, _, _⟩ := Kd.zaN hR5
 have F5 := za.mk hR5
 clear hR5 hb5
 clear F4 X1
 go_wp2_with fail
 refine (zbI.calls zc5 _ rfl).mono ?_
 rintro e w6 ⟨v6, rfl, hR6, hb6⟩
 replace HB := za.mk (zu HB.out hb6)
 replace F3 := za.mk (Kd.zM F3.out hb6)
 replace F5 := za.mk (Kd.zM F5.out hb6)
 obtain ⟨A6, c6, rfl, _, _⟩ := Kd.zaN hR6
 have F6 := za.mk hR6
 clear hR6 hb6
 go_wp2_with fail
 refine (zbv.calls 0 ⟨#[97, 98, 101]⟩ 1 0 ⟨#[97, 98, 101]⟩ _ rfl).mono ?_
 rintro e w7 ⟨rfl, hb7⟩
 replace HB := za.mk (zu HB.out hb7)
 replace F3 := za.mk (Kd.zM F3.out hb7)
 replace F5 := za.mk (Kd.zM F5.out hb7)
 replace F6 := za.mk (Kd.zM F6.out hb7)
 clear hb7
 go_wp2_with fail
 refine (zbZ.calls 1 3 1 ⟨#[]⟩ _ rfl).mono ?_
 rintro e w8 ⟨rfl, hb8⟩
 replace HB := za.mk (zu HB.out hb8)
 replace F3 := za.mk (Kd.zM F3.out hb8)
 replace F5 := za.mk (Kd.zM F5.out hb8)
 replace F6 := za.mk (Kd.zM F6.out hb8)
 clear hb8
 go_wp2_with fail
 refine (zbZ.calls 2 3 2 ⟨#[]⟩ _ rfl).mono ?_
 rintro e w9 ⟨rfl, hb9⟩
 replace HB := za.mk (zu HB.out hb9)
 replace F3 := za.mk (Kd.zM F3.out hb9)
 replace F5 := za.mk (Kd.zM F5.out hb9)
 replace F6 := za.mk (Kd.zM F6.out hb9)
 clear hb9
 go_wp2_with fail
 have hbx := ze (Below.refl w9.heap.size w9) (.cells #[.int .i64 1, .int .i64 0, .string ⟨#[97, 98, 101]⟩, .int .i64 3, .int .i64 1, .string ⟨#[]⟩, .int .i64 3, .int .i64 2, .string ⟨#[]⟩] 63)
 have X2 := za.mk (heap_alloc_new w9 (.cells #[.int .i64 1, .int .i64 0, .string ⟨#[97, 98, 101]⟩, .int .i64 3, .int .i64 1, .string ⟨#[]⟩, .int .i64 3, .int .i64 2, .string ⟨#[]⟩] 63))
 replace HB := za.mk (zu HB.out hbx)
 replace F3 := za.mk (Kd.zM F3.out hbx)
 replace F5 := za.mk (Kd.zM F5.out hbx)
 replace F6 := za.mk (Kd.zM F6.out hbx)
 obtain ⟨u9, hu⟩ : ∃ u_, w9.alloc (.cells #[.int .i64 1, .int .i64 0, .string ⟨#[97, 98, 101]⟩, .int .i64 3, .int .i64 1, .string ⟨#[]⟩, .int .i64 3, .int .i64 2, .string ⟨#[]⟩] 63) = u_ := ⟨_, rfl⟩
 rw [hu] at F3 F5 F6 X2 HB ⊢
 clear hu hbx
 refine (zce.calls _ _ zc5 _ _ [⟨1, 0, ⟨#[97, 98, 101]⟩⟩, ⟨3, 1, ⟨#[]⟩⟩, ⟨3, 2, ⟨#[]⟩⟩] 3 [1, 0, 2] 0 _ (zbo F6.out).1 (zbo F6.out).2 (zgk X2.out rfl (by decide)) (by decide) zg0).mono ?_
 rintro e w10 ⟨v10, rfl, hR10, hb10⟩
 replace HB := za.mk (zu HB.out hb10)
 replace F3 := za.mk (Kd.zM F3.out hb10)
 replace F5 := za.mk (Kd.zM F5.out hb10)
 replace F6 := za.mk (Kd.zM F6.out hb10)
 replace X2 := za.mk (zF X2.out hb10)
 obtain ⟨A10, c10, rfl, _, _⟩ := Kd.zaN hR10
 have F7 := za.mk hR10
 clear hR10 hb10
 clear F6 X2
 go_wp2_with fail
 refine (zbW.calls zd5 _ rfl).mono ?_
 rintro e w11 ⟨v11, rfl, hR11, hb11⟩
 replace HB := za.mk (zu HB.out hb11)
 replace F3 := za.mk (Kd.zM F3.out hb11)
 replace F5 := za.mk (Kd.zM F5.out hb11)
 replace F7 := za.mk (Kd.zM F7.out hb11)
 obtain ⟨A11, c11, rfl, _, _⟩ := Kd.zgf hR11
 have F8 := za.mk hR11
 clear hR11 hb11
 go_wp2_with fail
 have hbx := ze (Below.refl w11.heap.size w11) (.cells #[.string ⟨#[97, 110, 110, 97]⟩, .string ⟨#[98, 101, 110]⟩, .string ⟨#[100, 97, 110]⟩] 9)
 have X3 := za.mk (heap_alloc_new w11 (.cells #[.string ⟨#[97, 110, 110, 97]⟩, .string ⟨#[98, 101, 110]⟩, .string ⟨#[100, 97, 110]⟩] 9))
 replace HB := za.mk (zu HB.out hbx)
 replace F3 := za.mk (Kd.zM F3.out hbx)
 replace F5 := za.mk (Kd.zM F5.out hbx)
 replace F7 := za.mk (Kd.zM F7.out hbx)
 replace F8 := za.mk (Kd.zcn F8.out hbx)
 obtain ⟨u11, hu⟩ : ∃ u_, w11.alloc (.cells #[.string ⟨#[97, 110, 110, 97]⟩, .string ⟨#[98, 101, 110]⟩, .string ⟨#[100, 97, 110]⟩] 9) = u_ := ⟨_, rfl⟩
 rw [hu] at F3 F5 F7 F8 X3 HB ⊢
 clear hu hbx
 refine (zaB.calls 100 _ _ zd5 _ _ [⟨#[97, 110, 110, 97]⟩, ⟨#[98, 101, 110]⟩, ⟨#[100, 97, 110]⟩] [1, 0, -1] 0 _ (Kd.zdj F8.out).2.2 (Kd.zdj F8.out).2.1 (zeP X3.out rfl (by decide)) (by decide) zgp).mono ?_
 rintro e w12 ⟨v12, rfl, hR12, hb12⟩
 replace HB := za.mk (zu HB.out hb12)
 replace F3 := za.mk (Kd.zM F3.out hb12)
 replace F5 := za.mk (Kd.zM F5.out hb12)
 replace F7 := za.mk (Kd.zM F7.out hb12)
 replace F8 := za.mk (Kd.zcn F8.out hb12)
 replace X3 := za.mk (zF X3.out hb12)
 obtain ⟨A12, c12, rfl, _, _⟩ := Kd.zaN hR12
 have F9 := za.mk hR12
 clear hR12 hb12
 clear F8 X3
 go_wp2_with fail
 refine (zbW.calls zd5 _ rfl).mono ?_
 rintro e w13 ⟨v13, rfl, hR13, hb13⟩
 replace HB := za.mk (zu HB.out hb13)
 replace F3 := za.mk (Kd.zM F3.out hb13)
 replace F5 := za.mk (Kd.zM F5.out hb13)
 replace F7 := za.mk (Kd.zM F7.out hb13)
 replace F9 := za.mk (Kd.zM F9.out hb13)
 obtain ⟨A13, c13, rfl, _, _⟩ := Kd.zgf hR13
 have F10 := za.mk hR13
 clear hR13 hb13
 go_wp2_with fail
 refine (zbv.calls 2 ⟨#[100, 97, 110]⟩ 1 2 ⟨#[100, 97, 110]⟩ _ rfl).mono ?_
 rintro e w14 ⟨rfl, hb14⟩
 replace HB := za.mk (zu HB.out hb14)
 replace F3 := za.mk (Kd.zM F3.out hb14)
 replace F5 := za.mk (Kd.zM F5.out hb14)
 replace F7 := za.mk (Kd.zM F7.out hb14)
 replace F9 := za.mk (Kd.zM F9.out hb14)
 replace F10 := za.mk (Kd.zcn F10.out hb14)
 clear hb14
 go_wp2_with fail
 have hbx := ze (Below.refl w14.heap.size w14) (.cells #[.int .i64 1, .int .i64 2, .string ⟨#[100, 97, 110]⟩] 63)
 have X4 := za.mk (heap_alloc_new w14 (.cells #[.int .i64 1, .int .i64 2, .string ⟨#[100, 97, 110]⟩] 63))
 replace HB := za.mk (zu HB.out hbx)
 replace F3 := za.mk (Kd.zM F3.out hbx)
 replace F5 := za.mk (Kd.zM F5.out hbx)
 replace F7 := za.mk (Kd.zM F7.out hbx)
 replace F9 := za.mk (Kd.zM F9.out hbx)
 replace F10 := za.mk (Kd.zcn F10.out hbx)
 have e4 : (w14.alloc (.cells #[.int .i64 1, .int .i64 2, .string ⟨#[100, 97, 110]⟩] 63)).heap.size = w14.heap.size + 1 := Array.size_push _
 have hby := ze (Below.refl _ (w14.alloc (.cells #[.int .i64 1, .int .i64 2, .string ⟨#[100, 97, 110]⟩] 63))) (.cells #[.string ⟨#[97, 110, 110, 97]⟩, .string ⟨#[99, 121, 100]⟩, .string ⟨#[98, 101, 110]⟩, .string ⟨#[100, 97, 110]⟩] 9)
 have X5 := za.mk (heap_alloc_new (w14.alloc (.cells #[.int .i64 1, .int .i64 2, .string ⟨#[100, 97, 110]⟩] 63)) (.cells #[.string ⟨#[97, 110, 110, 97]⟩, .string ⟨#[99, 121, 100]⟩, .string ⟨#[98, 101, 110]⟩, .string ⟨#[100, 97, 110]⟩] 9))
 rw [e4] at X5
 replace HB := za.mk (zu HB.out hby)
 replace F3 := za.mk (Kd.zM F3.out hby)
 replace F5 := za.mk (Kd.zM F5.out hby)
 replace F7 := za.mk (Kd.zM F7.out hby)
 replace F9 := za.mk (Kd.zM F9.out hby)
 replace F10 := za.mk (Kd.zcn F10.out hby)
 replace X4 := za.mk (zF X4.out hby)
 obtain ⟨u14, hu⟩ : ∃ u_, (w14.alloc (.cells #[.int .i64 1, .int .i64 2, .string ⟨#[100, 97, 110]⟩] 63)).alloc (.cells #[.string ⟨#[97, 110, 110, 97]⟩, .string ⟨#[99, 121, 100]⟩, .string ⟨#[98, 101, 110]⟩, .string ⟨#[100, 97, 110]⟩] 9) = u_ := ⟨_, rfl⟩
 rw [hu] at F3 F5 F7 F9 F10 X4 X5 HB ⊢
 clear hu hbx hby e4
 refine (zc4.calls 100 _ _ zd5 _ _ [⟨1, 2, ⟨#[100, 97, 110]⟩⟩] _ _ [⟨#[97, 110, 110, 97]⟩, ⟨#[99, 121, 100]⟩, ⟨#[98, 101, 110]⟩, ⟨#[100, 97, 110]⟩] 2 2 0 _ (Kd.zdj F10.out).2.2 (Kd.zdj F10.out).2.1 (zgk X4.out rfl (by decide)) (by decide) (zeP X5.out rfl (by decide)) (by decide) zhe).mono ?_
 rintro e w15 ⟨rfl, hb15⟩
 replace HB := za.mk (zu HB.out hb15)
 replace F3 := za.mk (Kd.zM F3.out hb15)
 replace F5 := za.mk (Kd.zM F5.out hb15)
 replace F7 := za.mk (Kd.zM F7.out hb15)
 replace F9 := za.mk (Kd.zM F9.out hb15)
 replace F10 := za.mk (Kd.zcn F10.out hb15)
 replace X4 := za.mk (zF X4.out hb15)
 replace X5 := za.mk (zF X5.out hb15)
 clear hb15
 clear F10 X4 X5
 go_wp2_with fail
 have hbx := ze (Below.refl w15.heap.size w15) (.cells #[.int .i64 2, .int .i64 2] 54)
 replace HB := za.mk (zu HB.out hbx)
 replace F3 := za.mk (Kd.zM F3.out hbx)
 replace F5 := za.mk (Kd.zM F5.out hbx)
 replace F7 := za.mk (Kd.zM F7.out hbx)
 replace F9 := za.mk (Kd.zM F9.out hbx)
 have e4 : (w15.alloc (.cells #[.int .i64 2, .int .i64 2] 54)).heap.size = w15.heap.size + 1 := Array.size_push _
 have hby := ze (Below.refl _ (w15.alloc (.cells #[.int .i64 2, .int .i64 2] 54))) (.cells #[.string ⟨#[97, 110, 110, 97]⟩, .string ⟨#[98, 101, 97]⟩, .string ⟨#[98, 101, 110]⟩, .string ⟨#[99, 105, 100]⟩] 9)
 have X6 := za.mk (heap_alloc_new (w15.alloc (.cells #[.int .i64 2, .int .i64 2] 54)) (.cells #[.string ⟨#[97, 110, 110, 97]⟩, .string ⟨#[98, 101, 97]⟩, .string ⟨#[98, 101, 110]⟩, .string ⟨#[99, 105, 100]⟩] 9))
 rw [e4] at X6
 replace HB := za.mk (zu HB.out hby)
 replace F3 := za.mk (Kd.zM F3.out hby)
 replace F5 := za.mk (Kd.zM F5.out hby)
 replace F7 := za.mk (Kd.zM F7.out hby)
 replace F9 := za.mk (Kd.zM F9.out hby)
 obtain ⟨u15, hu⟩ : ∃ u_, (w15.alloc (.cells #[.int .i64 2, .int .i64 2] 54)).alloc (.cells #[.string ⟨#[97, 110, 110, 97]⟩, .string ⟨#[98, 101, 97]⟩, .string ⟨#[98, 101, 110]⟩, .string ⟨#[99, 105, 100]⟩] 9) = u_ := ⟨_, rfl⟩
 rw [hu] at F3 F5 F7 F9 X6 HB ⊢
 clear hu hbx hby e4
 refine (zaR.calls 100 _ _ [⟨#[97, 110, 110, 97]⟩, ⟨#[98, 101, 97]⟩, ⟨#[98, 101, 110]⟩, ⟨#[99, 105, 100]⟩] _ _ [⟨#[97, 110, 110, 97]⟩, ⟨#[98, 101, 97]⟩, ⟨#[98, 101, 110]⟩, ⟨#[99, 105, 100]⟩] true _ (zbo F3.out).1 (zbo F3.out).2 (zeP X6.out rfl (by decide)) (by decide) zh5).mono ?_
 rintro e w16 ⟨rfl, nd16, hw16⟩
 have hb16 : Below u15.heap.size u15 w16 := by rw [hw16]; exact zb (Below.refl _ _) _
 clear hw16
 replace HB := za.mk (zu HB.out hb16)
 replace F3 := za.mk (Kd.zM F3.out hb16)
 replace F5 := za.mk (Kd.zM F5.out hb16)
 replace F7 := za.mk (Kd.zM F7.out hb16)
 replace F9 := za.mk (Kd.zM F9.out hb16)
 replace X6 := za.mk (zF X6.out hb16)
 clear hb16
 clear F3 X6
 go_wp2_with fail
 refine (zbV.calls zcM _ rfl).mono ?_
 rintro e w17 ⟨v17, rfl, hR17, hb17⟩
 replace HB := za.mk (zu HB.out hb17)
 replace F5 := za.mk (Kd.zM F5.out hb17)
 replace F7 := za.mk (Kd.zM F7.out hb17)
 replace F9 := za.mk (Kd.zM F9.out hb17)
 obtain ⟨A17, c17, rfl, _, _⟩ := Kd.zaN hR17
 have F11 := za.mk hR17
 clear hR17 hb17
 go_wp2_with fail
 refine (zaW.calls 100 _ _ zcM _ _ zcM true _ (zbo F5.out).1 (zbo F5.out).2 (zbo F11.out).1 (zbo F11.out).2 zh0).mono ?_
 rintro e w18 ⟨rfl, nd18, hw18⟩
 have hb18 : Below w17.heap.size w17 w18 := by rw [hw18]; exact zb (Below.refl _ _) _
 clear hw18
 replace HB := za.mk (zu HB.out hb18)
 replace F5 := za.mk (Kd.zM F5.out hb18)
 replace F7 := za.mk (Kd.zM F7.out hb18)
 replace F9 := za.mk (Kd.zM F9.out hb18)
 replace F11 := za.mk (Kd.zM F11.out hb18)
 clear hb18
 clear F5 F11
 go_wp2_with fail
 have hbx := ze (Below.refl w18.heap.size w18) (.cells #[.int .i64 1, .int .i64 0, .int .i64 2] 3)
 have X7 := za.mk (heap_alloc_new w18 (.cells #[.int .i64 1, .int .i64 0, .int .i64 2] 3))
 replace HB := za.mk (zu HB.out hbx)
 replace F7 := za.mk (Kd.zM F7.out hbx)
 replace F9 := za.mk (Kd.zM F9.out hbx)
 obtain ⟨u18, hu⟩ : ∃ u_, w18.alloc (.cells #[.int .i64 1, .int .i64 0, .int .i64 2] 3) = u_ := ⟨_, rfl⟩
 rw [hu] at F7 F9 X7 HB ⊢
 clear hu hbx
 refine (zaQ.calls 100 _ _ [1, 0, 2] _ _ [1, 0, 2] true _ (zbo F7.out).1 (zbo F7.out).2 (zgZ X7.out rfl (by decide)) (by decide) zho).mono ?_
 rintro e w19 ⟨rfl, nd19, hw19⟩
 have hb19 : Below u18.heap.size u18 w19 := by rw [hw19]; exact zb (Below.refl _ _) _
 clear hw19
 replace HB := za.mk (zu HB.out hb19)
 replace F7 := za.mk (Kd.zM F7.out hb19)
 replace F9 := za.mk (Kd.zM F9.out hb19)
 replace X7 := za.mk (zF X7.out hb19)
 clear hb19
 clear F7 X7
 go_wp2_with fail
 have hbx := ze (Below.refl w19.heap.size w19) (.cells #[.int .i64 1, .int .i64 0, .int .i64 (-1)] 3)
 have X8 := za.mk (heap_alloc_new w19 (.cells #[.int .i64 1, .int .i64 0, .int .i64 (-1)] 3))
 replace HB := za.mk (zu HB.out hbx)
 replace F9 := za.mk (Kd.zM F9.out hbx)
 obtain ⟨u19, hu⟩ : ∃ u_, w19.alloc (.cells #[.int .i64 1, .int .i64 0, .int .i64 (-1)] 3) = u_ := ⟨_, rfl⟩
 rw [hu] at F9 X8 HB ⊢
 clear hu hbx
 refine (zaQ.calls 100 _ _ [1, 0, -1] _ _ [1, 0, -1] true _ (zbo F9.out).1 (zbo F9.out).2 (zgZ X8.out rfl (by decide)) (by decide) zg9).mono ?_
 rintro e w20 ⟨rfl, nd20, hw20⟩
 have hb20 : Below u19.heap.size u19 w20 := by rw [hw20]; exact zb (Below.refl _ _) _
 clear hw20
 replace HB := za.mk (zu HB.out hb20)
 replace F9 := za.mk (Kd.zM F9.out hb20)
 replace X8 := za.mk (zF X8.out hb20)
 clear hb20
 clear F9 X8
 go_wp2_with fail
 go_ret
 exact ⟨rfl, HB.out⟩
def zbj.f : Option Bool := some true
theorem zbj.calls (r : Bool) (w : World) (h : zbj.f = some r) : Calls Try.prog 18 #[] w fun e w' => e = .returned (.bool r) ∧ Below w.heap.size w w' := by
 obtain rfl : true = r := Option.some.inj h
 exact zeQ w
mutual
def zh.j0 : Nat → List (List ByteArray) → List ByteArray → List Int → List Int → Bool → Option (Bool)
 | 0, _, _, _, _, _ => none
 | k + 1, x4, x5, x6, x8, x50 => if x50 = true then (some false) else (zh.l0 k x4 x5 x6 x8 0 0)
def zh.l0 : Nat → List (List ByteArray) → List ByteArray → List Int → List Int → Int → Int → Option (Bool)
 | 0, _, _, _, _, _, _ => none
 | k + 1, x4, x5, x6, x8, x10, x11 => if x11 < (x6.length : Int) then (if 0 ≤ x11 then (if (rd x6 x11) < (-1) then (zh.j2 k x4 x5 x6 x8 x10 x11 true) else (if (rd x6 x11) ≥ (x4.length : Int) then (zh.j2 k x4 x5 x6 x8 x10 x11 true) else (if (rd x6 x11) ≥ 0 then (if 0 ≤ (rd x6 x11) then (if (rd x6 x11) < (x4.length : Int) then (if x11 < (x5.length : Int) then ((zav.f k (za8 x4 (rd x6 x11)) (zaJ ByteArray.empty x5 x11)).bind fun t729 => (zh.j2 k x4 x5 x6 x8 x10 x11 (!t729))) else (none)) else (none)) else (none)) else (zh.j2 k x4 x5 x6 x8 x10 x11 false)))) else (none)) else (if x10 = (x8.length : Int) then ((zbj.f).bind fun t722 => (some t722)) else (some false))
def zh.j2 : Nat → List (List ByteArray) → List ByteArray → List Int → List Int → Int → Int → Bool → Option (Bool)
 | 0, _, _, _, _, _, _, _ => none
 | k + 1, x4, x5, x6, x8, x10, x11, x92 => if x92 = true then (some false) else (if 0 ≤ x11 then (if x11 < (x6.length : Int) then (zh.l1 k x4 x5 x6 x8 x10 x11 (wrap64 ((rd x6 x11) + 1))) else (none)) else (none))
def zh.l1 : Nat → List (List ByteArray) → List ByteArray → List Int → List Int → Int → Int → Int → Option (Bool)
 | 0, _, _, _, _, _, _, _ => none
 | k + 1, x4, x5, x6, x8, x10, x11, x12 => if x12 < (x4.length : Int) then (if 0 ≤ x12 then (if 0 ≤ x11 then (if x11 < (x5.length : Int) then ((zav.f k (za8 x4 x12) (zaJ ByteArray.empty x5 x11)).bind fun t733 => (if t733 = true then (some false) else (zh.l1 k x4 x5 x6 x8 x10 x11 (wrap64 (x12 + 1))))) else (none)) else (none)) else (none)) else (if 0 ≤ x11 then (if x11 < (x6.length : Int) then (if (rd x6 x11) ≥ 0 then (zh.j4 k x4 x5 x6 x8 x10 x11 (decide ((rd x6 x11) < (wrap64 ((x4.length : Int) - 1))))) else (zh.j4 k x4 x5 x6 x8 x10 x11 false)) else (none)) else (none))
def zh.j4 : Nat → List (List ByteArray) → List ByteArray → List Int → List Int → Int → Int → Bool → Option (Bool)
 | 0, _, _, _, _, _, _, _ => none
 | k + 1, x4, x5, x6, x8, x10, x11, x127 => if x127 = true then (if x10 ≥ (x8.length : Int) then (some false) else (if 0 ≤ x10 then (if x10 < (x8.length : Int) then (if (rd x8 x10) = x11 then (zh.l0 k x4 x5 x6 x8 (wrap64 (x10 + 1)) (wrap64 (x11 + 1))) else (some false)) else (none)) else (none))) else (zh.l0 k x4 x5 x6 x8 x10 (wrap64 (x11 + 1)))
end
def zh.f (k : Nat) (l0 : List Int) : Option (Bool) := (zbs.f l0).bind fun bt700 => ((zq.f k bt700.1 bt700.2.1 bt700.2.2 4).bind fun bt704 => ((zI.f k bt700.1 bt704.2.1 bt704.2.2 6).bind fun bt709 => ((zaB.f k bt704.1 bt709.1).bind fun bt714 => ((zaK.f k bt704.1 bt709.1).bind fun bt718 => (if bt714.2 = 0 then (if bt718.2 = 0 then (if (bt714.1.length : Int) = (bt709.1.length : Int) then (zh.j0 k bt704.1 bt709.1 bt714.1 bt718.1 (decide ((bt718.1.length : Int) > (bt709.1.length : Int)))) else (zh.j0 k bt704.1 bt709.1 bt714.1 bt718.1 true)) else (zh.j0 k bt704.1 bt709.1 bt714.1 bt718.1 true)) else (zh.j0 k bt704.1 bt709.1 bt714.1 bt718.1 true))))))
def zh.T11 : Bool × List (List Nat × List Nat) := (true, [([], []), ([], []), ([0, 1], [0, 1]), ([2], [2]), ([3], [3]), ([4], [4]), ([5], [5]), ([5], [5]), ([6, 7, 5], [5, 6, 7]), ([8, 5], [5, 8]), ([5], [5]), ([10, 5], [5, 10]), ([9, 11, 5], [5, 9, 11]), ([5, 12], [5, 12]), ([13, 5], [13]), ([14], [14]), ([14], [14]), ([15, 16, 14], [14, 15, 16]), ([17, 14], [14, 17]), ([18, 14], [14, 18]), ([19, 14, 14], [14, 19]), ([20], [20]), ([20], [20]), ([20], [20]), ([22, 23, 20], [20, 22, 23]), ([24, 20], [20, 24]), ([21, 25, 20], [20, 21, 25]), ([26, 20], [20, 26]), ([20], [20]), ([20], [20]), ([28, 29, 20], [20, 28, 29]), ([30, 20], [20, 30]), ([27, 31, 20, 20], [20, 27, 31]), ([32, 20], [20, 32]), ([20, 33, 14], [14, 20, 33]), ([14, 34], [14, 34])])
def zh.B11 : List Nat := [0, 0, 3, 7, 15, 31, 63, 63, 255, 511, 63, 1087, 4095, 8191, 16383, 32767, 32767, 131071, 262143, 524287, 1048575, 2097151, 2097151, 2097151, 14680063, 31457279, 67108863, 134217727, 2097151, 2097151, 807403519, 1881145343, 4294967295, 8589934591, 17179869183, 34359738367]
theorem zh.zfo : zbJ .any (opsOf Try.f13 11) = zh.T11 := by kernel_rfl
theorem zh.zeu : zcp zh.T11.2 zh.B11 = true := by kernel_rfl
def zh.T16 : Bool × List (List Nat × List Nat) := (true, [([], []), ([], []), ([0, 1], [0, 1]), ([2], [2]), ([], []), ([], []), ([4, 5], [4, 5]), ([6], [6]), ([3, 7], [3, 7])])
def zh.B16 : List Nat := [0, 0, 3, 7, 0, 0, 48, 112, 255]
theorem zh.zhI : zbJ .any (opsOf Try.f13 16) = zh.T16 := by kernel_rfl
theorem zh.zgQ : zcp zh.T16.2 zh.B16 = true := by kernel_rfl
set_option maxHeartbeats 8000000 in
set_option maxRecDepth 100000 in
theorem zh.calls (k : Nat) (A0 : Option Addr) (c0 : Nat) (l0 : List Int) (r : Bool) (w : World) (hr0 : Kd.C (Kd.int .i64) w A0 l0.length l0) (hc0 : l0.length ≤ c0) (h : zh.f k l0 = some r) :
  Calls Try.prog 13 #[.slice A0 l0.length c0] w fun e w' => e = .returned (.bool r) ∧ Below w.heap.size w w' := by
 have HR0 := za.mk hr0
 have HC0 := za.mk hc0
 clear hr0 hc0
 have HB := za.mk (Below.refl w.heap.size w)
 have H : ((zbs.f l0).bind fun bt700 => ((zq.f k bt700.1 bt700.2.1 bt700.2.2 4).bind fun bt704 => ((zI.f k bt700.1 bt704.2.1 bt704.2.2 6).bind fun bt709 => ((zaB.f k bt704.1 bt709.1).bind fun bt714 => ((zaK.f k bt704.1 bt709.1).bind fun bt718 => (if bt714.2 = 0 then (if bt718.2 = 0 then (if (bt714.1.length : Int) = (bt709.1.length : Int) then (zh.j0 k bt704.1 bt709.1 bt714.1 bt718.1 (decide ((bt718.1.length : Int) > (bt709.1.length : Int)))) else (zh.j0 k bt704.1 bt709.1 bt714.1 bt718.1 true)) else (zh.j0 k bt704.1 bt709.1 bt714.1 bt718.1 true)) else (zh.j0 k bt704.1 bt709.1 bt714.1 bt718.1 true))))))) = some r := h
 clear h
 replace H := Option.bind_eq_some_iff.mp H
 obtain ⟨⟨t700, t701, t702⟩, A20, H⟩ := H
 replace H : ((zq.f k t700 t701 t702 4).bind fun bt704 => ((zI.f k t700 bt704.2.1 bt704.2.2 6).bind fun bt709 => ((zaB.f k bt704.1 bt709.1).bind fun bt714 => ((zaK.f k bt704.1 bt709.1).bind fun bt718 => (if bt714.2 = 0 then (if bt718.2 = 0 then (if (bt714.1.length : Int) = (bt709.1.length : Int) then (zh.j0 k bt704.1 bt709.1 bt714.1 bt718.1 (decide ((bt718.1.length : Int) > (bt709.1.length : Int)))) else (zh.j0 k bt704.1 bt709.1 bt714.1 bt718.1 true)) else (zh.j0 k bt704.1 bt709.1 bt714.1 bt718.1 true)) else (zh.j0 k bt704.1 bt709.1 bt714.1 bt718.1 true)))))) = some r := H
 have A2 := za.mk A20
 clear A20
 replace H := Option.bind_eq_some_iff.mp H
 obtain ⟨⟨t704, t707, t708⟩, A30, H⟩ := H
 replace H : ((zI.f k t700 t707 t708 6).bind fun bt709 => ((zaB.f k t704 bt709.1).bind fun bt714 => ((zaK.f k t704 bt709.1).bind fun bt718 => (if bt714.2 = 0 then (if bt718.2 = 0 then (if (bt714.1.length : Int) = (bt709.1.length : Int) then (zh.j0 k t704 bt709.1 bt714.1 bt718.1 (decide ((bt718.1.length : Int) > (bt709.1.length : Int)))) else (zh.j0 k t704 bt709.1 bt714.1 bt718.1 true)) else (zh.j0 k t704 bt709.1 bt714.1 bt718.1 true)) else (zh.j0 k t704 bt709.1 bt714.1 bt718.1 true))))) = some r := H
 have A3 := za.mk A30
 clear A30
 replace H := Option.bind_eq_some_iff.mp H
 obtain ⟨⟨t709, t712, t713⟩, A40, H⟩ := H
 replace H : ((zaB.f k t704 t709).bind fun bt714 => ((zaK.f k t704 t709).bind fun bt718 => (if bt714.2 = 0 then (if bt718.2 = 0 then (if (bt714.1.length : Int) = (t709.length : Int) then (zh.j0 k t704 t709 bt714.1 bt718.1 (decide ((bt718.1.length : Int) > (t709.length : Int)))) else (zh.j0 k t704 t709 bt714.1 bt718.1 true)) else (zh.j0 k t704 t709 bt714.1 bt718.1 true)) else (zh.j0 k t704 t709 bt714.1 bt718.1 true)))) = some r := H
 have A4 := za.mk A40
 clear A40
 replace H := Option.bind_eq_some_iff.mp H
 obtain ⟨⟨t714, t715⟩, A50, H⟩ := H
 replace H : ((zaK.f k t704 t709).bind fun bt718 => (if t715 = 0 then (if bt718.2 = 0 then (if (t714.length : Int) = (t709.length : Int) then (zh.j0 k t704 t709 t714 bt718.1 (decide ((bt718.1.length : Int) > (t709.length : Int)))) else (zh.j0 k t704 t709 t714 bt718.1 true)) else (zh.j0 k t704 t709 t714 bt718.1 true)) else (zh.j0 k t704 t709 t714 bt718.1 true))) = some r := H
 have A5 := za.mk A50
 clear A50
 replace H := Option.bind_eq_some_iff.mp H
 obtain ⟨⟨t718, t719⟩, A60, H⟩ := H
 replace H : (if t715 = 0 then (if t719 = 0 then (if (t714.length : Int) = (t709.length : Int) then (zh.j0 k t704 t709 t714 t718 (decide ((t718.length : Int) > (t709.length : Int)))) else (zh.j0 k t704 t709 t714 t718 true)) else (zh.j0 k t704 t709 t714 t718 true)) else (zh.j0 k t704 t709 t714 t718 true)) = some r := H
 have A6 := za.mk A60
 clear A60
 have HC7 := za.mk H
 clear H
 go_enter Try.func13, Try.ntmps13
 go_upto_region 5 with (first | ((with_reducible refine zD (f := 19) rfl ?_); refine zab (some 14) rfl rfl Try.func19 (by kernel_rfl) rfl #[.slice A0 l0.length c0] rfl (by (try simp only [List.map_toArray, List.map_cons, List.map_nil]); first | done | rfl | (simp only [List.length_drop, List.length_take]; rfl)) ?_; (with_reducible refine (zbs.calls _ _ l0 t700 t701 t702 w _ ?side1 ?side2 ?side3 A2.out).mono ?_); (case side1 => repeat (first | (with_reducible first | exact HB.out | apply ze | apply zb | apply zf) | exact HB.out)); (case side2 => exact HR0.out); (case side3 => exact HC0.out); rintro e w8 ⟨g703, rfl, hi, hb, hb2⟩; refine ⟨_, rfl, ?_⟩; have n0_ := za.mk (hb); have n1_ := za.mk (hi); clear HB; have HB := n0_; have HI703 := n1_; clear n0_ n1_; (try clear hb); (try clear hb2); (try clear hk); (try clear hi)) | ((with_reducible refine zD (f := 33) rfl ?_); refine zab (some 16) rfl rfl Try.func33 (by kernel_rfl) rfl #[.pointer (some ⟨g703, 0, none⟩), .int .i64 4] rfl (by (try simp only [List.map_toArray, List.map_cons, List.map_nil]); first | done | rfl | (simp only [List.length_drop, List.length_take]; rfl)) ?_; (with_reducible refine (zq.calls k g703 t700 t701 t702 4 t704 t707 t708 w _ ?side1 ?side2 A3.out).mono ?_); (case side1 => repeat (first | (with_reducible first | exact HI703.out | apply zk.alloc | apply zk.drewN | apply zk.drew | apply zk.zan | apply zk.zam) | exact HI703.out)); (case side2 => repeat (first | (with_reducible first | exact HB.out | apply ze | apply zb | apply zf | refine zi ?_ (zk.ge HI703.out)) | exact HB.out)); rintro e w9 ⟨v705, rfl, ho0, hi, hb, hk⟩; refine ⟨_, rfl, ?_⟩; have n0_ := za.mk (Kd.zhS ho0 (zG (by repeat (first | (with_reducible first | exact HB.out | apply ze | apply zb | apply zf | refine zi ?_ (zk.ge HI703.out)) | exact HB.out)))); have n1_ := za.mk (hb); have n2_ := za.mk (hi); clear HB; clear HI703; have HO706 := n0_; have HB := n1_; have HI703 := n2_; clear n0_ n1_ n2_; (try clear hb); (try clear hb2); (try clear hk); (try clear hi); (try clear ho0)) | ((with_reducible refine zD (f := 20) rfl ?_); refine zab (some 18) rfl rfl Try.func20 (by kernel_rfl) rfl #[.pointer (some ⟨g703, 0, none⟩), .int .i64 6] rfl (by (try simp only [List.map_toArray, List.map_cons, List.map_nil]); first | done | rfl | (simp only [List.length_drop, List.length_take]; rfl)) ?_; (with_reducible refine (zI.calls k g703 t700 t707 t708 6 t709 t712 t713 w _ ?side1 ?side2 A4.out).mono ?_); (case side1 => repeat (first | (with_reducible first | exact HI703.out | apply zk.alloc | apply zk.drewN | apply zk.drew | apply zk.zan | apply zk.zam) | exact HI703.out)); (case side2 => repeat (first | (with_reducible first | exact HB.out | apply ze | apply zb | apply zf | refine zi ?_ (zk.ge HI703.out)) | exact HB.out)); rintro e w10 ⟨v710, rfl, ho0, hi, hb, hk⟩; refine ⟨_, rfl, ?_⟩; have n0_ := za.mk (Kd.zbt (Kd.zgN (Kd.zgR (zk.zcC (show zk w _ g703 t700 t707 t708 from by repeat (first | (with_reducible first | exact HI703.out | apply zk.alloc | apply zk.drewN | apply zk.drew | apply zk.zan | apply zk.zam) | exact HI703.out)) (by (with_reducible repeat (first | apply Kd.zas | apply Kd.zat | apply Kd.zax)); exact HO706.out) (by decide)) hk) (Kd.zcj ho0)) (fun _ h_ => h_.1)); have n1_ := za.mk (Kd.zaV ho0 (zG (by repeat (first | (with_reducible first | exact HB.out | apply ze | apply zb | apply zf | refine zi ?_ (zk.ge HI703.out)) | exact HB.out)))); have n2_ := za.mk (hb); have n3_ := za.mk (hi); clear HO706; clear HB; clear HI703; have HO706 := n0_; have HO711 := n1_; have HB := n2_; have HI703 := n3_; clear n0_ n1_ n2_ n3_; (try clear hb); (try clear hb2); (try clear hk); (try clear hi); (try clear ho0); obtain ⟨Ao11, co11, eo11⟩ := Kd.zhW HO706.out; subst eo11; obtain ⟨Ao12, co12, eo12⟩ := Kd.za0 HO711.out; subst eo12) | ((with_reducible refine zD (f := 52) rfl ?_); refine zab (some 22) rfl rfl Try.func52 (by kernel_rfl) rfl #[.slice Ao11 t704.length co11, .slice Ao12 t709.length co12] rfl (by (try simp only [List.map_toArray, List.map_cons, List.map_nil]); first | done | rfl | (simp only [List.length_drop, List.length_take]; rfl)) ?_; (with_reducible refine (zaB.calls k _ _ t704 _ _ t709 t714 t715 _ ?side1 ?side2 ?side3 ?side4 A5.out).mono ?_); (case side1 => repeat (first | exact (Kd.zb5 HO706.out).2.2 | (with_reducible refine Kd.zad ?_ _) | (with_reducible refine Kd.zae ?_ _) | (with_reducible refine Kd.zal ?_))); (case side2 => exact (Kd.zb5 HO706.out).2.1); (case side3 => repeat (first | exact (Kd.zaF HO711.out).2.2 | (with_reducible refine Kd.zad ?_ _) | (with_reducible refine Kd.zae ?_ _) | (with_reducible refine Kd.zal ?_))); (case side4 => exact (Kd.zaF HO711.out).2.1); rintro e w13 ⟨v716, rfl, ho0, hb⟩; refine ⟨_, rfl, ?_⟩; have n0_ := za.mk (Kd.zdd (by (with_reducible repeat (first | apply Kd.zas | apply Kd.zat | apply Kd.zax)); exact HO706.out) hb); have n1_ := za.mk (Kd.zM (by (with_reducible repeat (first | apply Kd.zO | apply Kd.zP | apply Kd.zN)); exact HO711.out) hb); have n2_ := za.mk (Kd.zaV ho0 (zG (by repeat (first | (with_reducible first | exact HB.out | apply ze | apply zb | apply zf | refine zi ?_ (zk.ge HI703.out)) | exact HB.out)))); have n3_ := za.mk (zk.below (by repeat (first | (with_reducible first | exact HI703.out | apply zk.alloc | apply zk.drewN | apply zk.drew | apply zk.zan | apply zk.zam) | exact HI703.out)) hb); have n4_ := za.mk (zu (by repeat (first | (with_reducible first | exact HB.out | apply ze | apply zb | apply zf | refine zi ?_ (zk.ge HI703.out)) | exact HB.out)) hb); clear HO706; clear HO711; clear HI703; clear HB; have HO706 := n0_; have HO711 := n1_; have HO717 := n2_; have HI703 := n3_; have HB := n4_; clear n0_ n1_ n2_ n3_ n4_; (try clear hb); (try clear hb2); (try clear hk); (try clear hi); (try clear ho0)) | ((with_reducible refine zD (f := 53) rfl ?_); refine zab (some 28) rfl rfl Try.func53 (by kernel_rfl) rfl #[.slice Ao11 t704.length co11, .slice Ao12 t709.length co12] rfl (by (try simp only [List.map_toArray, List.map_cons, List.map_nil]); first | done | rfl | (simp only [List.length_drop, List.length_take]; rfl)) ?_; (with_reducible refine (zaK.calls k _ _ t704 _ _ t709 t718 t719 _ ?side1 ?side2 ?side3 ?side4 A6.out).mono ?_); (case side1 => repeat (first | exact (Kd.zb5 HO706.out).2.2 | (with_reducible refine Kd.zad ?_ _) | (with_reducible refine Kd.zae ?_ _) | (with_reducible refine Kd.zal ?_))); (case side2 => exact (Kd.zb5 HO706.out).2.1); (case side3 => repeat (first | exact (Kd.zaF HO711.out).2.2 | (with_reducible refine Kd.zad ?_ _) | (with_reducible refine Kd.zae ?_ _) | (with_reducible refine Kd.zal ?_))); (case side4 => exact (Kd.zaF HO711.out).2.1); rintro e w14 ⟨v720, rfl, ho0, hb⟩; refine ⟨_, rfl, ?_⟩; have n0_ := za.mk (Kd.zdd (by (with_reducible repeat (first | apply Kd.zas | apply Kd.zat | apply Kd.zax)); exact HO706.out) hb); have n1_ := za.mk (Kd.zM (by (with_reducible repeat (first | apply Kd.zO | apply Kd.zP | apply Kd.zN)); exact HO711.out) hb); have n2_ := za.mk (Kd.zes (by (with_reducible repeat (first | apply Kd.zO | apply Kd.zP | apply Kd.zN)); exact HO717.out) (Kd.zcj ho0) hb); have n3_ := za.mk (Kd.zaV (Kd.zdv ho0 (Kd.zin (by (with_reducible repeat (first | apply Kd.zO | apply Kd.zP | apply Kd.zN)); exact HO717.out))) (zG (by repeat (first | (with_reducible first | exact HB.out | apply ze | apply zb | apply zf | refine zi ?_ (zk.ge HI703.out)) | exact HB.out)))); have n4_ := za.mk (zk.below (by repeat (first | (with_reducible first | exact HI703.out | apply zk.alloc | apply zk.drewN | apply zk.drew | apply zk.zan | apply zk.zam) | exact HI703.out)) hb); have n5_ := za.mk (zu (by repeat (first | (with_reducible first | exact HB.out | apply ze | apply zb | apply zf | refine zi ?_ (zk.ge HI703.out)) | exact HB.out)) hb); clear HO706; clear HO711; clear HO717; clear HI703; clear HB; have HO706 := n0_; have HO711 := n1_; have HO717 := n2_; have HO721 := n3_; have HI703 := n4_; have HB := n5_; clear n0_ n1_ n2_ n3_ n4_ n5_; (try clear hb); (try clear hb2); (try clear hk); (try clear hi); (try clear ho0)))
 (try simp only [Act.put, List.setIfInBounds_toArray, List.set_cons_zero, List.set_cons_succ])
 go_cut [50] (fun v50 wc => ∃ (kq : Nat) (x50_6 : Bool), v50 = .bool x50_6 ∧ za (zh.j0 kq t704 t709 t714 t718 x50_6 = some r) ∧ za (kq ≤ k) ∧ za (Kd.S (Kd.slice 9 Kd.string) 22 wc w.heap.size (fun k_ => some k_ ≠ ((.slice Ao12 t709.length co12) : Value).ownBlock) (.slice Ao11 t704.length co11) t704) ∧ za (Kd.R Kd.string 9 wc w.heap.size (fun _ => True) (.slice Ao12 t709.length co12) t709) ∧ za (Kd.R (Kd.int .i64) 3 wc w.heap.size (fun k_ => some k_ ≠ (v720 : Value).ownBlock) v716 t714) ∧ za (Kd.R (Kd.int .i64) 3 wc w.heap.size (fun k_ => some k_ ≠ (v716 : Value).ownBlock) v720 t718) ∧ za (Below w.heap.size w wc))
 case first =>
  have H := HC7.out
  clear HC7
  by_cases c15 : t715 = 0
  ·rw [if_pos c15] at H
   have c15b0 : (t715 == 0) = true := beq_iff_eq.mpr c15
   have c15b1 : (t715 != 0) = false := bne_eq_false_iff_eq.mpr c15
   clear c15
   (first | rw [c15b0] | (simp only [zw, zy]; rw [c15b0]) | skip)
   by_cases c16 : t719 = 0
   ·rw [if_pos c16] at H
    have c16b0 : (t719 == 0) = true := beq_iff_eq.mpr c16
    have c16b1 : (t719 != 0) = false := bne_eq_false_iff_eq.mpr c16
    clear c16
    by_cases c17 : (t714.length : Int) = (t709.length : Int)
    ·rw [if_pos c17] at H
     have c17b0 : ((t714.length : Int) == (t709.length : Int)) = true := beq_iff_eq.mpr c17
     have c17b1 : ((t714.length : Int) != (t709.length : Int)) = false := bne_eq_false_iff_eq.mpr c17
     have c17b2 : (t714.length == t709.length) = true := by first | simpa using c17 | (simp at c17 ⊢; omega)
     clear c17
     have H' := za.mk H
     clear H
     obtain ⟨Ao18, co18, eo18⟩ := Kd.za0 HO717.out
     subst eo18
     obtain ⟨Ao19, co19, eo19⟩ := Kd.za0 HO721.out
     subst eo19
     go_wp2
     go_meet
     case rel => exact ⟨_, (decide ((t718.length : Int) > (t709.length : Int))), (by first | rfl | (simp; done) | (simp [*]; done)), H', ⟨by first | omega | exact Nat.le_refl _⟩, ⟨by (with_reducible repeat (first | apply Kd.zas | apply Kd.zat | apply Kd.zax)); exact Kd.zbt HO706.out (fun _ hk => hk.2)⟩, ⟨by (with_reducible repeat (first | apply Kd.zO | apply Kd.zP | apply Kd.zN)); exact HO711.out⟩, ⟨by (with_reducible repeat (first | apply Kd.zO | apply Kd.zP | apply Kd.zN)); exact Kd.zau HO717.out (fun _ hk => hk.2)⟩, ⟨by (with_reducible repeat (first | apply Kd.zO | apply Kd.zP | apply Kd.zN)); exact Kd.zau HO721.out (fun _ hk => hk.2)⟩, ⟨by repeat (first | (with_reducible first | exact HB.out | apply ze | apply zb | apply zf | refine zi ?_ (zk.ge HI703.out)) | exact HB.out)⟩⟩
    ·rw [if_neg c17] at H
     have c17b0 : ((t714.length : Int) == (t709.length : Int)) = false := beq_eq_false_iff_ne.mpr c17
     have c17b1 : ((t714.length : Int) != (t709.length : Int)) = true := bne_iff_ne.mpr c17
     have c17b2 : (t714.length == t709.length) = false := by first | simpa using c17 | (simp at c17 ⊢; omega)
     have H' := za.mk H
     clear H
     obtain ⟨Ao20, co20, eo20⟩ := Kd.za0 HO717.out
     subst eo20
     go_wp2
     go_meet
     case rel => exact ⟨_, (true), (by first | rfl | (simp; done) | (simp [*]; done)), H', ⟨by first | omega | exact Nat.le_refl _⟩, ⟨by (with_reducible repeat (first | apply Kd.zas | apply Kd.zat | apply Kd.zax)); exact Kd.zbt HO706.out (fun _ hk => hk.2)⟩, ⟨by (with_reducible repeat (first | apply Kd.zO | apply Kd.zP | apply Kd.zN)); exact HO711.out⟩, ⟨by (with_reducible repeat (first | apply Kd.zO | apply Kd.zP | apply Kd.zN)); exact Kd.zau HO717.out (fun _ hk => hk.2)⟩, ⟨by (with_reducible repeat (first | apply Kd.zO | apply Kd.zP | apply Kd.zN)); exact Kd.zau HO721.out (fun _ hk => hk.2)⟩, ⟨by repeat (first | (with_reducible first | exact HB.out | apply ze | apply zb | apply zf | refine zi ?_ (zk.ge HI703.out)) | exact HB.out)⟩⟩
   ·rw [if_neg c16] at H
    have c16b0 : (t719 == 0) = false := beq_eq_false_iff_ne.mpr c16
    have c16b1 : (t719 != 0) = true := bne_iff_ne.mpr c16
    have H' := za.mk H
    clear H
    go_wp2
    go_meet
    case rel => exact ⟨_, (true), (by first | rfl | (simp; done) | (simp [*]; done)), H', ⟨by first | omega | exact Nat.le_refl _⟩, ⟨by (with_reducible repeat (first | apply Kd.zas | apply Kd.zat | apply Kd.zax)); exact Kd.zbt HO706.out (fun _ hk => hk.2)⟩, ⟨by (with_reducible repeat (first | apply Kd.zO | apply Kd.zP | apply Kd.zN)); exact HO711.out⟩, ⟨by (with_reducible repeat (first | apply Kd.zO | apply Kd.zP | apply Kd.zN)); exact Kd.zau HO717.out (fun _ hk => hk.2)⟩, ⟨by (with_reducible repeat (first | apply Kd.zO | apply Kd.zP | apply Kd.zN)); exact Kd.zau HO721.out (fun _ hk => hk.2)⟩, ⟨by repeat (first | (with_reducible first | exact HB.out | apply ze | apply zb | apply zf | refine zi ?_ (zk.ge HI703.out)) | exact HB.out)⟩⟩
  ·rw [if_neg c15] at H
   have c15b0 : (t715 == 0) = false := beq_eq_false_iff_ne.mpr c15
   have c15b1 : (t715 != 0) = true := bne_iff_ne.mpr c15
   (first | rw [c15b0] | (simp only [zw, zy]; rw [c15b0]) | skip)
   have H' := za.mk H
   clear H
   go_wp2
   go_meet
   case rel => exact ⟨_, (true), (by first | rfl | (simp; done) | (simp [*]; done)), H', ⟨by first | omega | exact Nat.le_refl _⟩, ⟨by (with_reducible repeat (first | apply Kd.zas | apply Kd.zat | apply Kd.zax)); exact Kd.zbt HO706.out (fun _ hk => hk.2)⟩, ⟨by (with_reducible repeat (first | apply Kd.zO | apply Kd.zP | apply Kd.zN)); exact HO711.out⟩, ⟨by (with_reducible repeat (first | apply Kd.zO | apply Kd.zP | apply Kd.zN)); exact Kd.zau HO717.out (fun _ hk => hk.2)⟩, ⟨by (with_reducible repeat (first | apply Kd.zO | apply Kd.zP | apply Kd.zN)); exact Kd.zau HO721.out (fun _ hk => hk.2)⟩, ⟨by repeat (first | (with_reducible first | exact HB.out | apply ze | apply zb | apply zf | refine zi ?_ (zk.ge HI703.out)) | exact HB.out)⟩⟩
 case rest =>
  clear HC7
  try clear c1
  try clear c2
  try clear p2
  try clear c3
  try clear c5
  try clear c13
  try clear c15
  try clear c15b0
  try clear c15b1
  try clear c16
  try clear c16b0
  try clear c16b1
  try clear c17
  try clear c17b0
  try clear c17b1
  try clear c17b2
  try clear c19
  try clear c20
  obtain ⟨kq, x50_6, rfl, HA, HJ6, HO_4, HO_5, HO_6, HO_8, HB⟩ := hcut
  cases kq with
  | zero => exact absurd HA.out (by simp [zh.j0])
  | succ kj6 =>
   have H := HA.out
   clear HA
   simp only [zh.j0] at H
   by_cases c21 : x50_6 = true
   ·subst c21
    have H1 : (some false) = some r := by rw [if_pos rfl] at H; exact H
    clear H
    have H := H1
    clear H1
    obtain rfl := Option.some.inj H
    go_wp2
    go_ret
    exact ⟨by first | rfl | (simp [zA, zz] <;> rfl) | (simp [*, zA, zz] <;> rfl), by repeat (first | (with_reducible first | exact HB.out | apply ze | apply zb | apply zf) | exact HB.out)⟩
   ·replace c21 := Bool.eq_false_iff.mpr c21
    subst c21
    have H1 : (zh.l0 kj6 t704 t709 t714 t718 0 0) = some r := by rw [if_neg (show ¬ (false = true) by decide)] at H; exact H
    clear H
    have H := H1
    clear H1
    have H' := za.mk H
    clear H
    go_wp2
    go_loopg [10, 11] kj6 (fun kq v10 v11 w' => ∃ (x10_2 : Int) (x11_2 : Int), v10 = .int .i64 x10_2 ∧ v11 = .int .i64 x11_2 ∧ za (zh.l0 kq t704 t709 t714 t718 x10_2 x11_2 = some r) ∧ za (kq ≤ kj6) ∧ za (Kd.S (Kd.slice 9 Kd.string) 22 w' w.heap.size (fun k_ => some k_ ≠ ((.slice Ao12 t709.length co12) : Value).ownBlock) (.slice Ao11 t704.length co11) t704) ∧ za (Kd.R Kd.string 9 w' w.heap.size (fun _ => True) (.slice Ao12 t709.length co12) t709) ∧ za (Kd.R (Kd.int .i64) 3 w' w.heap.size (fun k_ => some k_ ≠ (v720 : Value).ownBlock) v716 t714) ∧ za (Kd.R (Kd.int .i64) 3 w' w.heap.size (fun k_ => some k_ ≠ (v716 : Value).ownBlock) v720 t718) ∧ za (Below w.heap.size w w'))
    case atStart => exact ⟨(0), (0), (by first | rfl | (simp; done) | (simp [*]; done)), (by first | rfl | (simp; done) | (simp [*]; done)), H', ⟨Nat.le_refl _⟩, ⟨by (with_reducible repeat (first | apply Kd.zas | apply Kd.zat | apply Kd.zax)); exact HO_4.out⟩, ⟨by (with_reducible repeat (first | apply Kd.zO | apply Kd.zP | apply Kd.zN)); exact HO_5.out⟩, ⟨by (with_reducible repeat (first | apply Kd.zO | apply Kd.zP | apply Kd.zN)); exact HO_6.out⟩, ⟨by (with_reducible repeat (first | apply Kd.zO | apply Kd.zP | apply Kd.zN)); exact HO_8.out⟩, ⟨by repeat (first | (with_reducible first | exact HB.out | apply ze | apply zb | apply zf) | exact HB.out)⟩⟩
    case round =>
     clear H'
     try clear c1
     try clear c2
     try clear p2
     try clear c3
     try clear c5
     try clear c13
     try clear c15
     try clear c15b0
     try clear c15b1
     try clear c16
     try clear c16b0
     try clear c16b1
     try clear c17
     try clear c17b0
     try clear c17b1
     try clear c17b2
     try clear c19
     try clear c20
     try clear c21
     try clear p2
     obtain ⟨x10_2, x11_2, rfl, rfl, HA, HK2, HO_4, HO_5, HO_6, HO_8, HB⟩ := hrel
     cases gk with
     | zero => exact absurd HA.out (by simp [zh.l0])
     | succ k2 =>
      have H := HA.out
      clear HA
      simp only [zh.l0] at H
      by_cases c22 : x11_2 < (t714.length : Int)
      ·rw [if_pos c22] at H
       have c22b0 : decide (x11_2 < (t714.length : Int)) = true := decide_eq_true c22
       clear c22
       have HC23 := za.mk H
       clear H
       obtain ⟨Ao24, co24, eo24⟩ := Kd.za0 HO_6.out
       subst eo24
       go_upto_region 11 with (fail)
       go_cut [92] (fun v92 wc => ∃ (kq : Nat) (x92_22 : Bool), v92 = .bool x92_22 ∧ za (zh.j2 kq t704 t709 t714 t718 x10_2 x11_2 x92_22 = some r) ∧ za (kq ≤ k2) ∧ za (Kd.S (Kd.slice 9 Kd.string) 22 wc w.heap.size (fun k_ => some k_ ≠ ((.slice Ao12 t709.length co12) : Value).ownBlock) (.slice Ao11 t704.length co11) t704) ∧ za (Kd.R Kd.string 9 wc w.heap.size (fun _ => True) (.slice Ao12 t709.length co12) t709) ∧ za (Kd.R (Kd.int .i64) 3 wc w.heap.size (fun k_ => some k_ ≠ (v720 : Value).ownBlock) (.slice Ao24 t714.length co24) t714) ∧ za (Kd.R (Kd.int .i64) 3 wc w.heap.size (fun k_ => some k_ ≠ ((.slice Ao24 t714.length co24) : Value).ownBlock) v720 t718) ∧ za (Below w.heap.size w wc))
       case first =>
        have H := HC23.out
        clear HC23
        by_cases c25 : 0 ≤ x11_2
        ·rw [if_pos c25] at H
         have c25b0 : decide (0 ≤ x11_2) = true := decide_eq_true c25
         clear c25
         (first | rw [c25b0] | (simp only [zw, zy]; rw [c25b0]) | skip)
         by_cases c26 : (rd t714 x11_2) < (-1)
         ·rw [if_pos c26] at H
          have c26b0 : decide ((rd t714 x11_2) < (-1)) = true := decide_eq_true c26
          clear c26
          have H' := za.mk H
          clear H
          try go_wp2
          have n0_ := za.mk (Kd.zax HO_4.out)
          have n1_ := za.mk (Kd.zN HO_5.out)
          have n2_ := za.mk (Kd.zN HO_6.out)
          have n3_ := za.mk (Kd.zN HO_8.out)
          have n4_ := za.mk (zf HB.out)
          clear HO_4
          clear HO_5
          clear HO_6
          clear HO_8
          clear HB
          have HO_4 := n0_
          have HO_5 := n1_
          have HO_6 := n2_
          have HO_8 := n3_
          have HB := n4_
          clear n0_ n1_ n2_ n3_ n4_
          have p723 : 0 ≤ (x11_2 : Int) := of_decide_eq_true (by first | (with_reducible assumption) | assumption)
          have q723 : x11_2 < (t714.length : Int) := of_decide_eq_true (by first | (with_reducible assumption) | assumption)
          obtain ⟨ad723, e723, hx723_0⟩ := Kd.zbk (Kd.zaF HO_6.out).2.2 x11_2 p723 q723
          cases e723
          replace p723 := eq_true p723
          replace q723 := eq_true q723
          refine zcq (n := 36) (S := fun w' => w'.cell? (ad723.add (x11_2).toNat) = some (.int .i64 (rd t714 x11_2))) (ds := []) #[false, false, false, false, false, false, false, false, false, false, false, false, false, false, false, false, false, false, false, false, false, false, false, false, false, false, false, false, false, false, false, false, false, false, false, false] (by kernel_rfl) rfl rfl (hx723_0) (fun hHeld => ?_); refine zbO zh.zfo zh.zeu (fun HT_ HW_ => ?_)
          generalize wr.drew = w27 at HO_4 HO_5 HO_6 HO_8 HB hx723_0 hHeld ⊢
          refine zJ (i := 0) (N := some 57) (v := ?_) (a' := ?_) #[true, false, false, false, false, false, false, false, false, false, false, false, false, false, false, false, false, false, false, false, false, false, false, false, false, false, false, false, false, false, false, false, false, false, false, false] rfl rfl (zC HT_.out (by kernel_rfl)) (fun _ _ _ h => h) (Or.inl ⟨by rfl, ?_⟩) ?_ ?_
          rotate_left
          ·intro w'
           go_simp
           with_reducible rfl
          rotate_left
          ·simp only [Act.put, List.setIfInBounds_toArray, List.set_cons_zero, List.set_cons_succ, zw, zy]
           rfl
          refine zJ (i := 1) (N := some 58) (v := ?_) (a' := ?_) #[true, true, false, false, false, false, false, false, false, false, false, false, false, false, false, false, false, false, false, false, false, false, false, false, false, false, false, false, false, false, false, false, false, false, false, false] rfl rfl (zC HT_.out (by kernel_rfl)) (fun _ _ _ h => h) (Or.inl ⟨by rfl, ?_⟩) ?_ ?_
          rotate_left
          ·intro w'
           go_simp
           with_reducible rfl
          rotate_left
          ·simp only [Act.put, List.setIfInBounds_toArray, List.set_cons_zero, List.set_cons_succ, zw, zy]
           rfl
          refine zJ (i := 2) (N := some 59) (v := ?_) (a' := ?_) #[true, true, true, false, false, false, false, false, false, false, false, false, false, false, false, false, false, false, false, false, false, false, false, false, false, false, false, false, false, false, false, false, false, false, false, false] rfl rfl (zC HT_.out (by kernel_rfl)) (fun _ _ _ h => h) (Or.inl ⟨by rfl, ?_⟩) ?_ ?_
          rotate_left
          ·intro w'
           go_simp
           with_reducible rfl
          rotate_left
          ·simp only [Act.put, List.setIfInBounds_toArray, List.set_cons_zero, List.set_cons_succ, zw, zy]
           rfl
          refine za6 (i := 3) (N := some 60) (v := ?_) (a' := ?_) #[true, true, true, true, false, false, false, false, false, false, false, false, false, false, false, false, false, false, false, false, false, false, false, false, false, false, false, false, false, false, false, false, false, false, false, false] rfl rfl (zaL HT_.out HW_.out (by kernel_rfl)) (fun _ _ _ h => h) (Or.inl ⟨by rfl, ?_⟩) hHeld ?_ ?_
          rotate_left
          ·intro w' s0
           go_simp
           with_reducible rfl
          rotate_left
          ·simp only [Act.put, List.setIfInBounds_toArray, List.set_cons_zero, List.set_cons_succ, zw, zy]
           rfl
          refine zJ (i := 4) (N := some 61) (v := ?_) (a' := ?_) #[true, true, true, true, true, false, false, false, false, false, false, false, false, false, false, false, false, false, false, false, false, false, false, false, false, false, false, false, false, false, false, false, false, false, false, false] rfl rfl (zC HT_.out (by kernel_rfl)) (fun _ _ _ h => h) (Or.inl ⟨by rfl, ?_⟩) ?_ ?_
          rotate_left
          ·intro w'
           go_simp
           with_reducible rfl
          rotate_left
          ·simp only [Act.put, List.setIfInBounds_toArray, List.set_cons_zero, List.set_cons_succ, zw, zy]
           rfl
          refine zJ (i := 5) (N := some 62) (v := ?_) (a' := ?_) #[true, true, true, true, true, true, false, false, false, false, false, false, false, false, false, false, false, false, false, false, false, false, false, false, false, false, false, false, false, false, false, false, false, false, false, false] rfl rfl (zC HT_.out (by kernel_rfl)) (fun _ _ _ h => h) (Or.inl ⟨by rfl, ?_⟩) ?_ ?_
          rotate_left
          ·intro w'
           go_simp
           with_reducible rfl
          rotate_left
          ·simp only [Act.put, List.setIfInBounds_toArray, List.set_cons_zero, List.set_cons_succ, zw, zy]
           rfl
          refine zJ (i := 6) (N := some 63) (v := undef) (a' := ?_) #[true, true, true, true, true, true, true, false, false, false, false, false, false, false, false, false, false, false, false, false, false, false, false, false, false, false, false, false, false, false, false, false, false, false, false, false] rfl rfl (zC HT_.out (by kernel_rfl)) (fun _ _ _ h => h) (Or.inr ⟨by rfl, rfl⟩) ?_ ?_
          rotate_left
          ·simp only [Act.put, List.setIfInBounds_toArray, List.set_cons_zero, List.set_cons_succ, zw, zy]
           rfl
          refine zJ (i := 7) (N := some 64) (v := undef) (a' := ?_) #[true, true, true, true, true, true, true, true, false, false, false, false, false, false, false, false, false, false, false, false, false, false, false, false, false, false, false, false, false, false, false, false, false, false, false, false] rfl rfl (zC HT_.out (by kernel_rfl)) (fun _ _ _ h => h) (Or.inr ⟨by rfl, rfl⟩) ?_ ?_
          rotate_left
          ·simp only [Act.put, List.setIfInBounds_toArray, List.set_cons_zero, List.set_cons_succ, zw, zy]
           rfl
          refine zJ (i := 8) (N := some 65) (v := undef) (a' := ?_) #[true, true, true, true, true, true, true, true, true, false, false, false, false, false, false, false, false, false, false, false, false, false, false, false, false, false, false, false, false, false, false, false, false, false, false, false] rfl rfl (zC HT_.out (by kernel_rfl)) (fun _ _ _ h => h) (Or.inr ⟨by rfl, rfl⟩) ?_ ?_
          rotate_left
          ·simp only [Act.put, List.setIfInBounds_toArray, List.set_cons_zero, List.set_cons_succ, zw, zy]
           rfl
          refine zJ (i := 9) (N := some 66) (v := undef) (a' := ?_) #[true, true, true, true, true, true, true, true, true, true, false, false, false, false, false, false, false, false, false, false, false, false, false, false, false, false, false, false, false, false, false, false, false, false, false, false] rfl rfl (zC HT_.out (by kernel_rfl)) (fun _ _ _ h => h) (Or.inr ⟨by rfl, rfl⟩) ?_ ?_
          rotate_left
          ·simp only [Act.put, List.setIfInBounds_toArray, List.set_cons_zero, List.set_cons_succ, zw, zy]
           rfl
          refine zJ (i := 10) (N := some 67) (v := undef) (a' := ?_) #[true, true, true, true, true, true, true, true, true, true, true, false, false, false, false, false, false, false, false, false, false, false, false, false, false, false, false, false, false, false, false, false, false, false, false, false] rfl rfl (zC HT_.out (by kernel_rfl)) (fun _ _ _ h => h) (Or.inr ⟨by rfl, rfl⟩) ?_ ?_
          rotate_left
          ·simp only [Act.put, List.setIfInBounds_toArray, List.set_cons_zero, List.set_cons_succ, zw, zy]
           rfl
          refine zJ (i := 11) (N := some 68) (v := undef) (a' := ?_) #[true, true, true, true, true, true, true, true, true, true, true, true, false, false, false, false, false, false, false, false, false, false, false, false, false, false, false, false, false, false, false, false, false, false, false, false] rfl rfl (zC HT_.out (by kernel_rfl)) (fun _ _ _ h => h) (Or.inr ⟨by rfl, rfl⟩) ?_ ?_
          rotate_left
          ·simp only [Act.put, List.setIfInBounds_toArray, List.set_cons_zero, List.set_cons_succ, zw, zy]
           rfl
          refine zJ (i := 12) (N := some 69) (v := undef) (a' := ?_) #[true, true, true, true, true, true, true, true, true, true, true, true, true, false, false, false, false, false, false, false, false, false, false, false, false, false, false, false, false, false, false, false, false, false, false, false] rfl rfl (zC HT_.out (by kernel_rfl)) (fun _ _ _ h => h) (Or.inr ⟨by rfl, rfl⟩) ?_ ?_
          rotate_left
          ·simp only [Act.put, List.setIfInBounds_toArray, List.set_cons_zero, List.set_cons_succ, zw, zy]
           rfl
          refine zJ (i := 13) (N := some 70) (v := ?_) (a' := ?_) #[true, true, true, true, true, true, true, true, true, true, true, true, true, true, false, false, false, false, false, false, false, false, false, false, false, false, false, false, false, false, false, false, false, false, false, false] rfl rfl (zC HT_.out (by kernel_rfl)) (fun _ _ _ h => h) (Or.inl ⟨by rfl, ?_⟩) ?_ ?_
          rotate_left
          ·intro w'
           go_simp
           with_reducible rfl
          rotate_left
          ·simp only [Act.put, List.setIfInBounds_toArray, List.set_cons_zero, List.set_cons_succ, zw, zy]
           rfl
          refine zJ (i := 14) (N := some 71) (v := ?_) (a' := ?_) #[true, true, true, true, true, true, true, true, true, true, true, true, true, true, true, false, false, false, false, false, false, false, false, false, false, false, false, false, false, false, false, false, false, false, false, false] rfl rfl (zC HT_.out (by kernel_rfl)) (fun _ _ _ h => h) (Or.inl ⟨by rfl, ?_⟩) ?_ ?_
          rotate_left
          ·intro w'
           go_simp
           with_reducible rfl
          rotate_left
          ·simp only [Act.put, List.setIfInBounds_toArray, List.set_cons_zero, List.set_cons_succ, zw, zy]
           rfl
          refine zJ (i := 15) (N := some 72) (v := undef) (a' := ?_) #[true, true, true, true, true, true, true, true, true, true, true, true, true, true, true, true, false, false, false, false, false, false, false, false, false, false, false, false, false, false, false, false, false, false, false, false] rfl rfl (zC HT_.out (by kernel_rfl)) (fun _ _ _ h => h) (Or.inr ⟨by rfl, rfl⟩) ?_ ?_
          rotate_left
          ·simp only [Act.put, List.setIfInBounds_toArray, List.set_cons_zero, List.set_cons_succ, zw, zy]
           rfl
          refine zJ (i := 16) (N := some 73) (v := undef) (a' := ?_) #[true, true, true, true, true, true, true, true, true, true, true, true, true, true, true, true, true, false, false, false, false, false, false, false, false, false, false, false, false, false, false, false, false, false, false, false] rfl rfl (zC HT_.out (by kernel_rfl)) (fun _ _ _ h => h) (Or.inr ⟨by rfl, rfl⟩) ?_ ?_
          rotate_left
          ·simp only [Act.put, List.setIfInBounds_toArray, List.set_cons_zero, List.set_cons_succ, zw, zy]
           rfl
          refine zJ (i := 17) (N := some 74) (v := undef) (a' := ?_) #[true, true, true, true, true, true, true, true, true, true, true, true, true, true, true, true, true, true, false, false, false, false, false, false, false, false, false, false, false, false, false, false, false, false, false, false] rfl rfl (zC HT_.out (by kernel_rfl)) (fun _ _ _ h => h) (Or.inr ⟨by rfl, rfl⟩) ?_ ?_
          rotate_left
          ·simp only [Act.put, List.setIfInBounds_toArray, List.set_cons_zero, List.set_cons_succ, zw, zy]
           rfl
          refine zJ (i := 18) (N := some 75) (v := undef) (a' := ?_) #[true, true, true, true, true, true, true, true, true, true, true, true, true, true, true, true, true, true, true, false, false, false, false, false, false, false, false, false, false, false, false, false, false, false, false, false] rfl rfl (zC HT_.out (by kernel_rfl)) (fun _ _ _ h => h) (Or.inr ⟨by rfl, rfl⟩) ?_ ?_
          rotate_left
          ·simp only [Act.put, List.setIfInBounds_toArray, List.set_cons_zero, List.set_cons_succ, zw, zy]
           rfl
          refine zJ (i := 19) (N := some 76) (v := undef) (a' := ?_) #[true, true, true, true, true, true, true, true, true, true, true, true, true, true, true, true, true, true, true, true, false, false, false, false, false, false, false, false, false, false, false, false, false, false, false, false] rfl rfl (zC HT_.out (by kernel_rfl)) (fun _ _ _ h => h) (Or.inr ⟨by rfl, rfl⟩) ?_ ?_
          rotate_left
          ·simp only [Act.put, List.setIfInBounds_toArray, List.set_cons_zero, List.set_cons_succ, zw, zy]
           rfl
          refine zJ (i := 20) (N := some 77) (v := undef) (a' := ?_) #[true, true, true, true, true, true, true, true, true, true, true, true, true, true, true, true, true, true, true, true, true, false, false, false, false, false, false, false, false, false, false, false, false, false, false, false] rfl rfl (zC HT_.out (by kernel_rfl)) (fun _ _ _ h => h) (Or.inr ⟨by rfl, rfl⟩) ?_ ?_
          rotate_left
          ·simp only [Act.put, List.setIfInBounds_toArray, List.set_cons_zero, List.set_cons_succ, zw, zy]
           rfl
          refine zJ (i := 21) (N := some 78) (v := undef) (a' := ?_) #[true, true, true, true, true, true, true, true, true, true, true, true, true, true, true, true, true, true, true, true, true, true, false, false, false, false, false, false, false, false, false, false, false, false, false, false] rfl rfl (zC HT_.out (by kernel_rfl)) (fun _ _ _ h => h) (Or.inr ⟨by rfl, rfl⟩) ?_ ?_
          rotate_left
          ·simp only [Act.put, List.setIfInBounds_toArray, List.set_cons_zero, List.set_cons_succ, zw, zy]
           rfl
          refine zJ (i := 22) (N := some 79) (v := undef) (a' := ?_) #[true, true, true, true, true, true, true, true, true, true, true, true, true, true, true, true, true, true, true, true, true, true, true, false, false, false, false, false, false, false, false, false, false, false, false, false] rfl rfl (zC HT_.out (by kernel_rfl)) (fun _ _ _ h => h) (Or.inr ⟨by rfl, rfl⟩) ?_ ?_
          rotate_left
          ·simp only [Act.put, List.setIfInBounds_toArray, List.set_cons_zero, List.set_cons_succ, zw, zy]
           rfl
          refine zJ (i := 23) (N := some 80) (v := undef) (a' := ?_) #[true, true, true, true, true, true, true, true, true, true, true, true, true, true, true, true, true, true, true, true, true, true, true, true, false, false, false, false, false, false, false, false, false, false, false, false] rfl rfl (zC HT_.out (by kernel_rfl)) (fun _ _ _ h => h) (Or.inr ⟨by rfl, rfl⟩) ?_ ?_
          rotate_left
          ·simp only [Act.put, List.setIfInBounds_toArray, List.set_cons_zero, List.set_cons_succ, zw, zy]
           rfl
          refine zJ (i := 24) (N := some 81) (v := undef) (a' := ?_) #[true, true, true, true, true, true, true, true, true, true, true, true, true, true, true, true, true, true, true, true, true, true, true, true, true, false, false, false, false, false, false, false, false, false, false, false] rfl rfl (zC HT_.out (by kernel_rfl)) (fun _ _ _ h => h) (Or.inr ⟨by rfl, rfl⟩) ?_ ?_
          rotate_left
          ·simp only [Act.put, List.setIfInBounds_toArray, List.set_cons_zero, List.set_cons_succ, zw, zy]
           rfl
          refine zJ (i := 25) (N := some 82) (v := undef) (a' := ?_) #[true, true, true, true, true, true, true, true, true, true, true, true, true, true, true, true, true, true, true, true, true, true, true, true, true, true, false, false, false, false, false, false, false, false, false, false] rfl rfl (zC HT_.out (by kernel_rfl)) (fun _ _ _ h => h) (Or.inr ⟨by rfl, rfl⟩) ?_ ?_
          rotate_left
          ·simp only [Act.put, List.setIfInBounds_toArray, List.set_cons_zero, List.set_cons_succ, zw, zy]
           rfl
          refine zJ (i := 26) (N := some 83) (v := undef) (a' := ?_) #[true, true, true, true, true, true, true, true, true, true, true, true, true, true, true, true, true, true, true, true, true, true, true, true, true, true, true, false, false, false, false, false, false, false, false, false] rfl rfl (zC HT_.out (by kernel_rfl)) (fun _ _ _ h => h) (Or.inr ⟨by rfl, rfl⟩) ?_ ?_
          rotate_left
          ·simp only [Act.put, List.setIfInBounds_toArray, List.set_cons_zero, List.set_cons_succ, zw, zy]
           rfl
          refine zJ (i := 27) (N := some 84) (v := undef) (a' := ?_) #[true, true, true, true, true, true, true, true, true, true, true, true, true, true, true, true, true, true, true, true, true, true, true, true, true, true, true, true, false, false, false, false, false, false, false, false] rfl rfl (zC HT_.out (by kernel_rfl)) (fun _ _ _ h => h) (Or.inr ⟨by rfl, rfl⟩) ?_ ?_
          rotate_left
          ·simp only [Act.put, List.setIfInBounds_toArray, List.set_cons_zero, List.set_cons_succ, zw, zy]
           rfl
          refine zJ (i := 28) (N := some 85) (v := undef) (a' := ?_) #[true, true, true, true, true, true, true, true, true, true, true, true, true, true, true, true, true, true, true, true, true, true, true, true, true, true, true, true, true, false, false, false, false, false, false, false] rfl rfl (zC HT_.out (by kernel_rfl)) (fun _ _ _ h => h) (Or.inr ⟨by rfl, rfl⟩) ?_ ?_
          rotate_left
          ·simp only [Act.put, List.setIfInBounds_toArray, List.set_cons_zero, List.set_cons_succ, zw, zy]
           rfl
          refine zJ (i := 29) (N := some 86) (v := undef) (a' := ?_) #[true, true, true, true, true, true, true, true, true, true, true, true, true, true, true, true, true, true, true, true, true, true, true, true, true, true, true, true, true, true, false, false, false, false, false, false] rfl rfl (zC HT_.out (by kernel_rfl)) (fun _ _ _ h => h) (Or.inr ⟨by rfl, rfl⟩) ?_ ?_
          rotate_left
          ·simp only [Act.put, List.setIfInBounds_toArray, List.set_cons_zero, List.set_cons_succ, zw, zy]
           rfl
          refine zJ (i := 30) (N := some 87) (v := undef) (a' := ?_) #[true, true, true, true, true, true, true, true, true, true, true, true, true, true, true, true, true, true, true, true, true, true, true, true, true, true, true, true, true, true, true, false, false, false, false, false] rfl rfl (zC HT_.out (by kernel_rfl)) (fun _ _ _ h => h) (Or.inr ⟨by rfl, rfl⟩) ?_ ?_
          rotate_left
          ·simp only [Act.put, List.setIfInBounds_toArray, List.set_cons_zero, List.set_cons_succ, zw, zy]
           rfl
          refine zJ (i := 31) (N := some 88) (v := undef) (a' := ?_) #[true, true, true, true, true, true, true, true, true, true, true, true, true, true, true, true, true, true, true, true, true, true, true, true, true, true, true, true, true, true, true, true, false, false, false, false] rfl rfl (zC HT_.out (by kernel_rfl)) (fun _ _ _ h => h) (Or.inr ⟨by rfl, rfl⟩) ?_ ?_
          rotate_left
          ·simp only [Act.put, List.setIfInBounds_toArray, List.set_cons_zero, List.set_cons_succ, zw, zy]
           rfl
          refine zJ (i := 32) (N := some 89) (v := undef) (a' := ?_) #[true, true, true, true, true, true, true, true, true, true, true, true, true, true, true, true, true, true, true, true, true, true, true, true, true, true, true, true, true, true, true, true, true, false, false, false] rfl rfl (zC HT_.out (by kernel_rfl)) (fun _ _ _ h => h) (Or.inr ⟨by rfl, rfl⟩) ?_ ?_
          rotate_left
          ·simp only [Act.put, List.setIfInBounds_toArray, List.set_cons_zero, List.set_cons_succ, zw, zy]
           rfl
          refine zJ (i := 33) (N := some 90) (v := undef) (a' := ?_) #[true, true, true, true, true, true, true, true, true, true, true, true, true, true, true, true, true, true, true, true, true, true, true, true, true, true, true, true, true, true, true, true, true, true, false, false] rfl rfl (zC HT_.out (by kernel_rfl)) (fun _ _ _ h => h) (Or.inr ⟨by rfl, rfl⟩) ?_ ?_
          rotate_left
          ·simp only [Act.put, List.setIfInBounds_toArray, List.set_cons_zero, List.set_cons_succ, zw, zy]
           rfl
          refine zJ (i := 34) (N := some 91) (v := undef) (a' := ?_) #[true, true, true, true, true, true, true, true, true, true, true, true, true, true, true, true, true, true, true, true, true, true, true, true, true, true, true, true, true, true, true, true, true, true, true, false] rfl rfl (zC HT_.out (by kernel_rfl)) (fun _ _ _ h => h) (Or.inr ⟨by rfl, rfl⟩) ?_ ?_
          rotate_left
          ·simp only [Act.put, List.setIfInBounds_toArray, List.set_cons_zero, List.set_cons_succ, zw, zy]
           rfl
          refine zJ (i := 35) (N := some 92) (v := ?_) (a' := ?_) #[true, true, true, true, true, true, true, true, true, true, true, true, true, true, true, true, true, true, true, true, true, true, true, true, true, true, true, true, true, true, true, true, true, true, true, true] rfl rfl (zC HT_.out (by kernel_rfl)) (fun _ _ _ h => h) (Or.inl ⟨by rfl, ?_⟩) ?_ ?_
          rotate_left
          ·intro w'
           go_simp
           with_reducible rfl
          rotate_left
          ·simp only [Act.put, List.setIfInBounds_toArray, List.set_cons_zero, List.set_cons_succ, zw, zy]
           rfl
          refine zcO (zcd HT_.out (by kernel_rfl)) ?_
          try go_wp2
          go_meet
          case rel => exact ⟨_, (true), (by first | rfl | (simp; done) | (simp [*]; done)), H', ⟨by have := HJ6.out; have := HK2.out; first | omega | exact Nat.le_refl _⟩, ⟨by (with_reducible repeat (first | apply Kd.zas | apply Kd.zat | apply Kd.zax)); exact HO_4.out⟩, ⟨by (with_reducible repeat (first | apply Kd.zO | apply Kd.zP | apply Kd.zN)); exact HO_5.out⟩, ⟨by (with_reducible repeat (first | apply Kd.zO | apply Kd.zP | apply Kd.zN)); exact HO_6.out⟩, ⟨by (with_reducible repeat (first | apply Kd.zO | apply Kd.zP | apply Kd.zN)); exact HO_8.out⟩, ⟨by repeat (first | (with_reducible first | exact HB.out | apply ze | apply zb | apply zf) | exact HB.out)⟩⟩
         ·rw [if_neg c26] at H
          have c26b0 : decide ((rd t714 x11_2) < (-1)) = false := decide_eq_false c26
          clear c26
          by_cases c28 : (rd t714 x11_2) ≥ (t704.length : Int)
          ·rw [if_pos c28] at H
           have c28b0 : decide ((t704.length : Int) ≤ (rd t714 x11_2)) = true := decide_eq_true c28
           clear c28
           have H' := za.mk H
           clear H
           try go_wp2
           have n0_ := za.mk (Kd.zax HO_4.out)
           have n1_ := za.mk (Kd.zN HO_5.out)
           have n2_ := za.mk (Kd.zN HO_6.out)
           have n3_ := za.mk (Kd.zN HO_8.out)
           have n4_ := za.mk (zf HB.out)
           clear HO_4
           clear HO_5
           clear HO_6
           clear HO_8
           clear HB
           have HO_4 := n0_
           have HO_5 := n1_
           have HO_6 := n2_
           have HO_8 := n3_
           have HB := n4_
           clear n0_ n1_ n2_ n3_ n4_
           have p723 : 0 ≤ (x11_2 : Int) := of_decide_eq_true (by first | (with_reducible assumption) | assumption)
           have q723 : x11_2 < (t714.length : Int) := of_decide_eq_true (by first | (with_reducible assumption) | assumption)
           obtain ⟨ad723, e723, hx723_0⟩ := Kd.zbk (Kd.zaF HO_6.out).2.2 x11_2 p723 q723
           cases e723
           replace p723 := eq_true p723
           replace q723 := eq_true q723
           have p724 : 0 ≤ (x11_2 : Int) := of_decide_eq_true (by first | (with_reducible assumption) | assumption)
           have q724 : x11_2 < (t714.length : Int) := of_decide_eq_true (by first | (with_reducible assumption) | assumption)
           obtain ⟨ad724, e724, hx724_0⟩ := Kd.zbk (Kd.zaF HO_6.out).2.2 x11_2 p724 q724
           obtain rfl : ad723 = ad724 := (by injection e724)
           replace p724 := eq_true p724
           replace q724 := eq_true q724
           refine zcq (n := 36) (S := fun w' => w'.cell? (ad723.add (x11_2).toNat) = some (.int .i64 (rd t714 x11_2)) ∧ w'.cell? (ad723.add (x11_2).toNat) = some (.int .i64 (rd t714 x11_2))) (ds := []) #[false, false, false, false, false, false, false, false, false, false, false, false, false, false, false, false, false, false, false, false, false, false, false, false, false, false, false, false, false, false, false, false, false, false, false, false] (by kernel_rfl) rfl rfl ⟨hx723_0, hx724_0⟩ (fun hHeld => ?_); refine zbO zh.zfo zh.zeu (fun HT_ HW_ => ?_)
           generalize wr.drew = w29 at HO_4 HO_5 HO_6 HO_8 HB hx723_0 hx724_0 hHeld ⊢
           refine zJ (i := 0) (N := some 57) (v := ?_) (a' := ?_) #[true, false, false, false, false, false, false, false, false, false, false, false, false, false, false, false, false, false, false, false, false, false, false, false, false, false, false, false, false, false, false, false, false, false, false, false] rfl rfl (zC HT_.out (by kernel_rfl)) (fun _ _ _ h => h) (Or.inl ⟨by rfl, ?_⟩) ?_ ?_
           rotate_left
           ·intro w'
            go_simp
            with_reducible rfl
           rotate_left
           ·simp only [Act.put, List.setIfInBounds_toArray, List.set_cons_zero, List.set_cons_succ, zw, zy]
            rfl
           refine zJ (i := 1) (N := some 58) (v := ?_) (a' := ?_) #[true, true, false, false, false, false, false, false, false, false, false, false, false, false, false, false, false, false, false, false, false, false, false, false, false, false, false, false, false, false, false, false, false, false, false, false] rfl rfl (zC HT_.out (by kernel_rfl)) (fun _ _ _ h => h) (Or.inl ⟨by rfl, ?_⟩) ?_ ?_
           rotate_left
           ·intro w'
            go_simp
            with_reducible rfl
           rotate_left
           ·simp only [Act.put, List.setIfInBounds_toArray, List.set_cons_zero, List.set_cons_succ, zw, zy]
            rfl
           refine zJ (i := 2) (N := some 59) (v := ?_) (a' := ?_) #[true, true, true, false, false, false, false, false, false, false, false, false, false, false, false, false, false, false, false, false, false, false, false, false, false, false, false, false, false, false, false, false, false, false, false, false] rfl rfl (zC HT_.out (by kernel_rfl)) (fun _ _ _ h => h) (Or.inl ⟨by rfl, ?_⟩) ?_ ?_
           rotate_left
           ·intro w'
            go_simp
            with_reducible rfl
           rotate_left
           ·simp only [Act.put, List.setIfInBounds_toArray, List.set_cons_zero, List.set_cons_succ, zw, zy]
            rfl
           refine za6 (i := 3) (N := some 60) (v := ?_) (a' := ?_) #[true, true, true, true, false, false, false, false, false, false, false, false, false, false, false, false, false, false, false, false, false, false, false, false, false, false, false, false, false, false, false, false, false, false, false, false] rfl rfl (zaL HT_.out HW_.out (by kernel_rfl)) (fun _ _ _ h => h) (Or.inl ⟨by rfl, ?_⟩) hHeld ?_ ?_
           rotate_left
           ·rintro w' ⟨s0, s1⟩
            go_simp
            with_reducible rfl
           rotate_left
           ·simp only [Act.put, List.setIfInBounds_toArray, List.set_cons_zero, List.set_cons_succ, zw, zy]
            rfl
           refine zJ (i := 4) (N := some 61) (v := ?_) (a' := ?_) #[true, true, true, true, true, false, false, false, false, false, false, false, false, false, false, false, false, false, false, false, false, false, false, false, false, false, false, false, false, false, false, false, false, false, false, false] rfl rfl (zC HT_.out (by kernel_rfl)) (fun _ _ _ h => h) (Or.inl ⟨by rfl, ?_⟩) ?_ ?_
           rotate_left
           ·intro w'
            go_simp
            with_reducible rfl
           rotate_left
           ·simp only [Act.put, List.setIfInBounds_toArray, List.set_cons_zero, List.set_cons_succ, zw, zy]
            rfl
           refine zJ (i := 5) (N := some 62) (v := ?_) (a' := ?_) #[true, true, true, true, true, true, false, false, false, false, false, false, false, false, false, false, false, false, false, false, false, false, false, false, false, false, false, false, false, false, false, false, false, false, false, false] rfl rfl (zC HT_.out (by kernel_rfl)) (fun _ _ _ h => h) (Or.inl ⟨by rfl, ?_⟩) ?_ ?_
           rotate_left
           ·intro w'
            go_simp
            with_reducible rfl
           rotate_left
           ·simp only [Act.put, List.setIfInBounds_toArray, List.set_cons_zero, List.set_cons_succ, zw, zy]
            rfl
           refine zJ (i := 6) (N := some 63) (v := ?_) (a' := ?_) #[true, true, true, true, true, true, true, false, false, false, false, false, false, false, false, false, false, false, false, false, false, false, false, false, false, false, false, false, false, false, false, false, false, false, false, false] rfl rfl (zC HT_.out (by kernel_rfl)) (fun _ _ _ h => h) (Or.inl ⟨by rfl, ?_⟩) ?_ ?_
           rotate_left
           ·intro w'
            go_simp
            with_reducible rfl
           rotate_left
           ·simp only [Act.put, List.setIfInBounds_toArray, List.set_cons_zero, List.set_cons_succ, zw, zy]
            rfl
           refine zJ (i := 7) (N := some 64) (v := ?_) (a' := ?_) #[true, true, true, true, true, true, true, true, false, false, false, false, false, false, false, false, false, false, false, false, false, false, false, false, false, false, false, false, false, false, false, false, false, false, false, false] rfl rfl (zC HT_.out (by kernel_rfl)) (fun _ _ _ h => h) (Or.inl ⟨by rfl, ?_⟩) ?_ ?_
           rotate_left
           ·intro w'
            go_simp
            with_reducible rfl
           rotate_left
           ·simp only [Act.put, List.setIfInBounds_toArray, List.set_cons_zero, List.set_cons_succ, zw, zy]
            rfl
           refine zJ (i := 8) (N := some 65) (v := ?_) (a' := ?_) #[true, true, true, true, true, true, true, true, true, false, false, false, false, false, false, false, false, false, false, false, false, false, false, false, false, false, false, false, false, false, false, false, false, false, false, false] rfl rfl (zC HT_.out (by kernel_rfl)) (fun _ _ _ h => h) (Or.inl ⟨by rfl, ?_⟩) ?_ ?_
           rotate_left
           ·intro w'
            go_simp
            with_reducible rfl
           rotate_left
           ·simp only [Act.put, List.setIfInBounds_toArray, List.set_cons_zero, List.set_cons_succ, zw, zy]
            rfl
           refine zJ (i := 10) (N := some 67) (v := ?_) (a' := ?_) #[true, true, true, true, true, true, true, true, true, false, true, false, false, false, false, false, false, false, false, false, false, false, false, false, false, false, false, false, false, false, false, false, false, false, false, false] rfl rfl (zC HT_.out (by kernel_rfl)) (fun _ _ _ h => h) (Or.inl ⟨by rfl, ?_⟩) ?_ ?_
           rotate_left
           ·intro w'
            go_simp
            with_reducible rfl
           rotate_left
           ·simp only [Act.put, List.setIfInBounds_toArray, List.set_cons_zero, List.set_cons_succ, zw, zy]
            rfl
           refine zJ (i := 11) (N := some 68) (v := ?_) (a' := ?_) #[true, true, true, true, true, true, true, true, true, false, true, true, false, false, false, false, false, false, false, false, false, false, false, false, false, false, false, false, false, false, false, false, false, false, false, false] rfl rfl (zC HT_.out (by kernel_rfl)) (fun _ _ _ h => h) (Or.inl ⟨by rfl, ?_⟩) ?_ ?_
           rotate_left
           ·intro w'
            go_simp
            with_reducible rfl
           rotate_left
           ·simp only [Act.put, List.setIfInBounds_toArray, List.set_cons_zero, List.set_cons_succ, zw, zy]
            rfl
           refine za6 (i := 9) (N := some 66) (v := ?_) (a' := ?_) #[true, true, true, true, true, true, true, true, true, true, true, true, false, false, false, false, false, false, false, false, false, false, false, false, false, false, false, false, false, false, false, false, false, false, false, false] rfl rfl (zaL HT_.out HW_.out (by kernel_rfl)) (fun _ _ _ h => h) (Or.inl ⟨by rfl, ?_⟩) hHeld ?_ ?_
           rotate_left
           ·rintro w' ⟨s0, s1⟩
            go_simp
            with_reducible rfl
           rotate_left
           ·simp only [Act.put, List.setIfInBounds_toArray, List.set_cons_zero, List.set_cons_succ, zw, zy]
            rfl
           refine zJ (i := 12) (N := some 69) (v := ?_) (a' := ?_) #[true, true, true, true, true, true, true, true, true, true, true, true, true, false, false, false, false, false, false, false, false, false, false, false, false, false, false, false, false, false, false, false, false, false, false, false] rfl rfl (zC HT_.out (by kernel_rfl)) (fun _ _ _ h => h) (Or.inl ⟨by rfl, ?_⟩) ?_ ?_
           rotate_left
           ·intro w'
            go_simp
            with_reducible rfl
           rotate_left
           ·simp only [Act.put, List.setIfInBounds_toArray, List.set_cons_zero, List.set_cons_succ, zw, zy]
            rfl
           refine zJ (i := 13) (N := some 70) (v := ?_) (a' := ?_) #[true, true, true, true, true, true, true, true, true, true, true, true, true, true, false, false, false, false, false, false, false, false, false, false, false, false, false, false, false, false, false, false, false, false, false, false] rfl rfl (zC HT_.out (by kernel_rfl)) (fun _ _ _ h => h) (Or.inl ⟨by rfl, ?_⟩) ?_ ?_
           rotate_left
           ·intro w'
            go_simp
            with_reducible rfl
           rotate_left
           ·simp only [Act.put, List.setIfInBounds_toArray, List.set_cons_zero, List.set_cons_succ, zw, zy]
            rfl
           refine zJ (i := 14) (N := some 71) (v := ?_) (a' := ?_) #[true, true, true, true, true, true, true, true, true, true, true, true, true, true, true, false, false, false, false, false, false, false, false, false, false, false, false, false, false, false, false, false, false, false, false, false] rfl rfl (zC HT_.out (by kernel_rfl)) (fun _ _ _ h => h) (Or.inl ⟨by rfl, ?_⟩) ?_ ?_
           rotate_left
           ·intro w'
            go_simp
            with_reducible rfl
           rotate_left
           ·simp only [Act.put, List.setIfInBounds_toArray, List.set_cons_zero, List.set_cons_succ, zw, zy]
            rfl
           refine zJ (i := 15) (N := some 72) (v := undef) (a' := ?_) #[true, true, true, true, true, true, true, true, true, true, true, true, true, true, true, true, false, false, false, false, false, false, false, false, false, false, false, false, false, false, false, false, false, false, false, false] rfl rfl (zC HT_.out (by kernel_rfl)) (fun _ _ _ h => h) (Or.inr ⟨by rfl, rfl⟩) ?_ ?_
           rotate_left
           ·simp only [Act.put, List.setIfInBounds_toArray, List.set_cons_zero, List.set_cons_succ, zw, zy]
            rfl
           refine zJ (i := 16) (N := some 73) (v := undef) (a' := ?_) #[true, true, true, true, true, true, true, true, true, true, true, true, true, true, true, true, true, false, false, false, false, false, false, false, false, false, false, false, false, false, false, false, false, false, false, false] rfl rfl (zC HT_.out (by kernel_rfl)) (fun _ _ _ h => h) (Or.inr ⟨by rfl, rfl⟩) ?_ ?_
           rotate_left
           ·simp only [Act.put, List.setIfInBounds_toArray, List.set_cons_zero, List.set_cons_succ, zw, zy]
            rfl
           refine zJ (i := 17) (N := some 74) (v := undef) (a' := ?_) #[true, true, true, true, true, true, true, true, true, true, true, true, true, true, true, true, true, true, false, false, false, false, false, false, false, false, false, false, false, false, false, false, false, false, false, false] rfl rfl (zC HT_.out (by kernel_rfl)) (fun _ _ _ h => h) (Or.inr ⟨by rfl, rfl⟩) ?_ ?_
           rotate_left
           ·simp only [Act.put, List.setIfInBounds_toArray, List.set_cons_zero, List.set_cons_succ, zw, zy]
            rfl
           refine zJ (i := 18) (N := some 75) (v := undef) (a' := ?_) #[true, true, true, true, true, true, true, true, true, true, true, true, true, true, true, true, true, true, true, false, false, false, false, false, false, false, false, false, false, false, false, false, false, false, false, false] rfl rfl (zC HT_.out (by kernel_rfl)) (fun _ _ _ h => h) (Or.inr ⟨by rfl, rfl⟩) ?_ ?_
           rotate_left
           ·simp only [Act.put, List.setIfInBounds_toArray, List.set_cons_zero, List.set_cons_succ, zw, zy]
            rfl
           refine zJ (i := 19) (N := some 76) (v := undef) (a' := ?_) #[true, true, true, true, true, true, true, true, true, true, true, true, true, true, true, true, true, true, true, true, false, false, false, false, false, false, false, false, false, false, false, false, false, false, false, false] rfl rfl (zC HT_.out (by kernel_rfl)) (fun _ _ _ h => h) (Or.inr ⟨by rfl, rfl⟩) ?_ ?_
           rotate_left
           ·simp only [Act.put, List.setIfInBounds_toArray, List.set_cons_zero, List.set_cons_succ, zw, zy]
            rfl
           refine zJ (i := 20) (N := some 77) (v := undef) (a' := ?_) #[true, true, true, true, true, true, true, true, true, true, true, true, true, true, true, true, true, true, true, true, true, false, false, false, false, false, false, false, false, false, false, false, false, false, false, false] rfl rfl (zC HT_.out (by kernel_rfl)) (fun _ _ _ h => h) (Or.inr ⟨by rfl, rfl⟩) ?_ ?_
           rotate_left
           ·simp only [Act.put, List.setIfInBounds_toArray, List.set_cons_zero, List.set_cons_succ, zw, zy]
            rfl
           refine zJ (i := 21) (N := some 78) (v := undef) (a' := ?_) #[true, true, true, true, true, true, true, true, true, true, true, true, true, true, true, true, true, true, true, true, true, true, false, false, false, false, false, false, false, false, false, false, false, false, false, false] rfl rfl (zC HT_.out (by kernel_rfl)) (fun _ _ _ h => h) (Or.inr ⟨by rfl, rfl⟩) ?_ ?_
           rotate_left
           ·simp only [Act.put, List.setIfInBounds_toArray, List.set_cons_zero, List.set_cons_succ, zw, zy]
            rfl
           refine zJ (i := 22) (N := some 79) (v := undef) (a' := ?_) #[true, true, true, true, true, true, true, true, true, true, true, true, true, true, true, true, true, true, true, true, true, true, true, false, false, false, false, false, false, false, false, false, false, false, false, false] rfl rfl (zC HT_.out (by kernel_rfl)) (fun _ _ _ h => h) (Or.inr ⟨by rfl, rfl⟩) ?_ ?_
           rotate_left
           ·simp only [Act.put, List.setIfInBounds_toArray, List.set_cons_zero, List.set_cons_succ, zw, zy]
            rfl
           refine zJ (i := 23) (N := some 80) (v := undef) (a' := ?_) #[true, true, true, true, true, true, true, true, true, true, true, true, true, true, true, true, true, true, true, true, true, true, true, true, false, false, false, false, false, false, false, false, false, false, false, false] rfl rfl (zC HT_.out (by kernel_rfl)) (fun _ _ _ h => h) (Or.inr ⟨by rfl, rfl⟩) ?_ ?_
           rotate_left
           ·simp only [Act.put, List.setIfInBounds_toArray, List.set_cons_zero, List.set_cons_succ, zw, zy]
            rfl
           refine zJ (i := 24) (N := some 81) (v := undef) (a' := ?_) #[true, true, true, true, true, true, true, true, true, true, true, true, true, true, true, true, true, true, true, true, true, true, true, true, true, false, false, false, false, false, false, false, false, false, false, false] rfl rfl (zC HT_.out (by kernel_rfl)) (fun _ _ _ h => h) (Or.inr ⟨by rfl, rfl⟩) ?_ ?_
           rotate_left
           ·simp only [Act.put, List.setIfInBounds_toArray, List.set_cons_zero, List.set_cons_succ, zw, zy]
            rfl
           refine zJ (i := 25) (N := some 82) (v := undef) (a' := ?_) #[true, true, true, true, true, true, true, true, true, true, true, true, true, true, true, true, true, true, true, true, true, true, true, true, true, true, false, false, false, false, false, false, false, false, false, false] rfl rfl (zC HT_.out (by kernel_rfl)) (fun _ _ _ h => h) (Or.inr ⟨by rfl, rfl⟩) ?_ ?_
           rotate_left
           ·simp only [Act.put, List.setIfInBounds_toArray, List.set_cons_zero, List.set_cons_succ, zw, zy]
            rfl
           refine zJ (i := 26) (N := some 83) (v := undef) (a' := ?_) #[true, true, true, true, true, true, true, true, true, true, true, true, true, true, true, true, true, true, true, true, true, true, true, true, true, true, true, false, false, false, false, false, false, false, false, false] rfl rfl (zC HT_.out (by kernel_rfl)) (fun _ _ _ h => h) (Or.inr ⟨by rfl, rfl⟩) ?_ ?_
           rotate_left
           ·simp only [Act.put, List.setIfInBounds_toArray, List.set_cons_zero, List.set_cons_succ, zw, zy]
            rfl
           refine zJ (i := 27) (N := some 84) (v := undef) (a' := ?_) #[true, true, true, true, true, true, true, true, true, true, true, true, true, true, true, true, true, true, true, true, true, true, true, true, true, true, true, true, false, false, false, false, false, false, false, false] rfl rfl (zC HT_.out (by kernel_rfl)) (fun _ _ _ h => h) (Or.inr ⟨by rfl, rfl⟩) ?_ ?_
           rotate_left
           ·simp only [Act.put, List.setIfInBounds_toArray, List.set_cons_zero, List.set_cons_succ, zw, zy]
            rfl
           refine zJ (i := 28) (N := some 85) (v := undef) (a' := ?_) #[true, true, true, true, true, true, true, true, true, true, true, true, true, true, true, true, true, true, true, true, true, true, true, true, true, true, true, true, true, false, false, false, false, false, false, false] rfl rfl (zC HT_.out (by kernel_rfl)) (fun _ _ _ h => h) (Or.inr ⟨by rfl, rfl⟩) ?_ ?_
           rotate_left
           ·simp only [Act.put, List.setIfInBounds_toArray, List.set_cons_zero, List.set_cons_succ, zw, zy]
            rfl
           refine zJ (i := 29) (N := some 86) (v := undef) (a' := ?_) #[true, true, true, true, true, true, true, true, true, true, true, true, true, true, true, true, true, true, true, true, true, true, true, true, true, true, true, true, true, true, false, false, false, false, false, false] rfl rfl (zC HT_.out (by kernel_rfl)) (fun _ _ _ h => h) (Or.inr ⟨by rfl, rfl⟩) ?_ ?_
           rotate_left
           ·simp only [Act.put, List.setIfInBounds_toArray, List.set_cons_zero, List.set_cons_succ, zw, zy]
            rfl
           refine zJ (i := 30) (N := some 87) (v := undef) (a' := ?_) #[true, true, true, true, true, true, true, true, true, true, true, true, true, true, true, true, true, true, true, true, true, true, true, true, true, true, true, true, true, true, true, false, false, false, false, false] rfl rfl (zC HT_.out (by kernel_rfl)) (fun _ _ _ h => h) (Or.inr ⟨by rfl, rfl⟩) ?_ ?_
           rotate_left
           ·simp only [Act.put, List.setIfInBounds_toArray, List.set_cons_zero, List.set_cons_succ, zw, zy]
            rfl
           refine zJ (i := 31) (N := some 88) (v := undef) (a' := ?_) #[true, true, true, true, true, true, true, true, true, true, true, true, true, true, true, true, true, true, true, true, true, true, true, true, true, true, true, true, true, true, true, true, false, false, false, false] rfl rfl (zC HT_.out (by kernel_rfl)) (fun _ _ _ h => h) (Or.inr ⟨by rfl, rfl⟩) ?_ ?_
           rotate_left
           ·simp only [Act.put, List.setIfInBounds_toArray, List.set_cons_zero, List.set_cons_succ, zw, zy]
            rfl
           refine zJ (i := 32) (N := some 89) (v := undef) (a' := ?_) #[true, true, true, true, true, true, true, true, true, true, true, true, true, true, true, true, true, true, true, true, true, true, true, true, true, true, true, true, true, true, true, true, true, false, false, false] rfl rfl (zC HT_.out (by kernel_rfl)) (fun _ _ _ h => h) (Or.inr ⟨by rfl, rfl⟩) ?_ ?_
           rotate_left
           ·simp only [Act.put, List.setIfInBounds_toArray, List.set_cons_zero, List.set_cons_succ, zw, zy]
            rfl
           refine zJ (i := 33) (N := some 90) (v := undef) (a' := ?_) #[true, true, true, true, true, true, true, true, true, true, true, true, true, true, true, true, true, true, true, true, true, true, true, true, true, true, true, true, true, true, true, true, true, true, false, false] rfl rfl (zC HT_.out (by kernel_rfl)) (fun _ _ _ h => h) (Or.inr ⟨by rfl, rfl⟩) ?_ ?_
           rotate_left
           ·simp only [Act.put, List.setIfInBounds_toArray, List.set_cons_zero, List.set_cons_succ, zw, zy]
            rfl
           refine zJ (i := 34) (N := some 91) (v := undef) (a' := ?_) #[true, true, true, true, true, true, true, true, true, true, true, true, true, true, true, true, true, true, true, true, true, true, true, true, true, true, true, true, true, true, true, true, true, true, true, false] rfl rfl (zC HT_.out (by kernel_rfl)) (fun _ _ _ h => h) (Or.inr ⟨by rfl, rfl⟩) ?_ ?_
           rotate_left
           ·simp only [Act.put, List.setIfInBounds_toArray, List.set_cons_zero, List.set_cons_succ, zw, zy]
            rfl
           refine zJ (i := 35) (N := some 92) (v := ?_) (a' := ?_) #[true, true, true, true, true, true, true, true, true, true, true, true, true, true, true, true, true, true, true, true, true, true, true, true, true, true, true, true, true, true, true, true, true, true, true, true] rfl rfl (zC HT_.out (by kernel_rfl)) (fun _ _ _ h => h) (Or.inl ⟨by rfl, ?_⟩) ?_ ?_
           rotate_left
           ·intro w'
            go_simp
            with_reducible rfl
           rotate_left
           ·simp only [Act.put, List.setIfInBounds_toArray, List.set_cons_zero, List.set_cons_succ, zw, zy]
            rfl
           refine zcO (zcd HT_.out (by kernel_rfl)) ?_
           try go_wp2
           go_meet
           case rel => exact ⟨_, (true), (by first | rfl | (simp; done) | (simp [*]; done)), H', ⟨by have := HJ6.out; have := HK2.out; first | omega | exact Nat.le_refl _⟩, ⟨by (with_reducible repeat (first | apply Kd.zas | apply Kd.zat | apply Kd.zax)); exact HO_4.out⟩, ⟨by (with_reducible repeat (first | apply Kd.zO | apply Kd.zP | apply Kd.zN)); exact HO_5.out⟩, ⟨by (with_reducible repeat (first | apply Kd.zO | apply Kd.zP | apply Kd.zN)); exact HO_6.out⟩, ⟨by (with_reducible repeat (first | apply Kd.zO | apply Kd.zP | apply Kd.zN)); exact HO_8.out⟩, ⟨by repeat (first | (with_reducible first | exact HB.out | apply ze | apply zb | apply zf) | exact HB.out)⟩⟩
          ·rw [if_neg c28] at H
           have c28b0 : decide ((t704.length : Int) ≤ (rd t714 x11_2)) = false := decide_eq_false c28
           clear c28
           by_cases c30 : (rd t714 x11_2) ≥ 0
           ·rw [if_pos c30] at H
            have c30b0 : decide (0 ≤ (rd t714 x11_2)) = true := decide_eq_true c30
            clear c30
            by_cases c31 : 0 ≤ (rd t714 x11_2)
            ·rw [if_pos c31] at H
             have c31b0 : decide (0 ≤ (rd t714 x11_2)) = true := decide_eq_true c31
             clear c31
             by_cases c32 : (rd t714 x11_2) < (t704.length : Int)
             ·rw [if_pos c32] at H
              have c32b0 : decide ((rd t714 x11_2) < (t704.length : Int)) = true := decide_eq_true c32
              clear c32
              by_cases c33 : x11_2 < (t709.length : Int)
              ·rw [if_pos c33] at H
               have c33b0 : decide (x11_2 < (t709.length : Int)) = true := decide_eq_true c33
               clear c33
               replace H := Option.bind_eq_some_iff.mp H
               obtain ⟨t729, A340, H⟩ := H
               replace H : (zh.j2 k2 t704 t709 t714 t718 x10_2 x11_2 (!t729)) = some r := H
               have A34 := za.mk A340
               clear A340
               have H' := za.mk H
               clear H
               try go_wp2
               have n0_ := za.mk (Kd.zax HO_4.out)
               have n1_ := za.mk (Kd.zN HO_5.out)
               have n2_ := za.mk (Kd.zN HO_6.out)
               have n3_ := za.mk (Kd.zN HO_8.out)
               have n4_ := za.mk (zf HB.out)
               clear HO_4
               clear HO_5
               clear HO_6
               clear HO_8
               clear HB
               have HO_4 := n0_
               have HO_5 := n1_
               have HO_6 := n2_
               have HO_8 := n3_
               have HB := n4_
               clear n0_ n1_ n2_ n3_ n4_
               have p723 : 0 ≤ (x11_2 : Int) := of_decide_eq_true (by first | (with_reducible assumption) | assumption)
               have q723 : x11_2 < (t714.length : Int) := of_decide_eq_true (by first | (with_reducible assumption) | assumption)
               obtain ⟨ad723, e723, hx723_0⟩ := Kd.zbk (Kd.zaF HO_6.out).2.2 x11_2 p723 q723
               cases e723
               replace p723 := eq_true p723
               replace q723 := eq_true q723
               have p724 : 0 ≤ (x11_2 : Int) := of_decide_eq_true (by first | (with_reducible assumption) | assumption)
               have q724 : x11_2 < (t714.length : Int) := of_decide_eq_true (by first | (with_reducible assumption) | assumption)
               obtain ⟨ad724, e724, hx724_0⟩ := Kd.zbk (Kd.zaF HO_6.out).2.2 x11_2 p724 q724
               obtain rfl : ad723 = ad724 := (by injection e724)
               replace p724 := eq_true p724
               replace q724 := eq_true q724
               have p725 : 0 ≤ (x11_2 : Int) := of_decide_eq_true (by first | (with_reducible assumption) | assumption)
               have q725 : x11_2 < (t714.length : Int) := of_decide_eq_true (by first | (with_reducible assumption) | assumption)
               obtain ⟨ad725, e725, hx725_0⟩ := Kd.zbk (Kd.zaF HO_6.out).2.2 x11_2 p725 q725
               obtain rfl : ad723 = ad725 := (by injection e725)
               replace p725 := eq_true p725
               replace q725 := eq_true q725
               have p726 : 0 ≤ (x11_2 : Int) := of_decide_eq_true (by first | (with_reducible assumption) | assumption)
               have q726 : x11_2 < (t714.length : Int) := of_decide_eq_true (by first | (with_reducible assumption) | assumption)
               obtain ⟨ad726, e726, hx726_0⟩ := Kd.zbk (Kd.zaF HO_6.out).2.2 x11_2 p726 q726
               obtain rfl : ad723 = ad726 := (by injection e726)
               replace p726 := eq_true p726
               replace q726 := eq_true q726
               have p727 : 0 ≤ ((rd t714 x11_2) : Int) := of_decide_eq_true (by first | (with_reducible assumption) | assumption)
               have q727 : (rd t714 x11_2) < (t704.length : Int) := of_decide_eq_true (by first | (with_reducible assumption) | assumption)
               obtain ⟨ad727, A727_0, c727_0, e727, hx727_0, hl727_0, hi727_0⟩ := zdl (Kd.zb5 HO_4.out).2.2 (rd t714 x11_2) p727 q727
               cases e727
               obtain ⟨ce727, hce727, hMe727, hcc727⟩ := Kd.zgy HO_4.out [] (rd t714 x11_2) p727 (by first | exact q727 | exact of_decide_eq_true (by first | (with_reducible assumption) | assumption) | (have e_ := (Kd.zb5 HO_4.out).1; omega))
               obtain ⟨ve727_0, rfl, ge727_0⟩ := hMe727
               have hv727_0 := hcc727 0 _ rfl
               rw [Nat.add_zero, show ((Kd.slice 9 Kd.string)).sz = 1 from rfl, Nat.mul_one] at hv727_0
               replace hv727_0 := Option.some.inj (hv727_0.symm.trans hx727_0)
               rw [hv727_0] at ge727_0
               have HL727_0 := za.mk (show Kd.R Kd.string 9 _ _ _ _ (za8 t704 (rd t714 x11_2)) from ge727_0)
               clear hv727_0 ge727_0
               clear hcc727 hce727
               have HR727_0 := za.mk hi727_0
               have HC727_0 := za.mk hl727_0
               clear hi727_0 hl727_0
               replace p727 := eq_true p727
               replace q727 := eq_true q727
               have p728 : 0 ≤ (x11_2 : Int) := of_decide_eq_true (by first | (with_reducible assumption) | assumption)
               have q728 : x11_2 < (t709.length : Int) := of_decide_eq_true (by first | (with_reducible assumption) | assumption)
               obtain ⟨ad728, e728, hx728_0⟩ := Kd.zbe (Kd.zaF HO_5.out).2.2 x11_2 p728 q728
               cases e728
               replace p728 := eq_true p728
               replace q728 := eq_true q728
               refine zcq (n := 36) (S := fun w' => w'.cell? (ad723.add (x11_2).toNat) = some (.int .i64 (rd t714 x11_2)) ∧ w'.cell? (ad723.add (x11_2).toNat) = some (.int .i64 (rd t714 x11_2)) ∧ w'.cell? (ad723.add (x11_2).toNat) = some (.int .i64 (rd t714 x11_2)) ∧ w'.cell? (ad723.add (x11_2).toNat) = some (.int .i64 (rd t714 x11_2)) ∧ w'.cell? (ad727.add ((rd t714 x11_2)).toNat) = some (.slice A727_0 (za8 t704 (rd t714 x11_2)).length c727_0) ∧ w'.cell? (ad728.add (x11_2).toNat) = some (.string (zaJ ByteArray.empty t709 x11_2))) (ds := []) #[false, false, false, false, false, false, false, false, false, false, false, false, false, false, false, false, false, false, false, false, false, false, false, false, false, false, false, false, false, false, false, false, false, false, false, false] (by kernel_rfl) rfl rfl ⟨hx723_0, hx724_0, hx725_0, hx726_0, hx727_0, hx728_0⟩ (fun hHeld => ?_); refine zbO zh.zfo zh.zeu (fun HT_ HW_ => ?_)
               generalize wr.drew = w35 at HO_4 HO_5 HO_6 HO_8 HB HL727_0 HR727_0 hx723_0 hx724_0 hx725_0 hx726_0 hx727_0 hx728_0 hHeld ⊢
               refine zJ (i := 0) (N := some 57) (v := ?_) (a' := ?_) #[true, false, false, false, false, false, false, false, false, false, false, false, false, false, false, false, false, false, false, false, false, false, false, false, false, false, false, false, false, false, false, false, false, false, false, false] rfl rfl (zC HT_.out (by kernel_rfl)) (fun _ _ _ h => h) (Or.inl ⟨by rfl, ?_⟩) ?_ ?_
               rotate_left
               ·intro w'
                go_simp
                with_reducible rfl
               rotate_left
               ·simp only [Act.put, List.setIfInBounds_toArray, List.set_cons_zero, List.set_cons_succ, zw, zy]
                rfl
               refine zJ (i := 1) (N := some 58) (v := ?_) (a' := ?_) #[true, true, false, false, false, false, false, false, false, false, false, false, false, false, false, false, false, false, false, false, false, false, false, false, false, false, false, false, false, false, false, false, false, false, false, false] rfl rfl (zC HT_.out (by kernel_rfl)) (fun _ _ _ h => h) (Or.inl ⟨by rfl, ?_⟩) ?_ ?_
               rotate_left
               ·intro w'
                go_simp
                with_reducible rfl
               rotate_left
               ·simp only [Act.put, List.setIfInBounds_toArray, List.set_cons_zero, List.set_cons_succ, zw, zy]
                rfl
               refine zJ (i := 2) (N := some 59) (v := ?_) (a' := ?_) #[true, true, true, false, false, false, false, false, false, false, false, false, false, false, false, false, false, false, false, false, false, false, false, false, false, false, false, false, false, false, false, false, false, false, false, false] rfl rfl (zC HT_.out (by kernel_rfl)) (fun _ _ _ h => h) (Or.inl ⟨by rfl, ?_⟩) ?_ ?_
               rotate_left
               ·intro w'
                go_simp
                with_reducible rfl
               rotate_left
               ·simp only [Act.put, List.setIfInBounds_toArray, List.set_cons_zero, List.set_cons_succ, zw, zy]
                rfl
               refine za6 (i := 3) (N := some 60) (v := ?_) (a' := ?_) #[true, true, true, true, false, false, false, false, false, false, false, false, false, false, false, false, false, false, false, false, false, false, false, false, false, false, false, false, false, false, false, false, false, false, false, false] rfl rfl (zaL HT_.out HW_.out (by kernel_rfl)) (fun _ _ _ h => h) (Or.inl ⟨by rfl, ?_⟩) hHeld ?_ ?_
               rotate_left
               ·rintro w' ⟨s0, s1, s2, s3, s4, s5⟩
                go_simp
                with_reducible rfl
               rotate_left
               ·simp only [Act.put, List.setIfInBounds_toArray, List.set_cons_zero, List.set_cons_succ, zw, zy]
                rfl
               refine zJ (i := 4) (N := some 61) (v := ?_) (a' := ?_) #[true, true, true, true, true, false, false, false, false, false, false, false, false, false, false, false, false, false, false, false, false, false, false, false, false, false, false, false, false, false, false, false, false, false, false, false] rfl rfl (zC HT_.out (by kernel_rfl)) (fun _ _ _ h => h) (Or.inl ⟨by rfl, ?_⟩) ?_ ?_
               rotate_left
               ·intro w'
                go_simp
                with_reducible rfl
               rotate_left
               ·simp only [Act.put, List.setIfInBounds_toArray, List.set_cons_zero, List.set_cons_succ, zw, zy]
                rfl
               refine zJ (i := 5) (N := some 62) (v := ?_) (a' := ?_) #[true, true, true, true, true, true, false, false, false, false, false, false, false, false, false, false, false, false, false, false, false, false, false, false, false, false, false, false, false, false, false, false, false, false, false, false] rfl rfl (zC HT_.out (by kernel_rfl)) (fun _ _ _ h => h) (Or.inl ⟨by rfl, ?_⟩) ?_ ?_
               rotate_left
               ·intro w'
                go_simp
                with_reducible rfl
               rotate_left
               ·simp only [Act.put, List.setIfInBounds_toArray, List.set_cons_zero, List.set_cons_succ, zw, zy]
                rfl
               refine zJ (i := 6) (N := some 63) (v := ?_) (a' := ?_) #[true, true, true, true, true, true, true, false, false, false, false, false, false, false, false, false, false, false, false, false, false, false, false, false, false, false, false, false, false, false, false, false, false, false, false, false] rfl rfl (zC HT_.out (by kernel_rfl)) (fun _ _ _ h => h) (Or.inl ⟨by rfl, ?_⟩) ?_ ?_
               rotate_left
               ·intro w'
                go_simp
                with_reducible rfl
               rotate_left
               ·simp only [Act.put, List.setIfInBounds_toArray, List.set_cons_zero, List.set_cons_succ, zw, zy]
                rfl
               refine zJ (i := 7) (N := some 64) (v := ?_) (a' := ?_) #[true, true, true, true, true, true, true, true, false, false, false, false, false, false, false, false, false, false, false, false, false, false, false, false, false, false, false, false, false, false, false, false, false, false, false, false] rfl rfl (zC HT_.out (by kernel_rfl)) (fun _ _ _ h => h) (Or.inl ⟨by rfl, ?_⟩) ?_ ?_
               rotate_left
               ·intro w'
                go_simp
                with_reducible rfl
               rotate_left
               ·simp only [Act.put, List.setIfInBounds_toArray, List.set_cons_zero, List.set_cons_succ, zw, zy]
                rfl
               refine zJ (i := 8) (N := some 65) (v := ?_) (a' := ?_) #[true, true, true, true, true, true, true, true, true, false, false, false, false, false, false, false, false, false, false, false, false, false, false, false, false, false, false, false, false, false, false, false, false, false, false, false] rfl rfl (zC HT_.out (by kernel_rfl)) (fun _ _ _ h => h) (Or.inl ⟨by rfl, ?_⟩) ?_ ?_
               rotate_left
               ·intro w'
                go_simp
                with_reducible rfl
               rotate_left
               ·simp only [Act.put, List.setIfInBounds_toArray, List.set_cons_zero, List.set_cons_succ, zw, zy]
                rfl
               refine zJ (i := 10) (N := some 67) (v := ?_) (a' := ?_) #[true, true, true, true, true, true, true, true, true, false, true, false, false, false, false, false, false, false, false, false, false, false, false, false, false, false, false, false, false, false, false, false, false, false, false, false] rfl rfl (zC HT_.out (by kernel_rfl)) (fun _ _ _ h => h) (Or.inl ⟨by rfl, ?_⟩) ?_ ?_
               rotate_left
               ·intro w'
                go_simp
                with_reducible rfl
               rotate_left
               ·simp only [Act.put, List.setIfInBounds_toArray, List.set_cons_zero, List.set_cons_succ, zw, zy]
                rfl
               refine zJ (i := 11) (N := some 68) (v := ?_) (a' := ?_) #[true, true, true, true, true, true, true, true, true, false, true, true, false, false, false, false, false, false, false, false, false, false, false, false, false, false, false, false, false, false, false, false, false, false, false, false] rfl rfl (zC HT_.out (by kernel_rfl)) (fun _ _ _ h => h) (Or.inl ⟨by rfl, ?_⟩) ?_ ?_
               rotate_left
               ·intro w'
                go_simp
                with_reducible rfl
               rotate_left
               ·simp only [Act.put, List.setIfInBounds_toArray, List.set_cons_zero, List.set_cons_succ, zw, zy]
                rfl
               refine za6 (i := 9) (N := some 66) (v := ?_) (a' := ?_) #[true, true, true, true, true, true, true, true, true, true, true, true, false, false, false, false, false, false, false, false, false, false, false, false, false, false, false, false, false, false, false, false, false, false, false, false] rfl rfl (zaL HT_.out HW_.out (by kernel_rfl)) (fun _ _ _ h => h) (Or.inl ⟨by rfl, ?_⟩) hHeld ?_ ?_
               rotate_left
               ·rintro w' ⟨s0, s1, s2, s3, s4, s5⟩
                go_simp
                with_reducible rfl
               rotate_left
               ·simp only [Act.put, List.setIfInBounds_toArray, List.set_cons_zero, List.set_cons_succ, zw, zy]
                rfl
               refine zJ (i := 12) (N := some 69) (v := ?_) (a' := ?_) #[true, true, true, true, true, true, true, true, true, true, true, true, true, false, false, false, false, false, false, false, false, false, false, false, false, false, false, false, false, false, false, false, false, false, false, false] rfl rfl (zC HT_.out (by kernel_rfl)) (fun _ _ _ h => h) (Or.inl ⟨by rfl, ?_⟩) ?_ ?_
               rotate_left
               ·intro w'
                go_simp
                with_reducible rfl
               rotate_left
               ·simp only [Act.put, List.setIfInBounds_toArray, List.set_cons_zero, List.set_cons_succ, zw, zy]
                rfl
               refine zJ (i := 13) (N := some 70) (v := ?_) (a' := ?_) #[true, true, true, true, true, true, true, true, true, true, true, true, true, true, false, false, false, false, false, false, false, false, false, false, false, false, false, false, false, false, false, false, false, false, false, false] rfl rfl (zC HT_.out (by kernel_rfl)) (fun _ _ _ h => h) (Or.inl ⟨by rfl, ?_⟩) ?_ ?_
               rotate_left
               ·intro w'
                go_simp
                with_reducible rfl
               rotate_left
               ·simp only [Act.put, List.setIfInBounds_toArray, List.set_cons_zero, List.set_cons_succ, zw, zy]
                rfl
               refine zJ (i := 14) (N := some 71) (v := ?_) (a' := ?_) #[true, true, true, true, true, true, true, true, true, true, true, true, true, true, true, false, false, false, false, false, false, false, false, false, false, false, false, false, false, false, false, false, false, false, false, false] rfl rfl (zC HT_.out (by kernel_rfl)) (fun _ _ _ h => h) (Or.inl ⟨by rfl, ?_⟩) ?_ ?_
               rotate_left
               ·intro w'
                go_simp
                with_reducible rfl
               rotate_left
               ·simp only [Act.put, List.setIfInBounds_toArray, List.set_cons_zero, List.set_cons_succ, zw, zy]
                rfl
               refine zJ (i := 15) (N := some 72) (v := ?_) (a' := ?_) #[true, true, true, true, true, true, true, true, true, true, true, true, true, true, true, true, false, false, false, false, false, false, false, false, false, false, false, false, false, false, false, false, false, false, false, false] rfl rfl (zC HT_.out (by kernel_rfl)) (fun _ _ _ h => h) (Or.inl ⟨by rfl, ?_⟩) ?_ ?_
               rotate_left
               ·intro w'
                go_simp
                with_reducible rfl
               rotate_left
               ·simp only [Act.put, List.setIfInBounds_toArray, List.set_cons_zero, List.set_cons_succ, zw, zy]
                rfl
               refine zJ (i := 16) (N := some 73) (v := ?_) (a' := ?_) #[true, true, true, true, true, true, true, true, true, true, true, true, true, true, true, true, true, false, false, false, false, false, false, false, false, false, false, false, false, false, false, false, false, false, false, false] rfl rfl (zC HT_.out (by kernel_rfl)) (fun _ _ _ h => h) (Or.inl ⟨by rfl, ?_⟩) ?_ ?_
               rotate_left
               ·intro w'
                go_simp
                with_reducible rfl
               rotate_left
               ·simp only [Act.put, List.setIfInBounds_toArray, List.set_cons_zero, List.set_cons_succ, zw, zy]
                rfl
               refine zJ (i := 17) (N := some 74) (v := ?_) (a' := ?_) #[true, true, true, true, true, true, true, true, true, true, true, true, true, true, true, true, true, true, false, false, false, false, false, false, false, false, false, false, false, false, false, false, false, false, false, false] rfl rfl (zC HT_.out (by kernel_rfl)) (fun _ _ _ h => h) (Or.inl ⟨by rfl, ?_⟩) ?_ ?_
               rotate_left
               ·intro w'
                go_simp
                with_reducible rfl
               rotate_left
               ·simp only [Act.put, List.setIfInBounds_toArray, List.set_cons_zero, List.set_cons_succ, zw, zy]
                rfl
               refine za6 (i := 18) (N := some 75) (v := ?_) (a' := ?_) #[true, true, true, true, true, true, true, true, true, true, true, true, true, true, true, true, true, true, true, false, false, false, false, false, false, false, false, false, false, false, false, false, false, false, false, false] rfl rfl (zaL HT_.out HW_.out (by kernel_rfl)) (fun _ _ _ h => h) (Or.inl ⟨by rfl, ?_⟩) hHeld ?_ ?_
               rotate_left
               ·rintro w' ⟨s0, s1, s2, s3, s4, s5⟩
                go_simp
                with_reducible rfl
               rotate_left
               ·simp only [Act.put, List.setIfInBounds_toArray, List.set_cons_zero, List.set_cons_succ, zw, zy]
                rfl
               refine zJ (i := 19) (N := some 76) (v := ?_) (a' := ?_) #[true, true, true, true, true, true, true, true, true, true, true, true, true, true, true, true, true, true, true, true, false, false, false, false, false, false, false, false, false, false, false, false, false, false, false, false] rfl rfl (zC HT_.out (by kernel_rfl)) (fun _ _ _ h => h) (Or.inl ⟨by rfl, ?_⟩) ?_ ?_
               rotate_left
               ·intro w'
                go_simp
                with_reducible rfl
               rotate_left
               ·simp only [Act.put, List.setIfInBounds_toArray, List.set_cons_zero, List.set_cons_succ, zw, zy]
                rfl
               refine zJ (i := 20) (N := some 77) (v := ?_) (a' := ?_) #[true, true, true, true, true, true, true, true, true, true, true, true, true, true, true, true, true, true, true, true, true, false, false, false, false, false, false, false, false, false, false, false, false, false, false, false] rfl rfl (zC HT_.out (by kernel_rfl)) (fun _ _ _ h => h) (Or.inl ⟨by rfl, ?_⟩) ?_ ?_
               rotate_left
               ·intro w'
                go_simp
                with_reducible rfl
               rotate_left
               ·simp only [Act.put, List.setIfInBounds_toArray, List.set_cons_zero, List.set_cons_succ, zw, zy]
                rfl
               refine zJ (i := 21) (N := some 78) (v := ?_) (a' := ?_) #[true, true, true, true, true, true, true, true, true, true, true, true, true, true, true, true, true, true, true, true, true, true, false, false, false, false, false, false, false, false, false, false, false, false, false, false] rfl rfl (zC HT_.out (by kernel_rfl)) (fun _ _ _ h => h) (Or.inl ⟨by rfl, ?_⟩) ?_ ?_
               rotate_left
               ·intro w'
                go_simp
                with_reducible rfl
               rotate_left
               ·simp only [Act.put, List.setIfInBounds_toArray, List.set_cons_zero, List.set_cons_succ, zw, zy]
                rfl
               refine zJ (i := 22) (N := some 79) (v := ?_) (a' := ?_) #[true, true, true, true, true, true, true, true, true, true, true, true, true, true, true, true, true, true, true, true, true, true, true, false, false, false, false, false, false, false, false, false, false, false, false, false] rfl rfl (zC HT_.out (by kernel_rfl)) (fun _ _ _ h => h) (Or.inl ⟨by rfl, ?_⟩) ?_ ?_
               rotate_left
               ·intro w'
                go_simp
                with_reducible rfl
               rotate_left
               ·simp only [Act.put, List.setIfInBounds_toArray, List.set_cons_zero, List.set_cons_succ, zw, zy]
                rfl
               refine zJ (i := 23) (N := some 80) (v := ?_) (a' := ?_) #[true, true, true, true, true, true, true, true, true, true, true, true, true, true, true, true, true, true, true, true, true, true, true, true, false, false, false, false, false, false, false, false, false, false, false, false] rfl rfl (zC HT_.out (by kernel_rfl)) (fun _ _ _ h => h) (Or.inl ⟨by rfl, ?_⟩) ?_ ?_
               rotate_left
               ·intro w'
                go_simp
                with_reducible rfl
               rotate_left
               ·simp only [Act.put, List.setIfInBounds_toArray, List.set_cons_zero, List.set_cons_succ, zw, zy]
                rfl
               refine zJ (i := 24) (N := some 81) (v := ?_) (a' := ?_) #[true, true, true, true, true, true, true, true, true, true, true, true, true, true, true, true, true, true, true, true, true, true, true, true, true, false, false, false, false, false, false, false, false, false, false, false] rfl rfl (zC HT_.out (by kernel_rfl)) (fun _ _ _ h => h) (Or.inl ⟨by rfl, ?_⟩) ?_ ?_
               rotate_left
               ·intro w'
                go_simp
                with_reducible rfl
               rotate_left
               ·simp only [Act.put, List.setIfInBounds_toArray, List.set_cons_zero, List.set_cons_succ, zw, zy]
                rfl
               refine zJ (i := 28) (N := some 85) (v := ?_) (a' := ?_) #[true, true, true, true, true, true, true, true, true, true, true, true, true, true, true, true, true, true, true, true, true, true, true, true, true, false, false, false, true, false, false, false, false, false, false, false] rfl rfl (zC HT_.out (by kernel_rfl)) (fun _ _ _ h => h) (Or.inl ⟨by rfl, ?_⟩) ?_ ?_
               rotate_left
               ·intro w'
                go_simp
                with_reducible rfl
               rotate_left
               ·simp only [Act.put, List.setIfInBounds_toArray, List.set_cons_zero, List.set_cons_succ, zw, zy]
                rfl
               refine zJ (i := 29) (N := some 86) (v := ?_) (a' := ?_) #[true, true, true, true, true, true, true, true, true, true, true, true, true, true, true, true, true, true, true, true, true, true, true, true, true, false, false, false, true, true, false, false, false, false, false, false] rfl rfl (zC HT_.out (by kernel_rfl)) (fun _ _ _ h => h) (Or.inl ⟨by rfl, ?_⟩) ?_ ?_
               rotate_left
               ·intro w'
                go_simp
                with_reducible rfl
               rotate_left
               ·simp only [Act.put, List.setIfInBounds_toArray, List.set_cons_zero, List.set_cons_succ, zw, zy]
                rfl
               refine zJ (i := 30) (N := some 87) (v := ?_) (a' := ?_) #[true, true, true, true, true, true, true, true, true, true, true, true, true, true, true, true, true, true, true, true, true, true, true, true, true, false, false, false, true, true, true, false, false, false, false, false] rfl rfl (zC HT_.out (by kernel_rfl)) (fun _ _ _ h => h) (Or.inl ⟨by rfl, ?_⟩) ?_ ?_
               rotate_left
               ·intro w'
                go_simp
                with_reducible rfl
               rotate_left
               ·simp only [Act.put, List.setIfInBounds_toArray, List.set_cons_zero, List.set_cons_succ, zw, zy]
                rfl
               refine za6 (i := 25) (N := some 82) (v := ?_) (a' := ?_) #[true, true, true, true, true, true, true, true, true, true, true, true, true, true, true, true, true, true, true, true, true, true, true, true, true, true, false, false, true, true, true, false, false, false, false, false] rfl rfl (zaL HT_.out HW_.out (by kernel_rfl)) (fun _ _ _ h => h) (Or.inl ⟨by rfl, ?_⟩) hHeld ?_ ?_
               rotate_left
               ·rintro w' ⟨s0, s1, s2, s3, s4, s5⟩
                go_simp
                with_reducible rfl
               rotate_left
               ·simp only [Act.put, List.setIfInBounds_toArray, List.set_cons_zero, List.set_cons_succ, zw, zy]
                rfl
               refine zJ (i := 26) (N := some 83) (v := ?_) (a' := ?_) #[true, true, true, true, true, true, true, true, true, true, true, true, true, true, true, true, true, true, true, true, true, true, true, true, true, true, true, false, true, true, true, false, false, false, false, false] rfl rfl (zC HT_.out (by kernel_rfl)) (fun _ _ _ h => h) (Or.inl ⟨by rfl, ?_⟩) ?_ ?_
               rotate_left
               ·intro w'
                go_simp
                with_reducible rfl
               rotate_left
               ·simp only [Act.put, List.setIfInBounds_toArray, List.set_cons_zero, List.set_cons_succ, zw, zy]
                rfl
               refine za6 (i := 27) (N := some 84) (v := ?_) (a' := ?_) #[true, true, true, true, true, true, true, true, true, true, true, true, true, true, true, true, true, true, true, true, true, true, true, true, true, true, true, true, true, true, true, false, false, false, false, false] rfl rfl (zaL HT_.out HW_.out (by kernel_rfl)) (fun _ _ _ h => h) (Or.inl ⟨by rfl, ?_⟩) hHeld ?_ ?_
               rotate_left
               ·rintro w' ⟨s0, s1, s2, s3, s4, s5⟩
                go_simp
                with_reducible rfl
               rotate_left
               ·simp only [Act.put, List.setIfInBounds_toArray, List.set_cons_zero, List.set_cons_succ, zw, zy]
                rfl
               refine za6 (i := 31) (N := some 88) (v := ?_) (a' := ?_) #[true, true, true, true, true, true, true, true, true, true, true, true, true, true, true, true, true, true, true, true, true, true, true, true, true, true, true, true, true, true, true, true, false, false, false, false] rfl rfl (zaL HT_.out HW_.out (by kernel_rfl)) (fun _ _ _ h => h) (Or.inl ⟨by rfl, ?_⟩) hHeld ?_ ?_
               rotate_left
               ·rintro w' ⟨s0, s1, s2, s3, s4, s5⟩
                go_simp
                with_reducible rfl
               rotate_left
               ·simp only [Act.put, List.setIfInBounds_toArray, List.set_cons_zero, List.set_cons_succ, zw, zy]
                rfl
               refine zbU (i := 32) (N := some 89) #[true, true, true, true, true, true, true, true, true, true, true, true, true, true, true, true, true, true, true, true, true, true, true, true, true, true, true, true, true, true, true, true, true, false, false, false] rfl rfl (zbn HT_.out (by kernel_rfl)) (by decide) (fun K hK => ?_)
               refine zbB Try.func42 (by kernel_rfl) rfl #[.slice A727_0 (za8 t704 (rd t714 x11_2)).length c727_0, .string (zaJ ByteArray.empty t709 x11_2)] (by rfl) rfl rfl (by (try simp only [List.map_toArray, List.map_cons, List.map_nil]); first | done | rfl | (simp only [List.length_drop, List.length_take]; rfl)) ?_
               with_reducible refine (zav.calls k2 _ _ (za8 t704 (rd t714 x11_2)) (zaJ ByteArray.empty t709 x11_2) t729 _ ?side1 ?side2 A34.out).mono ?_
               (case side1 => repeat (first | exact (by repeat (first | (with_reducible exact HR727_0.out) | (with_reducible refine Kd.zad ?_ _) | (with_reducible refine Kd.zae ?_ _) | (with_reducible refine Kd.zal ?_) | exact HR727_0.out)) | (with_reducible refine Kd.zad ?_ _) | (with_reducible refine Kd.zae ?_ _) | (with_reducible refine Kd.zal ?_)))
               (case side2 => exact HC727_0.out)
               rintro e w' ⟨rfl, ⟨nd, rfl⟩⟩
               refine ⟨_, rfl, ?_⟩
               refine hK.out _ _ ⟨hHeld.1, hHeld.2.1, hHeld.2.2.1, hHeld.2.2.2.1, hHeld.2.2.2.2.1, hHeld.2.2.2.2.2⟩ (fun hHeld => ?_)
               clear hK K
               refine za7 (a' := ?_) ?_ ?_
               rotate_left
               ·show Act.put _ (some 89) _ = _
                simp only [Act.put, List.setIfInBounds_toArray, List.set_cons_zero, List.set_cons_succ, zw, zy]
                rfl
               refine zJ (i := 33) (N := some 90) (v := ?_) (a' := ?_) #[true, true, true, true, true, true, true, true, true, true, true, true, true, true, true, true, true, true, true, true, true, true, true, true, true, true, true, true, true, true, true, true, true, true, false, false] rfl rfl (zC HT_.out (by kernel_rfl)) (fun _ _ _ h => h) (Or.inl ⟨by rfl, ?_⟩) ?_ ?_
               rotate_left
               ·intro w'
                go_simp
                with_reducible rfl
               rotate_left
               ·simp only [Act.put, List.setIfInBounds_toArray, List.set_cons_zero, List.set_cons_succ, zw, zy]
                rfl
               refine zJ (i := 34) (N := some 91) (v := ?_) (a' := ?_) #[true, true, true, true, true, true, true, true, true, true, true, true, true, true, true, true, true, true, true, true, true, true, true, true, true, true, true, true, true, true, true, true, true, true, true, false] rfl rfl (zC HT_.out (by kernel_rfl)) (fun _ _ _ h => h) (Or.inl ⟨by rfl, ?_⟩) ?_ ?_
               rotate_left
               ·intro w'
                go_simp
                with_reducible rfl
               rotate_left
               ·simp only [Act.put, List.setIfInBounds_toArray, List.set_cons_zero, List.set_cons_succ, zw, zy]
                rfl
               refine zJ (i := 35) (N := some 92) (v := ?_) (a' := ?_) #[true, true, true, true, true, true, true, true, true, true, true, true, true, true, true, true, true, true, true, true, true, true, true, true, true, true, true, true, true, true, true, true, true, true, true, true] rfl rfl (zC HT_.out (by kernel_rfl)) (fun _ _ _ h => h) (Or.inl ⟨by rfl, ?_⟩) ?_ ?_
               rotate_left
               ·intro w'
                go_simp
                with_reducible rfl
               rotate_left
               ·simp only [Act.put, List.setIfInBounds_toArray, List.set_cons_zero, List.set_cons_succ, zw, zy]
                rfl
               refine zcO (zcd HT_.out (by kernel_rfl)) ?_
               try go_wp2
               go_meet
               case rel => exact ⟨_, (!t729), (by first | rfl | (simp; done) | (simp [*]; done)), H', ⟨by have := HJ6.out; have := HK2.out; first | omega | exact Nat.le_refl _⟩, ⟨by (with_reducible repeat (first | apply Kd.zas | apply Kd.zat | apply Kd.zax)); exact HO_4.out⟩, ⟨by (with_reducible repeat (first | apply Kd.zO | apply Kd.zP | apply Kd.zN)); exact HO_5.out⟩, ⟨by (with_reducible repeat (first | apply Kd.zO | apply Kd.zP | apply Kd.zN)); exact HO_6.out⟩, ⟨by (with_reducible repeat (first | apply Kd.zO | apply Kd.zP | apply Kd.zN)); exact HO_8.out⟩, ⟨by repeat (first | (with_reducible first | exact HB.out | apply ze | apply zb | apply zf) | exact HB.out)⟩⟩
              ·rw [if_neg c33] at H
               exact absurd H (by simp)
             ·rw [if_neg c32] at H
              exact absurd H (by simp)
            ·rw [if_neg c31] at H
             exact absurd H (by simp)
           ·rw [if_neg c30] at H
            have c30b0 : decide (0 ≤ (rd t714 x11_2)) = false := decide_eq_false c30
            clear c30
            have H' := za.mk H
            clear H
            try go_wp2
            have n0_ := za.mk (Kd.zax HO_4.out)
            have n1_ := za.mk (Kd.zN HO_5.out)
            have n2_ := za.mk (Kd.zN HO_6.out)
            have n3_ := za.mk (Kd.zN HO_8.out)
            have n4_ := za.mk (zf HB.out)
            clear HO_4
            clear HO_5
            clear HO_6
            clear HO_8
            clear HB
            have HO_4 := n0_
            have HO_5 := n1_
            have HO_6 := n2_
            have HO_8 := n3_
            have HB := n4_
            clear n0_ n1_ n2_ n3_ n4_
            have p723 : 0 ≤ (x11_2 : Int) := of_decide_eq_true (by first | (with_reducible assumption) | assumption)
            have q723 : x11_2 < (t714.length : Int) := of_decide_eq_true (by first | (with_reducible assumption) | assumption)
            obtain ⟨ad723, e723, hx723_0⟩ := Kd.zbk (Kd.zaF HO_6.out).2.2 x11_2 p723 q723
            cases e723
            replace p723 := eq_true p723
            replace q723 := eq_true q723
            have p724 : 0 ≤ (x11_2 : Int) := of_decide_eq_true (by first | (with_reducible assumption) | assumption)
            have q724 : x11_2 < (t714.length : Int) := of_decide_eq_true (by first | (with_reducible assumption) | assumption)
            obtain ⟨ad724, e724, hx724_0⟩ := Kd.zbk (Kd.zaF HO_6.out).2.2 x11_2 p724 q724
            obtain rfl : ad723 = ad724 := (by injection e724)
            replace p724 := eq_true p724
            replace q724 := eq_true q724
            have p725 : 0 ≤ (x11_2 : Int) := of_decide_eq_true (by first | (with_reducible assumption) | assumption)
            have q725 : x11_2 < (t714.length : Int) := of_decide_eq_true (by first | (with_reducible assumption) | assumption)
            obtain ⟨ad725, e725, hx725_0⟩ := Kd.zbk (Kd.zaF HO_6.out).2.2 x11_2 p725 q725
            obtain rfl : ad723 = ad725 := (by injection e725)
            replace p725 := eq_true p725
            replace q725 := eq_true q725
            refine zcq (n := 36) (S := fun w' => w'.cell? (ad723.add (x11_2).toNat) = some (.int .i64 (rd t714 x11_2)) ∧ w'.cell? (ad723.add (x11_2).toNat) = some (.int .i64 (rd t714 x11_2)) ∧ w'.cell? (ad723.add (x11_2).toNat) = some (.int .i64 (rd t714 x11_2))) (ds := []) #[false, false, false, false, false, false, false, false, false, false, false, false, false, false, false, false, false, false, false, false, false, false, false, false, false, false, false, false, false, false, false, false, false, false, false, false] (by kernel_rfl) rfl rfl ⟨hx723_0, hx724_0, hx725_0⟩ (fun hHeld => ?_); refine zbO zh.zfo zh.zeu (fun HT_ HW_ => ?_)
            generalize wr.drew = w36 at HO_4 HO_5 HO_6 HO_8 HB hx723_0 hx724_0 hx725_0 hHeld ⊢
            refine zJ (i := 0) (N := some 57) (v := ?_) (a' := ?_) #[true, false, false, false, false, false, false, false, false, false, false, false, false, false, false, false, false, false, false, false, false, false, false, false, false, false, false, false, false, false, false, false, false, false, false, false] rfl rfl (zC HT_.out (by kernel_rfl)) (fun _ _ _ h => h) (Or.inl ⟨by rfl, ?_⟩) ?_ ?_
            rotate_left
            ·intro w'
             go_simp
             with_reducible rfl
            rotate_left
            ·simp only [Act.put, List.setIfInBounds_toArray, List.set_cons_zero, List.set_cons_succ, zw, zy]
             rfl
            refine zJ (i := 1) (N := some 58) (v := ?_) (a' := ?_) #[true, true, false, false, false, false, false, false, false, false, false, false, false, false, false, false, false, false, false, false, false, false, false, false, false, false, false, false, false, false, false, false, false, false, false, false] rfl rfl (zC HT_.out (by kernel_rfl)) (fun _ _ _ h => h) (Or.inl ⟨by rfl, ?_⟩) ?_ ?_
            rotate_left
            ·intro w'
             go_simp
             with_reducible rfl
            rotate_left
            ·simp only [Act.put, List.setIfInBounds_toArray, List.set_cons_zero, List.set_cons_succ, zw, zy]
             rfl
            refine zJ (i := 2) (N := some 59) (v := ?_) (a' := ?_) #[true, true, true, false, false, false, false, false, false, false, false, false, false, false, false, false, false, false, false, false, false, false, false, false, false, false, false, false, false, false, false, false, false, false, false, false] rfl rfl (zC HT_.out (by kernel_rfl)) (fun _ _ _ h => h) (Or.inl ⟨by rfl, ?_⟩) ?_ ?_
            rotate_left
            ·intro w'
             go_simp
             with_reducible rfl
            rotate_left
            ·simp only [Act.put, List.setIfInBounds_toArray, List.set_cons_zero, List.set_cons_succ, zw, zy]
             rfl
            refine za6 (i := 3) (N := some 60) (v := ?_) (a' := ?_) #[true, true, true, true, false, false, false, false, false, false, false, false, false, false, false, false, false, false, false, false, false, false, false, false, false, false, false, false, false, false, false, false, false, false, false, false] rfl rfl (zaL HT_.out HW_.out (by kernel_rfl)) (fun _ _ _ h => h) (Or.inl ⟨by rfl, ?_⟩) hHeld ?_ ?_
            rotate_left
            ·rintro w' ⟨s0, s1, s2⟩
             go_simp
             with_reducible rfl
            rotate_left
            ·simp only [Act.put, List.setIfInBounds_toArray, List.set_cons_zero, List.set_cons_succ, zw, zy]
             rfl
            refine zJ (i := 4) (N := some 61) (v := ?_) (a' := ?_) #[true, true, true, true, true, false, false, false, false, false, false, false, false, false, false, false, false, false, false, false, false, false, false, false, false, false, false, false, false, false, false, false, false, false, false, false] rfl rfl (zC HT_.out (by kernel_rfl)) (fun _ _ _ h => h) (Or.inl ⟨by rfl, ?_⟩) ?_ ?_
            rotate_left
            ·intro w'
             go_simp
             with_reducible rfl
            rotate_left
            ·simp only [Act.put, List.setIfInBounds_toArray, List.set_cons_zero, List.set_cons_succ, zw, zy]
             rfl
            refine zJ (i := 5) (N := some 62) (v := ?_) (a' := ?_) #[true, true, true, true, true, true, false, false, false, false, false, false, false, false, false, false, false, false, false, false, false, false, false, false, false, false, false, false, false, false, false, false, false, false, false, false] rfl rfl (zC HT_.out (by kernel_rfl)) (fun _ _ _ h => h) (Or.inl ⟨by rfl, ?_⟩) ?_ ?_
            rotate_left
            ·intro w'
             go_simp
             with_reducible rfl
            rotate_left
            ·simp only [Act.put, List.setIfInBounds_toArray, List.set_cons_zero, List.set_cons_succ, zw, zy]
             rfl
            refine zJ (i := 6) (N := some 63) (v := ?_) (a' := ?_) #[true, true, true, true, true, true, true, false, false, false, false, false, false, false, false, false, false, false, false, false, false, false, false, false, false, false, false, false, false, false, false, false, false, false, false, false] rfl rfl (zC HT_.out (by kernel_rfl)) (fun _ _ _ h => h) (Or.inl ⟨by rfl, ?_⟩) ?_ ?_
            rotate_left
            ·intro w'
             go_simp
             with_reducible rfl
            rotate_left
            ·simp only [Act.put, List.setIfInBounds_toArray, List.set_cons_zero, List.set_cons_succ, zw, zy]
             rfl
            refine zJ (i := 7) (N := some 64) (v := ?_) (a' := ?_) #[true, true, true, true, true, true, true, true, false, false, false, false, false, false, false, false, false, false, false, false, false, false, false, false, false, false, false, false, false, false, false, false, false, false, false, false] rfl rfl (zC HT_.out (by kernel_rfl)) (fun _ _ _ h => h) (Or.inl ⟨by rfl, ?_⟩) ?_ ?_
            rotate_left
            ·intro w'
             go_simp
             with_reducible rfl
            rotate_left
            ·simp only [Act.put, List.setIfInBounds_toArray, List.set_cons_zero, List.set_cons_succ, zw, zy]
             rfl
            refine zJ (i := 8) (N := some 65) (v := ?_) (a' := ?_) #[true, true, true, true, true, true, true, true, true, false, false, false, false, false, false, false, false, false, false, false, false, false, false, false, false, false, false, false, false, false, false, false, false, false, false, false] rfl rfl (zC HT_.out (by kernel_rfl)) (fun _ _ _ h => h) (Or.inl ⟨by rfl, ?_⟩) ?_ ?_
            rotate_left
            ·intro w'
             go_simp
             with_reducible rfl
            rotate_left
            ·simp only [Act.put, List.setIfInBounds_toArray, List.set_cons_zero, List.set_cons_succ, zw, zy]
             rfl
            refine zJ (i := 10) (N := some 67) (v := ?_) (a' := ?_) #[true, true, true, true, true, true, true, true, true, false, true, false, false, false, false, false, false, false, false, false, false, false, false, false, false, false, false, false, false, false, false, false, false, false, false, false] rfl rfl (zC HT_.out (by kernel_rfl)) (fun _ _ _ h => h) (Or.inl ⟨by rfl, ?_⟩) ?_ ?_
            rotate_left
            ·intro w'
             go_simp
             with_reducible rfl
            rotate_left
            ·simp only [Act.put, List.setIfInBounds_toArray, List.set_cons_zero, List.set_cons_succ, zw, zy]
             rfl
            refine zJ (i := 11) (N := some 68) (v := ?_) (a' := ?_) #[true, true, true, true, true, true, true, true, true, false, true, true, false, false, false, false, false, false, false, false, false, false, false, false, false, false, false, false, false, false, false, false, false, false, false, false] rfl rfl (zC HT_.out (by kernel_rfl)) (fun _ _ _ h => h) (Or.inl ⟨by rfl, ?_⟩) ?_ ?_
            rotate_left
            ·intro w'
             go_simp
             with_reducible rfl
            rotate_left
            ·simp only [Act.put, List.setIfInBounds_toArray, List.set_cons_zero, List.set_cons_succ, zw, zy]
             rfl
            refine za6 (i := 9) (N := some 66) (v := ?_) (a' := ?_) #[true, true, true, true, true, true, true, true, true, true, true, true, false, false, false, false, false, false, false, false, false, false, false, false, false, false, false, false, false, false, false, false, false, false, false, false] rfl rfl (zaL HT_.out HW_.out (by kernel_rfl)) (fun _ _ _ h => h) (Or.inl ⟨by rfl, ?_⟩) hHeld ?_ ?_
            rotate_left
            ·rintro w' ⟨s0, s1, s2⟩
             go_simp
             with_reducible rfl
            rotate_left
            ·simp only [Act.put, List.setIfInBounds_toArray, List.set_cons_zero, List.set_cons_succ, zw, zy]
             rfl
            refine zJ (i := 12) (N := some 69) (v := ?_) (a' := ?_) #[true, true, true, true, true, true, true, true, true, true, true, true, true, false, false, false, false, false, false, false, false, false, false, false, false, false, false, false, false, false, false, false, false, false, false, false] rfl rfl (zC HT_.out (by kernel_rfl)) (fun _ _ _ h => h) (Or.inl ⟨by rfl, ?_⟩) ?_ ?_
            rotate_left
            ·intro w'
             go_simp
             with_reducible rfl
            rotate_left
            ·simp only [Act.put, List.setIfInBounds_toArray, List.set_cons_zero, List.set_cons_succ, zw, zy]
             rfl
            refine zJ (i := 13) (N := some 70) (v := ?_) (a' := ?_) #[true, true, true, true, true, true, true, true, true, true, true, true, true, true, false, false, false, false, false, false, false, false, false, false, false, false, false, false, false, false, false, false, false, false, false, false] rfl rfl (zC HT_.out (by kernel_rfl)) (fun _ _ _ h => h) (Or.inl ⟨by rfl, ?_⟩) ?_ ?_
            rotate_left
            ·intro w'
             go_simp
             with_reducible rfl
            rotate_left
            ·simp only [Act.put, List.setIfInBounds_toArray, List.set_cons_zero, List.set_cons_succ, zw, zy]
             rfl
            refine zJ (i := 14) (N := some 71) (v := ?_) (a' := ?_) #[true, true, true, true, true, true, true, true, true, true, true, true, true, true, true, false, false, false, false, false, false, false, false, false, false, false, false, false, false, false, false, false, false, false, false, false] rfl rfl (zC HT_.out (by kernel_rfl)) (fun _ _ _ h => h) (Or.inl ⟨by rfl, ?_⟩) ?_ ?_
            rotate_left
            ·intro w'
             go_simp
             with_reducible rfl
            rotate_left
            ·simp only [Act.put, List.setIfInBounds_toArray, List.set_cons_zero, List.set_cons_succ, zw, zy]
             rfl
            refine zJ (i := 15) (N := some 72) (v := ?_) (a' := ?_) #[true, true, true, true, true, true, true, true, true, true, true, true, true, true, true, true, false, false, false, false, false, false, false, false, false, false, false, false, false, false, false, false, false, false, false, false] rfl rfl (zC HT_.out (by kernel_rfl)) (fun _ _ _ h => h) (Or.inl ⟨by rfl, ?_⟩) ?_ ?_
            rotate_left
            ·intro w'
             go_simp
             with_reducible rfl
            rotate_left
            ·simp only [Act.put, List.setIfInBounds_toArray, List.set_cons_zero, List.set_cons_succ, zw, zy]
             rfl
            refine zJ (i := 16) (N := some 73) (v := ?_) (a' := ?_) #[true, true, true, true, true, true, true, true, true, true, true, true, true, true, true, true, true, false, false, false, false, false, false, false, false, false, false, false, false, false, false, false, false, false, false, false] rfl rfl (zC HT_.out (by kernel_rfl)) (fun _ _ _ h => h) (Or.inl ⟨by rfl, ?_⟩) ?_ ?_
            rotate_left
            ·intro w'
             go_simp
             with_reducible rfl
            rotate_left
            ·simp only [Act.put, List.setIfInBounds_toArray, List.set_cons_zero, List.set_cons_succ, zw, zy]
             rfl
            refine zJ (i := 17) (N := some 74) (v := ?_) (a' := ?_) #[true, true, true, true, true, true, true, true, true, true, true, true, true, true, true, true, true, true, false, false, false, false, false, false, false, false, false, false, false, false, false, false, false, false, false, false] rfl rfl (zC HT_.out (by kernel_rfl)) (fun _ _ _ h => h) (Or.inl ⟨by rfl, ?_⟩) ?_ ?_
            rotate_left
            ·intro w'
             go_simp
             with_reducible rfl
            rotate_left
            ·simp only [Act.put, List.setIfInBounds_toArray, List.set_cons_zero, List.set_cons_succ, zw, zy]
             rfl
            refine za6 (i := 18) (N := some 75) (v := ?_) (a' := ?_) #[true, true, true, true, true, true, true, true, true, true, true, true, true, true, true, true, true, true, true, false, false, false, false, false, false, false, false, false, false, false, false, false, false, false, false, false] rfl rfl (zaL HT_.out HW_.out (by kernel_rfl)) (fun _ _ _ h => h) (Or.inl ⟨by rfl, ?_⟩) hHeld ?_ ?_
            rotate_left
            ·rintro w' ⟨s0, s1, s2⟩
             go_simp
             with_reducible rfl
            rotate_left
            ·simp only [Act.put, List.setIfInBounds_toArray, List.set_cons_zero, List.set_cons_succ, zw, zy]
             rfl
            refine zJ (i := 19) (N := some 76) (v := ?_) (a' := ?_) #[true, true, true, true, true, true, true, true, true, true, true, true, true, true, true, true, true, true, true, true, false, false, false, false, false, false, false, false, false, false, false, false, false, false, false, false] rfl rfl (zC HT_.out (by kernel_rfl)) (fun _ _ _ h => h) (Or.inl ⟨by rfl, ?_⟩) ?_ ?_
            rotate_left
            ·intro w'
             go_simp
             with_reducible rfl
            rotate_left
            ·simp only [Act.put, List.setIfInBounds_toArray, List.set_cons_zero, List.set_cons_succ, zw, zy]
             rfl
            refine zJ (i := 20) (N := some 77) (v := ?_) (a' := ?_) #[true, true, true, true, true, true, true, true, true, true, true, true, true, true, true, true, true, true, true, true, true, false, false, false, false, false, false, false, false, false, false, false, false, false, false, false] rfl rfl (zC HT_.out (by kernel_rfl)) (fun _ _ _ h => h) (Or.inl ⟨by rfl, ?_⟩) ?_ ?_
            rotate_left
            ·intro w'
             go_simp
             with_reducible rfl
            rotate_left
            ·simp only [Act.put, List.setIfInBounds_toArray, List.set_cons_zero, List.set_cons_succ, zw, zy]
             rfl
            refine zJ (i := 21) (N := some 78) (v := undef) (a' := ?_) #[true, true, true, true, true, true, true, true, true, true, true, true, true, true, true, true, true, true, true, true, true, true, false, false, false, false, false, false, false, false, false, false, false, false, false, false] rfl rfl (zC HT_.out (by kernel_rfl)) (fun _ _ _ h => h) (Or.inr ⟨by rfl, rfl⟩) ?_ ?_
            rotate_left
            ·simp only [Act.put, List.setIfInBounds_toArray, List.set_cons_zero, List.set_cons_succ, zw, zy]
             rfl
            refine zJ (i := 22) (N := some 79) (v := undef) (a' := ?_) #[true, true, true, true, true, true, true, true, true, true, true, true, true, true, true, true, true, true, true, true, true, true, true, false, false, false, false, false, false, false, false, false, false, false, false, false] rfl rfl (zC HT_.out (by kernel_rfl)) (fun _ _ _ h => h) (Or.inr ⟨by rfl, rfl⟩) ?_ ?_
            rotate_left
            ·simp only [Act.put, List.setIfInBounds_toArray, List.set_cons_zero, List.set_cons_succ, zw, zy]
             rfl
            refine zJ (i := 23) (N := some 80) (v := undef) (a' := ?_) #[true, true, true, true, true, true, true, true, true, true, true, true, true, true, true, true, true, true, true, true, true, true, true, true, false, false, false, false, false, false, false, false, false, false, false, false] rfl rfl (zC HT_.out (by kernel_rfl)) (fun _ _ _ h => h) (Or.inr ⟨by rfl, rfl⟩) ?_ ?_
            rotate_left
            ·simp only [Act.put, List.setIfInBounds_toArray, List.set_cons_zero, List.set_cons_succ, zw, zy]
             rfl
            refine zJ (i := 24) (N := some 81) (v := undef) (a' := ?_) #[true, true, true, true, true, true, true, true, true, true, true, true, true, true, true, true, true, true, true, true, true, true, true, true, true, false, false, false, false, false, false, false, false, false, false, false] rfl rfl (zC HT_.out (by kernel_rfl)) (fun _ _ _ h => h) (Or.inr ⟨by rfl, rfl⟩) ?_ ?_
            rotate_left
            ·simp only [Act.put, List.setIfInBounds_toArray, List.set_cons_zero, List.set_cons_succ, zw, zy]
             rfl
            refine zJ (i := 25) (N := some 82) (v := undef) (a' := ?_) #[true, true, true, true, true, true, true, true, true, true, true, true, true, true, true, true, true, true, true, true, true, true, true, true, true, true, false, false, false, false, false, false, false, false, false, false] rfl rfl (zC HT_.out (by kernel_rfl)) (fun _ _ _ h => h) (Or.inr ⟨by rfl, rfl⟩) ?_ ?_
            rotate_left
            ·simp only [Act.put, List.setIfInBounds_toArray, List.set_cons_zero, List.set_cons_succ, zw, zy]
             rfl
            refine zJ (i := 26) (N := some 83) (v := undef) (a' := ?_) #[true, true, true, true, true, true, true, true, true, true, true, true, true, true, true, true, true, true, true, true, true, true, true, true, true, true, true, false, false, false, false, false, false, false, false, false] rfl rfl (zC HT_.out (by kernel_rfl)) (fun _ _ _ h => h) (Or.inr ⟨by rfl, rfl⟩) ?_ ?_
            rotate_left
            ·simp only [Act.put, List.setIfInBounds_toArray, List.set_cons_zero, List.set_cons_succ, zw, zy]
             rfl
            refine zJ (i := 27) (N := some 84) (v := undef) (a' := ?_) #[true, true, true, true, true, true, true, true, true, true, true, true, true, true, true, true, true, true, true, true, true, true, true, true, true, true, true, true, false, false, false, false, false, false, false, false] rfl rfl (zC HT_.out (by kernel_rfl)) (fun _ _ _ h => h) (Or.inr ⟨by rfl, rfl⟩) ?_ ?_
            rotate_left
            ·simp only [Act.put, List.setIfInBounds_toArray, List.set_cons_zero, List.set_cons_succ, zw, zy]
             rfl
            refine zJ (i := 28) (N := some 85) (v := undef) (a' := ?_) #[true, true, true, true, true, true, true, true, true, true, true, true, true, true, true, true, true, true, true, true, true, true, true, true, true, true, true, true, true, false, false, false, false, false, false, false] rfl rfl (zC HT_.out (by kernel_rfl)) (fun _ _ _ h => h) (Or.inr ⟨by rfl, rfl⟩) ?_ ?_
            rotate_left
            ·simp only [Act.put, List.setIfInBounds_toArray, List.set_cons_zero, List.set_cons_succ, zw, zy]
             rfl
            refine zJ (i := 29) (N := some 86) (v := undef) (a' := ?_) #[true, true, true, true, true, true, true, true, true, true, true, true, true, true, true, true, true, true, true, true, true, true, true, true, true, true, true, true, true, true, false, false, false, false, false, false] rfl rfl (zC HT_.out (by kernel_rfl)) (fun _ _ _ h => h) (Or.inr ⟨by rfl, rfl⟩) ?_ ?_
            rotate_left
            ·simp only [Act.put, List.setIfInBounds_toArray, List.set_cons_zero, List.set_cons_succ, zw, zy]
             rfl
            refine zJ (i := 30) (N := some 87) (v := undef) (a' := ?_) #[true, true, true, true, true, true, true, true, true, true, true, true, true, true, true, true, true, true, true, true, true, true, true, true, true, true, true, true, true, true, true, false, false, false, false, false] rfl rfl (zC HT_.out (by kernel_rfl)) (fun _ _ _ h => h) (Or.inr ⟨by rfl, rfl⟩) ?_ ?_
            rotate_left
            ·simp only [Act.put, List.setIfInBounds_toArray, List.set_cons_zero, List.set_cons_succ, zw, zy]
             rfl
            refine zJ (i := 31) (N := some 88) (v := undef) (a' := ?_) #[true, true, true, true, true, true, true, true, true, true, true, true, true, true, true, true, true, true, true, true, true, true, true, true, true, true, true, true, true, true, true, true, false, false, false, false] rfl rfl (zC HT_.out (by kernel_rfl)) (fun _ _ _ h => h) (Or.inr ⟨by rfl, rfl⟩) ?_ ?_
            rotate_left
            ·simp only [Act.put, List.setIfInBounds_toArray, List.set_cons_zero, List.set_cons_succ, zw, zy]
             rfl
            refine zJ (i := 32) (N := some 89) (v := undef) (a' := ?_) #[true, true, true, true, true, true, true, true, true, true, true, true, true, true, true, true, true, true, true, true, true, true, true, true, true, true, true, true, true, true, true, true, true, false, false, false] rfl rfl (zC HT_.out (by kernel_rfl)) (fun _ _ _ h => h) (Or.inr ⟨by rfl, rfl⟩) ?_ ?_
            rotate_left
            ·simp only [Act.put, List.setIfInBounds_toArray, List.set_cons_zero, List.set_cons_succ, zw, zy]
             rfl
            refine zJ (i := 33) (N := some 90) (v := undef) (a' := ?_) #[true, true, true, true, true, true, true, true, true, true, true, true, true, true, true, true, true, true, true, true, true, true, true, true, true, true, true, true, true, true, true, true, true, true, false, false] rfl rfl (zC HT_.out (by kernel_rfl)) (fun _ _ _ h => h) (Or.inr ⟨by rfl, rfl⟩) ?_ ?_
            rotate_left
            ·simp only [Act.put, List.setIfInBounds_toArray, List.set_cons_zero, List.set_cons_succ, zw, zy]
             rfl
            refine zJ (i := 34) (N := some 91) (v := ?_) (a' := ?_) #[true, true, true, true, true, true, true, true, true, true, true, true, true, true, true, true, true, true, true, true, true, true, true, true, true, true, true, true, true, true, true, true, true, true, true, false] rfl rfl (zC HT_.out (by kernel_rfl)) (fun _ _ _ h => h) (Or.inl ⟨by rfl, ?_⟩) ?_ ?_
            rotate_left
            ·intro w'
             go_simp
             with_reducible rfl
            rotate_left
            ·simp only [Act.put, List.setIfInBounds_toArray, List.set_cons_zero, List.set_cons_succ, zw, zy]
             rfl
            refine zJ (i := 35) (N := some 92) (v := ?_) (a' := ?_) #[true, true, true, true, true, true, true, true, true, true, true, true, true, true, true, true, true, true, true, true, true, true, true, true, true, true, true, true, true, true, true, true, true, true, true, true] rfl rfl (zC HT_.out (by kernel_rfl)) (fun _ _ _ h => h) (Or.inl ⟨by rfl, ?_⟩) ?_ ?_
            rotate_left
            ·intro w'
             go_simp
             with_reducible rfl
            rotate_left
            ·simp only [Act.put, List.setIfInBounds_toArray, List.set_cons_zero, List.set_cons_succ, zw, zy]
             rfl
            refine zcO (zcd HT_.out (by kernel_rfl)) ?_
            try go_wp2
            go_meet
            case rel => exact ⟨_, (false), (by first | rfl | (simp; done) | (simp [*]; done)), H', ⟨by have := HJ6.out; have := HK2.out; first | omega | exact Nat.le_refl _⟩, ⟨by (with_reducible repeat (first | apply Kd.zas | apply Kd.zat | apply Kd.zax)); exact HO_4.out⟩, ⟨by (with_reducible repeat (first | apply Kd.zO | apply Kd.zP | apply Kd.zN)); exact HO_5.out⟩, ⟨by (with_reducible repeat (first | apply Kd.zO | apply Kd.zP | apply Kd.zN)); exact HO_6.out⟩, ⟨by (with_reducible repeat (first | apply Kd.zO | apply Kd.zP | apply Kd.zN)); exact HO_8.out⟩, ⟨by repeat (first | (with_reducible first | exact HB.out | apply ze | apply zb | apply zf) | exact HB.out)⟩⟩
        ·rw [if_neg c25] at H
         exact absurd H (by simp)
       case rest =>
        clear HC23
        try clear c2
        try clear p2
        try clear c3
        try clear c4
        try clear c7
        try clear p7
        try clear q7
        try clear hx7
        try clear c25
        try clear c30
        try clear c30b0
        try clear c31
        try clear c32
        try clear c33
        try clear hx723_0
        try clear hx724_0
        try clear hx725_0
        try clear hx726_0
        try clear hx727_0
        try clear hx728_0
        try clear p723
        try clear p724
        try clear p725
        try clear p727
        try clear p728
        try clear q723
        try clear q724
        try clear q725
        try clear q727
        try clear q728
        obtain ⟨kq, x92_22, rfl, HA, HJ22, HO_4, HO_5, HO_6, HO_8, HB⟩ := hcut
        cases kq with
        | zero => exact absurd HA.out (by simp [zh.j2])
        | succ kj22 =>
         have H := HA.out
         clear HA
         simp only [zh.j2] at H
         by_cases c37 : x92_22 = true
         ·subst c37
          have H1 : (some false) = some r := by rw [if_pos rfl] at H; exact H
          clear H
          have H := H1
          clear H1
          obtain rfl := Option.some.inj H
          go_wp2
          go_ret
          exact ⟨by first | rfl | (simp [zA, zz] <;> rfl) | (simp [*, zA, zz] <;> rfl), by repeat (first | (with_reducible first | exact HB.out | apply ze | apply zb | apply zf) | exact HB.out)⟩
         ·replace c37 := Bool.eq_false_iff.mpr c37
          subst c37
          have H1 : (if 0 ≤ x11_2 then (if x11_2 < (t714.length : Int) then (zh.l1 kj22 t704 t709 t714 t718 x10_2 x11_2 (wrap64 ((rd t714 x11_2) + 1))) else (none)) else (none)) = some r := by rw [if_neg (show ¬ (false = true) by decide)] at H; exact H
          clear H
          have H := H1
          clear H1
          by_cases c38 : 0 ≤ x11_2
          ·rw [if_pos c38] at H
           have c38b0 : decide (0 ≤ x11_2) = true := decide_eq_true c38
           clear c38
           by_cases c39 : x11_2 < (t714.length : Int)
           ·rw [if_pos c39] at H
            have c39b0 : decide (x11_2 < (t714.length : Int)) = true := decide_eq_true c39
            clear c39
            have H' := za.mk H
            clear H
            have p730 : 0 ≤ (x11_2 : Int) := of_decide_eq_true (by first | (with_reducible assumption) | assumption)
            have q730 : x11_2 < (t714.length : Int) := of_decide_eq_true (by first | (with_reducible assumption) | assumption)
            obtain ⟨ad730, e730, hx730_0⟩ := Kd.zbk (Kd.zaF HO_6.out).2.2 x11_2 p730 q730
            cases e730
            replace p730 := eq_true p730
            replace q730 := eq_true q730
            go_wp2
            go_loopg [12] kj22 (fun kq v12 w' => ∃ (x12_4 : Int), v12 = .int .i64 x12_4 ∧ za (zh.l1 kq t704 t709 t714 t718 x10_2 x11_2 x12_4 = some r) ∧ za (kq ≤ kj22) ∧ za (Kd.S (Kd.slice 9 Kd.string) 22 w' w.heap.size (fun k_ => some k_ ≠ ((.slice Ao12 t709.length co12) : Value).ownBlock) (.slice Ao11 t704.length co11) t704) ∧ za (Kd.R Kd.string 9 w' w.heap.size (fun _ => True) (.slice Ao12 t709.length co12) t709) ∧ za (Kd.R (Kd.int .i64) 3 w' w.heap.size (fun k_ => some k_ ≠ (v720 : Value).ownBlock) (.slice (some ad730) t714.length co24) t714) ∧ za (Kd.R (Kd.int .i64) 3 w' w.heap.size (fun k_ => some k_ ≠ ((.slice (some ad730) t714.length co24) : Value).ownBlock) v720 t718) ∧ za (Below w.heap.size w w'))
            case atStart => exact ⟨(wrap64 ((rd t714 x11_2) + 1)), (by first | rfl | (simp; done) | (simp [*]; done)), H', ⟨Nat.le_refl _⟩, ⟨by (with_reducible repeat (first | apply Kd.zas | apply Kd.zat | apply Kd.zax)); exact HO_4.out⟩, ⟨by (with_reducible repeat (first | apply Kd.zO | apply Kd.zP | apply Kd.zN)); exact HO_5.out⟩, ⟨by (with_reducible repeat (first | apply Kd.zO | apply Kd.zP | apply Kd.zN)); exact HO_6.out⟩, ⟨by (with_reducible repeat (first | apply Kd.zO | apply Kd.zP | apply Kd.zN)); exact HO_8.out⟩, ⟨by repeat (first | (with_reducible first | exact HB.out | apply ze | apply zb | apply zf) | exact HB.out)⟩⟩
            case round =>
             clear H'
             try clear c2
             try clear p2
             try clear c3
             try clear c4
             try clear p6
             try clear c7
             try clear p7
             try clear q7
             try clear hx7
             try clear c25
             try clear c30
             try clear c30b0
             try clear c31
             try clear c32
             try clear c33
             try clear c37
             try clear c38
             try clear c38b0
             try clear c39
             try clear c39b0
             try clear hx723_0
             try clear hx724_0
             try clear hx725_0
             try clear hx726_0
             try clear hx727_0
             try clear hx728_0
             try clear hx730_0
             try clear p2
             try clear p7
             try clear p723
             try clear p724
             try clear p725
             try clear p727
             try clear p728
             try clear p730
             try clear q7
             try clear q723
             try clear q724
             try clear q725
             try clear q727
             try clear q728
             try clear q730
             obtain ⟨x12_4, rfl, HA, HK4, HO_4, HO_5, HO_6, HO_8, HB⟩ := hrel
             cases gk with
             | zero => exact absurd HA.out (by simp [zh.l1])
             | succ k4 =>
              have H := HA.out
              clear HA
              simp only [zh.l1] at H
              by_cases c40 : x12_4 < (t704.length : Int)
              ·rw [if_pos c40] at H
               have c40b0 : decide (x12_4 < (t704.length : Int)) = true := decide_eq_true c40
               clear c40
               by_cases c41 : 0 ≤ x12_4
               ·rw [if_pos c41] at H
                have c41b0 : decide (0 ≤ x12_4) = true := decide_eq_true c41
                clear c41
                by_cases c42 : 0 ≤ x11_2
                ·rw [if_pos c42] at H
                 have c42b0 : decide (0 ≤ x11_2) = true := decide_eq_true c42
                 clear c42
                 by_cases c43 : x11_2 < (t709.length : Int)
                 ·rw [if_pos c43] at H
                  have c43b0 : decide (x11_2 < (t709.length : Int)) = true := decide_eq_true c43
                  clear c43
                  replace H := Option.bind_eq_some_iff.mp H
                  obtain ⟨t733, A440, H⟩ := H
                  replace H : (if t733 = true then (some false) else (zh.l1 k4 t704 t709 t714 t718 x10_2 x11_2 (wrap64 (x12_4 + 1)))) = some r := H
                  have A44 := za.mk A440
                  clear A440
                  by_cases c45 : t733 = true
                  ·subst c45
                   have H1 : (some false) = some r := by rw [if_pos rfl] at H; exact H
                   clear H
                   have H := H1
                   clear H1
                   obtain rfl := Option.some.inj H
                   try go_wp2
                   have n0_ := za.mk (Kd.zax HO_4.out)
                   have n1_ := za.mk (Kd.zN HO_5.out)
                   have n2_ := za.mk (Kd.zN HO_6.out)
                   have n3_ := za.mk (Kd.zN HO_8.out)
                   have n4_ := za.mk (zf HB.out)
                   clear HO_4
                   clear HO_5
                   clear HO_6
                   clear HO_8
                   clear HB
                   have HO_4 := n0_
                   have HO_5 := n1_
                   have HO_6 := n2_
                   have HO_8 := n3_
                   have HB := n4_
                   clear n0_ n1_ n2_ n3_ n4_
                   have p731 : 0 ≤ (x12_4 : Int) := of_decide_eq_true (by first | (with_reducible assumption) | assumption)
                   have q731 : x12_4 < (t704.length : Int) := of_decide_eq_true (by first | (with_reducible assumption) | assumption)
                   obtain ⟨ad731, A731_0, c731_0, e731, hx731_0, hl731_0, hi731_0⟩ := zdl (Kd.zb5 HO_4.out).2.2 x12_4 p731 q731
                   cases e731
                   obtain ⟨ce731, hce731, hMe731, hcc731⟩ := Kd.zgy HO_4.out [] x12_4 p731 (by first | exact q731 | exact of_decide_eq_true (by first | (with_reducible assumption) | assumption) | (have e_ := (Kd.zb5 HO_4.out).1; omega))
                   obtain ⟨ve731_0, rfl, ge731_0⟩ := hMe731
                   have hv731_0 := hcc731 0 _ rfl
                   rw [Nat.add_zero, show ((Kd.slice 9 Kd.string)).sz = 1 from rfl, Nat.mul_one] at hv731_0
                   replace hv731_0 := Option.some.inj (hv731_0.symm.trans hx731_0)
                   rw [hv731_0] at ge731_0
                   have HL731_0 := za.mk (show Kd.R Kd.string 9 _ _ _ _ (za8 t704 x12_4) from ge731_0)
                   clear hv731_0 ge731_0
                   clear hcc731 hce731
                   have HR731_0 := za.mk hi731_0
                   have HC731_0 := za.mk hl731_0
                   clear hi731_0 hl731_0
                   replace p731 := eq_true p731
                   replace q731 := eq_true q731
                   have p732 : 0 ≤ (x11_2 : Int) := of_decide_eq_true (by first | (with_reducible assumption) | assumption)
                   have q732 : x11_2 < (t709.length : Int) := of_decide_eq_true (by first | (with_reducible assumption) | assumption)
                   obtain ⟨ad732, e732, hx732_0⟩ := Kd.zbe (Kd.zaF HO_5.out).2.2 x11_2 p732 q732
                   cases e732
                   replace p732 := eq_true p732
                   replace q732 := eq_true q732
                   refine zcq (n := 9) (S := fun w' => w'.cell? (ad731.add (x12_4).toNat) = some (.slice A731_0 (za8 t704 x12_4).length c731_0) ∧ w'.cell? (ad732.add (x11_2).toNat) = some (.string (zaJ ByteArray.empty t709 x11_2))) (ds := []) #[false, false, false, false, false, false, false, false, false] (by kernel_rfl) rfl rfl ⟨hx731_0, hx732_0⟩ (fun hHeld => ?_); refine zbO zh.zhI zh.zgQ (fun HT_ HW_ => ?_)
                   generalize wr.drew = w46 at HO_4 HO_5 HO_6 HO_8 HB HL731_0 HR731_0 hx731_0 hx732_0 hHeld ⊢
                   refine zJ (i := 0) (N := some 104) (v := ?_) (a' := ?_) #[true, false, false, false, false, false, false, false, false] rfl rfl (zC HT_.out (by kernel_rfl)) (fun _ _ _ h => h) (Or.inl ⟨by rfl, ?_⟩) ?_ ?_
                   rotate_left
                   ·intro w'
                    go_simp
                    with_reducible rfl
                   rotate_left
                   ·simp only [Act.put, List.setIfInBounds_toArray, List.set_cons_zero, List.set_cons_succ, zw, zy]
                    rfl
                   refine zJ (i := 1) (N := some 105) (v := ?_) (a' := ?_) #[true, true, false, false, false, false, false, false, false] rfl rfl (zC HT_.out (by kernel_rfl)) (fun _ _ _ h => h) (Or.inl ⟨by rfl, ?_⟩) ?_ ?_
                   rotate_left
                   ·intro w'
                    go_simp
                    with_reducible rfl
                   rotate_left
                   ·simp only [Act.put, List.setIfInBounds_toArray, List.set_cons_zero, List.set_cons_succ, zw, zy]
                    rfl
                   refine zJ (i := 2) (N := some 106) (v := ?_) (a' := ?_) #[true, true, true, false, false, false, false, false, false] rfl rfl (zC HT_.out (by kernel_rfl)) (fun _ _ _ h => h) (Or.inl ⟨by rfl, ?_⟩) ?_ ?_
                   rotate_left
                   ·intro w'
                    go_simp
                    with_reducible rfl
                   rotate_left
                   ·simp only [Act.put, List.setIfInBounds_toArray, List.set_cons_zero, List.set_cons_succ, zw, zy]
                    rfl
                   refine zJ (i := 4) (N := some 108) (v := ?_) (a' := ?_) #[true, true, true, false, true, false, false, false, false] rfl rfl (zC HT_.out (by kernel_rfl)) (fun _ _ _ h => h) (Or.inl ⟨by rfl, ?_⟩) ?_ ?_
                   rotate_left
                   ·intro w'
                    go_simp
                    with_reducible rfl
                   rotate_left
                   ·simp only [Act.put, List.setIfInBounds_toArray, List.set_cons_zero, List.set_cons_succ, zw, zy]
                    rfl
                   refine zJ (i := 5) (N := some 109) (v := ?_) (a' := ?_) #[true, true, true, false, true, true, false, false, false] rfl rfl (zC HT_.out (by kernel_rfl)) (fun _ _ _ h => h) (Or.inl ⟨by rfl, ?_⟩) ?_ ?_
                   rotate_left
                   ·intro w'
                    go_simp
                    with_reducible rfl
                   rotate_left
                   ·simp only [Act.put, List.setIfInBounds_toArray, List.set_cons_zero, List.set_cons_succ, zw, zy]
                    rfl
                   refine zJ (i := 6) (N := some 110) (v := ?_) (a' := ?_) #[true, true, true, false, true, true, true, false, false] rfl rfl (zC HT_.out (by kernel_rfl)) (fun _ _ _ h => h) (Or.inl ⟨by rfl, ?_⟩) ?_ ?_
                   rotate_left
                   ·intro w'
                    go_simp
                    with_reducible rfl
                   rotate_left
                   ·simp only [Act.put, List.setIfInBounds_toArray, List.set_cons_zero, List.set_cons_succ, zw, zy]
                    rfl
                   refine za6 (i := 3) (N := some 107) (v := ?_) (a' := ?_) #[true, true, true, true, true, true, true, false, false] rfl rfl (zaL HT_.out HW_.out (by kernel_rfl)) (fun _ _ _ h => h) (Or.inl ⟨by rfl, ?_⟩) hHeld ?_ ?_
                   rotate_left
                   ·rintro w' ⟨s0, s1⟩
                    go_simp
                    with_reducible rfl
                   rotate_left
                   ·simp only [Act.put, List.setIfInBounds_toArray, List.set_cons_zero, List.set_cons_succ, zw, zy]
                    rfl
                   refine za6 (i := 7) (N := some 111) (v := ?_) (a' := ?_) #[true, true, true, true, true, true, true, true, false] rfl rfl (zaL HT_.out HW_.out (by kernel_rfl)) (fun _ _ _ h => h) (Or.inl ⟨by rfl, ?_⟩) hHeld ?_ ?_
                   rotate_left
                   ·rintro w' ⟨s0, s1⟩
                    go_simp
                    with_reducible rfl
                   rotate_left
                   ·simp only [Act.put, List.setIfInBounds_toArray, List.set_cons_zero, List.set_cons_succ, zw, zy]
                    rfl
                   refine zbU (i := 8) (N := some 112) #[true, true, true, true, true, true, true, true, true] rfl rfl (zbn HT_.out (by kernel_rfl)) (by decide) (fun K hK => ?_)
                   refine zbB Try.func42 (by kernel_rfl) rfl #[.slice A731_0 (za8 t704 x12_4).length c731_0, .string (zaJ ByteArray.empty t709 x11_2)] (by rfl) rfl rfl (by (try simp only [List.map_toArray, List.map_cons, List.map_nil]); first | done | rfl | (simp only [List.length_drop, List.length_take]; rfl)) ?_
                   with_reducible refine (zav.calls k4 _ _ (za8 t704 x12_4) (zaJ ByteArray.empty t709 x11_2) true _ ?side1 ?side2 A44.out).mono ?_
                   (case side1 => repeat (first | exact (by repeat (first | (with_reducible exact HR731_0.out) | (with_reducible refine Kd.zad ?_ _) | (with_reducible refine Kd.zae ?_ _) | (with_reducible refine Kd.zal ?_) | exact HR731_0.out)) | (with_reducible refine Kd.zad ?_ _) | (with_reducible refine Kd.zae ?_ _) | (with_reducible refine Kd.zal ?_)))
                   (case side2 => exact HC731_0.out)
                   rintro e w' ⟨rfl, ⟨nd, rfl⟩⟩
                   refine ⟨_, rfl, ?_⟩
                   refine hK.out _ _ ⟨hHeld.1, hHeld.2⟩ (fun hHeld => ?_)
                   clear hK K
                   refine za7 (a' := ?_) ?_ ?_
                   rotate_left
                   ·show Act.put _ (some 112) _ = _
                    simp only [Act.put, List.setIfInBounds_toArray, List.set_cons_zero, List.set_cons_succ, zw, zy]
                    rfl
                   refine zcO (zcd HT_.out (by kernel_rfl)) ?_
                   try go_wp2
                   go_ret
                   exact ⟨by first | rfl | (simp [zA, zz] <;> rfl) | (simp [*, zA, zz] <;> rfl), by repeat (first | (with_reducible first | exact HB.out | apply ze | apply zb | apply zf) | exact HB.out)⟩
                  ·replace c45 := Bool.eq_false_iff.mpr c45
                   subst c45
                   have H1 : (zh.l1 k4 t704 t709 t714 t718 x10_2 x11_2 (wrap64 (x12_4 + 1))) = some r := by rw [if_neg (show ¬ (false = true) by decide)] at H; exact H
                   clear H
                   have H := H1
                   clear H1
                   have H' := za.mk H
                   clear H
                   try go_wp2
                   have n0_ := za.mk (Kd.zax HO_4.out)
                   have n1_ := za.mk (Kd.zN HO_5.out)
                   have n2_ := za.mk (Kd.zN HO_6.out)
                   have n3_ := za.mk (Kd.zN HO_8.out)
                   have n4_ := za.mk (zf HB.out)
                   clear HO_4
                   clear HO_5
                   clear HO_6
                   clear HO_8
                   clear HB
                   have HO_4 := n0_
                   have HO_5 := n1_
                   have HO_6 := n2_
                   have HO_8 := n3_
                   have HB := n4_
                   clear n0_ n1_ n2_ n3_ n4_
                   have p731 : 0 ≤ (x12_4 : Int) := of_decide_eq_true (by first | (with_reducible assumption) | assumption)
                   have q731 : x12_4 < (t704.length : Int) := of_decide_eq_true (by first | (with_reducible assumption) | assumption)
                   obtain ⟨ad731, A731_0, c731_0, e731, hx731_0, hl731_0, hi731_0⟩ := zdl (Kd.zb5 HO_4.out).2.2 x12_4 p731 q731
                   cases e731
                   obtain ⟨ce731, hce731, hMe731, hcc731⟩ := Kd.zgy HO_4.out [] x12_4 p731 (by first | exact q731 | exact of_decide_eq_true (by first | (with_reducible assumption) | assumption) | (have e_ := (Kd.zb5 HO_4.out).1; omega))
                   obtain ⟨ve731_0, rfl, ge731_0⟩ := hMe731
                   have hv731_0 := hcc731 0 _ rfl
                   rw [Nat.add_zero, show ((Kd.slice 9 Kd.string)).sz = 1 from rfl, Nat.mul_one] at hv731_0
                   replace hv731_0 := Option.some.inj (hv731_0.symm.trans hx731_0)
                   rw [hv731_0] at ge731_0
                   have HL731_0 := za.mk (show Kd.R Kd.string 9 _ _ _ _ (za8 t704 x12_4) from ge731_0)
                   clear hv731_0 ge731_0
                   clear hcc731 hce731
                   have HR731_0 := za.mk hi731_0
                   have HC731_0 := za.mk hl731_0
                   clear hi731_0 hl731_0
                   replace p731 := eq_true p731
                   replace q731 := eq_true q731
                   have p732 : 0 ≤ (x11_2 : Int) := of_decide_eq_true (by first | (with_reducible assumption) | assumption)
                   have q732 : x11_2 < (t709.length : Int) := of_decide_eq_true (by first | (with_reducible assumption) | assumption)
                   obtain ⟨ad732, e732, hx732_0⟩ := Kd.zbe (Kd.zaF HO_5.out).2.2 x11_2 p732 q732
                   cases e732
                   replace p732 := eq_true p732
                   replace q732 := eq_true q732
                   refine zcq (n := 9) (S := fun w' => w'.cell? (ad731.add (x12_4).toNat) = some (.slice A731_0 (za8 t704 x12_4).length c731_0) ∧ w'.cell? (ad732.add (x11_2).toNat) = some (.string (zaJ ByteArray.empty t709 x11_2))) (ds := []) #[false, false, false, false, false, false, false, false, false] (by kernel_rfl) rfl rfl ⟨hx731_0, hx732_0⟩ (fun hHeld => ?_); refine zbO zh.zhI zh.zgQ (fun HT_ HW_ => ?_)
                   generalize wr.drew = w47 at HO_4 HO_5 HO_6 HO_8 HB HL731_0 HR731_0 hx731_0 hx732_0 hHeld ⊢
                   refine zJ (i := 0) (N := some 104) (v := ?_) (a' := ?_) #[true, false, false, false, false, false, false, false, false] rfl rfl (zC HT_.out (by kernel_rfl)) (fun _ _ _ h => h) (Or.inl ⟨by rfl, ?_⟩) ?_ ?_
                   rotate_left
                   ·intro w'
                    go_simp
                    with_reducible rfl
                   rotate_left
                   ·simp only [Act.put, List.setIfInBounds_toArray, List.set_cons_zero, List.set_cons_succ, zw, zy]
                    rfl
                   refine zJ (i := 1) (N := some 105) (v := ?_) (a' := ?_) #[true, true, false, false, false, false, false, false, false] rfl rfl (zC HT_.out (by kernel_rfl)) (fun _ _ _ h => h) (Or.inl ⟨by rfl, ?_⟩) ?_ ?_
                   rotate_left
                   ·intro w'
                    go_simp
                    with_reducible rfl
                   rotate_left
                   ·simp only [Act.put, List.setIfInBounds_toArray, List.set_cons_zero, List.set_cons_succ, zw, zy]
                    rfl
                   refine zJ (i := 2) (N := some 106) (v := ?_) (a' := ?_) #[true, true, true, false, false, false, false, false, false] rfl rfl (zC HT_.out (by kernel_rfl)) (fun _ _ _ h => h) (Or.inl ⟨by rfl, ?_⟩) ?_ ?_
                   rotate_left
                   ·intro w'
                    go_simp
                    with_reducible rfl
                   rotate_left
                   ·simp only [Act.put, List.setIfInBounds_toArray, List.set_cons_zero, List.set_cons_succ, zw, zy]
                    rfl
                   refine zJ (i := 4) (N := some 108) (v := ?_) (a' := ?_) #[true, true, true, false, true, false, false, false, false] rfl rfl (zC HT_.out (by kernel_rfl)) (fun _ _ _ h => h) (Or.inl ⟨by rfl, ?_⟩) ?_ ?_
                   rotate_left
                   ·intro w'
                    go_simp
                    with_reducible rfl
                   rotate_left
                   ·simp only [Act.put, List.setIfInBounds_toArray, List.set_cons_zero, List.set_cons_succ, zw, zy]
                    rfl
                   refine zJ (i := 5) (N := some 109) (v := ?_) (a' := ?_) #[true, true, true, false, true, true, false, false, false] rfl rfl (zC HT_.out (by kernel_rfl)) (fun _ _ _ h => h) (Or.inl ⟨by rfl, ?_⟩) ?_ ?_
                   rotate_left
                   ·intro w'
                    go_simp
                    with_reducible rfl
                   rotate_left
                   ·simp only [Act.put, List.setIfInBounds_toArray, List.set_cons_zero, List.set_cons_succ, zw, zy]
                    rfl
                   refine zJ (i := 6) (N := some 110) (v := ?_) (a' := ?_) #[true, true, true, false, true, true, true, false, false] rfl rfl (zC HT_.out (by kernel_rfl)) (fun _ _ _ h => h) (Or.inl ⟨by rfl, ?_⟩) ?_ ?_
                   rotate_left
                   ·intro w'
                    go_simp
                    with_reducible rfl
                   rotate_left
                   ·simp only [Act.put, List.setIfInBounds_toArray, List.set_cons_zero, List.set_cons_succ, zw, zy]
                    rfl
                   refine za6 (i := 3) (N := some 107) (v := ?_) (a' := ?_) #[true, true, true, true, true, true, true, false, false] rfl rfl (zaL HT_.out HW_.out (by kernel_rfl)) (fun _ _ _ h => h) (Or.inl ⟨by rfl, ?_⟩) hHeld ?_ ?_
                   rotate_left
                   ·rintro w' ⟨s0, s1⟩
                    go_simp
                    with_reducible rfl
                   rotate_left
                   ·simp only [Act.put, List.setIfInBounds_toArray, List.set_cons_zero, List.set_cons_succ, zw, zy]
                    rfl
                   refine za6 (i := 7) (N := some 111) (v := ?_) (a' := ?_) #[true, true, true, true, true, true, true, true, false] rfl rfl (zaL HT_.out HW_.out (by kernel_rfl)) (fun _ _ _ h => h) (Or.inl ⟨by rfl, ?_⟩) hHeld ?_ ?_
                   rotate_left
                   ·rintro w' ⟨s0, s1⟩
                    go_simp
                    with_reducible rfl
                   rotate_left
                   ·simp only [Act.put, List.setIfInBounds_toArray, List.set_cons_zero, List.set_cons_succ, zw, zy]
                    rfl
                   refine zbU (i := 8) (N := some 112) #[true, true, true, true, true, true, true, true, true] rfl rfl (zbn HT_.out (by kernel_rfl)) (by decide) (fun K hK => ?_)
                   refine zbB Try.func42 (by kernel_rfl) rfl #[.slice A731_0 (za8 t704 x12_4).length c731_0, .string (zaJ ByteArray.empty t709 x11_2)] (by rfl) rfl rfl (by (try simp only [List.map_toArray, List.map_cons, List.map_nil]); first | done | rfl | (simp only [List.length_drop, List.length_take]; rfl)) ?_
                   with_reducible refine (zav.calls k4 _ _ (za8 t704 x12_4) (zaJ ByteArray.empty t709 x11_2) false _ ?side1 ?side2 A44.out).mono ?_
                   (case side1 => repeat (first | exact (by repeat (first | (with_reducible exact HR731_0.out) | (with_reducible refine Kd.zad ?_ _) | (with_reducible refine Kd.zae ?_ _) | (with_reducible refine Kd.zal ?_) | exact HR731_0.out)) | (with_reducible refine Kd.zad ?_ _) | (with_reducible refine Kd.zae ?_ _) | (with_reducible refine Kd.zal ?_)))
                   (case side2 => exact HC731_0.out)
                   rintro e w' ⟨rfl, ⟨nd, rfl⟩⟩
                   refine ⟨_, rfl, ?_⟩
                   refine hK.out _ _ ⟨hHeld.1, hHeld.2⟩ (fun hHeld => ?_)
                   clear hK K
                   refine za7 (a' := ?_) ?_ ?_
                   rotate_left
                   ·show Act.put _ (some 112) _ = _
                    simp only [Act.put, List.setIfInBounds_toArray, List.set_cons_zero, List.set_cons_succ, zw, zy]
                    rfl
                   refine zcO (zcd HT_.out (by kernel_rfl)) ?_
                   try go_wp2
                   go_roundg k4
                   case measure => have := HJ6.out; have := HK2.out; have := HJ22.out; have := HK4.out; omega
                   case rel => exact ⟨(wrap64 (x12_4 + 1)), (by first | rfl | (simp; done) | (simp [*]; done)), H', ⟨by have := HJ6.out; have := HK2.out; have := HJ22.out; have := HK4.out; omega⟩, ⟨by (with_reducible repeat (first | apply Kd.zas | apply Kd.zat | apply Kd.zax)); exact HO_4.out⟩, ⟨by (with_reducible repeat (first | apply Kd.zO | apply Kd.zP | apply Kd.zN)); exact HO_5.out⟩, ⟨by (with_reducible repeat (first | apply Kd.zO | apply Kd.zP | apply Kd.zN)); exact HO_6.out⟩, ⟨by (with_reducible repeat (first | apply Kd.zO | apply Kd.zP | apply Kd.zN)); exact HO_8.out⟩, ⟨by repeat (first | (with_reducible first | exact HB.out | apply ze | apply zb | apply zf) | exact HB.out)⟩⟩
                 ·rw [if_neg c43] at H
                  exact absurd H (by simp)
                ·rw [if_neg c42] at H
                 exact absurd H (by simp)
               ·rw [if_neg c41] at H
                exact absurd H (by simp)
              ·rw [if_neg c40] at H
               have c40b0 : decide (x12_4 < (t704.length : Int)) = false := decide_eq_false c40
               clear c40
               have HC48 := za.mk H
               clear H
               go_upto_region 18 with (fail)
               go_cut [127] (fun v127 wc => ∃ (kq : Nat) (x127_47 : Bool), v127 = .bool x127_47 ∧ za (zh.j4 kq t704 t709 t714 t718 x10_2 x11_2 x127_47 = some r) ∧ za (kq ≤ k4) ∧ za (Kd.S (Kd.slice 9 Kd.string) 22 wc w.heap.size (fun k_ => some k_ ≠ ((.slice Ao12 t709.length co12) : Value).ownBlock) (.slice Ao11 t704.length co11) t704) ∧ za (Kd.R Kd.string 9 wc w.heap.size (fun _ => True) (.slice Ao12 t709.length co12) t709) ∧ za (Kd.R (Kd.int .i64) 3 wc w.heap.size (fun k_ => some k_ ≠ (v720 : Value).ownBlock) (.slice (some ad730) t714.length co24) t714) ∧ za (Kd.R (Kd.int .i64) 3 wc w.heap.size (fun k_ => some k_ ≠ ((.slice (some ad730) t714.length co24) : Value).ownBlock) v720 t718) ∧ za (Below w.heap.size w wc))
               case first =>
                have H := HC48.out
                clear HC48
                by_cases c49 : 0 ≤ x11_2
                ·rw [if_pos c49] at H
                 have c49b0 : decide (0 ≤ x11_2) = true := decide_eq_true c49
                 clear c49
                 (first | rw [c49b0] | (simp only [zw, zy]; rw [c49b0]) | skip)
                 by_cases c50 : x11_2 < (t714.length : Int)
                 ·rw [if_pos c50] at H
                  have c50b0 : decide (x11_2 < (t714.length : Int)) = true := decide_eq_true c50
                  clear c50
                  by_cases c51 : (rd t714 x11_2) ≥ 0
                  ·rw [if_pos c51] at H
                   have c51b0 : decide (0 ≤ (rd t714 x11_2)) = true := decide_eq_true c51
                   clear c51
                   have H' := za.mk H
                   clear H
                   have p734 : 0 ≤ (x11_2 : Int) := of_decide_eq_true (by first | (with_reducible assumption) | assumption)
                   have q734 : x11_2 < (t714.length : Int) := of_decide_eq_true (by first | (with_reducible assumption) | assumption)
                   obtain ⟨ad734, e734, hx734_0⟩ := Kd.zbk (Kd.zaF HO_6.out).2.2 x11_2 p734 q734
                   obtain rfl : ad730 = ad734 := (by injection e734)
                   replace p734 := eq_true p734
                   replace q734 := eq_true q734
                   have p735 : 0 ≤ (x11_2 : Int) := of_decide_eq_true (by first | (with_reducible assumption) | assumption)
                   have q735 : x11_2 < (t714.length : Int) := of_decide_eq_true (by first | (with_reducible assumption) | assumption)
                   obtain ⟨ad735, e735, hx735_0⟩ := Kd.zbk (Kd.zaF HO_6.out).2.2 x11_2 p735 q735
                   obtain rfl : ad730 = ad735 := (by injection e735)
                   replace p735 := eq_true p735
                   replace q735 := eq_true q735
                   go_wp2
                   go_meet
                   case rel => exact ⟨_, (decide ((rd t714 x11_2) < (wrap64 ((t704.length : Int) - 1)))), (by first | rfl | (simp; done) | (simp [*]; done)), H', ⟨by have := HJ6.out; have := HK2.out; have := HJ22.out; have := HK4.out; first | omega | exact Nat.le_refl _⟩, ⟨by (with_reducible repeat (first | apply Kd.zas | apply Kd.zat | apply Kd.zax)); exact HO_4.out⟩, ⟨by (with_reducible repeat (first | apply Kd.zO | apply Kd.zP | apply Kd.zN)); exact HO_5.out⟩, ⟨by (with_reducible repeat (first | apply Kd.zO | apply Kd.zP | apply Kd.zN)); exact HO_6.out⟩, ⟨by (with_reducible repeat (first | apply Kd.zO | apply Kd.zP | apply Kd.zN)); exact HO_8.out⟩, ⟨by repeat (first | (with_reducible first | exact HB.out | apply ze | apply zb | apply zf) | exact HB.out)⟩⟩
                  ·rw [if_neg c51] at H
                   have c51b0 : decide (0 ≤ (rd t714 x11_2)) = false := decide_eq_false c51
                   clear c51
                   have H' := za.mk H
                   clear H
                   have p734 : 0 ≤ (x11_2 : Int) := of_decide_eq_true (by first | (with_reducible assumption) | assumption)
                   have q734 : x11_2 < (t714.length : Int) := of_decide_eq_true (by first | (with_reducible assumption) | assumption)
                   obtain ⟨ad734, e734, hx734_0⟩ := Kd.zbk (Kd.zaF HO_6.out).2.2 x11_2 p734 q734
                   obtain rfl : ad730 = ad734 := (by injection e734)
                   replace p734 := eq_true p734
                   replace q734 := eq_true q734
                   go_wp2
                   go_meet
                   case rel => exact ⟨_, (false), (by first | rfl | (simp; done) | (simp [*]; done)), H', ⟨by have := HJ6.out; have := HK2.out; have := HJ22.out; have := HK4.out; first | omega | exact Nat.le_refl _⟩, ⟨by (with_reducible repeat (first | apply Kd.zas | apply Kd.zat | apply Kd.zax)); exact HO_4.out⟩, ⟨by (with_reducible repeat (first | apply Kd.zO | apply Kd.zP | apply Kd.zN)); exact HO_5.out⟩, ⟨by (with_reducible repeat (first | apply Kd.zO | apply Kd.zP | apply Kd.zN)); exact HO_6.out⟩, ⟨by (with_reducible repeat (first | apply Kd.zO | apply Kd.zP | apply Kd.zN)); exact HO_8.out⟩, ⟨by repeat (first | (with_reducible first | exact HB.out | apply ze | apply zb | apply zf) | exact HB.out)⟩⟩
                 ·rw [if_neg c50] at H
                  exact absurd H (by simp)
                ·rw [if_neg c49] at H
                 exact absurd H (by simp)
               case rest =>
                clear HC48
                try clear c2
                try clear p2
                try clear c3
                try clear c4
                try clear c5
                try clear p6
                try clear c7
                try clear p7
                try clear q7
                try clear hx7
                try clear c25
                try clear c30
                try clear c30b0
                try clear c31
                try clear c32
                try clear c33
                try clear c37
                try clear c38
                try clear c38b0
                try clear c39
                try clear c39b0
                try clear c40
                try clear c40b0
                try clear c41
                try clear c41b0
                try clear c42
                try clear c42b0
                try clear c43
                try clear c43b0
                try clear c45
                try clear c49
                try clear c49b0
                try clear c50
                try clear c50b0
                try clear c51
                try clear c51b0
                try clear hx723_0
                try clear hx724_0
                try clear hx725_0
                try clear hx726_0
                try clear hx727_0
                try clear hx728_0
                try clear hx730_0
                try clear hx731_0
                try clear hx732_0
                try clear hx734_0
                try clear hx735_0
                try clear p2
                try clear p6
                try clear p7
                try clear p723
                try clear p724
                try clear p725
                try clear p727
                try clear p728
                try clear p730
                try clear p731
                try clear p732
                try clear p734
                try clear p735
                try clear q7
                try clear q723
                try clear q724
                try clear q725
                try clear q727
                try clear q728
                try clear q730
                try clear q731
                try clear q732
                try clear q734
                try clear q735
                obtain ⟨kq, x127_47, rfl, HA, HJ47, HO_4, HO_5, HO_6, HO_8, HB⟩ := hcut
                cases kq with
                | zero => exact absurd HA.out (by simp [zh.j4])
                | succ kj47 =>
                 have H := HA.out
                 clear HA
                 simp only [zh.j4] at H
                 by_cases c52 : x127_47 = true
                 ·subst c52
                  have H1 : (if x10_2 ≥ (t718.length : Int) then (some false) else (if 0 ≤ x10_2 then (if x10_2 < (t718.length : Int) then (if (rd t718 x10_2) = x11_2 then (zh.l0 kj47 t704 t709 t714 t718 (wrap64 (x10_2 + 1)) (wrap64 (x11_2 + 1))) else (some false)) else (none)) else (none))) = some r := by rw [if_pos rfl] at H; exact H
                  clear H
                  have H := H1
                  clear H1
                  by_cases c53 : x10_2 ≥ (t718.length : Int)
                  ·rw [if_pos c53] at H
                   have c53b0 : decide ((t718.length : Int) ≤ x10_2) = true := decide_eq_true c53
                   clear c53
                   obtain rfl := Option.some.inj H
                   obtain ⟨Ao54, co54, eo54⟩ := Kd.za0 HO_8.out
                   subst eo54
                   go_wp2
                   go_ret
                   exact ⟨by first | rfl | (simp [zA, zz] <;> rfl) | (simp [*, zA, zz] <;> rfl), by repeat (first | (with_reducible first | exact HB.out | apply ze | apply zb | apply zf) | exact HB.out)⟩
                  ·rw [if_neg c53] at H
                   have c53b0 : decide ((t718.length : Int) ≤ x10_2) = false := decide_eq_false c53
                   clear c53
                   by_cases c55 : 0 ≤ x10_2
                   ·rw [if_pos c55] at H
                    have c55b0 : decide (0 ≤ x10_2) = true := decide_eq_true c55
                    clear c55
                    by_cases c56 : x10_2 < (t718.length : Int)
                    ·rw [if_pos c56] at H
                     have c56b0 : decide (x10_2 < (t718.length : Int)) = true := decide_eq_true c56
                     clear c56
                     by_cases c57 : (rd t718 x10_2) = x11_2
                     ·rw [if_pos c57] at H
                      have c57b0 : ((rd t718 x10_2) == x11_2) = true := beq_iff_eq.mpr c57
                      have c57b1 : ((rd t718 x10_2) != x11_2) = false := bne_eq_false_iff_eq.mpr c57
                      clear c57
                      have H' := za.mk H
                      clear H
                      obtain ⟨Ao58, co58, eo58⟩ := Kd.za0 HO_8.out
                      subst eo58
                      have p736 : 0 ≤ (x10_2 : Int) := of_decide_eq_true (by first | (with_reducible assumption) | assumption)
                      have q736 : x10_2 < (t718.length : Int) := of_decide_eq_true (by first | (with_reducible assumption) | assumption)
                      obtain ⟨ad736, e736, hx736_0⟩ := Kd.zbk (Kd.zaF HO_8.out).2.2 x10_2 p736 q736
                      cases e736
                      replace p736 := eq_true p736
                      replace q736 := eq_true q736
                      go_wp2
                      go_roundg kj47
                      case measure => have := HJ6.out; have := HK2.out; have := HJ22.out; have := HK4.out; have := HJ47.out; omega
                      case rel => exact ⟨(wrap64 (x10_2 + 1)), (wrap64 (x11_2 + 1)), (by first | rfl | (simp; done) | (simp [*]; done)), (by first | rfl | (simp; done) | (simp [*]; done)), H', ⟨by have := HJ6.out; have := HK2.out; have := HJ22.out; have := HK4.out; have := HJ47.out; omega⟩, ⟨by (with_reducible repeat (first | apply Kd.zas | apply Kd.zat | apply Kd.zax)); exact HO_4.out⟩, ⟨by (with_reducible repeat (first | apply Kd.zO | apply Kd.zP | apply Kd.zN)); exact HO_5.out⟩, ⟨by (with_reducible repeat (first | apply Kd.zO | apply Kd.zP | apply Kd.zN)); exact HO_6.out⟩, ⟨by (with_reducible repeat (first | apply Kd.zO | apply Kd.zP | apply Kd.zN)); exact HO_8.out⟩, ⟨by repeat (first | (with_reducible first | exact HB.out | apply ze | apply zb | apply zf) | exact HB.out)⟩⟩
                     ·rw [if_neg c57] at H
                      have c57b0 : ((rd t718 x10_2) == x11_2) = false := beq_eq_false_iff_ne.mpr c57
                      have c57b1 : ((rd t718 x10_2) != x11_2) = true := bne_iff_ne.mpr c57
                      obtain rfl := Option.some.inj H
                      obtain ⟨Ao59, co59, eo59⟩ := Kd.za0 HO_8.out
                      subst eo59
                      have p736 : 0 ≤ (x10_2 : Int) := of_decide_eq_true (by first | (with_reducible assumption) | assumption)
                      have q736 : x10_2 < (t718.length : Int) := of_decide_eq_true (by first | (with_reducible assumption) | assumption)
                      obtain ⟨ad736, e736, hx736_0⟩ := Kd.zbk (Kd.zaF HO_8.out).2.2 x10_2 p736 q736
                      cases e736
                      replace p736 := eq_true p736
                      replace q736 := eq_true q736
                      go_wp2
                      go_ret
                      exact ⟨by first | rfl | (simp [zA, zz] <;> rfl) | (simp [*, zA, zz] <;> rfl), by repeat (first | (with_reducible first | exact HB.out | apply ze | apply zb | apply zf) | exact HB.out)⟩
                    ·rw [if_neg c56] at H
                     exact absurd H (by simp)
                   ·rw [if_neg c55] at H
                    exact absurd H (by simp)
                 ·replace c52 := Bool.eq_false_iff.mpr c52
                  subst c52
                  have H1 : (zh.l0 kj47 t704 t709 t714 t718 x10_2 (wrap64 (x11_2 + 1))) = some r := by rw [if_neg (show ¬ (false = true) by decide)] at H; exact H
                  clear H
                  have H := H1
                  clear H1
                  have H' := za.mk H
                  clear H
                  go_wp2
                  go_roundg kj47
                  case measure => have := HJ6.out; have := HK2.out; have := HJ22.out; have := HK4.out; have := HJ47.out; omega
                  case rel => exact ⟨(x10_2), (wrap64 (x11_2 + 1)), (by first | rfl | (simp; done) | (simp [*]; done)), (by first | rfl | (simp; done) | (simp [*]; done)), H', ⟨by have := HJ6.out; have := HK2.out; have := HJ22.out; have := HK4.out; have := HJ47.out; omega⟩, ⟨by (with_reducible repeat (first | apply Kd.zas | apply Kd.zat | apply Kd.zax)); exact HO_4.out⟩, ⟨by (with_reducible repeat (first | apply Kd.zO | apply Kd.zP | apply Kd.zN)); exact HO_5.out⟩, ⟨by (with_reducible repeat (first | apply Kd.zO | apply Kd.zP | apply Kd.zN)); exact HO_6.out⟩, ⟨by (with_reducible repeat (first | apply Kd.zO | apply Kd.zP | apply Kd.zN)); exact HO_8.out⟩, ⟨by repeat (first | (with_reducible first | exact HB.out | apply ze | apply zb | apply zf) | exact HB.out)⟩⟩
           ·rw [if_neg c39] at H
            exact absurd H (by simp)
          ·rw [if_neg c38] at H
           exact absurd H (by simp)
      ·rw [if_neg c22] at H
       have c22b0 : decide (x11_2 < (t714.length : Int)) = false := decide_eq_false c22
       clear c22
       by_cases c60 : x10_2 = (t718.length : Int)
       ·rw [if_pos c60] at H
        have c60b0 : (x10_2 == (t718.length : Int)) = true := beq_iff_eq.mpr c60
        have c60b1 : (x10_2 != (t718.length : Int)) = false := bne_eq_false_iff_eq.mpr c60
        clear c60
        replace H := Option.bind_eq_some_iff.mp H
        obtain ⟨t722, A610, H⟩ := H
        replace H : (some t722) = some r := H
        have A61 := za.mk A610
        clear A610
        obtain rfl := Option.some.inj H
        obtain ⟨Ao62, co62, eo62⟩ := Kd.za0 HO_6.out
        subst eo62
        obtain ⟨Ao63, co63, eo63⟩ := Kd.za0 HO_8.out
        subst eo63
        go_wp2_with (first | (go_at_call 18; (with_reducible refine (zbj.calls  t722 _ A61.out).mono ?_); rintro e w64 ⟨rfl, hb⟩; have n0_ := za.mk (Kd.zdd (by (with_reducible repeat (first | apply Kd.zas | apply Kd.zat | apply Kd.zax)); exact HO_4.out) hb); have n1_ := za.mk (Kd.zM (by (with_reducible repeat (first | apply Kd.zO | apply Kd.zP | apply Kd.zN)); exact HO_5.out) hb); have n2_ := za.mk (Kd.zM (by (with_reducible repeat (first | apply Kd.zO | apply Kd.zP | apply Kd.zN)); exact HO_6.out) hb); have n3_ := za.mk (Kd.zM (by (with_reducible repeat (first | apply Kd.zO | apply Kd.zP | apply Kd.zN)); exact HO_8.out) hb); have n4_ := za.mk (zu (by repeat (first | (with_reducible first | exact HB.out | apply ze | apply zb | apply zf) | exact HB.out)) hb); clear HO_4; clear HO_5; clear HO_6; clear HO_8; clear HB; have HO_4 := n0_; have HO_5 := n1_; have HO_6 := n2_; have HO_8 := n3_; have HB := n4_; clear n0_ n1_ n2_ n3_ n4_; (try clear hb); (try clear hb2); (try clear hk); (try clear hi)))
        go_ret
        exact ⟨by first | rfl | (simp [zA, zz] <;> rfl) | (simp [*, zA, zz] <;> rfl), by repeat (first | (with_reducible first | exact HB.out | apply ze | apply zb | apply zf) | exact HB.out)⟩
       ·rw [if_neg c60] at H
        have c60b0 : (x10_2 == (t718.length : Int)) = false := beq_eq_false_iff_ne.mpr c60
        have c60b1 : (x10_2 != (t718.length : Int)) = true := bne_iff_ne.mpr c60
        obtain rfl := Option.some.inj H
        obtain ⟨Ao65, co65, eo65⟩ := Kd.za0 HO_6.out
        subst eo65
        obtain ⟨Ao66, co66, eo66⟩ := Kd.za0 HO_8.out
        subst eo66
        go_wp2
        go_ret
        exact ⟨by first | rfl | (simp [zA, zz] <;> rfl) | (simp [*, zA, zz] <;> rfl), by repeat (first | (with_reducible first | exact HB.out | apply ze | apply zb | apply zf) | exact HB.out)⟩
def zh.Pure : Prop := ∀ (l0 : List Int), l0.length ≤ maxLen → l0.length * 8 ≤ 140737488351232 → (∀ x ∈ l0, (Lit.int .i64 x).wf = true) → ∃ k, zh.f k l0 = some true
theorem zh.walk (P : zh.Pure) (a0 : Option Addr) (len0 cap0 : Nat) (z0 : List Int) (w : World) (w0 : (a0 = none ∧ len0 = 0 ∧ cap0 = 0 ∧ z0 = []) ∨ ∃ x, a0 = some x ∧ len0 ≤ cap0 ∧ cap0 ≤ maxLen ∧ z0.length = cap0 ∧ (∀ i, i < z0.length → w.cell? (x.add i) = some (.int .i64 (z0.getD i 0))) ∧ ∀ n ∈ z0, (Lit.int .i64 n).wf = true) (y0 : len0 * 8 ≤ 140737488351232) :
  Calls Try.prog 13 #[.slice a0 len0 cap0] w fun e w' => e = .returned (.bool true) ∧ Below w.heap.size w w' := by
 obtain ⟨l0, rfl, hr0, hm0, hw0, hc0⟩ := za3.zir w0
 obtain ⟨k, h⟩ := P l0 hm0 y0 hw0
 refine (zh.calls k _ _ l0 true w (Kd.zdP (d := (0 : Int)) (h1 := fun _ => rfl) hr0) hc0 h).mono ?_
 rintro e w' ⟨rfl, hd⟩
 exact ⟨rfl, hd⟩
theorem ziM : zbj.f = some true := rfl
theorem zey (ys : List (List ByteArray)) (p : List ByteArray) (os bs : List Int) (at_ : Int) (i : Nat) (hy : ys.length ≤ 4) (hp : ∀ q ∈ ys, q.length ≤ 1000) (hi : i < p.length) (hil : i < 1000) (x : ByteArray) (hx : p[i] = x) (r : Bool)
  (hlast : ∀ j : Nat, j < ys.length → (rd os i < (j : Int)) → x ∉ ys.getD j []) (hos : i < os.length)
  (hk : Ev (fun k => if rd os i ≥ 0 then (zh.j4 k ys p os bs at_ (i : Int) (decide (rd os i < wrap64 ((ys.length : Int) - 1)))) else (zh.j4 k ys p os bs at_ (i : Int) false)) r) :
  ∀ (m j : Nat), ys.length - j = m → j ≤ ys.length → rd os i < (j : Int) → Ev (fun k => zh.l1 k ys p os bs at_ (i : Int) (j : Int)) r
 | 0, j, h, hj, hr => by
  refine Ev.step (fun k => by rw [zh.l1]) ?_
  refine Ev.ifn (by omega) ?_
  refine Ev.ifp (by omega) ?_
  exact Ev.ifp (by omega) hk
 | m + 1, j, h, hj, hr => by
  have hlt : j < ys.length := by omega
  have hm : ys.getD j [] ∈ ys := by rw [List.getD_eq_getElem?_getD, List.getElem?_eq_getElem hlt, Option.getD_some]; exact List.getElem_mem _
  have r1 : za8 ys (j : Int) = ys.getD j [] := by simp [za8]
  have r2 : zaJ ByteArray.empty p (i : Int) = x := by simp [zaJ, hi, hx]
  have hw : wrap64 ((j : Int) + 1) = ((j + 1 : Nat) : Int) := by rw [zbL (by omega) (by omega)]; omega
  refine Ev.step (fun k => by rw [zh.l1]) ?_
  refine Ev.ifp (by omega) ?_
  refine Ev.ifp (by omega) ?_
  refine Ev.ifp (by omega) ?_
  refine Ev.ifp (by omega) ?_
  refine Ev.be (zhD _ _ (by rw [r1]; exact hp _ hm)) ?_
  refine Ev.ifn ?_ ?_
  ·rw [r1, r2, decide_eq_false (hlast j hlt hr)]; decide
  ·rw [hw]
   exact zey ys p os bs at_ i hy hp hi hil x hx r hlast hos hk m (j + 1) (by omega) (by omega) (by omega)
theorem zdQ (ys : List (List ByteArray)) (p : List ByteArray) (hy : ys.length ≤ 4) (hp : ∀ q ∈ ys, q.length ≤ 1000) (hl : p.length ≤ 6) (os bs : List Int) (hol : os.length = p.length) (hos : ∀ (i : Nat) (h : i < p.length), rd os (i : Int) = zbD ys p[i] ys.length) : ∀ (m i : Nat) (pre : List Int), p.length - i = m → i ≤ p.length → bs = pre ++ zbT ys i (p.drop i) → bs.length ≤ 1000 →
  Ev (fun k => zh.l0 k ys p os bs (pre.length : Int) (i : Int)) true
 | 0, i, pre, h, hi, hb, hbl => by
  rw [List.drop_eq_nil_of_le (by omega), zbT, List.append_nil] at hb
  refine Ev.step (fun k => by rw [zh.l0]) ?_
  refine Ev.ifn (by omega) ?_
  refine Ev.ifp (by rw [hb]) ?_
  exact Ev.bs ziM (Ev.now _)
 | m + 1, i, pre, h, hi, hb, hbl => by
  have hlt : i < p.length := by omega
  obtain ⟨x, hx⟩ : ∃ x, p[i] = x := ⟨_, rfl⟩
  have ho := zfD ys x ys.length
  have hh := zff ys x ys.length
  have hla := zeM ys x ys.length
  have r1 := hos i hlt
  rw [hx] at r1
  have hbk : zdt ys x ↔ 0 ≤ zbD ys x ys.length ∧ zbD ys x ys.length < (ys.length : Int) - 1 := Iff.rfl
  obtain ⟨o, ho'⟩ : ∃ o, zbD ys x ys.length = o := ⟨_, rfl⟩
  rw [ho'] at ho hh hla r1 hbk
  clear ho'
  have r2 : zaJ ByteArray.empty p (i : Int) = x := by simp [zaJ, hlt, hx]
  have hil : i ≤ 1000000 := by omega
  have hw2 : wrap64 ((ys.length : Int) - 1) = (ys.length : Int) - 1 := zbL (by omega) (by omega)
  rw [List.drop_eq_getElem_cons hlt, zbT, hx] at hb
  have H4 : Ev (fun k => if rd os i ≥ 0 then (zh.j4 k ys p os bs (pre.length : Int) (i : Int) (decide (rd os i < wrap64 ((ys.length : Int) - 1)))) else (zh.j4 k ys p os bs (pre.length : Int) (i : Int) false)) true := by
   rw [r1, hw2]
   by_cases hc : zdt ys x
   ·rw [if_pos hc] at hb
    have hlen : pre.length < bs.length := by rw [hb]; simp
    have r3 : rd bs (pre.length : Int) = (i : Int) := by simp [rd, hb]
    have hpl : pre.length ≤ 1000000 := by omega
    have hpl2 : ¬ ((pre.length : Int) ≥ (bs.length : Int)) := by omega
    have hpl3 : (pre.length : Int) < (bs.length : Int) := by omega
    have hpl4 : (0 : Int) ≤ (pre.length : Int) := by omega
    refine Ev.ifp (hbk.1 hc).1 ?_
    rw [decide_eq_true (hbk.1 hc).2]
    refine Ev.step (fun k => by rw [zh.j4]) ?_
    refine Ev.ifp rfl ?_
    refine Ev.ifn hpl2 ?_
    refine Ev.ifp hpl4 ?_
    refine Ev.ifp hpl3 ?_
    refine Ev.ifp r3 ?_
    rw [zdZ _ hpl, zdZ _ hil]
    have := zdQ ys p hy hp hl os bs hol hos m (i + 1) (pre ++ [(i : Int)]) (by omega) (by omega) (by rw [hb, List.append_assoc, List.singleton_append]) hbl
    rw [show (pre ++ [(i : Int)]).length = pre.length + 1 by simp] at this
    exact this
   ·rw [if_neg hc] at hb
    have h0 : Ev (fun k => zh.j4 k ys p os bs (pre.length : Int) (i : Int) false) true := by
     refine Ev.step (fun k => by rw [zh.j4]) ?_
     refine Ev.ifn Bool.false_ne_true ?_
     rw [zdZ _ hil]
     exact zdQ ys p hy hp hl os bs hol hos m (i + 1) pre (by omega) (by omega) hb hbl
    by_cases h1 : o ≥ 0
    ·refine Ev.ifp h1 ?_
     rw [decide_eq_false (fun h2 => hc (hbk.2 ⟨h1, h2⟩))]
     exact h0
    ·exact Ev.ifn h1 h0
  refine Ev.step (fun k => by rw [zh.l0]) ?_
  refine Ev.ifp (by omega) ?_
  refine Ev.ifp (by omega) ?_
  have H1 : Ev (fun k => zh.j2 k ys p os bs (pre.length : Int) (i : Int) false) true := by
   refine Ev.step (fun k => by rw [zh.j2]) ?_
   refine Ev.ifn Bool.false_ne_true ?_
   refine Ev.ifp (by omega) ?_
   refine Ev.ifp (by omega) ?_
   have e : wrap64 (rd os (i : Int) + 1) = ((o + 1).toNat : Int) := by
    rw [r1, zbL (by omega) (by omega)]; omega
   rw [e]
   refine zey ys p _ bs _ i hy hp hlt (by omega) x hx true ?_ (by omega) H4 _ _ rfl (by omega) (by rw [r1]; omega)
   intro j hj hr
   rw [r1] at hr
   exact hla j hj hr
  rw [r1]
  refine Ev.ifn (by omega) ?_
  refine Ev.ifn (by omega) ?_
  by_cases h0 : o ≥ 0
  ·refine Ev.ifp h0 ?_
   refine Ev.ifp h0 ?_
   refine Ev.ifp (by omega) ?_
   refine Ev.ifp (by omega) ?_
   have r4 : za8 ys (o) = ys.getD (o).toNat [] := rfl
   have hm : ys.getD (o).toNat [] ∈ ys := by rw [List.getD_eq_getElem?_getD, List.getElem?_eq_getElem (by omega), Option.getD_some]; exact List.getElem_mem _
   refine Ev.be (zhD _ _ (by rw [r4]; exact hp _ hm)) ?_
   rw [r4, r2, decide_eq_true (hh h0)]
   exact H1
  ·exact Ev.ifn h0 H1
theorem zfT : zh.Pure := by
 intro l0 _ hl _
 have hl' : l0.length ≤ 17592186044416 := by omega
 refine Ev.rounds (g := fun k => zh.f k l0) ?_
 obtain ⟨ys, t1, t2, h1, h2, h3, h4⟩ := zhl l0 hl' 0 11400714819323198485 (Int.le_refl _) 4 (by decide)
 obtain ⟨p, u1, u2, g1, g2, g3, g4⟩ := zeW l0 t1 t2 h4 hl' 6 (by decide) 200 (by decide)
 have hp : ∀ q ∈ ys, q.length ≤ 1000 := fun q hq => Nat.le_trans (h3 q hq).1 (by omega)
 have hb := zd1 ys p 0
 unfold zh.f zbs.f
 refine Ev.bs rfl ?_
 refine Ev.be h1 ?_
 refine Ev.be (Ev.of (zI.mono _ _ _ _) g1) ?_
 refine Ev.be (zgn ys p h2 h3 ⟨g2, g3⟩) ?_
 refine Ev.be (zh3 ys p h2 h3 ⟨g2, g3⟩) ?_
 refine Ev.ifp rfl ?_
 refine Ev.ifp rfl ?_
 refine Ev.ifp (by simp) ?_
 rw [decide_eq_false (by dsimp only; omega)]
 refine Ev.step (fun k => by rw [zh.j0]) ?_
 refine Ev.ifn Bool.false_ne_true ?_
 exact zdQ ys p h2 hp g2 _ _ (by simp) (fun i h => by simp [rd, h]) p.length 0 [] (by omega) (by omega) (by simp) (Nat.le_trans hb (by omega))
end Go.Proofs.Ytgmbbfmbimofoaa.P
