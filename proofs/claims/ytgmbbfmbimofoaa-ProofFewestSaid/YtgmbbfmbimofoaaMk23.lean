-- MERGED BY A PROGRAM out of texts of this claim: hand work, and what a (turned) print of the kit has written for it
import Derived.Outline
import Derived.Test.YtgmbbfmbimofoaaMk22
import Derived.Test.YtgmbbfmbimofoaaMk8
import Derived.Test.YtgmbbfmbimofoaaMk18
import Derived.Test.YtgmbbfmbimofoaaMk5
import Derived.Test.YtgmbbfmbimofoaaMk6
import Derived.Test.YtgmbbfmbimofoaaMk21
namespace Go.Proofs.Ytgmbbfmbimofoaa.P
open Go.RowKit Go.Proofs.YtgmbbfmbimofoaaW.PrintWords Go.Proofs.YtgmbbfmbimofoaaW.PrintLast Go.Proofs.YtgmbbfmbimofoaaW.PrintMore
attribute [local go_sem] zH zI zP zO zC zB zJ zK
set_option linter.unusedVariables false
set_option linter.unusedSimpArgs false
def zdl : ByteArray := ⟨#[97,110,110,97]⟩
def zex : ByteArray := ⟨#[98,101,110]⟩
def zic : ByteArray := ⟨#[99,121,100]⟩
def zf5 : ByteArray := ⟨#[98,101,97]⟩
def zf2 : ByteArray := ⟨#[99,105,100]⟩
def zid : ByteArray := ⟨#[100,97,110]⟩
def zjr : ByteArray := ⟨#[97,98,101]⟩
def zds : List ByteArray := [zdl,zex,zic]
def zda : List S63 := [⟨1,1,zf5⟩,⟨2,2,zf2⟩]
def zeI : List (List ByteArray) := [[zdl,zex],[zdl,zic]]
theorem zhM : zci.f 100 zds zda = some ([zdl,zf5,zex,zf2],0) := by kernel_rfl
theorem zg1 : zaW.f 100 zeI [zdl,zex,zid] = some ([1,0, -1],0) := by kernel_rfl
theorem ziS : zaA.f 100 [zdl,zf5,zex,zf2] [zdl,zf5,zex,zf2] = some true := by kernel_rfl
theorem zhx : zcj.f zds [⟨1,0,zjr⟩,⟨3,1,⟨#[]⟩⟩,⟨3,2,⟨#[]⟩⟩] 3 = some ([1,0,2],0) := by kernel_rfl
theorem ziJ : zae.f 100 zda zda = some true := by kernel_rfl
theorem zh6 : zaz.f 100 [1,0,2] [1,0,2] = some true := by kernel_rfl
theorem zia : zaz.f 100 [1,0, -1] [1,0, -1] = some true := by kernel_rfl
theorem zib : zbS.f 100 zds [zdl,zf5,zex,zf2] = some (zda,0) := by kernel_rfl
theorem zh4 : zdk.f 100 zeI [⟨1,2,zid⟩] [zdl,zic,zex,zid] = some (2,2,0) := by kernel_rfl
set_option maxHeartbeats 4000000 in
set_option maxRecDepth 100000 in
theorem ze7 (w : World) : Calls Try.prog 18 #[] w fun e w' => e = .returned (.bool true) ∧ Below w.heap.size w w' := by
 go_enter Try.func18,Try.ntmps18
 have HB := za.mk (Below.refl w.heap.size w)
 go_wp2_with fail
 refine (zbz.calls zds _ rfl).mono ?_
 rintro e w1 ⟨v1,rfl,hR1,hb1⟩
 replace HB := za.mk (zo HB.out hb1)
 obtain ⟨A1,c1,rfl,_,_⟩ := Kd.zak hR1
 have F1 := za.mk hR1
 clear hR1 hb1
 go_wp2_with fail
 refine (zbN.calls zda _ rfl).mono ?_
 rintro e w2 ⟨v2,rfl,hR2,hb2⟩
 replace HB := za.mk (zo HB.out hb2)
 replace F1 := za.mk (Kd.zD F1.out hb2)
 obtain ⟨A2,c2,rfl,_,_⟩ := Kd.zak hR2
 have F2 := za.mk hR2
 clear hR2 hb2
 go_wp2_with fail
 refine (zci.calls 100 _ _ zds _ _ zda [⟨#[97,110,110,97]⟩,⟨#[98,101,97]⟩,⟨#[98,101,110]⟩,⟨#[99,105,100]⟩] 0 _ (zaK F1.out).1 (zaK F1.out).2 (zaK F2.out).1 (zaK F2.out).2 zhM).mono ?_
 rintro e w3 ⟨v3,rfl,hR3,hb3⟩
 replace HB := za.mk (zo HB.out hb3)
 replace F1 := za.mk (Kd.zD F1.out hb3)
 replace F2 := za.mk (Kd.zD F2.out hb3)
 obtain ⟨A3,c3,rfl,_,_⟩ := Kd.zak hR3
 have F3 := za.mk hR3
 clear hR3 hb3
 clear F1 F2
 go_wp2_with fail
 refine (zbz.calls zds _ rfl).mono ?_
 rintro e w4 ⟨v4,rfl,hR4,hb4⟩
 replace HB := za.mk (zo HB.out hb4)
 replace F3 := za.mk (Kd.zD F3.out hb4)
 obtain ⟨A4,c4,rfl,_,_⟩ := Kd.zak hR4
 have F4 := za.mk hR4
 clear hR4 hb4
 go_wp2_with fail
 have hbx := ze (Below.refl w4.heap.size w4) (.cells #[.string ⟨#[97,110,110,97]⟩, .string ⟨#[98,101,97]⟩, .string ⟨#[98,101,110]⟩, .string ⟨#[99,105,100]⟩] 9)
 have X1 := za.mk (heap_alloc_new w4 (.cells #[.string ⟨#[97,110,110,97]⟩, .string ⟨#[98,101,97]⟩, .string ⟨#[98,101,110]⟩, .string ⟨#[99,105,100]⟩] 9))
 replace HB := za.mk (zo HB.out hbx)
 replace F3 := za.mk (Kd.zD F3.out hbx)
 replace F4 := za.mk (Kd.zD F4.out hbx)
 obtain ⟨u4,hu⟩ : ∃ u_,w4.alloc (.cells #[.string ⟨#[97,110,110,97]⟩, .string ⟨#[98,101,97]⟩, .string ⟨#[98,101,110]⟩, .string ⟨#[99,105,100]⟩] 9) = u_ := ⟨_,rfl⟩
 rw [hu] at F3 F4 X1 HB ⊢
 clear hu hbx
 refine (zbS.calls 100 _ _ zds _ _ [⟨#[97,110,110,97]⟩,⟨#[98,101,97]⟩,⟨#[98,101,110]⟩,⟨#[99,105,100]⟩] zda 0 _ (zaK F4.out).1 (zaK F4.out).2 (zfi X1.out rfl qq) qq zib).mono ?_
 rintro e w5 ⟨v5,rfl,hR5,hb5⟩
 replace HB := za.mk (zo HB.out hb5)
 replace F3 := za.mk (Kd.zD F3.out hb5)
 replace F4 := za.mk (Kd.zD F4.out hb5)
 replace X1 := za.mk (zu X1.out hb5)
 obtain ⟨A5,c5,rfl,_,_⟩ := Kd.zak hR5
 have F5 := za.mk hR5
 clear hR5 hb5
 clear F4 X1
 go_wp2_with fail
 refine (zbz.calls zds _ rfl).mono ?_
 rintro e w6 ⟨v6,rfl,hR6,hb6⟩
 replace HB := za.mk (zo HB.out hb6)
 replace F3 := za.mk (Kd.zD F3.out hb6)
 replace F5 := za.mk (Kd.zD F5.out hb6)
 obtain ⟨A6,c6,rfl,_,_⟩ := Kd.zak hR6
 have F6 := za.mk hR6
 clear hR6 hb6
 go_wp2_with fail
 refine (za3.calls 0 ⟨#[97,98,101]⟩ 1 0 ⟨#[97,98,101]⟩ _ rfl).mono ?_
 rintro e w7 ⟨rfl,hb7⟩
 replace HB := za.mk (zo HB.out hb7)
 replace F3 := za.mk (Kd.zD F3.out hb7)
 replace F5 := za.mk (Kd.zD F5.out hb7)
 replace F6 := za.mk (Kd.zD F6.out hb7)
 clear hb7
 go_wp2_with fail
 refine (zbs.calls 1 3 1 ⟨#[]⟩ _ rfl).mono ?_
 rintro e w8 ⟨rfl,hb8⟩
 replace HB := za.mk (zo HB.out hb8)
 replace F3 := za.mk (Kd.zD F3.out hb8)
 replace F5 := za.mk (Kd.zD F5.out hb8)
 replace F6 := za.mk (Kd.zD F6.out hb8)
 clear hb8
 go_wp2_with fail
 refine (zbs.calls 2 3 2 ⟨#[]⟩ _ rfl).mono ?_
 rintro e w9 ⟨rfl,hb9⟩
 replace HB := za.mk (zo HB.out hb9)
 replace F3 := za.mk (Kd.zD F3.out hb9)
 replace F5 := za.mk (Kd.zD F5.out hb9)
 replace F6 := za.mk (Kd.zD F6.out hb9)
 clear hb9
 go_wp2_with fail
 have hbx := ze (Below.refl w9.heap.size w9) (.cells #[.int .i64 1, .int .i64 0, .string ⟨#[97,98,101]⟩, .int .i64 3, .int .i64 1, .string ⟨#[]⟩, .int .i64 3, .int .i64 2, .string ⟨#[]⟩] 63)
 have X2 := za.mk (heap_alloc_new w9 (.cells #[.int .i64 1, .int .i64 0, .string ⟨#[97,98,101]⟩, .int .i64 3, .int .i64 1, .string ⟨#[]⟩, .int .i64 3, .int .i64 2, .string ⟨#[]⟩] 63))
 replace HB := za.mk (zo HB.out hbx)
 replace F3 := za.mk (Kd.zD F3.out hbx)
 replace F5 := za.mk (Kd.zD F5.out hbx)
 replace F6 := za.mk (Kd.zD F6.out hbx)
 obtain ⟨u9,hu⟩ : ∃ u_,w9.alloc (.cells #[.int .i64 1, .int .i64 0, .string ⟨#[97,98,101]⟩, .int .i64 3, .int .i64 1, .string ⟨#[]⟩, .int .i64 3, .int .i64 2, .string ⟨#[]⟩] 63) = u_ := ⟨_,rfl⟩
 rw [hu] at F3 F5 F6 X2 HB ⊢
 clear hu hbx
 refine (zcj.calls _ _ zds _ _ [⟨1,0,⟨#[97,98,101]⟩⟩,⟨3,1,⟨#[]⟩⟩,⟨3,2,⟨#[]⟩⟩] 3 [1,0,2] 0 _ (zaK F6.out).1 (zaK F6.out).2 (zgG X2.out rfl qq) qq zhx).mono ?_
 rintro e w10 ⟨v10,rfl,hR10,hb10⟩
 replace HB := za.mk (zo HB.out hb10)
 replace F3 := za.mk (Kd.zD F3.out hb10)
 replace F5 := za.mk (Kd.zD F5.out hb10)
 replace F6 := za.mk (Kd.zD F6.out hb10)
 replace X2 := za.mk (zu X2.out hb10)
 obtain ⟨A10,c10,rfl,_,_⟩ := Kd.zak hR10
 have F7 := za.mk hR10
 clear hR10 hb10
 clear F6 X2
 go_wp2_with fail
 refine (zbO.calls zeI _ rfl).mono ?_
 rintro e w11 ⟨v11,rfl,hR11,hb11⟩
 replace HB := za.mk (zo HB.out hb11)
 replace F3 := za.mk (Kd.zD F3.out hb11)
 replace F5 := za.mk (Kd.zD F5.out hb11)
 replace F7 := za.mk (Kd.zD F7.out hb11)
 obtain ⟨A11,c11,rfl,_,_⟩ := Kd.zgE hR11
 have F8 := za.mk hR11
 clear hR11 hb11
 go_wp2_with fail
 have hbx := ze (Below.refl w11.heap.size w11) (.cells #[.string ⟨#[97,110,110,97]⟩, .string ⟨#[98,101,110]⟩, .string ⟨#[100,97,110]⟩] 9)
 have X3 := za.mk (heap_alloc_new w11 (.cells #[.string ⟨#[97,110,110,97]⟩, .string ⟨#[98,101,110]⟩, .string ⟨#[100,97,110]⟩] 9))
 replace HB := za.mk (zo HB.out hbx)
 replace F3 := za.mk (Kd.zD F3.out hbx)
 replace F5 := za.mk (Kd.zD F5.out hbx)
 replace F7 := za.mk (Kd.zD F7.out hbx)
 replace F8 := za.mk (Kd.zcE F8.out hbx)
 obtain ⟨u11,hu⟩ : ∃ u_,w11.alloc (.cells #[.string ⟨#[97,110,110,97]⟩, .string ⟨#[98,101,110]⟩, .string ⟨#[100,97,110]⟩] 9) = u_ := ⟨_,rfl⟩
 rw [hu] at F3 F5 F7 F8 X3 HB ⊢
 clear hu hbx
 refine (zaW.calls 100 _ _ zeI _ _ [⟨#[97,110,110,97]⟩,⟨#[98,101,110]⟩,⟨#[100,97,110]⟩] [1,0, -1] 0 _ (Kd.zdF F8.out).2.2 (Kd.zdF F8.out).2.1 (zfi X3.out rfl qq) qq zg1).mono ?_
 rintro e w12 ⟨v12,rfl,hR12,hb12⟩
 replace HB := za.mk (zo HB.out hb12)
 replace F3 := za.mk (Kd.zD F3.out hb12)
 replace F5 := za.mk (Kd.zD F5.out hb12)
 replace F7 := za.mk (Kd.zD F7.out hb12)
 replace F8 := za.mk (Kd.zcE F8.out hb12)
 replace X3 := za.mk (zu X3.out hb12)
 obtain ⟨A12,c12,rfl,_,_⟩ := Kd.zak hR12
 have F9 := za.mk hR12
 clear hR12 hb12
 clear F8 X3
 go_wp2_with fail
 refine (zbO.calls zeI _ rfl).mono ?_
 rintro e w13 ⟨v13,rfl,hR13,hb13⟩
 replace HB := za.mk (zo HB.out hb13)
 replace F3 := za.mk (Kd.zD F3.out hb13)
 replace F5 := za.mk (Kd.zD F5.out hb13)
 replace F7 := za.mk (Kd.zD F7.out hb13)
 replace F9 := za.mk (Kd.zD F9.out hb13)
 obtain ⟨A13,c13,rfl,_,_⟩ := Kd.zgE hR13
 have F10 := za.mk hR13
 clear hR13 hb13
 go_wp2_with fail
 refine (za3.calls 2 ⟨#[100,97,110]⟩ 1 2 ⟨#[100,97,110]⟩ _ rfl).mono ?_
 rintro e w14 ⟨rfl,hb14⟩
 replace HB := za.mk (zo HB.out hb14)
 replace F3 := za.mk (Kd.zD F3.out hb14)
 replace F5 := za.mk (Kd.zD F5.out hb14)
 replace F7 := za.mk (Kd.zD F7.out hb14)
 replace F9 := za.mk (Kd.zD F9.out hb14)
 replace F10 := za.mk (Kd.zcE F10.out hb14)
 clear hb14
 go_wp2_with fail
 have hbx := ze (Below.refl w14.heap.size w14) (.cells #[.int .i64 1, .int .i64 2, .string ⟨#[100,97,110]⟩] 63)
 have X4 := za.mk (heap_alloc_new w14 (.cells #[.int .i64 1, .int .i64 2, .string ⟨#[100,97,110]⟩] 63))
 replace HB := za.mk (zo HB.out hbx)
 replace F3 := za.mk (Kd.zD F3.out hbx)
 replace F5 := za.mk (Kd.zD F5.out hbx)
 replace F7 := za.mk (Kd.zD F7.out hbx)
 replace F9 := za.mk (Kd.zD F9.out hbx)
 replace F10 := za.mk (Kd.zcE F10.out hbx)
 have e4 : (w14.alloc (.cells #[.int .i64 1, .int .i64 2, .string ⟨#[100,97,110]⟩] 63)).heap.size = w14.heap.size + 1 := Array.size_push _
 have hby := ze (Below.refl _ (w14.alloc (.cells #[.int .i64 1, .int .i64 2, .string ⟨#[100,97,110]⟩] 63))) (.cells #[.string ⟨#[97,110,110,97]⟩, .string ⟨#[99,121,100]⟩, .string ⟨#[98,101,110]⟩, .string ⟨#[100,97,110]⟩] 9)
 have X5 := za.mk (heap_alloc_new (w14.alloc (.cells #[.int .i64 1, .int .i64 2, .string ⟨#[100,97,110]⟩] 63)) (.cells #[.string ⟨#[97,110,110,97]⟩, .string ⟨#[99,121,100]⟩, .string ⟨#[98,101,110]⟩, .string ⟨#[100,97,110]⟩] 9))
 rw [e4] at X5
 replace HB := za.mk (zo HB.out hby)
 replace F3 := za.mk (Kd.zD F3.out hby)
 replace F5 := za.mk (Kd.zD F5.out hby)
 replace F7 := za.mk (Kd.zD F7.out hby)
 replace F9 := za.mk (Kd.zD F9.out hby)
 replace F10 := za.mk (Kd.zcE F10.out hby)
 replace X4 := za.mk (zu X4.out hby)
 obtain ⟨u14,hu⟩ : ∃ u_,(w14.alloc (.cells #[.int .i64 1, .int .i64 2, .string ⟨#[100,97,110]⟩] 63)).alloc (.cells #[.string ⟨#[97,110,110,97]⟩, .string ⟨#[99,121,100]⟩, .string ⟨#[98,101,110]⟩, .string ⟨#[100,97,110]⟩] 9) = u_ := ⟨_,rfl⟩
 rw [hu] at F3 F5 F7 F9 F10 X4 X5 HB ⊢
 clear hu hbx hby e4
 refine (zdk.calls 100 _ _ zeI _ _ [⟨1,2,⟨#[100,97,110]⟩⟩] _ _ [⟨#[97,110,110,97]⟩,⟨#[99,121,100]⟩,⟨#[98,101,110]⟩,⟨#[100,97,110]⟩] 2 2 0 _ (Kd.zdF F10.out).2.2 (Kd.zdF F10.out).2.1 (zgG X4.out rfl qq) qq (zfi X5.out rfl qq) qq zh4).mono ?_
 rintro e w15 ⟨rfl,hb15⟩
 replace HB := za.mk (zo HB.out hb15)
 replace F3 := za.mk (Kd.zD F3.out hb15)
 replace F5 := za.mk (Kd.zD F5.out hb15)
 replace F7 := za.mk (Kd.zD F7.out hb15)
 replace F9 := za.mk (Kd.zD F9.out hb15)
 replace F10 := za.mk (Kd.zcE F10.out hb15)
 replace X4 := za.mk (zu X4.out hb15)
 replace X5 := za.mk (zu X5.out hb15)
 clear hb15
 clear F10 X4 X5
 go_wp2_with fail
 have hbx := ze (Below.refl w15.heap.size w15) (.cells #[.int .i64 2, .int .i64 2] 54)
 replace HB := za.mk (zo HB.out hbx)
 replace F3 := za.mk (Kd.zD F3.out hbx)
 replace F5 := za.mk (Kd.zD F5.out hbx)
 replace F7 := za.mk (Kd.zD F7.out hbx)
 replace F9 := za.mk (Kd.zD F9.out hbx)
 have e4 : (w15.alloc (.cells #[.int .i64 2, .int .i64 2] 54)).heap.size = w15.heap.size + 1 := Array.size_push _
 have hby := ze (Below.refl _ (w15.alloc (.cells #[.int .i64 2, .int .i64 2] 54))) (.cells #[.string ⟨#[97,110,110,97]⟩, .string ⟨#[98,101,97]⟩, .string ⟨#[98,101,110]⟩, .string ⟨#[99,105,100]⟩] 9)
 have X6 := za.mk (heap_alloc_new (w15.alloc (.cells #[.int .i64 2, .int .i64 2] 54)) (.cells #[.string ⟨#[97,110,110,97]⟩, .string ⟨#[98,101,97]⟩, .string ⟨#[98,101,110]⟩, .string ⟨#[99,105,100]⟩] 9))
 rw [e4] at X6
 replace HB := za.mk (zo HB.out hby)
 replace F3 := za.mk (Kd.zD F3.out hby)
 replace F5 := za.mk (Kd.zD F5.out hby)
 replace F7 := za.mk (Kd.zD F7.out hby)
 replace F9 := za.mk (Kd.zD F9.out hby)
 obtain ⟨u15,hu⟩ : ∃ u_,(w15.alloc (.cells #[.int .i64 2, .int .i64 2] 54)).alloc (.cells #[.string ⟨#[97,110,110,97]⟩, .string ⟨#[98,101,97]⟩, .string ⟨#[98,101,110]⟩, .string ⟨#[99,105,100]⟩] 9) = u_ := ⟨_,rfl⟩
 rw [hu] at F3 F5 F7 F9 X6 HB ⊢
 clear hu hbx hby e4
 refine (zaA.calls 100 _ _ [⟨#[97,110,110,97]⟩,⟨#[98,101,97]⟩,⟨#[98,101,110]⟩,⟨#[99,105,100]⟩] _ _ [⟨#[97,110,110,97]⟩,⟨#[98,101,97]⟩,⟨#[98,101,110]⟩,⟨#[99,105,100]⟩] true _ (zaK F3.out).1 (zaK F3.out).2 (zfi X6.out rfl qq) qq ziS).mono ?_
 rintro e w16 ⟨rfl,nd16,hw16⟩
 have hb16 : Below u15.heap.size u15 w16 := by rw [hw16]; exact zb (Below.refl _ _) _
 clear hw16
 replace HB := za.mk (zo HB.out hb16)
 replace F3 := za.mk (Kd.zD F3.out hb16)
 replace F5 := za.mk (Kd.zD F5.out hb16)
 replace F7 := za.mk (Kd.zD F7.out hb16)
 replace F9 := za.mk (Kd.zD F9.out hb16)
 replace X6 := za.mk (zu X6.out hb16)
 clear hb16
 clear F3 X6
 go_wp2_with fail
 refine (zbN.calls zda _ rfl).mono ?_
 rintro e w17 ⟨v17,rfl,hR17,hb17⟩
 replace HB := za.mk (zo HB.out hb17)
 replace F5 := za.mk (Kd.zD F5.out hb17)
 replace F7 := za.mk (Kd.zD F7.out hb17)
 replace F9 := za.mk (Kd.zD F9.out hb17)
 obtain ⟨A17,c17,rfl,_,_⟩ := Kd.zak hR17
 have F11 := za.mk hR17
 clear hR17 hb17
 go_wp2_with fail
 refine (zae.calls 100 _ _ zda _ _ zda true _ (zaK F5.out).1 (zaK F5.out).2 (zaK F11.out).1 (zaK F11.out).2 ziJ).mono ?_
 rintro e w18 ⟨rfl,nd18,hw18⟩
 have hb18 : Below w17.heap.size w17 w18 := by rw [hw18]; exact zb (Below.refl _ _) _
 clear hw18
 replace HB := za.mk (zo HB.out hb18)
 replace F5 := za.mk (Kd.zD F5.out hb18)
 replace F7 := za.mk (Kd.zD F7.out hb18)
 replace F9 := za.mk (Kd.zD F9.out hb18)
 replace F11 := za.mk (Kd.zD F11.out hb18)
 clear hb18
 clear F5 F11
 go_wp2_with fail
 have hbx := ze (Below.refl w18.heap.size w18) (.cells #[.int .i64 1, .int .i64 0, .int .i64 2] 3)
 have X7 := za.mk (heap_alloc_new w18 (.cells #[.int .i64 1, .int .i64 0, .int .i64 2] 3))
 replace HB := za.mk (zo HB.out hbx)
 replace F7 := za.mk (Kd.zD F7.out hbx)
 replace F9 := za.mk (Kd.zD F9.out hbx)
 obtain ⟨u18,hu⟩ : ∃ u_,w18.alloc (.cells #[.int .i64 1, .int .i64 0, .int .i64 2] 3) = u_ := ⟨_,rfl⟩
 rw [hu] at F7 F9 X7 HB ⊢
 clear hu hbx
 refine (zaz.calls 100 _ _ [1,0,2] _ _ [1,0,2] true _ (zaK F7.out).1 (zaK F7.out).2 (zhh X7.out rfl qq) qq zh6).mono ?_
 rintro e w19 ⟨rfl,nd19,hw19⟩
 have hb19 : Below u18.heap.size u18 w19 := by rw [hw19]; exact zb (Below.refl _ _) _
 clear hw19
 replace HB := za.mk (zo HB.out hb19)
 replace F7 := za.mk (Kd.zD F7.out hb19)
 replace F9 := za.mk (Kd.zD F9.out hb19)
 replace X7 := za.mk (zu X7.out hb19)
 clear hb19
 clear F7 X7
 go_wp2_with fail
 have hbx := ze (Below.refl w19.heap.size w19) (.cells #[.int .i64 1, .int .i64 0, .int .i64 (-1)] 3)
 have X8 := za.mk (heap_alloc_new w19 (.cells #[.int .i64 1, .int .i64 0, .int .i64 (-1)] 3))
 replace HB := za.mk (zo HB.out hbx)
 replace F9 := za.mk (Kd.zD F9.out hbx)
 obtain ⟨u19,hu⟩ : ∃ u_,w19.alloc (.cells #[.int .i64 1, .int .i64 0, .int .i64 (-1)] 3) = u_ := ⟨_,rfl⟩
 rw [hu] at F9 X8 HB ⊢
 clear hu hbx
 refine (zaz.calls 100 _ _ [1,0, -1] _ _ [1,0, -1] true _ (zaK F9.out).1 (zaK F9.out).2 (zhh X8.out rfl qq) qq zia).mono ?_
 rintro e w20 ⟨rfl,nd20,hw20⟩
 have hb20 : Below u19.heap.size u19 w20 := by rw [hw20]; exact zb (Below.refl _ _) _
 clear hw20
 replace HB := za.mk (zo HB.out hb20)
 replace F9 := za.mk (Kd.zD F9.out hb20)
 replace X8 := za.mk (zu X8.out hb20)
 clear hb20
 clear F9 X8
 go_wp2_with fail
 go_ret
 exact ⟨rfl,HB.out⟩
def named (ms : List S63) (i : Nat) : Bool := ms.any fun m => m.f1 == (i : Int) && m.f0 != 1
def zcO (ms : List S63) : Nat → List ByteArray → List ByteArray
 | _,[] => []
 | i,x :: a => if named ms i = true then zcO ms (i + 1) a else x :: zcO ms (i + 1) a
theorem zdm (m : S63) (ms : List S63) : ∀ (a : List ByteArray) (i : Nat),(m.f1 < (i : Int) ∨ m.f0 = 1) → zcO (m :: ms) i a = zcO ms i a
 | [],_,_ => rfl
 | x :: a,i,h => by
  have e : named (m :: ms) i = named ms i := by
   unfold named
   rw [List.any_cons]
   have : (m.f1 == (i : Int) && m.f0 != 1) = false := by
    rcases h with h | h
    ·rw [show (m.f1 == (i : Int)) = false from beq_eq_false_iff_ne.2 ql,Bool.false_and]
    ·rw [h]; simp
   rw [this,Bool.false_or]
  rw [zcO,zcO,e,zdm m ms a (i + 1) (h.imp (fun h => by omega) id)]
theorem zbM.kept {i : Nat} {a b : List ByteArray} {ms : List S63} (h : zbM i a b ms) : (zcO ms i a).Sublist b ∧ ((zcO ms i a).length : Int) + zaP ms = b.length := by
 induction h with
 | nil i => exact ⟨List.Sublist.refl _,rfl⟩
 | @ins i a b ms y h ih =>
  rw [zdm _ _ _ _ (.inr rfl)]
  refine ⟨ih.1.cons y,?_⟩
  simp [zaP]; omega
 | @del i a b ms x h ih =>
  have e : named (⟨3,(i : Int),⟨#[]⟩⟩ :: ms) i = true := by simp [named]
  rw [zcO,if_pos e,zdm _ _ _ _ (.inl qG)]
  refine ⟨ih.1,?_⟩
  simp [zaP]; omega
 | @set i a b ms x y h ih =>
  have e : named (⟨2,(i : Int),y⟩ :: ms) i = true := by simp [named]
  rw [zcO,if_pos e,zdm _ _ _ _ (.inl qG)]
  refine ⟨ih.1.cons y,?_⟩
  simp [zaP]; omega
 | @keep i a b ms x h ih =>
  have e : named ms i = false := by
   unfold named
   rw [List.any_eq_false]
   intro m hm
   have := h.ge m hm
   have : (m.f1 == (i : Int)) = false := beq_eq_false_iff_ne.2 ql
   simp [this]
  rw [zcO,e,if_neg qq]
  refine ⟨ih.1.cons_cons x,?_⟩
  simp only [List.length_cons]; omega
theorem zdn (ms : List S63) (hm : ms.length ≤ 1000) : Ev (fun k => zN.f k ms) (zaP ms) := by
 have go : ∀ (m i : Nat) (n : Int),ms.length - i = m → i ≤ ms.length → 0 ≤ n → n ≤ (i : Int) → Ev (fun k => zN.l0 k ms n (i : Int)) (n + zaP (ms.drop i)) := by
  intro m
  induction m with
  | zero =>
   intro i n hm hi h0 h1
   rw [List.drop_eq_nil_of_le ql,zaP,Int.add_zero]
   refine Ev.step (fun k => by rw [zN.l0]) ?_
   exact Ev.ifn ql (Ev.now _)
  | succ m ih =>
   intro i n hm hi h0 h1
   have hlt : i < ms.length := by omega
   have hlt' : (i : Int) < (ms.length : Int) := by omega
   have r1 : zk ms (i : Int) = ms[i] := by simp [zk,hlt]
   rw [List.drop_eq_getElem_cons hlt,zaP]
   refine Ev.step (fun k => by rw [zN.l0]) ?_
   refine Ev.ifp hlt' ?_
   refine Ev.ifp ql ?_
   rw [r1,zcp _ ql]
   by_cases hc : ms[i].f0 = 3
   ·rw [if_pos hc,Int.zero_add]
    exact Ev.ifp hc (ih (i + 1) n ql ql h0 ql)
   ·rw [if_neg hc]
    refine Ev.ifn hc ?_
    rw [zeC ql ql]
    have := ih (i + 1) (n + 1) ql ql ql ql
    rw [Int.add_assoc] at this
    exact this
 have := go ms.length 0 0 ql ql ql ql
 rw [List.drop_zero,Int.zero_add] at this
 exact this
theorem zgT (ms : List S63) (hp : ms.length ≤ 1000) : Ev (fun k => zae.f k ms ms) true := by
 have go : ∀ (m i : Nat),ms.length - i = m → i ≤ ms.length → Ev (fun k => zae.l0 k ms ms (i : Int)) true := by
  intro m
  induction m with
  | zero =>
   intro i h hi
   refine Ev.step (fun k => by rw [zae.l0]) ?_
   exact Ev.ifn ql (Ev.now _)
  | succ m ih =>
   intro i h hi
   have hlt : (i : Int) < (ms.length : Int) := by omega
   refine Ev.step (fun k => by rw [zae.l0]) ?_
   refine Ev.ifp hlt (Ev.ifp ql (Ev.ifp hlt ?_))
   refine Ev.ifn qC ?_
   rw [zcp _ ql]
   exact ih (i + 1) ql ql
 unfold zae.f
 exact Ev.ifp rfl (go ms.length 0 ql ql)
def zd3 (a b : S63) : Bool := if a.f1 = b.f1 then (if a.f0 = b.f0 then Op.bytesLess a.f2.toList b.f2.toList else decide (a.f0 < b.f0)) else decide (a.f1 < b.f1)
def zek (a b : S63) : Bool := a.f0 == b.f0 && a.f1 == b.f1 && a.f2.toList == b.f2.toList
def zcx : List S63 → List S63 → Bool
 | a :: x,b :: y => if zek a b = true then zcx x y else zd3 a b
 | _,_ => false
def zc3 (x y : List S63) : Bool := if zaP x = zaP y then (if x.length = y.length then zcx x y else decide (x.length < y.length)) else decide (zaP x < zaP y)
theorem zhT (a b : S63) : zbf.f a.f0 a.f1 a.f2 b.f0 b.f1 b.f2 = some (zd3 a b) := by
 unfold zbf.f zd3
 split <;> (try split) <;> simp_all
theorem zhH (x y : List S63) (hx : x.length ≤ 1000) (hy : y.length ≤ 1000) : Ev (fun k => zF.f k x y) (zc3 x y) := by
 have go : ∀ (m i : Nat),x.length - i = m → i ≤ x.length → x.length = y.length → Ev (fun k => zF.l0 k x y (i : Int)) (zcx (x.drop i) (y.drop i)) := by
  intro m
  induction m with
  | zero =>
   intro i hm hi he
   rw [List.drop_eq_nil_of_le ql,show zcx [] (y.drop i) = false by cases y.drop i <;> rfl]
   refine Ev.step (fun k => by rw [zF.l0]) ?_
   exact Ev.ifn ql (Ev.now _)
  | succ m ih =>
   intro i hm hi he
   have hlt : i < x.length := by omega
   have hlt2 : i < y.length := by omega
   have c1 : (i : Int) < (x.length : Int) := by omega
   have c2 : (i : Int) < (y.length : Int) := by omega
   have r1 : zk x (i : Int) = x[i] := by simp [zk,hlt]
   have r2 : zk y (i : Int) = y[i] := by simp [zk,hlt2]
   have hn := ih (i + 1) ql ql he
   rw [List.drop_eq_getElem_cons hlt,List.drop_eq_getElem_cons hlt2,zcx]
   obtain ⟨a,ha⟩ : ∃ a,x[i] = a := ⟨_,rfl⟩
   obtain ⟨b,hb⟩ : ∃ b,y[i] = b := ⟨_,rfl⟩
   rw [ha] at r1 ⊢
   rw [hb] at r2 ⊢
   refine Ev.step (fun k => by rw [zF.l0]) ?_
   refine Ev.ifp c1 (Ev.ifp ql (Ev.ifp c2 ?_))
   rw [r1,r2,zcp _ ql]
   by_cases hs : zek a b = true
   ·rw [if_pos hs]
    refine Ev.ifn ?_ hn
    unfold zek at hs
    simp only [Bool.and_eq_true] at hs
    obtain ⟨⟨h1,h2⟩,h3⟩ := hs
    rw [h1,h2,h3]; decide
   ·rw [if_neg hs]
    refine Ev.ifp ?_ (Ev.bs (zhT a b) (Ev.now _))
    unfold zek at hs
    cases h1 : (a.f0 == b.f0) <;> cases h2 : (a.f1 == b.f1) <;> cases h3 : (a.f2.toList == b.f2.toList) <;> simp_all
 unfold zF.f zc3
 refine Ev.be (zdn x hx) ?_
 refine Ev.be (zdn y hy) ?_
 by_cases hc : zaP x = zaP y
 ·simp only [if_pos hc]
  by_cases hl : x.length = y.length
  ·simp only [if_pos hl]
   refine Ev.ifp ql ?_
   have := go x.length 0 ql ql hl
   rw [List.drop_zero,List.drop_zero] at this
   exact this
  ·simp only [if_neg hl]
   refine Ev.ifn ql ?_
   rw [show decide (x.length < y.length) = decide ((x.length : Int) < (y.length : Int)) by rw [decide_eq_decide]; omega]
   exact Ev.now _
 ·simp only [if_neg hc]
  refine Ev.be (zdn x hx) ?_
  refine Ev.be (zdn y hy) ?_
  exact Ev.now _
def zbA (best : Option (List S63)) (l : List S63) : Option (List S63) := match best with
 | none => some l
 | some b => if zc3 l b = true then some l else some b
def zeX : Option (List S63) → List S63
 | some l => l
 | none => []
def rdS (i : Nat) : List ByteArray → List ByteArray → List S63
 | [],[] => []
 | [],y :: b => zeX (zbA none (⟨1,i,y⟩ :: rdS i [] b))
 | _ :: a,[] => zeX (zbA none (⟨3,i,⟨#[]⟩⟩ :: rdS (i + 1) a []))
 | x :: a,y :: b => zeX (zbA (zbA (zbA (if x.toList = y.toList then some (rdS (i + 1) a b) else none) (⟨1,i,y⟩ :: rdS i (x :: a) b)) (⟨2,i,y⟩ :: rdS (i + 1) a b)) (⟨3,i,⟨#[]⟩⟩ :: rdS (i + 1) a (y :: b)))
termination_by a b => a.length + b.length
theorem zdz {best : Option (List S63)} {l : List S63} {n : Nat} (hb : (zeX best).length ≤ n) (hl : l.length ≤ n) : (zeX (zbA best l)).length ≤ n := by
 unfold zbA
 cases best with
 | none => exact hl
 | some b =>
  dsimp only
  split
  ·exact hl
  ·exact hb
theorem zdU (a : List ByteArray) : ∀ (b : List ByteArray) (i : Nat),(rdS i a b).length ≤ a.length + b.length := by
 induction a with
 | nil =>
  intro b
  induction b with
  | nil => intro i; rw [rdS]; simp
  | cons y b ih =>
   intro i; rw [rdS]
   have := ih i
   refine zdz (Nat.zero_le _) ?_
   simp only [List.length_cons] at this ⊢; omega
 | cons x a iha =>
  intro b
  induction b with
  | nil =>
   intro i; rw [rdS]
   have := iha [] (i + 1)
   refine zdz (Nat.zero_le _) ?_
   simp only [List.length_cons] at this ⊢; omega
  | cons y b ih =>
   intro i; rw [rdS]
   have h1 := ih i
   have h2 := iha (y :: b) (i + 1)
   have h3 := iha b (i + 1)
   simp only [List.length_cons] at h1 h2 ⊢
   refine zdz (zdz (zdz ?_ ?_) ?_) ?_
   ·split
    ·simp only [zeX]; omega
    ·simp [zeX]
   ·simp only [List.length_cons]; omega
   ·simp only [List.length_cons]; omega
   ·simp only [List.length_cons]; omega
end Go.Proofs.Ytgmbbfmbimofoaa.P
