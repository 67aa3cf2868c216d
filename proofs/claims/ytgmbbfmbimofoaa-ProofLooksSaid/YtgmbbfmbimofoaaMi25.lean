-- MERGED BY A PROGRAM out of texts of this claim: hand work, and what a (turned) print of the kit has written for it
import Derived.Outline
import Derived.Test.YtgmbbfmbimofoaaMi24
import Derived.Test.YtgmbbfmbimofoaaMi6
import Derived.Test.YtgmbbfmbimofoaaMi20
import Derived.Test.YtgmbbfmbimofoaaMi5
import Derived.Test.YtgmbbfmbimofoaaMi7
import Derived.Test.YtgmbbfmbimofoaaMi23
import Derived.Test.YtgmbbfmbimofoaaMi9
namespace Go.Proofs.Ytgmbbfmbimofoaa.P
open Go.RowKit Go.Proofs.YtgmbbfmbimofoaaW.PrintWords Go.Proofs.YtgmbbfmbimofoaaW.PrintLast Go.Proofs.YtgmbbfmbimofoaaW.PrintMore
attribute [local go_sem] zM zN zV zU zI zH zO zP
set_option linter.unusedVariables false
set_option linter.unusedSimpArgs false
def zed : ByteArray := ⟨#[97,110,110,97]⟩
def zfr : ByteArray := ⟨#[98,101,110]⟩
def zjF : ByteArray := ⟨#[99,121,100]⟩
def zhO : ByteArray := ⟨#[98,101,97]⟩
def zhq : ByteArray := ⟨#[99,105,100]⟩
def zjT : ByteArray := ⟨#[100,97,110]⟩
def zls : ByteArray := ⟨#[97,98,101]⟩
def zei : List ByteArray := [zed,zfr,zjF]
def zdU : List S63 := [⟨1,1,zhO⟩,⟨2,2,zhq⟩]
def zfI : List (List ByteArray) := [[zed,zfr],[zed,zjF]]
theorem zjk : zcx.f 100 zei zdU = some ([zed,zhO,zfr,zhq],0) := by kernel_rfl
theorem ziZ : zbC.f 100 zfI [zed,zfr,zjT] = some ([1,0, -1],0) := by kernel_rfl
theorem zkM : zaj.f 100 [zed,zhO,zfr,zhq] [zed,zhO,zfr,zhq] = some true := by kernel_rfl
theorem zi1 : zc7.f zei [⟨1,0,zls⟩,⟨3,1,⟨#[]⟩⟩,⟨3,2,⟨#[]⟩⟩] 3 = some ([1,0,2],0) := by kernel_rfl
theorem zkq : zaI.f 100 zdU zdU = some true := by kernel_rfl
theorem zjQ : za6.f 100 [1,0,2] [1,0,2] = some true := by kernel_rfl
theorem zjE : za6.f 100 [1,0, -1] [1,0, -1] = some true := by kernel_rfl
theorem zj1 : zeh.f 100 zei [zed,zhO,zfr,zhq] = some (zdU,0) := by kernel_rfl
theorem zj4 : zcV.f 100 zfI [⟨1,2,zjT⟩] [zed,zjF,zfr,zjT] = some (2,2,0) := by kernel_rfl
set_option maxHeartbeats 4000000 in
set_option maxRecDepth 100000 in
theorem zeG (w : World) : Calls Try.prog 18 #[] w fun e w' => e = .returned (.bool true) ∧ Below w.heap.size w w' := by
 go_enter Try.func18,Try.ntmps18
 have HB := za.mk (Below.refl w.heap.size w)
 go_wp2_with fail
 refine (zcl.calls zei _ rfl).mono ?_
 rintro e w1 ⟨v1,rfl,hR1,hb1⟩
 replace HB := za.mk (zq HB.out hb1)
 obtain ⟨A1,c1,rfl,_,_⟩ := Kd.zav hR1
 have F1 := za.mk hR1
 clear hR1 hb1
 go_wp2_with fail
 refine (zcG.calls zdU _ rfl).mono ?_
 rintro e w2 ⟨v2,rfl,hR2,hb2⟩
 replace HB := za.mk (zq HB.out hb2)
 replace F1 := za.mk (Kd.zJ F1.out hb2)
 obtain ⟨A2,c2,rfl,_,_⟩ := Kd.zav hR2
 have F2 := za.mk hR2
 clear hR2 hb2
 go_wp2_with fail
 refine (zcx.calls 100 _ _ zei _ _ zdU [⟨#[97,110,110,97]⟩,⟨#[98,101,97]⟩,⟨#[98,101,110]⟩,⟨#[99,105,100]⟩] 0 _ (zaw F1.out).1 (zaw F1.out).2 (zaw F2.out).1 (zaw F2.out).2 zjk).mono ?_
 rintro e w3 ⟨v3,rfl,hR3,hb3⟩
 replace HB := za.mk (zq HB.out hb3)
 replace F1 := za.mk (Kd.zJ F1.out hb3)
 replace F2 := za.mk (Kd.zJ F2.out hb3)
 obtain ⟨A3,c3,rfl,_,_⟩ := Kd.zav hR3
 have F3 := za.mk hR3
 clear hR3 hb3
 clear F1 F2
 go_wp2_with fail
 refine (zcl.calls zei _ rfl).mono ?_
 rintro e w4 ⟨v4,rfl,hR4,hb4⟩
 replace HB := za.mk (zq HB.out hb4)
 replace F3 := za.mk (Kd.zJ F3.out hb4)
 obtain ⟨A4,c4,rfl,_,_⟩ := Kd.zav hR4
 have F4 := za.mk hR4
 clear hR4 hb4
 go_wp2_with fail
 have hbx := ze (Below.refl w4.heap.size w4) (.cells #[.string ⟨#[97,110,110,97]⟩, .string ⟨#[98,101,97]⟩, .string ⟨#[98,101,110]⟩, .string ⟨#[99,105,100]⟩] 9)
 have X1 := za.mk (heap_alloc_new w4 (.cells #[.string ⟨#[97,110,110,97]⟩, .string ⟨#[98,101,97]⟩, .string ⟨#[98,101,110]⟩, .string ⟨#[99,105,100]⟩] 9))
 replace HB := za.mk (zq HB.out hbx)
 replace F3 := za.mk (Kd.zJ F3.out hbx)
 replace F4 := za.mk (Kd.zJ F4.out hbx)
 obtain ⟨u4,hu⟩ : ∃ u_,w4.alloc (.cells #[.string ⟨#[97,110,110,97]⟩, .string ⟨#[98,101,97]⟩, .string ⟨#[98,101,110]⟩, .string ⟨#[99,105,100]⟩] 9) = u_ := ⟨_,rfl⟩
 rw [hu] at F3 F4 X1 HB ⊢
 clear hu hbx
 refine (zeh.calls 100 _ _ zei _ _ [⟨#[97,110,110,97]⟩,⟨#[98,101,97]⟩,⟨#[98,101,110]⟩,⟨#[99,105,100]⟩] zdU 0 _ (zaw F4.out).1 (zaw F4.out).2 (zgm X1.out rfl qt) qt zj1).mono ?_
 rintro e w5 ⟨v5,rfl,hR5,hb5⟩
 replace HB := za.mk (zq HB.out hb5)
 replace F3 := za.mk (Kd.zJ F3.out hb5)
 replace F4 := za.mk (Kd.zJ F4.out hb5)
 replace X1 := za.mk (zD X1.out hb5)
 obtain ⟨A5,c5,rfl,_,_⟩ := Kd.zav hR5
 have F5 := za.mk hR5
 clear hR5 hb5
 clear F4 X1
 go_wp2_with fail
 refine (zcl.calls zei _ rfl).mono ?_
 rintro e w6 ⟨v6,rfl,hR6,hb6⟩
 replace HB := za.mk (zq HB.out hb6)
 replace F3 := za.mk (Kd.zJ F3.out hb6)
 replace F5 := za.mk (Kd.zJ F5.out hb6)
 obtain ⟨A6,c6,rfl,_,_⟩ := Kd.zav hR6
 have F6 := za.mk hR6
 clear hR6 hb6
 go_wp2_with fail
 refine (zb3.calls 0 ⟨#[97,98,101]⟩ 1 0 ⟨#[97,98,101]⟩ _ rfl).mono ?_
 rintro e w7 ⟨rfl,hb7⟩
 replace HB := za.mk (zq HB.out hb7)
 replace F3 := za.mk (Kd.zJ F3.out hb7)
 replace F5 := za.mk (Kd.zJ F5.out hb7)
 replace F6 := za.mk (Kd.zJ F6.out hb7)
 clear hb7
 go_wp2_with fail
 refine (zcJ.calls 1 3 1 ⟨#[]⟩ _ rfl).mono ?_
 rintro e w8 ⟨rfl,hb8⟩
 replace HB := za.mk (zq HB.out hb8)
 replace F3 := za.mk (Kd.zJ F3.out hb8)
 replace F5 := za.mk (Kd.zJ F5.out hb8)
 replace F6 := za.mk (Kd.zJ F6.out hb8)
 clear hb8
 go_wp2_with fail
 refine (zcJ.calls 2 3 2 ⟨#[]⟩ _ rfl).mono ?_
 rintro e w9 ⟨rfl,hb9⟩
 replace HB := za.mk (zq HB.out hb9)
 replace F3 := za.mk (Kd.zJ F3.out hb9)
 replace F5 := za.mk (Kd.zJ F5.out hb9)
 replace F6 := za.mk (Kd.zJ F6.out hb9)
 clear hb9
 go_wp2_with fail
 have hbx := ze (Below.refl w9.heap.size w9) (.cells #[.int .i64 1, .int .i64 0, .string ⟨#[97,98,101]⟩, .int .i64 3, .int .i64 1, .string ⟨#[]⟩, .int .i64 3, .int .i64 2, .string ⟨#[]⟩] 63)
 have X2 := za.mk (heap_alloc_new w9 (.cells #[.int .i64 1, .int .i64 0, .string ⟨#[97,98,101]⟩, .int .i64 3, .int .i64 1, .string ⟨#[]⟩, .int .i64 3, .int .i64 2, .string ⟨#[]⟩] 63))
 replace HB := za.mk (zq HB.out hbx)
 replace F3 := za.mk (Kd.zJ F3.out hbx)
 replace F5 := za.mk (Kd.zJ F5.out hbx)
 replace F6 := za.mk (Kd.zJ F6.out hbx)
 obtain ⟨u9,hu⟩ : ∃ u_,w9.alloc (.cells #[.int .i64 1, .int .i64 0, .string ⟨#[97,98,101]⟩, .int .i64 3, .int .i64 1, .string ⟨#[]⟩, .int .i64 3, .int .i64 2, .string ⟨#[]⟩] 63) = u_ := ⟨_,rfl⟩
 rw [hu] at F3 F5 F6 X2 HB ⊢
 clear hu hbx
 refine (zc7.calls _ _ zei _ _ [⟨1,0,⟨#[97,98,101]⟩⟩,⟨3,1,⟨#[]⟩⟩,⟨3,2,⟨#[]⟩⟩] 3 [1,0,2] 0 _ (zaw F6.out).1 (zaw F6.out).2 (zik X2.out rfl qt) qt zi1).mono ?_
 rintro e w10 ⟨v10,rfl,hR10,hb10⟩
 replace HB := za.mk (zq HB.out hb10)
 replace F3 := za.mk (Kd.zJ F3.out hb10)
 replace F5 := za.mk (Kd.zJ F5.out hb10)
 replace F6 := za.mk (Kd.zJ F6.out hb10)
 replace X2 := za.mk (zD X2.out hb10)
 obtain ⟨A10,c10,rfl,_,_⟩ := Kd.zav hR10
 have F7 := za.mk hR10
 clear hR10 hb10
 clear F6 X2
 go_wp2_with fail
 refine (zcF.calls zfI _ rfl).mono ?_
 rintro e w11 ⟨v11,rfl,hR11,hb11⟩
 replace HB := za.mk (zq HB.out hb11)
 replace F3 := za.mk (Kd.zJ F3.out hb11)
 replace F5 := za.mk (Kd.zJ F5.out hb11)
 replace F7 := za.mk (Kd.zJ F7.out hb11)
 obtain ⟨A11,c11,rfl,_,_⟩ := Kd.zh9 hR11
 have F8 := za.mk hR11
 clear hR11 hb11
 go_wp2_with fail
 have hbx := ze (Below.refl w11.heap.size w11) (.cells #[.string ⟨#[97,110,110,97]⟩, .string ⟨#[98,101,110]⟩, .string ⟨#[100,97,110]⟩] 9)
 have X3 := za.mk (heap_alloc_new w11 (.cells #[.string ⟨#[97,110,110,97]⟩, .string ⟨#[98,101,110]⟩, .string ⟨#[100,97,110]⟩] 9))
 replace HB := za.mk (zq HB.out hbx)
 replace F3 := za.mk (Kd.zJ F3.out hbx)
 replace F5 := za.mk (Kd.zJ F5.out hbx)
 replace F7 := za.mk (Kd.zJ F7.out hbx)
 replace F8 := za.mk (Kd.zdl F8.out hbx)
 obtain ⟨u11,hu⟩ : ∃ u_,w11.alloc (.cells #[.string ⟨#[97,110,110,97]⟩, .string ⟨#[98,101,110]⟩, .string ⟨#[100,97,110]⟩] 9) = u_ := ⟨_,rfl⟩
 rw [hu] at F3 F5 F7 F8 X3 HB ⊢
 clear hu hbx
 refine (zbC.calls 100 _ _ zfI _ _ [⟨#[97,110,110,97]⟩,⟨#[98,101,110]⟩,⟨#[100,97,110]⟩] [1,0, -1] 0 _ (Kd.zev F8.out).2.2 (Kd.zev F8.out).2.1 (zgm X3.out rfl qt) qt ziZ).mono ?_
 rintro e w12 ⟨v12,rfl,hR12,hb12⟩
 replace HB := za.mk (zq HB.out hb12)
 replace F3 := za.mk (Kd.zJ F3.out hb12)
 replace F5 := za.mk (Kd.zJ F5.out hb12)
 replace F7 := za.mk (Kd.zJ F7.out hb12)
 replace F8 := za.mk (Kd.zdl F8.out hb12)
 replace X3 := za.mk (zD X3.out hb12)
 obtain ⟨A12,c12,rfl,_,_⟩ := Kd.zav hR12
 have F9 := za.mk hR12
 clear hR12 hb12
 clear F8 X3
 go_wp2_with fail
 refine (zcF.calls zfI _ rfl).mono ?_
 rintro e w13 ⟨v13,rfl,hR13,hb13⟩
 replace HB := za.mk (zq HB.out hb13)
 replace F3 := za.mk (Kd.zJ F3.out hb13)
 replace F5 := za.mk (Kd.zJ F5.out hb13)
 replace F7 := za.mk (Kd.zJ F7.out hb13)
 replace F9 := za.mk (Kd.zJ F9.out hb13)
 obtain ⟨A13,c13,rfl,_,_⟩ := Kd.zh9 hR13
 have F10 := za.mk hR13
 clear hR13 hb13
 go_wp2_with fail
 refine (zb3.calls 2 ⟨#[100,97,110]⟩ 1 2 ⟨#[100,97,110]⟩ _ rfl).mono ?_
 rintro e w14 ⟨rfl,hb14⟩
 replace HB := za.mk (zq HB.out hb14)
 replace F3 := za.mk (Kd.zJ F3.out hb14)
 replace F5 := za.mk (Kd.zJ F5.out hb14)
 replace F7 := za.mk (Kd.zJ F7.out hb14)
 replace F9 := za.mk (Kd.zJ F9.out hb14)
 replace F10 := za.mk (Kd.zdl F10.out hb14)
 clear hb14
 go_wp2_with fail
 have hbx := ze (Below.refl w14.heap.size w14) (.cells #[.int .i64 1, .int .i64 2, .string ⟨#[100,97,110]⟩] 63)
 have X4 := za.mk (heap_alloc_new w14 (.cells #[.int .i64 1, .int .i64 2, .string ⟨#[100,97,110]⟩] 63))
 replace HB := za.mk (zq HB.out hbx)
 replace F3 := za.mk (Kd.zJ F3.out hbx)
 replace F5 := za.mk (Kd.zJ F5.out hbx)
 replace F7 := za.mk (Kd.zJ F7.out hbx)
 replace F9 := za.mk (Kd.zJ F9.out hbx)
 replace F10 := za.mk (Kd.zdl F10.out hbx)
 have e4 : (w14.alloc (.cells #[.int .i64 1, .int .i64 2, .string ⟨#[100,97,110]⟩] 63)).heap.size = w14.heap.size + 1 := Array.size_push _
 have hby := ze (Below.refl _ (w14.alloc (.cells #[.int .i64 1, .int .i64 2, .string ⟨#[100,97,110]⟩] 63))) (.cells #[.string ⟨#[97,110,110,97]⟩, .string ⟨#[99,121,100]⟩, .string ⟨#[98,101,110]⟩, .string ⟨#[100,97,110]⟩] 9)
 have X5 := za.mk (heap_alloc_new (w14.alloc (.cells #[.int .i64 1, .int .i64 2, .string ⟨#[100,97,110]⟩] 63)) (.cells #[.string ⟨#[97,110,110,97]⟩, .string ⟨#[99,121,100]⟩, .string ⟨#[98,101,110]⟩, .string ⟨#[100,97,110]⟩] 9))
 rw [e4] at X5
 replace HB := za.mk (zq HB.out hby)
 replace F3 := za.mk (Kd.zJ F3.out hby)
 replace F5 := za.mk (Kd.zJ F5.out hby)
 replace F7 := za.mk (Kd.zJ F7.out hby)
 replace F9 := za.mk (Kd.zJ F9.out hby)
 replace F10 := za.mk (Kd.zdl F10.out hby)
 replace X4 := za.mk (zD X4.out hby)
 obtain ⟨u14,hu⟩ : ∃ u_,(w14.alloc (.cells #[.int .i64 1, .int .i64 2, .string ⟨#[100,97,110]⟩] 63)).alloc (.cells #[.string ⟨#[97,110,110,97]⟩, .string ⟨#[99,121,100]⟩, .string ⟨#[98,101,110]⟩, .string ⟨#[100,97,110]⟩] 9) = u_ := ⟨_,rfl⟩
 rw [hu] at F3 F5 F7 F9 F10 X4 X5 HB ⊢
 clear hu hbx hby e4
 refine (zcV.calls 100 _ _ zfI _ _ [⟨1,2,⟨#[100,97,110]⟩⟩] _ _ [⟨#[97,110,110,97]⟩,⟨#[99,121,100]⟩,⟨#[98,101,110]⟩,⟨#[100,97,110]⟩] 2 2 0 _ (Kd.zev F10.out).2.2 (Kd.zev F10.out).2.1 (zik X4.out rfl qt) qt (zgm X5.out rfl qt) qt zj4).mono ?_
 rintro e w15 ⟨rfl,hb15⟩
 replace HB := za.mk (zq HB.out hb15)
 replace F3 := za.mk (Kd.zJ F3.out hb15)
 replace F5 := za.mk (Kd.zJ F5.out hb15)
 replace F7 := za.mk (Kd.zJ F7.out hb15)
 replace F9 := za.mk (Kd.zJ F9.out hb15)
 replace F10 := za.mk (Kd.zdl F10.out hb15)
 replace X4 := za.mk (zD X4.out hb15)
 replace X5 := za.mk (zD X5.out hb15)
 clear hb15
 clear F10 X4 X5
 go_wp2_with fail
 have hbx := ze (Below.refl w15.heap.size w15) (.cells #[.int .i64 2, .int .i64 2] 54)
 replace HB := za.mk (zq HB.out hbx)
 replace F3 := za.mk (Kd.zJ F3.out hbx)
 replace F5 := za.mk (Kd.zJ F5.out hbx)
 replace F7 := za.mk (Kd.zJ F7.out hbx)
 replace F9 := za.mk (Kd.zJ F9.out hbx)
 have e4 : (w15.alloc (.cells #[.int .i64 2, .int .i64 2] 54)).heap.size = w15.heap.size + 1 := Array.size_push _
 have hby := ze (Below.refl _ (w15.alloc (.cells #[.int .i64 2, .int .i64 2] 54))) (.cells #[.string ⟨#[97,110,110,97]⟩, .string ⟨#[98,101,97]⟩, .string ⟨#[98,101,110]⟩, .string ⟨#[99,105,100]⟩] 9)
 have X6 := za.mk (heap_alloc_new (w15.alloc (.cells #[.int .i64 2, .int .i64 2] 54)) (.cells #[.string ⟨#[97,110,110,97]⟩, .string ⟨#[98,101,97]⟩, .string ⟨#[98,101,110]⟩, .string ⟨#[99,105,100]⟩] 9))
 rw [e4] at X6
 replace HB := za.mk (zq HB.out hby)
 replace F3 := za.mk (Kd.zJ F3.out hby)
 replace F5 := za.mk (Kd.zJ F5.out hby)
 replace F7 := za.mk (Kd.zJ F7.out hby)
 replace F9 := za.mk (Kd.zJ F9.out hby)
 obtain ⟨u15,hu⟩ : ∃ u_,(w15.alloc (.cells #[.int .i64 2, .int .i64 2] 54)).alloc (.cells #[.string ⟨#[97,110,110,97]⟩, .string ⟨#[98,101,97]⟩, .string ⟨#[98,101,110]⟩, .string ⟨#[99,105,100]⟩] 9) = u_ := ⟨_,rfl⟩
 rw [hu] at F3 F5 F7 F9 X6 HB ⊢
 clear hu hbx hby e4
 refine (zaj.calls 100 _ _ [⟨#[97,110,110,97]⟩,⟨#[98,101,97]⟩,⟨#[98,101,110]⟩,⟨#[99,105,100]⟩] _ _ [⟨#[97,110,110,97]⟩,⟨#[98,101,97]⟩,⟨#[98,101,110]⟩,⟨#[99,105,100]⟩] true _ (zaw F3.out).1 (zaw F3.out).2 (zgm X6.out rfl qt) qt zkM).mono ?_
 rintro e w16 ⟨rfl,nd16,hw16⟩
 have hb16 : Below u15.heap.size u15 w16 := by rw [hw16]; exact zb (Below.refl _ _) _
 clear hw16
 replace HB := za.mk (zq HB.out hb16)
 replace F3 := za.mk (Kd.zJ F3.out hb16)
 replace F5 := za.mk (Kd.zJ F5.out hb16)
 replace F7 := za.mk (Kd.zJ F7.out hb16)
 replace F9 := za.mk (Kd.zJ F9.out hb16)
 replace X6 := za.mk (zD X6.out hb16)
 clear hb16
 clear F3 X6
 go_wp2_with fail
 refine (zcG.calls zdU _ rfl).mono ?_
 rintro e w17 ⟨v17,rfl,hR17,hb17⟩
 replace HB := za.mk (zq HB.out hb17)
 replace F5 := za.mk (Kd.zJ F5.out hb17)
 replace F7 := za.mk (Kd.zJ F7.out hb17)
 replace F9 := za.mk (Kd.zJ F9.out hb17)
 obtain ⟨A17,c17,rfl,_,_⟩ := Kd.zav hR17
 have F11 := za.mk hR17
 clear hR17 hb17
 go_wp2_with fail
 refine (zaI.calls 100 _ _ zdU _ _ zdU true _ (zaw F5.out).1 (zaw F5.out).2 (zaw F11.out).1 (zaw F11.out).2 zkq).mono ?_
 rintro e w18 ⟨rfl,nd18,hw18⟩
 have hb18 : Below w17.heap.size w17 w18 := by rw [hw18]; exact zb (Below.refl _ _) _
 clear hw18
 replace HB := za.mk (zq HB.out hb18)
 replace F5 := za.mk (Kd.zJ F5.out hb18)
 replace F7 := za.mk (Kd.zJ F7.out hb18)
 replace F9 := za.mk (Kd.zJ F9.out hb18)
 replace F11 := za.mk (Kd.zJ F11.out hb18)
 clear hb18
 clear F5 F11
 go_wp2_with fail
 have hbx := ze (Below.refl w18.heap.size w18) (.cells #[.int .i64 1, .int .i64 0, .int .i64 2] 3)
 have X7 := za.mk (heap_alloc_new w18 (.cells #[.int .i64 1, .int .i64 0, .int .i64 2] 3))
 replace HB := za.mk (zq HB.out hbx)
 replace F7 := za.mk (Kd.zJ F7.out hbx)
 replace F9 := za.mk (Kd.zJ F9.out hbx)
 obtain ⟨u18,hu⟩ : ∃ u_,w18.alloc (.cells #[.int .i64 1, .int .i64 0, .int .i64 2] 3) = u_ := ⟨_,rfl⟩
 rw [hu] at F7 F9 X7 HB ⊢
 clear hu hbx
 refine (za6.calls 100 _ _ [1,0,2] _ _ [1,0,2] true _ (zaw F7.out).1 (zaw F7.out).2 (zi5 X7.out rfl qt) qt zjQ).mono ?_
 rintro e w19 ⟨rfl,nd19,hw19⟩
 have hb19 : Below u18.heap.size u18 w19 := by rw [hw19]; exact zb (Below.refl _ _) _
 clear hw19
 replace HB := za.mk (zq HB.out hb19)
 replace F7 := za.mk (Kd.zJ F7.out hb19)
 replace F9 := za.mk (Kd.zJ F9.out hb19)
 replace X7 := za.mk (zD X7.out hb19)
 clear hb19
 clear F7 X7
 go_wp2_with fail
 have hbx := ze (Below.refl w19.heap.size w19) (.cells #[.int .i64 1, .int .i64 0, .int .i64 (-1)] 3)
 have X8 := za.mk (heap_alloc_new w19 (.cells #[.int .i64 1, .int .i64 0, .int .i64 (-1)] 3))
 replace HB := za.mk (zq HB.out hbx)
 replace F9 := za.mk (Kd.zJ F9.out hbx)
 obtain ⟨u19,hu⟩ : ∃ u_,w19.alloc (.cells #[.int .i64 1, .int .i64 0, .int .i64 (-1)] 3) = u_ := ⟨_,rfl⟩
 rw [hu] at F9 X8 HB ⊢
 clear hu hbx
 refine (za6.calls 100 _ _ [1,0, -1] _ _ [1,0, -1] true _ (zaw F9.out).1 (zaw F9.out).2 (zi5 X8.out rfl qt) qt zjE).mono ?_
 rintro e w20 ⟨rfl,nd20,hw20⟩
 have hb20 : Below u19.heap.size u19 w20 := by rw [hw20]; exact zb (Below.refl _ _) _
 clear hw20
 replace HB := za.mk (zq HB.out hb20)
 replace F9 := za.mk (Kd.zJ F9.out hb20)
 replace X8 := za.mk (zD X8.out hb20)
 clear hb20
 clear F9 X8
 go_wp2_with fail
 go_ret
 exact ⟨rfl,HB.out⟩
def named (ms : List S63) (i : Nat) : Bool := ms.any fun m => m.f1 == (i : Int) && m.f0 != 1
def zdH (ms : List S63) : Nat → List ByteArray → List ByteArray
 | _,[] => []
 | i,x :: a => if named ms i = true then zdH ms (i + 1) a else x :: zdH ms (i + 1) a
theorem zef (m : S63) (ms : List S63) : ∀ (a : List ByteArray) (i : Nat),(m.f1 < (i : Int) ∨ m.f0 = 1) → zdH (m :: ms) i a = zdH ms i a
 | [],_,_ => rfl
 | x :: a,i,h => by
  have e : named (m :: ms) i = named ms i := by
   unfold named
   rw [List.any_cons]
   have : (m.f1 == (i : Int) && m.f0 != 1) = false := by
    rcases h with h | h
    ·rw [show (m.f1 == (i : Int)) = false from beq_eq_false_iff_ne.2 qj,Bool.false_and]
    ·rw [h]; simp
   rw [this,Bool.false_or]
  rw [zdH,zdH,e,zef m ms a (i + 1) (h.imp (fun h => by omega) id)]
theorem zbQ.kept {i : Nat} {a b : List ByteArray} {ms : List S63} (h : zbQ i a b ms) : (zdH ms i a).Sublist b ∧ ((zdH ms i a).length : Int) + zcd ms = b.length := by
 induction h with
 | nil i => exact ⟨List.Sublist.refl _,rfl⟩
 | @ins i a b ms y h ih =>
  rw [zef _ _ _ _ (.inr rfl)]
  refine ⟨ih.1.cons y,?_⟩
  simp [zcd]; omega
 | @del i a b ms x h ih =>
  have e : named (⟨3,(i : Int),⟨#[]⟩⟩ :: ms) i = true := by simp [named]
  rw [zdH,if_pos e,zef _ _ _ _ (.inl qI)]
  refine ⟨ih.1,?_⟩
  simp [zcd]; omega
 | @set i a b ms x y h ih =>
  have e : named (⟨2,(i : Int),y⟩ :: ms) i = true := by simp [named]
  rw [zdH,if_pos e,zef _ _ _ _ (.inl qI)]
  refine ⟨ih.1.cons y,?_⟩
  simp [zcd]; omega
 | @keep i a b ms x h ih =>
  have e : named ms i = false := by
   unfold named
   rw [List.any_eq_false]
   intro m hm
   have := h.ge m hm
   have : (m.f1 == (i : Int)) = false := beq_eq_false_iff_ne.2 qj
   simp [this]
  rw [zdH,e,if_neg qt]
  refine ⟨ih.1.cons_cons x,?_⟩
  simp only [List.length_cons]; omega
def okP (v : Int) : Prop := (97 ≤ v ∧ v ≤ 122) ∨ (48 ≤ v ∧ v ≤ 57) ∨ v = 32
theorem zkY {A : Nat → Option Int} {v r : Int} (hok : okP v → Ev A r) (hbad : ¬ okP v → r = 2) :
  Ev (fun k => if v < 97 then (if v < 48 then (if v = 32 then A k else some 2) else (if v > 57 then (if v = 32 then A k else some 2) else A k)) else (if v > 122 then (if v < 48 then (if v = 32 then A k else some 2) else (if v > 57 then (if v = 32 then A k else some 2) else A k)) else A k)) r := by
 unfold okP at hok hbad
 by_cases c1 : v < 97
 ·refine Ev.ifp c1 ?_
  by_cases c2 : v < 48
  ·refine Ev.ifp c2 ?_
   by_cases c3 : v = 32
   ·exact Ev.ifp c3 (hok qj)
   ·refine Ev.ifn c3 ?_
    rw [hbad qj]; exact Ev.now _
  ·refine Ev.ifn c2 ?_
   by_cases c3 : v > 57
   ·refine Ev.ifp c3 (Ev.ifn qj ?_)
    rw [hbad qj]; exact Ev.now _
   ·exact Ev.ifn c3 (hok qj)
 ·refine Ev.ifn c1 ?_
  by_cases c2 : v > 122
  ·refine Ev.ifp c2 (Ev.ifn qj (Ev.ifp qj (Ev.ifn qj ?_)))
   rw [hbad qj]; exact Ev.now _
  ·exact Ev.ifn c2 (hok qj)
theorem zin (c : UInt8) : okb c = true ↔ okP (c.toNat : Int) := by
 rw [zij]; unfold okP
 simp only [Bool.or_eq_true,Bool.and_eq_true,decide_eq_true_eq]
 omega
theorem zkI (s : ByteArray) (i : Nat) (h : i < s.data.toList.length) : bt s (i : Int) = (s.data.toList[i].toNat : Int) := by
 have h' : i < s.size := by simpa using h
 simp only [bt,Int.toNat_natCast]
 rw [dif_pos h']
 simp [ByteArray.getElem_eq_getElem_data]
theorem zfh (s : ByteArray) : Ev (fun k => zab.f k s) (zbb s) := by
 have hsz : s.size = s.data.toList.length := by simp
 obtain ⟨L,hL⟩ : ∃ L,s.data.toList = L := ⟨_,rfl⟩
 have hbt : ∀ (i : Nat) (h : i < L.length),bt s (i : Int) = (L[i].toNat : Int) := by subst hL; exact zkI s
 unfold zab.f zbb
 rw [hsz,hL]
 by_cases h0 : L.length = 0
 ·simp only [if_pos h0]
  exact Ev.ifp qj (Ev.now _)
 ·simp only [if_neg h0]
  refine Ev.ifn qj ?_
  by_cases h10 : 10 < L.length
  ·simp only [if_pos h10]
   exact Ev.ifp qj (Ev.now _)
  ·simp only [if_neg h10]
   refine Ev.ifn qj ?_
   have hfin : ∀ r,(if L.head? = some 32 ∨ L.getLast? = some 32 then (2 : Int) else 0) = r → Ev (fun _ => if 0 < (s.size : Int) then (if (bt s 0) = 32 then (some 2) else (if 0 ≤ (wrap64 ((s.size : Int) - 1)) then (if (wrap64 ((s.size : Int) - 1)) < (s.size : Int) then (if (bt s (wrap64 ((s.size : Int) - 1))) = 32 then (some 2) else (some 0)) else (none)) else (none))) else (none)) r := by
    intro r hr
    have e0 := hbt 0 qj
    have e1 := hbt (L.length - 1) qj
    have hs1 : ((L.length - 1 : Nat) : Int) = (L.length : Int) - 1 := by omega
    rw [hs1] at e1
    have e0' : bt s 0 = (L[0].toNat : Int) := e0
    have hh : L.head? = some L[0] := by rw [List.head?_eq_getElem?,List.getElem?_eq_getElem qj]
    have ht : L.getLast? = some L[L.length - 1] := by rw [List.getLast?_eq_getElem?,List.getElem?_eq_getElem qj]
    have u32 : ∀ c : UInt8,(some c = some (32 : UInt8)) ↔ (c.toNat : Int) = 32 := by
     intro c
     rw [Option.some.injEq, ← UInt8.toNat_inj]
     constructor
     ·intro h; rw [h]; rfl
     ·intro h; have : c.toNat = 32 := by omega
      rw [this]; rfl
    simp only [hh,ht,u32] at hr
    rw [hsz,hL,zcz qj qj,e0',e1]
    refine Ev.ifp qj ?_
    by_cases c0 : (L[0].toNat : Int) = 32
    ·rw [if_pos (.inl c0)] at hr
     rw [← hr]; exact Ev.ifp c0 (Ev.now _)
    ·refine Ev.ifn c0 (Ev.ifp qj (Ev.ifp qj ?_))
     by_cases c1 : (L[L.length - 1].toNat : Int) = 32
     ·rw [if_pos (.inr c1)] at hr
      rw [← hr]; exact Ev.ifp c1 (Ev.now _)
     ·rw [if_neg (fun h => h.elim c0 c1)] at hr
      rw [← hr]; exact Ev.ifn c1 (Ev.now _)
   have go : ∀ (m i : Nat),L.length - i = m → i ≤ L.length → Ev (fun k => zab.l0 k s (i : Int)) (if (L.drop i).all okb = true then (if L.head? = some 32 ∨ L.getLast? = some 32 then (2 : Int) else 0) else 2) := by
    intro m
    induction m with
    | zero =>
     intro i hm hi
     rw [List.drop_eq_nil_of_le qj,List.all_nil,if_pos rfl]
     refine Ev.step (fun k => by rw [zab.l0]) ?_
     refine Ev.ifn (by rw [hsz,hL]; omega) ?_
     exact hfin _ rfl
    | succ m ih =>
     intro i hm hi
     have hlt : i < L.length := by omega
     have hnext := ih (i + 1) qj qj
     rw [List.drop_eq_getElem_cons hlt,List.all_cons]
     refine Ev.step (fun k => by rw [zab.l0]) ?_
     refine Ev.ifp (by rw [hsz,hL]; omega) ?_
     refine Ev.ifp qj ?_
     rw [hbt i hlt,zby _ qj]
     refine zkY ?_ ?_
     ·intro hk
      rw [(zin _).2 hk,Bool.true_and]
      exact hnext
     ·intro hk
      have : okb L[i] = false := Bool.eq_false_iff.2 (fun h => hk ((zin _).1 h))
      rw [this,Bool.false_and,if_neg qt]
   have := go L.length 0 qj qj
   rw [List.drop_zero] at this
   exact this
theorem zdS (p : List ByteArray) : Ev (fun k => zac.f k p) (zbe p) := by
 unfold zac.f zbe
 by_cases h6 : 6 < p.length
 ·simp only [if_pos h6]
  exact Ev.ifp qj (Ev.now _)
 ·simp only [if_neg h6]
  refine Ev.ifn qj ?_
  have go : ∀ (m i : Nat),p.length - i = m → i ≤ p.length → Ev (fun k => zac.l0 k p (i : Int)) (zcn (p.drop i)) := by
   intro m
   induction m with
   | zero =>
    intro i hm hi
    rw [List.drop_eq_nil_of_le qj,zcn]
    refine Ev.step (fun k => by rw [zac.l0]) ?_
    exact Ev.ifn qj (Ev.now _)
   | succ m ih =>
    intro i hm hi
    have hlt : i < p.length := by omega
    have r1 : za0 ByteArray.empty p (i : Int) = p[i] := by simp [za0,hlt]
    rw [List.drop_eq_getElem_cons hlt,zcn]
    refine Ev.step (fun k => by rw [zac.l0]) ?_
    refine Ev.ifp qj ?_
    refine Ev.ifp qj ?_
    rw [r1,zby _ qj]
    refine Ev.be (zfh _) ?_
    by_cases he : zbb p[i] = 0
    ·simp only [if_pos he]
     exact ih (i + 1) qj qj
    ·simp only [if_neg he]
     exact Ev.now _
  have := go p.length 0 qj qj
  rw [List.drop_zero] at this
  exact this
theorem zhv (n : Nat) (hn : n ≤ 1000) (ms : List S63) (hms : ms.length ≤ 1000) (i : Nat) (hi : i < ms.length) (x : S63) (hx : ms[i] = x) : Ev (fun k => zB.f k (n : Int) ms (i : Int)) (zbT n (zcB ms i) x) := by
 have r1 : zg ms (i : Int) = x := by simp [zg,hi,hx]
 obtain ⟨f0,f1,f2⟩ := x
 have J1 : ∀ kd : Int,kd = f0 → Ev (fun k => zB.j1 k ms (i : Int) kd f1 f2) (zb7 (zcB ms i) ⟨f0,f1,f2⟩) := by
  rintro kd rfl
  refine Ev.step (fun k => by rw [zB.j1]) ?_
  by_cases h0 : i = 0
  ·subst h0
   exact Ev.ifp rfl (Ev.now _)
  ·have hi1 : i - 1 < ms.length := by omega
   have w3 : wrap64 ((i : Int) - 1) = ((i - 1 : Nat) : Int) := by rw [zcz qj qj]; omega
   have hp : zcB ms i = some ms[i - 1] := by simp [zcB,h0,hi1]
   have r2 : zg ms ((i - 1 : Nat) : Int) = ms[i - 1] := by simp [zg,hi1]
   rw [hp,w3,r2]
   clear w3
   obtain ⟨q,hq⟩ : ∃ q,ms[i - 1] = q := ⟨_,rfl⟩
   rw [hq]
   refine Ev.ifn qj ?_
   refine Ev.ifp qj ?_
   refine Ev.ifp qj ?_
   simp only [zb7]
   by_cases c1 : f1 < q.f1
   ·simp only [if_pos c1]; exact Ev.now _
   ·simp only [if_neg c1]
    by_cases c2 : q.f1 < f1
    ·have hP : q.f1 < f1 ∨ q.f0 = 1 := .inl c2
     simp only [if_pos hP]
     refine Ev.ifp c2 ?_
     refine Ev.step (fun k => by rw [zB.j2]) ?_
     exact Ev.ifp rfl (Ev.now _)
    ·refine Ev.ifn c2 ?_
     refine Ev.step (fun k => by rw [zB.j2]) ?_
     by_cases c3 : q.f0 = 1
     ·have hP : q.f1 < f1 ∨ q.f0 = 1 := .inr c3
      simp only [if_pos hP]
      exact Ev.ifp (beq_iff_eq.2 c3) (Ev.now _)
     ·have hP : ¬ (q.f1 < f1 ∨ q.f0 = 1) := fun h => h.elim c2 c3
      simp only [if_neg hP]
      refine Ev.ifn (fun h => c3 (beq_iff_eq.1 h)) ?_
      by_cases c4 : kd = 1
      ·simp only [if_pos c4]; exact Ev.now _
      ·simp only [if_neg c4]; exact Ev.now _
 have J0 : ∀ b : Bool,(b = true ↔ (f1 < 0 ∨ (if f0 = 1 then (n : Int) else (n : Int) - 1) < f1)) → Ev (fun k => zB.j0 k ms (i : Int) b f0 f1 f2) (if f1 < 0 ∨ (if f0 = 1 then (n : Int) else (n : Int) - 1) < f1 then 3 else if zcc ⟨f0,f1,f2⟩ = 0 then zb7 (zcB ms i) ⟨f0,f1,f2⟩ else zcc ⟨f0,f1,f2⟩) := by
  intro b hb
  refine Ev.step (fun k => by rw [zB.j0]) ?_
  cases b with
  | true =>
   rw [if_pos (hb.1 rfl)]
   exact Ev.ifp rfl (Ev.now _)
  | false =>
   have hnot : ¬ (f1 < 0 ∨ (if f0 = 1 then (n : Int) else (n : Int) - 1) < f1) := fun h => by have := hb.2 h; cases this
   rw [if_neg hnot]
   refine Ev.ifn Bool.false_ne_true ?_
   unfold zcc
   dsimp only
   by_cases k3 : f0 = 3
   ·simp only [if_pos k3]
    by_cases ht : f2.toList = []
    ·simp only [if_pos ht,if_true]
     exact J1 _ rfl
    ·simp only [if_neg ht]
     rw [if_neg qt]
     exact Ev.now _
   ·simp only [if_neg k3]
    refine Ev.be (zfh f2) ?_
    by_cases hl : zbb f2 = 0
    ·simp only [if_pos hl]
     exact J1 _ rfl
    ·simp only [if_neg hl]
     exact Ev.now _
 unfold zB.f zbT
 rw [r1]
 dsimp only
 refine Ev.ifp qj (Ev.ifp qj ?_)
 unfold zaX.f
 have hw : wrap64 ((n : Int) - 1) = (n : Int) - 1 := zcz qj qj
 rw [hw]
 clear hw
 by_cases k0 : f0 < 1 ∨ 3 < f0
 ·rw [if_pos k0]
  by_cases k1 : f0 ≥ 1
  ·rw [if_pos k1,decide_eq_false qj]
   refine Ev.bs rfl ?_
   exact Ev.ifn Bool.false_ne_true (Ev.now _)
  ·rw [if_neg k1]
   refine Ev.bs rfl ?_
   exact Ev.ifn Bool.false_ne_true (Ev.now _)
 ·rw [if_neg k0,if_pos qj,decide_eq_true qj]
  refine Ev.bs rfl ?_
  refine Ev.ifp rfl ?_
  by_cases k1 : f1 ≥ 0
  ·rw [if_pos k1]
   refine Ev.bs rfl ?_
   by_cases k2 : f1 ≤ (n : Int) - 1
   ·refine Ev.ifp (decide_eq_true k2) ?_
    refine J0 false ?_
    constructor
    ·intro h; cases h
    ·intro h; by_cases k5 : f0 = 1
     ·rw [if_pos k5] at h; omega
     ·rw [if_neg k5] at h; omega
   ·refine Ev.ifn (by rw [decide_eq_false k2]; decide) ?_
    by_cases k5 : f0 = 1
    ·refine Ev.ifp k5 ?_
     refine J0 _ ?_
     rw [if_pos k5,bne_iff_ne]; omega
    ·refine Ev.ifn k5 ?_
     refine J0 true ?_
     rw [if_neg k5]; exact ⟨fun _ => by omega,fun _ => rfl⟩
  ·rw [if_neg k1]
   refine Ev.bs rfl ?_
   refine Ev.ifn Bool.false_ne_true ?_
   by_cases k5 : f0 = 1
   ·refine Ev.ifp k5 ?_
    refine J0 _ ?_
    rw [if_pos k5,bne_iff_ne]; omega
   ·refine Ev.ifn k5 ?_
    refine J0 true ?_
    rw [if_neg k5]; exact ⟨fun _ => by omega,fun _ => rfl⟩
theorem zha (n : Nat) (hn : n ≤ 1000) (ms : List S63) : Ev (fun k => zas.f k (n : Int) ms) (zcS n ms) := by
 unfold zas.f zcS
 by_cases h : 12 < ms.length
 ·simp only [if_pos h]
  exact Ev.ifp qj (Ev.now _)
 ·simp only [if_neg h]
  refine Ev.ifn qj ?_
  have go : ∀ (m i : Nat),ms.length - i = m → i ≤ ms.length → Ev (fun k => zas.l0 k (n : Int) ms (i : Int)) (zbH n (zcB ms i) (ms.drop i)) := by
   intro m
   induction m with
   | zero =>
    intro i hm hi
    rw [List.drop_eq_nil_of_le qj,zbH]
    refine Ev.step (fun k => by rw [zas.l0]) ?_
    exact Ev.ifn qj (Ev.now _)
   | succ m ih =>
    intro i hm hi
    have hlt : i < ms.length := by omega
    have hp1 : zcB ms (i + 1) = some ms[i] := by simp [zcB,hlt]
    have hnext := ih (i + 1) qj qj
    rw [hp1] at hnext
    rw [List.drop_eq_getElem_cons hlt,zbH]
    refine Ev.step (fun k => by rw [zas.l0]) ?_
    refine Ev.ifp qj ?_
    rw [zby _ qj]
    refine Ev.be (zhv n hn ms qj i hlt _ rfl) ?_
    by_cases he : zbT n (zcB ms i) ms[i] = 0
    ·simp only [if_pos he]; exact hnext
    ·simp only [if_neg he]; exact Ev.now _
  have := go ms.length 0 qj qj
  rw [List.drop_zero] at this
  exact this
theorem zhX (p : List ByteArray) (ms : List S63) : Ev (fun k => zbo.f k p ms) (zca p ms) := by
 unfold zbo.f zca
 refine Ev.be (zdS p) ?_
 by_cases h : zbe p = 0
 ·simp only [if_pos h]
  have := zch h
  exact Ev.be (zha p.length qj ms) (Ev.now _)
 ·simp only [if_neg h]; exact Ev.now _
def zbl (i : Int) (st : List ByteArray × Bool × ByteArray) (m : S63) : List ByteArray × Bool × ByteArray :=
 if m.f1 = i then (if m.f0 = 1 then (st.1 ++ [m.f2],st.2.1,st.2.2) else if m.f0 = 2 then (st.1,st.2.1,m.f2) else (st.1,false,st.2.2)) else st
theorem zea (i : Int) : ∀ (ms : List S63) (st : List ByteArray × Bool × ByteArray),(∀ m ∈ ms,m.f1 ≠ i) → ms.foldl (zbl i) st = st
 | [],_,_ => rfl
 | m :: ms,st,h => by
  rw [List.foldl_cons,show zbl i st m = st from by unfold zbl; rw [if_neg (h m List.mem_cons_self)]]
  exact zea i ms st (fun x hx => h x (List.mem_cons_of_mem _ hx))
theorem zfx (i : Nat) : ∀ (ys : List ByteArray) (acc : List ByteArray) (b : Bool) (t : ByteArray),(ys.map fun y => (⟨1,(i : Int),y⟩ : S63)).foldl (zbl i) (acc,b,t) = (acc ++ ys,b,t)
 | [],acc,b,t => by simp
 | y :: ys,acc,b,t => by
  rw [List.map_cons,List.foldl_cons]
  have e : zbl (i : Int) (acc,b,t) ⟨1,(i : Int),y⟩ = (acc ++ [y],b,t) := by simp [zbl]
  rw [e,zfx i ys (acc ++ [y]) b t,List.append_assoc,List.singleton_append]
theorem zbQ.zlB {i : Nat} {a b : List ByteArray} {ms : List S63} (h : zbQ i a b ms) : ∃ (ys : List ByteArray) (ms1 : List S63) (b1 : List ByteArray),ms = (ys.map fun y => (⟨1,(i : Int),y⟩ : S63)) ++ ms1 ∧ b = ys ++ b1 ∧
  ((a = [] ∧ ms1 = [] ∧ b1 = []) ∨ (∃ x a' ms2,a = x :: a' ∧ ms1 = ⟨3,(i : Int),⟨#[]⟩⟩ :: ms2 ∧ zbQ (i + 1) a' b1 ms2) ∨ (∃ x a' y ms2 b2,a = x :: a' ∧ ms1 = ⟨2,(i : Int),y⟩ :: ms2 ∧ b1 = y :: b2 ∧ zbQ (i + 1) a' b2 ms2) ∨ (∃ x a' b2,a = x :: a' ∧ b1 = x :: b2 ∧ zbQ (i + 1) a' b2 ms1)) := by
 induction h with
 | nil i => exact ⟨[],[],[],rfl,rfl, .inl ⟨rfl,rfl,rfl⟩⟩
 | @ins i a b ms y h ih =>
  obtain ⟨ys,ms1,b1,rfl,rfl,hr⟩ := ih
  exact ⟨y :: ys,ms1,b1,rfl,rfl,hr⟩
 | @del i a b ms x h ih => exact ⟨[],_,b,rfl,rfl, .inr (.inl ⟨x,a,ms,rfl,rfl,h⟩)⟩
 | @set i a b ms x y h ih => exact ⟨[],_,_,rfl,rfl, .inr (.inr (.inl ⟨x,a,y,ms,b,rfl,rfl,rfl,h⟩))⟩
 | @keep i a b ms x h ih => exact ⟨[],_,_,rfl,rfl, .inr (.inr (.inr ⟨x,a,b,rfl,rfl,h⟩))⟩
theorem zgC (p : List ByteArray) (M : List S63) (hM : M.length ≤ 1000) (i : Nat) (r : List ByteArray) : ∀ (m j : Nat) (acc : List ByteArray) (b : Bool) (t : ByteArray),M.length - j = m → j ≤ M.length → acc.length ≤ 10000000 + j →
  Ev (fun k => if (((M.drop j).foldl (zbl i) (acc,b,t)).2.1) = true then (if (((M.drop j).foldl (zbl i) (acc,b,t)).1).length < 8796093022208 then (zQ.l0 k p M ((((M.drop j).foldl (zbl i) (acc,b,t)).1) ++ [((M.drop j).foldl (zbl i) (acc,b,t)).2.2]) (wrap64 ((i : Int) + 1))) else (none)) else (zQ.l0 k p M (((M.drop j).foldl (zbl i) (acc,b,t)).1) (wrap64 ((i : Int) + 1)))) r →
  Ev (fun k => zQ.l1 k p M acc (i : Int) b t (j : Int)) r
 | 0,j,acc,b,t,hm,hj,ha,H => by
  rw [List.drop_eq_nil_of_le qj,List.foldl_nil] at H
  refine Ev.step (fun k => by rw [zQ.l1]) ?_
  exact Ev.ifn qj H
 | m + 1,j,acc,b,t,hm,hj,ha,H => by
  have hlt : j < M.length := by omega
  have r1 : zg M (j : Int) = M[j] := by simp [zg,hlt]
  have go := fun acc b t (ha : acc.length ≤ 10000000 + (j + 1)) => zgC p M hM i r m (j + 1) acc b t qj qj ha
  rw [List.drop_eq_getElem_cons hlt,List.foldl_cons] at H
  have hlt' : (j : Int) < (M.length : Int) := by omega
  refine Ev.step (fun k => by rw [zQ.l1]) ?_
  refine Ev.ifp hlt' ?_
  refine Ev.ifp qj ?_
  rw [r1,zby _ qj]
  by_cases c1 : M[j].f1 = (i : Int)
  ·refine Ev.ifp c1 ?_
   by_cases c2 : M[j].f0 = 1
   ·refine Ev.ifp c2 ?_
    have e : zbl (i : Int) (acc,b,t) M[j] = (acc ++ [M[j].f2],b,t) := by unfold zbl; rw [if_pos c1,if_pos c2]
    rw [e] at H
    refine Ev.ifp qj ?_
    exact go _ _ _ qM H
   ·refine Ev.ifn c2 ?_
    by_cases c3 : M[j].f0 = 2
    ·refine Ev.ifp c3 ?_
     have e : zbl (i : Int) (acc,b,t) M[j] = (acc,b,M[j].f2) := by unfold zbl; rw [if_pos c1,if_neg c2,if_pos c3]
     rw [e] at H
     exact go _ _ _ qj H
    ·refine Ev.ifn c3 ?_
     have e : zbl (i : Int) (acc,b,t) M[j] = (acc,false,t) := by unfold zbl; rw [if_pos c1,if_neg c2,if_neg c3]
     rw [e] at H
     exact go _ _ _ qj H
  ·refine Ev.ifn c1 ?_
   have e : zbl (i : Int) (acc,b,t) M[j] = (acc,b,t) := by unfold zbl; rw [if_neg c1]
   rw [e] at H
   exact go _ _ _ qj H
theorem zii (p : List ByteArray) (M : List S63) (hM : M.length ≤ 1000) (hp : p.length ≤ 1000) : ∀ (d i : Nat) (pre ms : List S63) (acc b : List ByteArray),p.length + 1 - i = d → i ≤ p.length → M = pre ++ ms → (∀ m ∈ pre,m.f1 < (i : Int)) → zbQ i (p.drop i) b ms → acc.length ≤ 3000 * i →
  Ev (fun k => zQ.l0 k p M acc (i : Int)) (acc ++ b)
 | 0,i,pre,ms,acc,b,hd,hi,_,_,_,_ => by omega
 | d + 1,i,pre,ms,acc,b,hd,hi,hM2,hpre,hmk,ha => by
  have hip : (i : Int) ≤ (p.length : Int) := by omega
  have hi6 : i ≤ 1000000 := by omega
  obtain ⟨ys,ms1,b1,e1,e2,hr⟩ := hmk.zlB
  have hys : ys.length ≤ 1000 := by
   have := congrArg List.length hM2
   rw [e1] at this
   simp at this; omega
  have hfold : ∀ (st : Bool) (t : ByteArray),(M.drop 0).foldl (zbl i) (acc,st,t) = ms1.foldl (zbl i) (acc ++ ys,st,t) := by
   intro st t
   rw [List.drop_zero,hM2,e1,List.foldl_append,List.foldl_append,zea (i : Int) pre _ (fun m hm => by have := hpre m hm; omega),zfx]
  have skip2 : ∀ {a' b' ms2},zbQ (i + 1) a' b' ms2 → ∀ st,ms2.foldl (zbl i) st = st := fun h st => zea (i : Int) _ st (fun m hm => by have := h.ge m hm; omega)
  have hnext := fun pre ms acc b (h1 : M = pre ++ ms) (h2 : ∀ m ∈ pre,m.f1 < ((i + 1 : Nat) : Int)) (h3 : zbQ (i + 1) (p.drop (i + 1)) b ms) (hlt : i < p.length) (h4 : acc.length ≤ 3000 * (i + 1)) =>
   zii p M hM hp d (i + 1) pre ms acc b qj hlt h1 h2 h3 h4
  have hlen : (acc ++ ys).length ≤ 3000 * i + 1000 := by rw [List.length_append]; omega
  have hpre2 : ∀ m ∈ pre ++ ys.map (fun y => (⟨1,(i : Int),y⟩ : S63)),m.f1 < ((i + 1 : Nat) : Int) := by
   intro m hm
   rcases List.mem_append.1 hm with h | h
   ·have := hpre m h; omega
   ·obtain ⟨y,_,rfl⟩ := List.mem_map.1 h
    dsimp only; omega
  refine Ev.step (fun k => by rw [zQ.l0]) ?_
  refine Ev.ifp hip ?_
  rcases hr with ⟨ha0,rfl,rfl⟩ | hr
  ·have hil : i = p.length := by
    have := congrArg List.length ha0
    simp at this; omega
   refine Ev.ifn qj ?_
   rw [decide_eq_false qj]
   refine Ev.step (fun k => by rw [zQ.j1]) ?_
   refine zgC p M hM i _ M.length 0 acc false _ qj qj qj ?_
   rw [hfold]
   refine Ev.ifn Bool.false_ne_true ?_
   rw [zby _ hi6,e2,List.append_nil]
   refine Ev.step (fun k => by rw [zQ.l0]) ?_
   exact Ev.ifn qj (Ev.now _)
  ·have hlt : i < p.length := by
    rcases hr with ⟨x,a',_,h,_⟩ | ⟨x,a',_,_,_,h,_⟩ | ⟨x,a',_,h,_⟩ <;>
    ·have := congrArg List.length h
     simp at this; omega
   have hlt' : (i : Int) < (p.length : Int) := by omega
   have hda : ∀ x a',p.drop i = x :: a' → p[i] = x ∧ p.drop (i + 1) = a' := by
    intro x a' h
    rw [List.drop_eq_getElem_cons hlt] at h
    injection h with h1 h2
    exact ⟨h1,h2⟩
   have r1 : za0 ByteArray.empty p (i : Int) = p[i] := by simp [za0,hlt]
   have hbig : ∀ zs : List ByteArray,zs.length ≤ 3000 * i + 1000 → zs.length < 8796093022208 := fun zs h => by omega
   refine Ev.ifp hlt' (Ev.ifp qj ?_)
   rw [decide_eq_true hlt',r1]
   refine Ev.step (fun k => by rw [zQ.j1]) ?_
   refine zgC p M hM i _ M.length 0 acc true _ qj qj qj ?_
   rw [hfold,zby _ hi6]
   rcases hr with ⟨x,a',ms2,h1,rfl,hmk2⟩ | ⟨x,a',y,ms2,b2,h1,rfl,rfl,hmk2⟩ | ⟨x,a',b2,h1,rfl,hmk2⟩
   ·obtain ⟨h2,h3⟩ := hda x a' h1
    have e : zbl (i : Int) (acc ++ ys,true,p[i]) ⟨3,(i : Int),⟨#[]⟩⟩ = (acc ++ ys,false,p[i]) := by simp [zbl]
    rw [List.foldl_cons,e,skip2 hmk2]
    refine Ev.ifn Bool.false_ne_true ?_
    rw [e2, ← List.append_assoc]
    refine hnext (pre ++ ys.map (fun y => (⟨1,(i : Int),y⟩ : S63)) ++ [⟨3,(i : Int),⟨#[]⟩⟩]) ms2 (acc ++ ys) b1 (by rw [hM2,e1]; simp) ?_ (by rw [h3]; exact hmk2) hlt qj
    intro m hm
    rcases List.mem_append.1 hm with h | h
    ·exact hpre2 m h
    ·rw [List.mem_singleton.1 h]; dsimp only; omega
   ·obtain ⟨h2,h3⟩ := hda x a' h1
    have e : zbl (i : Int) (acc ++ ys,true,p[i]) ⟨2,(i : Int),y⟩ = (acc ++ ys,true,y) := by simp [zbl]
    rw [List.foldl_cons,e,skip2 hmk2]
    refine Ev.ifp rfl (Ev.ifp (hbig _ hlen) ?_)
    rw [e2, ← List.append_assoc,show acc ++ ys ++ y :: b2 = (acc ++ ys ++ [y]) ++ b2 by simp]
    refine hnext (pre ++ ys.map (fun y => (⟨1,(i : Int),y⟩ : S63)) ++ [⟨2,(i : Int),y⟩]) ms2 (acc ++ ys ++ [y]) b2 (by rw [hM2,e1]; simp) ?_ (by rw [h3]; exact hmk2) hlt qN
    intro m hm
    rcases List.mem_append.1 hm with h | h
    ·exact hpre2 m h
    ·rw [List.mem_singleton.1 h]; dsimp only; omega
   ·obtain ⟨h2,h3⟩ := hda x a' h1
    rw [skip2 hmk2]
    refine Ev.ifp rfl (Ev.ifp (hbig _ hlen) ?_)
    dsimp only
    rw [e2, ← List.append_assoc,h2,show acc ++ ys ++ x :: b2 = (acc ++ ys ++ [x]) ++ b2 by simp]
    exact hnext (pre ++ ys.map (fun y => (⟨1,(i : Int),y⟩ : S63))) ms1 (acc ++ ys ++ [x]) b2 (by rw [hM2,e1]; simp) hpre2 (by rw [h3]; exact hmk2) hlt qN
theorem ziR (p : List ByteArray) (ms : List S63) (h : zca p ms = 0) : Ev (fun k => zQ.f k p ms) (zcL p ms) := by
 obtain ⟨h1,h2⟩ := zeJ h
 have l1 := zch h1
 have l2 := ze0 h2
 have := zii p ms qj qj _ 0 [] ms [] (zcL p ms) rfl (Nat.zero_le _) rfl (fun m hm => by cases hm) (by rw [List.drop_zero]; exact zeK h2) qz
 rw [List.nil_append] at this
 exact this
theorem zfW (p : List ByteArray) (ms : List S63) : Ev (fun k => zbL.f k p ms) (zcv p ms) := by
 unfold zbL.f zcv
 refine Ev.be (zhX p ms) ?_
 by_cases h : zca p ms = 0
 ·simp only [if_pos h]
  refine Ev.be (ziR p ms h) ?_
  by_cases h6 : 6 < (zcL p ms).length
  ·simp only [if_pos h6]
   exact Ev.ifp qj (Ev.now _)
  ·simp only [if_neg h6]
   exact Ev.ifn qj (Ev.now _)
 ·simp only [if_neg h]
  exact Ev.now _
theorem zek (ms : List S63) (hm : ms.length ≤ 1000) : Ev (fun k => zZ.f k ms) (zcd ms) := by
 have go : ∀ (m i : Nat) (n : Int),ms.length - i = m → i ≤ ms.length → 0 ≤ n → n ≤ (i : Int) → Ev (fun k => zZ.l0 k ms n (i : Int)) (n + zcd (ms.drop i)) := by
  intro m
  induction m with
  | zero =>
   intro i n hm hi h0 h1
   rw [List.drop_eq_nil_of_le qj,zcd,Int.add_zero]
   refine Ev.step (fun k => by rw [zZ.l0]) ?_
   exact Ev.ifn qj (Ev.now _)
  | succ m ih =>
   intro i n hm hi h0 h1
   have hlt : i < ms.length := by omega
   have hlt' : (i : Int) < (ms.length : Int) := by omega
   have r1 : zg ms (i : Int) = ms[i] := by simp [zg,hlt]
   rw [List.drop_eq_getElem_cons hlt,zcd]
   refine Ev.step (fun k => by rw [zZ.l0]) ?_
   refine Ev.ifp hlt' ?_
   refine Ev.ifp qj ?_
   rw [r1,zby _ qj]
   by_cases hc : ms[i].f0 = 3
   ·rw [if_pos hc,Int.zero_add]
    exact Ev.ifp hc (ih (i + 1) n qj qj h0 qj)
   ·rw [if_neg hc]
    refine Ev.ifn hc ?_
    rw [zcz qj qj]
    have := ih (i + 1) (n + 1) qj qj qj qj
    rw [Int.add_assoc] at this
    exact this
 have := go ms.length 0 0 qj qj qj qj
 rw [List.drop_zero,Int.zero_add] at this
 exact this
theorem zhs (p : List ByteArray) (hp : p.length ≤ 1000) : Ev (fun k => zaj.f k p p) true := ⟨p.length + 1,fun k hk => zgA p hp k qj⟩
theorem ziE (ms : List S63) (hp : ms.length ≤ 1000) : Ev (fun k => zaI.f k ms ms) true := by
 have go : ∀ (m i : Nat),ms.length - i = m → i ≤ ms.length → Ev (fun k => zaI.l0 k ms ms (i : Int)) true := by
  intro m
  induction m with
  | zero =>
   intro i h hi
   refine Ev.step (fun k => by rw [zaI.l0]) ?_
   exact Ev.ifn qj (Ev.now _)
  | succ m ih =>
   intro i h hi
   have hlt : (i : Int) < (ms.length : Int) := by omega
   refine Ev.step (fun k => by rw [zaI.l0]) ?_
   refine Ev.ifp hlt (Ev.ifp qj (Ev.ifp hlt ?_))
   refine Ev.ifn qz ?_
   rw [zby _ qj]
   exact ih (i + 1) qj qj
 unfold zaI.f
 exact Ev.ifp rfl (go ms.length 0 qj qj)
theorem zib (p : List ByteArray) (hp : p.length ≤ 9223372036854775807) : ∃ b : Bool,Ev (fun k => zaM.f k p) b ∧ (b = false → p.length ≤ 20) := by
 have go : ∀ (m i : Nat),p.length - i = m → i ≤ p.length → ∃ b : Bool,Ev (fun k => zaM.l0 k p (i : Int)) b ∧ (b = false → p.length ≤ 20) := by
  intro m
  induction m with
  | zero =>
   intro i h hi
   refine ⟨decide ((p.length : Int) > 20),?_,fun h => by have := of_decide_eq_false h; omega⟩
   refine Ev.step (fun k => by rw [zaM.l0]) ?_
   exact Ev.ifn qj (Ev.now _)
  | succ m ih =>
   intro i h hi
   have hlt : (i : Int) < (p.length : Int) := by omega
   have hw : wrap64 ((i : Int) + 1) = ((i + 1 : Nat) : Int) := by unfold wrap64; omega
   by_cases hc : ((za0 ByteArray.empty p (i : Int)).size : Int) > 30
   ·refine ⟨true,?_,fun h => by cases h⟩
    refine Ev.step (fun k => by rw [zaM.l0]) ?_
    exact Ev.ifp hlt (Ev.ifp qj (Ev.ifp hc (Ev.now _)))
   ·obtain ⟨b,h1,h2⟩ := ih (i + 1) qj qj
    refine ⟨b,?_,h2⟩
    refine Ev.step (fun k => by rw [zaM.l0]) ?_
    refine Ev.ifp hlt (Ev.ifp qj (Ev.ifn hc ?_))
    rw [hw]; exact h1
 exact go p.length 0 qj qj
theorem zkL (p : List S63) (hp : p.length ≤ 9223372036854775807) : ∃ b : Bool,Ev (fun k => za1.f k p) b ∧ (b = false → p.length ≤ 20) := by
 have go : ∀ (m i : Nat),p.length - i = m → i ≤ p.length → ∃ b : Bool,Ev (fun k => za1.l0 k p (i : Int)) b ∧ (b = false → p.length ≤ 20) := by
  intro m
  induction m with
  | zero =>
   intro i h hi
   refine ⟨decide ((p.length : Int) > 20),?_,fun h => by have := of_decide_eq_false h; omega⟩
   refine Ev.step (fun k => by rw [za1.l0]) ?_
   exact Ev.ifn qj (Ev.now _)
  | succ m ih =>
   intro i h hi
   have hlt : (i : Int) < (p.length : Int) := by omega
   have hw : wrap64 ((i : Int) + 1) = ((i + 1 : Nat) : Int) := by unfold wrap64; omega
   by_cases hc : ((zg p (i : Int)).f2.size : Int) > 30
   ·refine ⟨true,?_,fun h => by cases h⟩
    refine Ev.step (fun k => by rw [za1.l0]) ?_
    exact Ev.ifp hlt (Ev.ifp qj (Ev.ifp hc (Ev.now _)))
   ·obtain ⟨b,h1,h2⟩ := ih (i + 1) qj qj
    refine ⟨b,?_,h2⟩
    refine Ev.step (fun k => by rw [za1.l0]) ?_
    refine Ev.ifp hlt (Ev.ifp qj (Ev.ifn hc ?_))
    rw [hw]; exact h1
 exact go p.length 0 qj qj
def zeO (a b : S63) : Bool := if a.f1 = b.f1 then (if a.f0 = b.f0 then Op.bytesLess a.f2.toList b.f2.toList else decide (a.f0 < b.f0)) else decide (a.f1 < b.f1)
def ze4 (a b : S63) : Bool := a.f0 == b.f0 && a.f1 == b.f1 && a.f2.toList == b.f2.toList
def zdi : List S63 → List S63 → Bool
 | a :: x,b :: y => if ze4 a b = true then zdi x y else zeO a b
 | _,_ => false
def zcT (x y : List S63) : Bool := if zcd x = zcd y then (if x.length = y.length then zdi x y else decide (x.length < y.length)) else decide (zcd x < zcd y)
theorem zjM (a b : S63) : zbS.f a.f0 a.f1 a.f2 b.f0 b.f1 b.f2 = some (zeO a b) := by
 unfold zbS.f zeO
 split <;> (try split) <;> simp_all
theorem zd1 (x y : List S63) (hx : x.length ≤ 1000) (hy : y.length ≤ 1000) : Ev (fun k => zK.f k x y) (zcT x y) := by
 have go : ∀ (m i : Nat),x.length - i = m → i ≤ x.length → x.length = y.length → Ev (fun k => zK.l0 k x y (i : Int)) (zdi (x.drop i) (y.drop i)) := by
  intro m
  induction m with
  | zero =>
   intro i hm hi he
   rw [List.drop_eq_nil_of_le qj,show zdi [] (y.drop i) = false by cases y.drop i <;> rfl]
   refine Ev.step (fun k => by rw [zK.l0]) ?_
   exact Ev.ifn qj (Ev.now _)
  | succ m ih =>
   intro i hm hi he
   have hlt : i < x.length := by omega
   have hlt2 : i < y.length := by omega
   have c1 : (i : Int) < (x.length : Int) := by omega
   have c2 : (i : Int) < (y.length : Int) := by omega
   have r1 : zg x (i : Int) = x[i] := by simp [zg,hlt]
   have r2 : zg y (i : Int) = y[i] := by simp [zg,hlt2]
   have hn := ih (i + 1) qj qj he
   rw [List.drop_eq_getElem_cons hlt,List.drop_eq_getElem_cons hlt2,zdi]
   obtain ⟨a,ha⟩ : ∃ a,x[i] = a := ⟨_,rfl⟩
   obtain ⟨b,hb⟩ : ∃ b,y[i] = b := ⟨_,rfl⟩
   rw [ha] at r1 ⊢
   rw [hb] at r2 ⊢
   refine Ev.step (fun k => by rw [zK.l0]) ?_
   refine Ev.ifp c1 (Ev.ifp qj (Ev.ifp c2 ?_))
   rw [r1,r2,zby _ qj]
   by_cases hs : ze4 a b = true
   ·rw [if_pos hs]
    refine Ev.ifn ?_ hn
    unfold ze4 at hs
    simp only [Bool.and_eq_true] at hs
    obtain ⟨⟨h1,h2⟩,h3⟩ := hs
    rw [h1,h2,h3]; decide
   ·rw [if_neg hs]
    refine Ev.ifp ?_ (Ev.bs (zjM a b) (Ev.now _))
    unfold ze4 at hs
    cases h1 : (a.f0 == b.f0) <;> cases h2 : (a.f1 == b.f1) <;> cases h3 : (a.f2.toList == b.f2.toList) <;> simp_all
 unfold zK.f zcT
 refine Ev.be (zek x hx) ?_
 refine Ev.be (zek y hy) ?_
 by_cases hc : zcd x = zcd y
 ·simp only [if_pos hc]
  by_cases hl : x.length = y.length
  ·simp only [if_pos hl]
   refine Ev.ifp qj ?_
   have := go x.length 0 qj qj hl
   rw [List.drop_zero,List.drop_zero] at this
   exact this
  ·simp only [if_neg hl]
   refine Ev.ifn qj ?_
   rw [show decide (x.length < y.length) = decide ((x.length : Int) < (y.length : Int)) by rw [decide_eq_decide]; omega]
   exact Ev.now _
 ·simp only [if_neg hc]
  refine Ev.be (zek x hx) ?_
  refine Ev.be (zek y hy) ?_
  exact Ev.now _
def zbM (best : Option (List S63)) (l : List S63) : Option (List S63) := match best with
 | none => some l
 | some b => if zcT l b = true then some l else some b
def zcP : Option (List S63) → List S63
 | some l => l
 | none => []
def rdS (i : Nat) : List ByteArray → List ByteArray → List S63
 | [],[] => []
 | [],y :: b => zcP (zbM none (⟨1,i,y⟩ :: rdS i [] b))
 | _ :: a,[] => zcP (zbM none (⟨3,i,⟨#[]⟩⟩ :: rdS (i + 1) a []))
 | x :: a,y :: b => zcP (zbM (zbM (zbM (if x.toList = y.toList then some (rdS (i + 1) a b) else none) (⟨1,i,y⟩ :: rdS i (x :: a) b)) (⟨2,i,y⟩ :: rdS (i + 1) a b)) (⟨3,i,⟨#[]⟩⟩ :: rdS (i + 1) a (y :: b)))
termination_by a b => a.length + b.length
theorem zdt {best : Option (List S63)} {l : List S63} {n : Nat} (hb : (zcP best).length ≤ n) (hl : l.length ≤ n) : (zcP (zbM best l)).length ≤ n := by
 unfold zbM
 cases best with
 | none => exact hl
 | some b =>
  dsimp only
  split
  ·exact hl
  ·exact hb
theorem zeo (a : List ByteArray) : ∀ (b : List ByteArray) (i : Nat),(rdS i a b).length ≤ a.length + b.length := by
 induction a with
 | nil =>
  intro b
  induction b with
  | nil => intro i; rw [rdS]; simp
  | cons y b ih =>
   intro i; rw [rdS]
   have := ih i
   refine zdt (Nat.zero_le _) ?_
   simp only [List.length_cons] at this ⊢; omega
 | cons x a iha =>
  intro b
  induction b with
  | nil =>
   intro i; rw [rdS]
   have := iha [] (i + 1)
   refine zdt (Nat.zero_le _) ?_
   simp only [List.length_cons] at this ⊢; omega
  | cons y b ih =>
   intro i; rw [rdS]
   have h1 := ih i
   have h2 := iha (y :: b) (i + 1)
   have h3 := iha b (i + 1)
   simp only [List.length_cons] at h1 h2 ⊢
   refine zdt (zdt (zdt ?_ ?_) ?_) ?_
   ·split
    ·simp only [zcP]; omega
    ·simp [zcP]
   ·simp only [List.length_cons]; omega
   ·simp only [List.length_cons]; omega
   ·simp only [List.length_cons]; omega
theorem zle (ys : List (List ByteArray)) (hy : ys.length ≤ 9223372036854775807) (hp : ∀ p ∈ ys,p.length ≤ 9223372036854775807) : ∃ b : Bool,Ev (fun k => zaU.f k ys) b ∧ (b = false → ys.length ≤ 20 ∧ ∀ p ∈ ys,p.length ≤ 20) := by
 have go : ∀ (m i : Nat),ys.length - i = m → i ≤ ys.length → ∃ b : Bool,Ev (fun k => zaU.l0 k ys (i : Int)) b ∧ (b = false → ys.length ≤ 20 ∧ ∀ p ∈ ys.drop i,p.length ≤ 20) := by
  intro m
  induction m with
  | zero =>
   intro i h hi
   refine ⟨decide ((ys.length : Int) > 20),?_,fun h => ⟨by have := of_decide_eq_false h; omega,fun p hp => by rw [List.drop_eq_nil_of_le qj] at hp; cases hp⟩⟩
   refine Ev.step (fun k => by rw [zaU.l0]) ?_
   exact Ev.ifn qj (Ev.now _)
  | succ m ih =>
   intro i h hi
   have hlt : i < ys.length := by omega
   have c1 : (i : Int) < (ys.length : Int) := by omega
   have hw : wrap64 ((i : Int) + 1) = ((i + 1 : Nat) : Int) := by unfold wrap64; omega
   have r1 : zaK ys (i : Int) = ys[i] := by simp [zaK,hlt]
   obtain ⟨b,h1,h2⟩ := zib ys[i] (hp _ (List.getElem_mem _))
   cases b with
   | true =>
    refine ⟨true,?_,fun h => by cases h⟩
    refine Ev.step (fun k => by rw [zaU.l0]) ?_
    refine Ev.ifp c1 ?_
    refine Ev.ifp qj ?_
    rw [r1]
    refine Ev.be h1 ?_
    exact Ev.ifp rfl (Ev.now _)
   | false =>
    obtain ⟨b,h3,h4⟩ := ih (i + 1) qj qj
    refine ⟨b,?_,fun hb => ⟨(h4 hb).1,fun p hpm => ?_⟩⟩
    ·refine Ev.step (fun k => by rw [zaU.l0]) ?_
     refine Ev.ifp c1 ?_
     refine Ev.ifp qj ?_
     rw [r1]
     refine Ev.be h1 ?_
     refine Ev.ifn qt ?_
     rw [hw]; exact h3
    ·rw [List.drop_eq_getElem_cons hlt] at hpm
     rcases List.mem_cons.1 hpm with rfl | hpm
     ·exact h2 rfl
     ·exact (h4 hb).2 p hpm
 have := go ys.length 0 qj qj
 rw [List.drop_zero] at this
 exact this
theorem zh0 (ys : List (List ByteArray)) (hy : ys.length ≤ 1000) (hp : ∀ p ∈ ys,p.length ≤ 1000) : Ev (fun k => zaJ.f k ys) ys := by
 have go : ∀ (m i : Nat),ys.length - i = m → i ≤ ys.length → Ev (fun k => zaJ.l0 k ys (ys.take i) (i : Int)) ys := by
  intro m
  induction m with
  | zero =>
   intro i h hi
   rw [List.take_of_length_le qj]
   refine Ev.step (fun k => by rw [zaJ.l0]) ?_
   exact Ev.ifn qj (Ev.now _)
  | succ m ih =>
   intro i h hi
   have hlt : i < ys.length := by omega
   have r1 : zaK ys (i : Int) = ys[i] := by simp [zaK,hlt]
   refine Ev.step (fun k => by rw [zaJ.l0]) ?_
   refine Ev.ifp qj ?_
   refine Ev.ifp qj ?_
   rw [r1]
   refine Ev.bs (zd8 ys[i] (hp _ (List.getElem_mem _))) ?_
   refine Ev.ifp qV ?_
   rw [zby i qj, ← List.take_succ_eq_append_getElem hlt]
   exact ih (i + 1) qj qj
 have := go ys.length 0 qj qj
 rw [List.take_zero] at this
 exact this
theorem ziF (ys : List (List ByteArray)) (hy : ys.length ≤ 1000) (hp : ∀ p ∈ ys,p.length ≤ 1000) : Ev (fun k => zaG.f k ys ys) true := by
 have go : ∀ (m i : Nat),ys.length - i = m → i ≤ ys.length → Ev (fun k => zaG.l0 k ys ys (i : Int)) true := by
  intro m
  induction m with
  | zero =>
   intro i h hi
   refine Ev.step (fun k => by rw [zaG.l0]) ?_
   exact Ev.ifn qj (Ev.now _)
  | succ m ih =>
   intro i h hi
   have hlt : i < ys.length := by omega
   have r1 : zaK ys (i : Int) = ys[i] := by simp [zaK,hlt]
   refine Ev.step (fun k => by rw [zaG.l0]) ?_
   refine Ev.ifp qj ?_
   refine Ev.ifp qj ?_
   refine Ev.ifp qj ?_
   rw [r1]
   refine Ev.be (zhs ys[i] (hp _ (List.getElem_mem _))) ?_
   refine Ev.ifp rfl ?_
   rw [zby i qj]
   exact ih (i + 1) qj qj
 unfold zaG.f
 exact Ev.ifp rfl (go ys.length 0 qj qj)
end Go.Proofs.Ytgmbbfmbimofoaa.P
