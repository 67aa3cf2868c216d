-- MERGED BY A PROGRAM out of texts of this claim: hand work, and what a (turned) print of the kit has written for it
import Derived.Outline
import Derived.Test.YtgmbbfmbimofoaaMj22
import Derived.Test.YtgmbbfmbimofoaaMj7
import Derived.Test.YtgmbbfmbimofoaaMj18
import Derived.Test.YtgmbbfmbimofoaaMj5
import Derived.Test.YtgmbbfmbimofoaaMj6
import Derived.Test.YtgmbbfmbimofoaaMj21
namespace Go.Proofs.Ytgmbbfmbimofoaa.P
open Go.RowKit Go.Proofs.YtgmbbfmbimofoaaW.PrintWords Go.Proofs.YtgmbbfmbimofoaaW.PrintLast Go.Proofs.YtgmbbfmbimofoaaW.PrintMore
attribute [local go_sem] zO zN zT zS zI zJ zP zQ
set_option linter.unusedVariables false
set_option linter.unusedSimpArgs false
def zdH : ByteArray := ⟨#[97,110,110,97]⟩
def zeJ : ByteArray := ⟨#[98,101,110]⟩
def zi0 : ByteArray := ⟨#[99,121,100]⟩
def zgZ : ByteArray := ⟨#[98,101,97]⟩
def zg0 : ByteArray := ⟨#[99,105,100]⟩
def ziR : ByteArray := ⟨#[100,97,110]⟩
def zkx : ByteArray := ⟨#[97,98,101]⟩
def zdE : List ByteArray := [zdH,zeJ,zi0]
def zdl : List S63 := [⟨1,1,zgZ⟩,⟨2,2,zg0⟩]
def zeR : List (List ByteArray) := [[zdH,zeJ],[zdH,zi0]]
theorem zh8 : zbR.f 100 zdE zdl = some ([zdH,zgZ,zeJ,zg0],0) := by kernel_rfl
theorem zhu : za7.f 100 zeR [zdH,zeJ,ziR] = some ([1,0, -1],0) := by kernel_rfl
theorem zjw : zak.f 100 [zdH,zgZ,zeJ,zg0] [zdH,zgZ,zeJ,zg0] = some true := by kernel_rfl
theorem zif : zcA.f zdE [⟨1,0,zkx⟩,⟨3,1,⟨#[]⟩⟩,⟨3,2,⟨#[]⟩⟩] 3 = some ([1,0,2],0) := by kernel_rfl
theorem zjB : zaP.f 100 zdl zdl = some true := by kernel_rfl
theorem ziU : zaJ.f 100 [1,0,2] [1,0,2] = some true := by kernel_rfl
theorem ziZ : zaJ.f 100 [1,0, -1] [1,0, -1] = some true := by kernel_rfl
theorem zi4 : zdC.f 100 zdE [zdH,zgZ,zeJ,zg0] = some (zdl,0) := by kernel_rfl
theorem ziE : zb2.f 100 zeR [⟨1,2,ziR⟩] [zdH,zi0,zeJ,ziR] = some (2,2,0) := by kernel_rfl
set_option maxHeartbeats 4000000 in
set_option maxRecDepth 100000 in
theorem zd5 (w : World) : Calls Try.prog 18 #[] w fun e w' => e = .returned (.bool true) ∧ Below w.heap.size w w' := by
 go_enter Try.func18,Try.ntmps18
 have HB := za.mk (Below.refl w.heap.size w)
 go_wp2_with fail
 refine (zbP.calls zdE _ rfl).mono ?_
 rintro e w1 ⟨v1,rfl,hR1,hb1⟩
 replace HB := za.mk (zu HB.out hb1)
 obtain ⟨A1,c1,rfl,_,_⟩ := Kd.zaG hR1
 have F1 := za.mk hR1
 clear hR1 hb1
 go_wp2_with fail
 refine (zb9.calls zdl _ rfl).mono ?_
 rintro e w2 ⟨v2,rfl,hR2,hb2⟩
 replace HB := za.mk (zu HB.out hb2)
 replace F1 := za.mk (Kd.zR F1.out hb2)
 obtain ⟨A2,c2,rfl,_,_⟩ := Kd.zaG hR2
 have F2 := za.mk hR2
 clear hR2 hb2
 go_wp2_with fail
 refine (zbR.calls 100 _ _ zdE _ _ zdl [⟨#[97,110,110,97]⟩,⟨#[98,101,97]⟩,⟨#[98,101,110]⟩,⟨#[99,105,100]⟩] 0 _ (zbr F1.out).1 (zbr F1.out).2 (zbr F2.out).1 (zbr F2.out).2 zh8).mono ?_
 rintro e w3 ⟨v3,rfl,hR3,hb3⟩
 replace HB := za.mk (zu HB.out hb3)
 replace F1 := za.mk (Kd.zR F1.out hb3)
 replace F2 := za.mk (Kd.zR F2.out hb3)
 obtain ⟨A3,c3,rfl,_,_⟩ := Kd.zaG hR3
 have F3 := za.mk hR3
 clear hR3 hb3
 clear F1 F2
 go_wp2_with fail
 refine (zbP.calls zdE _ rfl).mono ?_
 rintro e w4 ⟨v4,rfl,hR4,hb4⟩
 replace HB := za.mk (zu HB.out hb4)
 replace F3 := za.mk (Kd.zR F3.out hb4)
 obtain ⟨A4,c4,rfl,_,_⟩ := Kd.zaG hR4
 have F4 := za.mk hR4
 clear hR4 hb4
 go_wp2_with fail
 have hbx := ze (Below.refl w4.heap.size w4) (.cells #[.string ⟨#[97,110,110,97]⟩, .string ⟨#[98,101,97]⟩, .string ⟨#[98,101,110]⟩, .string ⟨#[99,105,100]⟩] 9)
 have X1 := za.mk (heap_alloc_new w4 (.cells #[.string ⟨#[97,110,110,97]⟩, .string ⟨#[98,101,97]⟩, .string ⟨#[98,101,110]⟩, .string ⟨#[99,105,100]⟩] 9))
 replace HB := za.mk (zu HB.out hbx)
 replace F3 := za.mk (Kd.zR F3.out hbx)
 replace F4 := za.mk (Kd.zR F4.out hbx)
 obtain ⟨u4,hu⟩ : ∃ u_,w4.alloc (.cells #[.string ⟨#[97,110,110,97]⟩, .string ⟨#[98,101,97]⟩, .string ⟨#[98,101,110]⟩, .string ⟨#[99,105,100]⟩] 9) = u_ := ⟨_,rfl⟩
 rw [hu] at F3 F4 X1 HB ⊢
 clear hu hbx
 refine (zdC.calls 100 _ _ zdE _ _ [⟨#[97,110,110,97]⟩,⟨#[98,101,97]⟩,⟨#[98,101,110]⟩,⟨#[99,105,100]⟩] zdl 0 _ (zbr F4.out).1 (zbr F4.out).2 (zfn X1.out rfl qt) qt zi4).mono ?_
 rintro e w5 ⟨v5,rfl,hR5,hb5⟩
 replace HB := za.mk (zu HB.out hb5)
 replace F3 := za.mk (Kd.zR F3.out hb5)
 replace F4 := za.mk (Kd.zR F4.out hb5)
 replace X1 := za.mk (zB X1.out hb5)
 obtain ⟨A5,c5,rfl,_,_⟩ := Kd.zaG hR5
 have F5 := za.mk hR5
 clear hR5 hb5
 clear F4 X1
 go_wp2_with fail
 refine (zbP.calls zdE _ rfl).mono ?_
 rintro e w6 ⟨v6,rfl,hR6,hb6⟩
 replace HB := za.mk (zu HB.out hb6)
 replace F3 := za.mk (Kd.zR F3.out hb6)
 replace F5 := za.mk (Kd.zR F5.out hb6)
 obtain ⟨A6,c6,rfl,_,_⟩ := Kd.zaG hR6
 have F6 := za.mk hR6
 clear hR6 hb6
 go_wp2_with fail
 refine (zbx.calls 0 ⟨#[97,98,101]⟩ 1 0 ⟨#[97,98,101]⟩ _ rfl).mono ?_
 rintro e w7 ⟨rfl,hb7⟩
 replace HB := za.mk (zu HB.out hb7)
 replace F3 := za.mk (Kd.zR F3.out hb7)
 replace F5 := za.mk (Kd.zR F5.out hb7)
 replace F6 := za.mk (Kd.zR F6.out hb7)
 clear hb7
 go_wp2_with fail
 refine (zcd.calls 1 3 1 ⟨#[]⟩ _ rfl).mono ?_
 rintro e w8 ⟨rfl,hb8⟩
 replace HB := za.mk (zu HB.out hb8)
 replace F3 := za.mk (Kd.zR F3.out hb8)
 replace F5 := za.mk (Kd.zR F5.out hb8)
 replace F6 := za.mk (Kd.zR F6.out hb8)
 clear hb8
 go_wp2_with fail
 refine (zcd.calls 2 3 2 ⟨#[]⟩ _ rfl).mono ?_
 rintro e w9 ⟨rfl,hb9⟩
 replace HB := za.mk (zu HB.out hb9)
 replace F3 := za.mk (Kd.zR F3.out hb9)
 replace F5 := za.mk (Kd.zR F5.out hb9)
 replace F6 := za.mk (Kd.zR F6.out hb9)
 clear hb9
 go_wp2_with fail
 have hbx := ze (Below.refl w9.heap.size w9) (.cells #[.int .i64 1, .int .i64 0, .string ⟨#[97,98,101]⟩, .int .i64 3, .int .i64 1, .string ⟨#[]⟩, .int .i64 3, .int .i64 2, .string ⟨#[]⟩] 63)
 have X2 := za.mk (heap_alloc_new w9 (.cells #[.int .i64 1, .int .i64 0, .string ⟨#[97,98,101]⟩, .int .i64 3, .int .i64 1, .string ⟨#[]⟩, .int .i64 3, .int .i64 2, .string ⟨#[]⟩] 63))
 replace HB := za.mk (zu HB.out hbx)
 replace F3 := za.mk (Kd.zR F3.out hbx)
 replace F5 := za.mk (Kd.zR F5.out hbx)
 replace F6 := za.mk (Kd.zR F6.out hbx)
 obtain ⟨u9,hu⟩ : ∃ u_,w9.alloc (.cells #[.int .i64 1, .int .i64 0, .string ⟨#[97,98,101]⟩, .int .i64 3, .int .i64 1, .string ⟨#[]⟩, .int .i64 3, .int .i64 2, .string ⟨#[]⟩] 63) = u_ := ⟨_,rfl⟩
 rw [hu] at F3 F5 F6 X2 HB ⊢
 clear hu hbx
 refine (zcA.calls _ _ zdE _ _ [⟨1,0,⟨#[97,98,101]⟩⟩,⟨3,1,⟨#[]⟩⟩,⟨3,2,⟨#[]⟩⟩] 3 [1,0,2] 0 _ (zbr F6.out).1 (zbr F6.out).2 (zhk X2.out rfl qt) qt zif).mono ?_
 rintro e w10 ⟨v10,rfl,hR10,hb10⟩
 replace HB := za.mk (zu HB.out hb10)
 replace F3 := za.mk (Kd.zR F3.out hb10)
 replace F5 := za.mk (Kd.zR F5.out hb10)
 replace F6 := za.mk (Kd.zR F6.out hb10)
 replace X2 := za.mk (zB X2.out hb10)
 obtain ⟨A10,c10,rfl,_,_⟩ := Kd.zaG hR10
 have F7 := za.mk hR10
 clear hR10 hb10
 clear F6 X2
 go_wp2_with fail
 refine (zb8.calls zeR _ rfl).mono ?_
 rintro e w11 ⟨v11,rfl,hR11,hb11⟩
 replace HB := za.mk (zu HB.out hb11)
 replace F3 := za.mk (Kd.zR F3.out hb11)
 replace F5 := za.mk (Kd.zR F5.out hb11)
 replace F7 := za.mk (Kd.zR F7.out hb11)
 obtain ⟨A11,c11,rfl,_,_⟩ := Kd.zhq hR11
 have F8 := za.mk hR11
 clear hR11 hb11
 go_wp2_with fail
 have hbx := ze (Below.refl w11.heap.size w11) (.cells #[.string ⟨#[97,110,110,97]⟩, .string ⟨#[98,101,110]⟩, .string ⟨#[100,97,110]⟩] 9)
 have X3 := za.mk (heap_alloc_new w11 (.cells #[.string ⟨#[97,110,110,97]⟩, .string ⟨#[98,101,110]⟩, .string ⟨#[100,97,110]⟩] 9))
 replace HB := za.mk (zu HB.out hbx)
 replace F3 := za.mk (Kd.zR F3.out hbx)
 replace F5 := za.mk (Kd.zR F5.out hbx)
 replace F7 := za.mk (Kd.zR F7.out hbx)
 replace F8 := za.mk (Kd.zcM F8.out hbx)
 obtain ⟨u11,hu⟩ : ∃ u_,w11.alloc (.cells #[.string ⟨#[97,110,110,97]⟩, .string ⟨#[98,101,110]⟩, .string ⟨#[100,97,110]⟩] 9) = u_ := ⟨_,rfl⟩
 rw [hu] at F3 F5 F7 F8 X3 HB ⊢
 clear hu hbx
 refine (za7.calls 100 _ _ zeR _ _ [⟨#[97,110,110,97]⟩,⟨#[98,101,110]⟩,⟨#[100,97,110]⟩] [1,0, -1] 0 _ (Kd.zdR F8.out).2.2 (Kd.zdR F8.out).2.1 (zfn X3.out rfl qt) qt zhu).mono ?_
 rintro e w12 ⟨v12,rfl,hR12,hb12⟩
 replace HB := za.mk (zu HB.out hb12)
 replace F3 := za.mk (Kd.zR F3.out hb12)
 replace F5 := za.mk (Kd.zR F5.out hb12)
 replace F7 := za.mk (Kd.zR F7.out hb12)
 replace F8 := za.mk (Kd.zcM F8.out hb12)
 replace X3 := za.mk (zB X3.out hb12)
 obtain ⟨A12,c12,rfl,_,_⟩ := Kd.zaG hR12
 have F9 := za.mk hR12
 clear hR12 hb12
 clear F8 X3
 go_wp2_with fail
 refine (zb8.calls zeR _ rfl).mono ?_
 rintro e w13 ⟨v13,rfl,hR13,hb13⟩
 replace HB := za.mk (zu HB.out hb13)
 replace F3 := za.mk (Kd.zR F3.out hb13)
 replace F5 := za.mk (Kd.zR F5.out hb13)
 replace F7 := za.mk (Kd.zR F7.out hb13)
 replace F9 := za.mk (Kd.zR F9.out hb13)
 obtain ⟨A13,c13,rfl,_,_⟩ := Kd.zhq hR13
 have F10 := za.mk hR13
 clear hR13 hb13
 go_wp2_with fail
 refine (zbx.calls 2 ⟨#[100,97,110]⟩ 1 2 ⟨#[100,97,110]⟩ _ rfl).mono ?_
 rintro e w14 ⟨rfl,hb14⟩
 replace HB := za.mk (zu HB.out hb14)
 replace F3 := za.mk (Kd.zR F3.out hb14)
 replace F5 := za.mk (Kd.zR F5.out hb14)
 replace F7 := za.mk (Kd.zR F7.out hb14)
 replace F9 := za.mk (Kd.zR F9.out hb14)
 replace F10 := za.mk (Kd.zcM F10.out hb14)
 clear hb14
 go_wp2_with fail
 have hbx := ze (Below.refl w14.heap.size w14) (.cells #[.int .i64 1, .int .i64 2, .string ⟨#[100,97,110]⟩] 63)
 have X4 := za.mk (heap_alloc_new w14 (.cells #[.int .i64 1, .int .i64 2, .string ⟨#[100,97,110]⟩] 63))
 replace HB := za.mk (zu HB.out hbx)
 replace F3 := za.mk (Kd.zR F3.out hbx)
 replace F5 := za.mk (Kd.zR F5.out hbx)
 replace F7 := za.mk (Kd.zR F7.out hbx)
 replace F9 := za.mk (Kd.zR F9.out hbx)
 replace F10 := za.mk (Kd.zcM F10.out hbx)
 have e4 : (w14.alloc (.cells #[.int .i64 1, .int .i64 2, .string ⟨#[100,97,110]⟩] 63)).heap.size = w14.heap.size + 1 := Array.size_push _
 have hby := ze (Below.refl _ (w14.alloc (.cells #[.int .i64 1, .int .i64 2, .string ⟨#[100,97,110]⟩] 63))) (.cells #[.string ⟨#[97,110,110,97]⟩, .string ⟨#[99,121,100]⟩, .string ⟨#[98,101,110]⟩, .string ⟨#[100,97,110]⟩] 9)
 have X5 := za.mk (heap_alloc_new (w14.alloc (.cells #[.int .i64 1, .int .i64 2, .string ⟨#[100,97,110]⟩] 63)) (.cells #[.string ⟨#[97,110,110,97]⟩, .string ⟨#[99,121,100]⟩, .string ⟨#[98,101,110]⟩, .string ⟨#[100,97,110]⟩] 9))
 rw [e4] at X5
 replace HB := za.mk (zu HB.out hby)
 replace F3 := za.mk (Kd.zR F3.out hby)
 replace F5 := za.mk (Kd.zR F5.out hby)
 replace F7 := za.mk (Kd.zR F7.out hby)
 replace F9 := za.mk (Kd.zR F9.out hby)
 replace F10 := za.mk (Kd.zcM F10.out hby)
 replace X4 := za.mk (zB X4.out hby)
 obtain ⟨u14,hu⟩ : ∃ u_,(w14.alloc (.cells #[.int .i64 1, .int .i64 2, .string ⟨#[100,97,110]⟩] 63)).alloc (.cells #[.string ⟨#[97,110,110,97]⟩, .string ⟨#[99,121,100]⟩, .string ⟨#[98,101,110]⟩, .string ⟨#[100,97,110]⟩] 9) = u_ := ⟨_,rfl⟩
 rw [hu] at F3 F5 F7 F9 F10 X4 X5 HB ⊢
 clear hu hbx hby e4
 refine (zb2.calls 100 _ _ zeR _ _ [⟨1,2,⟨#[100,97,110]⟩⟩] _ _ [⟨#[97,110,110,97]⟩,⟨#[99,121,100]⟩,⟨#[98,101,110]⟩,⟨#[100,97,110]⟩] 2 2 0 _ (Kd.zdR F10.out).2.2 (Kd.zdR F10.out).2.1 (zhk X4.out rfl qt) qt (zfn X5.out rfl qt) qt ziE).mono ?_
 rintro e w15 ⟨rfl,hb15⟩
 replace HB := za.mk (zu HB.out hb15)
 replace F3 := za.mk (Kd.zR F3.out hb15)
 replace F5 := za.mk (Kd.zR F5.out hb15)
 replace F7 := za.mk (Kd.zR F7.out hb15)
 replace F9 := za.mk (Kd.zR F9.out hb15)
 replace F10 := za.mk (Kd.zcM F10.out hb15)
 replace X4 := za.mk (zB X4.out hb15)
 replace X5 := za.mk (zB X5.out hb15)
 clear hb15
 clear F10 X4 X5
 go_wp2_with fail
 have hbx := ze (Below.refl w15.heap.size w15) (.cells #[.int .i64 2, .int .i64 2] 54)
 replace HB := za.mk (zu HB.out hbx)
 replace F3 := za.mk (Kd.zR F3.out hbx)
 replace F5 := za.mk (Kd.zR F5.out hbx)
 replace F7 := za.mk (Kd.zR F7.out hbx)
 replace F9 := za.mk (Kd.zR F9.out hbx)
 have e4 : (w15.alloc (.cells #[.int .i64 2, .int .i64 2] 54)).heap.size = w15.heap.size + 1 := Array.size_push _
 have hby := ze (Below.refl _ (w15.alloc (.cells #[.int .i64 2, .int .i64 2] 54))) (.cells #[.string ⟨#[97,110,110,97]⟩, .string ⟨#[98,101,97]⟩, .string ⟨#[98,101,110]⟩, .string ⟨#[99,105,100]⟩] 9)
 have X6 := za.mk (heap_alloc_new (w15.alloc (.cells #[.int .i64 2, .int .i64 2] 54)) (.cells #[.string ⟨#[97,110,110,97]⟩, .string ⟨#[98,101,97]⟩, .string ⟨#[98,101,110]⟩, .string ⟨#[99,105,100]⟩] 9))
 rw [e4] at X6
 replace HB := za.mk (zu HB.out hby)
 replace F3 := za.mk (Kd.zR F3.out hby)
 replace F5 := za.mk (Kd.zR F5.out hby)
 replace F7 := za.mk (Kd.zR F7.out hby)
 replace F9 := za.mk (Kd.zR F9.out hby)
 obtain ⟨u15,hu⟩ : ∃ u_,(w15.alloc (.cells #[.int .i64 2, .int .i64 2] 54)).alloc (.cells #[.string ⟨#[97,110,110,97]⟩, .string ⟨#[98,101,97]⟩, .string ⟨#[98,101,110]⟩, .string ⟨#[99,105,100]⟩] 9) = u_ := ⟨_,rfl⟩
 rw [hu] at F3 F5 F7 F9 X6 HB ⊢
 clear hu hbx hby e4
 refine (zak.calls 100 _ _ [⟨#[97,110,110,97]⟩,⟨#[98,101,97]⟩,⟨#[98,101,110]⟩,⟨#[99,105,100]⟩] _ _ [⟨#[97,110,110,97]⟩,⟨#[98,101,97]⟩,⟨#[98,101,110]⟩,⟨#[99,105,100]⟩] true _ (zbr F3.out).1 (zbr F3.out).2 (zfn X6.out rfl qt) qt zjw).mono ?_
 rintro e w16 ⟨rfl,nd16,hw16⟩
 have hb16 : Below u15.heap.size u15 w16 := by rw [hw16]; exact zb (Below.refl _ _) _
 clear hw16
 replace HB := za.mk (zu HB.out hb16)
 replace F3 := za.mk (Kd.zR F3.out hb16)
 replace F5 := za.mk (Kd.zR F5.out hb16)
 replace F7 := za.mk (Kd.zR F7.out hb16)
 replace F9 := za.mk (Kd.zR F9.out hb16)
 replace X6 := za.mk (zB X6.out hb16)
 clear hb16
 clear F3 X6
 go_wp2_with fail
 refine (zb9.calls zdl _ rfl).mono ?_
 rintro e w17 ⟨v17,rfl,hR17,hb17⟩
 replace HB := za.mk (zu HB.out hb17)
 replace F5 := za.mk (Kd.zR F5.out hb17)
 replace F7 := za.mk (Kd.zR F7.out hb17)
 replace F9 := za.mk (Kd.zR F9.out hb17)
 obtain ⟨A17,c17,rfl,_,_⟩ := Kd.zaG hR17
 have F11 := za.mk hR17
 clear hR17 hb17
 go_wp2_with fail
 refine (zaP.calls 100 _ _ zdl _ _ zdl true _ (zbr F5.out).1 (zbr F5.out).2 (zbr F11.out).1 (zbr F11.out).2 zjB).mono ?_
 rintro e w18 ⟨rfl,nd18,hw18⟩
 have hb18 : Below w17.heap.size w17 w18 := by rw [hw18]; exact zb (Below.refl _ _) _
 clear hw18
 replace HB := za.mk (zu HB.out hb18)
 replace F5 := za.mk (Kd.zR F5.out hb18)
 replace F7 := za.mk (Kd.zR F7.out hb18)
 replace F9 := za.mk (Kd.zR F9.out hb18)
 replace F11 := za.mk (Kd.zR F11.out hb18)
 clear hb18
 clear F5 F11
 go_wp2_with fail
 have hbx := ze (Below.refl w18.heap.size w18) (.cells #[.int .i64 1, .int .i64 0, .int .i64 2] 3)
 have X7 := za.mk (heap_alloc_new w18 (.cells #[.int .i64 1, .int .i64 0, .int .i64 2] 3))
 replace HB := za.mk (zu HB.out hbx)
 replace F7 := za.mk (Kd.zR F7.out hbx)
 replace F9 := za.mk (Kd.zR F9.out hbx)
 obtain ⟨u18,hu⟩ : ∃ u_,w18.alloc (.cells #[.int .i64 1, .int .i64 0, .int .i64 2] 3) = u_ := ⟨_,rfl⟩
 rw [hu] at F7 F9 X7 HB ⊢
 clear hu hbx
 refine (zaJ.calls 100 _ _ [1,0,2] _ _ [1,0,2] true _ (zbr F7.out).1 (zbr F7.out).2 (ziz X7.out rfl qt) qt ziU).mono ?_
 rintro e w19 ⟨rfl,nd19,hw19⟩
 have hb19 : Below u18.heap.size u18 w19 := by rw [hw19]; exact zb (Below.refl _ _) _
 clear hw19
 replace HB := za.mk (zu HB.out hb19)
 replace F7 := za.mk (Kd.zR F7.out hb19)
 replace F9 := za.mk (Kd.zR F9.out hb19)
 replace X7 := za.mk (zB X7.out hb19)
 clear hb19
 clear F7 X7
 go_wp2_with fail
 have hbx := ze (Below.refl w19.heap.size w19) (.cells #[.int .i64 1, .int .i64 0, .int .i64 (-1)] 3)
 have X8 := za.mk (heap_alloc_new w19 (.cells #[.int .i64 1, .int .i64 0, .int .i64 (-1)] 3))
 replace HB := za.mk (zu HB.out hbx)
 replace F9 := za.mk (Kd.zR F9.out hbx)
 obtain ⟨u19,hu⟩ : ∃ u_,w19.alloc (.cells #[.int .i64 1, .int .i64 0, .int .i64 (-1)] 3) = u_ := ⟨_,rfl⟩
 rw [hu] at F9 X8 HB ⊢
 clear hu hbx
 refine (zaJ.calls 100 _ _ [1,0, -1] _ _ [1,0, -1] true _ (zbr F9.out).1 (zbr F9.out).2 (ziz X8.out rfl qt) qt ziZ).mono ?_
 rintro e w20 ⟨rfl,nd20,hw20⟩
 have hb20 : Below u19.heap.size u19 w20 := by rw [hw20]; exact zb (Below.refl _ _) _
 clear hw20
 replace HB := za.mk (zu HB.out hb20)
 replace F9 := za.mk (Kd.zR F9.out hb20)
 replace X8 := za.mk (zB X8.out hb20)
 clear hb20
 clear F9 X8
 go_wp2_with fail
 go_ret
 exact ⟨rfl,HB.out⟩
def named (ms : List S63) (i : Nat) : Bool := ms.any fun m => m.f1 == (i : Int) && m.f0 != 1
def zc3 (ms : List S63) : Nat → List ByteArray → List ByteArray
 | _,[] => []
 | i,x :: a => if named ms i = true then zc3 ms (i + 1) a else x :: zc3 ms (i + 1) a
theorem zdB (m : S63) (ms : List S63) : ∀ (a : List ByteArray) (i : Nat),(m.f1 < (i : Int) ∨ m.f0 = 1) → zc3 (m :: ms) i a = zc3 ms i a
 | [],_,_ => rfl
 | x :: a,i,h => by
  have e : named (m :: ms) i = named ms i := by
   unfold named
   rw [List.any_cons]
   have : (m.f1 == (i : Int) && m.f0 != 1) = false := by
    rcases h with h | h
    ·rw [show (m.f1 == (i : Int)) = false from beq_eq_false_iff_ne.2 qk,Bool.false_and]
    ·rw [h]; simp
   rw [this,Bool.false_or]
  rw [zc3,zc3,e,zdB m ms a (i + 1) (h.imp (fun h => by omega) id)]
theorem zbj.kept {i : Nat} {a b : List ByteArray} {ms : List S63} (h : zbj i a b ms) : (zc3 ms i a).Sublist b ∧ ((zc3 ms i a).length : Int) + zcD ms = b.length := by
 induction h with
 | nil i => exact ⟨List.Sublist.refl _,rfl⟩
 | @ins i a b ms y h ih =>
  rw [zdB _ _ _ _ (.inr rfl)]
  refine ⟨ih.1.cons y,?_⟩
  simp [zcD]; omega
 | @del i a b ms x h ih =>
  have e : named (⟨3,(i : Int),⟨#[]⟩⟩ :: ms) i = true := by simp [named]
  rw [zc3,if_pos e,zdB _ _ _ _ (.inl qI)]
  refine ⟨ih.1,?_⟩
  simp [zcD]; omega
 | @set i a b ms x y h ih =>
  have e : named (⟨2,(i : Int),y⟩ :: ms) i = true := by simp [named]
  rw [zc3,if_pos e,zdB _ _ _ _ (.inl qI)]
  refine ⟨ih.1.cons y,?_⟩
  simp [zcD]; omega
 | @keep i a b ms x h ih =>
  have e : named ms i = false := by
   unfold named
   rw [List.any_eq_false]
   intro m hm
   have := h.ge m hm
   have : (m.f1 == (i : Int)) = false := beq_eq_false_iff_ne.2 qk
   simp [this]
  rw [zc3,e,if_neg qt]
  refine ⟨ih.1.cons_cons x,?_⟩
  simp only [List.length_cons]; omega
end Go.Proofs.Ytgmbbfmbimofoaa.P
