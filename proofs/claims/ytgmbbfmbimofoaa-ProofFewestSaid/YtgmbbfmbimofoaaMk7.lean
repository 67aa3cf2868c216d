-- MERGED BY A PROGRAM out of texts of this claim: hand work, and what a (turned) print of the kit has written for it
import Derived.Lib.Strings
import Derived.Test.YtgmbbfmbimofoaaMk5
namespace Go.Proofs.Ytgmbbfmbimofoaa.P
open Go.RowKit Go.Proofs.YtgmbbfmbimofoaaW.PrintWords Go.Proofs.YtgmbbfmbimofoaaW.PrintLast Go.Proofs.YtgmbbfmbimofoaaW.PrintMore
attribute [local go_sem] zH zI zP zO zC zB zJ zK
set_option linter.unusedVariables false
set_option linter.unusedSimpArgs false
theorem ze0 : ∀ (x y : List UInt8),(!Op.bytesLess x y && !(x == y)) = Op.bytesLess y x
 | [],[] => by simp [Op.bytesLess]
 | _ :: _,[] => by simp [Op.bytesLess]
 | [],_ :: _ => by simp [Op.bytesLess]
 | a :: x,b :: y => by
  have ih := ze0 x y
  rw [Op.bytesLess,Op.bytesLess,List.cons_beq_cons, ← ih]
  rcases Nat.lt_trichotomy a.toNat b.toNat with h | h | h
  ·have h1 : a < b := h
   have h2 : ¬ b < a := fun h' => absurd h (Nat.lt_asymm h')
   have h3 : ¬ a = b := fun e => by subst e; exact absurd h (Nat.lt_irrefl _)
   have h3' : ¬ b = a := fun e => h3 e.symm
   simp [h1,h2,h3,h3']
  ·have e : a = b := UInt8.toNat_inj.mp h
   subst e
   simp [UInt8.lt_irrefl]
  ·have h1 : b < a := h
   have h2 : ¬ a < b := fun h' => absurd h (Nat.lt_asymm h')
   have h3 : ¬ a = b := fun e => by subst e; exact absurd h (Nat.lt_irrefl _)
   have h3' : ¬ b = a := fun e => h3 e.symm
   simp [h1,h2,h3,h3']
theorem zeL (t : TypeId) (a b : ByteArray) : binOp .gtr t (.string a) (.string b) = pure (.bool (Op.bytesLess b.toList a.toList)) := by
 rw [← ze0]; simp [binOp,Op.stringOp]
end Go.Proofs.Ytgmbbfmbimofoaa.P
namespace Go.Proofs.Ytgmbbfmbimofoaa.P
open Go.RowKit Go.Proofs.YtgmbbfmbimofoaaW.PrintWords Go.Proofs.YtgmbbfmbimofoaaW.PrintLast Go.Proofs.YtgmbbfmbimofoaaW.PrintMore
attribute [local go_sem] zH zI zP zO zC zB zJ zK
set_option linter.unusedVariables false
set_option linter.unusedSimpArgs false
attribute [local go_sem] zeL
def zay.l0 : Nat → Int → List Int → Int → Int → Option (Int)
 | 0,_,_,_,_ => none
 | k + 1,x3,x6,x7,x8 => if x8 < x7 then (if 0 ≤ x8 then (if x8 < (x6.length : Int) then (if (rd x6 x8) = x3 then (zay.l0 k x3 x6 x7 (wrap64 (x8 + 1))) else (some (rd x6 x8))) else (none)) else (none)) else (some x3)
def zay.f (k : Nat) (l0 : List Int) : Option (Int) := zay.l0 k 0 l0 (l0.length : Int) 0
set_option maxHeartbeats 8000000 in
set_option maxRecDepth 100000 in
theorem zay.calls (k : Nat) (A0 : Option Addr) (c0 : Nat) (l0 : List Int) (r : Int) (w : World) (hr0 : Kd.C (Kd.int .i64) w A0 l0.length l0) (hc0 : l0.length ≤ c0) (h : zay.f k l0 = some r) :
  Calls Try.prog 117 #[.slice A0 l0.length c0] w fun e w' => e = .returned (.int .i64 r) ∧ zz w w' := by
 have HR0 := za.mk hr0
 have HC0 := za.mk hc0
 clear hr0 hc0
 have H : (zay.l0 k 0 l0 (l0.length : Int) 0) = some r := h
 clear h
 have H' := za.mk H
 clear H
 go_enter Try.func117,Try.ntmps117
 go_wp2
 go_loopg [8] k (fun kq v8 w' => ∃ (x8_1 : Int),v8 = .int .i64 x8_1 ∧ za (zay.l0 kq 0 l0 (l0.length : Int) x8_1 = some r) ∧ za (kq ≤ k) ∧ zz w w')
 case atStart => exact ⟨(0),qm,H',⟨Nat.le_refl _⟩,by repeat (first | exact zz.refl _ | apply zz.step)⟩
 case round =>
  clear H'
  try clear c1
  obtain ⟨x8_1,rfl,HA,HK1,⟨m1,rfl⟩⟩ := hrel
  cases gk with
  | zero => exact absurd HA.out (by simp [zay.l0])
  | succ k1 =>
   have H := HA.out
   clear HA
   simp only [zay.l0] at H
   by_cases c2 : x8_1 < (l0.length : Int)
   ·rw [if_pos c2] at H
    have c2b0 : decide (x8_1 < (l0.length : Int)) = true := decide_eq_true c2
    clear c2
    by_cases c3 : 0 ≤ x8_1
    ·rw [if_pos c3] at H
     have c3b0 : decide (0 ≤ x8_1) = true := decide_eq_true c3
     clear c3
     by_cases c4 : x8_1 < (l0.length : Int)
     ·rw [if_pos c4] at H
      have c4b0 : decide (x8_1 < (l0.length : Int)) = true := decide_eq_true c4
      clear c4
      by_cases c5 : (rd l0 x8_1) = 0
      ·rw [if_pos c5] at H
       have c5b0 : ((rd l0 x8_1) == 0) = true := beq_iff_eq.mpr c5
       have c5b1 : ((rd l0 x8_1) != 0) = false := bne_eq_false_iff_eq.mpr c5
       clear c5
       have H' := za.mk H
       clear H
       have p101 : 0 ≤ (x8_1 : Int) := of_decide_eq_true qd
       have q101 : x8_1 < (l0.length : Int) := of_decide_eq_true qd
       obtain ⟨ad101,e101,hx101_0⟩ := Kd.zch HR0.out x8_1 p101 q101
       cases e101
       replace p101 := eq_true p101
       replace q101 := eq_true q101
       go_wp2
       go_roundg k1
       case measure => have := HK1.out; omega
       case rel => exact ⟨(wrap64 (x8_1 + 1)),qm,H',⟨by have := HK1.out; omega⟩,by repeat (first | exact zz.refl _ | apply zz.step)⟩
      ·rw [if_neg c5] at H
       have c5b0 : ((rd l0 x8_1) == 0) = false := beq_eq_false_iff_ne.mpr c5
       have c5b1 : ((rd l0 x8_1) != 0) = true := bne_iff_ne.mpr c5
       obtain rfl := Option.some.inj H
       have p101 : 0 ≤ (x8_1 : Int) := of_decide_eq_true qd
       have q101 : x8_1 < (l0.length : Int) := of_decide_eq_true qd
       obtain ⟨ad101,e101,hx101_0⟩ := Kd.zch HR0.out x8_1 p101 q101
       cases e101
       replace p101 := eq_true p101
       replace q101 := eq_true q101
       go_wp2
       go_ret
       exact ⟨by first | rfl | (simp; done) | (simp [*]; done),by repeat (first | exact zz.refl _ | apply zz.step)⟩
     ·rw [if_neg c4] at H
      exact absurd H qC
    ·rw [if_neg c3] at H
     exact absurd H qC
   ·rw [if_neg c2] at H
    have c2b0 : decide (x8_1 < (l0.length : Int)) = false := decide_eq_false c2
    clear c2
    obtain rfl := Option.some.inj H
    go_wp2
    go_ret
    exact ⟨by first | rfl | (simp; done) | (simp [*]; done),by repeat (first | exact zz.refl _ | apply zz.step)⟩
def cmp_isNaN_int.f (a0 : Int) : Option (Bool) := some (a0 != a0)
set_option maxHeartbeats 8000000 in
set_option maxRecDepth 100000 in
theorem cmp_isNaN_int.calls (a0 : Int) (r : Bool) (w : World) (h : cmp_isNaN_int.f a0 = some r) :
  Calls Try.prog 140 #[.int .i64 a0] w fun e w' => e = .returned (.bool r) ∧ zz w w' := by
 have H : (some (a0 != a0)) = some r := h
 clear h
 obtain rfl := Option.some.inj H
 go_enter Try.func140,Try.ntmps140
 go_wp2
 go_ret
 exact ⟨by first | rfl | (simp; done) | (simp [*]; done),by repeat (first | exact zz.refl _ | apply zz.step)⟩
def cmp_Compare_int.f (a0 : Int) (a1 : Int) : Option (Int) := (cmp_isNaN_int.f a0).bind fun t102 => ((cmp_isNaN_int.f a1).bind fun t103 => (if t102 = true then (if t103 = true then (some 0) else (some (-1))) else (if t103 = true then (some 1) else (if a0 < a1 then (some (-1)) else (if a0 > a1 then (some 1) else (some 0))))))
set_option maxHeartbeats 8000000 in
set_option maxRecDepth 100000 in
theorem cmp_Compare_int.calls (a0 : Int) (a1 : Int) (r : Int) (w : World) (h : cmp_Compare_int.f a0 a1 = some r) :
  Calls Try.prog 118 #[.int .i64 a0, .int .i64 a1] w fun e w' => e = .returned (.int .i64 r) ∧ zz w w' := by
 have H : ((cmp_isNaN_int.f a0).bind fun t102 => ((cmp_isNaN_int.f a1).bind fun t103 => (if t102 = true then (if t103 = true then (some 0) else (some (-1))) else (if t103 = true then (some 1) else (if a0 < a1 then (some (-1)) else (if a0 > a1 then (some 1) else (some 0))))))) = some r := h
 clear h
 replace H := Option.bind_eq_some_iff.mp H
 obtain ⟨t102,A30,H⟩ := H
 replace H : ((cmp_isNaN_int.f a1).bind fun t103 => (if t102 = true then (if t103 = true then (some 0) else (some (-1))) else (if t103 = true then (some 1) else (if a0 < a1 then (some (-1)) else (if a0 > a1 then (some 1) else (some 0)))))) = some r := H
 have A3 := za.mk A30
 clear A30
 replace H := Option.bind_eq_some_iff.mp H
 obtain ⟨t103,A40,H⟩ := H
 replace H : (if t102 = true then (if t103 = true then (some 0) else (some (-1))) else (if t103 = true then (some 1) else (if a0 < a1 then (some (-1)) else (if a0 > a1 then (some 1) else (some 0))))) = some r := H
 have A4 := za.mk A40
 clear A40
 by_cases c5 : t102 = true
 ·subst c5
  have H1 : (if t103 = true then (some 0) else (some (-1))) = some r := by rw [if_pos rfl] at H; exact H
  clear H
  have H := H1
  clear H1
  by_cases c6 : t103 = true
  ·subst c6
   have H1 : (some 0) = some r := by rw [if_pos rfl] at H; exact H
   clear H
   have H := H1
   clear H1
   obtain rfl := Option.some.inj H
   go_enter Try.func118,Try.ntmps118
   go_wp2_with (first | ((with_reducible refine zA (f := 140) rfl ?_); refine zW (some 8) rfl rfl Try.func140 qg rfl #[.int .i64 a0] rfl qb ?_; (with_reducible refine (cmp_isNaN_int.calls a0 true _ A3.out).mono ?_); rintro e w' ⟨rfl,⟨nd,rfl⟩⟩; refine ⟨_,rfl,?_⟩) | ((with_reducible refine zA (f := 140) rfl ?_); refine zW (some 10) rfl rfl Try.func140 qg rfl #[.int .i64 a1] rfl qb ?_; (with_reducible refine (cmp_isNaN_int.calls a1 true _ A4.out).mono ?_); rintro e w' ⟨rfl,⟨nd,rfl⟩⟩; refine ⟨_,rfl,?_⟩))
   go_ret
   exact ⟨by first | rfl | (simp; done) | (simp [*]; done),by repeat (first | exact zz.refl _ | apply zz.step)⟩
  ·replace c6 := Bool.eq_false_iff.mpr c6
   subst c6
   have H1 : (some (-1)) = some r := by rw [if_neg (show ¬ (false = true) by decide)] at H; exact H
   clear H
   have H := H1
   clear H1
   obtain rfl := Option.some.inj H
   go_enter Try.func118,Try.ntmps118
   go_wp2_with (first | ((with_reducible refine zA (f := 140) rfl ?_); refine zW (some 8) rfl rfl Try.func140 qg rfl #[.int .i64 a0] rfl qb ?_; (with_reducible refine (cmp_isNaN_int.calls a0 true _ A3.out).mono ?_); rintro e w' ⟨rfl,⟨nd,rfl⟩⟩; refine ⟨_,rfl,?_⟩) | ((with_reducible refine zA (f := 140) rfl ?_); refine zW (some 10) rfl rfl Try.func140 qg rfl #[.int .i64 a1] rfl qb ?_; (with_reducible refine (cmp_isNaN_int.calls a1 false _ A4.out).mono ?_); rintro e w' ⟨rfl,⟨nd,rfl⟩⟩; refine ⟨_,rfl,?_⟩))
   go_ret
   exact ⟨by first | rfl | (simp; done) | (simp [*]; done),by repeat (first | exact zz.refl _ | apply zz.step)⟩
 ·replace c5 := Bool.eq_false_iff.mpr c5
  subst c5
  have H1 : (if t103 = true then (some 1) else (if a0 < a1 then (some (-1)) else (if a0 > a1 then (some 1) else (some 0)))) = some r := by rw [if_neg (show ¬ (false = true) by decide)] at H; exact H
  clear H
  have H := H1
  clear H1
  by_cases c7 : t103 = true
  ·subst c7
   have H1 : (some 1) = some r := by rw [if_pos rfl] at H; exact H
   clear H
   have H := H1
   clear H1
   obtain rfl := Option.some.inj H
   go_enter Try.func118,Try.ntmps118
   go_wp2_with (first | ((with_reducible refine zA (f := 140) rfl ?_); refine zW (some 8) rfl rfl Try.func140 qg rfl #[.int .i64 a0] rfl qb ?_; (with_reducible refine (cmp_isNaN_int.calls a0 false _ A3.out).mono ?_); rintro e w' ⟨rfl,⟨nd,rfl⟩⟩; refine ⟨_,rfl,?_⟩) | ((with_reducible refine zA (f := 140) rfl ?_); refine zW (some 10) rfl rfl Try.func140 qg rfl #[.int .i64 a1] rfl qb ?_; (with_reducible refine (cmp_isNaN_int.calls a1 true _ A4.out).mono ?_); rintro e w' ⟨rfl,⟨nd,rfl⟩⟩; refine ⟨_,rfl,?_⟩))
   go_ret
   exact ⟨by first | rfl | (simp; done) | (simp [*]; done),by repeat (first | exact zz.refl _ | apply zz.step)⟩
  ·replace c7 := Bool.eq_false_iff.mpr c7
   subst c7
   have H1 : (if a0 < a1 then (some (-1)) else (if a0 > a1 then (some 1) else (some 0))) = some r := by rw [if_neg (show ¬ (false = true) by decide)] at H; exact H
   clear H
   have H := H1
   clear H1
   by_cases c8 : a0 < a1
   ·rw [if_pos c8] at H
    have c8b0 : decide (a0 < a1) = true := decide_eq_true c8
    clear c8
    obtain rfl := Option.some.inj H
    go_enter Try.func118,Try.ntmps118
    go_wp2_with (first | ((with_reducible refine zA (f := 140) rfl ?_); refine zW (some 8) rfl rfl Try.func140 qg rfl #[.int .i64 a0] rfl qb ?_; (with_reducible refine (cmp_isNaN_int.calls a0 false _ A3.out).mono ?_); rintro e w' ⟨rfl,⟨nd,rfl⟩⟩; refine ⟨_,rfl,?_⟩) | ((with_reducible refine zA (f := 140) rfl ?_); refine zW (some 10) rfl rfl Try.func140 qg rfl #[.int .i64 a1] rfl qb ?_; (with_reducible refine (cmp_isNaN_int.calls a1 false _ A4.out).mono ?_); rintro e w' ⟨rfl,⟨nd,rfl⟩⟩; refine ⟨_,rfl,?_⟩))
    go_ret
    exact ⟨by first | rfl | (simp; done) | (simp [*]; done),by repeat (first | exact zz.refl _ | apply zz.step)⟩
   ·rw [if_neg c8] at H
    have c8b0 : decide (a0 < a1) = false := decide_eq_false c8
    clear c8
    by_cases c9 : a0 > a1
    ·rw [if_pos c9] at H
     have c9b0 : decide (a1 < a0) = true := decide_eq_true c9
     clear c9
     obtain rfl := Option.some.inj H
     go_enter Try.func118,Try.ntmps118
     go_wp2_with (first | ((with_reducible refine zA (f := 140) rfl ?_); refine zW (some 8) rfl rfl Try.func140 qg rfl #[.int .i64 a0] rfl qb ?_; (with_reducible refine (cmp_isNaN_int.calls a0 false _ A3.out).mono ?_); rintro e w' ⟨rfl,⟨nd,rfl⟩⟩; refine ⟨_,rfl,?_⟩) | ((with_reducible refine zA (f := 140) rfl ?_); refine zW (some 10) rfl rfl Try.func140 qg rfl #[.int .i64 a1] rfl qb ?_; (with_reducible refine (cmp_isNaN_int.calls a1 false _ A4.out).mono ?_); rintro e w' ⟨rfl,⟨nd,rfl⟩⟩; refine ⟨_,rfl,?_⟩))
     go_ret
     exact ⟨by first | rfl | (simp; done) | (simp [*]; done),by repeat (first | exact zz.refl _ | apply zz.step)⟩
    ·rw [if_neg c9] at H
     have c9b0 : decide (a1 < a0) = false := decide_eq_false c9
     clear c9
     obtain rfl := Option.some.inj H
     go_enter Try.func118,Try.ntmps118
     go_wp2_with (first | ((with_reducible refine zA (f := 140) rfl ?_); refine zW (some 8) rfl rfl Try.func140 qg rfl #[.int .i64 a0] rfl qb ?_; (with_reducible refine (cmp_isNaN_int.calls a0 false _ A3.out).mono ?_); rintro e w' ⟨rfl,⟨nd,rfl⟩⟩; refine ⟨_,rfl,?_⟩) | ((with_reducible refine zA (f := 140) rfl ?_); refine zW (some 10) rfl rfl Try.func140 qg rfl #[.int .i64 a1] rfl qb ?_; (with_reducible refine (cmp_isNaN_int.calls a1 false _ A4.out).mono ?_); rintro e w' ⟨rfl,⟨nd,rfl⟩⟩; refine ⟨_,rfl,?_⟩))
     go_ret
     exact ⟨by first | rfl | (simp; done) | (simp [*]; done),by repeat (first | exact zz.refl _ | apply zz.step)⟩
def cmp_isNaN_string.f (a0 : ByteArray) : Option (Bool) := some (a0.toList != a0.toList)
set_option maxHeartbeats 8000000 in
set_option maxRecDepth 100000 in
theorem cmp_isNaN_string.calls (a0 : ByteArray) (r : Bool) (w : World) (h : cmp_isNaN_string.f a0 = some r) :
  Calls Try.prog 147 #[.string a0] w fun e w' => e = .returned (.bool r) ∧ zz w w' := by
 have H : (some (a0.toList != a0.toList)) = some r := h
 clear h
 obtain rfl := Option.some.inj H
 go_enter Try.func147,Try.ntmps147
 go_wp2
 go_ret
 exact ⟨by first | rfl | (simp; done) | (simp [*]; done),by repeat (first | exact zz.refl _ | apply zz.step)⟩
def za0.f (a0 : ByteArray) (a1 : ByteArray) : Option (Int) := (cmp_isNaN_string.f a0).bind fun t104 => ((cmp_isNaN_string.f a1).bind fun t105 => (if t104 = true then (if t105 = true then (some 0) else (some (-1))) else (if t105 = true then (some 1) else (if (Op.bytesLess a0.toList a1.toList) = true then (some (-1)) else (if (Op.bytesLess a1.toList a0.toList) = true then (some 1) else (some 0))))))
set_option maxHeartbeats 8000000 in
set_option maxRecDepth 100000 in
theorem za0.calls (a0 : ByteArray) (a1 : ByteArray) (r : Int) (w : World) (h : za0.f a0 a1 = some r) :
  Calls Try.prog 141 #[.string a0, .string a1] w fun e w' => e = .returned (.int .i64 r) ∧ zz w w' := by
 have H : ((cmp_isNaN_string.f a0).bind fun t104 => ((cmp_isNaN_string.f a1).bind fun t105 => (if t104 = true then (if t105 = true then (some 0) else (some (-1))) else (if t105 = true then (some 1) else (if (Op.bytesLess a0.toList a1.toList) = true then (some (-1)) else (if (Op.bytesLess a1.toList a0.toList) = true then (some 1) else (some 0))))))) = some r := h
 clear h
 replace H := Option.bind_eq_some_iff.mp H
 obtain ⟨t104,A30,H⟩ := H
 replace H : ((cmp_isNaN_string.f a1).bind fun t105 => (if t104 = true then (if t105 = true then (some 0) else (some (-1))) else (if t105 = true then (some 1) else (if (Op.bytesLess a0.toList a1.toList) = true then (some (-1)) else (if (Op.bytesLess a1.toList a0.toList) = true then (some 1) else (some 0)))))) = some r := H
 have A3 := za.mk A30
 clear A30
 replace H := Option.bind_eq_some_iff.mp H
 obtain ⟨t105,A40,H⟩ := H
 replace H : (if t104 = true then (if t105 = true then (some 0) else (some (-1))) else (if t105 = true then (some 1) else (if (Op.bytesLess a0.toList a1.toList) = true then (some (-1)) else (if (Op.bytesLess a1.toList a0.toList) = true then (some 1) else (some 0))))) = some r := H
 have A4 := za.mk A40
 clear A40
 by_cases c5 : t104 = true
 ·subst c5
  have H1 : (if t105 = true then (some 0) else (some (-1))) = some r := by rw [if_pos rfl] at H; exact H
  clear H
  have H := H1
  clear H1
  by_cases c6 : t105 = true
  ·subst c6
   have H1 : (some 0) = some r := by rw [if_pos rfl] at H; exact H
   clear H
   have H := H1
   clear H1
   obtain rfl := Option.some.inj H
   go_enter Try.func141,Try.ntmps141
   go_wp2_with (first | ((with_reducible refine zA (f := 147) rfl ?_); refine zW (some 8) rfl rfl Try.func147 qg rfl #[.string a0] rfl qb ?_; (with_reducible refine (cmp_isNaN_string.calls a0 true _ A3.out).mono ?_); rintro e w' ⟨rfl,⟨nd,rfl⟩⟩; refine ⟨_,rfl,?_⟩) | ((with_reducible refine zA (f := 147) rfl ?_); refine zW (some 10) rfl rfl Try.func147 qg rfl #[.string a1] rfl qb ?_; (with_reducible refine (cmp_isNaN_string.calls a1 true _ A4.out).mono ?_); rintro e w' ⟨rfl,⟨nd,rfl⟩⟩; refine ⟨_,rfl,?_⟩))
   go_ret
   exact ⟨by first | rfl | (simp; done) | (simp [*]; done),by repeat (first | exact zz.refl _ | apply zz.step)⟩
  ·replace c6 := Bool.eq_false_iff.mpr c6
   subst c6
   have H1 : (some (-1)) = some r := by rw [if_neg (show ¬ (false = true) by decide)] at H; exact H
   clear H
   have H := H1
   clear H1
   obtain rfl := Option.some.inj H
   go_enter Try.func141,Try.ntmps141
   go_wp2_with (first | ((with_reducible refine zA (f := 147) rfl ?_); refine zW (some 8) rfl rfl Try.func147 qg rfl #[.string a0] rfl qb ?_; (with_reducible refine (cmp_isNaN_string.calls a0 true _ A3.out).mono ?_); rintro e w' ⟨rfl,⟨nd,rfl⟩⟩; refine ⟨_,rfl,?_⟩) | ((with_reducible refine zA (f := 147) rfl ?_); refine zW (some 10) rfl rfl Try.func147 qg rfl #[.string a1] rfl qb ?_; (with_reducible refine (cmp_isNaN_string.calls a1 false _ A4.out).mono ?_); rintro e w' ⟨rfl,⟨nd,rfl⟩⟩; refine ⟨_,rfl,?_⟩))
   go_ret
   exact ⟨by first | rfl | (simp; done) | (simp [*]; done),by repeat (first | exact zz.refl _ | apply zz.step)⟩
 ·replace c5 := Bool.eq_false_iff.mpr c5
  subst c5
  have H1 : (if t105 = true then (some 1) else (if (Op.bytesLess a0.toList a1.toList) = true then (some (-1)) else (if (Op.bytesLess a1.toList a0.toList) = true then (some 1) else (some 0)))) = some r := by rw [if_neg (show ¬ (false = true) by decide)] at H; exact H
  clear H
  have H := H1
  clear H1
  by_cases c7 : t105 = true
  ·subst c7
   have H1 : (some 1) = some r := by rw [if_pos rfl] at H; exact H
   clear H
   have H := H1
   clear H1
   obtain rfl := Option.some.inj H
   go_enter Try.func141,Try.ntmps141
   go_wp2_with (first | ((with_reducible refine zA (f := 147) rfl ?_); refine zW (some 8) rfl rfl Try.func147 qg rfl #[.string a0] rfl qb ?_; (with_reducible refine (cmp_isNaN_string.calls a0 false _ A3.out).mono ?_); rintro e w' ⟨rfl,⟨nd,rfl⟩⟩; refine ⟨_,rfl,?_⟩) | ((with_reducible refine zA (f := 147) rfl ?_); refine zW (some 10) rfl rfl Try.func147 qg rfl #[.string a1] rfl qb ?_; (with_reducible refine (cmp_isNaN_string.calls a1 true _ A4.out).mono ?_); rintro e w' ⟨rfl,⟨nd,rfl⟩⟩; refine ⟨_,rfl,?_⟩))
   go_ret
   exact ⟨by first | rfl | (simp; done) | (simp [*]; done),by repeat (first | exact zz.refl _ | apply zz.step)⟩
  ·replace c7 := Bool.eq_false_iff.mpr c7
   subst c7
   have H1 : (if (Op.bytesLess a0.toList a1.toList) = true then (some (-1)) else (if (Op.bytesLess a1.toList a0.toList) = true then (some 1) else (some 0))) = some r := by rw [if_neg (show ¬ (false = true) by decide)] at H; exact H
   clear H
   have H := H1
   clear H1
   by_cases c8 : (Op.bytesLess a0.toList a1.toList) = true
   ·rw [if_pos c8] at H
    have c8b0 : (Op.bytesLess a0.toList a1.toList) = true := c8
    clear c8
    obtain rfl := Option.some.inj H
    go_enter Try.func141,Try.ntmps141
    go_wp2_with (first | ((with_reducible refine zA (f := 147) rfl ?_); refine zW (some 8) rfl rfl Try.func147 qg rfl #[.string a0] rfl qb ?_; (with_reducible refine (cmp_isNaN_string.calls a0 false _ A3.out).mono ?_); rintro e w' ⟨rfl,⟨nd,rfl⟩⟩; refine ⟨_,rfl,?_⟩) | ((with_reducible refine zA (f := 147) rfl ?_); refine zW (some 10) rfl rfl Try.func147 qg rfl #[.string a1] rfl qb ?_; (with_reducible refine (cmp_isNaN_string.calls a1 false _ A4.out).mono ?_); rintro e w' ⟨rfl,⟨nd,rfl⟩⟩; refine ⟨_,rfl,?_⟩))
    go_ret
    exact ⟨by first | rfl | (simp; done) | (simp [*]; done),by repeat (first | exact zz.refl _ | apply zz.step)⟩
   ·rw [if_neg c8] at H
    have c8b0 : (Op.bytesLess a0.toList a1.toList) = false := by simpa using c8
    clear c8
    by_cases c9 : (Op.bytesLess a1.toList a0.toList) = true
    ·rw [if_pos c9] at H
     have c9b0 : (Op.bytesLess a1.toList a0.toList) = true := c9
     clear c9
     obtain rfl := Option.some.inj H
     go_enter Try.func141,Try.ntmps141
     go_wp2_with (first | ((with_reducible refine zA (f := 147) rfl ?_); refine zW (some 8) rfl rfl Try.func147 qg rfl #[.string a0] rfl qb ?_; (with_reducible refine (cmp_isNaN_string.calls a0 false _ A3.out).mono ?_); rintro e w' ⟨rfl,⟨nd,rfl⟩⟩; refine ⟨_,rfl,?_⟩) | ((with_reducible refine zA (f := 147) rfl ?_); refine zW (some 10) rfl rfl Try.func147 qg rfl #[.string a1] rfl qb ?_; (with_reducible refine (cmp_isNaN_string.calls a1 false _ A4.out).mono ?_); rintro e w' ⟨rfl,⟨nd,rfl⟩⟩; refine ⟨_,rfl,?_⟩))
     go_ret
     exact ⟨by first | rfl | (simp; done) | (simp [*]; done),by repeat (first | exact zz.refl _ | apply zz.step)⟩
    ·rw [if_neg c9] at H
     have c9b0 : (Op.bytesLess a1.toList a0.toList) = false := by simpa using c9
     clear c9
     obtain rfl := Option.some.inj H
     go_enter Try.func141,Try.ntmps141
     go_wp2_with (first | ((with_reducible refine zA (f := 147) rfl ?_); refine zW (some 8) rfl rfl Try.func147 qg rfl #[.string a0] rfl qb ?_; (with_reducible refine (cmp_isNaN_string.calls a0 false _ A3.out).mono ?_); rintro e w' ⟨rfl,⟨nd,rfl⟩⟩; refine ⟨_,rfl,?_⟩) | ((with_reducible refine zA (f := 147) rfl ?_); refine zW (some 10) rfl rfl Try.func147 qg rfl #[.string a1] rfl qb ?_; (with_reducible refine (cmp_isNaN_string.calls a1 false _ A4.out).mono ?_); rintro e w' ⟨rfl,⟨nd,rfl⟩⟩; refine ⟨_,rfl,?_⟩))
     go_ret
     exact ⟨by first | rfl | (simp; done) | (simp [*]; done),by repeat (first | exact zz.refl _ | apply zz.step)⟩
def zan.f (k : Nat) (a0_0 : Int) (a0_1 : Int) (a0_2 : ByteArray) (a1_0 : Int) (a1_1 : Int) (a1_2 : ByteArray) : Option (Int) := (cmp_Compare_int.f a0_1 a1_1).bind fun t108 => ((cmp_Compare_int.f a0_0 a1_0).bind fun t109 => ((za0.f a0_2 a1_2).bind fun t110 => ((zay.f k (([t108,t109,t110] : List Int))).bind fun t114 => (some t114))))
def zan.T1 : Bool × List (List Nat × List Nat) := (true,[([],[]),([0],[0]),([],[]),([2],[2]),([1,3],[1,3]),([],[]),([5],[5]),([],[]),([7],[7]),([6,8,4],[6,8]),([],[]),([10],[10]),([],[]),([12],[12]),([11,13,9],[11,13]),([4,9,14],[4,9,14]),([15,14],[15]),([16,16,0,1,2,3,4,5,6,7,8,9,10,11,12,13,14,15,16],[16])])
def zan.B1 : List Nat := [0,1,0,4,15,0,32,0,128,511,0,1024,0,4096,16383,32767,65535,131071]
theorem zan.zfq : zbD .any (opsOf Try.f120 1) = zan.T1 := by kernel_rfl
theorem zan.zeH : zcD zan.T1.2 zan.B1 = true := by kernel_rfl
set_option maxHeartbeats 8000000 in
set_option maxRecDepth 100000 in
theorem zan.calls (k : Nat) (a0_0 : Int) (a0_1 : Int) (a0_2 : ByteArray) (a1_0 : Int) (a1_1 : Int) (a1_2 : ByteArray) (r : Int) (w : World) (h : zan.f k a0_0 a0_1 a0_2 a1_0 a1_1 a1_2 = some r) :
  Calls Try.prog 120 #[.agg #[.int .i64 a0_0, .int .i64 a0_1, .string a0_2], .agg #[.int .i64 a1_0, .int .i64 a1_1, .string a1_2]] w fun e w' => e = .returned (.int .i64 r) ∧ Below w.heap.size w w' := by
 have hu63 := Try.underlying63
 have HB := za.mk (Below.refl w.heap.size w)
 have H : ((cmp_Compare_int.f a0_1 a1_1).bind fun t108 => ((cmp_Compare_int.f a0_0 a1_0).bind fun t109 => ((za0.f a0_2 a1_2).bind fun t110 => ((zay.f k (([t108,t109,t110] : List Int))).bind fun t114 => (some t114))))) = some r := h
 clear h
 replace H := Option.bind_eq_some_iff.mp H
 obtain ⟨t108,A30,H⟩ := H
 replace H : ((cmp_Compare_int.f a0_0 a1_0).bind fun t109 => ((za0.f a0_2 a1_2).bind fun t110 => ((zay.f k (([t108,t109,t110] : List Int))).bind fun t114 => (some t114)))) = some r := H
 have A3 := za.mk A30
 clear A30
 replace H := Option.bind_eq_some_iff.mp H
 obtain ⟨t109,A40,H⟩ := H
 replace H : ((za0.f a0_2 a1_2).bind fun t110 => ((zay.f k (([t108,t109,t110] : List Int))).bind fun t114 => (some t114))) = some r := H
 have A4 := za.mk A40
 clear A40
 replace H := Option.bind_eq_some_iff.mp H
 obtain ⟨t110,A50,H⟩ := H
 replace H : ((zay.f k (([t108,t109,t110] : List Int))).bind fun t114 => (some t114)) = some r := H
 have A5 := za.mk A50
 clear A50
 obtain ⟨y111,hy111⟩ : ∃ y_ : List Int,y_ = (([t108,t109,t110] : List Int)) := ⟨_,rfl⟩
 replace H : ((zay.f k y111).bind fun t114 => (some t114)) = some r := by first | (rw [hy111]; with_reducible exact H) | (have H2_ := (Option.bind_some _ _).symm.trans H; rw [hy111]; with_reducible exact H2_) | (have H2_ := (Option.bind_some _ _).symm.trans H; with_reducible exact H2_) | with_reducible exact H | (rw [hy111]; exact H) | exact H
 have Ny111 := za.mk hy111
 clear hy111
 replace H := Option.bind_eq_some_iff.mp H
 obtain ⟨t114,A60,H⟩ := H
 replace H : (some t114) = some r := H
 have A6 := za.mk A60
 clear A60
 obtain rfl := Option.some.inj H
 go_enter Try.func120,Try.ntmps120
 try go_wp2_with (first | ((with_reducible refine zaa (N := 2) rfl ?_); refine zao ?hg (N := 2) ?hd (cs := #[.int .i64 a0_0, .int .i64 a0_1, .string a0_2]) (t := 63) ?hr ?_; (case hd => rfl); (case hg => rfl); (case hr => exact qk); intro gb106 hg w7 hbox hb; have n0_ := za.mk (zo (qc HB.out) hb); have n1_ := za.mk (hbox); have n2_ := za.mk ((by rw [hg]; exact (zy (qc HB.out)) : w.heap.size ≤ gb106)); have n3_ := za.mk ((by rw [hg]; exact (zy (qc HB.out)) : w.heap.size ≤ gb106)); clear HB; have HB := n0_; have BK106 := n1_; have GW106 := n2_; have GE106 := n3_; clear n0_ n1_ n2_ n3_; clear hb hbox hg) | ((with_reducible refine zaa (N := 3) rfl ?_); refine zao ?hg (N := 3) ?hd (cs := #[.int .i64 a1_0, .int .i64 a1_1, .string a1_2]) (t := 63) ?hr ?_; (case hd => rfl); (case hg => rfl); (case hr => exact qk); intro gb107 hg w8 hbox hb; have n0_ := za.mk (zu (g := gb106) (o := .cells #[.int .i64 a0_0, .int .i64 a0_1, .string a0_2] 63 (0,0)) (qa BK106.out) hb); have n1_ := za.mk (zo (qf HB.out GE106.out) hb); have n2_ := za.mk (hbox); have n3_ := za.mk ((by rw [hg]; exact (zy (qf HB.out GE106.out)) : w.heap.size ≤ gb107)); have n4_ := za.mk ((by rw [hg]; exact (zy (qf HB.out GE106.out)) : w.heap.size ≤ gb107)); have n5_ := za.mk ((by rw [hg]; exact Nat.ne_of_lt (zR (g := gb106) (o := .cells #[.int .i64 a0_0, .int .i64 a0_1, .string a0_2] 63 (0,0)) (qa BK106.out)) : gb106 ≠ gb107)); have n6_ := za.mk ((by rw [hg]; exact Nat.ne_of_gt (zR (g := gb106) (o := .cells #[.int .i64 a0_0, .int .i64 a0_1, .string a0_2] 63 (0,0)) (qa BK106.out)) : gb107 ≠ gb106)); clear BK106; clear HB; have BK106 := n0_; have HB := n1_; have BK107 := n2_; have GW107 := n3_; have GE107 := n4_; have NB106_107 := n5_; have NB107_106 := n6_; clear n0_ n1_ n2_ n3_ n4_ n5_ n6_; clear hb hbox hg))
 have n0_ := za.mk (zm BK106.out)
 have n1_ := za.mk (zm BK107.out)
 have n2_ := za.mk (zg HB.out)
 clear BK106
 clear BK107
 clear HB
 have BK106 := n0_
 have BK107 := n1_
 have HB := n2_
 clear n0_ n1_ n2_
 refine zdx (n := 18) (S := fun w' => w'.cell? ⟨gb106,0,none⟩ = some (.int .i64 a0_0) ∧ w'.cell? ⟨gb106,1,none⟩ = some (.int .i64 a0_1) ∧ w'.cell? ⟨gb106,2,none⟩ = some (.string a0_2) ∧ w'.cell? ⟨gb107,0,none⟩ = some (.int .i64 a1_0) ∧ w'.cell? ⟨gb107,1,none⟩ = some (.int .i64 a1_1) ∧ w'.cell? ⟨gb107,2,none⟩ = some (.string a1_2)) (ds := []) #[false,false,false,false,false,false,false,false,false,false,false,false,false,false,false,false,false,false] qg rfl rfl ⟨(zf BK106.out 0).trans rfl,(zf BK106.out 1).trans rfl,(zf BK106.out 2).trans rfl,(zf BK107.out 0).trans rfl,(zf BK107.out 1).trans rfl,(zf BK107.out 2).trans rfl⟩ (fun hHeld => ?_); refine zcq zan.zfq zan.zeH (fun HT_ HW_ => ?_)
 generalize w8.drew = w9 at BK106 BK107 HB hHeld ⊢
 refine zaF (i := 0) (N := some 5) (v := ?_) (a' := ?_) #[true,false,false,false,false,false,false,false,false,false,false,false,false,false,false,false,false,false] rfl rfl (zas HT_.out qg) (fun _ _ _ h => h) (Or.inl ⟨by rfl,?_⟩) ?_ ?_
 rotate_left
 ·intro w'
  go_simp
  with_reducible rfl
 rotate_left
 ·simp only [Act.put,List.setIfInBounds_toArray,List.set_cons_zero,List.set_cons_succ,zS,zT]
  rfl
 refine zaF (i := 2) (N := some 7) (v := ?_) (a' := ?_) #[true,false,true,false,false,false,false,false,false,false,false,false,false,false,false,false,false,false] rfl rfl (zas HT_.out qg) (fun _ _ _ h => h) (Or.inl ⟨by rfl,?_⟩) ?_ ?_
 rotate_left
 ·intro w'
  go_simp
  with_reducible rfl
 rotate_left
 ·simp only [Act.put,List.setIfInBounds_toArray,List.set_cons_zero,List.set_cons_succ,zS,zT]
  rfl
 refine zaF (i := 5) (N := some 10) (v := ?_) (a' := ?_) #[true,false,true,false,false,true,false,false,false,false,false,false,false,false,false,false,false,false] rfl rfl (zas HT_.out qg) (fun _ _ _ h => h) (Or.inl ⟨by rfl,?_⟩) ?_ ?_
 rotate_left
 ·intro w'
  go_simp
  with_reducible rfl
 rotate_left
 ·simp only [Act.put,List.setIfInBounds_toArray,List.set_cons_zero,List.set_cons_succ,zS,zT]
  rfl
 refine zaF (i := 7) (N := some 12) (v := ?_) (a' := ?_) #[true,false,true,false,false,true,false,true,false,false,false,false,false,false,false,false,false,false] rfl rfl (zas HT_.out qg) (fun _ _ _ h => h) (Or.inl ⟨by rfl,?_⟩) ?_ ?_
 rotate_left
 ·intro w'
  go_simp
  with_reducible rfl
 rotate_left
 ·simp only [Act.put,List.setIfInBounds_toArray,List.set_cons_zero,List.set_cons_succ,zS,zT]
  rfl
 refine zaF (i := 10) (N := some 15) (v := ?_) (a' := ?_) #[true,false,true,false,false,true,false,true,false,false,true,false,false,false,false,false,false,false] rfl rfl (zas HT_.out qg) (fun _ _ _ h => h) (Or.inl ⟨by rfl,?_⟩) ?_ ?_
 rotate_left
 ·intro w'
  go_simp
  with_reducible rfl
 rotate_left
 ·simp only [Act.put,List.setIfInBounds_toArray,List.set_cons_zero,List.set_cons_succ,zS,zT]
  rfl
 refine zaF (i := 12) (N := some 17) (v := ?_) (a' := ?_) #[true,false,true,false,false,true,false,true,false,false,true,false,true,false,false,false,false,false] rfl rfl (zas HT_.out qg) (fun _ _ _ h => h) (Or.inl ⟨by rfl,?_⟩) ?_ ?_
 rotate_left
 ·intro w'
  go_simp
  with_reducible rfl
 rotate_left
 ·simp only [Act.put,List.setIfInBounds_toArray,List.set_cons_zero,List.set_cons_succ,zS,zT]
  rfl
 refine zbk (i := 1) (N := some 6) (v := ?_) (a' := ?_) #[true,true,true,false,false,true,false,true,false,false,true,false,true,false,false,false,false,false] rfl rfl (zaL HT_.out HW_.out qg) (fun _ _ _ h => h) (Or.inl ⟨by rfl,?_⟩) hHeld ?_ ?_
 rotate_left
 ·rintro w' ⟨s0,s1,s2,s3,s4,s5⟩
  go_simp
  with_reducible rfl
 rotate_left
 ·simp only [Act.put,List.setIfInBounds_toArray,List.set_cons_zero,List.set_cons_succ,zS,zT]
  rfl
 refine zbk (i := 3) (N := some 8) (v := ?_) (a' := ?_) #[true,true,true,true,false,true,false,true,false,false,true,false,true,false,false,false,false,false] rfl rfl (zaL HT_.out HW_.out qg) (fun _ _ _ h => h) (Or.inl ⟨by rfl,?_⟩) hHeld ?_ ?_
 rotate_left
 ·rintro w' ⟨s0,s1,s2,s3,s4,s5⟩
  go_simp
  with_reducible rfl
 rotate_left
 ·simp only [Act.put,List.setIfInBounds_toArray,List.set_cons_zero,List.set_cons_succ,zS,zT]
  rfl
 refine zbk (i := 6) (N := some 11) (v := ?_) (a' := ?_) #[true,true,true,true,false,true,true,true,false,false,true,false,true,false,false,false,false,false] rfl rfl (zaL HT_.out HW_.out qg) (fun _ _ _ h => h) (Or.inl ⟨by rfl,?_⟩) hHeld ?_ ?_
 rotate_left
 ·rintro w' ⟨s0,s1,s2,s3,s4,s5⟩
  go_simp
  with_reducible rfl
 rotate_left
 ·simp only [Act.put,List.setIfInBounds_toArray,List.set_cons_zero,List.set_cons_succ,zS,zT]
  rfl
 refine zbk (i := 8) (N := some 13) (v := ?_) (a' := ?_) #[true,true,true,true,false,true,true,true,true,false,true,false,true,false,false,false,false,false] rfl rfl (zaL HT_.out HW_.out qg) (fun _ _ _ h => h) (Or.inl ⟨by rfl,?_⟩) hHeld ?_ ?_
 rotate_left
 ·rintro w' ⟨s0,s1,s2,s3,s4,s5⟩
  go_simp
  with_reducible rfl
 rotate_left
 ·simp only [Act.put,List.setIfInBounds_toArray,List.set_cons_zero,List.set_cons_succ,zS,zT]
  rfl
 refine zbk (i := 11) (N := some 16) (v := ?_) (a' := ?_) #[true,true,true,true,false,true,true,true,true,false,true,true,true,false,false,false,false,false] rfl rfl (zaL HT_.out HW_.out qg) (fun _ _ _ h => h) (Or.inl ⟨by rfl,?_⟩) hHeld ?_ ?_
 rotate_left
 ·rintro w' ⟨s0,s1,s2,s3,s4,s5⟩
  go_simp
  with_reducible rfl
 rotate_left
 ·simp only [Act.put,List.setIfInBounds_toArray,List.set_cons_zero,List.set_cons_succ,zS,zT]
  rfl
 refine zbk (i := 13) (N := some 18) (v := ?_) (a' := ?_) #[true,true,true,true,false,true,true,true,true,false,true,true,true,true,false,false,false,false] rfl rfl (zaL HT_.out HW_.out qg) (fun _ _ _ h => h) (Or.inl ⟨by rfl,?_⟩) hHeld ?_ ?_
 rotate_left
 ·rintro w' ⟨s0,s1,s2,s3,s4,s5⟩
  go_simp
  with_reducible rfl
 rotate_left
 ·simp only [Act.put,List.setIfInBounds_toArray,List.set_cons_zero,List.set_cons_succ,zS,zT]
  rfl
 refine zb1 (i := 4) (N := some 9) #[true,true,true,true,true,true,true,true,true,false,true,true,true,true,false,false,false,false] rfl rfl (zbr HT_.out qg) qq (fun K hK => ?_)
 refine zbv Try.func118 qg rfl #[.int .i64 a0_1, .int .i64 a1_1] qA rfl rfl qb ?_
 with_reducible refine (cmp_Compare_int.calls a0_1 a1_1 t108 _ A3.out).mono ?_
 rintro e w' ⟨rfl,⟨nd,rfl⟩⟩
 refine ⟨_,rfl,?_⟩
 refine hK.out _ _ ⟨(zf BK106.out 0).trans rfl,(zf BK106.out 1).trans rfl,(zf BK106.out 2).trans rfl,(zf BK107.out 0).trans rfl,(zf BK107.out 1).trans rfl,(zf BK107.out 2).trans rfl⟩ (fun hHeld => ?_)
 clear hK K
 refine zaX (a' := ?_) ?_ ?_
 rotate_left
 ·show Act.put _ (some 9) _ = _
  simp only [Act.put,List.setIfInBounds_toArray,List.set_cons_zero,List.set_cons_succ,zS,zT]
  rfl
 refine zb1 (i := 9) (N := some 14) #[true,true,true,true,true,true,true,true,true,true,true,true,true,true,false,false,false,false] rfl rfl (zbr HT_.out qg) qq (fun K hK => ?_)
 refine zbv Try.func118 qg rfl #[.int .i64 a0_0, .int .i64 a1_0] qA rfl rfl qb ?_
 with_reducible refine (cmp_Compare_int.calls a0_0 a1_0 t109 _ A4.out).mono ?_
 rintro e w' ⟨rfl,⟨nd,rfl⟩⟩
 refine ⟨_,rfl,?_⟩
 refine hK.out _ _ ⟨(zf BK106.out 0).trans rfl,(zf BK106.out 1).trans rfl,(zf BK106.out 2).trans rfl,(zf BK107.out 0).trans rfl,(zf BK107.out 1).trans rfl,(zf BK107.out 2).trans rfl⟩ (fun hHeld => ?_)
 clear hK K
 refine zaX (a' := ?_) ?_ ?_
 rotate_left
 ·show Act.put _ (some 14) _ = _
  simp only [Act.put,List.setIfInBounds_toArray,List.set_cons_zero,List.set_cons_succ,zS,zT]
  rfl
 refine zb1 (i := 14) (N := some 19) #[true,true,true,true,true,true,true,true,true,true,true,true,true,true,true,false,false,false] rfl rfl (zbr HT_.out qg) qq (fun K hK => ?_)
 refine zbv Try.func141 qg rfl #[.string a0_2, .string a1_2] qA rfl rfl qb ?_
 with_reducible refine (za0.calls a0_2 a1_2 t110 _ A5.out).mono ?_
 rintro e w' ⟨rfl,⟨nd,rfl⟩⟩
 refine ⟨_,rfl,?_⟩
 refine hK.out _ _ ⟨(zf BK106.out 0).trans rfl,(zf BK106.out 1).trans rfl,(zf BK106.out 2).trans rfl,(zf BK107.out 0).trans rfl,(zf BK107.out 1).trans rfl,(zf BK107.out 2).trans rfl⟩ (fun hHeld => ?_)
 clear hK K
 refine zaX (a' := ?_) ?_ ?_
 rotate_left
 ·show Act.put _ (some 19) _ = _
  simp only [Act.put,List.setIfInBounds_toArray,List.set_cons_zero,List.set_cons_succ,zS,zT]
  rfl
 refine zb1 (i := 15) (N := some 20) #[true,true,true,true,true,true,true,true,true,true,true,true,true,true,true,true,false,false] rfl rfl (zbr HT_.out qg) qq (fun K hK => ?_)
 refine Kd.zcC (Kd.int .i64) _ 3 ?hg (N := 20) ?hd (xs := ([t108,t109,t110] : List Int)) (inner := [.int .i64 t108, .int .i64 t109, .int .i64 t110]) (ok := fun _ => True) (okp := fun _ => True) ?hr ?hp (fun _ hk => hk) trivial (Below.refl _ _) (Nat.le_refl _) qC ?_; (case hd => rfl); (case hg => rfl); (case hr => exact qk); (case hp => exact (zX.one (show Kd.M (Kd.int .i64) _ _ _ t108 [.int .i64 t108] from rfl) (zX.one (show Kd.M (Kd.int .i64) _ _ _ t109 [.int .i64 t109] from rfl) (zX.one (show Kd.M (Kd.int .i64) _ _ _ t110 [.int .i64 t110] from rfl) (zX.none _ _)))))
 intro v112 w10 ho11 hb hg_ hnew_
 clear hg_ hnew_
 (first | rw [← Ny111.out] at ho11 | (simp only [Int.reduceToNat] at ho11; rw [← Ny111.out] at ho11))
 have n0_ := za.mk (Kd.zaO ho11 (zy (qn HB.out GE106.out GE107.out)))
 have n1_ := za.mk (zu (g := gb106) (o := .cells #[.int .i64 a0_0, .int .i64 a0_1, .string a0_2] 63 (0,0)) (qa BK106.out) hb)
 have n2_ := za.mk (zu (g := gb107) (o := .cells #[.int .i64 a1_0, .int .i64 a1_1, .string a1_2] 63 (0,0)) (qa BK107.out) hb)
 have n3_ := za.mk (zo (qn HB.out GE106.out GE107.out) hb)
 clear BK106
 clear BK107
 clear HB
 have HO113 := n0_
 have BK106 := n1_
 have BK107 := n2_
 have HB := n3_
 clear n0_ n1_ n2_ n3_
 clear hb ho11
 obtain ⟨Ao12,co12,eo12⟩ := Kd.zbc HO113.out
 (first | subst eo12 | (injection eo12 with f1_ f2_ f3_; have f4_ := f1_.symm; have f5_ := f3_.symm; clear f1_ f2_ f3_; subst f4_; subst f5_))
 refine hK.out _ _ ⟨(zf BK106.out 0).trans rfl,(zf BK106.out 1).trans rfl,(zf BK106.out 2).trans rfl,(zf BK107.out 0).trans rfl,(zf BK107.out 1).trans rfl,(zf BK107.out 2).trans rfl⟩ (fun hHeld => ?_)
 clear hK K
 refine zaX (a' := ?_) ?_ ?_
 rotate_left
 ·show Act.put _ (some 20) _ = _
  simp only [Act.put,List.setIfInBounds_toArray,List.set_cons_zero,List.set_cons_succ,zS,zT]
  rfl
 refine zb1 (i := 16) (N := some 21) #[true,true,true,true,true,true,true,true,true,true,true,true,true,true,true,true,true,false] rfl rfl (zbr HT_.out qg) qq (fun K hK => ?_)
 refine zbv Try.func117 qg rfl #[.slice Ao12 y111.length co12] qA rfl rfl qb ?_
 with_reducible refine (zay.calls k _ _ y111 t114 _ ?side1 ?side2 A6.out).mono ?_
 (case side1 => exact qK HO113.out)
 (case side2 => exact (Kd.zbd HO113.out).2.1)
 rintro e w' ⟨rfl,⟨nd,rfl⟩⟩
 refine ⟨_,rfl,?_⟩
 refine hK.out _ _ ⟨(zf BK106.out 0).trans rfl,(zf BK106.out 1).trans rfl,(zf BK106.out 2).trans rfl,(zf BK107.out 0).trans rfl,(zf BK107.out 1).trans rfl,(zf BK107.out 2).trans rfl⟩ (fun hHeld => ?_)
 clear hK K
 refine zaX (a' := ?_) ?_ ?_
 rotate_left
 ·show Act.put _ (some 21) _ = _
  simp only [Act.put,List.setIfInBounds_toArray,List.set_cons_zero,List.set_cons_succ,zS,zT]
  rfl
 refine zaF (i := 17) (N := some 4) (v := ?_) (a' := ?_) #[true,true,true,true,true,true,true,true,true,true,true,true,true,true,true,true,true,true] rfl rfl (zas HT_.out qg) (fun _ _ _ h => h) (Or.inl ⟨by rfl,?_⟩) ?_ ?_
 rotate_left
 ·intro w'
  go_simp
  with_reducible rfl
 rotate_left
 ·simp only [Act.put,List.setIfInBounds_toArray,List.set_cons_zero,List.set_cons_succ,zS,zT]
  rfl
 refine zej (zc0 HT_.out qg) ?_
 try go_wp2
 go_ret
 exact ⟨by first | rfl | (simp [zw,zx] <;> rfl) | (simp [*,zw,zx] <;> rfl),by repeat (first | (with_reducible first | exact HB.out | apply ze | apply zb | apply zg | refine zh ?_ GE106.out | refine zh ?_ GE107.out) | exact HB.out)⟩
end Go.Proofs.Ytgmbbfmbimofoaa.P
namespace Go.Proofs.Ytgmbbfmbimofoaa.P
open Go.RowKit Go.Proofs.YtgmbbfmbimofoaaW.PrintWords Go.Proofs.YtgmbbfmbimofoaaW.PrintLast Go.Proofs.YtgmbbfmbimofoaaW.PrintMore
attribute [local go_sem] zH zI zP zO zC zB zJ zK
set_option linter.unusedVariables false
set_option linter.unusedSimpArgs false
def zad.l0 : Nat → List (S63) → List (S63) → List (S63) → Int → Int → Option (Int)
 | 0,_,_,_,_,_ => none
 | k + 1,x0,x1,x11,x12,x13 => if x13 < x12 then (if 0 ≤ x13 then (if x13 < (x11.length : Int) then (if x13 ≥ (x1.length : Int) then (some 1) else (if x13 < (x1.length : Int) then ((zan.f k ((zk x11 x13).f0) ((zk x11 x13).f1) ((zk x11 x13).f2) ((zk x1 x13).f0) ((zk x1 x13).f1) ((zk x1 x13).f2)).bind fun t119 => (if t119 = 0 then (zad.l0 k x0 x1 x11 x12 (wrap64 (x13 + 1))) else (some t119))) else (none))) else (none)) else (none)) else (if (x0.length : Int) < (x1.length : Int) then (some (-1)) else (some 0))
def zad.f (k : Nat) (l0 : List (S63)) (l1 : List (S63)) : Option (Int) := zad.l0 k l0 l1 l0 (l0.length : Int) 0
set_option maxHeartbeats 8000000 in
set_option maxRecDepth 100000 in
theorem zad.calls (k : Nat) (A0 : Option Addr) (c0 : Nat) (l0 : List (S63)) (A1 : Option Addr) (c1 : Nat) (l1 : List (S63)) (r : Int) (w : World) (hr0 : Kd.C k63 w A0 l0.length l0) (hc0 : l0.length ≤ c0) (hr1 : Kd.C k63 w A1 l1.length l1) (hc1 : l1.length ≤ c1) (h : zad.f k l0 l1 = some r) :
  Calls Try.prog 119 #[.slice A0 l0.length c0, .slice A1 l1.length c1, .func (.func 120) #[] #[]] w fun e w' => e = .returned (.int .i64 r) ∧ Below w.heap.size w w' := by
 have hu63 := Try.underlying63
 have HR0 := za.mk hr0
 have HC0 := za.mk hc0
 clear hr0 hc0
 have HR1 := za.mk hr1
 have HC1 := za.mk hc1
 clear hr1 hc1
 have HB := za.mk (Below.refl w.heap.size w)
 have H : (zad.l0 k l0 l1 l0 (l0.length : Int) 0) = some r := h
 clear h
 have H' := za.mk H
 clear H
 go_enter Try.func119,Try.ntmps119
 go_wp2
 go_loopg [13] k (fun kq v13 w' => ∃ (x13_1 : Int),v13 = .int .i64 x13_1 ∧ za (zad.l0 kq l0 l1 l0 (l0.length : Int) x13_1 = some r) ∧ za (kq ≤ k) ∧ za (Below w.heap.size w w'))
 case atStart => exact ⟨(0),qm,H',⟨Nat.le_refl _⟩,⟨by repeat (first | (with_reducible first | exact HB.out | apply ze | apply zb | apply zg) | exact HB.out)⟩⟩
 case round =>
  clear H'
  try clear c1
  try clear p2
  obtain ⟨x13_1,rfl,HA,HK1,HB⟩ := hrel
  cases gk with
  | zero => exact absurd HA.out (by simp [zad.l0])
  | succ k1 =>
   have H := HA.out
   clear HA
   simp only [zad.l0] at H
   by_cases c3 : x13_1 < (l0.length : Int)
   ·rw [if_pos c3] at H
    have c3b0 : decide (x13_1 < (l0.length : Int)) = true := decide_eq_true c3
    clear c3
    by_cases c4 : 0 ≤ x13_1
    ·rw [if_pos c4] at H
     have c4b0 : decide (0 ≤ x13_1) = true := decide_eq_true c4
     clear c4
     by_cases c5 : x13_1 < (l0.length : Int)
     ·rw [if_pos c5] at H
      have c5b0 : decide (x13_1 < (l0.length : Int)) = true := decide_eq_true c5
      clear c5
      by_cases c6 : x13_1 ≥ (l1.length : Int)
      ·rw [if_pos c6] at H
       have c6b0 : decide ((l1.length : Int) ≤ x13_1) = true := decide_eq_true c6
       clear c6
       obtain rfl := Option.some.inj H
       have p115 : 0 ≤ (x13_1 : Int) := of_decide_eq_true qd
       have q115 : x13_1 < (l0.length : Int) := of_decide_eq_true qd
       obtain ⟨ad115,e115,hx115_0,hx115_1,hx115_2⟩ := zbb HR0.out x13_1 p115 q115
       cases e115
       replace hx115_0 := (HB.out.cell (World.block_lt_of_cell? w _ hx115_0)).trans hx115_0
       replace hx115_1 := (HB.out.cell (World.block_lt_of_cell? w _ hx115_1)).trans hx115_1
       replace hx115_2 := (HB.out.cell (World.block_lt_of_cell? w _ hx115_2)).trans hx115_2
       replace p115 := eq_true p115
       replace q115 := eq_true q115
       go_wp2_with (first | ((with_reducible refine zaa (N := 8) rfl ?_); refine zao ?hg (N := 8) ?hd (cs := #[.int .i64 0, .int .i64 0, .string (⟨#[]⟩ : ByteArray)]) (t := 63) ?hr ?_; (case hd => rfl); (case hg => rfl); (case hr => exact qk); intro gb116 hg w7 hbox hb; have n0_ := za.mk (zo (qc HB.out) hb); have n1_ := za.mk (hbox); have n2_ := za.mk ((by rw [hg]; exact (zy (qc HB.out)) : w.heap.size ≤ gb116)); have n3_ := za.mk ((by rw [hg]; exact (zy (qc HB.out)) : w.heap.size ≤ gb116)); clear HB; have HB := n0_; have BK116 := n1_; have GW116 := n2_; have GE116 := n3_; clear n0_ n1_ n2_ n3_; clear hb hbox hg; have hcz8_0 : w7.cell? ⟨gb116,0,none⟩ = some (.int .i64 0) := (zf BK116.out 0).trans rfl; have hcz8_1 : w7.cell? ⟨gb116,1,none⟩ = some (.int .i64 0) := (zf BK116.out 1).trans rfl; have hcz8_2 : w7.cell? ⟨gb116,2,none⟩ = some (.string (⟨#[]⟩ : ByteArray)) := (zf BK116.out 2).trans rfl; have hfz8_0 := zn BK116.out 0; have hfz8_1 := zn BK116.out 1; have hfz8_2 := zn BK116.out 2))
       go_ret
       exact ⟨by first | rfl | (simp [zw,zx] <;> rfl) | (simp [*,zw,zx] <;> rfl),by repeat (first | (with_reducible first | exact HB.out | apply ze | apply zb | apply zg | refine zh ?_ GE116.out) | exact HB.out)⟩
      ·rw [if_neg c6] at H
       have c6b0 : decide ((l1.length : Int) ≤ x13_1) = false := decide_eq_false c6
       clear c6
       by_cases c9 : x13_1 < (l1.length : Int)
       ·rw [if_pos c9] at H
        have c9b0 : decide (x13_1 < (l1.length : Int)) = true := decide_eq_true c9
        clear c9
        replace H := Option.bind_eq_some_iff.mp H
        obtain ⟨t119,A100,H⟩ := H
        replace H : (if t119 = 0 then (zad.l0 k1 l0 l1 l0 (l0.length : Int) (wrap64 (x13_1 + 1))) else (some t119)) = some r := H
        have A10 := za.mk A100
        clear A100
        by_cases c11 : t119 = 0
        ·rw [if_pos c11] at H
         have c11b0 : (t119 == 0) = true := beq_iff_eq.mpr c11
         have c11b1 : (t119 != 0) = false := bne_eq_false_iff_eq.mpr c11
         clear c11
         have H' := za.mk H
         clear H
         have p115 : 0 ≤ (x13_1 : Int) := of_decide_eq_true qd
         have q115 : x13_1 < (l0.length : Int) := of_decide_eq_true qd
         obtain ⟨ad115,e115,hx115_0,hx115_1,hx115_2⟩ := zbb HR0.out x13_1 p115 q115
         cases e115
         replace hx115_0 := (HB.out.cell (World.block_lt_of_cell? w _ hx115_0)).trans hx115_0
         replace hx115_1 := (HB.out.cell (World.block_lt_of_cell? w _ hx115_1)).trans hx115_1
         replace hx115_2 := (HB.out.cell (World.block_lt_of_cell? w _ hx115_2)).trans hx115_2
         replace p115 := eq_true p115
         replace q115 := eq_true q115
         go_wp2_with (first | ((with_reducible refine zaa (N := 8) rfl ?_); refine zao ?hg (N := 8) ?hd (cs := #[.int .i64 0, .int .i64 0, .string (⟨#[]⟩ : ByteArray)]) (t := 63) ?hr ?_; (case hd => rfl); (case hg => rfl); (case hr => exact qk); intro gb116 hg w12 hbox hb; have n0_ := za.mk (zo (qc HB.out) hb); have n1_ := za.mk (hbox); have n2_ := za.mk ((by rw [hg]; exact (zy (qc HB.out)) : w.heap.size ≤ gb116)); have n3_ := za.mk ((by rw [hg]; exact (zy (qc HB.out)) : w.heap.size ≤ gb116)); clear HB; have HB := n0_; have BK116 := n1_; have GW116 := n2_; have GE116 := n3_; clear n0_ n1_ n2_ n3_; clear hb hbox hg; have hcz13_0 : w12.cell? ⟨gb116,0,none⟩ = some (.int .i64 0) := (zf BK116.out 0).trans rfl; have hcz13_1 : w12.cell? ⟨gb116,1,none⟩ = some (.int .i64 0) := (zf BK116.out 1).trans rfl; have hcz13_2 : w12.cell? ⟨gb116,2,none⟩ = some (.string (⟨#[]⟩ : ByteArray)) := (zf BK116.out 2).trans rfl; have hfz13_0 := zn BK116.out 0; have hfz13_1 := zn BK116.out 1; have hfz13_2 := zn BK116.out 2; have p117 : 0 ≤ (x13_1 : Int) := of_decide_eq_true qd; have q117 : x13_1 < (l1.length : Int) := of_decide_eq_true qd; obtain ⟨ad117,e117,hx117_0,hx117_1,hx117_2⟩ := zbb HR1.out x13_1 p117 q117; cases e117; have hn117_0 : ad117.block ≠ gb116 := Nat.ne_of_lt (Nat.lt_of_lt_of_le qF GW116.out); have hn117_1 : ad117.block ≠ gb116 := Nat.ne_of_lt (Nat.lt_of_lt_of_le qF GW116.out); have hn117_2 : ad117.block ≠ gb116 := Nat.ne_of_lt (Nat.lt_of_lt_of_le qF GW116.out); replace hx117_0 := (HB.out.cell (World.block_lt_of_cell? w _ hx117_0)).trans hx117_0; replace hx117_1 := (HB.out.cell (World.block_lt_of_cell? w _ hx117_1)).trans hx117_1; replace hx117_2 := (HB.out.cell (World.block_lt_of_cell? w _ hx117_2)).trans hx117_2; replace hx117_0 := (cell_far (p := ⟨gb116,0,none⟩) qu (.int .i64 ((zk l0 x13_1).f0))).trans hx117_0; replace hx117_1 := (cell_far (p := ⟨gb116,0,none⟩) qu (.int .i64 ((zk l0 x13_1).f0))).trans hx117_1; replace hx117_2 := (cell_far (p := ⟨gb116,0,none⟩) qu (.int .i64 ((zk l0 x13_1).f0))).trans hx117_2; replace hx117_0 := (cell_far (p := ⟨gb116,1,none⟩) qv (.int .i64 ((zk l0 x13_1).f1))).trans hx117_0; replace hx117_1 := (cell_far (p := ⟨gb116,1,none⟩) qv (.int .i64 ((zk l0 x13_1).f1))).trans hx117_1; replace hx117_2 := (cell_far (p := ⟨gb116,1,none⟩) qv (.int .i64 ((zk l0 x13_1).f1))).trans hx117_2; replace hx117_0 := (cell_far (p := ⟨gb116,2,none⟩) qw (.string ((zk l0 x13_1).f2))).trans hx117_0; replace hx117_1 := (cell_far (p := ⟨gb116,2,none⟩) qw (.string ((zk l0 x13_1).f2))).trans hx117_1; replace hx117_2 := (cell_far (p := ⟨gb116,2,none⟩) qw (.string ((zk l0 x13_1).f2))).trans hx117_2; clear hn117_0; clear hn117_1; clear hn117_2; replace p117 := eq_true p117; replace q117 := eq_true q117) | ((with_reducible refine zaa (N := 9) rfl ?_); refine zao ?hg (N := 9) ?hd (cs := #[.int .i64 0, .int .i64 0, .string (⟨#[]⟩ : ByteArray)]) (t := 63) ?hr ?_; (case hd => rfl); (case hg => rfl); (case hr => exact qk); intro gb118 hg w14 hbox hb; have n0_ := za.mk (zu (g := gb116) (o := .cells #[.int .i64 ((zk l0 x13_1).f0), .int .i64 ((zk l0 x13_1).f1), .string ((zk l0 x13_1).f2)] 63 (0,0)) (qh BK116.out) hb); have n1_ := za.mk (zo (qf HB.out GE116.out) hb); have n2_ := za.mk (hbox); have n3_ := za.mk ((by rw [hg]; exact (zy (qf HB.out GE116.out)) : w.heap.size ≤ gb118)); have n4_ := za.mk ((by rw [hg]; exact (zy (qf HB.out GE116.out)) : w.heap.size ≤ gb118)); have n5_ := za.mk ((by rw [hg]; exact Nat.ne_of_lt (zR (g := gb116) (o := .cells #[.int .i64 ((zk l0 x13_1).f0), .int .i64 ((zk l0 x13_1).f1), .string ((zk l0 x13_1).f2)] 63 (0,0)) (qh BK116.out)) : gb116 ≠ gb118)); have n6_ := za.mk ((by rw [hg]; exact Nat.ne_of_gt (zR (g := gb116) (o := .cells #[.int .i64 ((zk l0 x13_1).f0), .int .i64 ((zk l0 x13_1).f1), .string ((zk l0 x13_1).f2)] 63 (0,0)) (qh BK116.out)) : gb118 ≠ gb116)); clear BK116; clear HB; have BK116 := n0_; have HB := n1_; have BK118 := n2_; have GW118 := n3_; have GE118 := n4_; have NB116_118 := n5_; have NB118_116 := n6_; clear n0_ n1_ n2_ n3_ n4_ n5_ n6_; clear hb hbox hg; have hnb15 := NB118_116.out; have hnc15 := NB116_118.out; have hcz16_0 : w14.cell? ⟨gb118,0,none⟩ = some (.int .i64 0) := (zf BK118.out 0).trans rfl; have hcz16_1 : w14.cell? ⟨gb118,1,none⟩ = some (.int .i64 0) := (zf BK118.out 1).trans rfl; have hcz16_2 : w14.cell? ⟨gb118,2,none⟩ = some (.string (⟨#[]⟩ : ByteArray)) := (zf BK118.out 2).trans rfl; have hfz16_0 := zn BK118.out 0; have hfz16_1 := zn BK118.out 1; have hfz16_2 := zn BK118.out 2; have hcz17_0 : w14.cell? ⟨gb116,0,none⟩ = some (.int .i64 ((zk l0 x13_1).f0)) := (zf BK116.out 0).trans rfl; have hcz17_1 : w14.cell? ⟨gb116,1,none⟩ = some (.int .i64 ((zk l0 x13_1).f1)) := (zf BK116.out 1).trans rfl; have hcz17_2 : w14.cell? ⟨gb116,2,none⟩ = some (.string ((zk l0 x13_1).f2)) := (zf BK116.out 2).trans rfl; have hfz17_0 := zn BK116.out 0; have hfz17_1 := zn BK116.out 1; have hfz17_2 := zn BK116.out 2) | ((with_reducible refine zaa (N := 29) rfl ?_); refine zew (some 29) rfl rfl Try.func120 qg rfl #[.agg #[.int .i64 ((zk l0 x13_1).f0), .int .i64 ((zk l0 x13_1).f1), .string ((zk l0 x13_1).f2)], .agg #[.int .i64 ((zk l1 x13_1).f0), .int .i64 ((zk l1 x13_1).f1), .string ((zk l1 x13_1).f2)]] rfl qA (by simp only [List.map_toArray,List.map_cons,List.map_nil,Array.append_empty]; rfl) ?_; (with_reducible refine (zan.calls k1 ((zk l0 x13_1).f0) ((zk l0 x13_1).f1) ((zk l0 x13_1).f2) ((zk l1 x13_1).f0) ((zk l1 x13_1).f1) ((zk l1 x13_1).f2) t119 _ A10.out).mono ?_); rintro e w18 ⟨rfl,hb⟩; refine ⟨_,rfl,?_⟩; have n0_ := za.mk (zu (g := gb116) (o := .cells #[.int .i64 ((zk l0 x13_1).f0), .int .i64 ((zk l0 x13_1).f1), .string ((zk l0 x13_1).f2)] 63 (0,0)) (qH NB116_118.out BK116.out) hb); have n1_ := za.mk (zu (g := gb118) (o := .cells #[.int .i64 ((zk l1 x13_1).f0), .int .i64 ((zk l1 x13_1).f1), .string ((zk l1 x13_1).f2)] 63 (0,0)) (qy BK118.out) hb); have n2_ := za.mk (zo (qn HB.out GE116.out GE118.out) hb); clear BK116; clear BK118; clear HB; have BK116 := n0_; have BK118 := n1_; have HB := n2_; clear n0_ n1_ n2_; (try clear hb); (try clear hb2); (try clear hk); (try clear hi)))
         go_roundg k1
         case measure => have := HK1.out; omega
         case rel => exact ⟨(wrap64 (x13_1 + 1)),qm,H',⟨by have := HK1.out; omega⟩,⟨by repeat (first | (with_reducible first | exact HB.out | apply ze | apply zb | apply zg | refine zh ?_ GE116.out | refine zh ?_ GE118.out) | exact HB.out)⟩⟩
        ·rw [if_neg c11] at H
         have c11b0 : (t119 == 0) = false := beq_eq_false_iff_ne.mpr c11
         have c11b1 : (t119 != 0) = true := bne_iff_ne.mpr c11
         obtain rfl := Option.some.inj H
         have p115 : 0 ≤ (x13_1 : Int) := of_decide_eq_true qd
         have q115 : x13_1 < (l0.length : Int) := of_decide_eq_true qd
         obtain ⟨ad115,e115,hx115_0,hx115_1,hx115_2⟩ := zbb HR0.out x13_1 p115 q115
         cases e115
         replace hx115_0 := (HB.out.cell (World.block_lt_of_cell? w _ hx115_0)).trans hx115_0
         replace hx115_1 := (HB.out.cell (World.block_lt_of_cell? w _ hx115_1)).trans hx115_1
         replace hx115_2 := (HB.out.cell (World.block_lt_of_cell? w _ hx115_2)).trans hx115_2
         replace p115 := eq_true p115
         replace q115 := eq_true q115
         go_wp2_with (first | ((with_reducible refine zaa (N := 8) rfl ?_); refine zao ?hg (N := 8) ?hd (cs := #[.int .i64 0, .int .i64 0, .string (⟨#[]⟩ : ByteArray)]) (t := 63) ?hr ?_; (case hd => rfl); (case hg => rfl); (case hr => exact qk); intro gb116 hg w19 hbox hb; have n0_ := za.mk (zo (qc HB.out) hb); have n1_ := za.mk (hbox); have n2_ := za.mk ((by rw [hg]; exact (zy (qc HB.out)) : w.heap.size ≤ gb116)); have n3_ := za.mk ((by rw [hg]; exact (zy (qc HB.out)) : w.heap.size ≤ gb116)); clear HB; have HB := n0_; have BK116 := n1_; have GW116 := n2_; have GE116 := n3_; clear n0_ n1_ n2_ n3_; clear hb hbox hg; have hcz20_0 : w19.cell? ⟨gb116,0,none⟩ = some (.int .i64 0) := (zf BK116.out 0).trans rfl; have hcz20_1 : w19.cell? ⟨gb116,1,none⟩ = some (.int .i64 0) := (zf BK116.out 1).trans rfl; have hcz20_2 : w19.cell? ⟨gb116,2,none⟩ = some (.string (⟨#[]⟩ : ByteArray)) := (zf BK116.out 2).trans rfl; have hfz20_0 := zn BK116.out 0; have hfz20_1 := zn BK116.out 1; have hfz20_2 := zn BK116.out 2; have p117 : 0 ≤ (x13_1 : Int) := of_decide_eq_true qd; have q117 : x13_1 < (l1.length : Int) := of_decide_eq_true qd; obtain ⟨ad117,e117,hx117_0,hx117_1,hx117_2⟩ := zbb HR1.out x13_1 p117 q117; cases e117; have hn117_0 : ad117.block ≠ gb116 := Nat.ne_of_lt (Nat.lt_of_lt_of_le qF GW116.out); have hn117_1 : ad117.block ≠ gb116 := Nat.ne_of_lt (Nat.lt_of_lt_of_le qF GW116.out); have hn117_2 : ad117.block ≠ gb116 := Nat.ne_of_lt (Nat.lt_of_lt_of_le qF GW116.out); replace hx117_0 := (HB.out.cell (World.block_lt_of_cell? w _ hx117_0)).trans hx117_0; replace hx117_1 := (HB.out.cell (World.block_lt_of_cell? w _ hx117_1)).trans hx117_1; replace hx117_2 := (HB.out.cell (World.block_lt_of_cell? w _ hx117_2)).trans hx117_2; replace hx117_0 := (cell_far (p := ⟨gb116,0,none⟩) qu (.int .i64 ((zk l0 x13_1).f0))).trans hx117_0; replace hx117_1 := (cell_far (p := ⟨gb116,0,none⟩) qu (.int .i64 ((zk l0 x13_1).f0))).trans hx117_1; replace hx117_2 := (cell_far (p := ⟨gb116,0,none⟩) qu (.int .i64 ((zk l0 x13_1).f0))).trans hx117_2; replace hx117_0 := (cell_far (p := ⟨gb116,1,none⟩) qv (.int .i64 ((zk l0 x13_1).f1))).trans hx117_0; replace hx117_1 := (cell_far (p := ⟨gb116,1,none⟩) qv (.int .i64 ((zk l0 x13_1).f1))).trans hx117_1; replace hx117_2 := (cell_far (p := ⟨gb116,1,none⟩) qv (.int .i64 ((zk l0 x13_1).f1))).trans hx117_2; replace hx117_0 := (cell_far (p := ⟨gb116,2,none⟩) qw (.string ((zk l0 x13_1).f2))).trans hx117_0; replace hx117_1 := (cell_far (p := ⟨gb116,2,none⟩) qw (.string ((zk l0 x13_1).f2))).trans hx117_1; replace hx117_2 := (cell_far (p := ⟨gb116,2,none⟩) qw (.string ((zk l0 x13_1).f2))).trans hx117_2; clear hn117_0; clear hn117_1; clear hn117_2; replace p117 := eq_true p117; replace q117 := eq_true q117) | ((with_reducible refine zaa (N := 9) rfl ?_); refine zao ?hg (N := 9) ?hd (cs := #[.int .i64 0, .int .i64 0, .string (⟨#[]⟩ : ByteArray)]) (t := 63) ?hr ?_; (case hd => rfl); (case hg => rfl); (case hr => exact qk); intro gb118 hg w21 hbox hb; have n0_ := za.mk (zu (g := gb116) (o := .cells #[.int .i64 ((zk l0 x13_1).f0), .int .i64 ((zk l0 x13_1).f1), .string ((zk l0 x13_1).f2)] 63 (0,0)) (qh BK116.out) hb); have n1_ := za.mk (zo (qf HB.out GE116.out) hb); have n2_ := za.mk (hbox); have n3_ := za.mk ((by rw [hg]; exact (zy (qf HB.out GE116.out)) : w.heap.size ≤ gb118)); have n4_ := za.mk ((by rw [hg]; exact (zy (qf HB.out GE116.out)) : w.heap.size ≤ gb118)); have n5_ := za.mk ((by rw [hg]; exact Nat.ne_of_lt (zR (g := gb116) (o := .cells #[.int .i64 ((zk l0 x13_1).f0), .int .i64 ((zk l0 x13_1).f1), .string ((zk l0 x13_1).f2)] 63 (0,0)) (qh BK116.out)) : gb116 ≠ gb118)); have n6_ := za.mk ((by rw [hg]; exact Nat.ne_of_gt (zR (g := gb116) (o := .cells #[.int .i64 ((zk l0 x13_1).f0), .int .i64 ((zk l0 x13_1).f1), .string ((zk l0 x13_1).f2)] 63 (0,0)) (qh BK116.out)) : gb118 ≠ gb116)); clear BK116; clear HB; have BK116 := n0_; have HB := n1_; have BK118 := n2_; have GW118 := n3_; have GE118 := n4_; have NB116_118 := n5_; have NB118_116 := n6_; clear n0_ n1_ n2_ n3_ n4_ n5_ n6_; clear hb hbox hg; have hnb22 := NB118_116.out; have hnc22 := NB116_118.out; have hcz23_0 : w21.cell? ⟨gb118,0,none⟩ = some (.int .i64 0) := (zf BK118.out 0).trans rfl; have hcz23_1 : w21.cell? ⟨gb118,1,none⟩ = some (.int .i64 0) := (zf BK118.out 1).trans rfl; have hcz23_2 : w21.cell? ⟨gb118,2,none⟩ = some (.string (⟨#[]⟩ : ByteArray)) := (zf BK118.out 2).trans rfl; have hfz23_0 := zn BK118.out 0; have hfz23_1 := zn BK118.out 1; have hfz23_2 := zn BK118.out 2; have hcz24_0 : w21.cell? ⟨gb116,0,none⟩ = some (.int .i64 ((zk l0 x13_1).f0)) := (zf BK116.out 0).trans rfl; have hcz24_1 : w21.cell? ⟨gb116,1,none⟩ = some (.int .i64 ((zk l0 x13_1).f1)) := (zf BK116.out 1).trans rfl; have hcz24_2 : w21.cell? ⟨gb116,2,none⟩ = some (.string ((zk l0 x13_1).f2)) := (zf BK116.out 2).trans rfl; have hfz24_0 := zn BK116.out 0; have hfz24_1 := zn BK116.out 1; have hfz24_2 := zn BK116.out 2) | ((with_reducible refine zaa (N := 29) rfl ?_); refine zew (some 29) rfl rfl Try.func120 qg rfl #[.agg #[.int .i64 ((zk l0 x13_1).f0), .int .i64 ((zk l0 x13_1).f1), .string ((zk l0 x13_1).f2)], .agg #[.int .i64 ((zk l1 x13_1).f0), .int .i64 ((zk l1 x13_1).f1), .string ((zk l1 x13_1).f2)]] rfl qA (by simp only [List.map_toArray,List.map_cons,List.map_nil,Array.append_empty]; rfl) ?_; (with_reducible refine (zan.calls k1 ((zk l0 x13_1).f0) ((zk l0 x13_1).f1) ((zk l0 x13_1).f2) ((zk l1 x13_1).f0) ((zk l1 x13_1).f1) ((zk l1 x13_1).f2) t119 _ A10.out).mono ?_); rintro e w25 ⟨rfl,hb⟩; refine ⟨_,rfl,?_⟩; have n0_ := za.mk (zu (g := gb116) (o := .cells #[.int .i64 ((zk l0 x13_1).f0), .int .i64 ((zk l0 x13_1).f1), .string ((zk l0 x13_1).f2)] 63 (0,0)) (qH NB116_118.out BK116.out) hb); have n1_ := za.mk (zu (g := gb118) (o := .cells #[.int .i64 ((zk l1 x13_1).f0), .int .i64 ((zk l1 x13_1).f1), .string ((zk l1 x13_1).f2)] 63 (0,0)) (qy BK118.out) hb); have n2_ := za.mk (zo (qn HB.out GE116.out GE118.out) hb); clear BK116; clear BK118; clear HB; have BK116 := n0_; have BK118 := n1_; have HB := n2_; clear n0_ n1_ n2_; (try clear hb); (try clear hb2); (try clear hk); (try clear hi)))
         go_ret
         exact ⟨by first | rfl | (simp [zw,zx] <;> rfl) | (simp [*,zw,zx] <;> rfl),by repeat (first | (with_reducible first | exact HB.out | apply ze | apply zb | apply zg | refine zh ?_ GE116.out | refine zh ?_ GE118.out) | exact HB.out)⟩
       ·rw [if_neg c9] at H
        exact absurd H qC
     ·rw [if_neg c5] at H
      exact absurd H qC
    ·rw [if_neg c4] at H
     exact absurd H qC
   ·rw [if_neg c3] at H
    have c3b0 : decide (x13_1 < (l0.length : Int)) = false := decide_eq_false c3
    clear c3
    by_cases c26 : (l0.length : Int) < (l1.length : Int)
    ·rw [if_pos c26] at H
     have c26b0 : decide ((l0.length : Int) < (l1.length : Int)) = true := decide_eq_true c26
     have c26b1 : decide (l0.length < l1.length) = true := decide_eq_true (Int.ofNat_lt.mp c26)
     clear c26
     obtain rfl := Option.some.inj H
     go_wp2
     go_ret
     exact ⟨by first | rfl | (simp [zw,zx] <;> rfl) | (simp [*,zw,zx] <;> rfl),by repeat (first | (with_reducible first | exact HB.out | apply ze | apply zb | apply zg) | exact HB.out)⟩
    ·rw [if_neg c26] at H
     have c26b0 : decide ((l0.length : Int) < (l1.length : Int)) = false := decide_eq_false c26
     have c26b1 : decide (l0.length < l1.length) = false := decide_eq_false (fun h => c26 (Int.ofNat_lt.mpr h))
     clear c26
     obtain rfl := Option.some.inj H
     go_wp2
     go_ret
     exact ⟨by first | rfl | (simp [zw,zx] <;> rfl) | (simp [*,zw,zx] <;> rfl),by repeat (first | (with_reducible first | exact HB.out | apply ze | apply zb | apply zg) | exact HB.out)⟩
def zax.f (k : Nat) (a0_0 : Int) (l0_1 : List (S63)) (a1_0 : Int) (l1_1 : List (S63)) : Option (Int) := (cmp_Compare_int.f a0_0 a1_0).bind fun t122 => ((cmp_Compare_int.f (l0_1.length : Int) (l1_1.length : Int)).bind fun t123 => ((zad.f k l0_1 l1_1).bind fun t124 => ((zay.f k (([t122,t123,t124] : List Int))).bind fun t128 => (some t128))))
def zax.T1 : Bool × List (List Nat × List Nat) := (true,[([],[]),([0],[0]),([],[]),([2],[2]),([1,3],[1,3]),([],[]),([5],[5]),([6],[6]),([],[]),([8],[8]),([9],[9]),([7,10,4],[7,10]),([],[]),([12],[12]),([],[]),([14],[14]),([13,15,11],[13,15]),([4,11,16],[4,11,16]),([17,16],[17]),([18,18,0,1,2,3,4,5,6,7,8,9,10,11,12,13,14,15,16,17,18],[18])])
def zax.B1 : List Nat := [0,1,0,4,15,0,32,96,0,256,768,2047,0,4096,0,16384,65535,131071,262143,524287]
theorem zax.zfq : zbD .any (opsOf Try.f98 1) = zax.T1 := by kernel_rfl
theorem zax.zeH : zcD zax.T1.2 zax.B1 = true := by kernel_rfl
set_option maxHeartbeats 8000000 in
set_option maxRecDepth 100000 in
theorem zax.calls (k : Nat) (a0_0 : Int) (A0_1 : Option Addr) (c0_1 : Nat) (l0_1 : List (S63)) (a1_0 : Int) (A1_1 : Option Addr) (c1_1 : Nat) (l1_1 : List (S63)) (r : Int) (w : World) (hr0_1 : Kd.C k63 w A0_1 l0_1.length l0_1) (hc0_1 : l0_1.length ≤ c0_1) (hr1_1 : Kd.C k63 w A1_1 l1_1.length l1_1) (hc1_1 : l1_1.length ≤ c1_1) (h : zax.f k a0_0 l0_1 a1_0 l1_1 = some r) :
  Calls Try.prog 98 #[.agg #[.int .i64 a0_0, .slice A0_1 l0_1.length c0_1], .agg #[.int .i64 a1_0, .slice A1_1 l1_1.length c1_1]] w fun e w' => e = .returned (.int .i64 r) ∧ Below w.heap.size w w' := by
 have hu134 := Try.underlying134
 have HR0_1 := za.mk hr0_1
 have HC0_1 := za.mk hc0_1
 clear hr0_1 hc0_1
 have HR1_1 := za.mk hr1_1
 have HC1_1 := za.mk hc1_1
 clear hr1_1 hc1_1
 have HB := za.mk (Below.refl w.heap.size w)
 have H : ((cmp_Compare_int.f a0_0 a1_0).bind fun t122 => ((cmp_Compare_int.f (l0_1.length : Int) (l1_1.length : Int)).bind fun t123 => ((zad.f k l0_1 l1_1).bind fun t124 => ((zay.f k (([t122,t123,t124] : List Int))).bind fun t128 => (some t128))))) = some r := h
 clear h
 replace H := Option.bind_eq_some_iff.mp H
 obtain ⟨t122,A30,H⟩ := H
 replace H : ((cmp_Compare_int.f (l0_1.length : Int) (l1_1.length : Int)).bind fun t123 => ((zad.f k l0_1 l1_1).bind fun t124 => ((zay.f k (([t122,t123,t124] : List Int))).bind fun t128 => (some t128)))) = some r := H
 have A3 := za.mk A30
 clear A30
 replace H := Option.bind_eq_some_iff.mp H
 obtain ⟨t123,A40,H⟩ := H
 replace H : ((zad.f k l0_1 l1_1).bind fun t124 => ((zay.f k (([t122,t123,t124] : List Int))).bind fun t128 => (some t128))) = some r := H
 have A4 := za.mk A40
 clear A40
 replace H := Option.bind_eq_some_iff.mp H
 obtain ⟨t124,A50,H⟩ := H
 replace H : ((zay.f k (([t122,t123,t124] : List Int))).bind fun t128 => (some t128)) = some r := H
 have A5 := za.mk A50
 clear A50
 obtain ⟨y125,hy125⟩ : ∃ y_ : List Int,y_ = (([t122,t123,t124] : List Int)) := ⟨_,rfl⟩
 replace H : ((zay.f k y125).bind fun t128 => (some t128)) = some r := by first | (rw [hy125]; with_reducible exact H) | (have H2_ := (Option.bind_some _ _).symm.trans H; rw [hy125]; with_reducible exact H2_) | (have H2_ := (Option.bind_some _ _).symm.trans H; with_reducible exact H2_) | with_reducible exact H | (rw [hy125]; exact H) | exact H
 have Ny125 := za.mk hy125
 clear hy125
 replace H := Option.bind_eq_some_iff.mp H
 obtain ⟨t128,A60,H⟩ := H
 replace H : (some t128) = some r := H
 have A6 := za.mk A60
 clear A60
 obtain rfl := Option.some.inj H
 go_enter Try.func98,Try.ntmps98
 try go_wp2_with (first | ((with_reducible refine zaa (N := 2) rfl ?_); refine zao ?hg (N := 2) ?hd (cs := #[.int .i64 a0_0, .slice A0_1 l0_1.length c0_1]) (t := 134) ?hr ?_; (case hd => rfl); (case hg => rfl); (case hr => exact qk); intro gb120 hg w7 hbox hb; have n0_ := za.mk (zo (qc HB.out) hb); have n1_ := za.mk (hbox); have n2_ := za.mk ((by rw [hg]; exact (zy (qc HB.out)) : w.heap.size ≤ gb120)); have n3_ := za.mk ((by rw [hg]; exact (zy (qc HB.out)) : w.heap.size ≤ gb120)); clear HB; have HB := n0_; have BK120 := n1_; have GW120 := n2_; have GE120 := n3_; clear n0_ n1_ n2_ n3_; clear hb hbox hg) | ((with_reducible refine zaa (N := 3) rfl ?_); refine zao ?hg (N := 3) ?hd (cs := #[.int .i64 a1_0, .slice A1_1 l1_1.length c1_1]) (t := 134) ?hr ?_; (case hd => rfl); (case hg => rfl); (case hr => exact qk); intro gb121 hg w8 hbox hb; have n0_ := za.mk (zu (g := gb120) (o := .cells #[.int .i64 a0_0, .slice A0_1 l0_1.length c0_1] 134 (0,0)) (qa BK120.out) hb); have n1_ := za.mk (zo (qf HB.out GE120.out) hb); have n2_ := za.mk (hbox); have n3_ := za.mk ((by rw [hg]; exact (zy (qf HB.out GE120.out)) : w.heap.size ≤ gb121)); have n4_ := za.mk ((by rw [hg]; exact (zy (qf HB.out GE120.out)) : w.heap.size ≤ gb121)); have n5_ := za.mk ((by rw [hg]; exact Nat.ne_of_lt (zR (g := gb120) (o := .cells #[.int .i64 a0_0, .slice A0_1 l0_1.length c0_1] 134 (0,0)) (qa BK120.out)) : gb120 ≠ gb121)); have n6_ := za.mk ((by rw [hg]; exact Nat.ne_of_gt (zR (g := gb120) (o := .cells #[.int .i64 a0_0, .slice A0_1 l0_1.length c0_1] 134 (0,0)) (qa BK120.out)) : gb121 ≠ gb120)); clear BK120; clear HB; have BK120 := n0_; have HB := n1_; have BK121 := n2_; have GW121 := n3_; have GE121 := n4_; have NB120_121 := n5_; have NB121_120 := n6_; clear n0_ n1_ n2_ n3_ n4_ n5_ n6_; clear hb hbox hg))
 have n0_ := za.mk (zm BK120.out)
 have n1_ := za.mk (zm BK121.out)
 have n2_ := za.mk (zg HB.out)
 clear BK120
 clear BK121
 clear HB
 have BK120 := n0_
 have BK121 := n1_
 have HB := n2_
 clear n0_ n1_ n2_
 refine zdx (n := 20) (S := fun w' => w'.cell? ⟨gb120,0,none⟩ = some (.int .i64 a0_0) ∧ w'.cell? ⟨gb120,1,none⟩ = some (.slice A0_1 l0_1.length c0_1) ∧ w'.cell? ⟨gb121,0,none⟩ = some (.int .i64 a1_0) ∧ w'.cell? ⟨gb121,1,none⟩ = some (.slice A1_1 l1_1.length c1_1)) (ds := []) #[false,false,false,false,false,false,false,false,false,false,false,false,false,false,false,false,false,false,false,false] qg rfl rfl ⟨(zf BK120.out 0).trans rfl,(zf BK120.out 1).trans rfl,(zf BK121.out 0).trans rfl,(zf BK121.out 1).trans rfl⟩ (fun hHeld => ?_); refine zcq zax.zfq zax.zeH (fun HT_ HW_ => ?_)
 generalize w8.drew = w9 at BK120 BK121 HB hHeld ⊢
 refine zaF (i := 0) (N := some 5) (v := ?_) (a' := ?_) #[true,false,false,false,false,false,false,false,false,false,false,false,false,false,false,false,false,false,false,false] rfl rfl (zas HT_.out qg) (fun _ _ _ h => h) (Or.inl ⟨by rfl,?_⟩) ?_ ?_
 rotate_left
 ·intro w'
  go_simp
  with_reducible rfl
 rotate_left
 ·simp only [Act.put,List.setIfInBounds_toArray,List.set_cons_zero,List.set_cons_succ,zS,zT]
  rfl
 refine zaF (i := 2) (N := some 7) (v := ?_) (a' := ?_) #[true,false,true,false,false,false,false,false,false,false,false,false,false,false,false,false,false,false,false,false] rfl rfl (zas HT_.out qg) (fun _ _ _ h => h) (Or.inl ⟨by rfl,?_⟩) ?_ ?_
 rotate_left
 ·intro w'
  go_simp
  with_reducible rfl
 rotate_left
 ·simp only [Act.put,List.setIfInBounds_toArray,List.set_cons_zero,List.set_cons_succ,zS,zT]
  rfl
 refine zaF (i := 5) (N := some 10) (v := ?_) (a' := ?_) #[true,false,true,false,false,true,false,false,false,false,false,false,false,false,false,false,false,false,false,false] rfl rfl (zas HT_.out qg) (fun _ _ _ h => h) (Or.inl ⟨by rfl,?_⟩) ?_ ?_
 rotate_left
 ·intro w'
  go_simp
  with_reducible rfl
 rotate_left
 ·simp only [Act.put,List.setIfInBounds_toArray,List.set_cons_zero,List.set_cons_succ,zS,zT]
  rfl
 refine zaF (i := 8) (N := some 13) (v := ?_) (a' := ?_) #[true,false,true,false,false,true,false,false,true,false,false,false,false,false,false,false,false,false,false,false] rfl rfl (zas HT_.out qg) (fun _ _ _ h => h) (Or.inl ⟨by rfl,?_⟩) ?_ ?_
 rotate_left
 ·intro w'
  go_simp
  with_reducible rfl
 rotate_left
 ·simp only [Act.put,List.setIfInBounds_toArray,List.set_cons_zero,List.set_cons_succ,zS,zT]
  rfl
 refine zaF (i := 12) (N := some 17) (v := ?_) (a' := ?_) #[true,false,true,false,false,true,false,false,true,false,false,false,true,false,false,false,false,false,false,false] rfl rfl (zas HT_.out qg) (fun _ _ _ h => h) (Or.inl ⟨by rfl,?_⟩) ?_ ?_
 rotate_left
 ·intro w'
  go_simp
  with_reducible rfl
 rotate_left
 ·simp only [Act.put,List.setIfInBounds_toArray,List.set_cons_zero,List.set_cons_succ,zS,zT]
  rfl
 refine zaF (i := 14) (N := some 19) (v := ?_) (a' := ?_) #[true,false,true,false,false,true,false,false,true,false,false,false,true,false,true,false,false,false,false,false] rfl rfl (zas HT_.out qg) (fun _ _ _ h => h) (Or.inl ⟨by rfl,?_⟩) ?_ ?_
 rotate_left
 ·intro w'
  go_simp
  with_reducible rfl
 rotate_left
 ·simp only [Act.put,List.setIfInBounds_toArray,List.set_cons_zero,List.set_cons_succ,zS,zT]
  rfl
 refine zbk (i := 1) (N := some 6) (v := ?_) (a' := ?_) #[true,true,true,false,false,true,false,false,true,false,false,false,true,false,true,false,false,false,false,false] rfl rfl (zaL HT_.out HW_.out qg) (fun _ _ _ h => h) (Or.inl ⟨by rfl,?_⟩) hHeld ?_ ?_
 rotate_left
 ·rintro w' ⟨s0,s1,s2,s3⟩
  go_simp
  with_reducible rfl
 rotate_left
 ·simp only [Act.put,List.setIfInBounds_toArray,List.set_cons_zero,List.set_cons_succ,zS,zT]
  rfl
 refine zbk (i := 3) (N := some 8) (v := ?_) (a' := ?_) #[true,true,true,true,false,true,false,false,true,false,false,false,true,false,true,false,false,false,false,false] rfl rfl (zaL HT_.out HW_.out qg) (fun _ _ _ h => h) (Or.inl ⟨by rfl,?_⟩) hHeld ?_ ?_
 rotate_left
 ·rintro w' ⟨s0,s1,s2,s3⟩
  go_simp
  with_reducible rfl
 rotate_left
 ·simp only [Act.put,List.setIfInBounds_toArray,List.set_cons_zero,List.set_cons_succ,zS,zT]
  rfl
 refine zbk (i := 6) (N := some 11) (v := ?_) (a' := ?_) #[true,true,true,true,false,true,true,false,true,false,false,false,true,false,true,false,false,false,false,false] rfl rfl (zaL HT_.out HW_.out qg) (fun _ _ _ h => h) (Or.inl ⟨by rfl,?_⟩) hHeld ?_ ?_
 rotate_left
 ·rintro w' ⟨s0,s1,s2,s3⟩
  go_simp
  with_reducible rfl
 rotate_left
 ·simp only [Act.put,List.setIfInBounds_toArray,List.set_cons_zero,List.set_cons_succ,zS,zT]
  rfl
 refine zaF (i := 7) (N := some 12) (v := ?_) (a' := ?_) #[true,true,true,true,false,true,true,true,true,false,false,false,true,false,true,false,false,false,false,false] rfl rfl (zas HT_.out qg) (fun _ _ _ h => h) (Or.inl ⟨by rfl,?_⟩) ?_ ?_
 rotate_left
 ·intro w'
  go_simp
  with_reducible rfl
 rotate_left
 ·simp only [Act.put,List.setIfInBounds_toArray,List.set_cons_zero,List.set_cons_succ,zS,zT]
  rfl
 refine zbk (i := 9) (N := some 14) (v := ?_) (a' := ?_) #[true,true,true,true,false,true,true,true,true,true,false,false,true,false,true,false,false,false,false,false] rfl rfl (zaL HT_.out HW_.out qg) (fun _ _ _ h => h) (Or.inl ⟨by rfl,?_⟩) hHeld ?_ ?_
 rotate_left
 ·rintro w' ⟨s0,s1,s2,s3⟩
  go_simp
  with_reducible rfl
 rotate_left
 ·simp only [Act.put,List.setIfInBounds_toArray,List.set_cons_zero,List.set_cons_succ,zS,zT]
  rfl
 refine zaF (i := 10) (N := some 15) (v := ?_) (a' := ?_) #[true,true,true,true,false,true,true,true,true,true,true,false,true,false,true,false,false,false,false,false] rfl rfl (zas HT_.out qg) (fun _ _ _ h => h) (Or.inl ⟨by rfl,?_⟩) ?_ ?_
 rotate_left
 ·intro w'
  go_simp
  with_reducible rfl
 rotate_left
 ·simp only [Act.put,List.setIfInBounds_toArray,List.set_cons_zero,List.set_cons_succ,zS,zT]
  rfl
 refine zbk (i := 13) (N := some 18) (v := ?_) (a' := ?_) #[true,true,true,true,false,true,true,true,true,true,true,false,true,true,true,false,false,false,false,false] rfl rfl (zaL HT_.out HW_.out qg) (fun _ _ _ h => h) (Or.inl ⟨by rfl,?_⟩) hHeld ?_ ?_
 rotate_left
 ·rintro w' ⟨s0,s1,s2,s3⟩
  go_simp
  with_reducible rfl
 rotate_left
 ·simp only [Act.put,List.setIfInBounds_toArray,List.set_cons_zero,List.set_cons_succ,zS,zT]
  rfl
 refine zbk (i := 15) (N := some 20) (v := ?_) (a' := ?_) #[true,true,true,true,false,true,true,true,true,true,true,false,true,true,true,true,false,false,false,false] rfl rfl (zaL HT_.out HW_.out qg) (fun _ _ _ h => h) (Or.inl ⟨by rfl,?_⟩) hHeld ?_ ?_
 rotate_left
 ·rintro w' ⟨s0,s1,s2,s3⟩
  go_simp
  with_reducible rfl
 rotate_left
 ·simp only [Act.put,List.setIfInBounds_toArray,List.set_cons_zero,List.set_cons_succ,zS,zT]
  rfl
 refine zb1 (i := 4) (N := some 9) #[true,true,true,true,true,true,true,true,true,true,true,false,true,true,true,true,false,false,false,false] rfl rfl (zbr HT_.out qg) qq (fun K hK => ?_)
 refine zbv Try.func118 qg rfl #[.int .i64 a0_0, .int .i64 a1_0] qA rfl rfl qb ?_
 with_reducible refine (cmp_Compare_int.calls a0_0 a1_0 t122 _ A3.out).mono ?_
 rintro e w' ⟨rfl,⟨nd,rfl⟩⟩
 refine ⟨_,rfl,?_⟩
 refine hK.out _ _ ⟨(zf BK120.out 0).trans rfl,(zf BK120.out 1).trans rfl,(zf BK121.out 0).trans rfl,(zf BK121.out 1).trans rfl⟩ (fun hHeld => ?_)
 clear hK K
 refine zaX (a' := ?_) ?_ ?_
 rotate_left
 ·show Act.put _ (some 9) _ = _
  simp only [Act.put,List.setIfInBounds_toArray,List.set_cons_zero,List.set_cons_succ,zS,zT]
  rfl
 refine zb1 (i := 11) (N := some 16) #[true,true,true,true,true,true,true,true,true,true,true,true,true,true,true,true,false,false,false,false] rfl rfl (zbr HT_.out qg) qq (fun K hK => ?_)
 refine zbv Try.func118 qg rfl #[.int .i64 (l0_1.length : Int), .int .i64 (l1_1.length : Int)] qA rfl rfl qb ?_
 with_reducible refine (cmp_Compare_int.calls (l0_1.length : Int) (l1_1.length : Int) t123 _ A4.out).mono ?_
 rintro e w' ⟨rfl,⟨nd,rfl⟩⟩
 refine ⟨_,rfl,?_⟩
 refine hK.out _ _ ⟨(zf BK120.out 0).trans rfl,(zf BK120.out 1).trans rfl,(zf BK121.out 0).trans rfl,(zf BK121.out 1).trans rfl⟩ (fun hHeld => ?_)
 clear hK K
 refine zaX (a' := ?_) ?_ ?_
 rotate_left
 ·show Act.put _ (some 16) _ = _
  simp only [Act.put,List.setIfInBounds_toArray,List.set_cons_zero,List.set_cons_succ,zS,zT]
  rfl
 refine zb1 (i := 16) (N := some 21) #[true,true,true,true,true,true,true,true,true,true,true,true,true,true,true,true,true,false,false,false] rfl rfl (zbr HT_.out qg) qq (fun K hK => ?_)
 refine zbv Try.func119 qg rfl #[.slice A0_1 l0_1.length c0_1, .slice A1_1 l1_1.length c1_1, .func (.func 120) #[] #[]] qA rfl rfl qb ?_
 with_reducible refine (zad.calls k _ _ l0_1 _ _ l1_1 t124 _ ?side1 ?side2 ?side3 ?side4 A5.out).mono ?_
 (case side1 => exact qN HR0_1.out HB.out GE120.out GE121.out)
 (case side2 => exact HC0_1.out)
 (case side3 => exact qN HR1_1.out HB.out GE120.out GE121.out)
 (case side4 => exact HC1_1.out)
 rintro e w10 ⟨rfl,hb⟩
 refine ⟨_,rfl,?_⟩
 have n0_ := za.mk (zu (g := gb120) (o := .cells #[.int .i64 a0_0, .slice A0_1 l0_1.length c0_1] 134 (0,0)) (qa BK120.out) hb)
 have n1_ := za.mk (zu (g := gb121) (o := .cells #[.int .i64 a1_0, .slice A1_1 l1_1.length c1_1] 134 (0,0)) (qa BK121.out) hb)
 have n2_ := za.mk (zo (qn HB.out GE120.out GE121.out) hb)
 clear BK120
 clear BK121
 clear HB
 have BK120 := n0_
 have BK121 := n1_
 have HB := n2_
 clear n0_ n1_ n2_
 (try clear hb)
 (try clear hb2)
 (try clear hk)
 (try clear hi)
 refine hK.out _ _ ⟨(zf BK120.out 0).trans rfl,(zf BK120.out 1).trans rfl,(zf BK121.out 0).trans rfl,(zf BK121.out 1).trans rfl⟩ (fun hHeld => ?_)
 clear hK K
 refine zaX (a' := ?_) ?_ ?_
 rotate_left
 ·show Act.put _ (some 21) _ = _
  simp only [Act.put,List.setIfInBounds_toArray,List.set_cons_zero,List.set_cons_succ,zS,zT]
  rfl
 refine zb1 (i := 17) (N := some 22) #[true,true,true,true,true,true,true,true,true,true,true,true,true,true,true,true,true,true,false,false] rfl rfl (zbr HT_.out qg) qq (fun K hK => ?_)
 refine Kd.zcC (Kd.int .i64) _ 3 ?hg (N := 22) ?hd (xs := ([t122,t123,t124] : List Int)) (inner := [.int .i64 t122, .int .i64 t123, .int .i64 t124]) (ok := fun _ => True) (okp := fun _ => True) ?hr ?hp (fun _ hk => hk) trivial (Below.refl _ _) (Nat.le_refl _) qC ?_; (case hd => rfl); (case hg => rfl); (case hr => exact qk); (case hp => exact (zX.one (show Kd.M (Kd.int .i64) _ _ _ t122 [.int .i64 t122] from rfl) (zX.one (show Kd.M (Kd.int .i64) _ _ _ t123 [.int .i64 t123] from rfl) (zX.one (show Kd.M (Kd.int .i64) _ _ _ t124 [.int .i64 t124] from rfl) (zX.none _ _)))))
 intro v126 w11 ho12 hb hg_ hnew_
 clear hg_ hnew_
 (first | rw [← Ny125.out] at ho12 | (simp only [Int.reduceToNat] at ho12; rw [← Ny125.out] at ho12))
 have n0_ := za.mk (Kd.zaO ho12 (zy (qn HB.out GE120.out GE121.out)))
 have n1_ := za.mk (zu (g := gb120) (o := .cells #[.int .i64 a0_0, .slice A0_1 l0_1.length c0_1] 134 (0,0)) (qa BK120.out) hb)
 have n2_ := za.mk (zu (g := gb121) (o := .cells #[.int .i64 a1_0, .slice A1_1 l1_1.length c1_1] 134 (0,0)) (qa BK121.out) hb)
 have n3_ := za.mk (zo (qn HB.out GE120.out GE121.out) hb)
 clear BK120
 clear BK121
 clear HB
 have HO127 := n0_
 have BK120 := n1_
 have BK121 := n2_
 have HB := n3_
 clear n0_ n1_ n2_ n3_
 clear hb ho12
 obtain ⟨Ao13,co13,eo13⟩ := Kd.zbc HO127.out
 (first | subst eo13 | (injection eo13 with f1_ f2_ f3_; have f4_ := f1_.symm; have f5_ := f3_.symm; clear f1_ f2_ f3_; subst f4_; subst f5_))
 refine hK.out _ _ ⟨(zf BK120.out 0).trans rfl,(zf BK120.out 1).trans rfl,(zf BK121.out 0).trans rfl,(zf BK121.out 1).trans rfl⟩ (fun hHeld => ?_)
 clear hK K
 refine zaX (a' := ?_) ?_ ?_
 rotate_left
 ·show Act.put _ (some 22) _ = _
  simp only [Act.put,List.setIfInBounds_toArray,List.set_cons_zero,List.set_cons_succ,zS,zT]
  rfl
 refine zb1 (i := 18) (N := some 23) #[true,true,true,true,true,true,true,true,true,true,true,true,true,true,true,true,true,true,true,false] rfl rfl (zbr HT_.out qg) qq (fun K hK => ?_)
 refine zbv Try.func117 qg rfl #[.slice Ao13 y125.length co13] qA rfl rfl qb ?_
 with_reducible refine (zay.calls k _ _ y125 t128 _ ?side1 ?side2 A6.out).mono ?_
 (case side1 => exact qK HO127.out)
 (case side2 => exact (Kd.zbd HO127.out).2.1)
 rintro e w' ⟨rfl,⟨nd,rfl⟩⟩
 refine ⟨_,rfl,?_⟩
 refine hK.out _ _ ⟨(zf BK120.out 0).trans rfl,(zf BK120.out 1).trans rfl,(zf BK121.out 0).trans rfl,(zf BK121.out 1).trans rfl⟩ (fun hHeld => ?_)
 clear hK K
 refine zaX (a' := ?_) ?_ ?_
 rotate_left
 ·show Act.put _ (some 23) _ = _
  simp only [Act.put,List.setIfInBounds_toArray,List.set_cons_zero,List.set_cons_succ,zS,zT]
  rfl
 refine zaF (i := 19) (N := some 4) (v := ?_) (a' := ?_) #[true,true,true,true,true,true,true,true,true,true,true,true,true,true,true,true,true,true,true,true] rfl rfl (zas HT_.out qg) (fun _ _ _ h => h) (Or.inl ⟨by rfl,?_⟩) ?_ ?_
 rotate_left
 ·intro w'
  go_simp
  with_reducible rfl
 rotate_left
 ·simp only [Act.put,List.setIfInBounds_toArray,List.set_cons_zero,List.set_cons_succ,zS,zT]
  rfl
 refine zej (zc0 HT_.out qg) ?_
 try go_wp2
 go_ret
 exact ⟨by first | rfl | (simp [zw,zx] <;> rfl) | (simp [*,zw,zx] <;> rfl),by repeat (first | (with_reducible first | exact HB.out | apply ze | apply zb | apply zg | refine zh ?_ GE120.out | refine zh ?_ GE121.out) | exact HB.out)⟩
def zcb (a b : Int) : Int := if a < b then -1 else if b < a then 1 else 0
def zdG (x y : ByteArray) : Int := if Op.bytesLess x.toList y.toList = true then -1 else if Op.bytesLess y.toList x.toList = true then 1 else 0
def or3 (a b c : Int) : Int := if a = 0 then (if b = 0 then c else b) else a
def zdA (a b : S63) : Int := or3 (zcb a.f1 b.f1) (zcb a.f0 b.f0) (zdG a.f2 b.f2)
def zbE : List S63 → List S63 → Int
 | [],[] => 0
 | [],_ :: _ => -1
 | _ :: _,[] => 1
 | a :: x,b :: y => if zdA a b = 0 then zbE x y else zdA a b
def cmpL (a b : Int × List S63) : Int := or3 (zcb a.1 b.1) (zcb a.2.length b.2.length) (zbE a.2 b.2)
theorem zdX (a b : Int) : cmp_Compare_int.f a b = some (zcb a b) := by
 unfold cmp_Compare_int.f cmp_isNaN_int.f zcb
 simp
 split
 ·rfl
 ·split <;> rfl
theorem zeK (a b : ByteArray) : za0.f a b = some (zdG a b) := by
 unfold za0.f cmp_isNaN_string.f zdG
 simp
 split
 ·rfl
 ·split <;> rfl
theorem or_eq (k : Nat) (a b c : Int) : zay.f (k + 4) [a,b,c] = some (or3 a b c) := by
 have e1 : wrap64 (0 + 1) = 1 := by unfold wrap64; omega
 have e2 : wrap64 (1 + 1) = 2 := by unfold wrap64; omega
 have e3 : wrap64 (2 + 1) = 3 := by unfold wrap64; omega
 simp only [zay.f,zay.l0,e1,e2,e3,or3]
 by_cases ha : a = 0 <;> by_cases hb : b = 0 <;> by_cases hc : c = 0 <;> simp [rd,ha,hb,hc]
theorem zfe (k : Nat) (a b : S63) : zan.f (k + 4) a.f0 a.f1 a.f2 b.f0 b.f1 b.f2 = some (zdA a b) := by
 simp [zan.f,zdX,zeK,or_eq,zdA]
theorem zdY (x y : List S63) (hx : x.length < 9223372036854775807) : ∀ (n : Nat) (i : Nat) (k : Nat),x.length - i = n → i ≤ x.length → i ≤ y.length →
  zad.l0 (n + 5 + k) x y x (x.length : Int) (i : Int) = some (zbE (x.drop i) (y.drop i))
 | 0,i,k,h,hi,hy => by
  have e : i = x.length := by omega
  have e' : 0 + 5 + k = (4 + k) + 1 := by omega
  rw [e',zad.l0,if_neg ql]
  rw [List.drop_eq_nil_of_le (by omega : x.length ≤ i)]
  by_cases hl : x.length < y.length
  ·rw [if_pos ql,List.drop_eq_getElem_cons (by omega : i < y.length)]; rfl
  ·rw [if_neg ql,List.drop_eq_nil_of_le ql]; rfl
 | n + 1,i,k,h,hi,hy => by
  have e' : n + 1 + 5 + k = (n + 5 + k) + 1 := by omega
  have hlt : i < x.length := by omega
  rw [e',zad.l0,if_pos ql,if_pos ql,if_pos ql,List.drop_eq_getElem_cons hlt]
  by_cases hl : i < y.length
  ·rw [if_neg ql,if_pos ql,List.drop_eq_getElem_cons hl]
   have r1 : zk x (i : Int) = x[i] := by simp [zk,List.getD,hlt]
   have r2 : zk y (i : Int) = y[i] := by simp [zk,List.getD,hl]
   have e4 : n + 5 + k = (n + 1 + k) + 4 := by omega
   have hw : wrap64 ((i : Int) + 1) = ((i + 1 : Nat) : Int) := by
    unfold wrap64; omega
   rw [r1,r2]
   conv => lhs; arg 1; rw [e4,zfe]
   rw [Option.bind_some,zbE]
   by_cases hc : zdA x[i] y[i] = 0
   ·rw [if_pos hc,if_pos hc,hw,zdY x y hx n (i + 1) k ql ql ql]
   ·rw [if_neg hc,if_neg hc]
  ·rw [if_pos ql,List.drop_eq_nil_of_le (by omega : y.length ≤ i)]
   rfl
theorem zfb (c d : Int) (x y : List S63) (hx : x.length < 9223372036854775807) : zax.f (x.length + 5) c x d y = some (cmpL (c,x) (d,y)) := by
 have h : zad.f (x.length + 5) x y = some (zbE x y) := zdY x y hx x.length 0 0 ql ql ql
 have e : x.length + 5 = (x.length + 1) + 4 := by omega
 simp only [zax.f,zdX,h,Option.bind_some,cmpL]
 rw [e,or_eq]
 rfl
theorem zdb (c : Int) (A : Option Addr) (cp : Nat) (x : List S63) (d : Int) (B : Option Addr) (dp : Nat) (y : List S63) (w : World) (hx : x.length < 9223372036854775807) (ha : Kd.C k63 w A x.length x) (hac : x.length ≤ cp) (hb : Kd.C k63 w B y.length y) (hbc : y.length ≤ dp) :
  Calls Try.prog 98 #[.agg #[.int .i64 c, .slice A x.length cp], .agg #[.int .i64 d, .slice B y.length dp]] w fun e w' => e = .returned (.int .i64 (cmpL (c,x) (d,y))) ∧ Below w.heap.size w w' :=
 zax.calls (x.length + 5) c A cp x d B dp y (cmpL (c,x) (d,y)) w ha hac hb hbc (zfb c d x y hx)
abbrev LV := Value × Int × List S63
def kL : Kd LV where
 sz := 2
 E := 63 :: k63.E
 K := fun w x cs => cs = [.int .i64 x.2.1,x.1] ∧ ∃ A c,x.1 = .slice A x.2.2.length c ∧ x.2.2.length ≤ c ∧ Kd.C k63 w A x.2.2.length x.2.2
 M := fun w base ok x cs => cs = [.int .i64 x.2.1,x.1] ∧ Kd.R k63 63 w base ok x.1 x.2.2
 K_len := by
  rintro w x cs ⟨rfl,_⟩
  rfl
 K_one := by
  rintro w x cs ⟨rfl,A,c,h,_⟩ u hu
  simp only [List.mem_cons,List.not_mem_nil,or_false] at hu
  rcases hu with rfl | rfl
  ·rfl
  ·rw [h]; rfl
 K_below := by
  rintro w w1 x cs hb ⟨rfl,A,c,h,hl,hr⟩
  exact ⟨rfl,A,c,h,hl,Kd.zU hr hb⟩
 K_of_M := by
  rintro w base ok x cs ⟨rfl,h⟩
  obtain ⟨A,c,h1,hl,hr⟩ := Kd.zak h
  exact ⟨rfl,A,c,h1,hl,hr⟩
 M_mono := by
  rintro w base ok ok' x cs hok ⟨rfl,h⟩
  exact ⟨rfl,Kd.zaB h hok⟩
 M_bound := by
  rintro w base ok x cs ⟨rfl,h⟩
  exact ⟨rfl,Kd.za5 h⟩
 M_move := by
  rintro w w1 base ok x cs hm ⟨rfl,h⟩
  exact ⟨rfl,Kd.zcV h hm⟩
 M_lower := by
  rintro w base base' ok x cs hb ⟨rfl,h⟩
  exact ⟨rfl,Kd.zaO h hb⟩
theorem zh9 {e : Nat} {w : World} {base : Nat} {ok : Nat → Prop} {v : Value} {xs : List LV} (h : Kd.R kL e w base ok v xs) : ∀ x ∈ xs,Kd.R k63 63 w base ok x.1 x.2.2 := by
 obtain ⟨_,inner,_,hr⟩ := h
 intro x hx
 obtain ⟨j,hj,rfl⟩ := List.getElem_of_mem hx
 exact Kd.zaB (hr.2 j _ (List.getElem?_eq_getElem hj)).2 (fun _ hk => hk.1)
def zL : LV := (.slice none 0 0,0,[])
theorem zhU {w : World} {A : Option Addr} {n : Nat} {xs : List LV} (h : Kd.C kL w A n xs) (i : Int) (h0 : 0 ≤ i) (h1 : i < n) : ∃ ad,A = some ad ∧ w.cell? (ad.add (i.toNat * 2)) = some (.int .i64 (xs.getD i.toNat zL).2.1) ∧ w.cell? ⟨(ad.add (i.toNat * 2)).block,(ad.add (i.toNat * 2)).off + 1,none⟩ = some (xs.getD i.toNat zL).1 ∧
  ∃ B c,(xs.getD i.toNat zL).1 = .slice B (xs.getD i.toNat zL).2.2.length c ∧ (xs.getD i.toNat zL).2.2.length ≤ c ∧ Kd.C k63 w B (xs.getD i.toNat zL).2.2.length (xs.getD i.toNat zL).2.2 := by
 obtain ⟨ad,c,e,_,hK,hc0⟩ := Kd.ze2 h zL i h0 h1
 have hc : ∀ j u,c[j]? = some u → w.cell? (ad.add (i.toNat * 2 + j)) = some u := hc0
 obtain ⟨rfl,hL⟩ := hK
 exact ⟨ad,e,hc 0 _ rfl,by rw [← zeu _ _ 1 ql]; exact hc 1 _ rfl,hL⟩
theorem zil {w : World} {A : Option Addr} {n : Nat} {xs : List LV} (h : Kd.C kL w A n xs) (i : Int) (h0 : 0 ≤ i) (h1 : i < n) : ∃ B c,(xs.getD i.toNat zL).1 = .slice B (xs.getD i.toNat zL).2.2.length c ∧ (xs.getD i.toNat zL).2.2.length ≤ c ∧ Kd.C k63 w B (xs.getD i.toNat zL).2.2.length (xs.getD i.toNat zL).2.2 := by
 obtain ⟨ad,e,hx0,hx1,hxs⟩ := zhU h i h0 h1
 exact hxs
def zaY (first : LV) : List LV → LV
 | [] => first
 | x :: xs => zaY (if cmpL x.2 first.2 < 0 then x else first) xs
def zaq (first : Int × List S63) : List (Int × List S63) → Int × List S63
 | [] => first
 | x :: xs => zaq (if cmpL x first < 0 then x else first) xs
theorem zcU (xs : List LV) : ∀ first : LV,(zaY first xs).2 = zaq first.2 (xs.map Prod.snd) := by
 induction xs with
 | nil => intro first; rfl
 | cons x xs ih =>
  intro first
  simp only [zaY,List.map_cons,zaq]
  rw [ih]
  congr 1
  split <;> rfl
theorem zcP (xs : List LV) : ∀ first : LV,zaY first xs = first ∨ zaY first xs ∈ xs := by
 induction xs with
 | nil => intro first; exact .inl rfl
 | cons x xs ih =>
  intro first
  simp only [zaY]
  rcases ih (if cmpL x.2 first.2 < 0 then x else first) with h | h
  ·by_cases hc : cmpL x.2 first.2 < 0
   ·rw [if_pos hc] at h ⊢; exact .inr (by rw [h]; exact List.mem_cons_self)
   ·rw [if_neg hc] at h ⊢; exact .inl h
  ·exact .inr (List.mem_cons_of_mem _ h)
end Go.Proofs.Ytgmbbfmbimofoaa.P
