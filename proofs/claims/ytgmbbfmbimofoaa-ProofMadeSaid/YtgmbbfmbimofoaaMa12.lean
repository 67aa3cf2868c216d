-- MERGED BY A PROGRAM out of texts of this claim: hand work, and what a (turned) print of the kit has written for it
import Derived.Test.YtgmbbfmbimofoaaMa5
import Derived.Test.YtgmbbfmbimofoaaMa7
import Derived.Test.YtgmbbfmbimofoaaMa11
import Derived.Test.YtgmbbfmbimofoaaMa8
namespace Go.Proofs.Ytgmbbfmbimofoaa.P
open Go.RowKit Go.Proofs.YtgmbbfmbimofoaaW.PrintWords Go.Proofs.YtgmbbfmbimofoaaW.PrintLast Go.Proofs.YtgmbbfmbimofoaaW.PrintMore
attribute [local go_sem] max2_int min2_int max_two min_two max_three min_three max_four min_four
set_option linter.unusedVariables false
set_option linter.unusedSimpArgs false
attribute [local go_sem high] eqA63
def proof_Diff.f (k : Nat) (l0 : List ByteArray) (l1 : List ByteArray) : Option ((List (S63)) × Int) := (proof_Check.f k l0).bind fun t106 => (if t106 = 0 then ((proof_Check.f k l1).bind fun t107 => (if t107 = 0 then ((proof_diff.f l0 l1).bind fun t108 => (some (t108, 0))) else (some (([] : List (S63)), t107)))) else (some (([] : List (S63)), t106)))
set_option maxHeartbeats 8000000 in
set_option maxRecDepth 100000 in
theorem proof_Diff.calls (k : Nat) (A0 : Option Addr) (c0 : Nat) (l0 : List ByteArray) (A1 : Option Addr) (c1 : Nat) (l1 : List ByteArray) (r1 : List (S63)) (r2 : Int) (w : World) (hr0 : Kd.C Kd.string w A0 l0.length l0) (hc0 : l0.length ≤ c0) (hr1 : Kd.C Kd.string w A1 l1.length l1) (hc1 : l1.length ≤ c1) (h : proof_Diff.f k l0 l1 = some (r1, r2)) :
  Calls Try.prog 22 #[.slice A0 l0.length c0, .slice A1 l1.length c1] w fun e w' => ∃ v0_ : Value, e = .returned (.tuple #[v0_, .int .i64 r2]) ∧ Kd.R k63 63 w' w.heap.size (fun _ => True) v0_ r1 ∧ Below w.heap.size w w' := by
 have HR0 := Aside0.mk hr0
 have HC0 := Aside0.mk hc0
 clear hr0 hc0
 have HR1 := Aside0.mk hr1
 have HC1 := Aside0.mk hc1
 clear hr1 hc1
 have HB := Aside0.mk (Below.refl w.heap.size w)
 have H : ((proof_Check.f k l0).bind fun t106 => (if t106 = 0 then ((proof_Check.f k l1).bind fun t107 => (if t107 = 0 then ((proof_diff.f l0 l1).bind fun t108 => (some (t108, 0))) else (some (([] : List (S63)), t107)))) else (some (([] : List (S63)), t106)))) = some (r1, r2) := h
 clear h
 replace H := Option.bind_eq_some_iff.mp H
 obtain ⟨t106, A30, H⟩ := H
 replace H : (if t106 = 0 then ((proof_Check.f k l1).bind fun t107 => (if t107 = 0 then ((proof_diff.f l0 l1).bind fun t108 => (some (t108, 0))) else (some (([] : List (S63)), t107)))) else (some (([] : List (S63)), t106))) = some (r1, r2) := H
 have A3 := Aside0.mk A30
 clear A30
 by_cases c4 : t106 = 0
 ·rw [if_pos c4] at H
  have c4b0 : (t106 == 0) = true := beq_iff_eq.mpr c4
  have c4b1 : (t106 != 0) = false := bne_eq_false_iff_eq.mpr c4
  clear c4
  replace H := Option.bind_eq_some_iff.mp H
  obtain ⟨t107, A50, H⟩ := H
  replace H : (if t107 = 0 then ((proof_diff.f l0 l1).bind fun t108 => (some (t108, 0))) else (some (([] : List (S63)), t107))) = some (r1, r2) := H
  have A5 := Aside0.mk A50
  clear A50
  by_cases c6 : t107 = 0
  ·rw [if_pos c6] at H
   have c6b0 : (t107 == 0) = true := beq_iff_eq.mpr c6
   have c6b1 : (t107 != 0) = false := bne_eq_false_iff_eq.mpr c6
   clear c6
   replace H := Option.bind_eq_some_iff.mp H
   obtain ⟨t108, A70, H⟩ := H
   replace H : (some (t108, 0)) = some (r1, r2) := H
   have A7 := Aside0.mk A70
   clear A70
   simp only [Option.some.injEq, Prod.mk.injEq] at H
   obtain ⟨rfl, rfl⟩ := H
   go_enter Try.func22, Try.ntmps22
   go_wp2_with (first | ((with_reducible refine gate_callee (f := 46) rfl ?_); refine goesL_ (some 9) rfl rfl Try.func46 (by kernel_rfl) rfl #[.slice A0 l0.length c0] rfl (by (try simp only [List.map_toArray, List.map_cons, List.map_nil]); first | done | rfl | (simp only [List.length_drop, List.length_take]; rfl)) ?_; (with_reducible refine (proof_Check.calls k _ _ l0 t106 _ ?side1 ?side2 A3.out).mono ?_); (case side1 => repeat (first | exact HR0.out | (with_reducible refine Kd.C_alloc ?_ _) | (with_reducible refine Kd.C_drewN ?_ _) | (with_reducible refine Kd.C_drew ?_))); (case side2 => exact HC0.out); rintro e w8 ⟨rfl, hb⟩; refine ⟨_, rfl, ?_⟩; have n0_ := Aside0.mk (below_step (by repeat (first | (with_reducible first | exact HB.out | apply below_alloc | apply pw_below_drewN | apply below_drew1) | exact HB.out)) hb); clear HB; have HB := n0_; clear n0_; (try clear hb); (try clear hb2); (try clear hk); (try clear hi)) | ((with_reducible refine gate_callee (f := 46) rfl ?_); refine goesL_ (some 14) rfl rfl Try.func46 (by kernel_rfl) rfl #[.slice A1 l1.length c1] rfl (by (try simp only [List.map_toArray, List.map_cons, List.map_nil]); first | done | rfl | (simp only [List.length_drop, List.length_take]; rfl)) ?_; (with_reducible refine (proof_Check.calls k _ _ l1 t107 _ ?side1 ?side2 A5.out).mono ?_); (case side1 => repeat (first | exact (Kd.C_below HR1.out HB.out) | (with_reducible refine Kd.C_alloc ?_ _) | (with_reducible refine Kd.C_drewN ?_ _) | (with_reducible refine Kd.C_drew ?_))); (case side2 => exact HC1.out); rintro e w9 ⟨rfl, hb⟩; refine ⟨_, rfl, ?_⟩; have n0_ := Aside0.mk (below_step (by repeat (first | (with_reducible first | exact HB.out | apply below_alloc | apply pw_below_drewN | apply below_drew1) | exact HB.out)) hb); clear HB; have HB := n0_; clear n0_; (try clear hb); (try clear hb2); (try clear hk); (try clear hi)) | ((with_reducible refine gate_callee (f := 64) rfl ?_); refine goesL_ (some 20) rfl rfl Try.func64 (by kernel_rfl) rfl #[.slice A0 l0.length c0, .slice A1 l1.length c1] rfl (by (try simp only [List.map_toArray, List.map_cons, List.map_nil]); first | done | rfl | (simp only [List.length_drop, List.length_take]; rfl)) ?_; (with_reducible refine (proof_diff.calls _ _ l0 _ _ l1 t108 _ ?side1 ?side2 ?side3 ?side4 A7.out).mono ?_); (case side1 => repeat (first | exact (Kd.C_below HR0.out HB.out) | (with_reducible refine Kd.C_alloc ?_ _) | (with_reducible refine Kd.C_drewN ?_ _) | (with_reducible refine Kd.C_drew ?_))); (case side2 => exact HC0.out); (case side3 => repeat (first | exact (Kd.C_below HR1.out HB.out) | (with_reducible refine Kd.C_alloc ?_ _) | (with_reducible refine Kd.C_drewN ?_ _) | (with_reducible refine Kd.C_drew ?_))); (case side4 => exact HC1.out); rintro e w10 ⟨v109, rfl, ho0, hb⟩; refine ⟨_, rfl, ?_⟩; have n0_ := Aside0.mk (Kd.R_lower ho0 (below_size (by repeat (first | (with_reducible first | exact HB.out | apply below_alloc | apply pw_below_drewN | apply below_drew1) | exact HB.out)))); have n1_ := Aside0.mk (below_step (by repeat (first | (with_reducible first | exact HB.out | apply below_alloc | apply pw_below_drewN | apply below_drew1) | exact HB.out)) hb); clear HB; have HO110 := n0_; have HB := n1_; clear n0_ n1_; (try clear hb); (try clear hb2); (try clear hk); (try clear hi); (try clear ho0)))
   go_ret2
   exact ⟨_, by first | rfl | (simp [errW_none, errW_some] <;> rfl) | (simp [*, errW_none, errW_some] <;> rfl), by (with_reducible repeat (first | apply Kd.R_alloc | apply Kd.R_drewN | apply Kd.R_drew)); exact HO110.out, by repeat (first | (with_reducible first | exact HB.out | apply below_alloc | apply pw_below_drewN | apply below_drew1) | exact HB.out)⟩
  ·rw [if_neg c6] at H
   have c6b0 : (t107 == 0) = false := beq_eq_false_iff_ne.mpr c6
   have c6b1 : (t107 != 0) = true := bne_iff_ne.mpr c6
   simp only [Option.some.injEq, Prod.mk.injEq] at H
   obtain ⟨rfl, rfl⟩ := H
   go_enter Try.func22, Try.ntmps22
   go_wp2_with (first | ((with_reducible refine gate_callee (f := 46) rfl ?_); refine goesL_ (some 9) rfl rfl Try.func46 (by kernel_rfl) rfl #[.slice A0 l0.length c0] rfl (by (try simp only [List.map_toArray, List.map_cons, List.map_nil]); first | done | rfl | (simp only [List.length_drop, List.length_take]; rfl)) ?_; (with_reducible refine (proof_Check.calls k _ _ l0 t106 _ ?side1 ?side2 A3.out).mono ?_); (case side1 => repeat (first | exact HR0.out | (with_reducible refine Kd.C_alloc ?_ _) | (with_reducible refine Kd.C_drewN ?_ _) | (with_reducible refine Kd.C_drew ?_))); (case side2 => exact HC0.out); rintro e w11 ⟨rfl, hb⟩; refine ⟨_, rfl, ?_⟩; have n0_ := Aside0.mk (below_step (by repeat (first | (with_reducible first | exact HB.out | apply below_alloc | apply pw_below_drewN | apply below_drew1) | exact HB.out)) hb); clear HB; have HB := n0_; clear n0_; (try clear hb); (try clear hb2); (try clear hk); (try clear hi)) | ((with_reducible refine gate_callee (f := 46) rfl ?_); refine goesL_ (some 14) rfl rfl Try.func46 (by kernel_rfl) rfl #[.slice A1 l1.length c1] rfl (by (try simp only [List.map_toArray, List.map_cons, List.map_nil]); first | done | rfl | (simp only [List.length_drop, List.length_take]; rfl)) ?_; (with_reducible refine (proof_Check.calls k _ _ l1 t107 _ ?side1 ?side2 A5.out).mono ?_); (case side1 => repeat (first | exact (Kd.C_below HR1.out HB.out) | (with_reducible refine Kd.C_alloc ?_ _) | (with_reducible refine Kd.C_drewN ?_ _) | (with_reducible refine Kd.C_drew ?_))); (case side2 => exact HC1.out); rintro e w12 ⟨rfl, hb⟩; refine ⟨_, rfl, ?_⟩; have n0_ := Aside0.mk (below_step (by repeat (first | (with_reducible first | exact HB.out | apply below_alloc | apply pw_below_drewN | apply below_drew1) | exact HB.out)) hb); clear HB; have HB := n0_; clear n0_; (try clear hb); (try clear hb2); (try clear hk); (try clear hi)))
   go_ret2
   exact ⟨_, by first | rfl | (simp [errW_none, errW_some] <;> rfl) | (simp [*, errW_none, errW_some] <;> rfl), by first | exact Kd.R_nil _ _ _ _ _ | exact Kd.N_nil _ _ _ _ _ | exact Kd.V_nil _ _ _ _ _ | exact Kd.Q_nil _ _ _ _ _ | exact Kd.S_nil _ _ _ _ _, by repeat (first | (with_reducible first | exact HB.out | apply below_alloc | apply pw_below_drewN | apply below_drew1) | exact HB.out)⟩
 ·rw [if_neg c4] at H
  have c4b0 : (t106 == 0) = false := beq_eq_false_iff_ne.mpr c4
  have c4b1 : (t106 != 0) = true := bne_iff_ne.mpr c4
  simp only [Option.some.injEq, Prod.mk.injEq] at H
  obtain ⟨rfl, rfl⟩ := H
  go_enter Try.func22, Try.ntmps22
  go_wp2_with (first | ((with_reducible refine gate_callee (f := 46) rfl ?_); refine goesL_ (some 9) rfl rfl Try.func46 (by kernel_rfl) rfl #[.slice A0 l0.length c0] rfl (by (try simp only [List.map_toArray, List.map_cons, List.map_nil]); first | done | rfl | (simp only [List.length_drop, List.length_take]; rfl)) ?_; (with_reducible refine (proof_Check.calls k _ _ l0 t106 _ ?side1 ?side2 A3.out).mono ?_); (case side1 => repeat (first | exact HR0.out | (with_reducible refine Kd.C_alloc ?_ _) | (with_reducible refine Kd.C_drewN ?_ _) | (with_reducible refine Kd.C_drew ?_))); (case side2 => exact HC0.out); rintro e w13 ⟨rfl, hb⟩; refine ⟨_, rfl, ?_⟩; have n0_ := Aside0.mk (below_step (by repeat (first | (with_reducible first | exact HB.out | apply below_alloc | apply pw_below_drewN | apply below_drew1) | exact HB.out)) hb); clear HB; have HB := n0_; clear n0_; (try clear hb); (try clear hb2); (try clear hk); (try clear hi)))
  go_ret2
  exact ⟨_, by first | rfl | (simp [errW_none, errW_some] <;> rfl) | (simp [*, errW_none, errW_some] <;> rfl), by first | exact Kd.R_nil _ _ _ _ _ | exact Kd.N_nil _ _ _ _ _ | exact Kd.V_nil _ _ _ _ _ | exact Kd.Q_nil _ _ _ _ _ | exact Kd.S_nil _ _ _ _ _, by repeat (first | (with_reducible first | exact HB.out | apply below_alloc | apply pw_below_drewN | apply below_drew1) | exact HB.out)⟩
def wayzgoosekit_EqMarks.l0 : Nat → List (S63) → List (S63) → Int → Option (Bool)
 | 0, _, _, _ => none
 | k + 1, x0, x1, x5 => if x5 < (x0.length : Int) then (if 0 ≤ x5 then (if x5 < (x1.length : Int) then (if (!(((rd_T63 x0 x5).f0) == ((rd_T63 x1 x5).f0)) || (!(((rd_T63 x0 x5).f1) == ((rd_T63 x1 x5).f1)) || (!((((rd_T63 x0 x5).f2).toList) == (((rd_T63 x1 x5).f2).toList))))) = true then (some false) else (wayzgoosekit_EqMarks.l0 k x0 x1 (wrap64 (x5 + 1)))) else (none)) else (none)) else (some true)
def wayzgoosekit_EqMarks.f (k : Nat) (l0 : List (S63)) (l1 : List (S63)) : Option (Bool) := if (l0.length : Int) = (l1.length : Int) then (wayzgoosekit_EqMarks.l0 k l0 l1 0) else (some false)
set_option maxHeartbeats 8000000 in
set_option maxRecDepth 100000 in
theorem wayzgoosekit_EqMarks.calls (k : Nat) (A0 : Option Addr) (c0 : Nat) (l0 : List (S63)) (A1 : Option Addr) (c1 : Nat) (l1 : List (S63)) (r : Bool) (w : World) (hr0 : Kd.C k63 w A0 l0.length l0) (hc0 : l0.length ≤ c0) (hr1 : Kd.C k63 w A1 l1.length l1) (hc1 : l1.length ≤ c1) (h : wayzgoosekit_EqMarks.f k l0 l1 = some r) :
  Calls Try.prog 24 #[.slice A0 l0.length c0, .slice A1 l1.length c1] w fun e w' => e = .returned (.bool r) ∧ Drawn0 w w' := by
 have hu63 := Try.underlying63
 have HR0 := Aside0.mk hr0
 have HC0 := Aside0.mk hc0
 clear hr0 hc0
 have HR1 := Aside0.mk hr1
 have HC1 := Aside0.mk hc1
 clear hr1 hc1
 have H : (if (l0.length : Int) = (l1.length : Int) then (wayzgoosekit_EqMarks.l0 k l0 l1 0) else (some false)) = some r := h
 clear h
 by_cases c3 : (l0.length : Int) = (l1.length : Int)
 ·rw [if_pos c3] at H
  have c3b0 : ((l0.length : Int) == (l1.length : Int)) = true := beq_iff_eq.mpr c3
  have c3b1 : ((l0.length : Int) != (l1.length : Int)) = false := bne_eq_false_iff_eq.mpr c3
  have c3b2 : (l0.length == l1.length) = true := by first | simpa using c3 | (simp at c3 ⊢; omega)
  clear c3
  have H' := Aside0.mk H
  clear H
  go_enter Try.func24, Try.ntmps24
  go_wp2
  repeat (go_quiet (fail); try go_wp2)
  go_loopg [5] k (fun kq v5 w' => ∃ (x5_1 : Int), v5 = .int .i64 x5_1 ∧ Aside0 (wayzgoosekit_EqMarks.l0 kq l0 l1 x5_1 = some r) ∧ Aside0 (kq ≤ k) ∧ Drawn0 w w')
  case atStart => exact ⟨(0), (by first | rfl | (simp; done) | (simp [*]; done)), H', ⟨Nat.le_refl _⟩, by repeat (first | exact Drawn0.refl _ | apply Drawn0.step)⟩
  case round =>
   clear H'
   try clear c1
   try clear c2
   try clear p2
   try clear c3
   try clear c3b0
   try clear c3b1
   try clear c3b2
   obtain ⟨x5_1, rfl, HA, HK1, ⟨m1, rfl⟩⟩ := hrel
   cases gk with
   | zero => exact absurd HA.out (by simp [wayzgoosekit_EqMarks.l0])
   | succ k1 =>
    have H := HA.out
    clear HA
    simp only [wayzgoosekit_EqMarks.l0] at H
    by_cases c4 : x5_1 < (l0.length : Int)
    ·rw [if_pos c4] at H
     have c4b0 : decide (x5_1 < (l0.length : Int)) = true := decide_eq_true c4
     clear c4
     by_cases c5 : 0 ≤ x5_1
     ·rw [if_pos c5] at H
      have c5b0 : decide (0 ≤ x5_1) = true := decide_eq_true c5
      clear c5
      by_cases c6 : x5_1 < (l1.length : Int)
      ·rw [if_pos c6] at H
       have c6b0 : decide (x5_1 < (l1.length : Int)) = true := decide_eq_true c6
       clear c6
       by_cases c7 : (!(((rd_T63 l0 x5_1).f0) == ((rd_T63 l1 x5_1).f0)) || (!(((rd_T63 l0 x5_1).f1) == ((rd_T63 l1 x5_1).f1)) || (!((((rd_T63 l0 x5_1).f2).toList) == (((rd_T63 l1 x5_1).f2).toList))))) = true
       ·rw [if_pos c7] at H
        have c7b0 : (!(((rd_T63 l0 x5_1).f0) == ((rd_T63 l1 x5_1).f0)) || (!(((rd_T63 l0 x5_1).f1) == ((rd_T63 l1 x5_1).f1)) || (!((((rd_T63 l0 x5_1).f2).toList) == (((rd_T63 l1 x5_1).f2).toList))))) = true := c7
        clear c7
        obtain rfl := Option.some.inj H
        have p111 : 0 ≤ (x5_1 : Int) := of_decide_eq_true (by first | (with_reducible assumption) | assumption)
        have q111 : x5_1 < (l0.length : Int) := of_decide_eq_true (by first | (with_reducible assumption) | assumption)
        obtain ⟨ad111, e111, hx111_0, hx111_1, hx111_2⟩ := at_T63 HR0.out x5_1 p111 q111
        cases e111
        replace p111 := eq_true p111
        replace q111 := eq_true q111
        have p112 : 0 ≤ (x5_1 : Int) := of_decide_eq_true (by first | (with_reducible assumption) | assumption)
        have q112 : x5_1 < (l1.length : Int) := of_decide_eq_true (by first | (with_reducible assumption) | assumption)
        obtain ⟨ad112, e112, hx112_0, hx112_1, hx112_2⟩ := at_T63 HR1.out x5_1 p112 q112
        cases e112
        replace p112 := eq_true p112
        replace q112 := eq_true q112
        go_wp2
        repeat (go_quiet (fail); try go_wp2)
        go_ret
        exact ⟨by first | rfl | (simp; done) | (simp [*]; done), by repeat (first | exact Drawn0.refl _ | apply Drawn0.step)⟩
       ·rw [if_neg c7] at H
        have c7b0 : (!(((rd_T63 l0 x5_1).f0) == ((rd_T63 l1 x5_1).f0)) || (!(((rd_T63 l0 x5_1).f1) == ((rd_T63 l1 x5_1).f1)) || (!((((rd_T63 l0 x5_1).f2).toList) == (((rd_T63 l1 x5_1).f2).toList))))) = false := by simpa using c7
        clear c7
        have H' := Aside0.mk H
        clear H
        have p111 : 0 ≤ (x5_1 : Int) := of_decide_eq_true (by first | (with_reducible assumption) | assumption)
        have q111 : x5_1 < (l0.length : Int) := of_decide_eq_true (by first | (with_reducible assumption) | assumption)
        obtain ⟨ad111, e111, hx111_0, hx111_1, hx111_2⟩ := at_T63 HR0.out x5_1 p111 q111
        cases e111
        replace p111 := eq_true p111
        replace q111 := eq_true q111
        have p112 : 0 ≤ (x5_1 : Int) := of_decide_eq_true (by first | (with_reducible assumption) | assumption)
        have q112 : x5_1 < (l1.length : Int) := of_decide_eq_true (by first | (with_reducible assumption) | assumption)
        obtain ⟨ad112, e112, hx112_0, hx112_1, hx112_2⟩ := at_T63 HR1.out x5_1 p112 q112
        cases e112
        replace p112 := eq_true p112
        replace q112 := eq_true q112
        go_wp2
        repeat (go_quiet (fail); try go_wp2)
        go_roundg k1
        case measure => have := HK1.out; omega
        case rel => exact ⟨(wrap64 (x5_1 + 1)), (by first | rfl | (simp; done) | (simp [*]; done)), H', ⟨by have := HK1.out; omega⟩, by repeat (first | exact Drawn0.refl _ | apply Drawn0.step)⟩
      ·rw [if_neg c6] at H
       exact absurd H (by simp)
     ·rw [if_neg c5] at H
      exact absurd H (by simp)
    ·rw [if_neg c4] at H
     have c4b0 : decide (x5_1 < (l0.length : Int)) = false := decide_eq_false c4
     clear c4
     obtain rfl := Option.some.inj H
     go_wp2
     repeat (go_quiet (fail); try go_wp2)
     go_ret
     exact ⟨by first | rfl | (simp; done) | (simp [*]; done), by repeat (first | exact Drawn0.refl _ | apply Drawn0.step)⟩
 ·rw [if_neg c3] at H
  have c3b0 : ((l0.length : Int) == (l1.length : Int)) = false := beq_eq_false_iff_ne.mpr c3
  have c3b1 : ((l0.length : Int) != (l1.length : Int)) = true := bne_iff_ne.mpr c3
  have c3b2 : (l0.length == l1.length) = false := by first | simpa using c3 | (simp at c3 ⊢; omega)
  obtain rfl := Option.some.inj H
  go_enter Try.func24, Try.ntmps24
  go_wp2
  repeat (go_quiet (fail); try go_wp2)
  go_ret
  exact ⟨by first | rfl | (simp; done) | (simp [*]; done), by repeat (first | exact Drawn0.refl _ | apply Drawn0.step)⟩
def wayzgoosekit_EqStrings.l0 : Nat → List ByteArray → List ByteArray → Int → Option (Bool)
 | 0, _, _, _ => none
 | k + 1, x0, x1, x5 => if x5 < (x0.length : Int) then (if 0 ≤ x5 then (if x5 < (x1.length : Int) then (if (rdOf ByteArray.empty x0 x5).toList = (rdOf ByteArray.empty x1 x5).toList then (wayzgoosekit_EqStrings.l0 k x0 x1 (wrap64 (x5 + 1))) else (some false)) else (none)) else (none)) else (some true)
def wayzgoosekit_EqStrings.f (k : Nat) (l0 : List ByteArray) (l1 : List ByteArray) : Option (Bool) := if (l0.length : Int) = (l1.length : Int) then (wayzgoosekit_EqStrings.l0 k l0 l1 0) else (some false)
set_option maxHeartbeats 8000000 in
set_option maxRecDepth 100000 in
theorem wayzgoosekit_EqStrings.calls (k : Nat) (A0 : Option Addr) (c0 : Nat) (l0 : List ByteArray) (A1 : Option Addr) (c1 : Nat) (l1 : List ByteArray) (r : Bool) (w : World) (hr0 : Kd.C Kd.string w A0 l0.length l0) (hc0 : l0.length ≤ c0) (hr1 : Kd.C Kd.string w A1 l1.length l1) (hc1 : l1.length ≤ c1) (h : wayzgoosekit_EqStrings.f k l0 l1 = some r) :
  Calls Try.prog 25 #[.slice A0 l0.length c0, .slice A1 l1.length c1] w fun e w' => e = .returned (.bool r) ∧ Drawn0 w w' := by
 have HR0 := Aside0.mk hr0
 have HC0 := Aside0.mk hc0
 clear hr0 hc0
 have HR1 := Aside0.mk hr1
 have HC1 := Aside0.mk hc1
 clear hr1 hc1
 have H : (if (l0.length : Int) = (l1.length : Int) then (wayzgoosekit_EqStrings.l0 k l0 l1 0) else (some false)) = some r := h
 clear h
 by_cases c3 : (l0.length : Int) = (l1.length : Int)
 ·rw [if_pos c3] at H
  have c3b0 : ((l0.length : Int) == (l1.length : Int)) = true := beq_iff_eq.mpr c3
  have c3b1 : ((l0.length : Int) != (l1.length : Int)) = false := bne_eq_false_iff_eq.mpr c3
  have c3b2 : (l0.length == l1.length) = true := by first | simpa using c3 | (simp at c3 ⊢; omega)
  clear c3
  have H' := Aside0.mk H
  clear H
  go_enter Try.func25, Try.ntmps25
  go_wp2
  repeat (go_quiet (fail); try go_wp2)
  go_loopg [5] k (fun kq v5 w' => ∃ (x5_1 : Int), v5 = .int .i64 x5_1 ∧ Aside0 (wayzgoosekit_EqStrings.l0 kq l0 l1 x5_1 = some r) ∧ Aside0 (kq ≤ k) ∧ Drawn0 w w')
  case atStart => exact ⟨(0), (by first | rfl | (simp; done) | (simp [*]; done)), H', ⟨Nat.le_refl _⟩, by repeat (first | exact Drawn0.refl _ | apply Drawn0.step)⟩
  case round =>
   clear H'
   try clear c1
   try clear c2
   try clear p2
   try clear c3
   try clear c3b0
   try clear c3b1
   try clear c3b2
   obtain ⟨x5_1, rfl, HA, HK1, ⟨m1, rfl⟩⟩ := hrel
   cases gk with
   | zero => exact absurd HA.out (by simp [wayzgoosekit_EqStrings.l0])
   | succ k1 =>
    have H := HA.out
    clear HA
    simp only [wayzgoosekit_EqStrings.l0] at H
    by_cases c4 : x5_1 < (l0.length : Int)
    ·rw [if_pos c4] at H
     have c4b0 : decide (x5_1 < (l0.length : Int)) = true := decide_eq_true c4
     clear c4
     by_cases c5 : 0 ≤ x5_1
     ·rw [if_pos c5] at H
      have c5b0 : decide (0 ≤ x5_1) = true := decide_eq_true c5
      clear c5
      by_cases c6 : x5_1 < (l1.length : Int)
      ·rw [if_pos c6] at H
       have c6b0 : decide (x5_1 < (l1.length : Int)) = true := decide_eq_true c6
       clear c6
       by_cases c7 : (rdOf ByteArray.empty l0 x5_1).toList = (rdOf ByteArray.empty l1 x5_1).toList
       ·rw [if_pos c7] at H
        have c7b0 : ((rdOf ByteArray.empty l0 x5_1).toList == (rdOf ByteArray.empty l1 x5_1).toList) = true := beq_iff_eq.mpr c7
        have c7b1 : ((rdOf ByteArray.empty l0 x5_1).toList != (rdOf ByteArray.empty l1 x5_1).toList) = false := bne_eq_false_iff_eq.mpr c7
        clear c7
        have H' := Aside0.mk H
        clear H
        have p113 : 0 ≤ (x5_1 : Int) := of_decide_eq_true (by first | (with_reducible assumption) | assumption)
        have q113 : x5_1 < (l0.length : Int) := of_decide_eq_true (by first | (with_reducible assumption) | assumption)
        obtain ⟨ad113, e113, hx113_0⟩ := Kd.at_string HR0.out x5_1 p113 q113
        cases e113
        replace p113 := eq_true p113
        replace q113 := eq_true q113
        have p114 : 0 ≤ (x5_1 : Int) := of_decide_eq_true (by first | (with_reducible assumption) | assumption)
        have q114 : x5_1 < (l1.length : Int) := of_decide_eq_true (by first | (with_reducible assumption) | assumption)
        obtain ⟨ad114, e114, hx114_0⟩ := Kd.at_string HR1.out x5_1 p114 q114
        cases e114
        replace p114 := eq_true p114
        replace q114 := eq_true q114
        go_wp2
        repeat (go_quiet (fail); try go_wp2)
        go_roundg k1
        case measure => have := HK1.out; omega
        case rel => exact ⟨(wrap64 (x5_1 + 1)), (by first | rfl | (simp; done) | (simp [*]; done)), H', ⟨by have := HK1.out; omega⟩, by repeat (first | exact Drawn0.refl _ | apply Drawn0.step)⟩
       ·rw [if_neg c7] at H
        have c7b0 : ((rdOf ByteArray.empty l0 x5_1).toList == (rdOf ByteArray.empty l1 x5_1).toList) = false := beq_eq_false_iff_ne.mpr c7
        have c7b1 : ((rdOf ByteArray.empty l0 x5_1).toList != (rdOf ByteArray.empty l1 x5_1).toList) = true := bne_iff_ne.mpr c7
        obtain rfl := Option.some.inj H
        have p113 : 0 ≤ (x5_1 : Int) := of_decide_eq_true (by first | (with_reducible assumption) | assumption)
        have q113 : x5_1 < (l0.length : Int) := of_decide_eq_true (by first | (with_reducible assumption) | assumption)
        obtain ⟨ad113, e113, hx113_0⟩ := Kd.at_string HR0.out x5_1 p113 q113
        cases e113
        replace p113 := eq_true p113
        replace q113 := eq_true q113
        have p114 : 0 ≤ (x5_1 : Int) := of_decide_eq_true (by first | (with_reducible assumption) | assumption)
        have q114 : x5_1 < (l1.length : Int) := of_decide_eq_true (by first | (with_reducible assumption) | assumption)
        obtain ⟨ad114, e114, hx114_0⟩ := Kd.at_string HR1.out x5_1 p114 q114
        cases e114
        replace p114 := eq_true p114
        replace q114 := eq_true q114
        go_wp2
        repeat (go_quiet (fail); try go_wp2)
        go_ret
        exact ⟨by first | rfl | (simp; done) | (simp [*]; done), by repeat (first | exact Drawn0.refl _ | apply Drawn0.step)⟩
      ·rw [if_neg c6] at H
       exact absurd H (by simp)
     ·rw [if_neg c5] at H
      exact absurd H (by simp)
    ·rw [if_neg c4] at H
     have c4b0 : decide (x5_1 < (l0.length : Int)) = false := decide_eq_false c4
     clear c4
     obtain rfl := Option.some.inj H
     go_wp2
     repeat (go_quiet (fail); try go_wp2)
     go_ret
     exact ⟨by first | rfl | (simp; done) | (simp [*]; done), by repeat (first | exact Drawn0.refl _ | apply Drawn0.step)⟩
 ·rw [if_neg c3] at H
  have c3b0 : ((l0.length : Int) == (l1.length : Int)) = false := beq_eq_false_iff_ne.mpr c3
  have c3b1 : ((l0.length : Int) != (l1.length : Int)) = true := bne_iff_ne.mpr c3
  have c3b2 : (l0.length == l1.length) = false := by first | simpa using c3 | (simp at c3 ⊢; omega)
  obtain rfl := Option.some.inj H
  go_enter Try.func25, Try.ntmps25
  go_wp2
  repeat (go_quiet (fail); try go_wp2)
  go_ret
  exact ⟨by first | rfl | (simp; done) | (simp [*]; done), by repeat (first | exact Drawn0.refl _ | apply Drawn0.step)⟩
def proof_textError.f (a0_0 : Int) (a0_1 : Int) (a0_2 : ByteArray) : Option (Int) := if a0_0 = 3 then (if a0_2.toList = ([] : List UInt8) then (some 0) else (some 2)) else ((proof_lineError.f a0_2).bind fun t116 => (some t116))
set_option maxHeartbeats 8000000 in
set_option maxRecDepth 100000 in
theorem proof_textError.calls (a0_0 : Int) (a0_1 : Int) (a0_2 : ByteArray) (r : Int) (w : World) (h : proof_textError.f a0_0 a0_1 a0_2 = some r) :
  Calls Try.prog 109 #[.agg #[.int .i64 a0_0, .int .i64 a0_1, .string a0_2]] w fun e w' => e = .returned (.int .i64 r) ∧ Below w.heap.size w w' := by
 have hu63 := Try.underlying63
 have HB := Aside0.mk (Below.refl w.heap.size w)
 have H : (if a0_0 = 3 then (if a0_2.toList = ([] : List UInt8) then (some 0) else (some 2)) else ((proof_lineError.f a0_2).bind fun t116 => (some t116))) = some r := h
 clear h
 by_cases c2 : a0_0 = 3
 ·rw [if_pos c2] at H
  have c2b0 : (a0_0 == 3) = true := beq_iff_eq.mpr c2
  have c2b1 : (a0_0 != 3) = false := bne_eq_false_iff_eq.mpr c2
  clear c2
  by_cases c3 : a0_2.toList = ([] : List UInt8)
  ·rw [if_pos c3] at H
   have c3b0 : (a0_2.toList == ([] : List UInt8)) = true := beq_iff_eq.mpr c3
   have c3b1 : (a0_2.toList != ([] : List UInt8)) = false := bne_eq_false_iff_eq.mpr c3
   clear c3
   obtain rfl := Option.some.inj H
   go_enter Try.func109, Try.ntmps109
   go_wp2_with (first | ((with_reducible refine gate_dst (N := 1) rfl ?_); refine box_event ?hg (N := 1) ?hd (cs := #[.int .i64 a0_0, .int .i64 a0_1, .string a0_2]) (t := 63) ?hr ?_; (case hd => rfl); (case hg => rfl); (case hr => first | (go_simp; done) | (go_simp; rfl)); intro gb115 hg w4 hbox hb; have n0_ := Aside0.mk (below_step (by repeat (first | (with_reducible first | exact HB.out | apply below_alloc | apply pw_below_drewN | apply below_drew1) | exact HB.out)) hb); have n1_ := Aside0.mk (hbox); have n2_ := Aside0.mk ((by rw [hg]; exact (below_size (by repeat (first | (with_reducible first | exact HB.out | apply below_alloc | apply pw_below_drewN | apply below_drew1) | exact HB.out))) : w.heap.size ≤ gb115)); have n3_ := Aside0.mk ((by rw [hg]; exact (below_size (by repeat (first | (with_reducible first | exact HB.out | apply below_alloc | apply pw_below_drewN | apply below_drew1) | exact HB.out))) : w.heap.size ≤ gb115)); clear HB; have HB := n0_; have BK115 := n1_; have GW115 := n2_; have GE115 := n3_; clear n0_ n1_ n2_ n3_; clear hb hbox hg; have hcz5_0 : w4.cell? ⟨gb115, 0, none⟩ = some (.int .i64 a0_0) := (blk_cell BK115.out 0).trans rfl; have hcz5_1 : w4.cell? ⟨gb115, 1, none⟩ = some (.int .i64 a0_1) := (blk_cell BK115.out 1).trans rfl; have hcz5_2 : w4.cell? ⟨gb115, 2, none⟩ = some (.string a0_2) := (blk_cell BK115.out 2).trans rfl; have hfz5_0 := blk_frozen BK115.out 0; have hfz5_1 := blk_frozen BK115.out 1; have hfz5_2 := blk_frozen BK115.out 2))
   go_ret
   exact ⟨by first | rfl | (simp [errW_none, errW_some] <;> rfl) | (simp [*, errW_none, errW_some] <;> rfl), by repeat (first | (with_reducible first | exact HB.out | apply below_alloc | apply pw_below_drewN | apply below_drew1 | refine below_set ?_ GE115.out) | exact HB.out)⟩
  ·rw [if_neg c3] at H
   have c3b0 : (a0_2.toList == ([] : List UInt8)) = false := beq_eq_false_iff_ne.mpr c3
   have c3b1 : (a0_2.toList != ([] : List UInt8)) = true := bne_iff_ne.mpr c3
   obtain rfl := Option.some.inj H
   go_enter Try.func109, Try.ntmps109
   go_wp2_with (first | ((with_reducible refine gate_dst (N := 1) rfl ?_); refine box_event ?hg (N := 1) ?hd (cs := #[.int .i64 a0_0, .int .i64 a0_1, .string a0_2]) (t := 63) ?hr ?_; (case hd => rfl); (case hg => rfl); (case hr => first | (go_simp; done) | (go_simp; rfl)); intro gb115 hg w6 hbox hb; have n0_ := Aside0.mk (below_step (by repeat (first | (with_reducible first | exact HB.out | apply below_alloc | apply pw_below_drewN | apply below_drew1) | exact HB.out)) hb); have n1_ := Aside0.mk (hbox); have n2_ := Aside0.mk ((by rw [hg]; exact (below_size (by repeat (first | (with_reducible first | exact HB.out | apply below_alloc | apply pw_below_drewN | apply below_drew1) | exact HB.out))) : w.heap.size ≤ gb115)); have n3_ := Aside0.mk ((by rw [hg]; exact (below_size (by repeat (first | (with_reducible first | exact HB.out | apply below_alloc | apply pw_below_drewN | apply below_drew1) | exact HB.out))) : w.heap.size ≤ gb115)); clear HB; have HB := n0_; have BK115 := n1_; have GW115 := n2_; have GE115 := n3_; clear n0_ n1_ n2_ n3_; clear hb hbox hg; have hcz7_0 : w6.cell? ⟨gb115, 0, none⟩ = some (.int .i64 a0_0) := (blk_cell BK115.out 0).trans rfl; have hcz7_1 : w6.cell? ⟨gb115, 1, none⟩ = some (.int .i64 a0_1) := (blk_cell BK115.out 1).trans rfl; have hcz7_2 : w6.cell? ⟨gb115, 2, none⟩ = some (.string a0_2) := (blk_cell BK115.out 2).trans rfl; have hfz7_0 := blk_frozen BK115.out 0; have hfz7_1 := blk_frozen BK115.out 1; have hfz7_2 := blk_frozen BK115.out 2))
   go_ret
   exact ⟨by first | rfl | (simp [errW_none, errW_some] <;> rfl) | (simp [*, errW_none, errW_some] <;> rfl), by repeat (first | (with_reducible first | exact HB.out | apply below_alloc | apply pw_below_drewN | apply below_drew1 | refine below_set ?_ GE115.out) | exact HB.out)⟩
 ·rw [if_neg c2] at H
  have c2b0 : (a0_0 == 3) = false := beq_eq_false_iff_ne.mpr c2
  have c2b1 : (a0_0 != 3) = true := bne_iff_ne.mpr c2
  replace H := Option.bind_eq_some_iff.mp H
  obtain ⟨t116, A80, H⟩ := H
  replace H : (some t116) = some r := H
  have A8 := Aside0.mk A80
  clear A80
  obtain rfl := Option.some.inj H
  go_enter Try.func109, Try.ntmps109
  go_wp2_with (first | ((with_reducible refine gate_dst (N := 1) rfl ?_); refine box_event ?hg (N := 1) ?hd (cs := #[.int .i64 a0_0, .int .i64 a0_1, .string a0_2]) (t := 63) ?hr ?_; (case hd => rfl); (case hg => rfl); (case hr => first | (go_simp; done) | (go_simp; rfl)); intro gb115 hg w9 hbox hb; have n0_ := Aside0.mk (below_step (by repeat (first | (with_reducible first | exact HB.out | apply below_alloc | apply pw_below_drewN | apply below_drew1) | exact HB.out)) hb); have n1_ := Aside0.mk (hbox); have n2_ := Aside0.mk ((by rw [hg]; exact (below_size (by repeat (first | (with_reducible first | exact HB.out | apply below_alloc | apply pw_below_drewN | apply below_drew1) | exact HB.out))) : w.heap.size ≤ gb115)); have n3_ := Aside0.mk ((by rw [hg]; exact (below_size (by repeat (first | (with_reducible first | exact HB.out | apply below_alloc | apply pw_below_drewN | apply below_drew1) | exact HB.out))) : w.heap.size ≤ gb115)); clear HB; have HB := n0_; have BK115 := n1_; have GW115 := n2_; have GE115 := n3_; clear n0_ n1_ n2_ n3_; clear hb hbox hg; have hcz10_0 : w9.cell? ⟨gb115, 0, none⟩ = some (.int .i64 a0_0) := (blk_cell BK115.out 0).trans rfl; have hcz10_1 : w9.cell? ⟨gb115, 1, none⟩ = some (.int .i64 a0_1) := (blk_cell BK115.out 1).trans rfl; have hcz10_2 : w9.cell? ⟨gb115, 2, none⟩ = some (.string a0_2) := (blk_cell BK115.out 2).trans rfl; have hfz10_0 := blk_frozen BK115.out 0; have hfz10_1 := blk_frozen BK115.out 1; have hfz10_2 := blk_frozen BK115.out 2) | ((with_reducible refine gate_callee (f := 82) rfl ?_); refine goesL_ (some 8) rfl rfl Try.func82 (by kernel_rfl) rfl #[.string a0_2] rfl (by (try simp only [List.map_toArray, List.map_cons, List.map_nil]); first | done | rfl | (simp only [List.length_drop, List.length_take]; rfl)) ?_; (with_reducible refine (proof_lineError.calls a0_2 t116 _ A8.out).mono ?_); rintro e w11 ⟨rfl, hb⟩; refine ⟨_, rfl, ?_⟩; have n0_ := Aside0.mk (blk_below (g := gb115) (o := .cells #[.int .i64 a0_0, .int .i64 a0_1, .string a0_2] 63 (0, 0)) (by (with_reducible repeat (first | refine blk_drewN ?_ _ | refine blk_drew ?_ | refine blk_alloc ?_ _)); exact BK115.out) hb); have n1_ := Aside0.mk (below_step (by repeat (first | (with_reducible first | exact HB.out | apply below_alloc | apply pw_below_drewN | apply below_drew1 | refine below_set ?_ GE115.out) | exact HB.out)) hb); clear BK115; clear HB; have BK115 := n0_; have HB := n1_; clear n0_ n1_; (try clear hb); (try clear hb2); (try clear hk); (try clear hi)))
  go_ret
  exact ⟨by first | rfl | (simp [errW_none, errW_some] <;> rfl) | (simp [*, errW_none, errW_some] <;> rfl), by repeat (first | (with_reducible first | exact HB.out | apply below_alloc | apply pw_below_drewN | apply below_drew1 | refine below_set ?_ GE115.out) | exact HB.out)⟩
end Go.Proofs.Ytgmbbfmbimofoaa.P

namespace Go.Proofs.Ytgmbbfmbimofoaa.P
open Go.RowKit Go.Proofs.YtgmbbfmbimofoaaW.PrintWords Go.Proofs.YtgmbbfmbimofoaaW.PrintLast Go.Proofs.YtgmbbfmbimofoaaW.PrintMore
attribute [local go_sem] max2_int min2_int max_two min_two max_three min_three max_four min_four
set_option linter.unusedVariables false
set_option linter.unusedSimpArgs false
mutual
def proof_marksError.l0 : Nat → List ByteArray → List (S63) → List (S63) → Int → Int → Option (Int)
 | 0, _, _, _, _, _ => none
 | k + 1, x0, x1, x13, x14, x15 => if x15 < x14 then (if 0 ≤ x15 then (if x15 < (x13.length : Int) then (if ((rd_T63 x13 x15).f0) < 1 then (proof_marksError.j1 k x0 x1 x15 x13 x14 x15 true ((rd_T63 x13 x15).f0) ((rd_T63 x13 x15).f1) ((rd_T63 x13 x15).f2)) else (proof_marksError.j1 k x0 x1 x15 x13 x14 x15 (decide (((rd_T63 x13 x15).f0) > 3)) ((rd_T63 x13 x15).f0) ((rd_T63 x13 x15).f1) ((rd_T63 x13 x15).f2))) else (none)) else (none)) else (some 0)
def proof_marksError.j1 : Nat → List ByteArray → List (S63) → Int → List (S63) → Int → Int → Bool → Int → Int → ByteArray → Option (Int)
 | 0, _, _, _, _, _, _, _, _, _, _ => none
 | k + 1, x0, x1, x5, x13, x14, x15, x27, x119000, x119001, x119002 => if x27 = true then (some 8) else (if x119000 = 1 then (proof_marksError.j2 k x0 x1 x5 (wrap64 ((wrap64 ((x0.length : Int) - 1)) + 1)) x13 x14 x15 x119000 x119001 x119002) else (proof_marksError.j2 k x0 x1 x5 (wrap64 ((x0.length : Int) - 1)) x13 x14 x15 x119000 x119001 x119002))
def proof_marksError.j2 : Nat → List ByteArray → List (S63) → Int → Int → List (S63) → Int → Int → Int → Int → ByteArray → Option (Int)
 | 0, _, _, _, _, _, _, _, _, _, _ => none
 | k + 1, x0, x1, x5, x7, x13, x14, x15, x119000, x119001, x119002 => if x119001 < 0 then (proof_marksError.j3 k x0 x1 x5 x13 x14 x15 true x119000 x119001 x119002) else (proof_marksError.j3 k x0 x1 x5 x13 x14 x15 (decide (x119001 > x7)) x119000 x119001 x119002)
def proof_marksError.j3 : Nat → List ByteArray → List (S63) → Int → List (S63) → Int → Int → Bool → Int → Int → ByteArray → Option (Int)
 | 0, _, _, _, _, _, _, _, _, _, _ => none
 | k + 1, x0, x1, x5, x13, x14, x15, x44, x119000, x119001, x119002 => if x44 = true then (some 3) else ((proof_textError.f x119000 x119001 x119002).bind fun t119 => (if t119 = 0 then (if x5 = 0 then (proof_marksError.l0 k x0 x1 x13 x14 (wrap64 (x15 + 1))) else (if 0 ≤ (wrap64 (x5 - 1)) then (if (wrap64 (x5 - 1)) < (x1.length : Int) then (if x119001 < ((rd_T63 x1 (wrap64 (x5 - 1))).f1) then (some 5) else (if x119001 > ((rd_T63 x1 (wrap64 (x5 - 1))).f1) then (proof_marksError.j4 k x0 x1 x13 x14 x15 true x119000 x119001 x119002) else (proof_marksError.j4 k x0 x1 x13 x14 x15 (((rd_T63 x1 (wrap64 (x5 - 1))).f0) == 1) x119000 x119001 x119002))) else (none)) else (none))) else (some t119)))
def proof_marksError.j4 : Nat → List ByteArray → List (S63) → List (S63) → Int → Int → Bool → Int → Int → ByteArray → Option (Int)
 | 0, _, _, _, _, _, _, _, _, _ => none
 | k + 1, x0, x1, x13, x14, x15, x63, x119000, x119001, x119002 => if x63 = true then (proof_marksError.l0 k x0 x1 x13 x14 (wrap64 (x15 + 1))) else (if x119000 = 1 then (some 5) else (some 4))
end
def proof_marksError.f (k : Nat) (l0 : List ByteArray) (l1 : List (S63)) : Option (Int) := if (l1.length : Int) > 12 then (some 6) else (proof_marksError.l0 k l0 l1 l1 (l1.length : Int) 0)
set_option maxHeartbeats 8000000 in
set_option maxRecDepth 100000 in
theorem proof_marksError.calls (k : Nat) (A0 : Option Addr) (c0 : Nat) (l0 : List ByteArray) (A1 : Option Addr) (c1 : Nat) (l1 : List (S63)) (r : Int) (w : World) (hr0 : Kd.C Kd.string w A0 l0.length l0) (hc0 : l0.length ≤ c0) (hr1 : Kd.C k63 w A1 l1.length l1) (hc1 : l1.length ≤ c1) (h : proof_marksError.f k l0 l1 = some r) :
  Calls Try.prog 87 #[.slice A0 l0.length c0, .slice A1 l1.length c1] w fun e w' => e = .returned (.int .i64 r) ∧ Below w.heap.size w w' := by
 have hu63 := Try.underlying63
 have HR0 := Aside0.mk hr0
 have HC0 := Aside0.mk hc0
 clear hr0 hc0
 have HR1 := Aside0.mk hr1
 have HC1 := Aside0.mk hc1
 clear hr1 hc1
 have HB := Aside0.mk (Below.refl w.heap.size w)
 have H : (if (l1.length : Int) > 12 then (some 6) else (proof_marksError.l0 k l0 l1 l1 (l1.length : Int) 0)) = some r := h
 clear h
 by_cases c3 : (l1.length : Int) > 12
 ·rw [if_pos c3] at H
  have c3b0 : decide (12 < (l1.length : Int)) = true := decide_eq_true c3
  have c3b1 : decide (12 < l1.length) = true := decide_eq_true (by omega)
  clear c3
  obtain rfl := Option.some.inj H
  go_enter Try.func87, Try.ntmps87
  go_wp2
  go_ret
  exact ⟨by first | rfl | (simp [errW_none, errW_some] <;> rfl) | (simp [*, errW_none, errW_some] <;> rfl), by repeat (first | (with_reducible first | exact HB.out | apply below_alloc | apply pw_below_drewN | apply below_drew1) | exact HB.out)⟩
 ·rw [if_neg c3] at H
  have c3b0 : decide (12 < (l1.length : Int)) = false := decide_eq_false c3
  have c3b1 : decide (12 < l1.length) = false := decide_eq_false (by omega)
  clear c3
  have H' := Aside0.mk H
  clear H
  go_enter Try.func87, Try.ntmps87
  go_wp2
  go_loopg [15] k (fun kq v15 w' => ∃ (x15_1 : Int), v15 = .int .i64 x15_1 ∧ Aside0 (proof_marksError.l0 kq l0 l1 l1 (l1.length : Int) x15_1 = some r) ∧ Aside0 (kq ≤ k) ∧ Aside0 (Below w.heap.size w w'))
  case atStart => exact ⟨(0), (by first | rfl | (simp; done) | (simp [*]; done)), H', ⟨Nat.le_refl _⟩, ⟨by repeat (first | (with_reducible first | exact HB.out | apply below_alloc | apply pw_below_drewN | apply below_drew1) | exact HB.out)⟩⟩
  case round =>
   clear H'
   try clear c1
   try clear p2
   try clear c3
   try clear c3b0
   try clear c3b1
   obtain ⟨x15_1, rfl, HA, HK1, HB⟩ := hrel
   cases gk with
   | zero => exact absurd HA.out (by simp [proof_marksError.l0])
   | succ k1 =>
    have H := HA.out
    clear HA
    simp only [proof_marksError.l0] at H
    by_cases c4 : x15_1 < (l1.length : Int)
    ·rw [if_pos c4] at H
     have c4b0 : decide (x15_1 < (l1.length : Int)) = true := decide_eq_true c4
     clear c4
     by_cases c5 : 0 ≤ x15_1
     ·rw [if_pos c5] at H
      have c5b0 : decide (0 ≤ x15_1) = true := decide_eq_true c5
      clear c5
      by_cases c6 : x15_1 < (l1.length : Int)
      ·rw [if_pos c6] at H
       have c6b0 : decide (x15_1 < (l1.length : Int)) = true := decide_eq_true c6
       clear c6
       have HC7 := Aside0.mk H
       clear H
       have p117 : 0 ≤ (x15_1 : Int) := of_decide_eq_true (by first | (with_reducible assumption) | assumption)
       have q117 : x15_1 < (l1.length : Int) := of_decide_eq_true (by first | (with_reducible assumption) | assumption)
       obtain ⟨ad117, e117, hx117_0, hx117_1, hx117_2⟩ := at_T63 HR1.out x15_1 p117 q117
       cases e117
       replace hx117_0 := (HB.out.cell (World.block_lt_of_cell? w _ hx117_0)).trans hx117_0
       replace hx117_1 := (HB.out.cell (World.block_lt_of_cell? w _ hx117_1)).trans hx117_1
       replace hx117_2 := (HB.out.cell (World.block_lt_of_cell? w _ hx117_2)).trans hx117_2
       replace p117 := eq_true p117
       replace q117 := eq_true q117
       go_upto_region 6 with (first | ((with_reducible refine gate_dst (N := 6) rfl ?_); refine box_event ?hg (N := 6) ?hd (cs := #[.int .i64 0, .int .i64 0, .string (⟨#[]⟩ : ByteArray)]) (t := 63) ?hr ?_; (case hd => rfl); (case hg => rfl); (case hr => first | (go_simp; done) | (go_simp; rfl)); intro gb118 hg w8 hbox hb; have n0_ := Aside0.mk (below_step (by repeat (first | (with_reducible first | exact HB.out | apply below_alloc | apply pw_below_drewN | apply below_drew1) | exact HB.out)) hb); have n1_ := Aside0.mk (hbox); have n2_ := Aside0.mk ((by rw [hg]; exact (below_size (by repeat (first | (with_reducible first | exact HB.out | apply below_alloc | apply pw_below_drewN | apply below_drew1) | exact HB.out))) : w.heap.size ≤ gb118)); have n3_ := Aside0.mk ((by rw [hg]; exact (below_size (by repeat (first | (with_reducible first | exact HB.out | apply below_alloc | apply pw_below_drewN | apply below_drew1) | exact HB.out))) : w.heap.size ≤ gb118)); clear HB; have HB := n0_; have BK118 := n1_; have GW118 := n2_; have GE118 := n3_; clear n0_ n1_ n2_ n3_; clear hb hbox hg; have hcz9_0 : w8.cell? ⟨gb118, 0, none⟩ = some (.int .i64 0) := (blk_cell BK118.out 0).trans rfl; have hcz9_1 : w8.cell? ⟨gb118, 1, none⟩ = some (.int .i64 0) := (blk_cell BK118.out 1).trans rfl; have hcz9_2 : w8.cell? ⟨gb118, 2, none⟩ = some (.string (⟨#[]⟩ : ByteArray)) := (blk_cell BK118.out 2).trans rfl; have hfz9_0 := blk_frozen BK118.out 0; have hfz9_1 := blk_frozen BK118.out 1; have hfz9_2 := blk_frozen BK118.out 2))
       (try simp only [Act.put, List.setIfInBounds_toArray, List.set_cons_zero, List.set_cons_succ])
       go_cut [27] (fun v27 wc => ∃ (kq : Nat) (x27_6 : Bool), v27 = .bool x27_6 ∧ Aside0 (proof_marksError.j1 kq l0 l1 x15_1 l1 (l1.length : Int) x15_1 x27_6 ((rd_T63 l1 x15_1).f0) ((rd_T63 l1 x15_1).f1) ((rd_T63 l1 x15_1).f2) = some r) ∧ Aside0 (kq ≤ k1) ∧ Aside0 (wc.heap[gb118]? = some (.cells #[.int .i64 ((rd_T63 l1 x15_1).f0), .int .i64 ((rd_T63 l1 x15_1).f1), .string ((rd_T63 l1 x15_1).f2)] 63 (0, 0))) ∧ Aside0 (Below w.heap.size w wc))
       case first =>
        have H := HC7.out
        clear HC7
        by_cases c10 : ((rd_T63 l1 x15_1).f0) < 1
        ·rw [if_pos c10] at H
         have c10b0 : decide (((rd_T63 l1 x15_1).f0) < 1) = true := decide_eq_true c10
         clear c10
         (first | rw [c10b0] | (simp only [i64_w, i32_w]; rw [c10b0]) | skip)
         have H' := Aside0.mk H
         clear H
         have hcz11_0 : w8.cell? ⟨gb118, 0, none⟩ = some (.int .i64 0) := (blk_cell BK118.out 0).trans rfl
         have hcz11_1 : w8.cell? ⟨gb118, 1, none⟩ = some (.int .i64 0) := (blk_cell BK118.out 1).trans rfl
         have hcz11_2 : w8.cell? ⟨gb118, 2, none⟩ = some (.string (⟨#[]⟩ : ByteArray)) := (blk_cell BK118.out 2).trans rfl
         have hfz11_0 := blk_frozen BK118.out 0
         have hfz11_1 := blk_frozen BK118.out 1
         have hfz11_2 := blk_frozen BK118.out 2
         go_wp2
         go_meet
         case rel => exact ⟨_, (true), (by first | rfl | (simp; done) | (simp [*]; done)), H', ⟨by have := HK1.out; first | omega | exact Nat.le_refl _⟩, ⟨by (with_reducible repeat (first | refine blk_drewN ?_ _ | refine blk_drew ?_ | refine blk_alloc ?_ _)); refine blk_put (cs := #[.int .i64 ((rd_T63 l1 x15_1).f0), .int .i64 ((rd_T63 l1 x15_1).f1), .string (⟨#[]⟩ : ByteArray)]) ?_ 2 _ rfl; (with_reducible repeat (first | refine blk_drewN ?_ _ | refine blk_drew ?_ | refine blk_alloc ?_ _)); refine blk_put (cs := #[.int .i64 ((rd_T63 l1 x15_1).f0), .int .i64 0, .string (⟨#[]⟩ : ByteArray)]) ?_ 1 _ rfl; (with_reducible repeat (first | refine blk_drewN ?_ _ | refine blk_drew ?_ | refine blk_alloc ?_ _)); refine blk_put (cs := #[.int .i64 0, .int .i64 0, .string (⟨#[]⟩ : ByteArray)]) ?_ 0 _ rfl; (with_reducible repeat (first | refine blk_drewN ?_ _ | refine blk_drew ?_ | refine blk_alloc ?_ _)); exact BK118.out⟩, ⟨by repeat (first | (with_reducible first | exact HB.out | apply below_alloc | apply pw_below_drewN | apply below_drew1 | refine below_set ?_ GE118.out) | exact HB.out)⟩⟩
        ·rw [if_neg c10] at H
         have c10b0 : decide (((rd_T63 l1 x15_1).f0) < 1) = false := decide_eq_false c10
         clear c10
         (first | rw [c10b0] | (simp only [i64_w, i32_w]; rw [c10b0]) | skip)
         have H' := Aside0.mk H
         clear H
         have hcz12_0 : w8.cell? ⟨gb118, 0, none⟩ = some (.int .i64 0) := (blk_cell BK118.out 0).trans rfl
         have hcz12_1 : w8.cell? ⟨gb118, 1, none⟩ = some (.int .i64 0) := (blk_cell BK118.out 1).trans rfl
         have hcz12_2 : w8.cell? ⟨gb118, 2, none⟩ = some (.string (⟨#[]⟩ : ByteArray)) := (blk_cell BK118.out 2).trans rfl
         have hfz12_0 := blk_frozen BK118.out 0
         have hfz12_1 := blk_frozen BK118.out 1
         have hfz12_2 := blk_frozen BK118.out 2
         go_wp2
         go_meet
         case rel => exact ⟨_, (decide (((rd_T63 l1 x15_1).f0) > 3)), (by first | rfl | (simp; done) | (simp [*]; done)), H', ⟨by have := HK1.out; first | omega | exact Nat.le_refl _⟩, ⟨by (with_reducible repeat (first | refine blk_drewN ?_ _ | refine blk_drew ?_ | refine blk_alloc ?_ _)); refine blk_put (cs := #[.int .i64 ((rd_T63 l1 x15_1).f0), .int .i64 ((rd_T63 l1 x15_1).f1), .string (⟨#[]⟩ : ByteArray)]) ?_ 2 _ rfl; (with_reducible repeat (first | refine blk_drewN ?_ _ | refine blk_drew ?_ | refine blk_alloc ?_ _)); refine blk_put (cs := #[.int .i64 ((rd_T63 l1 x15_1).f0), .int .i64 0, .string (⟨#[]⟩ : ByteArray)]) ?_ 1 _ rfl; (with_reducible repeat (first | refine blk_drewN ?_ _ | refine blk_drew ?_ | refine blk_alloc ?_ _)); refine blk_put (cs := #[.int .i64 0, .int .i64 0, .string (⟨#[]⟩ : ByteArray)]) ?_ 0 _ rfl; (with_reducible repeat (first | refine blk_drewN ?_ _ | refine blk_drew ?_ | refine blk_alloc ?_ _)); exact BK118.out⟩, ⟨by repeat (first | (with_reducible first | exact HB.out | apply below_alloc | apply pw_below_drewN | apply below_drew1 | refine below_set ?_ GE118.out) | exact HB.out)⟩⟩
       case rest =>
        clear HC7
        try clear c1
        try clear p1
        try clear q1
        try clear hx1
        try clear p2
        try clear c3
        try clear c3b0
        try clear c3b1
        try clear c4
        try clear c4b0
        try clear c5
        try clear c5b0
        try clear c6
        try clear c6b0
        try clear c8
        try clear c10
        try clear c10b0
        try clear p11
        try clear q11
        try clear hx11
        try clear hcz11_0
        try clear hcz11_1
        try clear hcz11_2
        try clear hcz12_0
        try clear hcz12_1
        try clear hcz12_2
        try clear hcz9_0
        try clear hcz9_1
        try clear hcz9_2
        try clear hfz11_0
        try clear hfz11_1
        try clear hfz11_2
        try clear hfz12_0
        try clear hfz12_1
        try clear hfz12_2
        try clear hfz9_0
        try clear hfz9_1
        try clear hfz9_2
        try clear hx117_0
        try clear hx117_1
        try clear hx117_2
        try clear p117
        try clear p2
        try clear q117
        obtain ⟨kq, x27_6, rfl, HA, HJ6, BK118, HB⟩ := hcut
        cases kq with
        | zero => exact absurd HA.out (by simp [proof_marksError.j1])
        | succ kj6 =>
         have H := HA.out
         clear HA
         simp only [proof_marksError.j1] at H
         by_cases c13 : x27_6 = true
         ·subst c13
          have H1 : (some 8) = some r := by rw [if_pos rfl] at H; exact H
          clear H
          have H := H1
          clear H1
          obtain rfl := Option.some.inj H
          go_wp2
          go_ret
          exact ⟨by first | rfl | (simp [errW_none, errW_some] <;> rfl) | (simp [*, errW_none, errW_some] <;> rfl), by repeat (first | (with_reducible first | exact HB.out | apply below_alloc | apply pw_below_drewN | apply below_drew1 | refine below_set ?_ GE118.out) | exact HB.out)⟩
         ·replace c13 := Bool.eq_false_iff.mpr c13
          subst c13
          have H1 : (if ((rd_T63 l1 x15_1).f0) = 1 then (proof_marksError.j2 kj6 l0 l1 x15_1 (wrap64 ((wrap64 ((l0.length : Int) - 1)) + 1)) l1 (l1.length : Int) x15_1 ((rd_T63 l1 x15_1).f0) ((rd_T63 l1 x15_1).f1) ((rd_T63 l1 x15_1).f2)) else (proof_marksError.j2 kj6 l0 l1 x15_1 (wrap64 ((l0.length : Int) - 1)) l1 (l1.length : Int) x15_1 ((rd_T63 l1 x15_1).f0) ((rd_T63 l1 x15_1).f1) ((rd_T63 l1 x15_1).f2))) = some r := by rw [if_neg (show ¬ (false = true) by decide)] at H; exact H
          clear H
          have H := H1
          clear H1
          have HC14 := Aside0.mk H
          clear H
          have hcz15_0 : wc.cell? ⟨gb118, 0, none⟩ = some (.int .i64 ((rd_T63 l1 x15_1).f0)) := (blk_cell BK118.out 0).trans rfl
          have hcz15_1 : wc.cell? ⟨gb118, 1, none⟩ = some (.int .i64 ((rd_T63 l1 x15_1).f1)) := (blk_cell BK118.out 1).trans rfl
          have hcz15_2 : wc.cell? ⟨gb118, 2, none⟩ = some (.string ((rd_T63 l1 x15_1).f2)) := (blk_cell BK118.out 2).trans rfl
          have hfz15_0 := blk_frozen BK118.out 0
          have hfz15_1 := blk_frozen BK118.out 1
          have hfz15_2 := blk_frozen BK118.out 2
          go_upto_if 33 with (fail)
          go_cut [7] (fun v7 wc => ∃ (kq : Nat) (x7_13 : Int), v7 = .int .i64 x7_13 ∧ Aside0 (proof_marksError.j2 kq l0 l1 x15_1 x7_13 l1 (l1.length : Int) x15_1 ((rd_T63 l1 x15_1).f0) ((rd_T63 l1 x15_1).f1) ((rd_T63 l1 x15_1).f2) = some r) ∧ Aside0 (kq ≤ kj6) ∧ Aside0 (wc.heap[gb118]? = some (.cells #[.int .i64 ((rd_T63 l1 x15_1).f0), .int .i64 ((rd_T63 l1 x15_1).f1), .string ((rd_T63 l1 x15_1).f2)] 63 (0, 0))) ∧ Aside0 (Below w.heap.size w wc))
          case first =>
           have H := HC14.out
           clear HC14
           by_cases c16 : ((rd_T63 l1 x15_1).f0) = 1
           ·rw [if_pos c16] at H
            have c16b0 : (((rd_T63 l1 x15_1).f0) == 1) = true := beq_iff_eq.mpr c16
            have c16b1 : (((rd_T63 l1 x15_1).f0) != 1) = false := bne_eq_false_iff_eq.mpr c16
            clear c16
            (first | rw [c16b0] | (simp only [i64_w, i32_w]; rw [c16b0]) | skip)
            have H' := Aside0.mk H
            clear H
            go_wp2
            go_meet
            case rel => exact ⟨_, (wrap64 ((wrap64 ((l0.length : Int) - 1)) + 1)), (by first | rfl | (simp; done) | (simp [*]; done)), H', ⟨by have := HK1.out; have := HJ6.out; first | omega | exact Nat.le_refl _⟩, ⟨by (with_reducible repeat (first | refine blk_drewN ?_ _ | refine blk_drew ?_ | refine blk_alloc ?_ _)); exact BK118.out⟩, ⟨by repeat (first | (with_reducible first | exact HB.out | apply below_alloc | apply pw_below_drewN | apply below_drew1 | refine below_set ?_ GE118.out) | exact HB.out)⟩⟩
           ·rw [if_neg c16] at H
            have c16b0 : (((rd_T63 l1 x15_1).f0) == 1) = false := beq_eq_false_iff_ne.mpr c16
            have c16b1 : (((rd_T63 l1 x15_1).f0) != 1) = true := bne_iff_ne.mpr c16
            (first | rw [c16b0] | (simp only [i64_w, i32_w]; rw [c16b0]) | skip)
            have H' := Aside0.mk H
            clear H
            go_wp2
            go_meet
            case rel => exact ⟨_, (wrap64 ((l0.length : Int) - 1)), (by first | rfl | (simp; done) | (simp [*]; done)), H', ⟨by have := HK1.out; have := HJ6.out; first | omega | exact Nat.le_refl _⟩, ⟨by (with_reducible repeat (first | refine blk_drewN ?_ _ | refine blk_drew ?_ | refine blk_alloc ?_ _)); exact BK118.out⟩, ⟨by repeat (first | (with_reducible first | exact HB.out | apply below_alloc | apply pw_below_drewN | apply below_drew1 | refine below_set ?_ GE118.out) | exact HB.out)⟩⟩
          case rest =>
           clear HC14
           try clear c1
           try clear p1
           try clear q1
           try clear hx1
           try clear p2
           try clear c3
           try clear c3b0
           try clear c3b1
           try clear c4
           try clear c4b0
           try clear c5
           try clear c5b0
           try clear c6
           try clear c6b0
           try clear p6
           try clear c8
           try clear c10
           try clear c10b0
           try clear p11
           try clear q11
           try clear hx11
           try clear c13
           try clear c16
           try clear c16b0
           try clear c16b1
           try clear hcz11_0
           try clear hcz11_1
           try clear hcz11_2
           try clear hcz12_0
           try clear hcz12_1
           try clear hcz12_2
           try clear hcz15_0
           try clear hcz15_1
           try clear hcz15_2
           try clear hcz9_0
           try clear hcz9_1
           try clear hcz9_2
           try clear hfz11_0
           try clear hfz11_1
           try clear hfz11_2
           try clear hfz12_0
           try clear hfz12_1
           try clear hfz12_2
           try clear hfz15_0
           try clear hfz15_1
           try clear hfz15_2
           try clear hfz9_0
           try clear hfz9_1
           try clear hfz9_2
           try clear hx117_0
           try clear hx117_1
           try clear hx117_2
           try clear p1
           try clear p11
           try clear p117
           try clear p2
           try clear q1
           try clear q11
           try clear q117
           obtain ⟨kq, x7_13, rfl, HA, HJ13, BK118, HB⟩ := hcut
           cases kq with
           | zero => exact absurd HA.out (by simp [proof_marksError.j2])
           | succ kj13 =>
            have H := HA.out
            clear HA
            simp only [proof_marksError.j2] at H
            have HC17 := Aside0.mk H
            clear H
            go_upto_region 11 with (fail)
            go_cut [44] (fun v44 wc => ∃ (kq : Nat) (x44_16 : Bool), v44 = .bool x44_16 ∧ Aside0 (proof_marksError.j3 kq l0 l1 x15_1 l1 (l1.length : Int) x15_1 x44_16 ((rd_T63 l1 x15_1).f0) ((rd_T63 l1 x15_1).f1) ((rd_T63 l1 x15_1).f2) = some r) ∧ Aside0 (kq ≤ kj13) ∧ Aside0 (wc.heap[gb118]? = some (.cells #[.int .i64 ((rd_T63 l1 x15_1).f0), .int .i64 ((rd_T63 l1 x15_1).f1), .string ((rd_T63 l1 x15_1).f2)] 63 (0, 0))) ∧ Aside0 (Below w.heap.size w wc))
            case first =>
             have H := HC17.out
             clear HC17
             by_cases c18 : ((rd_T63 l1 x15_1).f1) < 0
             ·rw [if_pos c18] at H
              have c18b0 : decide (((rd_T63 l1 x15_1).f1) < 0) = true := decide_eq_true c18
              clear c18
              (first | rw [c18b0] | (simp only [i64_w, i32_w]; rw [c18b0]) | skip)
              have H' := Aside0.mk H
              clear H
              have hcz19_0 : wc.cell? ⟨gb118, 0, none⟩ = some (.int .i64 ((rd_T63 l1 x15_1).f0)) := (blk_cell BK118.out 0).trans rfl
              have hcz19_1 : wc.cell? ⟨gb118, 1, none⟩ = some (.int .i64 ((rd_T63 l1 x15_1).f1)) := (blk_cell BK118.out 1).trans rfl
              have hcz19_2 : wc.cell? ⟨gb118, 2, none⟩ = some (.string ((rd_T63 l1 x15_1).f2)) := (blk_cell BK118.out 2).trans rfl
              have hfz19_0 := blk_frozen BK118.out 0
              have hfz19_1 := blk_frozen BK118.out 1
              have hfz19_2 := blk_frozen BK118.out 2
              go_wp2
              go_meet
              case rel => exact ⟨_, (true), (by first | rfl | (simp; done) | (simp [*]; done)), H', ⟨by have := HK1.out; have := HJ6.out; have := HJ13.out; first | omega | exact Nat.le_refl _⟩, ⟨by (with_reducible repeat (first | refine blk_drewN ?_ _ | refine blk_drew ?_ | refine blk_alloc ?_ _)); exact BK118.out⟩, ⟨by repeat (first | (with_reducible first | exact HB.out | apply below_alloc | apply pw_below_drewN | apply below_drew1 | refine below_set ?_ GE118.out) | exact HB.out)⟩⟩
             ·rw [if_neg c18] at H
              have c18b0 : decide (((rd_T63 l1 x15_1).f1) < 0) = false := decide_eq_false c18
              clear c18
              (first | rw [c18b0] | (simp only [i64_w, i32_w]; rw [c18b0]) | skip)
              have H' := Aside0.mk H
              clear H
              have hcz20_0 : wc.cell? ⟨gb118, 0, none⟩ = some (.int .i64 ((rd_T63 l1 x15_1).f0)) := (blk_cell BK118.out 0).trans rfl
              have hcz20_1 : wc.cell? ⟨gb118, 1, none⟩ = some (.int .i64 ((rd_T63 l1 x15_1).f1)) := (blk_cell BK118.out 1).trans rfl
              have hcz20_2 : wc.cell? ⟨gb118, 2, none⟩ = some (.string ((rd_T63 l1 x15_1).f2)) := (blk_cell BK118.out 2).trans rfl
              have hfz20_0 := blk_frozen BK118.out 0
              have hfz20_1 := blk_frozen BK118.out 1
              have hfz20_2 := blk_frozen BK118.out 2
              go_wp2
              go_meet
              case rel => exact ⟨_, (decide (((rd_T63 l1 x15_1).f1) > x7_13)), (by first | rfl | (simp; done) | (simp [*]; done)), H', ⟨by have := HK1.out; have := HJ6.out; have := HJ13.out; first | omega | exact Nat.le_refl _⟩, ⟨by (with_reducible repeat (first | refine blk_drewN ?_ _ | refine blk_drew ?_ | refine blk_alloc ?_ _)); exact BK118.out⟩, ⟨by repeat (first | (with_reducible first | exact HB.out | apply below_alloc | apply pw_below_drewN | apply below_drew1 | refine below_set ?_ GE118.out) | exact HB.out)⟩⟩
            case rest =>
             clear HC17
             try clear c1
             try clear p1
             try clear q1
             try clear hx1
             try clear p2
             try clear c3
             try clear c3b0
             try clear c3b1
             try clear c4
             try clear c4b0
             try clear c5
             try clear c5b0
             try clear c6
             try clear c6b0
             try clear p6
             try clear c8
             try clear c10
             try clear c10b0
             try clear p11
             try clear q11
             try clear hx11
             try clear c13
             try clear c16
             try clear c16b0
             try clear c16b1
             try clear c18
             try clear c18b0
             try clear hcz11_0
             try clear hcz11_1
             try clear hcz11_2
             try clear hcz12_0
             try clear hcz12_1
             try clear hcz12_2
             try clear hcz15_0
             try clear hcz15_1
             try clear hcz15_2
             try clear hcz19_0
             try clear hcz19_1
             try clear hcz19_2
             try clear hcz20_0
             try clear hcz20_1
             try clear hcz20_2
             try clear hcz9_0
             try clear hcz9_1
             try clear hcz9_2
             try clear hfz11_0
             try clear hfz11_1
             try clear hfz11_2
             try clear hfz12_0
             try clear hfz12_1
             try clear hfz12_2
             try clear hfz15_0
             try clear hfz15_1
             try clear hfz15_2
             try clear hfz19_0
             try clear hfz19_1
             try clear hfz19_2
             try clear hfz20_0
             try clear hfz20_1
             try clear hfz20_2
             try clear hfz9_0
             try clear hfz9_1
             try clear hfz9_2
             try clear hx117_0
             try clear hx117_1
             try clear hx117_2
             try clear p1
             try clear p11
             try clear p117
             try clear p2
             try clear p6
             try clear q1
             try clear q11
             try clear q117
             obtain ⟨kq, x44_16, rfl, HA, HJ16, BK118, HB⟩ := hcut
             cases kq with
             | zero => exact absurd HA.out (by simp [proof_marksError.j3])
             | succ kj16 =>
              have H := HA.out
              clear HA
              simp only [proof_marksError.j3] at H
              by_cases c21 : x44_16 = true
              ·subst c21
               have H1 : (some 3) = some r := by rw [if_pos rfl] at H; exact H
               clear H
               have H := H1
               clear H1
               obtain rfl := Option.some.inj H
               go_wp2
               go_ret
               exact ⟨by first | rfl | (simp [errW_none, errW_some] <;> rfl) | (simp [*, errW_none, errW_some] <;> rfl), by repeat (first | (with_reducible first | exact HB.out | apply below_alloc | apply pw_below_drewN | apply below_drew1 | refine below_set ?_ GE118.out) | exact HB.out)⟩
              ·replace c21 := Bool.eq_false_iff.mpr c21
               subst c21
               have H1 : ((proof_textError.f ((rd_T63 l1 x15_1).f0) ((rd_T63 l1 x15_1).f1) ((rd_T63 l1 x15_1).f2)).bind fun t119 => (if t119 = 0 then (if x15_1 = 0 then (proof_marksError.l0 kj16 l0 l1 l1 (l1.length : Int) (wrap64 (x15_1 + 1))) else (if 0 ≤ (wrap64 (x15_1 - 1)) then (if (wrap64 (x15_1 - 1)) < (l1.length : Int) then (if ((rd_T63 l1 x15_1).f1) < ((rd_T63 l1 (wrap64 (x15_1 - 1))).f1) then (some 5) else (if ((rd_T63 l1 x15_1).f1) > ((rd_T63 l1 (wrap64 (x15_1 - 1))).f1) then (proof_marksError.j4 kj16 l0 l1 l1 (l1.length : Int) x15_1 true ((rd_T63 l1 x15_1).f0) ((rd_T63 l1 x15_1).f1) ((rd_T63 l1 x15_1).f2)) else (proof_marksError.j4 kj16 l0 l1 l1 (l1.length : Int) x15_1 (((rd_T63 l1 (wrap64 (x15_1 - 1))).f0) == 1) ((rd_T63 l1 x15_1).f0) ((rd_T63 l1 x15_1).f1) ((rd_T63 l1 x15_1).f2)))) else (none)) else (none))) else (some t119))) = some r := by rw [if_neg (show ¬ (false = true) by decide)] at H; exact H
               clear H
               have H := H1
               clear H1
               replace H := Option.bind_eq_some_iff.mp H
               obtain ⟨t119, A220, H⟩ := H
               replace H : (if t119 = 0 then (if x15_1 = 0 then (proof_marksError.l0 kj16 l0 l1 l1 (l1.length : Int) (wrap64 (x15_1 + 1))) else (if 0 ≤ (wrap64 (x15_1 - 1)) then (if (wrap64 (x15_1 - 1)) < (l1.length : Int) then (if ((rd_T63 l1 x15_1).f1) < ((rd_T63 l1 (wrap64 (x15_1 - 1))).f1) then (some 5) else (if ((rd_T63 l1 x15_1).f1) > ((rd_T63 l1 (wrap64 (x15_1 - 1))).f1) then (proof_marksError.j4 kj16 l0 l1 l1 (l1.length : Int) x15_1 true ((rd_T63 l1 x15_1).f0) ((rd_T63 l1 x15_1).f1) ((rd_T63 l1 x15_1).f2)) else (proof_marksError.j4 kj16 l0 l1 l1 (l1.length : Int) x15_1 (((rd_T63 l1 (wrap64 (x15_1 - 1))).f0) == 1) ((rd_T63 l1 x15_1).f0) ((rd_T63 l1 x15_1).f1) ((rd_T63 l1 x15_1).f2)))) else (none)) else (none))) else (some t119)) = some r := H
               have A22 := Aside0.mk A220
               clear A220
               by_cases c23 : t119 = 0
               ·rw [if_pos c23] at H
                have c23b0 : (t119 == 0) = true := beq_iff_eq.mpr c23
                have c23b1 : (t119 != 0) = false := bne_eq_false_iff_eq.mpr c23
                clear c23
                by_cases c24 : x15_1 = 0
                ·rw [if_pos c24] at H
                 have c24b0 : (x15_1 == 0) = true := beq_iff_eq.mpr c24
                 have c24b1 : (x15_1 != 0) = false := bne_eq_false_iff_eq.mpr c24
                 clear c24
                 have H' := Aside0.mk H
                 clear H
                 have hcz25_0 : wc.cell? ⟨gb118, 0, none⟩ = some (.int .i64 ((rd_T63 l1 x15_1).f0)) := (blk_cell BK118.out 0).trans rfl
                 have hcz25_1 : wc.cell? ⟨gb118, 1, none⟩ = some (.int .i64 ((rd_T63 l1 x15_1).f1)) := (blk_cell BK118.out 1).trans rfl
                 have hcz25_2 : wc.cell? ⟨gb118, 2, none⟩ = some (.string ((rd_T63 l1 x15_1).f2)) := (blk_cell BK118.out 2).trans rfl
                 have hfz25_0 := blk_frozen BK118.out 0
                 have hfz25_1 := blk_frozen BK118.out 1
                 have hfz25_2 := blk_frozen BK118.out 2
                 go_wp2_with (first | ((with_reducible refine gate_callee (f := 109) rfl ?_); refine goesL_ (some 46) rfl rfl Try.func109 (by kernel_rfl) rfl #[.agg #[.int .i64 ((rd_T63 l1 x15_1).f0), .int .i64 ((rd_T63 l1 x15_1).f1), .string ((rd_T63 l1 x15_1).f2)]] rfl (by (try simp only [List.map_toArray, List.map_cons, List.map_nil]); first | done | rfl | (simp only [List.length_drop, List.length_take]; rfl)) ?_; (with_reducible refine (proof_textError.calls ((rd_T63 l1 x15_1).f0) ((rd_T63 l1 x15_1).f1) ((rd_T63 l1 x15_1).f2) t119 _ A22.out).mono ?_); rintro e w26 ⟨rfl, hb⟩; refine ⟨_, rfl, ?_⟩; have n0_ := Aside0.mk (blk_below (g := gb118) (o := .cells #[.int .i64 ((rd_T63 l1 x15_1).f0), .int .i64 ((rd_T63 l1 x15_1).f1), .string ((rd_T63 l1 x15_1).f2)] 63 (0, 0)) (by (with_reducible repeat (first | refine blk_drewN ?_ _ | refine blk_drew ?_ | refine blk_alloc ?_ _)); exact BK118.out) hb); have n1_ := Aside0.mk (below_step (by repeat (first | (with_reducible first | exact HB.out | apply below_alloc | apply pw_below_drewN | apply below_drew1 | refine below_set ?_ GE118.out) | exact HB.out)) hb); clear BK118; clear HB; have BK118 := n0_; have HB := n1_; clear n0_ n1_; (try clear hb); (try clear hb2); (try clear hk); (try clear hi)))
                 go_roundg kj16
                 case measure => have := HK1.out; have := HJ6.out; have := HJ13.out; have := HJ16.out; omega
                 case rel => exact ⟨(wrap64 (x15_1 + 1)), (by first | rfl | (simp; done) | (simp [*]; done)), H', ⟨by have := HK1.out; have := HJ6.out; have := HJ13.out; have := HJ16.out; omega⟩, ⟨by repeat (first | (with_reducible first | exact HB.out | apply below_alloc | apply pw_below_drewN | apply below_drew1 | refine below_set ?_ GE118.out) | exact HB.out)⟩⟩
                ·rw [if_neg c24] at H
                 have c24b0 : (x15_1 == 0) = false := beq_eq_false_iff_ne.mpr c24
                 have c24b1 : (x15_1 != 0) = true := bne_iff_ne.mpr c24
                 obtain ⟨ji27, hji27⟩ : ∃ j_ : Int, (wrap64 (x15_1 - 1)) = j_ := ⟨_, rfl⟩
                 replace H : (if 0 ≤ (ji27) then (if (ji27) < (l1.length : Int) then (if ((rd_T63 l1 x15_1).f1) < ((rd_T63 l1 (ji27)).f1) then (some 5) else (if ((rd_T63 l1 x15_1).f1) > ((rd_T63 l1 (ji27)).f1) then (proof_marksError.j4 kj16 l0 l1 l1 (l1.length : Int) x15_1 true ((rd_T63 l1 x15_1).f0) ((rd_T63 l1 x15_1).f1) ((rd_T63 l1 x15_1).f2)) else (proof_marksError.j4 kj16 l0 l1 l1 (l1.length : Int) x15_1 (((rd_T63 l1 (ji27)).f0) == 1) ((rd_T63 l1 x15_1).f0) ((rd_T63 l1 x15_1).f1) ((rd_T63 l1 x15_1).f2)))) else (none)) else (none)) = some r := by first | (rw [hji27] at H; exact H) | (simp only [hji27] at H ⊢; exact H)
                 (try rw [hji27] at A22)
                 have hji27w : (IntKind.i64.wrap (x15_1 - 1)) = ji27 := (i64_w _).trans hji27
                 by_cases c28 : 0 ≤ (ji27)
                 ·rw [if_pos c28] at H
                  have c28b0 : decide (0 ≤ (ji27)) = true := decide_eq_true c28
                  clear c28
                  by_cases c29 : (ji27) < (l1.length : Int)
                  ·rw [if_pos c29] at H
                   have c29b0 : decide ((ji27) < (l1.length : Int)) = true := decide_eq_true c29
                   clear c29
                   by_cases c30 : ((rd_T63 l1 x15_1).f1) < ((rd_T63 l1 (ji27)).f1)
                   ·rw [if_pos c30] at H
                    have c30b0 : decide (((rd_T63 l1 x15_1).f1) < ((rd_T63 l1 (ji27)).f1)) = true := decide_eq_true c30
                    clear c30
                    obtain rfl := Option.some.inj H
                    have hcz31_0 : wc.cell? ⟨gb118, 0, none⟩ = some (.int .i64 ((rd_T63 l1 x15_1).f0)) := (blk_cell BK118.out 0).trans rfl
                    have hcz31_1 : wc.cell? ⟨gb118, 1, none⟩ = some (.int .i64 ((rd_T63 l1 x15_1).f1)) := (blk_cell BK118.out 1).trans rfl
                    have hcz31_2 : wc.cell? ⟨gb118, 2, none⟩ = some (.string ((rd_T63 l1 x15_1).f2)) := (blk_cell BK118.out 2).trans rfl
                    have hfz31_0 := blk_frozen BK118.out 0
                    have hfz31_1 := blk_frozen BK118.out 1
                    have hfz31_2 := blk_frozen BK118.out 2
                    go_wp2_with (first | ((with_reducible refine gate_callee (f := 109) rfl ?_); refine goesL_ (some 46) rfl rfl Try.func109 (by kernel_rfl) rfl #[.agg #[.int .i64 ((rd_T63 l1 x15_1).f0), .int .i64 ((rd_T63 l1 x15_1).f1), .string ((rd_T63 l1 x15_1).f2)]] rfl (by (try simp only [List.map_toArray, List.map_cons, List.map_nil]); first | done | rfl | (simp only [List.length_drop, List.length_take]; rfl)) ?_; (with_reducible refine (proof_textError.calls ((rd_T63 l1 x15_1).f0) ((rd_T63 l1 x15_1).f1) ((rd_T63 l1 x15_1).f2) t119 _ A22.out).mono ?_); rintro e w32 ⟨rfl, hb⟩; refine ⟨_, rfl, ?_⟩; have n0_ := Aside0.mk (blk_below (g := gb118) (o := .cells #[.int .i64 ((rd_T63 l1 x15_1).f0), .int .i64 ((rd_T63 l1 x15_1).f1), .string ((rd_T63 l1 x15_1).f2)] 63 (0, 0)) (by (with_reducible repeat (first | refine blk_drewN ?_ _ | refine blk_drew ?_ | refine blk_alloc ?_ _)); exact BK118.out) hb); have n1_ := Aside0.mk (below_step (by repeat (first | (with_reducible first | exact HB.out | apply below_alloc | apply pw_below_drewN | apply below_drew1 | refine below_set ?_ GE118.out) | exact HB.out)) hb); clear BK118; clear HB; have BK118 := n0_; have HB := n1_; clear n0_ n1_; (try clear hb); (try clear hb2); (try clear hk); (try clear hi); have p120 : 0 ≤ ((ji27) : Int) := of_decide_eq_true (by first | (with_reducible assumption) | assumption); have q120 : (ji27) < (l1.length : Int) := of_decide_eq_true (by first | (with_reducible assumption) | assumption); obtain ⟨ad120, e120, hx120_0, hx120_1, hx120_2⟩ := at_T63 HR1.out (ji27) p120 q120; obtain rfl : ad117 = ad120 := (by injection e120); replace hx120_0 := (HB.out.cell (World.block_lt_of_cell? w _ hx120_0)).trans hx120_0; replace hx120_1 := (HB.out.cell (World.block_lt_of_cell? w _ hx120_1)).trans hx120_1; replace hx120_2 := (HB.out.cell (World.block_lt_of_cell? w _ hx120_2)).trans hx120_2; replace p120 := eq_true p120; replace q120 := eq_true q120) | ((with_reducible refine gate_dst (N := 9) rfl ?_); refine box_event ?hg (N := 9) ?hd (cs := #[.int .i64 0, .int .i64 0, .string (⟨#[]⟩ : ByteArray)]) (t := 63) ?hr ?_; (case hd => rfl); (case hg => rfl); (case hr => first | (go_simp; done) | (go_simp; rfl)); intro gb121 hg w33 hbox hb; have n0_ := Aside0.mk (blk_below (g := gb118) (o := .cells #[.int .i64 ((rd_T63 l1 x15_1).f0), .int .i64 ((rd_T63 l1 x15_1).f1), .string ((rd_T63 l1 x15_1).f2)] 63 (0, 0)) (by (with_reducible repeat (first | refine blk_drewN ?_ _ | refine blk_drew ?_ | refine blk_alloc ?_ _)); exact BK118.out) hb); have n1_ := Aside0.mk (below_step (by repeat (first | (with_reducible first | exact HB.out | apply below_alloc | apply pw_below_drewN | apply below_drew1 | refine below_set ?_ GE118.out) | exact HB.out)) hb); have n2_ := Aside0.mk (hbox); have n3_ := Aside0.mk ((by rw [hg]; exact (below_size (by repeat (first | (with_reducible first | exact HB.out | apply below_alloc | apply pw_below_drewN | apply below_drew1 | refine below_set ?_ GE118.out) | exact HB.out))) : w.heap.size ≤ gb121)); have n4_ := Aside0.mk ((by rw [hg]; exact (below_size (by repeat (first | (with_reducible first | exact HB.out | apply below_alloc | apply pw_below_drewN | apply below_drew1 | refine below_set ?_ GE118.out) | exact HB.out))) : w.heap.size ≤ gb121)); have n5_ := Aside0.mk ((by rw [hg]; exact Nat.ne_of_lt (blk_lt (g := gb118) (o := .cells #[.int .i64 ((rd_T63 l1 x15_1).f0), .int .i64 ((rd_T63 l1 x15_1).f1), .string ((rd_T63 l1 x15_1).f2)] 63 (0, 0)) (by (with_reducible repeat (first | refine blk_drewN ?_ _ | refine blk_drew ?_ | refine blk_alloc ?_ _)); exact BK118.out)) : gb118 ≠ gb121)); have n6_ := Aside0.mk ((by rw [hg]; exact Nat.ne_of_gt (blk_lt (g := gb118) (o := .cells #[.int .i64 ((rd_T63 l1 x15_1).f0), .int .i64 ((rd_T63 l1 x15_1).f1), .string ((rd_T63 l1 x15_1).f2)] 63 (0, 0)) (by (with_reducible repeat (first | refine blk_drewN ?_ _ | refine blk_drew ?_ | refine blk_alloc ?_ _)); exact BK118.out)) : gb121 ≠ gb118)); clear BK118; clear HB; have BK118 := n0_; have HB := n1_; have BK121 := n2_; have GW121 := n3_; have GE121 := n4_; have NB118_121 := n5_; have NB121_118 := n6_; clear n0_ n1_ n2_ n3_ n4_ n5_ n6_; clear hb hbox hg; have hnb34 := NB121_118.out; have hnc34 := NB118_121.out; have hcz35_0 : w33.cell? ⟨gb121, 0, none⟩ = some (.int .i64 0) := (blk_cell BK121.out 0).trans rfl; have hcz35_1 : w33.cell? ⟨gb121, 1, none⟩ = some (.int .i64 0) := (blk_cell BK121.out 1).trans rfl; have hcz35_2 : w33.cell? ⟨gb121, 2, none⟩ = some (.string (⟨#[]⟩ : ByteArray)) := (blk_cell BK121.out 2).trans rfl; have hfz35_0 := blk_frozen BK121.out 0; have hfz35_1 := blk_frozen BK121.out 1; have hfz35_2 := blk_frozen BK121.out 2; have hcz36_0 : w33.cell? ⟨gb118, 0, none⟩ = some (.int .i64 ((rd_T63 l1 x15_1).f0)) := (blk_cell BK118.out 0).trans rfl; have hcz36_1 : w33.cell? ⟨gb118, 1, none⟩ = some (.int .i64 ((rd_T63 l1 x15_1).f1)) := (blk_cell BK118.out 1).trans rfl; have hcz36_2 : w33.cell? ⟨gb118, 2, none⟩ = some (.string ((rd_T63 l1 x15_1).f2)) := (blk_cell BK118.out 2).trans rfl; have hfz36_0 := blk_frozen BK118.out 0; have hfz36_1 := blk_frozen BK118.out 1; have hfz36_2 := blk_frozen BK118.out 2))
                    go_ret
                    exact ⟨by first | rfl | (simp [errW_none, errW_some] <;> rfl) | (simp only [← hji27]; first | rfl | (simp [errW_none, errW_some] <;> rfl)) | (simp [*, errW_none, errW_some] <;> rfl), by repeat (first | (with_reducible first | exact HB.out | apply below_alloc | apply pw_below_drewN | apply below_drew1 | refine below_set ?_ GE118.out | refine below_set ?_ GE121.out) | exact HB.out)⟩
                   ·rw [if_neg c30] at H
                    have c30b0 : decide (((rd_T63 l1 x15_1).f1) < ((rd_T63 l1 (ji27)).f1)) = false := decide_eq_false c30
                    clear c30
                    have HC37 := Aside0.mk H
                    clear H
                    have hcz38_0 : wc.cell? ⟨gb118, 0, none⟩ = some (.int .i64 ((rd_T63 l1 x15_1).f0)) := (blk_cell BK118.out 0).trans rfl
                    have hcz38_1 : wc.cell? ⟨gb118, 1, none⟩ = some (.int .i64 ((rd_T63 l1 x15_1).f1)) := (blk_cell BK118.out 1).trans rfl
                    have hcz38_2 : wc.cell? ⟨gb118, 2, none⟩ = some (.string ((rd_T63 l1 x15_1).f2)) := (blk_cell BK118.out 2).trans rfl
                    have hfz38_0 := blk_frozen BK118.out 0
                    have hfz38_1 := blk_frozen BK118.out 1
                    have hfz38_2 := blk_frozen BK118.out 2
                    go_upto_region 21 with (first | ((with_reducible refine gate_callee (f := 109) rfl ?_); refine goesL_ (some 46) rfl rfl Try.func109 (by kernel_rfl) rfl #[.agg #[.int .i64 ((rd_T63 l1 x15_1).f0), .int .i64 ((rd_T63 l1 x15_1).f1), .string ((rd_T63 l1 x15_1).f2)]] rfl (by (try simp only [List.map_toArray, List.map_cons, List.map_nil]); first | done | rfl | (simp only [List.length_drop, List.length_take]; rfl)) ?_; (with_reducible refine (proof_textError.calls ((rd_T63 l1 x15_1).f0) ((rd_T63 l1 x15_1).f1) ((rd_T63 l1 x15_1).f2) t119 _ A22.out).mono ?_); rintro e w39 ⟨rfl, hb⟩; refine ⟨_, rfl, ?_⟩; have n0_ := Aside0.mk (blk_below (g := gb118) (o := .cells #[.int .i64 ((rd_T63 l1 x15_1).f0), .int .i64 ((rd_T63 l1 x15_1).f1), .string ((rd_T63 l1 x15_1).f2)] 63 (0, 0)) (by (with_reducible repeat (first | refine blk_drewN ?_ _ | refine blk_drew ?_ | refine blk_alloc ?_ _)); exact BK118.out) hb); have n1_ := Aside0.mk (below_step (by repeat (first | (with_reducible first | exact HB.out | apply below_alloc | apply pw_below_drewN | apply below_drew1 | refine below_set ?_ GE118.out) | exact HB.out)) hb); clear BK118; clear HB; have BK118 := n0_; have HB := n1_; clear n0_ n1_; (try clear hb); (try clear hb2); (try clear hk); (try clear hi); have p120 : 0 ≤ ((ji27) : Int) := of_decide_eq_true (by first | (with_reducible assumption) | assumption); have q120 : (ji27) < (l1.length : Int) := of_decide_eq_true (by first | (with_reducible assumption) | assumption); obtain ⟨ad120, e120, hx120_0, hx120_1, hx120_2⟩ := at_T63 HR1.out (ji27) p120 q120; obtain rfl : ad117 = ad120 := (by injection e120); replace hx120_0 := (HB.out.cell (World.block_lt_of_cell? w _ hx120_0)).trans hx120_0; replace hx120_1 := (HB.out.cell (World.block_lt_of_cell? w _ hx120_1)).trans hx120_1; replace hx120_2 := (HB.out.cell (World.block_lt_of_cell? w _ hx120_2)).trans hx120_2; replace p120 := eq_true p120; replace q120 := eq_true q120) | ((with_reducible refine gate_dst (N := 9) rfl ?_); refine box_event ?hg (N := 9) ?hd (cs := #[.int .i64 0, .int .i64 0, .string (⟨#[]⟩ : ByteArray)]) (t := 63) ?hr ?_; (case hd => rfl); (case hg => rfl); (case hr => first | (go_simp; done) | (go_simp; rfl)); intro gb121 hg w40 hbox hb; have n0_ := Aside0.mk (blk_below (g := gb118) (o := .cells #[.int .i64 ((rd_T63 l1 x15_1).f0), .int .i64 ((rd_T63 l1 x15_1).f1), .string ((rd_T63 l1 x15_1).f2)] 63 (0, 0)) (by (with_reducible repeat (first | refine blk_drewN ?_ _ | refine blk_drew ?_ | refine blk_alloc ?_ _)); exact BK118.out) hb); have n1_ := Aside0.mk (below_step (by repeat (first | (with_reducible first | exact HB.out | apply below_alloc | apply pw_below_drewN | apply below_drew1 | refine below_set ?_ GE118.out) | exact HB.out)) hb); have n2_ := Aside0.mk (hbox); have n3_ := Aside0.mk ((by rw [hg]; exact (below_size (by repeat (first | (with_reducible first | exact HB.out | apply below_alloc | apply pw_below_drewN | apply below_drew1 | refine below_set ?_ GE118.out) | exact HB.out))) : w.heap.size ≤ gb121)); have n4_ := Aside0.mk ((by rw [hg]; exact (below_size (by repeat (first | (with_reducible first | exact HB.out | apply below_alloc | apply pw_below_drewN | apply below_drew1 | refine below_set ?_ GE118.out) | exact HB.out))) : w.heap.size ≤ gb121)); have n5_ := Aside0.mk ((by rw [hg]; exact Nat.ne_of_lt (blk_lt (g := gb118) (o := .cells #[.int .i64 ((rd_T63 l1 x15_1).f0), .int .i64 ((rd_T63 l1 x15_1).f1), .string ((rd_T63 l1 x15_1).f2)] 63 (0, 0)) (by (with_reducible repeat (first | refine blk_drewN ?_ _ | refine blk_drew ?_ | refine blk_alloc ?_ _)); exact BK118.out)) : gb118 ≠ gb121)); have n6_ := Aside0.mk ((by rw [hg]; exact Nat.ne_of_gt (blk_lt (g := gb118) (o := .cells #[.int .i64 ((rd_T63 l1 x15_1).f0), .int .i64 ((rd_T63 l1 x15_1).f1), .string ((rd_T63 l1 x15_1).f2)] 63 (0, 0)) (by (with_reducible repeat (first | refine blk_drewN ?_ _ | refine blk_drew ?_ | refine blk_alloc ?_ _)); exact BK118.out)) : gb121 ≠ gb118)); clear BK118; clear HB; have BK118 := n0_; have HB := n1_; have BK121 := n2_; have GW121 := n3_; have GE121 := n4_; have NB118_121 := n5_; have NB121_118 := n6_; clear n0_ n1_ n2_ n3_ n4_ n5_ n6_; clear hb hbox hg; have hnb41 := NB121_118.out; have hnc41 := NB118_121.out; have hcz42_0 : w40.cell? ⟨gb121, 0, none⟩ = some (.int .i64 0) := (blk_cell BK121.out 0).trans rfl; have hcz42_1 : w40.cell? ⟨gb121, 1, none⟩ = some (.int .i64 0) := (blk_cell BK121.out 1).trans rfl; have hcz42_2 : w40.cell? ⟨gb121, 2, none⟩ = some (.string (⟨#[]⟩ : ByteArray)) := (blk_cell BK121.out 2).trans rfl; have hfz42_0 := blk_frozen BK121.out 0; have hfz42_1 := blk_frozen BK121.out 1; have hfz42_2 := blk_frozen BK121.out 2; have hcz43_0 : w40.cell? ⟨gb118, 0, none⟩ = some (.int .i64 ((rd_T63 l1 x15_1).f0)) := (blk_cell BK118.out 0).trans rfl; have hcz43_1 : w40.cell? ⟨gb118, 1, none⟩ = some (.int .i64 ((rd_T63 l1 x15_1).f1)) := (blk_cell BK118.out 1).trans rfl; have hcz43_2 : w40.cell? ⟨gb118, 2, none⟩ = some (.string ((rd_T63 l1 x15_1).f2)) := (blk_cell BK118.out 2).trans rfl; have hfz43_0 := blk_frozen BK118.out 0; have hfz43_1 := blk_frozen BK118.out 1; have hfz43_2 := blk_frozen BK118.out 2))
                    (try simp only [Act.put, List.setIfInBounds_toArray, List.set_cons_zero, List.set_cons_succ])
                    go_cut [63] (fun v63 wc => ∃ (kq : Nat) (x63_36 : Bool), v63 = .bool x63_36 ∧ Aside0 (proof_marksError.j4 kq l0 l1 l1 (l1.length : Int) x15_1 x63_36 ((rd_T63 l1 x15_1).f0) ((rd_T63 l1 x15_1).f1) ((rd_T63 l1 x15_1).f2) = some r) ∧ Aside0 (kq ≤ kj16) ∧ Aside0 (wc.heap[gb118]? = some (.cells #[.int .i64 ((rd_T63 l1 x15_1).f0), .int .i64 ((rd_T63 l1 x15_1).f1), .string ((rd_T63 l1 x15_1).f2)] 63 (0, 0))) ∧ Aside0 (wc.heap[gb121]? = some (.cells #[.int .i64 ((rd_T63 l1 (ji27)).f0), .int .i64 ((rd_T63 l1 (ji27)).f1), .string ((rd_T63 l1 (ji27)).f2)] 63 (0, 0))) ∧ Aside0 (Below w.heap.size w wc))
                    case first =>
                     have H := HC37.out
                     clear HC37
                     by_cases c44 : ((rd_T63 l1 x15_1).f1) > ((rd_T63 l1 (ji27)).f1)
                     ·rw [if_pos c44] at H
                      have c44b0 : decide (((rd_T63 l1 (ji27)).f1) < ((rd_T63 l1 x15_1).f1)) = true := decide_eq_true c44
                      clear c44
                      (first | rw [c44b0] | (simp only [i64_w, i32_w]; rw [c44b0]) | skip)
                      have H' := Aside0.mk H
                      clear H
                      have hnb45 := NB118_121.out
                      have hnc45 := NB121_118.out
                      have hcz46_0 : w40.cell? ⟨gb118, 0, none⟩ = some (.int .i64 ((rd_T63 l1 x15_1).f0)) := (blk_cell BK118.out 0).trans rfl
                      have hcz46_1 : w40.cell? ⟨gb118, 1, none⟩ = some (.int .i64 ((rd_T63 l1 x15_1).f1)) := (blk_cell BK118.out 1).trans rfl
                      have hcz46_2 : w40.cell? ⟨gb118, 2, none⟩ = some (.string ((rd_T63 l1 x15_1).f2)) := (blk_cell BK118.out 2).trans rfl
                      have hfz46_0 := blk_frozen BK118.out 0
                      have hfz46_1 := blk_frozen BK118.out 1
                      have hfz46_2 := blk_frozen BK118.out 2
                      have hcz47_0 : w40.cell? ⟨gb121, 0, none⟩ = some (.int .i64 0) := (blk_cell BK121.out 0).trans rfl
                      have hcz47_1 : w40.cell? ⟨gb121, 1, none⟩ = some (.int .i64 0) := (blk_cell BK121.out 1).trans rfl
                      have hcz47_2 : w40.cell? ⟨gb121, 2, none⟩ = some (.string (⟨#[]⟩ : ByteArray)) := (blk_cell BK121.out 2).trans rfl
                      have hfz47_0 := blk_frozen BK121.out 0
                      have hfz47_1 := blk_frozen BK121.out 1
                      have hfz47_2 := blk_frozen BK121.out 2
                      go_wp2
                      go_meet
                      case rel => exact ⟨_, (true), (by first | rfl | (simp; done) | (simp [*]; done)), H', ⟨by have := HK1.out; have := HJ6.out; have := HJ13.out; have := HJ16.out; first | omega | exact Nat.le_refl _⟩, ⟨by (with_reducible repeat (first | refine blk_drewN ?_ _ | refine blk_drew ?_ | refine blk_alloc ?_ _)); refine blk_far ?_ NB118_121.out _; (with_reducible repeat (first | refine blk_drewN ?_ _ | refine blk_drew ?_ | refine blk_alloc ?_ _)); refine blk_far ?_ NB118_121.out _; (with_reducible repeat (first | refine blk_drewN ?_ _ | refine blk_drew ?_ | refine blk_alloc ?_ _)); refine blk_far ?_ NB118_121.out _; (with_reducible repeat (first | refine blk_drewN ?_ _ | refine blk_drew ?_ | refine blk_alloc ?_ _)); exact BK118.out⟩, ⟨by (with_reducible repeat (first | refine blk_drewN ?_ _ | refine blk_drew ?_ | refine blk_alloc ?_ _)); refine blk_put (cs := #[.int .i64 ((rd_T63 l1 (ji27)).f0), .int .i64 ((rd_T63 l1 (ji27)).f1), .string (⟨#[]⟩ : ByteArray)]) ?_ 2 _ rfl; (with_reducible repeat (first | refine blk_drewN ?_ _ | refine blk_drew ?_ | refine blk_alloc ?_ _)); refine blk_put (cs := #[.int .i64 ((rd_T63 l1 (ji27)).f0), .int .i64 0, .string (⟨#[]⟩ : ByteArray)]) ?_ 1 _ rfl; (with_reducible repeat (first | refine blk_drewN ?_ _ | refine blk_drew ?_ | refine blk_alloc ?_ _)); refine blk_put (cs := #[.int .i64 0, .int .i64 0, .string (⟨#[]⟩ : ByteArray)]) ?_ 0 _ rfl; (with_reducible repeat (first | refine blk_drewN ?_ _ | refine blk_drew ?_ | refine blk_alloc ?_ _)); exact BK121.out⟩, ⟨by repeat (first | (with_reducible first | exact HB.out | apply below_alloc | apply pw_below_drewN | apply below_drew1 | refine below_set ?_ GE118.out | refine below_set ?_ GE121.out) | exact HB.out)⟩⟩
                     ·rw [if_neg c44] at H
                      have c44b0 : decide (((rd_T63 l1 (ji27)).f1) < ((rd_T63 l1 x15_1).f1)) = false := decide_eq_false c44
                      clear c44
                      (first | rw [c44b0] | (simp only [i64_w, i32_w]; rw [c44b0]) | skip)
                      have H' := Aside0.mk H
                      clear H
                      have hnb48 := NB118_121.out
                      have hnc48 := NB121_118.out
                      have hcz49_0 : w40.cell? ⟨gb118, 0, none⟩ = some (.int .i64 ((rd_T63 l1 x15_1).f0)) := (blk_cell BK118.out 0).trans rfl
                      have hcz49_1 : w40.cell? ⟨gb118, 1, none⟩ = some (.int .i64 ((rd_T63 l1 x15_1).f1)) := (blk_cell BK118.out 1).trans rfl
                      have hcz49_2 : w40.cell? ⟨gb118, 2, none⟩ = some (.string ((rd_T63 l1 x15_1).f2)) := (blk_cell BK118.out 2).trans rfl
                      have hfz49_0 := blk_frozen BK118.out 0
                      have hfz49_1 := blk_frozen BK118.out 1
                      have hfz49_2 := blk_frozen BK118.out 2
                      have hcz50_0 : w40.cell? ⟨gb121, 0, none⟩ = some (.int .i64 0) := (blk_cell BK121.out 0).trans rfl
                      have hcz50_1 : w40.cell? ⟨gb121, 1, none⟩ = some (.int .i64 0) := (blk_cell BK121.out 1).trans rfl
                      have hcz50_2 : w40.cell? ⟨gb121, 2, none⟩ = some (.string (⟨#[]⟩ : ByteArray)) := (blk_cell BK121.out 2).trans rfl
                      have hfz50_0 := blk_frozen BK121.out 0
                      have hfz50_1 := blk_frozen BK121.out 1
                      have hfz50_2 := blk_frozen BK121.out 2
                      go_wp2
                      go_meet
                      case rel => exact ⟨_, ((((rd_T63 l1 (ji27)).f0) == 1)), (by first | rfl | (simp; done) | (simp only [← hji27] <;> (first | rfl | simp)) | (simp [*]; done)), H', ⟨by have := HK1.out; have := HJ6.out; have := HJ13.out; have := HJ16.out; first | omega | exact Nat.le_refl _⟩, ⟨by (with_reducible repeat (first | refine blk_drewN ?_ _ | refine blk_drew ?_ | refine blk_alloc ?_ _)); refine blk_far ?_ NB118_121.out _; (with_reducible repeat (first | refine blk_drewN ?_ _ | refine blk_drew ?_ | refine blk_alloc ?_ _)); refine blk_far ?_ NB118_121.out _; (with_reducible repeat (first | refine blk_drewN ?_ _ | refine blk_drew ?_ | refine blk_alloc ?_ _)); refine blk_far ?_ NB118_121.out _; (with_reducible repeat (first | refine blk_drewN ?_ _ | refine blk_drew ?_ | refine blk_alloc ?_ _)); exact BK118.out⟩, ⟨by (with_reducible repeat (first | refine blk_drewN ?_ _ | refine blk_drew ?_ | refine blk_alloc ?_ _)); refine blk_put (cs := #[.int .i64 ((rd_T63 l1 (ji27)).f0), .int .i64 ((rd_T63 l1 (ji27)).f1), .string (⟨#[]⟩ : ByteArray)]) ?_ 2 _ rfl; (with_reducible repeat (first | refine blk_drewN ?_ _ | refine blk_drew ?_ | refine blk_alloc ?_ _)); refine blk_put (cs := #[.int .i64 ((rd_T63 l1 (ji27)).f0), .int .i64 0, .string (⟨#[]⟩ : ByteArray)]) ?_ 1 _ rfl; (with_reducible repeat (first | refine blk_drewN ?_ _ | refine blk_drew ?_ | refine blk_alloc ?_ _)); refine blk_put (cs := #[.int .i64 0, .int .i64 0, .string (⟨#[]⟩ : ByteArray)]) ?_ 0 _ rfl; (with_reducible repeat (first | refine blk_drewN ?_ _ | refine blk_drew ?_ | refine blk_alloc ?_ _)); exact BK121.out⟩, ⟨by repeat (first | (with_reducible first | exact HB.out | apply below_alloc | apply pw_below_drewN | apply below_drew1 | refine below_set ?_ GE118.out | refine below_set ?_ GE121.out) | exact HB.out)⟩⟩
                    case rest =>
                     clear HC37
                     try clear c1
                     try clear p1
                     try clear q1
                     try clear hx1
                     try clear c2
                     try clear p2
                     try clear c3
                     try clear c3b0
                     try clear c3b1
                     try clear c4
                     try clear c4b0
                     try clear c5
                     try clear c5b0
                     try clear c6
                     try clear c6b0
                     try clear p6
                     try clear c8
                     try clear c10
                     try clear c10b0
                     try clear p11
                     try clear q11
                     try clear hx11
                     try clear p12
                     try clear q12
                     try clear hx12
                     try clear c13
                     try clear c16
                     try clear c16b0
                     try clear c16b1
                     try clear c18
                     try clear c18b0
                     try clear c21
                     try clear c23
                     try clear c23b0
                     try clear c23b1
                     try clear c24
                     try clear c24b0
                     try clear c24b1
                     try clear c28
                     try clear c28b0
                     try clear c29
                     try clear c29b0
                     try clear c30
                     try clear c30b0
                     try clear c34
                     try clear c41
                     try clear c44
                     try clear c44b0
                     try clear c45
                     try clear c48
                     try clear hcz11_0
                     try clear hcz11_1
                     try clear hcz11_2
                     try clear hcz12_0
                     try clear hcz12_1
                     try clear hcz12_2
                     try clear hcz15_0
                     try clear hcz15_1
                     try clear hcz15_2
                     try clear hcz19_0
                     try clear hcz19_1
                     try clear hcz19_2
                     try clear hcz20_0
                     try clear hcz20_1
                     try clear hcz20_2
                     try clear hcz25_0
                     try clear hcz25_1
                     try clear hcz25_2
                     try clear hcz31_0
                     try clear hcz31_1
                     try clear hcz31_2
                     try clear hcz35_0
                     try clear hcz35_1
                     try clear hcz35_2
                     try clear hcz36_0
                     try clear hcz36_1
                     try clear hcz36_2
                     try clear hcz38_0
                     try clear hcz38_1
                     try clear hcz38_2
                     try clear hcz42_0
                     try clear hcz42_1
                     try clear hcz42_2
                     try clear hcz43_0
                     try clear hcz43_1
                     try clear hcz43_2
                     try clear hcz46_0
                     try clear hcz46_1
                     try clear hcz46_2
                     try clear hcz47_0
                     try clear hcz47_1
                     try clear hcz47_2
                     try clear hcz49_0
                     try clear hcz49_1
                     try clear hcz49_2
                     try clear hcz50_0
                     try clear hcz50_1
                     try clear hcz50_2
                     try clear hcz9_0
                     try clear hcz9_1
                     try clear hcz9_2
                     try clear hfz11_0
                     try clear hfz11_1
                     try clear hfz11_2
                     try clear hfz12_0
                     try clear hfz12_1
                     try clear hfz12_2
                     try clear hfz15_0
                     try clear hfz15_1
                     try clear hfz15_2
                     try clear hfz19_0
                     try clear hfz19_1
                     try clear hfz19_2
                     try clear hfz20_0
                     try clear hfz20_1
                     try clear hfz20_2
                     try clear hfz25_0
                     try clear hfz25_1
                     try clear hfz25_2
                     try clear hfz31_0
                     try clear hfz31_1
                     try clear hfz31_2
                     try clear hfz35_0
                     try clear hfz35_1
                     try clear hfz35_2
                     try clear hfz36_0
                     try clear hfz36_1
                     try clear hfz36_2
                     try clear hfz38_0
                     try clear hfz38_1
                     try clear hfz38_2
                     try clear hfz42_0
                     try clear hfz42_1
                     try clear hfz42_2
                     try clear hfz43_0
                     try clear hfz43_1
                     try clear hfz43_2
                     try clear hfz46_0
                     try clear hfz46_1
                     try clear hfz46_2
                     try clear hfz47_0
                     try clear hfz47_1
                     try clear hfz47_2
                     try clear hfz49_0
                     try clear hfz49_1
                     try clear hfz49_2
                     try clear hfz50_0
                     try clear hfz50_1
                     try clear hfz50_2
                     try clear hfz9_0
                     try clear hfz9_1
                     try clear hfz9_2
                     try clear hx117_0
                     try clear hx117_1
                     try clear hx117_2
                     try clear hx120_0
                     try clear hx120_1
                     try clear hx120_2
                     try clear p1
                     try clear p11
                     try clear p117
                     try clear p120
                     try clear p2
                     try clear p6
                     try clear q1
                     try clear q11
                     try clear q117
                     try clear q120
                     obtain ⟨kq, x63_36, rfl, HA, HJ36, BK118, BK121, HB⟩ := hcut
                     cases kq with
                     | zero => exact absurd HA.out (by simp [proof_marksError.j4])
                     | succ kj36 =>
                      have H := HA.out
                      clear HA
                      simp only [proof_marksError.j4] at H
                      by_cases c51 : x63_36 = true
                      ·subst c51
                       have H1 : (proof_marksError.l0 kj36 l0 l1 l1 (l1.length : Int) (wrap64 (x15_1 + 1))) = some r := by rw [if_pos rfl] at H; exact H
                       clear H
                       have H := H1
                       clear H1
                       have H' := Aside0.mk H
                       clear H
                       go_wp2
                       go_roundg kj36
                       case measure => have := HK1.out; have := HJ6.out; have := HJ13.out; have := HJ16.out; have := HJ36.out; omega
                       case rel => exact ⟨(wrap64 (x15_1 + 1)), (by first | rfl | (simp; done) | (simp [*]; done)), H', ⟨by have := HK1.out; have := HJ6.out; have := HJ13.out; have := HJ16.out; have := HJ36.out; omega⟩, ⟨by repeat (first | (with_reducible first | exact HB.out | apply below_alloc | apply pw_below_drewN | apply below_drew1 | refine below_set ?_ GE118.out | refine below_set ?_ GE121.out) | exact HB.out)⟩⟩
                      ·replace c51 := Bool.eq_false_iff.mpr c51
                       subst c51
                       have H1 : (if ((rd_T63 l1 x15_1).f0) = 1 then (some 5) else (some 4)) = some r := by rw [if_neg (show ¬ (false = true) by decide)] at H; exact H
                       clear H
                       have H := H1
                       clear H1
                       by_cases c52 : ((rd_T63 l1 x15_1).f0) = 1
                       ·rw [if_pos c52] at H
                        have c52b0 : (((rd_T63 l1 x15_1).f0) == 1) = true := beq_iff_eq.mpr c52
                        have c52b1 : (((rd_T63 l1 x15_1).f0) != 1) = false := bne_eq_false_iff_eq.mpr c52
                        clear c52
                        obtain rfl := Option.some.inj H
                        have hnb53 := NB118_121.out
                        have hnc53 := NB121_118.out
                        have hcz54_0 : wc.cell? ⟨gb118, 0, none⟩ = some (.int .i64 ((rd_T63 l1 x15_1).f0)) := (blk_cell BK118.out 0).trans rfl
                        have hcz54_1 : wc.cell? ⟨gb118, 1, none⟩ = some (.int .i64 ((rd_T63 l1 x15_1).f1)) := (blk_cell BK118.out 1).trans rfl
                        have hcz54_2 : wc.cell? ⟨gb118, 2, none⟩ = some (.string ((rd_T63 l1 x15_1).f2)) := (blk_cell BK118.out 2).trans rfl
                        have hfz54_0 := blk_frozen BK118.out 0
                        have hfz54_1 := blk_frozen BK118.out 1
                        have hfz54_2 := blk_frozen BK118.out 2
                        go_wp2
                        go_ret
                        exact ⟨by first | rfl | (simp [errW_none, errW_some] <;> rfl) | (simp only [← hji27]; first | rfl | (simp [errW_none, errW_some] <;> rfl)) | (simp [*, errW_none, errW_some] <;> rfl), by repeat (first | (with_reducible first | exact HB.out | apply below_alloc | apply pw_below_drewN | apply below_drew1 | refine below_set ?_ GE118.out | refine below_set ?_ GE121.out) | exact HB.out)⟩
                       ·rw [if_neg c52] at H
                        have c52b0 : (((rd_T63 l1 x15_1).f0) == 1) = false := beq_eq_false_iff_ne.mpr c52
                        have c52b1 : (((rd_T63 l1 x15_1).f0) != 1) = true := bne_iff_ne.mpr c52
                        obtain rfl := Option.some.inj H
                        have hnb55 := NB118_121.out
                        have hnc55 := NB121_118.out
                        have hcz56_0 : wc.cell? ⟨gb118, 0, none⟩ = some (.int .i64 ((rd_T63 l1 x15_1).f0)) := (blk_cell BK118.out 0).trans rfl
                        have hcz56_1 : wc.cell? ⟨gb118, 1, none⟩ = some (.int .i64 ((rd_T63 l1 x15_1).f1)) := (blk_cell BK118.out 1).trans rfl
                        have hcz56_2 : wc.cell? ⟨gb118, 2, none⟩ = some (.string ((rd_T63 l1 x15_1).f2)) := (blk_cell BK118.out 2).trans rfl
                        have hfz56_0 := blk_frozen BK118.out 0
                        have hfz56_1 := blk_frozen BK118.out 1
                        have hfz56_2 := blk_frozen BK118.out 2
                        go_wp2
                        go_ret
                        exact ⟨by first | rfl | (simp [errW_none, errW_some] <;> rfl) | (simp only [← hji27]; first | rfl | (simp [errW_none, errW_some] <;> rfl)) | (simp [*, errW_none, errW_some] <;> rfl), by repeat (first | (with_reducible first | exact HB.out | apply below_alloc | apply pw_below_drewN | apply below_drew1 | refine below_set ?_ GE118.out | refine below_set ?_ GE121.out) | exact HB.out)⟩
                  ·rw [if_neg c29] at H
                   exact absurd H (by simp)
                 ·rw [if_neg c28] at H
                  exact absurd H (by simp)
               ·rw [if_neg c23] at H
                have c23b0 : (t119 == 0) = false := beq_eq_false_iff_ne.mpr c23
                have c23b1 : (t119 != 0) = true := bne_iff_ne.mpr c23
                obtain rfl := Option.some.inj H
                have hcz57_0 : wc.cell? ⟨gb118, 0, none⟩ = some (.int .i64 ((rd_T63 l1 x15_1).f0)) := (blk_cell BK118.out 0).trans rfl
                have hcz57_1 : wc.cell? ⟨gb118, 1, none⟩ = some (.int .i64 ((rd_T63 l1 x15_1).f1)) := (blk_cell BK118.out 1).trans rfl
                have hcz57_2 : wc.cell? ⟨gb118, 2, none⟩ = some (.string ((rd_T63 l1 x15_1).f2)) := (blk_cell BK118.out 2).trans rfl
                have hfz57_0 := blk_frozen BK118.out 0
                have hfz57_1 := blk_frozen BK118.out 1
                have hfz57_2 := blk_frozen BK118.out 2
                go_wp2_with (first | ((with_reducible refine gate_callee (f := 109) rfl ?_); refine goesL_ (some 46) rfl rfl Try.func109 (by kernel_rfl) rfl #[.agg #[.int .i64 ((rd_T63 l1 x15_1).f0), .int .i64 ((rd_T63 l1 x15_1).f1), .string ((rd_T63 l1 x15_1).f2)]] rfl (by (try simp only [List.map_toArray, List.map_cons, List.map_nil]); first | done | rfl | (simp only [List.length_drop, List.length_take]; rfl)) ?_; (with_reducible refine (proof_textError.calls ((rd_T63 l1 x15_1).f0) ((rd_T63 l1 x15_1).f1) ((rd_T63 l1 x15_1).f2) t119 _ A22.out).mono ?_); rintro e w58 ⟨rfl, hb⟩; refine ⟨_, rfl, ?_⟩; have n0_ := Aside0.mk (blk_below (g := gb118) (o := .cells #[.int .i64 ((rd_T63 l1 x15_1).f0), .int .i64 ((rd_T63 l1 x15_1).f1), .string ((rd_T63 l1 x15_1).f2)] 63 (0, 0)) (by (with_reducible repeat (first | refine blk_drewN ?_ _ | refine blk_drew ?_ | refine blk_alloc ?_ _)); exact BK118.out) hb); have n1_ := Aside0.mk (below_step (by repeat (first | (with_reducible first | exact HB.out | apply below_alloc | apply pw_below_drewN | apply below_drew1 | refine below_set ?_ GE118.out) | exact HB.out)) hb); clear BK118; clear HB; have BK118 := n0_; have HB := n1_; clear n0_ n1_; (try clear hb); (try clear hb2); (try clear hk); (try clear hi)))
                go_ret
                exact ⟨by first | rfl | (simp [errW_none, errW_some] <;> rfl) | (simp [*, errW_none, errW_some] <;> rfl), by repeat (first | (with_reducible first | exact HB.out | apply below_alloc | apply pw_below_drewN | apply below_drew1 | refine below_set ?_ GE118.out) | exact HB.out)⟩
      ·rw [if_neg c6] at H
       exact absurd H (by simp)
     ·rw [if_neg c5] at H
      exact absurd H (by simp)
    ·rw [if_neg c4] at H
     have c4b0 : decide (x15_1 < (l1.length : Int)) = false := decide_eq_false c4
     clear c4
     obtain rfl := Option.some.inj H
     go_wp2
     go_ret
     exact ⟨by first | rfl | (simp [errW_none, errW_some] <;> rfl) | (simp [*, errW_none, errW_some] <;> rfl), by repeat (first | (with_reducible first | exact HB.out | apply below_alloc | apply pw_below_drewN | apply below_drew1) | exact HB.out)⟩
end Go.Proofs.Ytgmbbfmbimofoaa.P

namespace Go.Proofs.Ytgmbbfmbimofoaa.P
open Go.RowKit Go.Proofs.YtgmbbfmbimofoaaW.PrintWords Go.Proofs.YtgmbbfmbimofoaaW.PrintLast Go.Proofs.YtgmbbfmbimofoaaW.PrintMore
attribute [local go_sem] max2_int min2_int max_two min_two max_three min_three max_four min_four
set_option linter.unusedVariables false
set_option linter.unusedSimpArgs false
def proof_checked.f (k : Nat) (l0 : List ByteArray) (l1 : List (S63)) : Option (Int) := (proof_Check.f k l0).bind fun t122 => (if t122 = 0 then ((proof_marksError.f k l0 l1).bind fun t123 => (some t123)) else (some t122))
set_option maxHeartbeats 8000000 in
set_option maxRecDepth 100000 in
theorem proof_checked.calls (k : Nat) (A0 : Option Addr) (c0 : Nat) (l0 : List ByteArray) (A1 : Option Addr) (c1 : Nat) (l1 : List (S63)) (r : Int) (w : World) (hr0 : Kd.C Kd.string w A0 l0.length l0) (hc0 : l0.length ≤ c0) (hr1 : Kd.C k63 w A1 l1.length l1) (hc1 : l1.length ≤ c1) (h : proof_checked.f k l0 l1 = some r) :
  Calls Try.prog 67 #[.slice A0 l0.length c0, .slice A1 l1.length c1] w fun e w' => e = .returned (.int .i64 r) ∧ Below w.heap.size w w' := by
 have HR0 := Aside0.mk hr0
 have HC0 := Aside0.mk hc0
 clear hr0 hc0
 have HR1 := Aside0.mk hr1
 have HC1 := Aside0.mk hc1
 clear hr1 hc1
 have HB := Aside0.mk (Below.refl w.heap.size w)
 have H : ((proof_Check.f k l0).bind fun t122 => (if t122 = 0 then ((proof_marksError.f k l0 l1).bind fun t123 => (some t123)) else (some t122))) = some r := h
 clear h
 replace H := Option.bind_eq_some_iff.mp H
 obtain ⟨t122, A30, H⟩ := H
 replace H : (if t122 = 0 then ((proof_marksError.f k l0 l1).bind fun t123 => (some t123)) else (some t122)) = some r := H
 have A3 := Aside0.mk A30
 clear A30
 by_cases c4 : t122 = 0
 ·rw [if_pos c4] at H
  have c4b0 : (t122 == 0) = true := beq_iff_eq.mpr c4
  have c4b1 : (t122 != 0) = false := bne_eq_false_iff_eq.mpr c4
  clear c4
  replace H := Option.bind_eq_some_iff.mp H
  obtain ⟨t123, A50, H⟩ := H
  replace H : (some t123) = some r := H
  have A5 := Aside0.mk A50
  clear A50
  obtain rfl := Option.some.inj H
  go_enter Try.func67, Try.ntmps67
  go_wp2_with (first | ((with_reducible refine gate_callee (f := 46) rfl ?_); refine goesL_ (some 7) rfl rfl Try.func46 (by kernel_rfl) rfl #[.slice A0 l0.length c0] rfl (by (try simp only [List.map_toArray, List.map_cons, List.map_nil]); first | done | rfl | (simp only [List.length_drop, List.length_take]; rfl)) ?_; (with_reducible refine (proof_Check.calls k _ _ l0 t122 _ ?side1 ?side2 A3.out).mono ?_); (case side1 => repeat (first | exact HR0.out | (with_reducible refine Kd.C_alloc ?_ _) | (with_reducible refine Kd.C_drewN ?_ _) | (with_reducible refine Kd.C_drew ?_))); (case side2 => exact HC0.out); rintro e w6 ⟨rfl, hb⟩; refine ⟨_, rfl, ?_⟩; have n0_ := Aside0.mk (below_step (by repeat (first | (with_reducible first | exact HB.out | apply below_alloc | apply pw_below_drewN | apply below_drew1) | exact HB.out)) hb); clear HB; have HB := n0_; clear n0_; (try clear hb); (try clear hb2); (try clear hk); (try clear hi)) | ((with_reducible refine gate_callee (f := 87) rfl ?_); refine goesL_ (some 13) rfl rfl Try.func87 (by kernel_rfl) rfl #[.slice A0 l0.length c0, .slice A1 l1.length c1] rfl (by (try simp only [List.map_toArray, List.map_cons, List.map_nil]); first | done | rfl | (simp only [List.length_drop, List.length_take]; rfl)) ?_; (with_reducible refine (proof_marksError.calls k _ _ l0 _ _ l1 t123 _ ?side1 ?side2 ?side3 ?side4 A5.out).mono ?_); (case side1 => repeat (first | exact (Kd.C_below HR0.out HB.out) | (with_reducible refine Kd.C_alloc ?_ _) | (with_reducible refine Kd.C_drewN ?_ _) | (with_reducible refine Kd.C_drew ?_))); (case side2 => exact HC0.out); (case side3 => repeat (first | exact (Kd.C_below HR1.out HB.out) | (with_reducible refine Kd.C_alloc ?_ _) | (with_reducible refine Kd.C_drewN ?_ _) | (with_reducible refine Kd.C_drew ?_))); (case side4 => exact HC1.out); rintro e w7 ⟨rfl, hb⟩; refine ⟨_, rfl, ?_⟩; have n0_ := Aside0.mk (below_step (by repeat (first | (with_reducible first | exact HB.out | apply below_alloc | apply pw_below_drewN | apply below_drew1) | exact HB.out)) hb); clear HB; have HB := n0_; clear n0_; (try clear hb); (try clear hb2); (try clear hk); (try clear hi)))
  go_ret
  exact ⟨by first | rfl | (simp [errW_none, errW_some] <;> rfl) | (simp [*, errW_none, errW_some] <;> rfl), by repeat (first | (with_reducible first | exact HB.out | apply below_alloc | apply pw_below_drewN | apply below_drew1) | exact HB.out)⟩
 ·rw [if_neg c4] at H
  have c4b0 : (t122 == 0) = false := beq_eq_false_iff_ne.mpr c4
  have c4b1 : (t122 != 0) = true := bne_iff_ne.mpr c4
  obtain rfl := Option.some.inj H
  go_enter Try.func67, Try.ntmps67
  go_wp2_with (first | ((with_reducible refine gate_callee (f := 46) rfl ?_); refine goesL_ (some 7) rfl rfl Try.func46 (by kernel_rfl) rfl #[.slice A0 l0.length c0] rfl (by (try simp only [List.map_toArray, List.map_cons, List.map_nil]); first | done | rfl | (simp only [List.length_drop, List.length_take]; rfl)) ?_; (with_reducible refine (proof_Check.calls k _ _ l0 t122 _ ?side1 ?side2 A3.out).mono ?_); (case side1 => repeat (first | exact HR0.out | (with_reducible refine Kd.C_alloc ?_ _) | (with_reducible refine Kd.C_drewN ?_ _) | (with_reducible refine Kd.C_drew ?_))); (case side2 => exact HC0.out); rintro e w8 ⟨rfl, hb⟩; refine ⟨_, rfl, ?_⟩; have n0_ := Aside0.mk (below_step (by repeat (first | (with_reducible first | exact HB.out | apply below_alloc | apply pw_below_drewN | apply below_drew1) | exact HB.out)) hb); clear HB; have HB := n0_; clear n0_; (try clear hb); (try clear hb2); (try clear hk); (try clear hi)))
  go_ret
  exact ⟨by first | rfl | (simp [errW_none, errW_some] <;> rfl) | (simp [*, errW_none, errW_some] <;> rfl), by repeat (first | (with_reducible first | exact HB.out | apply below_alloc | apply pw_below_drewN | apply below_drew1) | exact HB.out)⟩
end Go.Proofs.Ytgmbbfmbimofoaa.P

namespace Go.Proofs.Ytgmbbfmbimofoaa.P
open Go.RowKit Go.Proofs.YtgmbbfmbimofoaaW.PrintWords Go.Proofs.YtgmbbfmbimofoaaW.PrintLast Go.Proofs.YtgmbbfmbimofoaaW.PrintMore
attribute [local go_sem] max2_int min2_int max_two min_two max_three min_three max_four min_four
set_option linter.unusedVariables false
set_option linter.unusedSimpArgs false
def firstErr : List ByteArray → Int
 | [] => 0
 | x :: xs => if lineErr x = 0 then firstErr xs else lineErr x
def checkS (page : List ByteArray) : Int := if 6 < page.length then 6 else firstErr page
theorem checkLoop_eq (p : List ByteArray) (hp : p.length ≤ 1000) : ∀ (m i k : Nat), p.length - i = m → i ≤ p.length → m < k → proof_Check.l0 k p (p.length : Int) (i : Int) = some (firstErr (p.drop i))
 | 0, i, k, h, hi, hk => by
  obtain ⟨k', rfl⟩ : ∃ k', k = k' + 1 := ⟨k - 1, by omega⟩
  rw [proof_Check.l0, if_neg (by omega), List.drop_eq_nil_of_le (by omega)]
  rfl
 | m + 1, i, k, h, hi, hk => by
  obtain ⟨k', rfl⟩ : ∃ k', k = k' + 1 := ⟨k - 1, by omega⟩
  have hlt : i < p.length := by omega
  have r1 : rdOf ByteArray.empty p (i : Int) = p[i] := by simp [rdOf, hlt]
  have hw : wrap64 ((i : Int) + 1) = ((i + 1 : Nat) : Int) := by unfold wrap64; omega
  rw [proof_Check.l0, if_pos (by omega), if_pos (by omega), if_pos (by omega), r1, List.drop_eq_getElem_cons hlt, firstErr]
  rw [show proof_lineError.f p[i] = some (lineErr p[i]) from rfl, Option.bind_some]
  by_cases he : lineErr p[i] = 0
  ·rw [if_pos he, if_pos he, hw]
   exact checkLoop_eq p hp m (i + 1) k' (by omega) (by omega) (by omega)
  ·rw [if_neg he, if_neg he]
theorem check_eq (p : List ByteArray) (k : Nat) (hk : 7 < k) : proof_Check.f k p = some (checkS p) := by
 unfold proof_Check.f checkS
 by_cases h : 6 < p.length
 ·rw [if_pos (by omega), if_pos h]
 ·rw [if_neg (by omega), if_neg h]
  exact checkLoop_eq p (by omega) p.length 0 k (by omega) (by omega) (by omega)
def textErr (m : S63) : Int := if m.f0 = 3 then (if m.f2.toList = [] then 0 else 2) else lineErr m.f2
def prevErr : Option S63 → S63 → Int
 | none, _ => 0
 | some p, m => if m.f1 < p.f1 then 5 else if p.f1 < m.f1 ∨ p.f0 = 1 then 0 else if m.f0 = 1 then 5 else 4
def markErr (n : Nat) (prev : Option S63) (m : S63) : Int :=
 if m.f0 < 1 ∨ 3 < m.f0 then 8
 else if m.f1 < 0 ∨ (if m.f0 = 1 then (n : Int) else (n : Int) - 1) < m.f1 then 3
 else if textErr m = 0 then prevErr prev m
 else textErr m
def marksGo (n : Nat) : Option S63 → List S63 → Int
 | _, [] => 0
 | prev, m :: ms => if markErr n prev m = 0 then marksGo n (some m) ms else markErr n prev m
def marksS (n : Nat) (ms : List S63) : Int := if 12 < ms.length then 6 else marksGo n none ms
def prevOf (ms : List S63) (i : Nat) : Option S63 := if i = 0 then none else ms[i - 1]?
theorem textError_eq (m : S63) : proof_textError.f m.f0 m.f1 m.f2 = some (textErr m) := by
 unfold proof_textError.f textErr
 split
 ·split <;> rfl
 ·rfl
theorem marksLoop_eq (pg : List ByteArray) (ms : List S63) (hn : pg.length ≤ 1000) (hm : ms.length ≤ 1000) : ∀ (m i k : Nat), ms.length - i = m → i ≤ ms.length → 5 * m < k → proof_marksError.l0 k pg ms ms (ms.length : Int) (i : Int) = some (marksGo pg.length (prevOf ms i) (ms.drop i))
 | 0, i, k, h, hi, hk => by
  obtain ⟨k', rfl⟩ : ∃ k', k = k' + 1 := ⟨k - 1, by omega⟩
  rw [proof_marksError.l0, if_neg (by omega), List.drop_eq_nil_of_le (by omega)]
  rfl
 | m + 1, i, k, h, hi, hk => by
  obtain ⟨k', rfl⟩ : ∃ k', k = k' + 1 + 1 + 1 + 1 + 1 := ⟨k - 5, by omega⟩
  have hlt : i < ms.length := by omega
  have r1 : rd_T63 ms (i : Int) = ms[i] := by simp [rd_T63, hlt]
  have hw : wrap64 ((i : Int) + 1) = ((i + 1 : Nat) : Int) := by unfold wrap64; omega
  have ih := marksLoop_eq pg ms hn hm m (i + 1) k' (by omega) (by omega) (by omega)
  have ih' := marksLoop_eq pg ms hn hm m (i + 1) (k' + 1) (by omega) (by omega) (by omega)
  have hp1 : prevOf ms (i + 1) = some ms[i] := by simp [prevOf, hlt]
  rw [hp1] at ih ih'
  have w1 : wrap64 ((pg.length : Int) - 1) = (pg.length : Int) - 1 := by unfold wrap64; omega
  have w2 : wrap64 ((pg.length : Int) - 1 + 1) = (pg.length : Int) := by unfold wrap64; omega
  rw [List.drop_eq_getElem_cons hlt, marksGo]
  obtain ⟨mk, hmk⟩ : ∃ mk, ms[i] = mk := ⟨_, rfl⟩
  rw [hmk] at ih ih' r1 ⊢
  rw [proof_marksError.l0, if_pos (by omega), if_pos (by omega), if_pos (by omega), r1]
  have E1 : (if mk.f0 < 1 then proof_marksError.j1 (k' + 1 + 1 + 1 + 1) pg ms (i : Int) ms (ms.length : Int) (i : Int) true mk.f0 mk.f1 mk.f2 else proof_marksError.j1 (k' + 1 + 1 + 1 + 1) pg ms (i : Int) ms (ms.length : Int) (i : Int) (decide (mk.f0 > 3)) mk.f0 mk.f1 mk.f2) = proof_marksError.j1 (k' + 1 + 1 + 1 + 1) pg ms (i : Int) ms (ms.length : Int) (i : Int) (decide (mk.f0 < 1 ∨ 3 < mk.f0)) mk.f0 mk.f1 mk.f2 := by
   split
   ·rename_i hc; rw [decide_eq_true (Or.inl hc : mk.f0 < 1 ∨ 3 < mk.f0)]
   ·rename_i hc
    congr 1
    simp only [gt_iff_lt, decide_eq_decide]
    constructor
    ·exact Or.inr
    ·rintro (h | h); exact absurd h hc; exact h
  rw [E1, proof_marksError.j1]
  unfold markErr
  by_cases c1 : mk.f0 < 1 ∨ 3 < mk.f0
  ·rw [if_pos (decide_eq_true c1), if_pos c1, if_neg (by decide)]
  ·rw [if_neg (by rw [decide_eq_false c1]; decide), if_neg c1]
   have E2 : (if mk.f0 = 1 then proof_marksError.j2 (k' + 1 + 1 + 1) pg ms (i : Int) (wrap64 ((wrap64 ((pg.length : Int) - 1)) + 1)) ms (ms.length : Int) (i : Int) mk.f0 mk.f1 mk.f2 else proof_marksError.j2 (k' + 1 + 1 + 1) pg ms (i : Int) (wrap64 ((pg.length : Int) - 1)) ms (ms.length : Int) (i : Int) mk.f0 mk.f1 mk.f2) = proof_marksError.j2 (k' + 1 + 1 + 1) pg ms (i : Int) (if mk.f0 = 1 then (pg.length : Int) else (pg.length : Int) - 1) ms (ms.length : Int) (i : Int) mk.f0 mk.f1 mk.f2 := by
    rw [w1, w2]; split <;> rfl
   rw [E2, proof_marksError.j2]
   obtain ⟨top, htop⟩ : ∃ t, (if mk.f0 = 1 then (pg.length : Int) else (pg.length : Int) - 1) = t := ⟨_, rfl⟩
   rw [htop]
   have E3 : (if mk.f1 < 0 then proof_marksError.j3 (k' + 1 + 1) pg ms (i : Int) ms (ms.length : Int) (i : Int) true mk.f0 mk.f1 mk.f2 else proof_marksError.j3 (k' + 1 + 1) pg ms (i : Int) ms (ms.length : Int) (i : Int) (decide (mk.f1 > top)) mk.f0 mk.f1 mk.f2) = proof_marksError.j3 (k' + 1 + 1) pg ms (i : Int) ms (ms.length : Int) (i : Int) (decide (mk.f1 < 0 ∨ top < mk.f1)) mk.f0 mk.f1 mk.f2 := by
    split
    ·rename_i hc; rw [decide_eq_true (Or.inl hc : mk.f1 < 0 ∨ top < mk.f1)]
    ·rename_i hc
     congr 1
     simp only [gt_iff_lt, decide_eq_decide]
     constructor
     ·exact Or.inr
     ·rintro (h | h); exact absurd h hc; exact h
   rw [E3, proof_marksError.j3]
   by_cases c2 : mk.f1 < 0 ∨ top < mk.f1
   ·rw [if_pos (decide_eq_true c2), if_pos c2, if_neg (by decide)]
   ·rw [if_neg (by rw [decide_eq_false c2]; decide), if_neg c2, textError_eq, Option.bind_some]
    by_cases c3 : textErr mk = 0
    ·rw [if_pos c3, if_pos c3]
     by_cases c4 : i = 0
     ·subst c4
      rw [if_pos (by rfl), hw, show prevErr (prevOf ms 0) mk = 0 from rfl, if_pos rfl]
      exact ih'
     ·have hi1 : i - 1 < ms.length := by omega
      have w3 : wrap64 ((i : Int) - 1) = ((i - 1 : Nat) : Int) := by unfold wrap64; omega
      have r2 : rd_T63 ms ((i - 1 : Nat) : Int) = ms[i - 1] := by simp [rd_T63, hi1]
      have hp : prevOf ms i = some ms[i - 1] := by simp [prevOf, c4, hi1]
      rw [if_neg (by omega), w3, if_pos (by omega), if_pos (by omega), r2, hp]
      obtain ⟨pv, hpv⟩ : ∃ pv, ms[i - 1] = pv := ⟨_, rfl⟩
      rw [hpv]
      by_cases c5 : mk.f1 < pv.f1
      ·rw [if_pos c5, show prevErr (some pv) mk = 5 from by simp [prevErr, c5], if_neg (by decide)]
      ·rw [if_neg c5]
       by_cases c6 : pv.f1 < mk.f1
       ·rw [if_pos c6, show prevErr (some pv) mk = 0 from by simp [prevErr, c5, c6], if_pos rfl, proof_marksError.j4, if_pos rfl, hw]
        exact ih
       ·rw [if_neg (by omega)]
        by_cases c7 : pv.f0 = 1
        ·rw [show prevErr (some pv) mk = 0 from by simp [prevErr, c5, c7], if_pos rfl, show (pv.f0 == 1) = true from by simpa using c7, proof_marksError.j4, if_pos rfl, hw]
         exact ih
        ·rw [show (pv.f0 == 1) = false from by simpa using c7, proof_marksError.j4, if_neg (by decide)]
         by_cases c8 : mk.f0 = 1
         ·rw [if_pos c8, show prevErr (some pv) mk = 5 from by simp [prevErr, c5, c6, c7, c8], if_neg (by decide)]
         ·rw [if_neg c8, show prevErr (some pv) mk = 4 from by simp [prevErr, c5, c6, c7, c8], if_neg (by decide)]
    ·rw [if_neg c3, if_neg c3, if_neg c3]
theorem marks_eq (pg : List ByteArray) (ms : List S63) (hn : pg.length ≤ 1000) (k : Nat) (hk : 61 < k) : proof_marksError.f k pg ms = some (marksS pg.length ms) := by
 unfold proof_marksError.f marksS
 by_cases h : 12 < ms.length
 ·rw [if_pos (by omega), if_pos h]
 ·rw [if_neg (by omega), if_neg h]
  exact marksLoop_eq pg ms hn (by omega) ms.length 0 k (by omega) (by omega) (by omega)
def checkedS (pg : List ByteArray) (ms : List S63) : Int := if checkS pg = 0 then marksS pg.length ms else checkS pg
theorem checked_eq (pg : List ByteArray) (ms : List S63) (k : Nat) (hk : 61 < k) : proof_checked.f k pg ms = some (checkedS pg ms) := by
 unfold proof_checked.f checkedS
 rw [check_eq pg k (by omega), Option.bind_some]
 by_cases h : checkS pg = 0
 ·rw [if_pos h, if_pos h]
  have hl : pg.length ≤ 6 := by
   unfold checkS at h
   by_cases h6 : 6 < pg.length
   ·rw [if_pos h6] at h; cases h
   ·omega
  rw [marks_eq pg ms (by omega) k hk]
  rfl
 ·rw [if_neg h, if_neg h]
end Go.Proofs.Ytgmbbfmbimofoaa.P
