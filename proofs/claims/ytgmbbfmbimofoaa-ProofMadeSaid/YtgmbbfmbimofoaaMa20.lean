-- MERGED BY A PROGRAM out of texts of this claim: hand work, and what a (turned) print of the kit has written for it
import Derived.StillTailTactics
import Derived.Test.YtgmbbfmbimofoaaMa19
import Derived.Test.YtgmbbfmbimofoaaMa5
namespace Go.Proofs.Ytgmbbfmbimofoaa.P
open Go.RowKit Go.Proofs.YtgmbbfmbimofoaaW.PrintWords Go.Proofs.YtgmbbfmbimofoaaW.PrintLast Go.Proofs.YtgmbbfmbimofoaaW.PrintMore
attribute [local go_sem] max2_int min2_int max_two min_two max_three min_three max_four min_four
set_option linter.unusedVariables false
set_option linter.unusedSimpArgs false
def markFits (n : Nat) (m : S63) : Bool := 1 ≤ m.f0 && m.f0 ≤ 3 && 0 ≤ m.f1 && (m.f1 < (n : Int) || (m.f0 == 1 && m.f1 == (n : Int)))
def stepP (page : List ByteArray) (st : List ByteArray × Nat) (m : S63) : List ByteArray × Nat :=
 let nx := max st.2 m.f1.toNat
 let ls := st.1 ++ (page.take nx).drop st.2
 if m.f0 = 1 then (ls ++ [m.f2], nx) else if m.f0 = 2 then (ls ++ [m.f2], m.f1.toNat + 1) else (ls, m.f1.toNat + 1)
def madeP (page : List ByteArray) (ms : List S63) : List ByteArray :=
 (ms.foldl (stepP page) ([], 0)).1 ++ page.drop (ms.foldl (stepP page) ([], 0)).2
def proof_made.f (l0 : List ByteArray) (l1 : List S63) : Option (List ByteArray) :=
 if l0.length ≤ 20 ∧ l1.length ≤ 20 ∧ l1.all (markFits l0.length) = true then some (madeP l0 l1) else none
theorem stepP_le (page : List ByteArray) (st : List ByteArray × Nat) (m : S63) (hm : markFits page.length m = true) (h : st.2 ≤ page.length) : (stepP page st m).2 ≤ page.length := by
 simp only [markFits, Bool.and_eq_true, Bool.or_eq_true, decide_eq_true_eq, beq_iff_eq] at hm
 unfold stepP
 dsimp only
 split
 ·simp only []; omega
 ·split <;> simp only [] <;> omega
theorem stepP_len (page : List ByteArray) (st : List ByteArray × Nat) (m : S63) : (stepP page st m).1.length ≤ st.1.length + page.length + 1 := by
 unfold stepP
 dsimp only
 have : ((page.take (max st.2 m.f1.toNat)).drop st.2).length ≤ page.length := by simp only [List.length_drop, List.length_take]; omega
 split
 ·simp only [List.length_append, List.length_singleton]; omega
 ·split <;> simp only [List.length_append, List.length_singleton] <;> omega
theorem foldP (page : List ByteArray) : ∀ (ms : List S63) (st : List ByteArray × Nat), ms.all (markFits page.length) = true → st.2 ≤ page.length →
  (ms.foldl (stepP page) st).2 ≤ page.length ∧ (ms.foldl (stepP page) st).1.length ≤ st.1.length + ms.length * (page.length + 1)
 | [], st, _, h => ⟨h, by simp⟩
 | m :: ms, st, hm, h => by
  simp only [List.all_cons, Bool.and_eq_true] at hm
  have h1 := stepP_le page st m hm.1 h
  have h2 := stepP_len page st m
  obtain ⟨a, b⟩ := foldP page ms (stepP page st m) hm.2 h1
  refine ⟨a, Nat.le_trans b ?_⟩
  simp only [List.length_cons, Nat.add_mul, Nat.one_mul]
  omega
set_option maxHeartbeats 1000000 in
set_option maxRecDepth 100000 in
theorem proof_made.calls (A0 : Option Addr) (c0 : Nat) (l0 : List ByteArray) (A1 : Option Addr) (c1 : Nat) (l1 : List S63) (r : List ByteArray) (w : World)
  (hr0 : Kd.C Kd.string w A0 l0.length l0) (hc0 : l0.length ≤ c0) (hr1 : Kd.C k63 w A1 l1.length l1) (hc1 : l1.length ≤ c1) (h : proof_made.f l0 l1 = some r) :
  Calls Try.prog 79 #[.slice A0 l0.length c0, .slice A1 l1.length c1] w fun e w' => ∃ v0_ : Value, e = .returned (v0_) ∧ Kd.R Kd.string 9 w' w.heap.size (fun _ => True) v0_ r ∧ Below w.heap.size w w' := by
 unfold proof_made.f at h
 split at h
 case isFalse => cases h
 rename_i hb
 obtain ⟨hn0, hn1, hall⟩ := hb
 obtain rfl := Option.some.inj h
 clear h
 go_enter Try.func79, Try.ntmps79
 go_wp2_with (go_at_call 105; refine (deeds_calls _).mono ?_; rintro e w' ⟨rfl, rfl⟩)
 have hP0 : Press w ((w.alloc (.cells #[.slice none 0 0, .int .i64 0] 146)).alloc doMap) w.heap.size (w.heap.size + 1) (.slice none 0 0) [] 0 :=
  ⟨blk_alloc (heap_alloc_new w _) _, own_nil _ _ _ _, heap_new2 w _ _, ((Below.refl _ _).alloc (Nat.le_refl _) _).alloc (by simp) _, Nat.le_refl _, by omega⟩
 obtain ⟨W0, hW0⟩ : ∃ W0, (w.alloc (.cells #[.slice none 0 0, .int .i64 0] 146)).alloc doMap = W0 := ⟨_, rfl⟩
 rw [hW0] at hP0 ⊢
 clear hW0
 have HP0 := Aside0.mk hP0
 clear hP0
 have HR0 := Aside0.mk hr0
 have HR1 := Aside0.mk hr1
 have HALL := Aside0.mk hall
 clear hr0 hr1 hall
 go_loopw [14] (fun i wr => ∃ k : Nat, k ≤ l1.length ∧ i = .int .i64 k ∧ Aside0 (∃ v, Press w wr w.heap.size (w.heap.size + 1) v ((l1.take k).foldl (stepP l0) ([], 0)).1 (((l1.take k).foldl (stepP l0) ([], 0)).2 : Nat))) (fun i _ => l1.length - (intOf i).toNat)
 case atStart => exact ⟨0, Nat.zero_le _, rfl, ⟨_, HP0.out⟩⟩
 case round =>
  obtain ⟨k, hk, rfl, ⟨v, hP⟩⟩ := hrel
  clear HP0
  obtain ⟨st, hst⟩ : ∃ st, (l1.take k).foldl (stepP l0) ([], 0) = st := ⟨_, rfl⟩
  have hfold := foldP l0 (l1.take k) ([], 0) (by rw [List.all_eq_true]; exact fun x hx => List.all_eq_true.1 HALL.out x (List.mem_of_mem_take hx)) (Nat.zero_le _)
  rw [hst] at hP hfold
  have hlen : st.1.length ≤ 500 := by
   have h2 := hfold.2
   have h3 : (l1.take k).length * (l0.length + 1) ≤ 20 * 21 := Nat.mul_le_mul (by rw [List.length_take]; omega) (by omega)
   simp only [List.length_nil] at h2
   omega
  have hnx : st.2 ≤ l0.length := hfold.1
  clear hfold
  by_cases hlt : k < l1.length
  ·have c2b0 : decide ((k : Int) < (l1.length : Int)) = true := decide_eq_true (by omega)
   have hW := Aside0.mk (Kd.C_below HR1.out hP.below)
   have p2 : (0 : Int) ≤ (k : Int) := by omega
   have q2 : (k : Int) < (l1.length : Int) := by omega
   obtain ⟨ad, e2, hx0, hx1, hx2⟩ := at_T63 hW.out (k : Int) p2 q2
   have em : rd_T63 l1 (k : Int) = l1[k] := by simp [rd_T63, List.getD_eq_getElem?_getD, hlt]
   have hfit : markFits l0.length l1[k] = true := List.all_eq_true.1 HALL.out _ (List.getElem_mem hlt)
   have hnext : (l1.take (k + 1)).foldl (stepP l0) ([], 0) = stepP l0 st l1[k] := by
    rw [List.take_succ_eq_append_getElem hlt, List.foldl_append, hst]; rfl
   rw [em, Int.toNat_natCast] at hx0 hx1 hx2
   obtain ⟨⟨kd, ln, s⟩, hm⟩ : ∃ m : S63, l1[k] = m := ⟨_, rfl⟩
   rw [hm] at hx0 hx1 hx2 hfit hnext
   dsimp only at hx0 hx1 hx2
   clear hm em
   cases e2
   have hc0 := hP.c0
   have hc1 := hP.c1
   have hf0 := hP.f0
   have hf1 := hP.f1
   have HP := Aside0.mk hP
   have HN := Aside0.mk hnext
   have HST := Aside0.mk hst
   have HF := Aside0.mk hfit
   clear hP hnext hst hfit
   go_wp2_with fail
   have hPb := HP.out.alloc (.cells #[.int .i64 kd, .int .i64 ln, .string s] 63)
   have hbx : (wr.alloc (.cells #[.int .i64 kd, .int .i64 ln, .string s] 63)).heap[wr.heap.size]? = some (.cells #[.int .i64 kd, .int .i64 ln, .string s] 63 (0, 0)) := heap_alloc_new wr _
   obtain ⟨Wb, hWb⟩ : ∃ Wb, wr.alloc (.cells #[.int .i64 kd, .int .i64 ln, .string s] 63) = Wb := ⟨_, rfl⟩
   obtain ⟨bx, hbxe⟩ : ∃ b, wr.heap.size = b := ⟨_, rfl⟩
   rw [hWb] at hPb hbx ⊢
   rw [hbxe] at hbx ⊢
   clear hWb hbxe hx0 hx1 hx2 hc0 hc1 hf0 hf1
   have hc0 := hPb.c0
   have hc1 := hPb.c1
   have hf0 := hPb.f0
   have hf1 := hPb.f1
   have hx1 : Wb.cell? ⟨bx, 1, none⟩ = some (.int .i64 ln) := (blk_cell hbx 1).trans rfl
   have HPb := Aside0.mk hPb
   have Hbx := Aside0.mk hbx
   clear hPb hbx
   obtain ⟨i0, hi0, hz0, hz1, hz2⟩ := info_parts info9
   have hln : 0 ≤ ln ∧ ln ≤ (l0.length : Int) ∧ 1 ≤ kd ∧ kd ≤ 3 := by
    have := HF.out
    simp only [markFits, Bool.and_eq_true, Bool.or_eq_true, decide_eq_true_eq, beq_iff_eq] at this
    omega
   obtain ⟨mxv, hmx⟩ : ∃ z : Nat, max st.2 ln.toNat = z := ⟨_, rfl⟩
   have hmx' : (if (st.2 : Int) < ln then ln else (st.2 : Int)) = (mxv : Int) := by split <;> omega
   obtain ⟨As, hsl, hread, hcap⟩ := print_mid_of (P := Try.prog) Value.string ByteArray.empty 22 9 .i64 .i64 Try.underlying22 hi0 hz1 A0 c0 l0 (st.2 : Int) (mxv : Int) (by omega) (by omega) (by omega) (by assumption)
   refine wp_region_G (fun W' => W'.cell? ⟨w.heap.size, 0, none⟩ = some v ∧ W'.cell? ⟨w.heap.size, 1, none⟩ = some (.int .i64 st.2) ∧ W'.cell? ⟨bx, 1, none⟩ = some (.int .i64 ln)) [21] (by kernel_rfl) ?_
   have HS : Wb.drew.cell? ⟨w.heap.size, 0, none⟩ = some v ∧ Wb.drew.cell? ⟨w.heap.size, 1, none⟩ = some (.int .i64 st.2) ∧ Wb.drew.cell? ⟨bx, 1, none⟩ = some (.int .i64 ln) := ⟨hc0, hc1, hx1⟩
   refine wpAnyG_take (i := 0) (oi := { dst := some 18, op := Go.Op.move (Go.Operand.tmp 5), type := 144, pos := "proof.go:120", after := #[], guard := none }) (v := ?_) rfl (by kernel_rfl) (by kernel_rfl) (by kernel_rfl) (by kernel_rfl) (by kernel_rfl) (fun _ _ _ h => h) (.inl ⟨by rfl, ?_⟩) (by assumption) ?_
   rotate_left
   ·intro w_ hS_; (try dsimp only at hS_); go_simp; all_goals (with_reducible rfl)
   (try simp only [Act.put, List.setIfInBounds_toArray, List.set_cons_zero, List.set_cons_succ])
   refine wpAnyG_take (i := 1) (oi := { dst := some 19, op := Go.Op.move (Go.Operand.tmp 5), type := 144, pos := "proof.go:120", after := #[], guard := none }) (v := ?_) rfl (by kernel_rfl) (by kernel_rfl) (by kernel_rfl) (by kernel_rfl) (by kernel_rfl) (fun _ _ _ h => h) (.inl ⟨by rfl, ?_⟩) (by assumption) ?_
   rotate_left
   ·intro w_ hS_; (try dsimp only at hS_); go_simp; all_goals (with_reducible rfl)
   (try simp only [Act.put, List.setIfInBounds_toArray, List.set_cons_zero, List.set_cons_succ])
   refine wpAnyG_take (i := 2) (oi := { dst := some 20, op := Go.Op.nilCheck (Go.Operand.tmp 19), type := 0, pos := "proof.go:120", after := #[{ on := 1, ground := Go.Ground.data }], guard := none }) (v := ?_) rfl (by kernel_rfl) (by kernel_rfl) (by kernel_rfl) (by kernel_rfl) (by kernel_rfl) (fun _ _ _ h => h) (.inl ⟨by rfl, ?_⟩) (by assumption) ?_
   rotate_left
   ·intro w_ hS_; (try dsimp only at hS_); go_simp; all_goals (with_reducible rfl)
   (try simp only [Act.put, List.setIfInBounds_toArray, List.set_cons_zero, List.set_cons_succ])
   refine wpAnyG_take (i := 3) (oi := { dst := some 21, op := Go.Op.fieldAddr 146 (Go.Operand.tmp 20) 0, type := 0, pos := "proof.go:120", after := #[{ on := 2, ground := Go.Ground.data }], guard := none }) (v := ?_) rfl (by kernel_rfl) (by kernel_rfl) (by kernel_rfl) (by kernel_rfl) (by kernel_rfl) (fun _ _ _ h => h) (.inl ⟨by rfl, ?_⟩) (by assumption) ?_
   rotate_left
   ·intro w_ hS_; (try dsimp only at hS_); go_simp; all_goals (with_reducible rfl)
   (try simp only [Act.put, List.setIfInBounds_toArray, List.set_cons_zero, List.set_cons_succ])
   refine wpAnyG_take (i := 4) (oi := { dst := some 22, op := Go.Op.load 22 (Go.Operand.tmp 21), type := 22, pos := "proof.go:120", after := #[{ on := 3, ground := Go.Ground.data }], guard := none }) (v := ?_) rfl (by kernel_rfl) (by kernel_rfl) (by kernel_rfl) (by kernel_rfl) (by kernel_rfl) (fun _ _ _ h => h) (.inl ⟨by rfl, ?_⟩) (by assumption) ?_
   rotate_left
   ·intro w_ hS_; (try dsimp only at hS_); go_simp; all_goals (with_reducible rfl)
   (try simp only [Act.put, List.setIfInBounds_toArray, List.set_cons_zero, List.set_cons_succ])
   refine wpAnyG_take (i := 5) (oi := { dst := some 23, op := Go.Op.move (Go.Operand.tmp 0), type := 22, pos := "proof.go:120", after := #[], guard := none }) (v := ?_) rfl (by kernel_rfl) (by kernel_rfl) (by kernel_rfl) (by kernel_rfl) (by kernel_rfl) (fun _ _ _ h => h) (.inl ⟨by rfl, ?_⟩) (by assumption) ?_
   rotate_left
   ·intro w_ hS_; (try dsimp only at hS_); go_simp; all_goals (with_reducible rfl)
   (try simp only [Act.put, List.setIfInBounds_toArray, List.set_cons_zero, List.set_cons_succ])
   refine wpAnyG_take (i := 6) (oi := { dst := some 24, op := Go.Op.move (Go.Operand.tmp 5), type := 144, pos := "proof.go:120", after := #[], guard := none }) (v := ?_) rfl (by kernel_rfl) (by kernel_rfl) (by kernel_rfl) (by kernel_rfl) (by kernel_rfl) (fun _ _ _ h => h) (.inl ⟨by rfl, ?_⟩) (by assumption) ?_
   rotate_left
   ·intro w_ hS_; (try dsimp only at hS_); go_simp; all_goals (with_reducible rfl)
   (try simp only [Act.put, List.setIfInBounds_toArray, List.set_cons_zero, List.set_cons_succ])
   refine wpAnyG_take (i := 7) (oi := { dst := some 25, op := Go.Op.nilCheck (Go.Operand.tmp 24), type := 0, pos := "proof.go:120", after := #[{ on := 6, ground := Go.Ground.data }], guard := none }) (v := ?_) rfl (by kernel_rfl) (by kernel_rfl) (by kernel_rfl) (by kernel_rfl) (by kernel_rfl) (fun _ _ _ h => h) (.inl ⟨by rfl, ?_⟩) (by assumption) ?_
   rotate_left
   ·intro w_ hS_; (try dsimp only at hS_); go_simp; all_goals (with_reducible rfl)
   (try simp only [Act.put, List.setIfInBounds_toArray, List.set_cons_zero, List.set_cons_succ])
   refine wpAnyG_take (i := 8) (oi := { dst := some 26, op := Go.Op.fieldAddr 146 (Go.Operand.tmp 25) 1, type := 0, pos := "proof.go:120", after := #[{ on := 7, ground := Go.Ground.data }], guard := none }) (v := ?_) rfl (by kernel_rfl) (by kernel_rfl) (by kernel_rfl) (by kernel_rfl) (by kernel_rfl) (fun _ _ _ h => h) (.inl ⟨by rfl, ?_⟩) (by assumption) ?_
   rotate_left
   ·intro w_ hS_; (try dsimp only at hS_); go_simp; all_goals (with_reducible rfl)
   (try simp only [Act.put, List.setIfInBounds_toArray, List.set_cons_zero, List.set_cons_succ])
   refine wpAnyG_take (i := 9) (oi := { dst := some 27, op := Go.Op.load 3 (Go.Operand.tmp 26), type := 3, pos := "proof.go:120", after := #[{ on := 8, ground := Go.Ground.data }], guard := none }) (v := ?_) rfl (by kernel_rfl) (by kernel_rfl) (by kernel_rfl) (by kernel_rfl) (by kernel_rfl) (fun _ _ _ h => h) (.inl ⟨by rfl, ?_⟩) (by assumption) ?_
   rotate_left
   ·intro w_ hS_; (try dsimp only at hS_); go_simp; all_goals (with_reducible rfl)
   (try simp only [Act.put, List.setIfInBounds_toArray, List.set_cons_zero, List.set_cons_succ])
   refine wpAnyG_take (i := 10) (oi := { dst := some 28, op := Go.Op.move (Go.Operand.tmp 5), type := 144, pos := "proof.go:120", after := #[], guard := none }) (v := ?_) rfl (by kernel_rfl) (by kernel_rfl) (by kernel_rfl) (by kernel_rfl) (by kernel_rfl) (fun _ _ _ h => h) (.inl ⟨by rfl, ?_⟩) (by assumption) ?_
   rotate_left
   ·intro w_ hS_; (try dsimp only at hS_); go_simp; all_goals (with_reducible rfl)
   (try simp only [Act.put, List.setIfInBounds_toArray, List.set_cons_zero, List.set_cons_succ])
   refine wpAnyG_take (i := 11) (oi := { dst := some 29, op := Go.Op.nilCheck (Go.Operand.tmp 28), type := 0, pos := "proof.go:120", after := #[{ on := 10, ground := Go.Ground.data }], guard := none }) (v := ?_) rfl (by kernel_rfl) (by kernel_rfl) (by kernel_rfl) (by kernel_rfl) (by kernel_rfl) (fun _ _ _ h => h) (.inl ⟨by rfl, ?_⟩) (by assumption) ?_
   rotate_left
   ·intro w_ hS_; (try dsimp only at hS_); go_simp; all_goals (with_reducible rfl)
   (try simp only [Act.put, List.setIfInBounds_toArray, List.set_cons_zero, List.set_cons_succ])
   refine wpAnyG_take (i := 12) (oi := { dst := some 30, op := Go.Op.fieldAddr 146 (Go.Operand.tmp 29) 1, type := 0, pos := "proof.go:120", after := #[{ on := 11, ground := Go.Ground.data }], guard := none }) (v := ?_) rfl (by kernel_rfl) (by kernel_rfl) (by kernel_rfl) (by kernel_rfl) (by kernel_rfl) (fun _ _ _ h => h) (.inl ⟨by rfl, ?_⟩) (by assumption) ?_
   rotate_left
   ·intro w_ hS_; (try dsimp only at hS_); go_simp; all_goals (with_reducible rfl)
   (try simp only [Act.put, List.setIfInBounds_toArray, List.set_cons_zero, List.set_cons_succ])
   refine wpAnyG_take (i := 13) (oi := { dst := some 31, op := Go.Op.load 3 (Go.Operand.tmp 30), type := 3, pos := "proof.go:120", after := #[{ on := 12, ground := Go.Ground.data }], guard := none }) (v := ?_) rfl (by kernel_rfl) (by kernel_rfl) (by kernel_rfl) (by kernel_rfl) (by kernel_rfl) (fun _ _ _ h => h) (.inl ⟨by rfl, ?_⟩) (by assumption) ?_
   rotate_left
   ·intro w_ hS_; (try dsimp only at hS_); go_simp; all_goals (with_reducible rfl)
   (try simp only [Act.put, List.setIfInBounds_toArray, List.set_cons_zero, List.set_cons_succ])
   refine wpAnyG_take (i := 14) (oi := { dst := some 32, op := Go.Op.fieldAddr 63 (Go.Operand.tmp 8) 1, type := 0, pos := "proof.go:120", after := #[], guard := none }) (v := ?_) rfl (by kernel_rfl) (by kernel_rfl) (by kernel_rfl) (by kernel_rfl) (by kernel_rfl) (fun _ _ _ h => h) (.inl ⟨by rfl, ?_⟩) (by assumption) ?_
   rotate_left
   ·intro w_ hS_; (try dsimp only at hS_); go_simp; all_goals (with_reducible rfl)
   (try simp only [Act.put, List.setIfInBounds_toArray, List.set_cons_zero, List.set_cons_succ])
   refine wpAnyG_take (i := 15) (oi := { dst := some 33, op := Go.Op.load 3 (Go.Operand.tmp 32), type := 3, pos := "proof.go:120", after := #[{ on := 14, ground := Go.Ground.data }], guard := none }) (v := ?_) rfl (by kernel_rfl) (by kernel_rfl) (by kernel_rfl) (by kernel_rfl) (by kernel_rfl) (fun _ _ _ h => h) (.inl ⟨by rfl, ?_⟩) (by assumption) ?_
   rotate_left
   ·intro w_ hS_; (try dsimp only at hS_); go_simp; all_goals (with_reducible rfl)
   (try simp only [Act.put, List.setIfInBounds_toArray, List.set_cons_zero, List.set_cons_succ])
   refine wpAnyG_take (i := 16) (oi := { dst := some 34, op := Go.Op.call { callee := Go.Callee.builtin Go.Builtin.max, args := #[Go.Operand.tmp 31, Go.Operand.tmp 33], argTypes := #[3, 3] }, type := 3, pos := "proof.go:120", after := #[{ on := 13, ground := Go.Ground.data }, { on := 15, ground := Go.Ground.data }], guard := none }) (v := ?_) rfl (by kernel_rfl) (by kernel_rfl) (by kernel_rfl) (by kernel_rfl) (by kernel_rfl) (fun _ _ _ h => h) (.inl ⟨by rfl, ?_⟩) (by assumption) ?_
   rotate_left
   ·intro w_ hS_; (try dsimp only at hS_); go_simp; all_goals (with_reducible rfl)
   (try simp only [Act.put, List.setIfInBounds_toArray, List.set_cons_zero, List.set_cons_succ])
   refine wpAnyG_take (i := 17) (oi := { dst := some 35, op := Go.Op.slice 22 (Go.Operand.tmp 23) (some (Go.Operand.tmp 27)) (some (Go.Operand.tmp 34)) none, type := 22, pos := "proof.go:120", after := #[{ on := 5, ground := Go.Ground.data }, { on := 9, ground := Go.Ground.data }, { on := 16, ground := Go.Ground.data }], guard := none }) (v := ?_) rfl (by kernel_rfl) (by kernel_rfl) (by kernel_rfl) (by kernel_rfl) (by kernel_rfl) (fun _ _ _ h => h) (.inl ⟨by rfl, ?_⟩) (by assumption) ?_
   rotate_left
   ·intro w_ hS_; (try dsimp only at hS_); go_simp; all_goals (with_reducible rfl)
   (try simp only [Act.put, List.setIfInBounds_toArray, List.set_cons_zero, List.set_cons_succ])
   refine wpAnyG_one (i := 18) (o := { dst := some 36, op := Go.Op.call { callee := Go.Callee.builtin Go.Builtin.append, args := #[Go.Operand.tmp 22, Go.Operand.tmp 35], argTypes := #[22, 22] }, type := 22, pos := "proof.go:120", after := #[{ on := 4, ground := Go.Ground.data }, { on := 17, ground := Go.Ground.data }], guard := none }) (by kernel_rfl) rfl (fun K hK => ?_)
   have HRs : Kd.string.C Wb.drew As ((l0.take ((mxv : Int)).toNat).drop ((st.2 : Int)).toNat).length ((l0.take ((mxv : Int)).toNat).drop ((st.2 : Int)).toNat) := Kd.C_of_reads (hread Wb.drew (Kd.reads_of_C (d := ByteArray.empty) (Kd.C_below HR0.out HPb.out.below.drew)))
   rw [Int.toNat_natCast, Int.toNat_natCast] at HRs
   have hlenR : ((l0.take mxv).drop st.2).length = min mxv l0.length - st.2 := by rw [List.length_drop, List.length_take]
   rw [hlenR] at HRs
   refine Kd.R_append_rows_step Kd.string (w0 := w) w.heap.size (by rfl) _ _ 22 9 _ 16 (by rfl) Try.underlying22 info9 rfl (by decide) (by decide) v st.1 ((l0.take mxv).drop st.2) As (min mxv l0.length - st.2) _ (fun _ => True) (fun _ => False) (by rfl) (by rfl) (Kd.R_of_own HPb.out.drew.row (fun _ _ => trivial)) HRs (fun _ _ h => h) (fun _ h => h.elim) (fun _ _ => trivial) HPb.out.drew.below HPb.out.drew.below.size (by omega) ?_
   intro v1 w1 hown1 hb1 hg1 hat1
   have hown2 := Kd.own_of_R hown1
   have HPut := Aside0.mk (Press.put HPb.out.drew hown2 hg1 hat1)
   have hne1 := HPb.out.drew.ne
   have hBl1 : w.heap.size < Wb.drew.heap.size := blk_lt HPb.out.drew.blk
   have hbxl : bx < Wb.drew.heap.size := blk_lt Hbx.out
   have hbxne : v.ownBlock ≠ some bx := fun e => by
    obtain ⟨cells, hc⟩ := own_typed HPb.out.row bx e
    rw [Hbx.out] at hc
    injection hc with hc
    injection hc with _ ht
    exact absurd ht (by decide)
   have Hbx1 := Aside0.mk (blk_grown (blk_drew Hbx.out) hg1 (Ne.symm hbxne))
   have hc0' : w1.cell? ⟨w.heap.size, 0, none⟩ = some v := (hg1.cell_far _ hBl1 (Ne.symm hne1)).trans hc0
   have hf0' : w1.frozen? ⟨w.heap.size, 0, none⟩ = false := (hg1.frozen_far _ hBl1 (Ne.symm hne1)).trans hf0
   refine hK.out _ _ (fun _ => ⟨hc0', (hg1.cell_far _ hBl1 (Ne.symm hne1)).trans hc1, (blk_cell Hbx1.out 1).trans rfl⟩) ?_
   clear hK K HS
   have HS : w1.cell? ⟨w.heap.size, 0, none⟩ = some v ∧ w1.cell? ⟨w.heap.size, 1, none⟩ = some (.int .i64 st.2) ∧ w1.cell? ⟨bx, 1, none⟩ = some (.int .i64 ln) := ⟨hc0', (hg1.cell_far _ hBl1 (Ne.symm hne1)).trans hc1, (blk_cell Hbx1.out 1).trans rfl⟩
   (try simp only [Act.put, List.setIfInBounds_toArray, List.set_cons_zero, List.set_cons_succ])
   refine wpAnyG_one (i := 19) (o := { dst := some 37, op := Go.Op.nilCheck (Go.Operand.tmp 18), type := 0, pos := "proof.go:120", after := #[{ on := 0, ground := Go.Ground.data }, { on := 0, ground := Go.Ground.phase }, { on := 1, ground := Go.Ground.phase }, { on := 2, ground := Go.Ground.phase }, { on := 3, ground := Go.Ground.phase }, { on := 4, ground := Go.Ground.phase }, { on := 5, ground := Go.Ground.phase }, { on := 6, ground := Go.Ground.phase }, { on := 7, ground := Go.Ground.phase }, { on := 8, ground := Go.Ground.phase }, { on := 9, ground := Go.Ground.phase }, { on := 10, ground := Go.Ground.phase }, { on := 11, ground := Go.Ground.phase }, { on := 12, ground := Go.Ground.phase }, { on := 13, ground := Go.Ground.phase }, { on := 14, ground := Go.Ground.phase }, { on := 15, ground := Go.Ground.phase }, { on := 16, ground := Go.Ground.phase }, { on := 17, ground := Go.Ground.phase }, { on := 18, ground := Go.Ground.phase }], guard := none }) (by kernel_rfl) rfl (fun K hK => ?_)
   go_simp
   refine hK.out _ _ (fun _ => HS) ?_
   clear hK K
   (try simp only [Act.put, List.setIfInBounds_toArray, List.set_cons_zero, List.set_cons_succ])
   refine wpAnyG_take (i := 20) (oi := { dst := some 38, op := Go.Op.fieldAddr 146 (Go.Operand.tmp 37) 0, type := 0, pos := "proof.go:120", after := #[{ on := 19, ground := Go.Ground.data }, { on := 0, ground := Go.Ground.phase }, { on := 1, ground := Go.Ground.phase }, { on := 2, ground := Go.Ground.phase }, { on := 3, ground := Go.Ground.phase }, { on := 4, ground := Go.Ground.phase }, { on := 5, ground := Go.Ground.phase }, { on := 6, ground := Go.Ground.phase }, { on := 7, ground := Go.Ground.phase }, { on := 8, ground := Go.Ground.phase }, { on := 9, ground := Go.Ground.phase }, { on := 10, ground := Go.Ground.phase }, { on := 11, ground := Go.Ground.phase }, { on := 12, ground := Go.Ground.phase }, { on := 13, ground := Go.Ground.phase }, { on := 14, ground := Go.Ground.phase }, { on := 15, ground := Go.Ground.phase }, { on := 16, ground := Go.Ground.phase }, { on := 17, ground := Go.Ground.phase }, { on := 18, ground := Go.Ground.phase }], guard := none }) (v := ?_) rfl (by kernel_rfl) (by kernel_rfl) (by kernel_rfl) (by kernel_rfl) (by kernel_rfl) (fun _ _ _ h => h) (.inl ⟨by rfl, ?_⟩) (by assumption) ?_
   rotate_left
   ·intro w_ hS_; (try dsimp only at hS_); go_simp; all_goals (with_reducible rfl)
   (try simp only [Act.put, List.setIfInBounds_toArray, List.set_cons_zero, List.set_cons_succ])
   refine wpAnyG_one (i := 21) (o := { dst := none, op := Go.Op.store 22 (Go.Operand.tmp 38) (Go.Operand.tmp 36), type := 0, pos := "proof.go:120", after := #[{ on := 20, ground := Go.Ground.data }, { on := 18, ground := Go.Ground.data }, { on := 18, ground := Go.Ground.chain }, { on := 0, ground := Go.Ground.phase }, { on := 1, ground := Go.Ground.phase }, { on := 2, ground := Go.Ground.phase }, { on := 3, ground := Go.Ground.phase }, { on := 4, ground := Go.Ground.phase }, { on := 5, ground := Go.Ground.phase }, { on := 6, ground := Go.Ground.phase }, { on := 7, ground := Go.Ground.phase }, { on := 8, ground := Go.Ground.phase }, { on := 9, ground := Go.Ground.phase }, { on := 10, ground := Go.Ground.phase }, { on := 11, ground := Go.Ground.phase }, { on := 12, ground := Go.Ground.phase }, { on := 13, ground := Go.Ground.phase }, { on := 14, ground := Go.Ground.phase }, { on := 15, ground := Go.Ground.phase }, { on := 16, ground := Go.Ground.phase }, { on := 17, ground := Go.Ground.phase }, { on := 18, ground := Go.Ground.phase }], guard := none }) (by kernel_rfl) rfl (fun K hK => ?_)
   clear HS
   obtain ⟨Av, cv, rfl⟩ := own_slice hown2
   go_simp
   refine hK.out _ _ (fun h => absurd h (by decide)) ?_
   clear hK K
   refine wpAnyG_done (by kernel_rfl) ?_ _
   have hneB : bx ≠ w.heap.size := fun e => by
    have h1 := Hbx1.out
    rw [e] at h1
    have h2 := HPb.out.blk
    have h3 := Hbx.out
    rw [e, h2] at h3
    injection h3 with h3
    injection h3 with _ ht
    exact absurd ht (by decide)
   have hbx2 := blk_far Hbx1.out (p := ⟨w.heap.size, 0, none⟩) hneB (.slice Av (st.1.length + (min mxv l0.length - st.2)) cv)
   have hlsl : (st.1 ++ (l0.take mxv).drop st.2).length = st.1.length + (min mxv l0.length - st.2) := by rw [List.length_append, hlenR]
   rw [hlsl] at HPut
   obtain ⟨Wc, hWc⟩ : ∃ Wc, w1.setCell ⟨w.heap.size, 0, none⟩ (.slice Av (st.1.length + (min mxv l0.length - st.2)) cv) = Wc := ⟨_, rfl⟩
   rw [hWc] at HPut hbx2 ⊢
   clear hWc hc0' hf0' Hbx1 hown1 hb1 hown2 hg1 hat1 hc0 hc1 hf0 hf1 hx1 hne1 hBl1 hbxl hbxne Hbx HPb HRs
   have hc1 := HPut.out.c1
   have hf1 := HPut.out.f1
   have hx1 : Wc.cell? ⟨bx, 1, none⟩ = some (.int .i64 ln) := (blk_cell hbx2 1).trans rfl
   have Hbx2 := Aside0.mk hbx2
   clear hbx2
   go_wp2_with fail
   refine wp_region_G (fun W' => W'.cell? ⟨w.heap.size, 1, none⟩ = some (.int .i64 st.2) ∧ W'.cell? ⟨bx, 1, none⟩ = some (.int .i64 ln)) [10] (by kernel_rfl) ?_
   have HS : Wc.drew.cell? ⟨w.heap.size, 1, none⟩ = some (.int .i64 st.2) ∧ Wc.drew.cell? ⟨bx, 1, none⟩ = some (.int .i64 ln) := ⟨hc1, hx1⟩
   refine wpAnyG_take (i := 0) (oi := { dst := some 39, op := Go.Op.move (Go.Operand.tmp 5), type := 144, pos := "proof.go:121", after := #[], guard := none }) (v := ?_) rfl (by kernel_rfl) (by kernel_rfl) (by kernel_rfl) (by kernel_rfl) (by kernel_rfl) (fun _ _ _ h => h) (.inl ⟨by rfl, ?_⟩) (by assumption) ?_
   rotate_left
   ·intro w_ hS_; (try dsimp only at hS_); go_simp; all_goals (with_reducible rfl)
   (try simp only [Act.put, List.setIfInBounds_toArray, List.set_cons_zero, List.set_cons_succ])
   refine wpAnyG_take (i := 1) (oi := { dst := some 40, op := Go.Op.move (Go.Operand.tmp 5), type := 144, pos := "proof.go:121", after := #[], guard := none }) (v := ?_) rfl (by kernel_rfl) (by kernel_rfl) (by kernel_rfl) (by kernel_rfl) (by kernel_rfl) (fun _ _ _ h => h) (.inl ⟨by rfl, ?_⟩) (by assumption) ?_
   rotate_left
   ·intro w_ hS_; (try dsimp only at hS_); go_simp; all_goals (with_reducible rfl)
   (try simp only [Act.put, List.setIfInBounds_toArray, List.set_cons_zero, List.set_cons_succ])
   refine wpAnyG_take (i := 2) (oi := { dst := some 41, op := Go.Op.nilCheck (Go.Operand.tmp 40), type := 0, pos := "proof.go:121", after := #[{ on := 1, ground := Go.Ground.data }], guard := none }) (v := ?_) rfl (by kernel_rfl) (by kernel_rfl) (by kernel_rfl) (by kernel_rfl) (by kernel_rfl) (fun _ _ _ h => h) (.inl ⟨by rfl, ?_⟩) (by assumption) ?_
   rotate_left
   ·intro w_ hS_; (try dsimp only at hS_); go_simp; all_goals (with_reducible rfl)
   (try simp only [Act.put, List.setIfInBounds_toArray, List.set_cons_zero, List.set_cons_succ])
   refine wpAnyG_take (i := 3) (oi := { dst := some 42, op := Go.Op.fieldAddr 146 (Go.Operand.tmp 41) 1, type := 0, pos := "proof.go:121", after := #[{ on := 2, ground := Go.Ground.data }], guard := none }) (v := ?_) rfl (by kernel_rfl) (by kernel_rfl) (by kernel_rfl) (by kernel_rfl) (by kernel_rfl) (fun _ _ _ h => h) (.inl ⟨by rfl, ?_⟩) (by assumption) ?_
   rotate_left
   ·intro w_ hS_; (try dsimp only at hS_); go_simp; all_goals (with_reducible rfl)
   (try simp only [Act.put, List.setIfInBounds_toArray, List.set_cons_zero, List.set_cons_succ])
   refine wpAnyG_take (i := 4) (oi := { dst := some 43, op := Go.Op.load 3 (Go.Operand.tmp 42), type := 3, pos := "proof.go:121", after := #[{ on := 3, ground := Go.Ground.data }], guard := none }) (v := ?_) rfl (by kernel_rfl) (by kernel_rfl) (by kernel_rfl) (by kernel_rfl) (by kernel_rfl) (fun _ _ _ h => h) (.inl ⟨by rfl, ?_⟩) (by assumption) ?_
   rotate_left
   ·intro w_ hS_; (try dsimp only at hS_); go_simp; all_goals (with_reducible rfl)
   (try simp only [Act.put, List.setIfInBounds_toArray, List.set_cons_zero, List.set_cons_succ])
   refine wpAnyG_take (i := 5) (oi := { dst := some 44, op := Go.Op.fieldAddr 63 (Go.Operand.tmp 8) 1, type := 0, pos := "proof.go:121", after := #[], guard := none }) (v := ?_) rfl (by kernel_rfl) (by kernel_rfl) (by kernel_rfl) (by kernel_rfl) (by kernel_rfl) (fun _ _ _ h => h) (.inl ⟨by rfl, ?_⟩) (by assumption) ?_
   rotate_left
   ·intro w_ hS_; (try dsimp only at hS_); go_simp; all_goals (with_reducible rfl)
   (try simp only [Act.put, List.setIfInBounds_toArray, List.set_cons_zero, List.set_cons_succ])
   refine wpAnyG_take (i := 6) (oi := { dst := some 45, op := Go.Op.load 3 (Go.Operand.tmp 44), type := 3, pos := "proof.go:121", after := #[{ on := 5, ground := Go.Ground.data }], guard := none }) (v := ?_) rfl (by kernel_rfl) (by kernel_rfl) (by kernel_rfl) (by kernel_rfl) (by kernel_rfl) (fun _ _ _ h => h) (.inl ⟨by rfl, ?_⟩) (by assumption) ?_
   rotate_left
   ·intro w_ hS_; (try dsimp only at hS_); go_simp; all_goals (with_reducible rfl)
   (try simp only [Act.put, List.setIfInBounds_toArray, List.set_cons_zero, List.set_cons_succ])
   refine wpAnyG_take (i := 7) (oi := { dst := some 46, op := Go.Op.call { callee := Go.Callee.builtin Go.Builtin.max, args := #[Go.Operand.tmp 43, Go.Operand.tmp 45], argTypes := #[3, 3] }, type := 3, pos := "proof.go:121", after := #[{ on := 4, ground := Go.Ground.data }, { on := 6, ground := Go.Ground.data }], guard := none }) (v := ?_) rfl (by kernel_rfl) (by kernel_rfl) (by kernel_rfl) (by kernel_rfl) (by kernel_rfl) (fun _ _ _ h => h) (.inl ⟨by rfl, ?_⟩) (by assumption) ?_
   rotate_left
   ·intro w_ hS_; (try dsimp only at hS_); go_simp; all_goals (with_reducible rfl)
   (try simp only [Act.put, List.setIfInBounds_toArray, List.set_cons_zero, List.set_cons_succ])
   refine wpAnyG_one (i := 8) (o := { dst := some 47, op := Go.Op.nilCheck (Go.Operand.tmp 39), type := 0, pos := "proof.go:121", after := #[{ on := 0, ground := Go.Ground.data }, { on := 0, ground := Go.Ground.phase }, { on := 1, ground := Go.Ground.phase }, { on := 2, ground := Go.Ground.phase }, { on := 3, ground := Go.Ground.phase }, { on := 4, ground := Go.Ground.phase }, { on := 5, ground := Go.Ground.phase }, { on := 6, ground := Go.Ground.phase }, { on := 7, ground := Go.Ground.phase }], guard := none }) (by kernel_rfl) rfl (fun K hK => ?_)
   go_simp
   refine hK.out _ _ (fun _ => HS) ?_
   clear hK K
   (try simp only [Act.put, List.setIfInBounds_toArray, List.set_cons_zero, List.set_cons_succ])
   refine wpAnyG_take (i := 9) (oi := { dst := some 48, op := Go.Op.fieldAddr 146 (Go.Operand.tmp 47) 1, type := 0, pos := "proof.go:121", after := #[{ on := 8, ground := Go.Ground.data }, { on := 0, ground := Go.Ground.phase }, { on := 1, ground := Go.Ground.phase }, { on := 2, ground := Go.Ground.phase }, { on := 3, ground := Go.Ground.phase }, { on := 4, ground := Go.Ground.phase }, { on := 5, ground := Go.Ground.phase }, { on := 6, ground := Go.Ground.phase }, { on := 7, ground := Go.Ground.phase }], guard := none }) (v := ?_) rfl (by kernel_rfl) (by kernel_rfl) (by kernel_rfl) (by kernel_rfl) (by kernel_rfl) (fun _ _ _ h => h) (.inl ⟨by rfl, ?_⟩) (by assumption) ?_
   rotate_left
   ·intro w_ hS_; (try dsimp only at hS_); go_simp; all_goals (with_reducible rfl)
   (try simp only [Act.put, List.setIfInBounds_toArray, List.set_cons_zero, List.set_cons_succ])
   refine wpAnyG_one (i := 10) (o := { dst := none, op := Go.Op.store 3 (Go.Operand.tmp 48) (Go.Operand.tmp 46), type := 0, pos := "proof.go:121", after := #[{ on := 9, ground := Go.Ground.data }, { on := 7, ground := Go.Ground.data }, { on := 0, ground := Go.Ground.phase }, { on := 1, ground := Go.Ground.phase }, { on := 2, ground := Go.Ground.phase }, { on := 3, ground := Go.Ground.phase }, { on := 4, ground := Go.Ground.phase }, { on := 5, ground := Go.Ground.phase }, { on := 6, ground := Go.Ground.phase }, { on := 7, ground := Go.Ground.phase }], guard := none }) (by kernel_rfl) rfl (fun K hK => ?_)
   clear HS
   go_simp
   refine hK.out _ _ (fun h => absurd h (by decide)) ?_
   clear hK K
   refine wpAnyG_done (by kernel_rfl) ?_ _
   have HPd := Aside0.mk (HPut.out.set1 (mxv : Int)).drew
   have hbx3 : ((Wc.setCell ⟨w.heap.size, 1, none⟩ (.int .i64 (mxv : Int))).drew).heap[bx]? = _ := blk_far Hbx2.out (p := ⟨w.heap.size, 1, none⟩) hneB (.int .i64 (mxv : Int))
   obtain ⟨Wd, hWd⟩ : ∃ Wd, (Wc.setCell ⟨w.heap.size, 1, none⟩ (.int .i64 (mxv : Int))).drew = Wd := ⟨_, rfl⟩
   rw [hWd] at HPd hbx3 ⊢
   clear hWd hc1 hf1 hx1 Hbx2 HPut
   have hk0 : Wd.cell? ⟨bx, 0, none⟩ = some (.int .i64 kd) := (blk_cell hbx3 0).trans rfl
   have hk1 : Wd.cell? ⟨bx, 1, none⟩ = some (.int .i64 ln) := (blk_cell hbx3 1).trans rfl
   have hk2 : Wd.cell? ⟨bx, 2, none⟩ = some (.string s) := (blk_cell hbx3 2).trans rfl
   clear hbx3
   have hl1000 : (st.1 ++ (l0.take mxv).drop st.2).length ≤ 1000 := by rw [hlsl]; omega
   have hstep : Aside0 (stepP l0 st ⟨kd, ln, s⟩ = if kd = 1 then ((st.1 ++ (l0.take mxv).drop st.2) ++ [s], mxv) else if kd = 2 then ((st.1 ++ (l0.take mxv).drop st.2) ++ [s], ln.toNat + 1) else (st.1 ++ (l0.take mxv).drop st.2, ln.toNat + 1)) := ⟨by unfold stepP; dsimp only; rw [hmx]⟩
   have hlk : ∀ (g : Nat), doMap = doMap → kd = 1 ∧ g = 122 ∨ kd = 2 ∧ g = 123 ∨ kd = 3 ∧ g = 124 → (Instr.lookup 147 (.map (some (w.heap.size + 1))) (.int .i64 kd) false).run Try.prog Wd = .ok (.func (.func g) #[] #[]) Wd := by
    rintro g - (⟨rfl, rfl⟩ | ⟨rfl, rfl⟩ | ⟨rfl, rfl⟩)
    ·exact run_look_hit (i := 0) false Try.underlying147 HPd.out.map (fun b => MapKept.run_checkKey Try.underlying3 (by rfl) _ _) (MapKept.run_findKey Try.underlying3 (by rfl))
    ·exact run_look_hit (i := 1) false Try.underlying147 HPd.out.map (fun b => MapKept.run_checkKey Try.underlying3 (by rfl) _ _) (MapKept.run_findKey Try.underlying3 (by rfl))
    ·exact run_look_hit (i := 2) false Try.underlying147 HPd.out.map (fun b => MapKept.run_checkKey Try.underlying3 (by rfl) _ _) (MapKept.run_findKey Try.underlying3 (by rfl))
   have hln2 := hln.1
   have hln3 : ln ≤ 1000 := by omega
   have hkd : kd = 1 ∨ kd = 2 ∨ kd = 3 := by omega
   have eln : ((ln.toNat + 1 : Nat) : Int) = ln + 1 := by omega
   have HE := Aside0.mk eln
   clear hln eln hmx hmx' hsl hread hcap hlenR hlsl hneB
   rcases hkd with rfl | rfl | rfl
   ·have hl := hlk 122 rfl (.inl ⟨rfl, rfl⟩)
    clear hlk
    go_wp2_with (go_at_call 122; refine (deeds1_calls w _ _ _ _ _ _ _ _ _ HPd.out hl1000).mono ?_; rintro e w' ⟨rfl, v', hP'⟩)
    go_roundw
    case rel => exact ⟨k + 1, by omega, by go_num, ⟨v', by rw [HN.out, hstep.out, if_pos trivial]; exact hP'⟩⟩
    case measure => simp [intOf]; omega
   ·have hl := hlk 123 rfl (.inr (.inl ⟨rfl, rfl⟩))
    clear hlk
    go_wp2_with (go_at_call 123; refine (deeds2_calls w _ _ _ _ _ _ _ _ _ HPd.out hl1000 hln2 hln3).mono ?_; rintro e w' ⟨rfl, v', hP'⟩)
    go_roundw
    case rel => exact ⟨k + 1, by omega, by go_num, ⟨v', by rw [HN.out, hstep.out, if_neg (by decide), if_pos trivial]; simp only [HE.out]; exact hP'⟩⟩
    case measure => simp [intOf]; omega
   ·have hl := hlk 124 rfl (.inr (.inr ⟨rfl, rfl⟩))
    clear hlk
    go_wp2_with (go_at_call 124; refine (deeds3_calls w _ _ _ _ _ _ _ _ _ HPd.out hln2 hln3).mono ?_; rintro e w' ⟨rfl, v', hP'⟩)
    go_roundw
    case rel => exact ⟨k + 1, by omega, by go_num, ⟨v', by rw [HN.out, hstep.out, if_neg (by decide), if_neg (by decide)]; simp only [HE.out]; exact hP'⟩⟩
    case measure => simp [intOf]; omega
  ·have c2b0 : decide ((k : Int) < (l1.length : Int)) = false := decide_eq_false (by omega)
   have hkl : l1.take k = l1 := List.take_of_length_le (by omega)
   have hfin : madeP l0 l1 = st.1 ++ l0.drop st.2 := by rw [hkl] at hst; unfold madeP; rw [hst]
   have hc0 := hP.c0
   have hc1 := hP.c1
   have HP := Aside0.mk hP
   have HN := Aside0.mk hfin
   obtain ⟨i0, hi0, hz0, hz1, hz2⟩ := info_parts info9
   obtain ⟨As, hsl, hread, hcap⟩ := print_drop_of (P := Try.prog) Value.string ByteArray.empty 22 9 .i64 Try.underlying22 hi0 hz1 A0 c0 l0 (st.2 : Int) (by omega) (by omega) (by assumption)
   clear hP hfin hkl hst
   go_wp2_with fail
   refine wp_region_G (fun W' => W'.cell? ⟨w.heap.size, 0, none⟩ = some v ∧ W'.cell? ⟨w.heap.size, 1, none⟩ = some (.int .i64 st.2)) [] (by kernel_rfl) ?_
   have HS : wr.drew.cell? ⟨w.heap.size, 0, none⟩ = some v ∧ wr.drew.cell? ⟨w.heap.size, 1, none⟩ = some (.int .i64 st.2) := ⟨hc0, hc1⟩
   refine wpAnyG_take (i := 0) (oi := { dst := some 57, op := Go.Op.move (Go.Operand.tmp 5), type := 144, pos := "proof.go:124", after := #[], guard := none }) (v := ?_) rfl (by kernel_rfl) (by kernel_rfl) (by kernel_rfl) (by kernel_rfl) (by kernel_rfl) (fun _ _ _ h => h) (.inl ⟨by rfl, ?_⟩) (by assumption) ?_
   rotate_left
   ·intro w_ hS_; (try dsimp only at hS_); go_simp; all_goals (with_reducible rfl)
   (try simp only [Act.put, List.setIfInBounds_toArray, List.set_cons_zero, List.set_cons_succ])
   refine wpAnyG_take (i := 1) (oi := { dst := some 58, op := Go.Op.nilCheck (Go.Operand.tmp 57), type := 0, pos := "proof.go:124", after := #[{ on := 0, ground := Go.Ground.data }], guard := none }) (v := ?_) rfl (by kernel_rfl) (by kernel_rfl) (by kernel_rfl) (by kernel_rfl) (by kernel_rfl) (fun _ _ _ h => h) (.inl ⟨by rfl, ?_⟩) (by assumption) ?_
   rotate_left
   ·intro w_ hS_; (try dsimp only at hS_); go_simp; all_goals (with_reducible rfl)
   (try simp only [Act.put, List.setIfInBounds_toArray, List.set_cons_zero, List.set_cons_succ])
   refine wpAnyG_take (i := 2) (oi := { dst := some 59, op := Go.Op.fieldAddr 146 (Go.Operand.tmp 58) 0, type := 0, pos := "proof.go:124", after := #[{ on := 1, ground := Go.Ground.data }], guard := none }) (v := ?_) rfl (by kernel_rfl) (by kernel_rfl) (by kernel_rfl) (by kernel_rfl) (by kernel_rfl) (fun _ _ _ h => h) (.inl ⟨by rfl, ?_⟩) (by assumption) ?_
   rotate_left
   ·intro w_ hS_; (try dsimp only at hS_); go_simp; all_goals (with_reducible rfl)
   (try simp only [Act.put, List.setIfInBounds_toArray, List.set_cons_zero, List.set_cons_succ])
   refine wpAnyG_take (i := 3) (oi := { dst := some 60, op := Go.Op.load 22 (Go.Operand.tmp 59), type := 22, pos := "proof.go:124", after := #[{ on := 2, ground := Go.Ground.data }], guard := none }) (v := ?_) rfl (by kernel_rfl) (by kernel_rfl) (by kernel_rfl) (by kernel_rfl) (by kernel_rfl) (fun _ _ _ h => h) (.inl ⟨by rfl, ?_⟩) (by assumption) ?_
   rotate_left
   ·intro w_ hS_; (try dsimp only at hS_); go_simp; all_goals (with_reducible rfl)
   (try simp only [Act.put, List.setIfInBounds_toArray, List.set_cons_zero, List.set_cons_succ])
   refine wpAnyG_take (i := 4) (oi := { dst := some 61, op := Go.Op.move (Go.Operand.tmp 0), type := 22, pos := "proof.go:124", after := #[], guard := none }) (v := ?_) rfl (by kernel_rfl) (by kernel_rfl) (by kernel_rfl) (by kernel_rfl) (by kernel_rfl) (fun _ _ _ h => h) (.inl ⟨by rfl, ?_⟩) (by assumption) ?_
   rotate_left
   ·intro w_ hS_; (try dsimp only at hS_); go_simp; all_goals (with_reducible rfl)
   (try simp only [Act.put, List.setIfInBounds_toArray, List.set_cons_zero, List.set_cons_succ])
   refine wpAnyG_take (i := 5) (oi := { dst := some 62, op := Go.Op.move (Go.Operand.tmp 5), type := 144, pos := "proof.go:124", after := #[], guard := none }) (v := ?_) rfl (by kernel_rfl) (by kernel_rfl) (by kernel_rfl) (by kernel_rfl) (by kernel_rfl) (fun _ _ _ h => h) (.inl ⟨by rfl, ?_⟩) (by assumption) ?_
   rotate_left
   ·intro w_ hS_; (try dsimp only at hS_); go_simp; all_goals (with_reducible rfl)
   (try simp only [Act.put, List.setIfInBounds_toArray, List.set_cons_zero, List.set_cons_succ])
   refine wpAnyG_take (i := 6) (oi := { dst := some 63, op := Go.Op.nilCheck (Go.Operand.tmp 62), type := 0, pos := "proof.go:124", after := #[{ on := 5, ground := Go.Ground.data }], guard := none }) (v := ?_) rfl (by kernel_rfl) (by kernel_rfl) (by kernel_rfl) (by kernel_rfl) (by kernel_rfl) (fun _ _ _ h => h) (.inl ⟨by rfl, ?_⟩) (by assumption) ?_
   rotate_left
   ·intro w_ hS_; (try dsimp only at hS_); go_simp; all_goals (with_reducible rfl)
   (try simp only [Act.put, List.setIfInBounds_toArray, List.set_cons_zero, List.set_cons_succ])
   refine wpAnyG_take (i := 7) (oi := { dst := some 64, op := Go.Op.fieldAddr 146 (Go.Operand.tmp 63) 1, type := 0, pos := "proof.go:124", after := #[{ on := 6, ground := Go.Ground.data }], guard := none }) (v := ?_) rfl (by kernel_rfl) (by kernel_rfl) (by kernel_rfl) (by kernel_rfl) (by kernel_rfl) (fun _ _ _ h => h) (.inl ⟨by rfl, ?_⟩) (by assumption) ?_
   rotate_left
   ·intro w_ hS_; (try dsimp only at hS_); go_simp; all_goals (with_reducible rfl)
   (try simp only [Act.put, List.setIfInBounds_toArray, List.set_cons_zero, List.set_cons_succ])
   refine wpAnyG_take (i := 8) (oi := { dst := some 65, op := Go.Op.load 3 (Go.Operand.tmp 64), type := 3, pos := "proof.go:124", after := #[{ on := 7, ground := Go.Ground.data }], guard := none }) (v := ?_) rfl (by kernel_rfl) (by kernel_rfl) (by kernel_rfl) (by kernel_rfl) (by kernel_rfl) (fun _ _ _ h => h) (.inl ⟨by rfl, ?_⟩) (by assumption) ?_
   rotate_left
   ·intro w_ hS_; (try dsimp only at hS_); go_simp; all_goals (with_reducible rfl)
   (try simp only [Act.put, List.setIfInBounds_toArray, List.set_cons_zero, List.set_cons_succ])
   refine wpAnyG_take (i := 9) (oi := { dst := some 66, op := Go.Op.slice 22 (Go.Operand.tmp 61) (some (Go.Operand.tmp 65)) none none, type := 22, pos := "proof.go:124", after := #[{ on := 4, ground := Go.Ground.data }, { on := 8, ground := Go.Ground.data }], guard := none }) (v := ?_) rfl (by kernel_rfl) (by kernel_rfl) (by kernel_rfl) (by kernel_rfl) (by kernel_rfl) (fun _ _ _ h => h) (.inl ⟨by rfl, ?_⟩) (by assumption) ?_
   rotate_left
   ·intro w_ hS_; (try dsimp only at hS_); go_simp; all_goals (with_reducible rfl)
   (try simp only [Act.put, List.setIfInBounds_toArray, List.set_cons_zero, List.set_cons_succ])
   refine wpAnyG_one (i := 10) (o := { dst := some 67, op := Go.Op.call { callee := Go.Callee.builtin Go.Builtin.append, args := #[Go.Operand.tmp 60, Go.Operand.tmp 66], argTypes := #[22, 22] }, type := 22, pos := "proof.go:124", after := #[{ on := 3, ground := Go.Ground.data }, { on := 9, ground := Go.Ground.data }], guard := none }) (by kernel_rfl) rfl (fun K hK => ?_)
   have HRs : Kd.string.C wr.drew As (l0.drop ((st.2 : Int)).toNat).length (l0.drop ((st.2 : Int)).toNat) := Kd.C_of_reads (hread wr.drew (Kd.reads_of_C (d := ByteArray.empty) (Kd.C_below HR0.out HP.out.below.drew)))
   rw [Int.toNat_natCast] at HRs
   have hlenR : (l0.drop st.2).length = l0.length - st.2 := List.length_drop
   rw [hlenR] at HRs
   refine Kd.R_append_rows_step Kd.string (w0 := w) w.heap.size (by rfl) _ _ 22 9 _ 16 (by rfl) Try.underlying22 info9 rfl (by decide) (by decide) v st.1 (l0.drop st.2) As (l0.length - st.2) _ (fun _ => True) (fun _ => False) (by rfl) (by rfl) (Kd.R_of_own HP.out.drew.row (fun _ _ => trivial)) HRs (fun _ _ h => h) (fun _ h => h.elim) (fun _ _ => trivial) HP.out.drew.below HP.out.drew.below.size (by omega) ?_
   intro v1 w1 hown1 hb1 hg1 hat1
   have hne1 := HP.out.drew.ne
   have hBl1 : w.heap.size < wr.drew.heap.size := blk_lt HP.out.drew.blk
   have HS : w1.cell? ⟨w.heap.size, 0, none⟩ = some v ∧ w1.cell? ⟨w.heap.size, 1, none⟩ = some (.int .i64 st.2) := ⟨(hg1.cell_far _ hBl1 (Ne.symm hne1)).trans hc0, (hg1.cell_far _ hBl1 (Ne.symm hne1)).trans hc1⟩
   refine hK.out _ _ (fun _ => HS) ?_
   clear hK K
   (try simp only [Act.put, List.setIfInBounds_toArray, List.set_cons_zero, List.set_cons_succ])
   refine wpAnyG_take (i := 11) (oi := { dst := some 4, op := Go.Op.assign (Go.Operand.tmp 67), type := 22, pos := "proof.go:124", after := #[{ on := 10, ground := Go.Ground.data }, { on := 10, ground := Go.Ground.chain }, { on := 0, ground := Go.Ground.phase }, { on := 1, ground := Go.Ground.phase }, { on := 2, ground := Go.Ground.phase }, { on := 3, ground := Go.Ground.phase }, { on := 4, ground := Go.Ground.phase }, { on := 5, ground := Go.Ground.phase }, { on := 6, ground := Go.Ground.phase }, { on := 7, ground := Go.Ground.phase }, { on := 8, ground := Go.Ground.phase }, { on := 9, ground := Go.Ground.phase }, { on := 10, ground := Go.Ground.phase }], guard := none }) (v := ?_) rfl (by kernel_rfl) (by kernel_rfl) (by kernel_rfl) (by kernel_rfl) (by kernel_rfl) (fun _ _ _ h => h) (.inl ⟨by rfl, ?_⟩) (by assumption) ?_
   rotate_left
   ·intro w_ hS_; (try dsimp only at hS_); go_simp; all_goals (with_reducible rfl)
   (try simp only [Act.put, List.setIfInBounds_toArray, List.set_cons_zero, List.set_cons_succ])
   refine wpAnyG_done (by kernel_rfl) ?_ _
   go_wp2
   go_ret
   exact ⟨v1, rfl, by rw [HN.out]; exact hown1, hb1⟩
end Go.Proofs.Ytgmbbfmbimofoaa.P
