-- MERGED BY A PROGRAM out of texts of this claim: hand work, and what a (turned) print of the kit has written for it
import Derived.Laws.IdiomStrings
import Derived.Lib.IndexBytes
import Derived.Outline
import Derived.Test.YtgmbbfmbimofoaaMa5
namespace Go.Proofs.Ytgmbbfmbimofoaa.P
open Go.RowKit Go.Proofs.YtgmbbfmbimofoaaW.PrintWords Go.Proofs.YtgmbbfmbimofoaaW.PrintLast Go.Proofs.YtgmbbfmbimofoaaW.PrintMore
attribute [local go_sem] max2_int min2_int max_two min_two max_three min_three max_four min_four
set_option linter.unusedVariables false
set_option linter.unusedSimpArgs false
def okb (c : UInt8) : Bool := (97 ≤ c && c ≤ 122) || (48 ≤ c && c ≤ 57) || c == 32
theorem prefix_space (s : ByteArray) (h : 0 < s.size) : strings_HasPrefix.f s ⟨#[32]⟩ = some (decide (s.data.toList.head? = some 32)) := by
 have h1 : s.size ≥ 1 := h
 have e : ((⟨#[32]⟩ : ByteArray).size : Int) = 1 := rfl
 unfold strings_HasPrefix.f stringslite_HasPrefix.f
 rw [e, if_pos (by omega), if_pos (by omega), if_pos (by omega)]
 simp only [Option.bind_some]
 congr 1
 obtain ⟨⟨l⟩⟩ := s
 rw [ByteArray.toList_eq, ByteArray.toList_eq, Lib.extract_data]
 cases l with
 | nil => exact absurd h (by decide)
 | cons c l => rw [Bool.eq_iff_iff]; simp
theorem suffix_space (s : ByteArray) (h : 0 < s.size) (h1 : s.size ≤ 10) : strings_HasSuffix.f s ⟨#[32]⟩ = some (decide (s.data.toList.getLast? = some 32)) := by
 have e : ((⟨#[32]⟩ : ByteArray).size : Int) = 1 := rfl
 have ew : wrap64 ((s.size : Int) - 1) = s.size - 1 := by unfold wrap64; omega
 unfold strings_HasSuffix.f stringslite_HasSuffix.f
 rw [e, ew, if_pos (by omega), if_pos (by omega), if_pos (by omega)]
 simp only [Option.bind_some]
 congr 1
 have en : ((s.size : Int) - 1).toNat = s.size - 1 := by omega
 rw [en, ByteArray.toList_eq, ByteArray.toList_eq, Lib.extract_to_end]
 have hs : s.size = s.data.toList.length := rfl
 rw [hs]
 rw [hs] at h
 generalize s.data.toList = l at h
 rcases List.eq_nil_or_concat l with rfl | ⟨l', c, rfl⟩
 ·simp at h
 ·rw [Bool.eq_iff_iff]; simp
def lineErr (s : ByteArray) : Int :=
 if s.size = 0 then 7 else if 10 < s.size then 10 else if s.data.toList.all okb then (if s.data.toList.head? = some 32 ∨ s.data.toList.getLast? = some 32 then 2 else 0) else 2
def proof_lineError.f (a0 : ByteArray) : Option Int := some (lineErr a0)
theorem okb_int (c : UInt8) : okb c = ((decide (97 ≤ (c.toNat : Int)) && decide ((c.toNat : Int) ≤ 122)) || (decide (48 ≤ (c.toNat : Int)) && decide ((c.toNat : Int) ≤ 57)) || decide ((c.toNat : Int) = 32)) := by
 unfold okb
 rw [Bool.eq_iff_iff]
 simp [UInt8.le_iff_toNat_le, ← UInt8.toNat_inj]
 omega
set_option maxHeartbeats 8000000 in
set_option maxRecDepth 100000 in
theorem proof_lineError.calls (a0 : ByteArray) (r : Int) (w : World) (h : proof_lineError.f a0 = some r) :
  Calls Try.prog 82 #[.string a0] w fun e w' => e = .returned (.int .i64 r) ∧ Below w.heap.size w w' := by
 obtain rfl := Option.some.inj h
 clear h
 by_cases c0 : a0.size = 0
 ·have e : lineErr a0 = 7 := by simp [lineErr, c0]
  rw [e]
  have c2b0 : ((a0.size : Int) == 0) = true := by simp [c0]
  clear e c0
  go_enter Try.func82, Try.ntmps82
  go_wp2
  go_ret
  exact ⟨rfl, Below.refl _ _⟩
 ·by_cases c1 : 10 < a0.size
  ·have e : lineErr a0 = 10 := by simp [lineErr, c0, c1]
   rw [e]
   have c2b0 : ((a0.size : Int) == 0) = false := by simp [c0]
   have c3b0 : decide (10 < (a0.size : Int)) = true := decide_eq_true (by omega)
   have c3b1 : decide (10 < a0.size) = true := decide_eq_true (by omega)
   clear e c0 c1
   go_enter Try.func82, Try.ntmps82
   go_wp2
   go_ret
   exact ⟨rfl, Below.refl _ _⟩
  ·have c2b0 : ((a0.size : Int) == 0) = false := by simp [c0]
   have c3b0 : decide (10 < (a0.size : Int)) = false := decide_eq_false (by omega)
   have c3b1 : decide (10 < a0.size) = false := decide_eq_false (by omega)
   have hconv := run_bytes_of_string (P := Try.prog) w 9 129 5 a0 Try.underlying9 Try.underlying129 Try.underlying5
   go_enter Try.func82, Try.ntmps82
   go_wp2
   have hsz : w.heap.size < (w.alloc (.cells (bytesRow a0 (grownCap w a0.size 0 5)) 5 ((bytesRow a0 (grownCap w a0.size 0 5)).size, (bytesRow a0 (grownCap w a0.size 0 5)).size + 1))).heap.size := by simp
   obtain ⟨W0, hW0⟩ : ∃ W0, (w.alloc (.cells (bytesRow a0 (grownCap w a0.size 0 5)) 5 ((bytesRow a0 (grownCap w a0.size 0 5)).size, (bytesRow a0 (grownCap w a0.size 0 5)).size + 1))) = W0 := ⟨_, rfl⟩
   have hcell : Aside0 (∀ j, ∀ hj : j < a0.data.size, W0.drew.cell? ⟨w.heap.size, j, none⟩ = some (.int .u8 (a0.data[j].toNat : Int))) := ⟨by
    intro j hj
    rw [← hW0]
    exact (World.cell?_alloc_mark _ _ _ _ _).trans (bytesRow_at _ _ _ hj)⟩
   have hbel0 : Aside0 (Below w.heap.size w W0) := ⟨by rw [← hW0]; exact ((Below.refl _ _).alloc (Nat.le_refl _) _)⟩
   have hbel : Aside0 (Below w.heap.size w W0.drew) := ⟨hbel0.out.drew⟩
   rw [hW0]
   clear hW0 hsz hconv
   have hn : a0.size ≤ 10 := by omega
   go_loop [4, 14] (fun c i => ∃ k : Nat, k ≤ a0.size ∧ i = .int .i64 k ∧ Aside0 (∀ j, ∀ hj : j < a0.data.size, j < k → okb a0.data[j] = true)) (fun _ i => a0.size - (intOf i).toNat)
   case atStart => exact ⟨0, Nat.zero_le _, rfl, ⟨fun j _ h => absurd h (Nat.not_lt_zero _)⟩⟩
   case round =>
    obtain ⟨k, hk, rfl, hok⟩ := hrel
    by_cases hlt : k < a0.size
    ·have hc := hcell.out k hlt
     obtain ⟨x, hx⟩ : ∃ x : Int, (a0.data[k].toNat : Int) = x := ⟨_, rfl⟩
     have hob : Aside0 (okb a0.data[k] = ((decide (97 ≤ x) && decide (x ≤ 122)) || (decide (48 ≤ x) && decide (x ≤ 57)) || decide (x = 32))) := ⟨by rw [okb_int, hx]⟩
     have hx0 : 0 ≤ x := by omega
     have hx1 : x ≤ 255 := by have := a0.data[k].toNat_lt; omega
     rw [hx] at hc
     clear hx
     have step : okb a0.data[k] = true → Aside0 (∀ j, ∀ hj : j < a0.data.size, j < k + 1 → okb a0.data[j] = true) := fun he => ⟨fun j hj h => by
      by_cases e : j = k
      ·subst e; exact he
      ·exact hok.out j hj (by omega)⟩
     have bad : okb a0.data[k] = false → lineErr a0 = 2 := fun he => by
      have ha : a0.data.toList.all okb = false := by
       rw [List.all_eq_false]
       exact ⟨a0.data[k], by simp, by simp [he]⟩
      simp [lineErr, c0, c1, ha]
     have step' := Aside0.mk step
     have bad' := Aside0.mk bad
     clear step bad hok
     have hklt : decide ((k : Int) < (a0.size : Int)) = true := decide_eq_true (by omega)
     have hk0 : (0 : Int) ≤ k := by omega
     by_cases d1 : x < 97
     ·have d1b : decide (x < 97) = true := decide_eq_true d1
      by_cases d2 : x < 48
      ·have d2b : decide (x < 48) = true := decide_eq_true d2
       by_cases d3 : x = 32
       ·have d3b : (x != 32) = false := by simp [d3]
        have hob' : okb a0.data[k] = true := by rw [hob.out]; simp [d3]
        have hst := step'.out hob'
        clear d1 d2 d3 hob hob' step' bad' c0 c1
        go_wp2
        go_round
        case rel => exact ⟨k + 1, by omega, by go_num, hst⟩
        case measure => simp [intOf]; omega
       ·have d3b : (x != 32) = true := by simp [d3]
        have hob' : okb a0.data[k] = false := by rw [hob.out]; simp [d3]; omega
        have hb := Aside0.mk (bad'.out hob')
        clear d1 d2 d3 hob hob' step' bad' c0 c1
        go_wp2
        go_ret
        exact ⟨by rw [hb.out]; rfl, hbel.out⟩
      ·have d2b : decide (x < 48) = false := decide_eq_false d2
       by_cases d3 : 57 < x
       ·have d3b : decide (57 < x) = true := decide_eq_true d3
        have d4b : (x != 32) = true := by simp; omega
        have hob' : okb a0.data[k] = false := by rw [hob.out]; simp; omega
        have hb := Aside0.mk (bad'.out hob')
        clear d1 d2 d3 hob hob' step' bad' c0 c1
        go_wp2
        go_ret
        exact ⟨by rw [hb.out]; rfl, hbel.out⟩
       ·have d3b : decide (57 < x) = false := decide_eq_false d3
        have hob' : okb a0.data[k] = true := by rw [hob.out]; simp; omega
        have hst := step'.out hob'
        clear d1 d2 d3 hob hob' step' bad' c0 c1
        go_wp2
        go_round
        case rel => exact ⟨k + 1, by omega, by go_num, hst⟩
        case measure => simp [intOf]; omega
     ·have d1b : decide (x < 97) = false := decide_eq_false d1
      by_cases d2 : 122 < x
      ·have d2b : decide (122 < x) = true := decide_eq_true d2
       have d3b : decide (x < 48) = false := decide_eq_false (by omega)
       have d4b : decide (57 < x) = true := decide_eq_true (by omega)
       have d5b : (x != 32) = true := by simp; omega
       have hob' : okb a0.data[k] = false := by rw [hob.out]; simp; omega
       have hb := Aside0.mk (bad'.out hob')
       clear d1 d2 hob hob' step' bad' c0 c1
       go_wp2
       go_ret
       exact ⟨by rw [hb.out]; rfl, hbel.out⟩
      ·have d2b : decide (122 < x) = false := decide_eq_false d2
       have hob' : okb a0.data[k] = true := by rw [hob.out]; simp; omega
       have hst := step'.out hob'
       clear d1 d2 hob hob' step' bad' c0 c1
       go_wp2
       go_round
       case rel => exact ⟨k + 1, by omega, by go_num, hst⟩
       case measure => simp [intOf]; omega
    ·have hall : a0.data.toList.all okb = true := by
      rw [List.all_eq_true]
      intro c hc
      obtain ⟨j, hj, rfl⟩ := List.getElem_of_mem hc
      have hj' : j < a0.data.size := by simpa using hj
      simpa using hok.out j hj' (by have : a0.data.size = a0.size := rfl; omega)
     have hklt : decide ((k : Int) < (a0.size : Int)) = false := decide_eq_false (by omega)
     have P1 := Aside0.mk (prefix_space a0 (by omega))
     have P2 := Aside0.mk (suffix_space a0 (by omega) (by omega))
     have hle : Aside0 (lineErr a0 = if a0.data.toList.head? = some 32 ∨ a0.data.toList.getLast? = some 32 then 2 else 0) := ⟨by simp [lineErr, c0, c1, hall]⟩
     clear hok hall c0 c1
     by_cases b1 : a0.data.toList.head? = some 32
     ·have hr : Aside0 (lineErr a0 = 2) := ⟨by rw [hle.out, if_pos (.inl b1)]⟩
      rw [decide_eq_true b1] at P1
      clear b1 P2 hle
      go_wp2_with (go_at_call 106; refine (strings_HasPrefix.calls a0 _ true _ P1.out).mono ?_; rintro e w' ⟨rfl, ⟨nd, rfl⟩⟩)
      go_ret
      exact ⟨by rw [hr.out]; rfl, pw_below_drewN hbel0.out _⟩
     ·rw [decide_eq_false b1] at P1
      by_cases b2 : a0.data.toList.getLast? = some 32
      ·have hr : Aside0 (lineErr a0 = 2) := ⟨by rw [hle.out, if_pos (.inr b2)]⟩
       rw [decide_eq_true b2] at P2
       clear b1 b2 hle
       go_wp2_with (first | (go_at_call 106; refine (strings_HasPrefix.calls a0 _ false _ P1.out).mono ?_; rintro e w' ⟨rfl, ⟨nd, rfl⟩⟩) | (go_at_call 107; refine (strings_HasSuffix.calls a0 _ true _ P2.out).mono ?_; rintro e w' ⟨rfl, ⟨nd2, rfl⟩⟩))
       go_ret
       exact ⟨by rw [hr.out]; rfl, pw_below_drewN hbel0.out _⟩
      ·have hr : Aside0 (lineErr a0 = 0) := ⟨by rw [hle.out, if_neg (by rintro (h | h); exact b1 h; exact b2 h)]⟩
       rw [decide_eq_false b2] at P2
       clear b1 b2 hle
       go_wp2_with (first | (go_at_call 106; refine (strings_HasPrefix.calls a0 _ false _ P1.out).mono ?_; rintro e w' ⟨rfl, ⟨nd, rfl⟩⟩) | (go_at_call 107; refine (strings_HasSuffix.calls a0 _ false _ P2.out).mono ?_; rintro e w' ⟨rfl, ⟨nd2, rfl⟩⟩))
       go_ret
       exact ⟨by rw [hr.out]; rfl, pw_below_drewN hbel0.out _⟩
end Go.Proofs.Ytgmbbfmbimofoaa.P

namespace Go.Proofs.Ytgmbbfmbimofoaa.P
open Go.RowKit Go.Proofs.YtgmbbfmbimofoaaW.PrintWords Go.Proofs.YtgmbbfmbimofoaaW.PrintLast Go.Proofs.YtgmbbfmbimofoaaW.PrintMore
attribute [local go_sem] max2_int min2_int max_two min_two max_three min_three max_four min_four
set_option linter.unusedVariables false
set_option linter.unusedSimpArgs false
def proof_Check.l0 : Nat → List ByteArray → Int → Int → Option (Int)
 | 0, _, _, _ => none
 | k + 1, x9, x10, x11 => if x11 < x10 then (if 0 ≤ x11 then (if x11 < (x9.length : Int) then ((proof_lineError.f (rdOf ByteArray.empty x9 x11)).bind fun t105 => (if t105 = 0 then (proof_Check.l0 k x9 x10 (wrap64 (x11 + 1))) else (some t105))) else (none)) else (none)) else (some 0)
def proof_Check.f (k : Nat) (l0 : List ByteArray) : Option (Int) := if (l0.length : Int) > 6 then (some 6) else (proof_Check.l0 k l0 (l0.length : Int) 0)
set_option maxHeartbeats 8000000 in
set_option maxRecDepth 100000 in
theorem proof_Check.calls (k : Nat) (A0 : Option Addr) (c0 : Nat) (l0 : List ByteArray) (r : Int) (w : World) (hr0 : Kd.C Kd.string w A0 l0.length l0) (hc0 : l0.length ≤ c0) (h : proof_Check.f k l0 = some r) :
  Calls Try.prog 46 #[.slice A0 l0.length c0] w fun e w' => e = .returned (.int .i64 r) ∧ Below w.heap.size w w' := by
 have HR0 := Aside0.mk hr0
 have HC0 := Aside0.mk hc0
 clear hr0 hc0
 have HB := Aside0.mk (Below.refl w.heap.size w)
 have H : (if (l0.length : Int) > 6 then (some 6) else (proof_Check.l0 k l0 (l0.length : Int) 0)) = some r := h
 clear h
 by_cases c2 : (l0.length : Int) > 6
 ·rw [if_pos c2] at H
  have c2b0 : decide (6 < (l0.length : Int)) = true := decide_eq_true c2
  have c2b1 : decide (6 < l0.length) = true := decide_eq_true (by omega)
  clear c2
  obtain rfl := Option.some.inj H
  go_enter Try.func46, Try.ntmps46
  go_wp2
  go_ret
  exact ⟨by first | rfl | (simp [errW_none, errW_some] <;> rfl) | (simp [*, errW_none, errW_some] <;> rfl), by repeat (first | (with_reducible first | exact HB.out | apply below_alloc | apply pw_below_drewN | apply below_drew1) | exact HB.out)⟩
 ·rw [if_neg c2] at H
  have c2b0 : decide (6 < (l0.length : Int)) = false := decide_eq_false c2
  have c2b1 : decide (6 < l0.length) = false := decide_eq_false (by omega)
  clear c2
  have H' := Aside0.mk H
  clear H
  go_enter Try.func46, Try.ntmps46
  go_wp2
  go_loopg [11] k (fun kq v11 w' => ∃ (x11_1 : Int), v11 = .int .i64 x11_1 ∧ Aside0 (proof_Check.l0 kq l0 (l0.length : Int) x11_1 = some r) ∧ Aside0 (kq ≤ k) ∧ Aside0 (Below w.heap.size w w'))
  case atStart => exact ⟨(0), (by first | rfl | (simp; done) | (simp [*]; done)), H', ⟨Nat.le_refl _⟩, ⟨by repeat (first | (with_reducible first | exact HB.out | apply below_alloc | apply pw_below_drewN | apply below_drew1) | exact HB.out)⟩⟩
  case round =>
   clear H'
   try clear c2
   try clear c2b0
   try clear c2b1
   try clear p2
   obtain ⟨x11_1, rfl, HA, HK1, HB⟩ := hrel
   cases gk with
   | zero => exact absurd HA.out (by simp [proof_Check.l0])
   | succ k1 =>
    have H := HA.out
    clear HA
    simp only [proof_Check.l0] at H
    by_cases c3 : x11_1 < (l0.length : Int)
    ·rw [if_pos c3] at H
     have c3b0 : decide (x11_1 < (l0.length : Int)) = true := decide_eq_true c3
     clear c3
     by_cases c4 : 0 ≤ x11_1
     ·rw [if_pos c4] at H
      have c4b0 : decide (0 ≤ x11_1) = true := decide_eq_true c4
      clear c4
      by_cases c5 : x11_1 < (l0.length : Int)
      ·rw [if_pos c5] at H
       have c5b0 : decide (x11_1 < (l0.length : Int)) = true := decide_eq_true c5
       clear c5
       replace H := Option.bind_eq_some_iff.mp H
       obtain ⟨t105, A60, H⟩ := H
       replace H : (if t105 = 0 then (proof_Check.l0 k1 l0 (l0.length : Int) (wrap64 (x11_1 + 1))) else (some t105)) = some r := H
       have A6 := Aside0.mk A60
       clear A60
       by_cases c7 : t105 = 0
       ·rw [if_pos c7] at H
        have c7b0 : (t105 == 0) = true := beq_iff_eq.mpr c7
        have c7b1 : (t105 != 0) = false := bne_eq_false_iff_eq.mpr c7
        clear c7
        have H' := Aside0.mk H
        clear H
        have p104 : 0 ≤ (x11_1 : Int) := of_decide_eq_true (by first | (with_reducible assumption) | assumption)
        have q104 : x11_1 < (l0.length : Int) := of_decide_eq_true (by first | (with_reducible assumption) | assumption)
        obtain ⟨ad104, e104, hx104_0⟩ := Kd.at_string HR0.out x11_1 p104 q104
        cases e104
        replace hx104_0 := (HB.out.cell (World.block_lt_of_cell? w _ hx104_0)).trans hx104_0
        replace p104 := eq_true p104
        replace q104 := eq_true q104
        go_wp2_with (first | ((with_reducible refine gate_callee (f := 82) rfl ?_); refine goesL_ (some 16) rfl rfl Try.func82 (by kernel_rfl) rfl #[.string (rdOf ByteArray.empty l0 x11_1)] rfl (by (try simp only [List.map_toArray, List.map_cons, List.map_nil]); first | done | rfl | (simp only [List.length_drop, List.length_take]; rfl)) ?_; (with_reducible refine (proof_lineError.calls (rdOf ByteArray.empty l0 x11_1) t105 _ A6.out).mono ?_); rintro e w8 ⟨rfl, hb⟩; refine ⟨_, rfl, ?_⟩; have n0_ := Aside0.mk (below_step (by repeat (first | (with_reducible first | exact HB.out | apply below_alloc | apply pw_below_drewN | apply below_drew1) | exact HB.out)) hb); clear HB; have HB := n0_; clear n0_; (try clear hb); (try clear hb2); (try clear hk); (try clear hi)))
        go_roundg k1
        case measure => have := HK1.out; omega
        case rel => exact ⟨(wrap64 (x11_1 + 1)), (by first | rfl | (simp; done) | (simp [*]; done)), H', ⟨by have := HK1.out; omega⟩, ⟨by repeat (first | (with_reducible first | exact HB.out | apply below_alloc | apply pw_below_drewN | apply below_drew1) | exact HB.out)⟩⟩
       ·rw [if_neg c7] at H
        have c7b0 : (t105 == 0) = false := beq_eq_false_iff_ne.mpr c7
        have c7b1 : (t105 != 0) = true := bne_iff_ne.mpr c7
        obtain rfl := Option.some.inj H
        have p104 : 0 ≤ (x11_1 : Int) := of_decide_eq_true (by first | (with_reducible assumption) | assumption)
        have q104 : x11_1 < (l0.length : Int) := of_decide_eq_true (by first | (with_reducible assumption) | assumption)
        obtain ⟨ad104, e104, hx104_0⟩ := Kd.at_string HR0.out x11_1 p104 q104
        cases e104
        replace hx104_0 := (HB.out.cell (World.block_lt_of_cell? w _ hx104_0)).trans hx104_0
        replace p104 := eq_true p104
        replace q104 := eq_true q104
        go_wp2_with (first | ((with_reducible refine gate_callee (f := 82) rfl ?_); refine goesL_ (some 16) rfl rfl Try.func82 (by kernel_rfl) rfl #[.string (rdOf ByteArray.empty l0 x11_1)] rfl (by (try simp only [List.map_toArray, List.map_cons, List.map_nil]); first | done | rfl | (simp only [List.length_drop, List.length_take]; rfl)) ?_; (with_reducible refine (proof_lineError.calls (rdOf ByteArray.empty l0 x11_1) t105 _ A6.out).mono ?_); rintro e w9 ⟨rfl, hb⟩; refine ⟨_, rfl, ?_⟩; have n0_ := Aside0.mk (below_step (by repeat (first | (with_reducible first | exact HB.out | apply below_alloc | apply pw_below_drewN | apply below_drew1) | exact HB.out)) hb); clear HB; have HB := n0_; clear n0_; (try clear hb); (try clear hb2); (try clear hk); (try clear hi)))
        go_ret
        exact ⟨by first | rfl | (simp [errW_none, errW_some] <;> rfl) | (simp [*, errW_none, errW_some] <;> rfl), by repeat (first | (with_reducible first | exact HB.out | apply below_alloc | apply pw_below_drewN | apply below_drew1) | exact HB.out)⟩
      ·rw [if_neg c5] at H
       exact absurd H (by simp)
     ·rw [if_neg c4] at H
      exact absurd H (by simp)
    ·rw [if_neg c3] at H
     have c3b0 : decide (x11_1 < (l0.length : Int)) = false := decide_eq_false c3
     clear c3
     obtain rfl := Option.some.inj H
     go_wp2
     go_ret
     exact ⟨by first | rfl | (simp [errW_none, errW_some] <;> rfl) | (simp [*, errW_none, errW_some] <;> rfl), by repeat (first | (with_reducible first | exact HB.out | apply below_alloc | apply pw_below_drewN | apply below_drew1) | exact HB.out)⟩
end Go.Proofs.Ytgmbbfmbimofoaa.P
