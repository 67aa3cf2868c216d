/- ProofDiffs: whatever the arguments, the law returns true and leaves them as they were: the marks from a page to a page, or the error, are as the reference tells. Conditions: those of the given row alone. -/
import Derived.WalkKit
import Derived.ProofKit
import Derived.OpenShut
import Derived.ShutString
import Derived.ChangeOld
import Derived.Below
import Derived.SizedLaws
import Derived.Test.YtgmbbfmbimofoaaRows
import Derived.Test.YtgmbbfmbimofoaaMh28
import Derived.Test.YtgmbbfmbimofoaaMh29
import Derived.Test.YtgmbbfmbimofoaaMh14
import Derived.Test.YtgmbbfmbimofoaaMh26
namespace Go.Proofs.Ytgmbbfmbimofoaa.proofDiffs
open Go.ChangeShapes Go.WideShapes Go.ChangeAt Go.RowKit
open Go.ChangeMaps (open_string shut_string)
set_option linter.unusedVariables false
theorem own : ownKnob Try.prog.godebug = none := by kernel_rfl
theorem laidOut : laidOutB Try.prog = true := by kernel_rfl
set_option maxRecDepth 100000 in
theorem lifted (os : Os) (started : os.Started) (H : Type) (enc : TypeId × Value → H) :
  ReturnsInHanded {} Try.checked os 3 .any (Rows.proofDiffsSpec.pre6 enc Try.prog Try.f3 Rows.proofDiffsRow.domain false) (Rows.proofDiffsSpec.post enc Try.prog Try.f3 false true false false) := by
 refine returnsInHanded_of_change_sized (C := Try.checked) own started (by kernel_rfl) Try.func3
  (ChangeSpec.witness6 (enc := enc) (C := Try.checked) false ⟨#[], #[.slice none 0 0, .slice none 0 0, .slice none 0 0], []⟩ 8 (by kernel_rfl) (by kernel_rfl) (by kernel_rfl) (by kernel_rfl)) ?_
 intro W base args ds gs before hval0 hW hcnd hsz0 _
 have hsz : (DataW.weightsEach Try.prog (Try.f3.params.toList ++ Rows.proofDiffsSpec.plain.varTypes Try.prog) (ds ++ gs)).all (· ≤ reachBytes) = true := hsz0
 have hval : ∀ (j : Nat) t v, Try.f3.params[j]? = some t → args[j]? = some v → Value.okWide Try.prog W .any base t v := hval0
 have hW' := hW
 obtain ⟨p, q, hA0, hV, rfl, hfz, hnd⟩ := hW
 have hA : DataW.TrodAll enc Try.prog W 0 (fun _ => true) true Try.f3.params.toList args.toList ds p := hA0
 rw [Try.params3] at hA hval hsz
 obtain ⟨v0, vs0, d0, ds0, p0, q0, hargs, rfl, rfl, h0, r0⟩ := trodAll_cons hA
 obtain ⟨v1, vs1, d1, ds1, p1, q1, rfl, rfl, rfl, h1, r1⟩ := trodAll_cons r0
 obtain ⟨v2, vs2, d2, ds2, p2, q2, rfl, rfl, rfl, h2, r2⟩ := trodAll_cons r1
 obtain ⟨rfl, rfl, rfl⟩ := trodAll_nil r2
 obtain rfl : args = #[v0, v1, v2] := by cases args; simp_all
 obtain ⟨rfl, rfl⟩ := trodVars_none hV
 obtain ⟨a0, len0, cap0, rfl⟩ := okWide_slice Try.underlying22 (hval 0 22 v0 rfl rfl)
 have k0 := h0
 have lt0 : ∀ x ∈ p0, x.block < W.heap.size := by obtain ⟨m, hm⟩ := k0; exact DataW.trod_lt m _ _ _ hm
 obtain ⟨xs0, rfl, hle0, hC0⟩ : ∃ xs, len0 = List.length xs ∧ List.length xs ≤ cap0 ∧ Go.Proofs.YtgmbbfmbimofoaaW.PrintWords.Kd.C Go.Proofs.YtgmbbfmbimofoaaW.PrintWords.Kd.string W a0 xs.length xs := by
  obtain ⟨fuel, hf⟩ := h0
  obtain ⟨A, c, xs, hcs, hl, hC⟩ := P.zeI hf
  simp [Value.cells] at hcs
  obtain ⟨rfl, rfl, rfl⟩ := hcs
  exact ⟨xs, rfl, hl, hC⟩
 obtain ⟨a1, len1, cap1, rfl⟩ := okWide_slice Try.underlying22 (hval 1 22 v1 rfl rfl)
 have k1 := h1
 have lt1 : ∀ x ∈ p1, x.block < W.heap.size := by obtain ⟨m, hm⟩ := k1; exact DataW.trod_lt m _ _ _ hm
 obtain ⟨xs1, rfl, hle1, hC1⟩ : ∃ xs, len1 = List.length xs ∧ List.length xs ≤ cap1 ∧ Go.Proofs.YtgmbbfmbimofoaaW.PrintWords.Kd.C Go.Proofs.YtgmbbfmbimofoaaW.PrintWords.Kd.string W a1 xs.length xs := by
  obtain ⟨fuel, hf⟩ := h1
  obtain ⟨A, c, xs, hcs, hl, hC⟩ := P.zeI hf
  simp [Value.cells] at hcs
  obtain ⟨rfl, rfl, rfl⟩ := hcs
  exact ⟨xs, rfl, hl, hC⟩
 obtain ⟨a2, len2, cap2, rfl⟩ := okWide_slice Try.underlying23 (hval 2 23 v2 rfl rfl)
 have k2 := h2
 have lt2 : ∀ x ∈ p2, x.block < W.heap.size := by obtain ⟨m, hm⟩ := k2; exact DataW.trod_lt m _ _ _ hm
 have y2 : len2 * 8 ≤ 140737488351232 := Go.Proofs.YtgmbbfmbimofoaaW.PrintWords.zgO hsz (j := 2) (t := 23) rfl rfl Try.underlying23 Try.underlying3 (by kernel_rfl) (by kernel_rfl) h2
 obtain ⟨xs2, rfl, hle2, hC2⟩ : ∃ xs, len2 = List.length xs ∧ List.length xs ≤ cap2 ∧ Go.Proofs.YtgmbbfmbimofoaaW.PrintWords.Kd.C (Go.Proofs.YtgmbbfmbimofoaaW.PrintWords.Kd.int .i64) W a2 xs.length xs := by
  obtain ⟨fuel, hf⟩ := h2
  obtain ⟨A, c, xs, hcs, hl, hC⟩ := P.zgN hf
  simp [Value.cells] at hcs
  obtain ⟨rfl, rfl, rfl⟩ := hcs
  exact ⟨xs, rfl, hl, hC⟩
 clear hA0 hval0 hsz0 hsz
 refine (P.zf9 a0 cap0 xs0 a1 cap1 xs1 a2 cap2 xs2 W hC0 hle0 hC1 hle1 hC2 hle2 y2).mono fun e W' ⟨he, bel⟩ => ?_
 subst he
 exact ⟨_, rfl, _, _, _, [], _, [], hW', trodAll_mk1 (shut_bool Try.underlying4 _), (trodAll_cons_mk (Below.trod laidOut (by kernel_rfl) (of_decide_eq_true (by kernel_rfl)) k0 bel lt0) (trodAll_cons_mk (Below.trod laidOut (by kernel_rfl) (of_decide_eq_true (by kernel_rfl)) k1 bel lt1) (trodAll_cons_mk (Below.trod laidOut (by kernel_rfl) (of_decide_eq_true (by kernel_rfl)) k2 bel lt2) trodAll_mk0))), rfl, bel.frame _, fun h => by cases h⟩
theorem over : Rows.proofDiffsRow.holds Try.pinned (OpenSpec.ofChange Rows.proofDiffsSpec) :=
 OpenClaim.holds_of_wide_leaving 3 Try.f3 rfl rfl rfl rfl rfl rfl rfl ⟨rfl, rfl, rfl, rfl, rfl⟩ rfl rfl rfl rfl rfl (by kernel_rfl) Try.func3 (by kernel_rfl)
  (of_decide_eq_true (by kernel_rfl)) (by unfold Func.isWrapper; first | (rw [if_pos (by decide +kernel)]; kernel_rfl) | (rw [if_neg (by decide +kernel)]; exact ⟨rfl, rfl⟩))
  (fun os started H enc _ => P.zeo (lifted os started H enc))
theorem proved : Rows.ProofDiffsSaid := over
#print axioms proved
end Go.Proofs.Ytgmbbfmbimofoaa.proofDiffs
namespace Go.Proofs.Ytgmbbfmbimofoaa
theorem proofDiffs_holds : Rows.ProofDiffsSaid := proofDiffs.proved
end Go.Proofs.Ytgmbbfmbimofoaa
