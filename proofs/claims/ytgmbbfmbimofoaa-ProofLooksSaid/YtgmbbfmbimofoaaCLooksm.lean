/- ProofLooks: whatever the arguments, the law returns true and leaves them as they were: the first flaw of a proof, or the error, is the reference's, and nothing is changed. Conditions: those of the given row alone. -/
import Derived.WalkKit
import Derived.ProofKit
import Derived.OpenShut
import Derived.ShutString
import Derived.ChangeOld
import Derived.Below
import Derived.SizedLaws
import Derived.Test.YtgmbbfmbimofoaaRows
import Derived.Test.YtgmbbfmbimofoaaMi30
import Derived.Test.YtgmbbfmbimofoaaMi29
import Derived.Test.YtgmbbfmbimofoaaMi12
import Derived.Test.YtgmbbfmbimofoaaMi27
namespace Go.Proofs.Ytgmbbfmbimofoaa.proofLooks
open Go.ChangeShapes Go.WideShapes Go.ChangeAt Go.RowKit
open Go.ChangeMaps (open_string shut_string)
set_option linter.unusedVariables false
theorem own : ownKnob Try.prog.godebug = none := by kernel_rfl
theorem laidOut : laidOutB Try.prog = true := by kernel_rfl
set_option maxRecDepth 100000 in
theorem lifted (os : Os) (started : os.Started) (H : Type) (enc : TypeId × Value → H) :
  ReturnsInHanded {} Try.checked os 5 .any (Rows.proofLooksSpec.pre6 enc Try.prog Try.f5 Rows.proofLooksRow.domain false) (Rows.proofLooksSpec.post enc Try.prog Try.f5 false true false false) := by
 refine returnsInHanded_of_change_sized (C := Try.checked) own started (by kernel_rfl) Try.func5
  (ChangeSpec.witness6 (enc := enc) (C := Try.checked) false ⟨#[],#[.slice none 0 0, .slice none 0 0, .slice none 0 0, .slice none 0 0],[]⟩ 8 (by kernel_rfl) (by kernel_rfl) (by kernel_rfl) (by kernel_rfl)) ?_
 intro W base args ds gs before hval0 hW hcnd hsz0 _
 have hsz : (DataW.weightsEach Try.prog (Try.f5.params.toList ++ Rows.proofLooksSpec.plain.varTypes Try.prog) (ds ++ gs)).all (· ≤ reachBytes) = true := hsz0
 have hval : ∀ (j : Nat) t v,Try.f5.params[j]? = some t → args[j]? = some v → Value.okWide Try.prog W .any base t v := hval0
 have hW' := hW
 obtain ⟨p,q,hA0,hV,rfl,hfz,hnd⟩ := hW
 have hA : DataW.TrodAll enc Try.prog W 0 (fun _ => true) true Try.f5.params.toList args.toList ds p := hA0
 rw [Try.params5] at hA hval hsz
 obtain ⟨v0,vs0,d0,ds0,p0,q0,hargs,rfl,rfl,h0,r0⟩ := trodAll_cons hA
 obtain ⟨v1,vs1,d1,ds1,p1,q1,rfl,rfl,rfl,h1,r1⟩ := trodAll_cons r0
 obtain ⟨v2,vs2,d2,ds2,p2,q2,rfl,rfl,rfl,h2,r2⟩ := trodAll_cons r1
 obtain ⟨v3,vs3,d3,ds3,p3,q3,rfl,rfl,rfl,h3,r3⟩ := trodAll_cons r2
 obtain ⟨rfl,rfl,rfl⟩ := trodAll_nil r3
 obtain rfl : args = #[v0,v1,v2,v3] := by cases args; simp_all
 obtain ⟨rfl,rfl⟩ := trodVars_none hV
 obtain ⟨a0,len0,cap0,rfl⟩ := okWide_slice Try.underlying29 (hval 0 29 v0 rfl rfl)
 have k0 := h0
 have lt0 : ∀ x ∈ p0,x.block < W.heap.size := by obtain ⟨m,hm⟩ := k0; exact DataW.trod_lt m _ _ _ hm
 obtain ⟨xs0,rfl,hle0,hC0⟩ : ∃ xs,len0 = List.length xs ∧ List.length xs ≤ cap0 ∧ Go.Proofs.YtgmbbfmbimofoaaW.PrintWords.Kd.C (Go.Proofs.YtgmbbfmbimofoaaW.PrintWords.Kd.slice 9 Go.Proofs.YtgmbbfmbimofoaaW.PrintWords.Kd.string) W a0 xs.length xs := by
  obtain ⟨fuel,hf⟩ := h0
  obtain ⟨A,c,xs,hcs,hl,hC⟩ := P.zh2 hf
  simp [Value.cells] at hcs
  obtain ⟨rfl,rfl,rfl⟩ := hcs
  exact ⟨xs,rfl,hl,hC⟩
 obtain ⟨a1,len1,cap1,rfl⟩ := okWide_slice Try.underlying31 (hval 1 31 v1 rfl rfl)
 have k1 := h1
 have lt1 : ∀ x ∈ p1,x.block < W.heap.size := by obtain ⟨m,hm⟩ := k1; exact DataW.trod_lt m _ _ _ hm
 obtain ⟨xs1,rfl,hle1,hC1⟩ : ∃ xs,len1 = List.length xs ∧ List.length xs ≤ cap1 ∧ Go.Proofs.YtgmbbfmbimofoaaW.PrintWords.Kd.C P.k63 W a1 xs.length xs := by
  obtain ⟨fuel,hf⟩ := h1
  obtain ⟨A,c,xs,hcs,hl,hC⟩ := P.zhW hf
  simp [Value.cells] at hcs
  obtain ⟨rfl,rfl,rfl⟩ := hcs
  exact ⟨xs,rfl,hl,hC⟩
 obtain ⟨a2,len2,cap2,rfl⟩ := okWide_slice Try.underlying22 (hval 2 22 v2 rfl rfl)
 have k2 := h2
 have lt2 : ∀ x ∈ p2,x.block < W.heap.size := by obtain ⟨m,hm⟩ := k2; exact DataW.trod_lt m _ _ _ hm
 obtain ⟨xs2,rfl,hle2,hC2⟩ : ∃ xs,len2 = List.length xs ∧ List.length xs ≤ cap2 ∧ Go.Proofs.YtgmbbfmbimofoaaW.PrintWords.Kd.C Go.Proofs.YtgmbbfmbimofoaaW.PrintWords.Kd.string W a2 xs.length xs := by
  obtain ⟨fuel,hf⟩ := h2
  obtain ⟨A,c,xs,hcs,hl,hC⟩ := P.zgn hf
  simp [Value.cells] at hcs
  obtain ⟨rfl,rfl,rfl⟩ := hcs
  exact ⟨xs,rfl,hl,hC⟩
 obtain ⟨a3,len3,cap3,rfl⟩ := okWide_slice Try.underlying23 (hval 3 23 v3 rfl rfl)
 have k3 := h3
 have lt3 : ∀ x ∈ p3,x.block < W.heap.size := by obtain ⟨m,hm⟩ := k3; exact DataW.trod_lt m _ _ _ hm
 have y3 : len3 * 8 ≤ 140737488351232 := Go.Proofs.YtgmbbfmbimofoaaW.PrintWords.ziC hsz (j := 3) (t := 23) rfl rfl Try.underlying23 Try.underlying3 (by kernel_rfl) (by kernel_rfl) h3
 obtain ⟨xs3,rfl,hle3,hC3⟩ : ∃ xs,len3 = List.length xs ∧ List.length xs ≤ cap3 ∧ Go.Proofs.YtgmbbfmbimofoaaW.PrintWords.Kd.C (Go.Proofs.YtgmbbfmbimofoaaW.PrintWords.Kd.int .i64) W a3 xs.length xs := by
  obtain ⟨fuel,hf⟩ := h3
  obtain ⟨A,c,xs,hcs,hl,hC⟩ := P.ziM hf
  simp [Value.cells] at hcs
  obtain ⟨rfl,rfl,rfl⟩ := hcs
  exact ⟨xs,rfl,hl,hC⟩
 clear hA0 hval0 hsz0 hsz
 refine (P.zh1 a0 cap0 xs0 a1 cap1 xs1 a2 cap2 xs2 a3 cap3 xs3 W hC0 hle0 hC1 hle1 hC2 hle2 hC3 hle3 y3).mono fun e W' ⟨he,bel⟩ => ?_
 subst he
 exact ⟨_,rfl,_,_,_,[],_,[],hW',trodAll_mk1 (shut_bool Try.underlying4 _),(trodAll_cons_mk (Below.trod laidOut (by kernel_rfl) (of_decide_eq_true (by kernel_rfl)) k0 bel lt0) (trodAll_cons_mk (Below.trod laidOut (by kernel_rfl) (of_decide_eq_true (by kernel_rfl)) k1 bel lt1) (trodAll_cons_mk (Below.trod laidOut (by kernel_rfl) (of_decide_eq_true (by kernel_rfl)) k2 bel lt2) (trodAll_cons_mk (Below.trod laidOut (by kernel_rfl) (of_decide_eq_true (by kernel_rfl)) k3 bel lt3) trodAll_mk0)))),rfl,bel.frame _,fun h => by cases h⟩
theorem over : Rows.proofLooksRow.holds Try.pinned (OpenSpec.ofChange Rows.proofLooksSpec) :=
 OpenClaim.holds_of_wide_leaving 5 Try.f5 rfl rfl rfl rfl rfl rfl rfl ⟨rfl,rfl,rfl,rfl,rfl⟩ rfl rfl rfl rfl rfl (by kernel_rfl) Try.func5 (by kernel_rfl)
  (of_decide_eq_true (by kernel_rfl)) (by unfold Func.isWrapper; first | (rw [if_pos (by decide +kernel)]; kernel_rfl) | (rw [if_neg (by decide +kernel)]; exact ⟨rfl,rfl⟩))
  (fun os started H enc _ => P.zfK (lifted os started H enc))
theorem proved : Rows.ProofLooksSaid := over
#print axioms proved
end Go.Proofs.Ytgmbbfmbimofoaa.proofLooks
namespace Go.Proofs.Ytgmbbfmbimofoaa
theorem proofLooks_holds : Rows.ProofLooksSaid := proofLooks.proved
end Go.Proofs.Ytgmbbfmbimofoaa
