-- MERGED BY A PROGRAM out of texts of this claim: hand work, and what a (turned) print of the kit has written for it
import Derived.Laws.IdiomStrings
import Derived.Lib.IndexBytes
import Derived.Outline
import Derived.WalkLawsBesides
import Derived.WalkSpells
import Derived.Laws.EntriesVeiled
import Derived.Test.YtgmbbfmbimofoaaMk5
import Derived.Test.YtgmbbfmbimofoaaMk11
namespace Go.Proofs.Ytgmbbfmbimofoaa.P
open Go.RowKit Go.Proofs.YtgmbbfmbimofoaaW.PrintWords Go.Proofs.YtgmbbfmbimofoaaW.PrintLast Go.Proofs.YtgmbbfmbimofoaaW.PrintMore
attribute [local go_sem] zH zI zP zO zC zB zJ zK
set_option linter.unusedVariables false
set_option linter.unusedSimpArgs false
def zdM : Obj := .map #[{ key := .int .i64 1,val := .func (.func 122) #[] #[],born := 0 }, { key := .int .i64 2,val := .func (.func 123) #[] #[],born := 1 }, { key := .int .i64 3,val := .func (.func 124) #[] #[],born := 2 }] 3
set_option maxHeartbeats 8000000 in
set_option maxRecDepth 100000 in
theorem zgA (w : World) :
  Calls Try.prog 105 #[] w fun e w' => e = .returned (.map (some w.heap.size)) ∧ w' = w.alloc zdM := by
 have hmm := @run_makeMap Try.prog
 have u1 : (Instr.mapUpdate 147 (.map (some w.heap.size)) (.int .i64 1) (.func (.func 122) #[] #[])).run Try.prog (w.alloc (.map #[] 0)) = .ok () (w.alloc (.map #[{ key := .int .i64 1,val := .func (.func 122) #[] #[],born := 0 }] 1)) := by
  refine (zce Try.underlying147 (heap_alloc_new w _) (MapKept.run_checkKey Try.underlying3 qA _ _) (MapKept.run_findKey Try.underlying3 qA)).trans ?_
  rw [zdC]
  rfl
 have u2 : (Instr.mapUpdate 147 (.map (some w.heap.size)) (.int .i64 2) (.func (.func 123) #[] #[])).run Try.prog (w.alloc (.map #[{ key := .int .i64 1,val := .func (.func 122) #[] #[],born := 0 }] 1)) = .ok () (w.alloc (.map #[{ key := .int .i64 1,val := .func (.func 122) #[] #[],born := 0 }, { key := .int .i64 2,val := .func (.func 123) #[] #[],born := 1 }] 2)) := by
  refine (zce Try.underlying147 (heap_alloc_new w _) (MapKept.run_checkKey Try.underlying3 qA _ _) (MapKept.run_findKey Try.underlying3 qA)).trans ?_
  rw [zdC]
  rfl
 have u3 : (Instr.mapUpdate 147 (.map (some w.heap.size)) (.int .i64 3) (.func (.func 124) #[] #[])).run Try.prog (w.alloc (.map #[{ key := .int .i64 1,val := .func (.func 122) #[] #[],born := 0 }, { key := .int .i64 2,val := .func (.func 123) #[] #[],born := 1 }] 2)) = .ok () (w.alloc zdM) := by
  refine (zce Try.underlying147 (heap_alloc_new w _) (MapKept.run_checkKey Try.underlying3 qA _ _) (MapKept.run_findKey Try.underlying3 qA)).trans ?_
  rw [zdC]
  rfl
 go_enter Try.func105,Try.ntmps105
 go_wp2
 go_ret
 exact ⟨rfl,rfl⟩
end Go.Proofs.Ytgmbbfmbimofoaa.P
