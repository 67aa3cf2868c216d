-- MERGED BY A PROGRAM out of texts of this claim: hand work, and what a (turned) print of the kit has written for it
import Derived.Outline
import Derived.Lib.LazyBuf
import Derived.Test.YtgmbbfmbimofoaaMk8
namespace Go.Proofs.Ytgmbbfmbimofoaa.P
open Go.RowKit Go.Proofs.YtgmbbfmbimofoaaW.PrintWords Go.Proofs.YtgmbbfmbimofoaaW.PrintLast Go.Proofs.YtgmbbfmbimofoaaW.PrintMore
attribute [local go_sem] zH zI zP zO zC zB zJ zK
set_option linter.unusedVariables false
set_option linter.unusedSimpArgs false
theorem zir (w : World) (a : Option Addr) (l c : Nat) : (binOp .eql 23 (.slice a l c) (.slice none 0 0)).run Try.prog w = .ok (.bool a.isNone) w := run_eql_slice_nil w 23 3 a l c Try.underlying23
set_option maxHeartbeats 2000000 in
set_option maxRecDepth 100000 in
theorem zeO (A : Option Addr) (c : Nat) (l : List Int) (w : World) (hr : Kd.C (Kd.int .i64) w A l.length l) (hc : l.length ≤ c) (hl : l.length < 1000) :
  Calls Try.prog 102 #[.slice A l.length c] w fun e w' => ∃ v : Value,e = .returned v ∧ Kd.R (Kd.int .i64) 3 w' w.heap.size (fun _ => True) v l ∧ Below w.heap.size w w' := by
 have HR := za.mk hr
 have HC := za.mk hc
 clear hr hc
 rcases A with _ | ad
 ·have h0 : l = [] := by
   have h := HR.out.2.2
   rcases Nat.eq_zero_or_pos l.length with h0 | h0
   ·exact List.eq_nil_of_length_eq_zero h0
   ·obtain ⟨ad,h',_⟩ := h h0
    cases h'
  subst h0
  have he : (binOp .eql 23 (.slice none 0 c) (.slice none 0 0)).run Try.prog w = .ok (.bool true) w := zir w none 0 c
  go_enter Try.func102,Try.ntmps102
  go_wp2_with fail
  go_ret
  exact ⟨_,rfl,Kd.zbG _ _ _ _ _,Below.refl _ _⟩
 ·have he : (binOp .eql 23 (.slice (some ad) l.length c) (.slice none 0 0)).run Try.prog w = .ok (.bool false) w := zir w (some ad) l.length c
  go_enter Try.func102,Try.ntmps102
  have ho : (w.alloc (.cells #[] 3)).ownsRow w.heap.size 3 1 (.slice (some ⟨w.heap.size,0,none⟩) 0 0) 0 [] := ⟨rfl, .inr ⟨w.heap.size,0,#[],rfl,Nat.le_refl _,heap_alloc_new w _,Nat.le_refl _,by decide,rfl,rfl⟩⟩
  go_wp2_with ((with_reducible refine za1 (b := .append) (xs := #[.tmp 5, .tmp 6]) rfl ?_); at_builtin; refine Kd.zdi (Kd.int .i64) (w0 := w) (W := w.alloc (.cells #[] 3)) w.heap.size rfl (.tmp 5) (.tmp 6) 23 3 (.int .i64 0) 8 rfl Try.underlying23 info3 rfl qq qq (.slice (some ⟨w.heap.size,0,none⟩) 0 0) [] l (some ad) l.length c (fun _ => True) (fun _ => False) rfl rfl (Kd.zdy ho (fun _ _ => trivial)) (Kd.zU HR.out (ze (Below.refl _ _) _)) (fun _ _ h => h) (fun _ h => h.elim) (fun _ _ => trivial) (ze (Below.refl _ _) _) (ze (Below.refl w.heap.size w) _).size qI ?_; intro v1 w1 hr1 hb1 hg1 hat1)
  go_ret
  exact ⟨_,rfl,hr1,hb1⟩
end Go.Proofs.Ytgmbbfmbimofoaa.P
