-- MERGED BY A PROGRAM out of texts of this claim: hand work, and what a (turned) print of the kit has written for it
import Derived.Test.YtgmbbfmbimofoaaMh5
namespace Go.Proofs.Ytgmbbfmbimofoaa.P
open Go.RowKit Go.Proofs.YtgmbbfmbimofoaaW.PrintWords Go.Proofs.YtgmbbfmbimofoaaW.PrintLast Go.Proofs.YtgmbbfmbimofoaaW.PrintMore
attribute [local go_sem] zI zM zO zP zC zD zK zJ
set_option linter.unusedVariables false
set_option linter.unusedSimpArgs false
theorem zc7 {w w' : World} (hb : Below w.heap.size w w') (g : Nat) : zH w w' g none := ⟨hb.size, fun i hi _ _ => hb.block i hi⟩
theorem zdC {w W : World} {g : Nat} {P : World → Prop} (h : ∀ W', zH w W' g none → P W') (hk : zH w W g none) : ∀ W', zH W W' g none → P W' := fun W' hk' => h W' (hk.trans hk' (.inl rfl))
theorem zeF {W : World} {g : Nat} {P : World → Prop} (h : ∀ W', zH W W' g none → P W') : P W := h W (zH.refl W g none)
theorem zg6 {α : Type} {d : Kd α} {e base g : Nat} {ok : Nat → Prop} {W : World} {v : Value} {xs : List α} (h : d.R e W base ok v xs) (hg : g < base) :
  ∃ A c, v = .slice A xs.length c ∧ xs.length ≤ c ∧ ∀ W', zH W W' g none → d.C W' A xs.length xs := by
 obtain ⟨A, c, rfl, hl, _⟩ := Kd.zaa h
 exact ⟨A, c, rfl, hl, Kd.zgu (Kd.zbd h) (fun k hk => by omega)⟩
end Go.Proofs.Ytgmbbfmbimofoaa.P
