-- MERGED BY A PROGRAM out of texts of this claim: hand work, and what a (turned) print of the kit has written for it
import Derived.Test.YtgmbbfmbimofoaaMi5
namespace Go.Proofs.Ytgmbbfmbimofoaa.P
open Go.RowKit Go.Proofs.YtgmbbfmbimofoaaW.PrintWords Go.Proofs.YtgmbbfmbimofoaaW.PrintLast Go.Proofs.YtgmbbfmbimofoaaW.PrintMore
attribute [local go_sem] zM zN zV zU zI zH zO zP
set_option linter.unusedVariables false
set_option linter.unusedSimpArgs false
theorem zdo {w w' : World} (hb : Below w.heap.size w w') (g : Nat) : zu w w' g none := ⟨hb.size,fun i hi _ _ => hb.block i hi⟩
theorem zfq {w W : World} {g : Nat} {P : World → Prop} (h : ∀ W',zu w W' g none → P W') (hk : zu w W g none) : ∀ W',zu W W' g none → P W' := fun W' hk' => h W' (hk.trans hk' (.inl rfl))
theorem ze1 {W : World} {g : Nat} {P : World → Prop} (h : ∀ W',zu W W' g none → P W') : P W := h W (zu.refl W g none)
theorem zhD {α : Type} {d : Kd α} {e base g : Nat} {ok : Nat → Prop} {W : World} {v : Value} {xs : List α} (h : d.R e W base ok v xs) (hg : g < base) :
  ∃ A c,v = .slice A xs.length c ∧ xs.length ≤ c ∧ ∀ W',zu W W' g none → d.C W' A xs.length xs := by
 obtain ⟨A,c,rfl,hl,_⟩ := Kd.zav h
 exact ⟨A,c,rfl,hl,Kd.ziU (Kd.zbv h) (fun k hk => by omega)⟩
end Go.Proofs.Ytgmbbfmbimofoaa.P
