-- MERGED BY A PROGRAM out of texts of this claim: hand work, and what a (turned) print of the kit has written for it
import Derived.Test.YtgmbbfmbimofoaaMj5
namespace Go.Proofs.Ytgmbbfmbimofoaa.P
open Go.RowKit Go.Proofs.YtgmbbfmbimofoaaW.PrintWords Go.Proofs.YtgmbbfmbimofoaaW.PrintLast Go.Proofs.YtgmbbfmbimofoaaW.PrintMore
attribute [local go_sem] zO zN zT zS zI zJ zP zQ
set_option linter.unusedVariables false
set_option linter.unusedSimpArgs false
theorem zbi {w w' : World} (hb : Below w.heap.size w w') (g : Nat) : zq w w' g none := ⟨hb.size,fun i hi _ _ => hb.block i hi⟩
theorem zbD {w W : World} {g : Nat} {P : World → Prop} (h : ∀ W',zq w W' g none → P W') (hk : zq w W g none) : ∀ W',zq W W' g none → P W' := fun W' hk' => h W' (hk.trans hk' (.inl rfl))
theorem zco {W : World} {g : Nat} {P : World → Prop} (h : ∀ W',zq W W' g none → P W') : P W := h W (zq.refl W g none)
theorem zfz {α : Type} {d : Kd α} {e base g : Nat} {ok : Nat → Prop} {W : World} {v : Value} {xs : List α} (h : d.R e W base ok v xs) (hg : g < base) :
  ∃ A c,v = .slice A xs.length c ∧ xs.length ≤ c ∧ ∀ W',zq W W' g none → d.C W' A xs.length xs := by
 obtain ⟨A,c,rfl,hl,_⟩ := Kd.zaG h
 exact ⟨A,c,rfl,hl,Kd.zhS (Kd.zbn h) (fun k hk => by omega)⟩
end Go.Proofs.Ytgmbbfmbimofoaa.P
