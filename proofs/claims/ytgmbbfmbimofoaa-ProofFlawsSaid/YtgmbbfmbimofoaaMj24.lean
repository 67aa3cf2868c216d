-- MERGED BY A PROGRAM out of texts of this claim: hand work, and what a (turned) print of the kit has written for it
import Derived.IntWalk
import Derived.Outline
import Derived.Deep.DeepCutAuto
import Derived.Deep.CutBlock
import Derived.Test.YtgmbbfmbimofoaaMj23
import Derived.Test.YtgmbbfmbimofoaaMj5
import Derived.Test.YtgmbbfmbimofoaaMj22
import Derived.Test.YtgmbbfmbimofoaaMj12
import Derived.Test.YtgmbbfmbimofoaaMj8
import Derived.Test.YtgmbbfmbimofoaaMj9
namespace Go.Proofs.Ytgmbbfmbimofoaa.P
open Go.RowKit Go.Proofs.YtgmbbfmbimofoaaW.PrintWords Go.Proofs.YtgmbbfmbimofoaaW.PrintLast Go.Proofs.YtgmbbfmbimofoaaW.PrintMore
attribute [local go_sem] zO zN zT zS zI zJ zP zQ
set_option linter.unusedVariables false
set_option linter.unusedSimpArgs false
structure DIn (w : World) (A0 : Option Addr) (c0 : Nat) (a : List ByteArray) (A1 : Option Addr) (c1 : Nat) (b : List ByteArray) : Prop where
 ra : Kd.string.C w A0 a.length a
 ha : a.length ≤ c0
 rb : Kd.string.C w A1 b.length b
 hb : b.length ≤ c1
theorem DIn.below {w w' : World} {A0 : Option Addr} {c0 : Nat} {a : List ByteArray} {A1 : Option Addr} {c1 : Nat} {b : List ByteArray} (h : DIn w A0 c0 a A1 c1 b) (hb : Below w.heap.size w w') : DIn w' A0 c0 a A1 c1 b :=
 ⟨Kd.zX h.ra hb,h.ha,Kd.zX h.rb hb,h.hb⟩
structure Cmp {α : Type} (c : α → α → Int) : Prop where
 neg : ∀ x y,c y x = - c x y
 tr : ∀ x y z,c x y ≤ 0 → c y z ≤ 0 → c x z ≤ 0
 eq : ∀ x y,c x y = 0 → x = y
def lx (a b : Int) : Int := if a = 0 then b else a
theorem Cmp.inj {α β : Type} {c : β → β → Int} (h : Cmp c) (f : α → β) (hf : ∀ x y,f x = f y → x = y) : Cmp (fun x y => c (f x) (f y)) where
 neg := fun x y => h.neg _ _
 tr := fun x y z => h.tr _ _ _
 eq := fun x y e => hf _ _ (h.eq _ _ e)
end Go.Proofs.Ytgmbbfmbimofoaa.P
