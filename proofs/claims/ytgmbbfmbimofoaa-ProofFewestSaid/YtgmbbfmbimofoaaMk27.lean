-- MERGED BY A PROGRAM out of texts of this claim: hand work, and what a (turned) print of the kit has written for it
import Derived.Deep.Slices
import Derived.Deep.Strs
import Derived.ChangeSame
import Derived.ChangeArms
import Derived.DataReads
import Derived.Test.YtgmbbfmbimofoaaMk5
namespace Go.Proofs.Ytgmbbfmbimofoaa.P
open Go.RowKit Go.Proofs.YtgmbbfmbimofoaaW.PrintWords Go.Proofs.YtgmbbfmbimofoaaW.PrintLast Go.Proofs.YtgmbbfmbimofoaaW.PrintMore
attribute [local go_sem] zH zI zP zO zC zB zJ zK
set_option linter.unusedVariables false
set_option linter.unusedSimpArgs false
open Go.Deep
section
variable {H : Type} {enc : TypeId × Value → H} {w : World} {base : Nat} {spare : Nat → Bool} {held : Bool} {fuel : Nat} {cs : List Value} {x : DataW H × List MemPlace}
instance : Inhabited S63 := ⟨⟨0,0,ByteArray.empty⟩⟩
end
end Go.Proofs.Ytgmbbfmbimofoaa.P
