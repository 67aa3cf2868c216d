-- MERGED BY A PROGRAM out of texts of this claim: hand work, and what a (turned) print of the kit has written for it
import Derived.Conc.Holds
import Derived.ClaimOpenTies
import Derived.Handed
import Derived.Test.YtgmbbfmbimofoaaMk5
namespace Go.Proofs.Ytgmbbfmbimofoaa.P
open Go.RowKit Go.Proofs.YtgmbbfmbimofoaaW.PrintWords Go.Proofs.YtgmbbfmbimofoaaW.PrintLast Go.Proofs.YtgmbbfmbimofoaaW.PrintMore
attribute [local go_sem] zH zI zP zO zC zB zJ zK
set_option linter.unusedVariables false
set_option linter.unusedSimpArgs false
theorem zeZ {P : Program} {m : Machine} {w : World} {t : Trace} (h : aloneAtReturn P m w t) : leavingAtReturn P m w t := by
 obtain ⟨⟨h1,h2⟩,h3,h4⟩ := h
 refine ⟨h3,⟨fun g hg => ⟨0,?_⟩,h2⟩,h4⟩
 unfold Machine.othersDone at h1
 have := List.all_eq_true.1 h1 g hg
 exact eq_of_beq this
theorem zeM {a : Assume} {C : Checked} {os : Os} {f : FuncId} {r : Reach} {Pre : World → Array Value → Prop} {Post : World → Array Value → Value → World → Prop} (h : ReturnsInHanded a C os f r Pre Post) : ReturnsInLeavingWide a C os f r Pre Post :=
 fun e => ReturnsInOpen.mono (fun _ _ _ hq => zeZ hq) (fun _ ha => ha) (h e)
end Go.Proofs.Ytgmbbfmbimofoaa.P
