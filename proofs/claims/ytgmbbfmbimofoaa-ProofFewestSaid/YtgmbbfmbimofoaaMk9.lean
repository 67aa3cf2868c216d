-- MERGED BY A PROGRAM out of texts of this claim: hand work, and what a (turned) print of the kit has written for it
import Derived.IntWalk
import Derived.Outline
import Derived.Deep.DeepCutAuto
import Derived.Deep.CutBlock
import Derived.Test.YtgmbbfmbimofoaaMk5
namespace Go.Proofs.Ytgmbbfmbimofoaa.P
open Go.RowKit Go.Proofs.YtgmbbfmbimofoaaW.PrintWords Go.Proofs.YtgmbbfmbimofoaaW.PrintLast Go.Proofs.YtgmbbfmbimofoaaW.PrintMore
attribute [local go_sem] zH zI zP zO zC zB zJ zK
set_option linter.unusedVariables false
set_option linter.unusedSimpArgs false
structure SIn (w : World) (base : Nat) (A0 : Option Addr) (c0 : Nat) (ms : List S63) (vd : Value) (done : List Int) : Prop where
 rm : k63.C w A0 ms.length ms
 hm : ms.length ≤ c0
 rd : (Kd.int .i64).R 3 w base (fun _ => True) vd done
 hb : base ≤ w.heap.size
theorem SIn.below {w w' : World} {base : Nat} {A0 : Option Addr} {c0 : Nat} {ms : List S63} {vd : Value} {done : List Int} (h : SIn w base A0 c0 ms vd done) (hb : Below w.heap.size w w') : SIn w' base A0 c0 ms vd done :=
 ⟨Kd.zU h.rm hb,h.hm,Kd.zD h.rd hb,Nat.le_trans h.hb hb.size⟩
end Go.Proofs.Ytgmbbfmbimofoaa.P
