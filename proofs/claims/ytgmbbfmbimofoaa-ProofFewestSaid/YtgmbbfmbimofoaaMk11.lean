-- MERGED BY A PROGRAM out of texts of this claim: hand work, and what a (turned) print of the kit has written for it
import Derived.RangeFuncRecord
import Derived.WideKeyRuns
import Derived.MapKept
import Derived.DeepKeys3
import Derived.Test.YtgmbbfmbimofoaaMk5
namespace Go.Proofs.Ytgmbbfmbimofoaa.P
open Go.RowKit Go.Proofs.YtgmbbfmbimofoaaW.PrintWords Go.Proofs.YtgmbbfmbimofoaaW.PrintLast Go.Proofs.YtgmbbfmbimofoaaW.PrintMore
attribute [local go_sem] zH zI zP zO zC zB zJ zK
set_option linter.unusedVariables false
set_option linter.unusedSimpArgs false
section maps
variable {Pg : Program} {w : World}
theorem zdp {r : Nat} {es : Array MapEntry} {clock : Nat} (hb : w.heap[r]? = some (.map es clock)) : (getObj r).run Pg w = .ok (.map es clock) w := by
 simp [getObj,Sem.run,hb]
theorem ze8 {r : Nat} {es : Array MapEntry} {clock : Nat} (o : Obj) (hb : w.heap[r]? = some (.map es clock)) : (setObj r o).run Pg w = .ok () (w.putObj r o) := by
 simp [setObj,Sem.run,hb,World.putObj]
theorem zce {t k e : TypeId} {r : Nat} {es : Array MapEntry} {clock : Nat} {key val : Value} (ht : Pg.underlying t = some (.map k e)) (hb : w.heap[r]? = some (.map es clock))
  (hck : (Instr.checkKey false 10000 k key).run Pg w = .ok () w) (hf : (Instr.findKey k key es.toList).run Pg w = .ok none w) :
  (Instr.mapUpdate t (.map (some r)) key val).run Pg w = .ok () (w.putObj r (.map (es.push { key,val,born := clock }) (clock + 1))) := by
 simp [Instr.mapUpdate,run_underlying ht,Result.andThen,zdp hb,hck,hf,ze8 _ hb]
theorem zfo {t k e : TypeId} {r : Nat} {es : Array MapEntry} {clock : Nat} {key val old : Value} {i : Nat} (ht : Pg.underlying t = some (.map k e)) (hb : w.heap[r]? = some (.map es clock))
  (hck : (Instr.checkKey false 10000 k key).run Pg w = .ok () w) (hf : (Instr.findKey k key es.toList).run Pg w = .ok (some (i,old)) w)
  (hs : Instr.sameBits 10000 (((es[i]?).map (·.key)).getD key) key = true) :
  (Instr.mapUpdate t (.map (some r)) key val).run Pg w = .ok () (w.putObj r (.map (es.modify i fun e => { e with key,val := val }) clock)) := by
 simp [Instr.mapUpdate,run_underlying ht,Result.andThen,zdp hb,hck,hf,Instr.keyThatStays,hs,ze8 _ hb]
theorem zcX {t k e : TypeId} {r : Nat} {es : Array MapEntry} {clock : Nat} {key v : Value} {i : Nat} (ok : Bool) (ht : Pg.underlying t = some (.map k e)) (hb : w.heap[r]? = some (.map es clock))
  (hck : ∀ b,(Instr.checkKey b 10000 k key).run Pg w = .ok () w) (hf : (Instr.findKey k key es.toList).run Pg w = .ok (some (i,v)) w) :
  (Instr.lookup t (.map (some r)) key ok).run Pg w = .ok (if ok = true then .tuple #[v, .bool true] else v) w := by
 cases ok <;> simp [Instr.lookup,run_underlying ht,Result.andThen,zdp hb,hck,hf]
theorem zfP {t k e : TypeId} {r : Nat} {es : Array MapEntry} {clock : Nat} {key z : Value} (ok : Bool) (ht : Pg.underlying t = some (.map k e)) (hb : w.heap[r]? = some (.map es clock))
  (hck : ∀ b,(Instr.checkKey b 10000 k key).run Pg w = .ok () w) (hf : (Instr.findKey k key es.toList).run Pg w = .ok none w) (hz : (zeroValue e).run Pg w = .ok z w) :
  (Instr.lookup t (.map (some r)) key ok).run Pg w = .ok (if ok = true then .tuple #[z, .bool false] else z) w := by
 cases ok <;> simp [Instr.lookup,run_underlying ht,Result.andThen,zdp hb,hck,hf,hz]
theorem zdC (w : World) (o o' : Obj) : (w.alloc o).putObj w.heap.size o' = w.alloc o' := by
 have h : (w.heap.push o).setIfInBounds w.heap.size o' = w.heap.push o' := by
  apply Array.ext_getElem?
  intro i
  rw [Array.getElem?_setIfInBounds,Array.getElem?_push,Array.getElem?_push]
  by_cases hi : w.heap.size = i
  ·subst hi; simp
  ·rw [if_neg hi,if_neg (fun e => hi e.symm),if_neg (fun e => hi e.symm)]
 show ({ w with heap := (w.heap.push o).setIfInBounds w.heap.size o' } : World) = { w with heap := w.heap.push o' }
 rw [h]
end maps
end Go.Proofs.Ytgmbbfmbimofoaa.P
