-- MERGED BY A PROGRAM out of texts of this claim: hand work, and what a (turned) print of the kit has written for it
import Derived.RangeFuncNested
import Derived.RangeFuncBound
import Derived.RangeFuncCalls
import Derived.RangeFuncLeaves
import Derived.ControlIn
import Derived.Test.YtgmbbfmbimofoaaMj14
import Derived.Test.YtgmbbfmbimofoaaMj7
namespace Go.Proofs.Ytgmbbfmbimofoaa.P
open Go.RowKit Go.Proofs.YtgmbbfmbimofoaaW.PrintWords Go.Proofs.YtgmbbfmbimofoaaW.PrintLast Go.Proofs.YtgmbbfmbimofoaaW.PrintMore
attribute [local go_sem] zO zN zT zS zI zJ zP zQ
set_option linter.unusedVariables false
set_option linter.unusedSimpArgs false
theorem zgS (l : List Int) (a : Int) (hl : l.length < 1000) : ∀ (n i : Nat),l.length - i = n → i ≤ l.length → ∃ r : Int,zaw.l0 (n + 1) l a (l.length : Int) (i : Int) = some r ∧ (decide (r ≥ 0)) = (l.drop i).contains a
 | 0,i,h,hi => by
  have e : i = l.length := by omega
  refine ⟨-1,?_,?_⟩
  ·rw [zaw.l0,if_neg qk]
  ·rw [List.drop_eq_nil_of_le qk]; rfl
 | n + 1,i,h,hi => by
  have hlt : i < l.length := by omega
  have r1 : rd l (i : Int) = l[i] := by simp [rd,hlt]
  have hw : wrap64 ((i : Int) + 1) = ((i + 1 : Nat) : Int) := by unfold wrap64; omega
  rw [zaw.l0,if_pos qk,if_pos qk,if_pos qk,r1,List.drop_eq_getElem_cons hlt]
  by_cases ha : a = l[i]
  ·refine ⟨i,by rw [if_pos ha],?_⟩
   have h1 : (i : Int) ≥ 0 := by omega
   have h2 : (a == l[i]) = true := by simpa using ha
   rw [decide_eq_true h1,List.contains_cons,h2]
   rfl
  ·obtain ⟨r,h1,h2⟩ := zgS l a hl n (i + 1) qk qk
   refine ⟨r,by rw [if_neg ha,hw]; exact h1,?_⟩
   rw [h2,List.contains_cons]
   have : (a == l[i]) = false := by simpa using ha
   rw [this,Bool.false_or]
theorem contains_eq (l : List Int) (a : Int) (hl : l.length < 1000) : zbg.f (l.length + 1) l a = some (l.contains a) := by
 obtain ⟨r,h1,h2⟩ := zgS l a hl l.length 0 qk qk
 have h3 : zaw.f (l.length + 1) l a = some r := h1
 unfold zbg.f
 rw [h3,Option.bind_some,h2]
 rfl
def zc1 (n : Nat) : Nat → List Int → List (List Int)
 | 0,l => [l]
 | f + 1,l => (List.range n).flatMap fun i => if l.contains ((i : Nat) : Int) = true then [] else zc1 n f (l ++ [((i : Nat) : Int)])
structure GSt (J : World → Prop) (n gn gy gg lp : Nat) (W : World) : Prop where
 j : J W
 ggt : lp < gg
 lpr : ∃ r,W.heap[lp]? = some (.loop r)
 bn : W.heap[gn]? = some (.cells #[.int .i64 n] 3 (0,0))
 bY : W.heap[gy]? = some (.cells #[.func (.yield lp) #[] #[]] 59 (0,0))
 bg : W.heap[gg]? = some (.cells #[.func (.func 100) #[] #[.pointer (some ⟨gn,0,none⟩), .pointer (some ⟨gy,0,none⟩), .pointer (some ⟨gg,0,none⟩)]] 59 (0,0))
def Stable (J : World → Prop) : Prop := ∀ W W1,J W → Below W.heap.size W W1 → J W1
theorem GSt.below {J : World → Prop} {n gn gy gg lp : Nat} {W W1 : World} (hJ : Stable J) (h : GSt J n gn gy gg lp W) (hb : Below W.heap.size W W1) : GSt J n gn gy gg lp W1 := by
 obtain ⟨r,hr⟩ := h.lpr
 exact ⟨hJ _ _ h.j hb,h.ggt,⟨r,zB hr hb⟩,zB h.bn hb,zB h.bY hb,zB h.bg hb⟩
theorem GSt.round {J : World → Prop} {n gn gy gg lp : Nat} {W W1 : World} (h : GSt J n gn gy gg lp W) (hj : J W1) (hl : ∃ r,W1.heap[lp]? = some (.loop r)) (hk : zq W W1 lp none) : GSt J n gn gy gg lp W1 := by
 obtain ⟨r,hr⟩ := h.lpr
 have ne : ∀ {g : Nat} {cs : Array Value} {t : TypeId},W.heap[g]? = some (.cells cs t (0,0)) → g ≠ lp := fun hg e => by subst e; rw [hr] at hg; cases hg
 exact ⟨hj,h.ggt,hl,hk.blk h.bn (ne h.bn) qD,hk.blk h.bY (ne h.bY) qD,hk.blk h.bg (ne h.bg) qD⟩
def zbA (lp : Nat) (W W1 : World) : Prop := W.heap.size ≤ W1.heap.size ∧ ∀ k,lp < k → k < W.heap.size → W1.heap[k]? = W.heap[k]?
theorem zbA.trans {lp : Nat} {W W1 W2 : World} (h : zbA lp W W1) (k : zbA lp W1 W2) : zbA lp W W2 := ⟨Nat.le_trans h.1 k.1,fun n h1 h2 => (k.2 n h1 (Nat.lt_of_lt_of_le h2 h.1)).trans (h.2 n h1 h2)⟩
theorem zbA.zhT {lp : Nat} {W W1 : World} (h : zq W W1 lp none) : zbA lp W W1 := ⟨h.1,fun n h1 h2 => h.2 n h2 qk qD⟩
theorem zbA.of_below {lp : Nat} {W W1 : World} (h : Below W.heap.size W W1) : zbA lp W W1 := ⟨h.size,fun n _ h2 => h.block n h2⟩
def zf4 (fits : List Int → Bool) (J : World → Prop) (Jx : List Int → World → Prop) (n base lp : Nat) : Prop :=
 ∀ (W : World) (v : Value) (x : List Int),J W → (∃ r,W.heap[lp]? = some (.loop r)) → x.length = n → (∀ i ∈ x,0 ≤ i ∧ i < (n : Int)) → Kd.R (Kd.int .i64) 3 W base (fun _ => True) v x →
  YieldAt Fence.wide 0 Try.prog lp #[v] W fun e W' => (e = .returned (.bool true) ∧ fits x = false ∧ J W' ∧ (∃ r,W'.heap[lp]? = some (.loop r)) ∧ zq W W' lp none) ∨ (e = .returned (.bool false) ∧ fits x = true ∧ Jx x W' ∧ zbA lp W W')
def zjc (fits : List Int → Bool) (J : World → Prop) (Jx : List Int → World → Prop) (n gn gy gg lp : Nat) (os : List (List Int)) (W : World) (e : Ending) (W' : World) : Prop :=
 (e = .returned (.bool true) ∧ os.find? fits = none ∧ GSt J n gn gy gg lp W' ∧ zq W W' lp none) ∨ (e = .returned (.bool false) ∧ ∃ x,os.find? fits = some x ∧ Jx x W' ∧ zbA lp W W')
theorem zdp {W W1 : World} {lp base : Nat} {v : Value} {l : List Int} (hl : ∃ r,W.heap[lp]? = some (.loop r)) (hk : zq W W1 lp none) (h : Kd.R (Kd.int .i64) 3 W base (fun _ => True) v l) : Kd.R (Kd.int .i64) 3 W1 base (fun _ => True) v l := by
 obtain ⟨r,hr⟩ := hl
 refine Kd.zav (Kd.zcL (Kd.zbn h) (fun k hk2 => ?_)) (fun _ _ => trivial)
 obtain ⟨_,_,hlt,q,_,cells,hc⟩ := hk2
 exact hk.2 k hlt (fun e => by rw [e,hr] at hc; cases hc) qD
end Go.Proofs.Ytgmbbfmbimofoaa.P
