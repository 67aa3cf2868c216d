-- MERGED BY A PROGRAM out of texts of this claim: hand work, and what a (turned) print of the kit has written for it
import Derived.RangeFuncNested
import Derived.RangeFuncBound
import Derived.RangeFuncCalls
import Derived.RangeFuncLeaves
import Derived.ControlIn
import Derived.Test.YtgmbbfmbimofoaaMk14
import Derived.Test.YtgmbbfmbimofoaaMk8
namespace Go.Proofs.Ytgmbbfmbimofoaa.P
open Go.RowKit Go.Proofs.YtgmbbfmbimofoaaW.PrintWords Go.Proofs.YtgmbbfmbimofoaaW.PrintLast Go.Proofs.YtgmbbfmbimofoaaW.PrintMore
attribute [local go_sem] zH zI zP zO zC zB zJ zK
set_option linter.unusedVariables false
set_option linter.unusedSimpArgs false
theorem zf4 (l : List Int) (a : Int) (hl : l.length < 1000) : ∀ (n i : Nat),l.length - i = n → i ≤ l.length → ∃ r : Int,zai.l0 (n + 1) l a (l.length : Int) (i : Int) = some r ∧ (decide (r ≥ 0)) = (l.drop i).contains a
 | 0,i,h,hi => by
  have e : i = l.length := by omega
  refine ⟨-1,?_,?_⟩
  ·rw [zai.l0,if_neg ql]
  ·rw [List.drop_eq_nil_of_le ql]; rfl
 | n + 1,i,h,hi => by
  have hlt : i < l.length := by omega
  have r1 : rd l (i : Int) = l[i] := by simp [rd,hlt]
  have hw : wrap64 ((i : Int) + 1) = ((i + 1 : Nat) : Int) := by unfold wrap64; omega
  rw [zai.l0,if_pos ql,if_pos ql,if_pos ql,r1,List.drop_eq_getElem_cons hlt]
  by_cases ha : a = l[i]
  ·refine ⟨i,by rw [if_pos ha],?_⟩
   have h1 : (i : Int) ≥ 0 := by omega
   have h2 : (a == l[i]) = true := by simpa using ha
   rw [decide_eq_true h1,List.contains_cons,h2]
   rfl
  ·obtain ⟨r,h1,h2⟩ := zf4 l a hl n (i + 1) ql ql
   refine ⟨r,by rw [if_neg ha,hw]; exact h1,?_⟩
   rw [h2,List.contains_cons]
   have : (a == l[i]) = false := by simpa using ha
   rw [this,Bool.false_or]
theorem contains_eq (l : List Int) (a : Int) (hl : l.length < 1000) : za9.f (l.length + 1) l a = some (l.contains a) := by
 obtain ⟨r,h1,h2⟩ := zf4 l a hl l.length 0 ql ql
 have h3 : zai.f (l.length + 1) l a = some r := h1
 unfold za9.f
 rw [h3,Option.bind_some,h2]
 rfl
def zcM (n : Nat) : Nat → List Int → List (List Int)
 | 0,l => [l]
 | f + 1,l => (List.range n).flatMap fun i => if l.contains ((i : Nat) : Int) = true then [] else zcM n f (l ++ [((i : Nat) : Int)])
structure GSt (J : World → Prop) (n gn gy gg lp : Nat) (W : World) : Prop where
 j : J W
 ggt : lp < gg
 lpr : ∃ r,W.heap[lp]? = some (.loop r)
 bn : W.heap[gn]? = some (.cells #[.int .i64 n] 3 (0,0))
 bY : W.heap[gy]? = some (.cells #[.func (.yield lp) #[] #[]] 59 (0,0))
 bg : W.heap[gg]? = some (.cells #[.func (.func 100) #[] #[.pointer (some ⟨gn,0,none⟩), .pointer (some ⟨gy,0,none⟩), .pointer (some ⟨gg,0,none⟩)]] 59 (0,0))
def Stable (J : World → Prop) : Prop := ∀ W W1,J W → Below W.heap.size W W1 → J W1
theorem GSt.below {J : World → Prop} {n gn gy gg lp : Nat} {W W1 : World} (hJ : Stable J) (h : GSt J n gn gy gg lp W) (hb : Below W.heap.size W W1) : GSt J n gn gy gg lp W1 := by
 obtain ⟨r,hr⟩ := h.lpr
 exact ⟨hJ _ _ h.j hb,h.ggt,⟨r,zu hr hb⟩,zu h.bn hb,zu h.bY hb,zu h.bg hb⟩
theorem GSt.round {J : World → Prop} {n gn gy gg lp : Nat} {W W1 : World} (h : GSt J n gn gy gg lp W) (hj : J W1) (hl : ∃ r,W1.heap[lp]? = some (.loop r)) (hk : zM W W1 lp none) : GSt J n gn gy gg lp W1 := by
 obtain ⟨r,hr⟩ := h.lpr
 have ne : ∀ {g : Nat} {cs : Array Value} {t : TypeId},W.heap[g]? = some (.cells cs t (0,0)) → g ≠ lp := fun hg e => by subst e; rw [hr] at hg; cases hg
 exact ⟨hj,h.ggt,hl,hk.blk h.bn (ne h.bn) qC,hk.blk h.bY (ne h.bY) qC,hk.blk h.bg (ne h.bg) qC⟩
def zbo (lp : Nat) (W W1 : World) : Prop := W.heap.size ≤ W1.heap.size ∧ ∀ k,lp < k → k < W.heap.size → W1.heap[k]? = W.heap[k]?
theorem zbo.trans {lp : Nat} {W W1 W2 : World} (h : zbo lp W W1) (k : zbo lp W1 W2) : zbo lp W W2 := ⟨Nat.le_trans h.1 k.1,fun n h1 h2 => (k.2 n h1 (Nat.lt_of_lt_of_le h2 h.1)).trans (h.2 n h1 h2)⟩
theorem zbo.zhC {lp : Nat} {W W1 : World} (h : zM W W1 lp none) : zbo lp W W1 := ⟨h.1,fun n h1 h2 => h.2 n h2 ql qC⟩
theorem zbo.of_below {lp : Nat} {W W1 : World} (h : Below W.heap.size W W1) : zbo lp W W1 := ⟨h.size,fun n _ h2 => h.block n h2⟩
def zfr (fits : List Int → Bool) (J : World → Prop) (Jx : List Int → World → Prop) (n base lp : Nat) : Prop :=
 ∀ (W : World) (v : Value) (x : List Int),J W → (∃ r,W.heap[lp]? = some (.loop r)) → x.length = n → (∀ i ∈ x,0 ≤ i ∧ i < (n : Int)) → Kd.R (Kd.int .i64) 3 W base (fun _ => True) v x →
  YieldAt Fence.wide 0 Try.prog lp #[v] W fun e W' => (e = .returned (.bool true) ∧ fits x = false ∧ J W' ∧ (∃ r,W'.heap[lp]? = some (.loop r)) ∧ zM W W' lp none) ∨ (e = .returned (.bool false) ∧ fits x = true ∧ Jx x W' ∧ zbo lp W W')
def zii (fits : List Int → Bool) (J : World → Prop) (Jx : List Int → World → Prop) (n gn gy gg lp : Nat) (os : List (List Int)) (W : World) (e : Ending) (W' : World) : Prop :=
 (e = .returned (.bool true) ∧ os.find? fits = none ∧ GSt J n gn gy gg lp W' ∧ zM W W' lp none) ∨ (e = .returned (.bool false) ∧ ∃ x,os.find? fits = some x ∧ Jx x W' ∧ zbo lp W W')
theorem zdf {W W1 : World} {lp base : Nat} {v : Value} {l : List Int} (hl : ∃ r,W.heap[lp]? = some (.loop r)) (hk : zM W W1 lp none) (h : Kd.R (Kd.int .i64) 3 W base (fun _ => True) v l) : Kd.R (Kd.int .i64) 3 W1 base (fun _ => True) v l := by
 obtain ⟨r,hr⟩ := hl
 refine Kd.zaB (Kd.zcV (Kd.za5 h) (fun k hk2 => ?_)) (fun _ _ => trivial)
 obtain ⟨_,_,hlt,q,_,cells,hc⟩ := hk2
 exact hk.2 k hlt (fun e => by rw [e,hr] at hc; cases hc) qC
end Go.Proofs.Ytgmbbfmbimofoaa.P
