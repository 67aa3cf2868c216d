-- MERGED BY A PROGRAM out of texts of this claim: hand work, and what a (turned) print of the kit has written for it
import Derived.Test.YtgmbbfmbimofoaaMg9
import Derived.Test.YtgmbbfmbimofoaaMg24
namespace Go.Proofs.Ytgmbbfmbimofoaa.P
open Go.RowKit Go.Proofs.YtgmbbfmbimofoaaW.PrintWords Go.Proofs.YtgmbbfmbimofoaaW.PrintLast Go.Proofs.YtgmbbfmbimofoaaW.PrintMore
attribute [local go_sem] zI zJ zP zO zH zG zM zK
set_option linter.unusedVariables false
set_option linter.unusedSimpArgs false
theorem zfk {α : Type} {p q : α → Bool} : ∀ (xs : List α), (∀ x ∈ xs, p x = q x) → xs.find? p = xs.find? q
 | [], _ => rfl
 | x :: xs, h => by
  rw [List.find?_cons, List.find?_cons, h x List.mem_cons_self, zfk xs (fun y hy => h y (List.mem_cons_of_mem _ hy))]
theorem zec {α β : Type} (g : α → List β) (p : β → Bool) : ∀ xs : List α, (xs.flatMap g).find? p = xs.findSome? fun x => (g x).find? p
 | [] => rfl
 | x :: xs => by
  rw [List.flatMap_cons, List.find?_append, List.findSome?_cons, zec g p xs]
  cases (g x).find? p <;> rfl
theorem zdZ {α β : Type} {f g : α → Option β} : ∀ (xs : List α), (∀ x ∈ xs, f x = g x) → xs.findSome? f = xs.findSome? g
 | [], _ => rfl
 | x :: xs, h => by
  rw [List.findSome?_cons, List.findSome?_cons, h x List.mem_cons_self, zdZ xs (fun y hy => h y (List.mem_cons_of_mem _ hy))]
theorem zeu (n : Nat) : ∀ (f : Nat) (l : List Int), ∀ x ∈ zbm n f l, ∃ t, x = l ++ t
 | 0, l, x, hx => by
  rw [zbm, List.mem_singleton] at hx
  exact ⟨[], by rw [hx, List.append_nil]⟩
 | f + 1, l, x, hx => by
  rw [zbm, List.mem_flatMap] at hx
  obtain ⟨i, _, hx⟩ := hx
  split at hx
  ·cases hx
  ·obtain ⟨t, rfl⟩ := zeu n f _ x hx
   exact ⟨(i : Int) :: t, by simp⟩
theorem zgt (n : Int) (m : S63) (h : -1000 ≤ n ∧ n ≤ 1000) : zdt n m.f0 = n + zbI m := by
 unfold zdt zbI
 split
 ·exact zcW (by omega) (by omega)
 ·split
  ·rw [zcW (by omega) (by omega)]; omega
  ·omega
set_option maxRecDepth 10000 in
theorem zer (ms : List S63) (most : Int) : ∀ (f : Nat) (done : List Int) (lines : Int), -900 + (f : Int) ≤ lines → lines ≤ 900 - (f : Int) → zbP ms most f done lines = (zbm ms.length f done).find? fun x => zb8 ms most lines (x.drop done.length)
 | 0, done, lines, _, _ => by
  rw [zbP, zbm, List.find?_cons, List.drop_length, zb8]
 | f + 1, done, lines, h0, h1 => by
  rw [zbP, zbm, zec]
  refine zdZ _ (fun i _ => ?_)
  by_cases hc : done.contains (i : Int) = true
  ·rw [if_pos hc, if_pos hc]; rfl
  ·rw [if_neg hc, if_neg hc]
   obtain ⟨m, hm⟩ : ∃ m, zh ms (i : Int) = m := ⟨_, rfl⟩
   have hg := zff m
   have hst := zgt lines m (by omega)
   rw [hm]
   have hpre : ∀ x ∈ zbm ms.length f (done ++ [(i : Int)]), zb8 ms most lines (x.drop done.length) = if most < lines + zbI m then false else zb8 ms most (lines + zbI m) (x.drop (done ++ [(i : Int)]).length) := by
    intro x hx
    obtain ⟨t, rfl⟩ := zeu _ _ _ x hx
    have e1 : (done ++ [(i : Int)] ++ t).drop done.length = (i : Int) :: t := by rw [List.append_assoc, List.drop_left]; rfl
    rw [e1, List.drop_left, zb8, hm, hst]
   rw [zfk _ hpre]
   by_cases hgt : most < lines + zbI m
   ·simp only [if_pos hgt]
    symm
    rw [List.find?_eq_none]
    intro x _; decide
   ·simp only [if_neg hgt]
    exact zer ms most f (done ++ [(i : Int)]) (lines + zbI m) (by omega) (by omega)
def zdU (p : List ByteArray) (ms : List S63) (most : Int) : List Int × Int :=
 if zbT p ms = 0 then (if 5 < ms.length then ([], 6) else if most < 0 then ([], 1) else if most < (p.length : Int) then ([], 12) else
  match (zbm ms.length ms.length []).find? (zb8 ms most (p.length : Int)) with
  | some x => (x, 0)
  | none => ([], 11)) else ([], zbT p ms)
theorem zhk (p : List ByteArray) (ms : List S63) (most : Int) (hp : p.length ≤ 50) (hm : ms.length ≤ 50) : zbJ.f p ms most = some (zdU p ms most) := by
 unfold zbJ.f zdU
 rw [if_pos ⟨by omega, by omega⟩, zgN p ms 1000 (by omega), Option.bind_some]
 by_cases h0 : zbT p ms = 0
 ·rw [if_pos h0, if_pos h0]
  by_cases h1 : 5 < ms.length
  ·rw [if_pos h1, if_pos h1]
  ·rw [if_neg h1, if_neg h1]
   by_cases h2 : most < 0
   ·rw [if_pos h2, if_pos h2]
   ·rw [if_neg h2, if_neg h2]
    by_cases h3 : most < (p.length : Int)
    ·rw [if_pos h3, if_pos h3]
    ·rw [if_neg h3, if_neg h3]
     cases (zbm ms.length ms.length []).find? (zb8 ms most (p.length : Int)) <;> rfl
 ·rw [if_neg h0, if_neg h0]
theorem zga (p : List ByteArray) (ms : List S63) (most : Int) : Ev (fun k => zbF.f k p ms most) (zdU p ms most) := by
 unfold zbF.f zdU
 refine Ev.be (zf4 p ms) ?_
 by_cases h0 : zbT p ms = 0
 ·simp only [if_pos h0]
  have hl := zeT (zf3 h0).1
  by_cases h1 : 5 < ms.length
  ·simp only [if_pos h1]
   exact Ev.ifp (by omega) (Ev.now _)
  ·simp only [if_neg h1]
   refine Ev.ifn (by omega) ?_
   by_cases h2 : most < 0
   ·simp only [if_pos h2]; exact Ev.now _
   ·simp only [if_neg h2]
    by_cases h3 : most < (p.length : Int)
    ·simp only [if_pos h3]
     exact Ev.now _
    ·simp only [if_neg h3]
     have hf := zer ms most ms.length [] (p.length : Int) (by omega) (by omega)
     have hst : zaT.f ms [] (p.length : Int) most = some (zfX (zbP ms most ms.length [] (p.length : Int)), zeB (zbP ms most ms.length [] (p.length : Int))) := by
      unfold zaT.f
      rw [if_pos ⟨by omega, rfl, by omega, by omega⟩]
     refine Ev.bs hst ?_
     have hd : (fun x : List Int => zb8 ms most (p.length : Int) (x.drop ([] : List Int).length)) = zb8 ms most (p.length : Int) := by
      funext x; rfl
     rw [hd] at hf
     rw [← hf]
     cases zbP ms most ms.length [] (p.length : Int) with
     | some x => exact Ev.ifp rfl (Ev.now _)
     | none => exact Ev.ifn (by simp [zeB]) (Ev.now _)
 ·simp only [if_neg h0]; exact Ev.now _
theorem zgW (p : List ByteArray) (ms : List S63) (most : Int) : (zdU p ms most).1.length ≤ 5 := by
 unfold zdU
 split
 ·split
  ·simp
  ·split
   ·simp
   ·split
    ·simp
    ·split
     ·rename_i x hx
      have := (zew ms.length ms.length [] (fun i hi => by cases hi) x (List.mem_of_find?_eq_some hx)).1
      simp at this
      dsimp only; omega
     ·simp
 ·simp
end Go.Proofs.Ytgmbbfmbimofoaa.P
