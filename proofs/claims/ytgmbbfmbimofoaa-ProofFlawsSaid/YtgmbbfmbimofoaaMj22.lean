-- MERGED BY A PROGRAM out of texts of this claim: hand work, and what a (turned) print of the kit has written for it
import Derived.Outline
import Derived.Test.YtgmbbfmbimofoaaMj13
import Derived.Test.YtgmbbfmbimofoaaMj12
import Derived.Test.YtgmbbfmbimofoaaMj21
import Derived.Test.YtgmbbfmbimofoaaMj7
import Derived.Test.YtgmbbfmbimofoaaMj5
import Derived.Test.YtgmbbfmbimofoaaMj6
namespace Go.Proofs.Ytgmbbfmbimofoaa.P
open Go.RowKit Go.Proofs.YtgmbbfmbimofoaaW.PrintWords Go.Proofs.YtgmbbfmbimofoaaW.PrintLast Go.Proofs.YtgmbbfmbimofoaaW.PrintMore
attribute [local go_sem] zO zN zT zS zI zJ zP zQ
set_option linter.unusedVariables false
set_option linter.unusedSimpArgs false
inductive zbj : Nat → List ByteArray → List ByteArray → List S63 → Prop
 | nil (i : Nat) : zbj i [] [] []
 | ins {i : Nat} {a b : List ByteArray} {ms : List S63} (y : ByteArray) : zbj i a b ms → zbj i a (y :: b) (⟨1,i,y⟩ :: ms)
 | del {i : Nat} {a b : List ByteArray} {ms : List S63} (x : ByteArray) : zbj (i + 1) a b ms → zbj i (x :: a) b (⟨3,i,⟨#[]⟩⟩ :: ms)
 | set {i : Nat} {a b : List ByteArray} {ms : List S63} (x y : ByteArray) : zbj (i + 1) a b ms → zbj i (x :: a) (y :: b) (⟨2,i,y⟩ :: ms)
 | keep {i : Nat} {a b : List ByteArray} {ms : List S63} (x : ByteArray) : zbj (i + 1) a b ms → zbj i (x :: a) (x :: b) ms
theorem bytes_inj {x y : ByteArray} (h : x.toList = y.toList) : x = y := by
 obtain ⟨⟨l⟩⟩ := x
 obtain ⟨⟨m⟩⟩ := y
 rw [ByteArray.toList_eq,ByteArray.toList_eq] at h
 simp at h
 rw [h]
theorem zhW (a : List ByteArray) : ∀ (b : List ByteArray) (i : Nat),zbj i a b (dsp i a b).2 := by
 induction a with
 | nil =>
  intro b
  induction b with
  | nil => intro i; rw [dsp]; exact .nil i
  | cons y b ih => intro i; rw [dsp]; exact .ins y (ih i)
 | cons x a iha =>
  intro b
  induction b with
  | nil => intro i; rw [dsp]; exact .del x (iha [] (i + 1))
  | cons y b ih =>
   intro i
   rw [dsp]
   rcases zc5 ([zx ⟨3,i,⟨#[]⟩⟩ (dsp (i + 1) a (y :: b)),zx ⟨2,i,y⟩ (dsp (i + 1) a b)] ++ (if (x.toList == y.toList) = true then [dsp (i + 1) a b] else [])) (zx ⟨1,i,y⟩ (dsp i (x :: a) b)) with h | h
   ·rw [h]; exact .ins y (ih i)
   ·generalize zbm (zx ⟨1,i,y⟩ (dsp i (x :: a) b)) ([zx ⟨3,i,⟨#[]⟩⟩ (dsp (i + 1) a (y :: b)),zx ⟨2,i,y⟩ (dsp (i + 1) a b)] ++ (if (x.toList == y.toList) = true then [dsp (i + 1) a b] else [])) = r at h ⊢
    rcases List.mem_append.1 h with h | h
    ·simp only [List.mem_cons,List.not_mem_nil,or_false] at h
     rcases h with rfl | rfl
     ·exact .del x (iha (y :: b) (i + 1))
     ·exact .set x y (iha b (i + 1))
    ·by_cases he : (x.toList == y.toList) = true
     ·rw [if_pos he] at h
      simp only [List.mem_cons,List.not_mem_nil,or_false] at h
      subst h
      obtain rfl := bytes_inj (beq_iff_eq.1 he)
      exact .keep x (iha b (i + 1))
     ·rw [if_neg he] at h; cases h
theorem zbj.made {P : List ByteArray} {i : Nat} {a b : List ByteArray} {ms : List S63} (h : zbj i a b ms) : P.drop i = a → i ≤ P.length → ∀ (acc : List ByteArray) (j : Nat),j ≤ i → (ms.foldl (zbH P) (acc,j)).1 ++ P.drop (ms.foldl (zbH P) (acc,j)).2 = acc ++ (P.take i).drop j ++ b := by
 induction h with
 | nil i =>
  intro hd hi acc j hj
  have hl : P.length ≤ i := by
   have := congrArg List.length hd
   simp at this; omega
  simp only [List.foldl_nil,List.append_nil]
  rw [List.take_of_length_le hl]
 | @ins i a b ms y h ih =>
  intro hd hi acc j hj
  rw [List.foldl_cons]
  have e : zbH P (acc,j) ⟨1,i,y⟩ = (acc ++ (P.take i).drop j ++ [y],i) := by
   simp only [zbH,Int.toNat_natCast,Nat.max_eq_right hj,if_true]
  rw [e,ih hd hi _ i (Nat.le_refl _)]
  simp [List.append_assoc,List.drop_eq_nil_of_le,List.length_take,Nat.min_le_left]
 | @del i a b ms x h ih =>
  intro hd hi acc j hj
  have hlt : i < P.length := by
   have := congrArg List.length hd
   simp at this; omega
  have hd' : P.drop (i + 1) = a := by
   have := congrArg List.tail hd
   simpa using this
  rw [List.foldl_cons]
  have e : zbH P (acc,j) ⟨3,i,⟨#[]⟩⟩ = (acc ++ (P.take i).drop j,i + 1) := by
   simp [zbH,Nat.max_eq_right hj]
  rw [e,ih hd' hlt _ (i + 1) (Nat.le_refl _)]
  simp [List.append_assoc,List.drop_eq_nil_of_le,List.length_take,Nat.min_le_left]
 | @set i a b ms x y h ih =>
  intro hd hi acc j hj
  have hlt : i < P.length := by
   have := congrArg List.length hd
   simp at this; omega
  have hd' : P.drop (i + 1) = a := by
   have := congrArg List.tail hd
   simpa using this
  rw [List.foldl_cons]
  have e : zbH P (acc,j) ⟨2,i,y⟩ = (acc ++ (P.take i).drop j ++ [y],i + 1) := by
   simp [zbH,Nat.max_eq_right hj]
  rw [e,ih hd' hlt _ (i + 1) (Nat.le_refl _)]
  simp [List.append_assoc,List.drop_eq_nil_of_le,List.length_take,Nat.min_le_left]
 | @keep i a b ms x h ih =>
  intro hd hi acc j hj
  have hlt : i < P.length := by
   have := congrArg List.length hd
   simp at this; omega
  have hd' : P.drop (i + 1) = a := by
   have := congrArg List.tail hd
   simpa using this
  have hx : P[i] = x := by
   have := congrArg List.head? hd
   rw [List.drop_eq_getElem_cons hlt,List.head?_cons,List.head?_cons] at this
   exact Option.some.inj this
  rw [ih hd' hlt acc j qk,List.take_succ_eq_append_getElem hlt,List.drop_append_of_le_length qH,hx]
  simp
theorem zbj.fits {i : Nat} {a b : List ByteArray} {ms : List S63} (h : zbj i a b ms) : ∀ n,i + a.length = n → ms.all (zbY n) = true := by
 induction h with
 | nil i => intro n _; rfl
 | ins y h ih => intro n hn; rw [List.all_cons,ih n hn,Bool.and_true]; simp [zbY]; omega
 | del x h ih => intro n hn; simp only [List.length_cons] at hn; rw [List.all_cons,ih n qk,Bool.and_true]; simp [zbY]; omega
 | set x y h ih => intro n hn; simp only [List.length_cons] at hn; rw [List.all_cons,ih n qk,Bool.and_true]; simp [zbY]; omega
 | keep x h ih => intro n hn; simp only [List.length_cons] at hn; exact ih n qk
theorem Ev.ifp {α : Type} {c : Prop} [Decidable c] {A B : Nat → Option α} {r : α} (h : c) (k : Ev A r) : Ev (fun n => if c then A n else B n) r := by
 obtain ⟨K,k⟩ := k
 exact ⟨K,fun n hn => by dsimp only; rw [if_pos h]; exact k n hn⟩
theorem Ev.ifn {α : Type} {c : Prop} [Decidable c] {A B : Nat → Option α} {r : α} (h : ¬ c) (k : Ev B r) : Ev (fun n => if c then A n else B n) r := by
 obtain ⟨K,k⟩ := k
 exact ⟨K,fun n hn => by dsimp only; rw [if_neg h]; exact k n hn⟩
theorem Ev.bs {α β : Type} {o : Option α} {a : α} {f : Nat → α → Option β} {r : β} (h : o = some a) (k : Ev (fun n => f n a) r) : Ev (fun n => o.bind (f n)) r := by
 obtain ⟨K,k⟩ := k
 exact ⟨K,fun n hn => by dsimp only; rw [h]; exact k n hn⟩
theorem Ev.be {α β : Type} {g : Nat → Option α} {a : α} {f : Nat → α → Option β} {r : β} (h : Ev g a) (k : Ev (fun n => f n a) r) : Ev (fun n => (g n).bind (fun x => f n x)) r := Ev.bind h k
theorem Ev.ret {α : Type} {o : Option α} {r : α} (h : o = some r) : Ev (fun _ => o) r := ⟨0,fun _ _ => h⟩
theorem zcx {x : Int} (h0 : -1000000000000000 ≤ x) (h1 : x ≤ 1000000000000000) : wrap64 x = x := by unfold wrap64; omega
theorem zce (n : Nat) (h : n ≤ 1000000) : wrap64 ((n : Int) + 1) = ((n + 1 : Nat) : Int) := by unfold wrap64; omega
theorem zgX (p : List ByteArray) : Ev (fun k => zaj.f k p) (zaL p) := ⟨8,fun k hk => zgT p k qk⟩
instance zky (x : ByteArray) (p : List ByteArray) : Decidable (x ∈ p) := decidable_of_iff (p.any (fun y => y.toList == x.toList) = true) (by
 rw [List.any_eq_true]
 exact ⟨fun ⟨y,h,e⟩ => by rw [← bytes_inj (beq_iff_eq.1 e)]; exact h,fun h => ⟨x,h,beq_iff_eq.2 rfl⟩⟩)
theorem zcW {p : List ByteArray} {x : ByteArray} {i : Nat} (h : i < p.length) : x ∈ p.drop i ↔ x = p[i] ∨ x ∈ p.drop (i + 1) := by
 rw [List.drop_eq_getElem_cons h,List.mem_cons]
theorem zgz (p : List ByteArray) (x : ByteArray) (hp : p.length ≤ 1000) : ∀ (m i : Nat),p.length - i = m → i ≤ p.length → ∃ r : Int,Ev (fun k => zai.l0 k p x (p.length : Int) (i : Int)) r ∧ (0 ≤ r ↔ x ∈ p.drop i)
 | 0,i,h,hi => by
  refine ⟨-1,Ev.step (fun k => by rw [zai.l0]) (Ev.ifn qk (Ev.now _)),?_⟩
  rw [List.drop_eq_nil_of_le qk]; simp
 | m + 1,i,h,hi => by
  have hlt : i < p.length := by omega
  have r1 : zaE ByteArray.empty p (i : Int) = p[i] := by simp [zaE,hlt]
  have hw : wrap64 ((i : Int) + 1) = ((i + 1 : Nat) : Int) := by rw [zcx qk qk]; omega
  by_cases he : x = p[i]
  ·refine ⟨i,Ev.step (fun k => by rw [zai.l0]) (Ev.ifp qk (Ev.ifp qk (Ev.ifp qk (Ev.ifp (by rw [r1, ← he]) (Ev.now _))))),?_⟩
   rw [zcW hlt]
   exact ⟨fun _ => .inl he,fun _ => by omega⟩
  ·obtain ⟨r,h1,h2⟩ := zgz p x hp m (i + 1) qk qk
   refine ⟨r,Ev.step (fun k => by rw [zai.l0]) (Ev.ifp qk (Ev.ifp qk (Ev.ifp qk (Ev.ifn (fun h => he (by rw [r1] at h; exact bytes_inj h)) ?_)))),?_⟩
   ·rw [hw]; exact h1
   ·rw [zcW hlt,h2]
    exact ⟨.inr,fun h => h.resolve_left he⟩
theorem ze6 (p : List ByteArray) (x : ByteArray) (hp : p.length ≤ 1000) : Ev (fun k => zaK.f k p x) (decide (x ∈ p)) := by
 obtain ⟨r,h1,h2⟩ := zgz p x hp p.length 0 qk qk
 have e : decide (x ∈ p) = decide (r ≥ 0) := by
  rw [decide_eq_decide]; rw [List.drop_zero] at h2; exact h2.symm
 rw [e]
 exact Ev.bind (f := fun _ t => some (decide (t ≥ 0))) h1 (Ev.now _)
theorem zjh (p : List ByteArray) (x : ByteArray) (hp : p.length ≤ 1000) : Ev (fun k => zaD.f k p x) (decide (x ∈ p)) := by
 have go : ∀ (m i : Nat),p.length - i = m → i ≤ p.length → Ev (fun k => zaD.l0 k p x (i : Int)) (decide (x ∈ p.drop i)) := by
  intro m
  induction m with
  | zero =>
   intro i h hi
   refine Ev.step (fun k => by rw [zaD.l0]) (Ev.ifn qk ?_)
   rw [List.drop_eq_nil_of_le qk]; exact Ev.now _
  | succ m ih =>
   intro i h hi
   have hlt : i < p.length := by omega
   have r1 : zaE ByteArray.empty p (i : Int) = p[i] := by simp [zaE,hlt]
   have hw : wrap64 ((i : Int) + 1) = ((i + 1 : Nat) : Int) := by rw [zcx qk qk]; omega
   by_cases he : x = p[i]
   ·rw [decide_eq_true ((zcW hlt).2 (.inl he))]
    exact Ev.step (fun k => by rw [zaD.l0]) (Ev.ifp qk (Ev.ifp qk (Ev.ifp (by rw [r1, ← he]) (Ev.now _))))
   ·have e : decide (x ∈ p.drop i) = decide (x ∈ p.drop (i + 1)) := by
     rw [decide_eq_decide,zcW hlt]
     exact ⟨fun h => h.resolve_left he, .inr⟩
    rw [e]
    refine Ev.step (fun k => by rw [zaD.l0]) (Ev.ifp qk (Ev.ifp qk (Ev.ifn (fun h => he (by rw [r1] at h; exact (bytes_inj h).symm)) ?_)))
    rw [hw]; exact ih (i + 1) qk qk
 have h := go p.length 0 qk qk
 rw [List.drop_zero] at h
 exact h
def Good (n : Nat) (p : List ByteArray) : Prop := p.length ≤ n ∧ ∀ x ∈ p,x ∈ zcG
theorem Good.check {p : List ByteArray} (h : Good 6 p) : zaL p = 0 := checkS_ok_ p h.1 (fun x hx => words6_ok_ x (h.2 x hx))
where
 words6_ok_ : ∀ x ∈ zcG,zaX x = 0 := by
  intro x hx
  simp only [zcG,List.mem_cons,List.not_mem_nil,or_false] at hx
  rcases hx with rfl | rfl | rfl | rfl | rfl | rfl <;> kernel_rfl
 firstErr_ok_ : ∀ p : List ByteArray,(∀ x ∈ p,zaX x = 0) → zci p = 0
  | [],_ => rfl
  | x :: p,h => by rw [zci,if_pos (h x List.mem_cons_self)]; exact firstErr_ok_ p (fun y hy => h y (List.mem_cons_of_mem _ hy))
 checkS_ok_ (p : List ByteArray) (hl : p.length ≤ 6) (h : ∀ x ∈ p,zaX x = 0) : zaL p = 0 := by
  unfold zaL
  rw [if_neg qk,firstErr_ok_ p h]
def zbO (ys : List (List ByteArray)) (x : ByteArray) : Nat → Int
 | 0 => -1
 | n + 1 => if x ∈ ys.getD n [] then (n : Int) else zbO ys x n
theorem zgQ (ys : List (List ByteArray)) (x : ByteArray) : ∀ n : Nat, -1 ≤ zbO ys x n ∧ zbO ys x n < n
 | 0 => by simp [zbO]
 | n + 1 => by
  have := zgQ ys x n
  rw [zbO]; split <;> omega
theorem zf9 (ys : List (List ByteArray)) (x : ByteArray) : ∀ n : Nat,0 ≤ zbO ys x n → x ∈ ys.getD (zbO ys x n).toNat []
 | 0,h => by simp [zbO] at h
 | n + 1,h => by
  rw [zbO] at h ⊢
  by_cases hx : x ∈ ys.getD n []
  ·rw [if_pos hx]; simpa using hx
  ·rw [if_neg hx] at h ⊢; exact zf9 ys x n h
theorem zfv (ys : List (List ByteArray)) (x : ByteArray) : ∀ n : Nat, ∀ j : Nat,j < n → zbO ys x n < j → x ∉ ys.getD j []
 | 0,_,h,_ => by omega
 | n + 1,j,h,hj => by
  rw [zbO] at hj
  by_cases hx : x ∈ ys.getD n []
  ·rw [if_pos hx] at hj; omega
  ·rw [if_neg hx] at hj
   by_cases e : j = n
   ·subst e; exact hx
   ·exact zfv ys x n j qk hj
theorem zib (ys : List (List ByteArray)) (x : ByteArray) (hy : ys.length ≤ 1000) (hp : ∀ p ∈ ys,p.length ≤ 1000) : Ev (fun k => zaM.f k ys x) (zbO ys x ys.length) := by
 have go : ∀ n : Nat,n ≤ ys.length → Ev (fun k => zaM.l0 k ys x ((n : Int) - 1)) (zbO ys x n) := by
  intro n
  induction n with
  | zero =>
   intro _
   refine Ev.step (fun k => by rw [zaM.l0]) ?_
   refine Ev.ifn ?_ (Ev.now _)
   omega
  | succ n ih =>
   intro hn
   have e : ((n + 1 : Nat) : Int) - 1 = (n : Int) := by omega
   have r1 : zbo ys (n : Int) = ys.getD n [] := by simp [zbo]
   have hm : ys.getD n [] ∈ ys := by rw [List.getD_eq_getElem?_getD,List.getElem?_eq_getElem qk,Option.getD_some]; exact List.getElem_mem _
   rw [e,zbO]
   refine Ev.step (fun k => by rw [zaM.l0]) (Ev.ifp qk (Ev.ifp qk (Ev.ifp qk (Ev.be (ze6 _ x (by rw [r1]; exact hp _ hm)) ?_))))
   rw [r1]
   by_cases hx : x ∈ ys.getD n []
   ·rw [decide_eq_true hx,if_pos hx]; exact Ev.ifp rfl (Ev.now _)
   ·rw [decide_eq_false hx,if_neg hx]
    refine Ev.ifn qt ?_
    rw [zcx qk qk]
    exact ih qk
 have h := go ys.length (Nat.le_refl _)
 unfold zaM.f
 rw [zcx qk qk]
 exact h
def zhY (ys : List (List ByteArray)) (x : ByteArray) : Prop := 0 ≤ zbO ys x ys.length ∧ zbO ys x ys.length < (ys.length : Int) - 1
instance (ys : List (List ByteArray)) (x : ByteArray) : Decidable (zhY ys x) := by unfold zhY; infer_instance
theorem zdO (l : List Int) (s1 s2 : Int) (h1 : 0 ≤ s1) (hl : l.length ≤ 17592186044416) (n : Int) (h0 : 1 ≤ n) (hn : n ≤ 1000) : ∃ (b : Bool) (t1 t2 : Int),zal.f l s1 s2 n = some (b,t1,t2) ∧ 0 ≤ t1 := by
 obtain ⟨r,t1,t2,h,h2,h3,h4⟩ := zeS l s1 s2 h1 hl (n - 1) qk qk
 unfold zal.f
 rw [zcx qk qk,h]
 exact ⟨r == 0,t1,t2,rfl,h4⟩
theorem zfG (p : List ByteArray) (h : p.length ≤ 1000) : zaC.f p = some p := by
 unfold zaC.f
 rw [Option.bind_some,if_pos (by simp only [List.length_nil]; omega)]
 rfl
def YG (N : Nat) (g : Nat → Option (List (List ByteArray) × Int × Int)) : Prop := ∃ zs t1 t2,Ev g (zs,t1,t2) ∧ zs.length = N ∧ (∀ q ∈ zs,Good 6 q) ∧ 0 ≤ t1
theorem YG.to {N : Nat} {g f : Nat → Option (List (List ByteArray) × Int × Int)} (h : YG N g) (hg : ∀ r,Ev g r → Ev f r) : YG N f := by
 obtain ⟨zs,t1,t2,h1,h2⟩ := h
 exact ⟨zs,t1,t2,hg _ h1,h2⟩
theorem zge (l : List Int) (hl : l.length ≤ 17592186044416) : ∀ (m : Nat) (ys : List (List ByteArray)) (p : List ByteArray) (s1 s2 : Int),Good 6 p → (∀ q ∈ ys,Good 6 q) → ys.length + m ≤ 100 → 0 ≤ s1 → YG (ys.length + m) (fun k => zo.l0 k ys p (m : Int) l s1 s2)
 | 0,ys,p,s1,s2,hp,hy,hm,h1 => ⟨ys,s1,s2,Ev.step (fun k => by rw [zo.l0]) (Ev.ifn qk (Ev.now _)),rfl,hy,h1⟩
 | m + 1,ys,p,s1,s2,hp,hy,hm,h1 => by
  have e1 : wrap64 (((m + 1 : Nat) : Int) - 1) = (m : Int) := by rw [zcx qk qk]; omega
  have ih : ∀ (q : List ByteArray) (s1 s2 : Int),Good 6 q → 0 ≤ s1 → YG (ys.length + (m + 1)) (fun k => zo.l0 k (ys ++ [p]) q (m : Int) l s1 s2) := fun q s1 s2 hq h1 => by
   have h := zge l hl m (ys ++ [p]) q s1 s2 hq (fun z hz => by
    rcases List.mem_append.1 hz with h | h
    ·exact hy z h
    ·rw [List.mem_singleton.1 h]; exact hp) qH h1
   rwa [show (ys ++ [p]).length + m = ys.length + (m + 1) by simp; omega] at h
  have J6 : ∀ (b : Bool) (q : List ByteArray) (s1 s2 : Int),Good 6 q → (b = true → q.length < 6) → 0 ≤ s1 → YG (ys.length + (m + 1)) (fun k => zo.j6 k (ys ++ [p]) q ((m + 1 : Nat) : Int) b l s1 s2) := fun b q s1 s2 hq hb h1 => by
   cases b with
   | true =>
    obtain ⟨x,u1,u2,hx,hxw,hu⟩ := zec l s1 s2 h1 hl
    refine (ih (q ++ [x]) u1 u2 ⟨by have := hb rfl; simp; omega,fun z hz => by
     rcases List.mem_append.1 hz with h | h
     ·exact hq.2 z h
     ·rw [List.mem_singleton.1 h]; exact hxw⟩ hu).to fun r hr => Ev.step (fun k => by rw [zo.j6]) (Ev.ifp rfl (Ev.bs (zfG q (by have := hq.1; omega)) (Ev.bs hx ?_)))
    have hq1 := hq.1
    refine Ev.ifp qk ?_
    rw [e1]; exact hr
   | false =>
    refine (ih q s1 s2 hq h1).to fun r hr => Ev.step (fun k => by rw [zo.j6]) (Ev.ifn qt ?_)
    rw [e1]; exact hr
  have J5 : ∀ (q : List ByteArray) (s1 s2 : Int),Good 6 q → 0 ≤ s1 → YG (ys.length + (m + 1)) (fun k => zo.j5 k (ys ++ [p]) q ((m + 1 : Nat) : Int) l s1 s2) := fun q s1 s2 hq h1 => by
   by_cases h6 : (q.length : Int) < 6
   ·obtain ⟨b,u1,u2,hb,hu⟩ := zdO l s1 s2 h1 hl 3 qk qk
    exact (J6 b q u1 u2 hq (fun _ => by omega) hu).to fun r hr => Ev.step (fun k => by rw [zo.j5]) (Ev.ifp h6 (Ev.bs hb hr))
   ·exact (J6 false q s1 s2 hq qD h1).to fun r hr => Ev.step (fun k => by rw [zo.j5]) (Ev.ifn h6 hr)
  have J4 : ∀ (b : Bool) (q : List ByteArray) (s1 s2 : Int),Good 6 q → (b = true → 1 ≤ (q.length : Int)) → 0 ≤ s1 → YG (ys.length + (m + 1)) (fun k => zo.j4 k (ys ++ [p]) q ((m + 1 : Nat) : Int) b l s1 s2) := fun b q s1 s2 hq hb h1 => by
   cases b with
   | true => exact (J5 (q.drop (1 : Int).toNat) s1 s2 ⟨by have := hq.1; simp; omega,fun z hz => hq.2 z (List.mem_of_mem_drop hz)⟩ h1).to fun r hr => Ev.step (fun k => by rw [zo.j4]) (Ev.ifp rfl (Ev.ifp (hb rfl) hr))
   | false => exact (J5 q s1 s2 hq h1).to fun r hr => Ev.step (fun k => by rw [zo.j4]) (Ev.ifn qt hr)
  have J3 : ∀ (q : List ByteArray) (s1 s2 : Int),Good 6 q → 0 ≤ s1 → YG (ys.length + (m + 1)) (fun k => zo.j3 k (ys ++ [p]) q ((m + 1 : Nat) : Int) l s1 s2) := fun q s1 s2 hq h1 => by
   by_cases h6 : (q.length : Int) > 0
   ·obtain ⟨b,u1,u2,hb,hu⟩ := zdO l s1 s2 h1 hl 3 qk qk
    exact (J4 b q u1 u2 hq (fun _ => by omega) hu).to fun r hr => Ev.step (fun k => by rw [zo.j3]) (Ev.ifp h6 (Ev.bs hb hr))
   ·exact (J4 false q s1 s2 hq qD h1).to fun r hr => Ev.step (fun k => by rw [zo.j3]) (Ev.ifn h6 hr)
  have J2 : ∀ (b : Bool) (q : List ByteArray) (s1 s2 : Int),Good 6 q → (b = true → (q.length : Int) > 0) → 0 ≤ s1 → YG (ys.length + (m + 1)) (fun k => zo.j2 k (ys ++ [p]) q ((m + 1 : Nat) : Int) b l s1 s2) := fun b q s1 s2 hq hb h1 => by
   cases b with
   | true =>
    have hq1 := hq.1
    have hq0 := hb rfl
    obtain ⟨n,u1,u2,hn,hn0,hn1,hu⟩ := zeS l s1 s2 h1 hl ((q.length : Int) - 1) qk qk
    obtain ⟨x,v1,v2,hx,hxw,hv⟩ := zec l u1 u2 hu hl
    refine (J3 (q.set (n : Int).toNat x) v1 v2 ⟨by simpa using hq1,fun z hz => ?_⟩ hv).to fun r hr => Ev.step (fun k => by rw [zo.j2]) (Ev.ifp rfl (Ev.bs (zfG q qk) (Ev.bs (a := (n,u1,u2)) ?_ (Ev.bs hx (Ev.ifp hn0 ?_)))))
    ·rcases List.mem_or_eq_of_mem_set hz with h | h
     ·exact hq.2 z h
     ·rw [h]; exact hxw
    ·rw [zcx qk qk]; exact hn
    ·have hq2 : n < (q.length : Int) := by omega
     exact Ev.ifp hq2 hr
   | false => exact (J3 q s1 s2 hq h1).to fun r hr => Ev.step (fun k => by rw [zo.j2]) (Ev.ifn qt hr)
  have J1 : ∀ (q : List ByteArray) (s1 s2 : Int),Good 6 q → 0 ≤ s1 → YG (ys.length + (m + 1)) (fun k => zo.j1 k (ys ++ [p]) q ((m + 1 : Nat) : Int) l s1 s2) := fun q s1 s2 hq h1 => by
   by_cases h6 : (q.length : Int) > 0
   ·obtain ⟨b,u1,u2,hb,hu⟩ := zdO l s1 s2 h1 hl 2 qk qk
    exact (J2 b q u1 u2 hq (fun _ => h6) hu).to fun r hr => Ev.step (fun k => by rw [zo.j1]) (Ev.ifp h6 (Ev.bs hb hr))
   ·exact (J2 false q s1 s2 hq qD h1).to fun r hr => Ev.step (fun k => by rw [zo.j1]) (Ev.ifn h6 hr)
  obtain ⟨b,u1,u2,hb,hu⟩ := zdO l s1 s2 h1 hl 4 qk qk
  cases b with
  | true =>
   obtain ⟨q,v1,v2,g1,g2,g3,g4⟩ := zeX l u1 u2 hu hl 4 qk 200 qk
   refine (J1 q v1 v2 ⟨by omega,g3⟩ g4).to fun r hr => Ev.step (fun k => by rw [zo.l0]) (Ev.ifp qk (Ev.bs (zfG p (by have := hp.1; omega)) ?_))
   refine Ev.ifp qk ?_
   refine Ev.bs rfl ?_
   refine Ev.bs hb ?_
   refine Ev.ifp rfl ?_
   exact Ev.be (Ev.of (zK.mono _ _ _ _) g1) hr
  | false =>
   refine (J1 p u1 u2 hp hu).to fun r hr => Ev.step (fun k => by rw [zo.l0]) (Ev.ifp qk (Ev.bs (zfG p (by have := hp.1; omega)) ?_))
   refine Ev.ifp qk ?_
   refine Ev.bs rfl ?_
   refine Ev.bs hb ?_
   exact Ev.ifn Bool.false_ne_true hr
theorem zi5 (l : List Int) (hl : l.length ≤ 17592186044416) (s1 s2 : Int) (h1 : 0 ≤ s1) (n : Nat) (hn : n ≤ 90) : ∃ ys t1 t2,Ev (fun k => zo.f k l s1 s2 (n : Int)) (ys,t1,t2) ∧ ys.length ≤ n ∧ (∀ q ∈ ys,Good 6 q) ∧ 0 ≤ t1 := by
 obtain ⟨q,u1,u2,g1,g2,g3,g4⟩ := zeX l s1 s2 h1 hl 4 qk 200 qk
 obtain ⟨r,v1,v2,h2,h3,h4,h5⟩ := zeS l u1 u2 g4 hl n qk qk
 obtain ⟨m,rfl⟩ := Int.eq_ofNat_of_zero_le h3
 obtain ⟨zs,t1,t2,h6,h7,h8,h9⟩ := zge l hl m [] q v1 v2 ⟨by omega,g3⟩ qD qH h5
 refine ⟨zs,t1,t2,?_,by simp at h7; omega,h8,h9⟩
 unfold zo.f
 exact Ev.be (Ev.of (zK.mono _ _ _ _) g1) (Ev.bs h2 h6)
def lastOf : Option S63 → List S63 → Option S63
 | p,[] => p
 | _,m :: ms => lastOf (some m) ms
theorem zdn (m : S63) : ∀ (ms : List S63) (p : Option S63),lastOf p (ms ++ [m]) = some m
 | [],_ => rfl
 | _ :: ms,_ => zdn m ms _
theorem zeH (n : Nat) (m : S63) : ∀ (ms : List S63) (p : Option S63),zbs n p ms = 0 → zbG n (lastOf p ms) m = 0 → zbs n p (ms ++ [m]) = 0
 | [],p,_,h => by
  simp only [lastOf] at h
  rw [List.nil_append,zbs,if_pos h,zbs]
 | a :: ms,p,h,h2 => by
  rw [zbs] at h
  rw [List.cons_append,zbs]
  by_cases hc : zbG n p a = 0
  ·rw [if_pos hc] at h ⊢
   exact zeH n m ms _ h h2
  ·rw [if_neg hc] at h; exact absurd h hc
def zct (n : Nat) (m : S63) : Prop := 0 ≤ m.f1 ∧ m.f1 ≤ (n : Int) ∧ ((m.f0 = 3 ∧ m.f2 = ⟨#[]⟩ ∧ m.f1 < (n : Int)) ∨ (m.f0 = 1 ∧ m.f2 ∈ zcG) ∨ (m.f0 = 2 ∧ m.f2 ∈ zcG ∧ m.f1 < (n : Int)))
def MOK (n : Nat) (ms : List S63) : Prop := zbs n none ms = 0 ∧ ∀ m ∈ ms,zct n m
theorem zgg {x : ByteArray} (h : x ∈ zcG) : zaX x = 0 := Good.check.words6_ok_ x h
theorem zct.text {n : Nat} {m : S63} (h : zct n m) : zbX m = 0 := by
 unfold zbX
 rcases h.2.2 with ⟨h1,h2,_⟩ | ⟨h1,h2⟩ | ⟨h1,h2,_⟩
 ·rw [if_pos h1,h2,if_pos (by rw [ByteArray.toList_eq])]
 ·rw [if_neg qk]; exact zgg h2
 ·rw [if_neg qk]; exact zgg h2
theorem zct.err {n : Nat} {m : S63} (h : zct n m) {p : Option S63} (hp : ∀ q,p = some q → q.f1 < m.f1 ∨ (q.f1 = m.f1 ∧ q.f0 = 1)) : zbG n p m = 0 := by
 have h1 := h.1
 have h2 := h.2.1
 unfold zbG
 have hk : ¬ (m.f0 < 1 ∨ 3 < m.f0) := by rcases h.2.2 with ⟨h1,_⟩ | ⟨h1,_⟩ | ⟨h1,_⟩ <;> omega
 have ha : ¬ (m.f1 < 0 ∨ (if m.f0 = 1 then (n : Int) else (n : Int) - 1) < m.f1) := by
  rcases h.2.2 with ⟨h3,_,h4⟩ | ⟨h3,_⟩ | ⟨h3,_,h4⟩
  ·rw [if_neg qk]; omega
  ·rw [if_pos h3]; omega
  ·rw [if_neg qk]; omega
 rw [if_neg hk,if_neg ha,if_pos h.text]
 cases p with
 | none => rfl
 | some q =>
  rcases hp q rfl with h1 | ⟨h1,h2⟩
  ·simp only [zbQ]; rw [if_neg qk,if_pos (Or.inl h1)]
  ·simp only [zbQ]; rw [if_neg qk,if_pos (Or.inr h2)]
theorem MOK.snoc {n : Nat} {ms : List S63} {m : S63} (h : MOK n ms) (hm : zct n m) (hp : ∀ q,lastOf none ms = some q → q.f1 < m.f1 ∨ (q.f1 = m.f1 ∧ q.f0 = 1)) : MOK n (ms ++ [m]) :=
 ⟨zeH n m ms none h.1 (hm.err hp),fun x hx => by
  rcases List.mem_append.1 hx with h1 | h1
  ·exact h.2 x h1
  ·rw [List.mem_singleton.1 h1]; exact hm⟩
def MG (n most : Nat) (g : Nat → Option (List S63 × Int × Int)) : Prop := ∃ zs t1 t2,Ev g (zs,t1,t2) ∧ zs.length ≤ most ∧ MOK n zs ∧ 0 ≤ t1
theorem MG.to {n most : Nat} {g f : Nat → Option (List S63 × Int × Int)} (h : MG n most g) (hg : ∀ r,Ev g r → Ev f r) : MG n most f := by
 obtain ⟨zs,t1,t2,h1,h2⟩ := h
 exact ⟨zs,t1,t2,hg _ h1,h2⟩
theorem zeB (l : List Int) (hl : l.length ≤ 17592186044416) (n most : Nat) (hn : n ≤ 1000) (hmo : most ≤ 1000) : ∀ (d at_ : Nat) (ms : List S63) (s1 s2 : Int),n + 1 - at_ = d → at_ ≤ n + 1 → 0 ≤ s1 → ms.length ≤ most → MOK n ms → (∀ q,lastOf none ms = some q → q.f1 < (at_ : Int)) →
  MG n most (fun k => zw.l0 k (n : Int) (most : Int) ms (at_ : Int) l s1 s2)
 | 0,at_,ms,s1,s2,hd,ha,h1,hms,hM,hlast => ⟨ms,s1,s2,Ev.step (fun k => by rw [zw.l0]) (Ev.ifn qk (Ev.now _)),hms,hM,h1⟩
 | d + 1,at_,ms,s1,s2,hd,ha,h1,hms,hM,hlast => by
  have hle : at_ ≤ n := by omega
  have ih := fun (ms : List S63) (s1 s2 : Int) => zeB l hl n most hn hmo d (at_ + 1) ms s1 s2 qk qk
  have hat6 : at_ ≤ 1000000 := by omega
  have J3 : ∀ (b : Bool) (ms : List S63) (s1 s2 : Int),0 ≤ s1 → ms.length ≤ most → (b = false → at_ < n ∧ ms.length < most) → MOK n ms → (∀ q,lastOf none ms = some q → q.f1 < (at_ : Int) ∨ (q.f1 = (at_ : Int) ∧ q.f0 = 1)) →
    MG n most (fun k => zw.j3 k (n : Int) (most : Int) ms (at_ : Int) b l s1 s2) := by
   intro b ms s1 s2 h1 hms hb hM hlast
   have hskip : ∀ q,lastOf none ms = some q → q.f1 < ((at_ + 1 : Nat) : Int) := fun q hq => by rcases hlast q hq with h | h <;> omega
   cases b with
   | true =>
    refine (ih ms s1 s2 h1 hms hM hskip).to fun r hr => Ev.step (fun k => by rw [zw.j3]) (Ev.ifp rfl ?_)
    rw [zce _ hat6]; exact hr
   | false =>
    obtain ⟨hb1,hb2⟩ := hb rfl
    obtain ⟨t,u1,u2,ht,ht0,ht1,hu⟩ := zeS l s1 s2 h1 hl 4 qk qk
    have hfew : ms.length < 4398046511104 := by omega
    by_cases c0 : t = 0
    ·obtain ⟨x,v1,v2,hx,hxw,hv⟩ := zec l u1 u2 hu hl
     have hg : zct n ⟨2,at_,x⟩ := ⟨by dsimp only; omega,by dsimp only; omega, .inr (.inr ⟨rfl,hxw,by dsimp only; omega⟩)⟩
     refine (ih (ms ++ [⟨2,at_,x⟩]) v1 v2 hv qH (hM.snoc hg hlast) (fun q hq => by
      rw [zdn] at hq; cases hq; dsimp only; omega)).to fun r hr => Ev.step (fun k => by rw [zw.j3]) (Ev.ifn Bool.false_ne_true (Ev.bs ht ?_))
     refine Ev.ifp c0 (Ev.bs hx (Ev.ifp hfew ?_))
     rw [zce _ hat6]; exact hr
    ·by_cases c1 : t = 1
     ·have hg : zct n ⟨3,at_,⟨#[]⟩⟩ := ⟨by dsimp only; omega,by dsimp only; omega, .inl ⟨rfl,rfl,by dsimp only; omega⟩⟩
      refine (ih (ms ++ [⟨3,at_,⟨#[]⟩⟩]) u1 u2 hu qH (hM.snoc hg hlast) (fun q hq => by
       rw [zdn] at hq; cases hq; dsimp only; omega)).to fun r hr => Ev.step (fun k => by rw [zw.j3]) (Ev.ifn Bool.false_ne_true (Ev.bs ht ?_))
      refine Ev.ifn c0 (Ev.ifp c1 (Ev.ifp hfew ?_))
      rw [zce _ hat6]; exact hr
     ·refine (ih ms u1 u2 hu hms hM hskip).to fun r hr => Ev.step (fun k => by rw [zw.j3]) (Ev.ifn Bool.false_ne_true (Ev.bs ht ?_))
      refine Ev.ifn c0 (Ev.ifn c1 ?_)
      rw [zce _ hat6]; exact hr
  have J2 : ∀ (ms : List S63) (s1 s2 : Int),0 ≤ s1 → ms.length ≤ most → MOK n ms → (∀ q,lastOf none ms = some q → q.f1 < (at_ : Int) ∨ (q.f1 = (at_ : Int) ∧ q.f0 = 1)) →
    MG n most (fun k => zw.j2 k (n : Int) (most : Int) ms (at_ : Int) l s1 s2) := by
   intro ms s1 s2 h1 hms hM hlast
   by_cases c : (at_ : Int) = (n : Int)
   ·exact (J3 true ms s1 s2 h1 hms qD hM hlast).to fun r hr => Ev.step (fun k => by rw [zw.j2]) (Ev.ifp c hr)
   ·refine (J3 ((ms.length : Int) == (most : Int)) ms s1 s2 h1 hms ?_ hM hlast).to fun r hr => Ev.step (fun k => by rw [zw.j2]) (Ev.ifn c hr)
    intro hb
    have := beq_eq_false_iff_ne.1 hb
    omega
  have L1 : ∀ (m : Nat) (ms : List S63) (s1 s2 : Int),most - ms.length = m → 0 ≤ s1 → ms.length ≤ most → MOK n ms → (∀ q,lastOf none ms = some q → q.f1 < (at_ : Int) ∨ (q.f1 = (at_ : Int) ∧ q.f0 = 1)) →
    MG n most (fun k => zw.l1 k (n : Int) (most : Int) ms (at_ : Int) l s1 s2) := by
   intro m
   induction m with
   | zero =>
    intro ms s1 s2 hm h1 hms hM hlast
    obtain ⟨b,u1,u2,hb,hu⟩ := zdO l s1 s2 h1 hl 4 qk qk
    refine (J2 ms u1 u2 hu hms hM hlast).to fun r hr => Ev.step (fun k => by rw [zw.l1]) (Ev.bs hb ?_)
    cases b with
    | true => refine Ev.ifp rfl ?_; exact Ev.ifn qk hr
    | false => exact Ev.ifn Bool.false_ne_true hr
   | succ m ihm =>
    intro ms s1 s2 hm h1 hms hM hlast
    obtain ⟨b,u1,u2,hb,hu⟩ := zdO l s1 s2 h1 hl 4 qk qk
    cases b with
    | true =>
     obtain ⟨x,v1,v2,hx,hxw,hv⟩ := zec l u1 u2 hu hl
     have hg : zct n ⟨1,at_,x⟩ := ⟨by dsimp only; omega,by dsimp only; omega, .inr (.inl ⟨rfl,hxw⟩)⟩
     have hlt : (ms.length : Int) < (most : Int) := by omega
     have hfew : ms.length < 4398046511104 := by omega
     exact (ihm (ms ++ [⟨1,at_,x⟩]) v1 v2 qH hv qH (hM.snoc hg hlast) (fun q hq => by
      rw [zdn] at hq; cases hq; exact .inr ⟨rfl,rfl⟩)).to fun r hr => Ev.step (fun k => by rw [zw.l1]) (Ev.bs hb (Ev.ifp rfl (Ev.ifp hlt (Ev.bs hx (Ev.ifp hfew hr)))))
    | false =>
     exact (J2 ms u1 u2 hu hms hM hlast).to fun r hr => Ev.step (fun k => by rw [zw.l1]) (Ev.bs hb (Ev.ifn Bool.false_ne_true hr))
  have hle' : (at_ : Int) ≤ (n : Int) := by omega
  exact (L1 _ ms s1 s2 rfl h1 hms hM (fun q hq => .inl (hlast q hq))).to fun r hr => Ev.step (fun k => by rw [zw.l0]) (Ev.ifp hle' hr)
theorem ziT (l : List Int) (hl : l.length ≤ 17592186044416) (s1 s2 : Int) (h1 : 0 ≤ s1) (n most : Nat) (hn : n ≤ 1000) (hmo : most ≤ 1000) : ∃ ms t1 t2,Ev (fun k => zw.f k l s1 s2 (n : Int) (most : Int)) (ms,t1,t2) ∧ ms.length ≤ most ∧ MOK n ms ∧ 0 ≤ t1 := by
 obtain ⟨zs,t1,t2,h,h2⟩ := zeB l hl n most hn hmo (n + 1) 0 [] s1 s2 qk qk h1 qD ⟨rfl,fun m hm => by cases hm⟩ (fun q hq => by cases hq)
 exact ⟨zs,t1,t2,h,h2⟩
theorem MOK.marks {n : Nat} {ms : List S63} (h : MOK n ms) (hl : ms.length ≤ 12) : zcI n ms = 0 := by
 unfold zcI; rw [if_neg qk]; exact h.1
theorem MOK.fits {n : Nat} {ms : List S63} (h : MOK n ms) : ms.all (zbY n) = true := by
 rw [List.all_eq_true]
 intro m hm
 obtain ⟨h1,h2,h3⟩ := h.2 m hm
 unfold zbY
 rcases h3 with ⟨h3,_,h4⟩ | ⟨h3,_⟩ | ⟨h3,_,h4⟩ <;> simp [h3] <;> omega
theorem zhF (pg : List ByteArray) (ms : List S63) : Ev (fun k => zaU.f k pg ms) (zb6 pg ms) := ⟨62,fun k hk => zhP pg ms k qk⟩
theorem MOK.checked {pg : List ByteArray} {ms : List S63} (hg : Good 6 pg) (h : MOK pg.length ms) (hl : ms.length ≤ 12) : zb6 pg ms = 0 := by
 unfold zb6; rw [if_pos hg.check]; exact h.marks hl
theorem toList_nil {x : ByteArray} (h : x.toList = []) : x = ⟨#[]⟩ := bytes_inj (h.trans (by rw [ByteArray.toList_eq]))
theorem zhK (a : List ByteArray) : ∀ i : Nat,zbj i a a [] := by
 induction a with
 | nil => exact fun i => .nil i
 | cons x a ih => exact fun i => .keep x (ih (i + 1))
theorem zcR (n : Nat) : ∀ (s : Nat) (ms : List S63) (a : List ByteArray) (i : Nat) (prev : Option S63),ms.length + a.length ≤ s → i + a.length = n → zbs n prev ms = 0 → (∀ m,ms.head? = some m → (i : Int) ≤ m.f1) → ∃ b,zbj i a b ms
 | s,[],a,i,prev,_,_,_,_ => ⟨a,zhK a i⟩
 | 0,m :: ms,a,i,prev,hs,_,_,_ => by simp at hs
 | s + 1,m :: ms,a,i,prev,hs,hn,hv,hh => by
  simp only [List.length_cons] at hs
  have hi := hh m rfl
  rw [zbs] at hv
  have hme : zbG n prev m = 0 := by
   by_cases hc : zbG n prev m = 0
   ·exact hc
   ·rw [if_neg hc] at hv; exact absurd hv hc
  rw [if_pos hme] at hv
  unfold zbG at hme
  have c1 : ¬ (m.f0 < 1 ∨ 3 < m.f0) := fun h => by rw [if_pos h] at hme; cases hme
  rw [if_neg c1] at hme
  have c2 : ¬ (m.f1 < 0 ∨ (if m.f0 = 1 then (n : Int) else (n : Int) - 1) < m.f1) := fun h => by rw [if_pos h] at hme; cases hme
  rw [if_neg c2] at hme
  have c3 : zbX m = 0 := by
   by_cases h : zbX m = 0
   ·exact h
   ·rw [if_neg h] at hme; exact absurd hme h
  have hle : m.f1 ≤ (n : Int) := by
   by_cases h : m.f0 = 1
   ·rw [if_pos h] at c2; omega
   ·rw [if_neg h] at c2; omega
  have hlt : m.f0 ≠ 1 → m.f1 < (n : Int) := fun h => by rw [if_neg h] at c2; omega
  by_cases hgt : (i : Int) < m.f1
  ·cases a with
   | nil => simp at hn; omega
   | cons x a =>
    simp only [List.length_cons] at hs hn
    have hv' : zbs n prev (m :: ms) = 0 := by
     rw [zbs]; unfold zbG; rw [if_neg c1,if_neg c2,if_pos c3]
     rw [if_pos c3] at hme; rw [if_pos hme]; exact hv
    obtain ⟨b,hb⟩ := zcR n s (m :: ms) a (i + 1) prev qE qk hv' (fun q hq => by cases hq; omega)
    exact ⟨x :: b, .keep x hb⟩
  ·have e1 : m.f1 = (i : Int) := by omega
   obtain ⟨f0,f1,f2⟩ := m
   dsimp only at e1 c1 hlt c3
   subst e1
   have hnext : ∀ q,ms.head? = some q → (i : Int) ≤ q.f1 ∧ (f0 ≠ 1 → (i : Int) < q.f1) := by
    intro q hq
    cases ms with
    | nil => cases hq
    | cons q' ms =>
     cases hq
     rw [zbs] at hv
     have hme2 : zbG n (some ⟨f0,i,f2⟩) q = 0 := by
      by_cases hc : zbG n (some ⟨f0,i,f2⟩) q = 0
      ·exact hc
      ·rw [if_neg hc] at hv; exact absurd hv hc
     unfold zbG at hme2
     have d1 : ¬ (q.f0 < 1 ∨ 3 < q.f0) := fun h => by rw [if_pos h] at hme2; cases hme2
     rw [if_neg d1] at hme2
     have d2 : ¬ (q.f1 < 0 ∨ (if q.f0 = 1 then (n : Int) else (n : Int) - 1) < q.f1) := fun h => by rw [if_pos h] at hme2; cases hme2
     rw [if_neg d2] at hme2
     have d3 : zbX q = 0 := by
      by_cases h : zbX q = 0
      ·exact h
      ·rw [if_neg h] at hme2; exact absurd hme2 h
     rw [if_pos d3] at hme2
     simp only [zbQ] at hme2
     by_cases k1 : q.f1 < (i : Int)
     ·rw [if_pos k1] at hme2; cases hme2
     ·rw [if_neg k1] at hme2
      refine ⟨by omega,fun h1 => ?_⟩
      by_cases k2 : (i : Int) < q.f1
      ·exact k2
      ·rw [if_neg (fun h => h.elim k2 h1)] at hme2
       by_cases k3 : q.f0 = 1
       ·rw [if_pos k3] at hme2; cases hme2
       ·rw [if_neg k3] at hme2; cases hme2
   by_cases k1 : f0 = 1
   ·subst k1
    obtain ⟨b,hb⟩ := zcR n s ms a i _ qk hn hv (fun q hq => (hnext q hq).1)
    exact ⟨f2 :: b, .ins f2 hb⟩
   ·have hin := hlt k1
    cases a with
    | nil => simp at hn; omega
    | cons x a =>
     simp only [List.length_cons] at hs hn
     obtain ⟨b,hb⟩ := zcR n s ms a (i + 1) _ qk qk hv (fun q hq => by have := (hnext q hq).2 k1; omega)
     by_cases k3 : f0 = 3
     ·subst k3
      have : f2 = ⟨#[]⟩ := by
       unfold zbX at c3
       rw [if_pos rfl] at c3
       by_cases h : f2.toList = []
       ·exact toList_nil h
       ·rw [if_neg h] at c3; cases c3
      subst this
      exact ⟨b, .del x hb⟩
     ·have : f0 = 2 := by omega
      subst this
      exact ⟨f2 :: b, .set x f2 hb⟩
theorem ze7 {pg : List ByteArray} {ms : List S63} (h : zcI pg.length ms = 0) : zbj 0 pg (zcC pg ms) ms := by
 unfold zcI at h
 by_cases h12 : 12 < ms.length
 ·rw [if_pos h12] at h; cases h
 ·rw [if_neg h12] at h
  have hge : ∀ m,ms.head? = some m → ((0 : Nat) : Int) ≤ m.f1 := by
   intro m hm
   cases ms with
   | nil => cases hm
   | cons q ms =>
    cases hm
    rw [zbs] at h
    unfold zbG at h
    by_cases c2 : m.f1 < 0 ∨ (if m.f0 = 1 then (pg.length : Int) else (pg.length : Int) - 1) < m.f1
    ·rw [if_pos c2] at h
     by_cases c1 : m.f0 < 1 ∨ 3 < m.f0
     ·rw [if_pos c1,if_neg qt] at h; cases h
     ·rw [if_neg c1,if_neg qt] at h; cases h
    ·omega
  obtain ⟨b,hb⟩ := zcR pg.length _ ms pg 0 none (Nat.le_refl _) qk h hge
  have hm := hb.made (P := pg) rfl (Nat.zero_le _) [] 0 (Nat.le_refl _)
  have e : zcC pg ms = b := by simpa [zcC] using hm
  rw [e]; exact hb
theorem zfu {n : Nat} {ms : List S63} (h : zcI n ms = 0) : ms.length ≤ 12 := by
 unfold zcI at h
 by_cases h12 : 12 < ms.length
 ·rw [if_pos h12] at h; cases h
 ·omega
theorem zcq {p : List ByteArray} (h : zaL p = 0) : p.length ≤ 6 := by
 unfold zaL at h
 by_cases h6 : 6 < p.length
 ·rw [if_pos h6] at h; cases h
 ·omega
theorem zfd {p : List ByteArray} {ms : List S63} (h : zb6 p ms = 0) : zaL p = 0 ∧ zcI p.length ms = 0 := by
 unfold zb6 at h
 by_cases hc : zaL p = 0
 ·rw [if_pos hc] at h; exact ⟨hc,h⟩
 ·rw [if_neg hc] at h; exact absurd h hc
def zbI (p : List ByteArray) (ms : List S63) : List ByteArray × Int :=
 if zb6 p ms = 0 then (if 6 < (zcC p ms).length then ([],6) else (zcC p ms,0)) else ([],zb6 p ms)
theorem zgw (p : List ByteArray) (ms : List S63) : Ev (fun k => zbR.f k p ms) (zbI p ms) := by
 unfold zbR.f zbI
 refine Ev.be (zhF p ms) ?_
 by_cases h : zb6 p ms = 0
 ·simp only [if_pos h]
  obtain ⟨h1,h2⟩ := zfd h
  have l1 := zcq h1
  have l2 := zfu h2
  have hm : zbU.f p ms = some (zcC p ms) := by
   unfold zbU.f
   rw [if_pos ⟨by omega,by omega,(ze7 h2).fits p.length qk⟩]
  refine Ev.bs hm ?_
  by_cases h6 : 6 < (zcC p ms).length
  ·rw [if_pos h6]
   have h6' : ((zcC p ms).length : Int) > 6 := by omega
   exact Ev.ifp h6' (Ev.now _)
  ·rw [if_neg h6]
   have h6' : ¬ ((zcC p ms).length : Int) > 6 := by omega
   exact Ev.ifn h6' (Ev.now _)
 ·simp only [if_neg h]
  exact Ev.now _
def zcD : List S63 → Int
 | [] => 0
 | m :: ms => (if m.f0 = 3 then 0 else 1) + zcD ms
def zdJ : List S63 → Int
 | [] => 0
 | m :: ms => (if m.f0 = 1 then 1 else if m.f0 = 3 then -1 else 0) + zdJ ms
theorem zbj.ge {i : Nat} {a b : List ByteArray} {ms : List S63} (h : zbj i a b ms) : ∀ m ∈ ms,(i : Int) ≤ m.f1 := by
 induction h with
 | nil i => intro m hm; cases hm
 | ins y h ih =>
  intro m hm
  rcases List.mem_cons.1 hm with rfl | hm
  ·exact Int.le_refl _
  ·exact ih m hm
 | del x h ih =>
  intro m hm
  rcases List.mem_cons.1 hm with rfl | hm
  ·exact Int.le_refl _
  ·have := ih m hm; omega
 | set x y h ih =>
  intro m hm
  rcases List.mem_cons.1 hm with rfl | hm
  ·exact Int.le_refl _
  ·have := ih m hm; omega
 | keep x h ih =>
  intro m hm
  have := ih m hm; omega
theorem zbj.grow {i : Nat} {a b : List ByteArray} {ms : List S63} (h : zbj i a b ms) : (b.length : Int) = a.length + zdJ ms := by
 induction h with
 | nil i => rfl
 | ins y h ih => simp only [zdJ,List.length_cons,if_true]; omega
 | del x h ih => simp [zdJ]; omega
 | set x y h ih => simp [zdJ]; omega
 | keep x h ih => simp only [List.length_cons]; omega
theorem zbV (m : S63) (x : Int × List S63) (n : Nat) (h0 : 0 ≤ x.1) (hn : x.1 ≤ n) (hb : n ≤ 5000) : 0 ≤ (zx m x).1 ∧ (zx m x).1 ≤ n + 1 := by
 unfold zx
 dsimp only
 split
 ·omega
 ·unfold wrap64; omega
theorem zcF (a : List ByteArray) : ∀ (b : List ByteArray) (i : Nat),a.length + b.length ≤ 2000 → 0 ≤ (dsp i a b).1 ∧ (dsp i a b).1 ≤ (a.length + b.length : Nat) := by
 induction a with
 | nil =>
  intro b
  induction b with
  | nil => intro i _; simp [dsp]
  | cons y b ih =>
   intro i hl
   rw [dsp]
   simp only [List.length_cons,List.length_nil] at hl ⊢
   have h := ih i qH
   simp only [List.length_nil] at h
   have := zbV ⟨1,i,y⟩ _ (0 + b.length) h.1 h.2 qk
   omega
 | cons x a iha =>
  intro b
  induction b with
  | nil =>
   intro i hl
   rw [dsp]
   simp only [List.length_cons,List.length_nil] at hl ⊢
   have h := iha [] (i + 1) qH
   simp only [List.length_nil] at h
   have := zbV ⟨3,i,⟨#[]⟩⟩ _ (a.length + 0) h.1 h.2 qk
   omega
  | cons y b ih =>
   intro i hl
   rw [dsp]
   simp only [List.length_cons] at hl ⊢
   have h1 := ih i qH
   have h2 := iha (y :: b) (i + 1) qH
   have h3 := iha b (i + 1) qk
   simp only [List.length_cons] at h1 h2
   have c1 := zbV ⟨1,i,y⟩ _ _ h1.1 h1.2 qk
   have c2 := zbV ⟨3,i,⟨#[]⟩⟩ _ _ h2.1 h2.2 qk
   have c3 := zbV ⟨2,i,y⟩ _ _ h3.1 h3.2 qk
   rcases zc5 ([zx ⟨3,i,⟨#[]⟩⟩ (dsp (i + 1) a (y :: b)),zx ⟨2,i,y⟩ (dsp (i + 1) a b)] ++ (if (x.toList == y.toList) = true then [dsp (i + 1) a b] else [])) (zx ⟨1,i,y⟩ (dsp i (x :: a) b)) with h | h
   ·rw [h]; omega
   ·generalize zbm (zx ⟨1,i,y⟩ (dsp i (x :: a) b)) ([zx ⟨3,i,⟨#[]⟩⟩ (dsp (i + 1) a (y :: b)),zx ⟨2,i,y⟩ (dsp (i + 1) a b)] ++ (if (x.toList == y.toList) = true then [dsp (i + 1) a b] else [])) = r at h ⊢
    rcases List.mem_append.1 h with h | h
    ·simp only [List.mem_cons,List.not_mem_nil,or_false] at h
     rcases h with rfl | rfl <;> omega
    ·by_cases he : (x.toList == y.toList) = true
     ·rw [if_pos he] at h
      simp only [List.mem_cons,List.not_mem_nil,or_false] at h
      subst h; omega
     ·rw [if_neg he] at h; cases h
theorem ziw {x : Int × List S63} (h : 0 ≤ x.1) : ¬ cmpL x (0,[]) < 0 := by
 obtain ⟨c,l⟩ := x
 unfold cmpL or3 zdV
 dsimp only at h ⊢
 cases l with
 | nil => simp only [zd4,List.length_nil]; split <;> split <;> omega
 | cons m l => simp only [zd4,List.length_cons,List.length_nil]; split <;> split <;> omega
theorem zh2 {x : Int × List S63} (h : 0 ≤ x.1) : cmpL (0,[]) x < 0 ∨ x = (0,[]) := by
 obtain ⟨c,l⟩ := x
 dsimp only at h
 by_cases hc : c = 0
 ·subst hc
  cases l with
  | nil => right; rfl
  | cons m l =>
   left
   unfold cmpL or3 zdV
   simp only [zd4,List.length_cons,List.length_nil]
   split <;> split <;> omega
 ·left
  unfold cmpL or3 zdV
  dsimp only
  split <;> split <;> omega
theorem zg9 (xs : List (Int × List S63)) : ∀ f : Int × List S63,0 ≤ f.1 → (∀ x ∈ xs,0 ≤ x.1) → (f = (0,[]) ∨ (0,[]) ∈ xs) → zbm f xs = (0,[]) := by
 induction xs with
 | nil =>
  intro f _ _ h
  rcases h with h | h
  ·exact h
  ·cases h
 | cons x xs ih =>
  intro f hf hx h
  have hx0 := hx x List.mem_cons_self
  rw [zbm]
  rcases h with rfl | h
  ·rw [if_neg (ziw hx0)]
   exact ih _ hf (fun y hy => hx y (List.mem_cons_of_mem _ hy)) (.inl rfl)
  ·rcases List.mem_cons.1 h with rfl | h
   ·rcases zh2 hf with h2 | rfl
    ·rw [if_pos h2]
     exact ih _ (Int.le_refl _) (fun y hy => hx y (List.mem_cons_of_mem _ hy)) (.inl rfl)
    ·rw [ite_self]
     exact ih _ (Int.le_refl _) (fun y hy => hx y (List.mem_cons_of_mem _ hy)) (.inl rfl)
   ·refine ih _ ?_ (fun y hy => hx y (List.mem_cons_of_mem _ hy)) (.inr h)
    split
    ·exact hx0
    ·exact hf
theorem zi2 (a : List ByteArray) : ∀ i : Nat,a.length ≤ 500 → dsp i a a = (0,[]) := by
 induction a with
 | nil => intro i _; rw [dsp]
 | cons x a ih =>
  intro i hl
  simp only [List.length_cons] at hl
  have h0 := ih (i + 1) qk
  have h1 := zcF (x :: a) a i qH
  have h2 := zcF a (x :: a) (i + 1) qH
  have h3 := zcF a a (i + 1) qk
  simp only [List.length_cons] at h1 h2
  have c1 := zbV ⟨1,i,x⟩ _ _ h1.1 h1.2 qk
  have c2 := zbV ⟨3,i,⟨#[]⟩⟩ _ _ h2.1 h2.2 qk
  have c3 := zbV ⟨2,i,x⟩ _ _ h3.1 h3.2 qk
  rw [dsp,if_pos qD]
  refine zg9 _ _ c1.1 (fun y hy => ?_) (.inr ?_)
  ·simp only [List.cons_append,List.nil_append,List.mem_cons,List.not_mem_nil,or_false] at hy
   rcases hy with rfl | rfl | rfl
   ·exact c2.1
   ·exact c3.1
   ·exact h3.1
  ·simp [h0]
def zbu : List ByteArray → List ByteArray → Nat
 | [],_ => 0
 | _ :: _,[] => 0
 | x :: a,y :: b => if x.toList = y.toList then zbu a b + 1 else max (zbu a (y :: b)) (zbu (x :: a) b)
termination_by a b => a.length + b.length
theorem zfm (a : List ByteArray) : zbu a [] = 0 := by cases a <;> simp [zbu]
theorem zdL : ∀ (n : Nat) (a b x : List ByteArray),a.length + b.length ≤ n → x.Sublist a → x.Sublist b → x.length ≤ zbu a b
 | n,[],b,x,_,h,_ => by rw [List.sublist_nil.1 h]; simp
 | n,_ :: _,[],x,_,_,h => by rw [List.sublist_nil.1 h]; simp
 | 0,c :: a,d :: b,x,hn,_,_ => by simp at hn
 | n + 1,c :: a,d :: b,x,hn,h1,h2 => by
  simp only [List.length_cons] at hn
  rw [zbu]
  by_cases hc : c.toList = d.toList
  ·rw [if_pos hc]
   cases x with
   | nil => simp
   | cons z x =>
    have t1 : x.Sublist a := by
     cases h1 with
     | cons _ h => exact (List.sublist_cons_self z x).trans h
     | cons_cons _ h => exact h
    have t2 : x.Sublist b := by
     cases h2 with
     | cons _ h => exact (List.sublist_cons_self z x).trans h
     | cons_cons _ h => exact h
    have := zdL n a b x qk t1 t2
    simp only [List.length_cons]; omega
  ·rw [if_neg hc]
   cases h1 with
   | cons _ h =>
    have := zdL n a (d :: b) x qE h h2
    omega
   | cons_cons _ h =>
    cases h2 with
    | cons _ h' =>
     have := zdL n (c :: a) b _ qE (h.cons_cons c) h'
     omega
    | cons_cons _ h' => exact absurd rfl hc
theorem zdd : ∀ (n : Nat) (a b : List ByteArray),a.length + b.length ≤ n → ∃ x : List ByteArray,x.Sublist a ∧ x.Sublist b ∧ x.length = zbu a b
 | n,[],b,_ => ⟨[],List.nil_sublist _,List.nil_sublist _,by simp [zbu]⟩
 | n,c :: a,[],_ => ⟨[],List.nil_sublist _,List.nil_sublist _,by simp [zbu]⟩
 | 0,c :: a,d :: b,hn => by simp at hn
 | n + 1,c :: a,d :: b,hn => by
  simp only [List.length_cons] at hn
  by_cases hc : c.toList = d.toList
  ·obtain ⟨x,h1,h2,h3⟩ := zdd n a b qk
   refine ⟨c :: x,h1.cons_cons c,?_,?_⟩
   ·rw [bytes_inj hc]; exact h2.cons_cons d
   ·rw [zbu,if_pos hc]; simp [h3]
  ·obtain ⟨x,h1,h2,h3⟩ := zdd n a (d :: b) qE
   obtain ⟨y,k1,k2,k3⟩ := zdd n (c :: a) b qE
   rw [zbu,if_neg hc]
   by_cases hm : zbu a (d :: b) ≤ zbu (c :: a) b
   ·exact ⟨y,k1,k2.cons d,by omega⟩
   ·exact ⟨x,h1.cons c,h2,by omega⟩
def zcJ (a b : List ByteArray) : Nat := zbu a.reverse b.reverse
theorem zjr {a b x : List ByteArray} (h1 : x.Sublist a) (h2 : x.Sublist b) : x.length ≤ zcJ a b := by
 have := zdL _ a.reverse b.reverse x.reverse (Nat.le_refl _) (List.reverse_sublist.2 h1) (List.reverse_sublist.2 h2)
 rwa [List.length_reverse] at this
theorem zhp (a b : List ByteArray) : ∃ x : List ByteArray,x.Sublist a ∧ x.Sublist b ∧ x.length = zcJ a b := by
 obtain ⟨x,h1,h2,h3⟩ := zdd _ a.reverse b.reverse (Nat.le_refl _)
 refine ⟨x.reverse,?_,?_,by rw [List.length_reverse]; exact h3⟩
 ·have := List.reverse_sublist.2 h1; rwa [List.reverse_reverse] at this
 ·have := List.reverse_sublist.2 h2; rwa [List.reverse_reverse] at this
theorem zjE (a b : List ByteArray) : zcJ a b ≤ a.length ∧ zcJ a b ≤ b.length := by
 obtain ⟨x,h1,h2,h3⟩ := zhp a b
 rw [← h3]; exact ⟨h1.length_le,h2.length_le⟩
def zcb (a b : List ByteArray) (i j : Nat) : Nat := zbu (a.take i).reverse (b.take j).reverse
theorem zh6 (a b : List ByteArray) (j : Nat) : zcb a b 0 j = 0 := by simp [zcb,zbu]
theorem zet (a b : List ByteArray) (i : Nat) : zcb a b i 0 = 0 := by simp [zcb,zfm]
theorem ziB (a b : List ByteArray) (i j : Nat) (hi : i < a.length) (hj : j < b.length) : zcb a b (i + 1) (j + 1) = if a[i].toList = b[j].toList then zcb a b i j + 1 else max (zcb a b i (j + 1)) (zcb a b (i + 1) j) := by
 unfold zcb
 rw [List.take_succ_eq_append_getElem hi,List.take_succ_eq_append_getElem hj,List.reverse_append,List.reverse_append]
 simp only [List.reverse_cons,List.reverse_nil,List.nil_append,List.singleton_append]
 rw [zbu]
theorem zjH (a b : List ByteArray) (i j : Nat) : zcb a b i j ≤ a.length := by
 have h := (zjE (a.take i) (b.take j)).1
 have e : zcJ (a.take i) (b.take j) = zcb a b i j := rfl
 rw [e,List.length_take] at h
 omega
theorem zhU (a b : List ByteArray) (ha : a.length ≤ 1000) (hb : b.length ≤ 1000) : Ev (fun k => zU.f k a b) (zcJ a b : Int) := by
 have rdset : ∀ (r : List Int) (j : Nat) (v : Int) (q : Nat),j < r.length → rd (r.set j v) (q : Int) = if q = j then v else rd r (q : Int) := by
  intro r j v q hj
  simp only [rd,Int.toNat_natCast,List.getD_eq_getElem?_getD,List.getElem?_set]
  by_cases h : q = j
  ·subst h; simp [hj]
  ·rw [if_neg (fun h' => h h'.symm),if_neg h]
 have L0 : ∀ (m i : Nat) (row : List Int),a.length - i = m → i ≤ a.length → row.length = b.length + 1 → (∀ j : Nat,j ≤ b.length → rd row (j : Int) = (zcb a b i j : Int)) → Ev (fun k => zU.l0 k a b row (i : Int)) (zcJ a b : Int) := by
  intro m
  induction m with
  | zero =>
   intro i row hm hi hl hr
   have hl' : (b.length : Int) < (row.length : Int) := by omega
   refine Ev.step (fun k => by rw [zU.l0]) ?_
   refine Ev.ifn qk ?_
   refine Ev.ifp qk ?_
   refine Ev.ifp hl' ?_
   rw [hr b.length (Nat.le_refl _)]
   have e : zcb a b i b.length = zcJ a b := by unfold zcb zcJ; rw [List.take_of_length_le qk,List.take_of_length_le (Nat.le_refl _)]
   rw [e]
   exact Ev.now _
  | succ m ihm =>
   intro i row hm hi hl hr
   have hlt : i < a.length := by omega
   have L1 : ∀ (d j : Nat) (row : List Int) (corner : Int),b.length - j = d → j ≤ b.length → row.length = b.length + 1 → corner = (zcb a b i j : Int) → (∀ q : Nat,q ≤ b.length → rd row (q : Int) = if q ≤ j then (zcb a b (i + 1) q : Int) else (zcb a b i q : Int)) →
     Ev (fun k => zU.l1 k a b row (i : Int) corner (j : Int)) (zcJ a b : Int) := by
    intro d
    induction d with
    | zero =>
     intro j row corner hd hj hl hc hr
     refine Ev.step (fun k => by rw [zU.l1]) ?_
     refine Ev.ifn qk ?_
     rw [zce _ qk]
     exact ihm (i + 1) row qk hlt hl (fun q hq => by rw [hr q hq,if_pos qk])
    | succ d ihd =>
     intro j row corner hd hj hl hc hr
     have hjlt : j < b.length := by omega
     have hj6 : j ≤ 1000000 := by omega
     have c1 : ((j + 1 : Nat) : Int) < (row.length : Int) := by omega
     have c2 : (j : Int) < (row.length : Int) := by omega
     have c3 : (j : Int) < (b.length : Int) := by omega
     have c4 : (0 : Int) ≤ ((j + 1 : Nat) : Int) := by omega
     have c5 : (i : Int) < (a.length : Int) := by omega
     have r1 : zaE ByteArray.empty a (i : Int) = a[i] := by simp [zaE,hlt]
     have r2 : zaE ByteArray.empty b (j : Int) = b[j] := by simp [zaE,hjlt]
     have r3 : rd row ((j + 1 : Nat) : Int) = (zcb a b i (j + 1) : Int) := by rw [hr (j + 1) qk,if_neg qk]
     have r4 : rd row (j : Int) = (zcb a b (i + 1) j : Int) := by rw [hr j qk,if_pos qk]
     have hle := zjH a b i j
     have hstep := ziB a b i j hlt hjlt
     have hnew : ∀ v : Int,v = (zcb a b (i + 1) (j + 1) : Int) → ∀ q : Nat,q ≤ b.length → rd (row.set (j + 1) v) (q : Int) = if q ≤ j + 1 then (zcb a b (i + 1) q : Int) else (zcb a b i q : Int) := by
      intro v hv q hq
      rw [rdset row (j + 1) v q qk]
      by_cases e : q = j + 1
      ·subst e; rw [if_pos rfl,if_pos (Nat.le_refl _),hv]
      ·rw [if_neg e,hr q hq]
       by_cases e2 : q ≤ j
       ·rw [if_pos e2,if_pos qk]
       ·rw [if_neg e2,if_neg qk]
     refine Ev.step (fun k => by rw [zU.l1]) ?_
     refine Ev.ifp c3 ?_
     rw [zce _ hj6]
     refine Ev.ifp c4 ?_
     refine Ev.ifp c1 ?_
     refine Ev.ifp qk ?_
     refine Ev.ifp c5 ?_
     refine Ev.ifp qk ?_
     rw [r1,r2,r3,r4]
     by_cases he : a[i].toList = b[j].toList
     ·rw [if_pos he] at hstep
      refine Ev.ifp he ?_
      refine ihd (j + 1) _ _ qk hjlt (by simpa using hl) rfl (hnew _ ?_)
      rw [hc,hstep,zcx qk qk]; omega
     ·rw [if_neg he] at hstep
      refine Ev.ifn he ?_
      refine Ev.ifp c2 ?_
      refine ihd (j + 1) _ _ qk hjlt (by simpa using hl) rfl (hnew _ ?_)
      rw [hstep]; unfold mx; split <;> omega
   have hlti : (i : Int) < (a.length : Int) := by omega
   refine Ev.step (fun k => by rw [zU.l0]) ?_
   refine Ev.ifp hlti ?_
   refine L1 b.length 0 row 0 rfl (Nat.zero_le _) hl (by rw [zet]; rfl) ?_
   intro q hq
   rw [hr q hq]
   by_cases e : q ≤ 0
   ·rw [if_pos e,show q = 0 by omega,zet,zet]
   ·rw [if_neg e]
 have hb6 : b.length ≤ 1000000 := by omega
 have hbn : ((b.length + 1 : Nat) : Int).toNat = b.length + 1 := Int.toNat_natCast _
 unfold zU.f
 rw [zce _ hb6,hbn]
 refine Ev.ifp qk ?_
 refine Ev.ifp qk ?_
 refine L0 _ 0 _ rfl (Nat.zero_le _) qD ?_
 intro j hj
 rw [zh6]
 simp only [rd,Int.toNat_natCast,List.getD_eq_getElem?_getD]
 rw [List.getElem?_replicate,if_pos qk]; rfl
def zb2.f (k : Nat) (l0 : List (List ByteArray)) (l1 : List (S63)) (l2 : List ByteArray) : Option (Int × Int × Int) := (zat.f k l0).bind fun t137 => (if t137 = 0 then (if (l0.length : Int) = 0 then (some (0,0,7)) else (if 0 ≤ (wrap64 ((l0.length : Int) - 1)) then (if (wrap64 ((l0.length : Int) - 1)) < (l0.length : Int) then ((zbR.f k (zbo l0 (wrap64 ((l0.length : Int) - 1))) l1).bind fun bt139 => (if bt139.2 = 0 then ((zaj.f k l2).bind fun t143 => (if t143 = 0 then ((zbt.f bt139.1 l2).bind fun t144 => (if (t144.length : Int) = 0 then (some (0,0,0)) else (if 0 < (t144.length : Int) then (if ((zm t144 0).f0) = 3 then (some (1,(zm t144 0).f1,0)) else ((zaK.f k bt139.1 ((zm t144 0).f2)).bind fun t149 => (if t149 = true then (some (3,(zm t144 0).f1,0)) else (if (wrap64 ((l0.length : Int) - 1)) ≤ (l0.length : Int) then ((zaM.f k (l0.take ((wrap64 ((l0.length : Int) - 1)) : Int).toNat) ((zm t144 0).f2)).bind fun t154 => (if t154 ≥ 0 then (some (2,(zm t144 0).f1,0)) else (some (3,(zm t144 0).f1,0)))) else (none))))) else (none)))) else (some (0,0,t143)))) else (some (0,0,bt139.2)))) else (none)) else (none))) else (some (0,0,t137)))
theorem ziy {b : Bool} (h : b = false) {p q : Prop} (hq : q) : if b = true then p else q := by
 subst h; exact hq
theorem zko (A : Option Addr) (n c : Nat) (j : Int) (h0 : 0 ≤ j) (hm : j ≤ n) (hc : n ≤ c) : ∀ W : World,(Instr.slice 29 (.slice A n c) none (some (.int .i64 j)) none).run Try.prog W = .ok (.slice A j.toNat c) W := by
 intro W
 have hi : ∃ i,Try.prog.info? 22 = some i ∧ i.size = 1 := by
  have h1 : (Try.prog.info? 22).map (fun i => i.size) = some 1 := by kernel_rfl
  obtain ⟨i,h2,h3⟩ := Option.map_eq_some_iff.1 h1
  exact ⟨i,h2,h3⟩
 obtain ⟨i,hi,hsz⟩ := hi
 have hel : Try.prog.elem 29 = 22 := by kernel_rfl
 have hu : Try.prog.underlying 29 = some (.slice (Try.prog.elem 29)) := by rw [hel]; exact Try.underlying29
 have ha : (A.map fun x => x.add 0) = A := by cases A <;> simp [Addr.add]
 rw [run_slice_h W 29 A n c hu .i64 j h0 qk,hel]
 simp [sizeOf,typeInfo,hi,hsz,sliced,Result.andThen,ha]
theorem zdG {W : World} {g : Nat} {z0 z1 : Value} (hb : W.heap[g]? = some (.cells #[z0,z1] 54 (0,0))) (u0 u1 v7 : Value) (tmps : Array Value) (h6 : tmps.getD 6 undef = .pointer (some ⟨g,0,none⟩)) (h7 : tmps.getD 7 undef = v7) {R : Ending → World → Prop}
  (hR : R (.returned (.tuple #[.agg #[u0,u1],v7])) ((W.setCell ⟨g,0,none⟩ u0).setCell ⟨g,1,none⟩ u1)) : bodyPost Try.prog Try.f37 R .ret { tmps := tmps,defers := [] } ((W.setCell ⟨g,0,none⟩ u0).setCell ⟨g,1,none⟩ u1) := by
 have hb2 := zac (zac hb 0 u0 rfl) 1 u1 rfl
 have h := zhN (P := Try.prog) (fn := Try.f37) (p := 6) (u := 7) (ty := 54) qj tmps _ g 54 #[u0,u1] (0,0) _ h6 hb2 Try.underlying54 rfl qj
 rw [h7] at h
 exact bodyPost_ret h rfl hR
set_option maxHeartbeats 4000000 in
set_option maxRecDepth 100000 in
theorem zb2.calls (k : Nat) (A0 : Option Addr) (c0 : Nat) (l0 : List (List ByteArray)) (A1 : Option Addr) (c1 : Nat) (l1 : List (S63)) (A2 : Option Addr) (c2 : Nat) (l2 : List ByteArray) (r1 : Int) (r2 : Int) (r3 : Int) (w : World) (hr0 : Kd.C (Kd.slice 9 Kd.string) w A0 l0.length l0) (hc0 : l0.length ≤ c0) (hr1 : Kd.C k63 w A1 l1.length l1) (hc1 : l1.length ≤ c1) (hr2 : Kd.C Kd.string w A2 l2.length l2) (hc2 : l2.length ≤ c2) (h : zb2.f k l0 l1 l2 = some (r1,r2,r3)) :
  Calls Try.prog 37 #[.slice A0 l0.length c0, .slice A1 l1.length c1, .slice A2 l2.length c2] w fun e w' => e = .returned (.tuple #[.agg #[.int .i64 r1, .int .i64 r2], .int .i64 r3]) ∧ Below w.heap.size w w' := by
 have H := za.mk h
 have HR := za.mk (And.intro hr0 (And.intro hc0 (And.intro hr1 (And.intro hc1 (And.intro hr2 hc2)))))
 clear hr0 hc0 hr1 hc1 hr2 hc2 h
 obtain ⟨e0,he0,h⟩ := Option.bind_eq_some_iff.mp H.out
 replace H := za.mk h
 clear h
 have HE := za.mk he0
 clear he0
 have hu54 := Try.underlying54
 have HB : za (Below w.heap.size w (w.alloc (.cells #[.int .i64 0, .int .i64 0] 54))) := ⟨ze (Below.refl _ _) _⟩
 have B6 := za.mk (heap_alloc_new w (.cells #[.int .i64 0, .int .i64 0] 54))
 go_enter Try.func37,Try.ntmps37
 go_wp2_with fail
 refine (zat.calls k A0 c0 l0 e0 _ (Kd.zX HR.out.1 HB.out) HR.out.2.1 HE.out).mono ?_
 rintro e w1 ⟨rfl,hb1⟩
 replace HB := za.mk (zu HB.out hb1)
 replace B6 := za.mk (zB B6.out hb1)
 clear hb1
 by_cases g0 : e0 = 0
 ·subst g0
  have h := H.out
  rw [if_pos rfl] at h
  replace H := za.mk h
  clear h
  by_cases g1 : (l0.length : Int) = 0
  ·have h := H.out
   rw [if_pos g1] at h
   simp only [Option.some.injEq,Prod.mk.injEq] at h
   obtain ⟨rfl,rfl,rfl⟩ := h
   have t1 : ((l0.length : Int) == 0) = true := beq_iff_eq.mpr g1
   have t1' : (l0.length == 0) = true := by simpa using g1
   have hc60 : w1.cell? ⟨w.heap.size,0,none⟩ = some (.int .i64 0) := zh B6.out 0
   have hf60 : w1.frozen? ⟨w.heap.size,0,none⟩ = false := zt B6.out 0
   have hc61 : ∀ x,(w1.setCell ⟨w.heap.size,0,none⟩ (.int .i64 x)).cell? ⟨w.heap.size,1,none⟩ = some (.int .i64 0) := fun x => zh (zaB B6.out 0 _) 1
   have hf61 : ∀ x,(w1.setCell ⟨w.heap.size,0,none⟩ (.int .i64 x)).frozen? ⟨w.heap.size,1,none⟩ = false := fun x => zt (zaB B6.out 0 _) 1
   go_wp2_with fail
   refine zdG B6.out (.int .i64 0) (.int .i64 0) (.int .i64 7) _ qB qB ?_
   exact ⟨rfl,zi (zi HB.out (Nat.le_refl _)) (Nat.le_refl _)⟩
  ·have h := H.out
   rw [if_neg g1] at h
   obtain ⟨lt,hlt⟩ : ∃ t,wrap64 ((l0.length : Int) - 1) = t := ⟨_,rfl⟩
   rw [hlt] at h
   have g2 : 0 ≤ lt := by
    by_cases g2 : 0 ≤ lt
    ·exact g2
    ·rw [if_neg g2] at h; cases h
   rw [if_pos g2] at h
   have g3 : lt < (l0.length : Int) := by
    by_cases g3 : lt < (l0.length : Int)
    ·exact g3
    ·rw [if_neg g3] at h; cases h
   rw [if_pos g3] at h
   obtain ⟨⟨ra,re⟩,hap,h⟩ := Option.bind_eq_some_iff.mp h
   dsimp only at h
   replace H := za.mk h
   clear h
   have t1 : ((l0.length : Int) == 0) = false := beq_eq_false_iff_ne.mpr g1
   have t1' : (l0.length == 0) = false := by simpa using g1
   obtain ⟨ady,Ay,cy,ey,hy,hyl,hyc⟩ := zdW (Kd.zX HR.out.1 HB.out) lt g2 g3
   subst ey
   have HY := za.mk (And.intro hyl (And.intro hyc hap))
   clear hyl hyc hap
   have G := za.mk (And.intro g2 g3)
   replace g2 := eq_true g2
   replace g3 := eq_true g3
   go_wp2_with fail
   refine (zbR.calls k Ay cy (zbo l0 lt) A1 c1 l1 ra re w1 HY.out.2.1 HY.out.1 (Kd.zX HR.out.2.2.1 HB.out) HR.out.2.2.2.1 HY.out.2.2).mono ?_
   rintro e w2 ⟨v2,rfl,hR2,hb2⟩
   replace HB := za.mk (zu HB.out hb2)
   replace B6 := za.mk (zB B6.out hb2)
   obtain ⟨A3,c3,rfl,_,_⟩ := Kd.zaG hR2
   have F2 := za.mk hR2
   clear hR2 hb2 hy t1 t1' HY
   by_cases g4 : re = 0
   ·subst g4
    have h := H.out
    rw [if_pos rfl] at h
    obtain ⟨ce,hce,h⟩ := Option.bind_eq_some_iff.mp h
    replace H := za.mk h
    clear h
    go_wp2_with fail
    refine (zaj.calls k A2 c2 l2 ce w2 (Kd.zX HR.out.2.2.2.2.1 HB.out) HR.out.2.2.2.2.2 hce).mono ?_
    rintro e w3 ⟨rfl,hb3⟩
    clear hce
    replace HB := za.mk (zu HB.out hb3)
    replace B6 := za.mk (zB B6.out hb3)
    replace F2 := za.mk (Kd.zR F2.out hb3)
    clear hb3
    by_cases g5 : ce = 0
    ·subst g5
     have h := H.out
     rw [if_pos rfl] at h
     obtain ⟨dl,hdl,h⟩ := Option.bind_eq_some_iff.mp h
     replace H := za.mk h
     clear h
     go_wp2_with fail
     refine (zbt.calls A3 c3 ra A2 c2 l2 dl w3 (zbr F2.out).1 (zbr F2.out).2 (Kd.zX HR.out.2.2.2.2.1 HB.out) HR.out.2.2.2.2.2 hdl).mono ?_
     rintro e w4 ⟨v4,rfl,hR4,hb4⟩
     clear hdl
     replace HB := za.mk (zu HB.out hb4)
     replace B6 := za.mk (zB B6.out hb4)
     replace F2 := za.mk (Kd.zR F2.out hb4)
     obtain ⟨A4,c4,rfl,_,_⟩ := Kd.zaG hR4
     have F4 := za.mk hR4
     clear hR4 hb4
     by_cases g6 : (dl.length : Int) = 0
     ·have h := H.out
      rw [if_pos g6] at h
      simp only [Option.some.injEq,Prod.mk.injEq] at h
      obtain ⟨rfl,rfl,rfl⟩ := h
      have t2 : ((dl.length : Int) == 0) = true := beq_iff_eq.mpr g6
      have hc60 : w4.cell? ⟨w.heap.size,0,none⟩ = some (.int .i64 0) := zh B6.out 0
      have hf60 : w4.frozen? ⟨w.heap.size,0,none⟩ = false := zt B6.out 0
      have hc61 : ∀ x,(w4.setCell ⟨w.heap.size,0,none⟩ (.int .i64 x)).cell? ⟨w.heap.size,1,none⟩ = some (.int .i64 0) := fun x => zh (zaB B6.out 0 _) 1
      have hf61 : ∀ x,(w4.setCell ⟨w.heap.size,0,none⟩ (.int .i64 x)).frozen? ⟨w.heap.size,1,none⟩ = false := fun x => zt (zaB B6.out 0 _) 1
      go_wp2_with fail
      refine zdG B6.out (.int .i64 0) (.int .i64 0) (.int .i64 0) _ qB qB ?_
      exact ⟨rfl,zi (zi HB.out (Nat.le_refl _)) (Nat.le_refl _)⟩
     ·have h := H.out
      have g7 : 0 < (dl.length : Int) := by omega
      rw [if_neg g6,if_pos g7] at h
      obtain ⟨ad4,e4,hx0,hx1,hx2⟩ := zb5 (zbr F4.out).1 0 (Int.le_refl _) g7
      subst e4
      have ead : ad4.add ((0 : Int).toNat * 3) = ad4 := by simp [Addr.add]
      rw [ead] at hx0 hx1 hx2
      obtain ⟨⟨m0,m1,m2⟩,hm⟩ : ∃ m,zm dl 0 = m := ⟨_,rfl⟩
      rw [hm] at h hx0 hx1 hx2
      dsimp only at h hx0 hx1 hx2
      replace H := za.mk h
      clear h hm
      have t2 : ((dl.length : Int) == 0) = false := beq_eq_false_iff_ne.mpr g6
      have t2' : (dl.length == 0) = false := by simpa using g6
      have t3 : 0 < dl.length := by omega
      have B14 := za.mk (heap_alloc_new w4 (.cells #[.int .i64 m0, .int .i64 m1, .string m2] 63))
      have hb5 := ze (Below.refl w4.heap.size w4) (.cells #[.int .i64 m0, .int .i64 m1, .string m2] 63)
      replace HB := za.mk (zu HB.out hb5)
      replace B6 := za.mk (zB B6.out hb5)
      replace F2 := za.mk (Kd.zR F2.out hb5)
      by_cases g8 : m0 = 3
      ·subst g8
       have h := H.out
       rw [if_pos rfl] at h
       simp only [Option.some.injEq,Prod.mk.injEq] at h
       obtain ⟨rfl,rfl,rfl⟩ := h
       clear hb5
       have hc60 : (w4.alloc (.cells #[.int .i64 3, .int .i64 m1, .string m2] 63)).cell? ⟨w.heap.size,0,none⟩ = some (.int .i64 0) := zh B6.out 0
       have hf60 : (w4.alloc (.cells #[.int .i64 3, .int .i64 m1, .string m2] 63)).frozen? ⟨w.heap.size,0,none⟩ = false := zt B6.out 0
       have hc61 : ∀ x,((w4.alloc (.cells #[.int .i64 3, .int .i64 m1, .string m2] 63)).setCell ⟨w.heap.size,0,none⟩ (.int .i64 x)).cell? ⟨w.heap.size,1,none⟩ = some (.int .i64 0) := fun x => zh (zaB B6.out 0 _) 1
       have hf61 : ∀ x,((w4.alloc (.cells #[.int .i64 3, .int .i64 m1, .string m2] 63)).setCell ⟨w.heap.size,0,none⟩ (.int .i64 x)).frozen? ⟨w.heap.size,1,none⟩ = false := fun x => zt (zaB B6.out 0 _) 1
       have hm1 : (w4.alloc (.cells #[.int .i64 3, .int .i64 m1, .string m2] 63)).cell? ⟨w4.heap.size,1,none⟩ = some (.int .i64 m1) := zh B14.out 1
       go_wp2_with fail
       refine zdG B6.out (.int .i64 1) (.int .i64 m1) (.int .i64 0) _ qB qB ?_
       exact ⟨rfl,zi (zi HB.out (Nat.le_refl _)) (Nat.le_refl _)⟩
      ·have h := H.out
       rw [if_neg g8] at h
       obtain ⟨cs,hcs,h⟩ := Option.bind_eq_some_iff.mp h
       replace H := za.mk h
       clear h
       have t4 : (m0 == 3) = false := beq_eq_false_iff_ne.mpr g8
       obtain ⟨W5,hW5⟩ : ∃ W_,w4.alloc (.cells #[.int .i64 m0, .int .i64 m1, .string m2] 63) = W_ := ⟨_,rfl⟩
       have HW5 := za.mk hW5
       rw [hW5] at B14 HB B6 F2
       clear hW5 hb5
       go_wp2_with fail
       rw [HW5.out]
       refine zaF (fun W' => W'.cell? ⟨w4.heap.size,2,none⟩ = some (.string m2)) [] qj ?_
       have HS : W5.drew.cell? ⟨w4.heap.size,2,none⟩ = some (.string m2) := zh (zn B14.out) 2
       refine tk 0 ?_
       (try simp only [pu0,pu1,pu2,pu3,pu4])
       refine tk 1 ?_
       (try simp only [pu0,pu1,pu2,pu3,pu4])
       refine tk 2 ?_
       (try simp only [pu0,pu1,pu2,pu3,pu4])
       refine on1 3 fun K hK => ?_
       clear HS
       refine zbJ Try.func74 qj rfl #[.slice A3 ra.length c3, .string m2] qB rfl rfl qv ?_
       refine (zaK.calls k A3 c3 ra m2 cs W5.drew (zbr (Kd.zR F2.out (zf (Below.refl _ _)))).1 (zbr F2.out).2 hcs).mono ?_
       rintro e w6 ⟨rfl,nd,hw6⟩
       refine ⟨_,rfl,?_⟩
       have hb6 : Below W5.heap.size W5 w6 := by rw [hw6]; exact zb (zf (Below.refl _ _)) _
       clear hw6 hcs
       replace HB := za.mk (zu HB.out hb6)
       replace B6 := za.mk (zB B6.out hb6)
       replace B14 := za.mk (zB B14.out hb6)
       clear hb6
       have HS : w6.cell? ⟨w4.heap.size,2,none⟩ = some (.string m2) := zh B14.out 2
       refine hK.out _ _ (fun _ => HS) ?_
       clear hK K
       (try simp only [pu0,pu1,pu2,pu3,pu4])
       cases cs
       ·have h := H.out
        rw [if_neg qt] at h
        have gle : lt ≤ (l0.length : Int) := Int.le_of_lt G.out.2
        rw [if_pos gle] at h
        obtain ⟨og,hog,h⟩ := Option.bind_eq_some_iff.mp h
        replace H := za.mk h
        clear h
        have hsl := zko (some ady) l0.length c0 lt G.out.1 gle HR.out.2.1
        have hlen : (l0.take lt.toNat).length = lt.toNat := by rw [List.length_take]; have := G.out.2; have := G.out.1; omega
        refine tk 4 ?_
        (try simp only [pu0,pu1,pu2,pu3,pu4])
        refine tk 5 ?_
        (try simp only [pu0,pu1,pu2,pu3,pu4])
        refine tk 6 ?_
        (try simp only [pu0,pu1,pu2,pu3,pu4])
        refine tk 7 ?_
        (try simp only [pu0,pu1,pu2,pu3,pu4])
        refine tk 8 ?_
        (try simp only [pu0,pu1,pu2,pu3,pu4])
        refine tk 9 ?_
        (try simp only [pu0,pu1,pu2,pu3,pu4])
        refine tk 10 ?_
        (try simp only [pu0,pu1,pu2,pu3,pu4])
        refine on1 11 fun K hK => ?_
        clear HS
        have hC9 : Kd.C (Kd.slice 9 Kd.string) w6 (some ady) (l0.take lt.toNat).length (l0.take lt.toNat) := Kd.zj6 (Kd.zX HR.out.1 HB.out) qk
        refine zbJ Try.func75 qj rfl #[.slice (some ady) (l0.take lt.toNat).length c0, .string m2] qB rfl rfl (by simp only [List.map_toArray,List.map_cons,List.map_nil,hlen]; rfl) ?_
        refine (zaM.calls k (some ady) c0 (l0.take lt.toNat) m2 og w6 hC9 (by have := HR.out.2.1; omega) hog).mono ?_
        rintro e w7 ⟨rfl,nd,hw7⟩
        refine ⟨_,rfl,?_⟩
        have hb7 : Below w6.heap.size w6 w7 := by rw [hw7]; exact zb (Below.refl _ _) _
        clear hw7 hog
        replace HB := za.mk (zu HB.out hb7)
        replace B6 := za.mk (zB B6.out hb7)
        replace B14 := za.mk (zB B14.out hb7)
        clear hb7
        have HS : w7.cell? ⟨w4.heap.size,2,none⟩ = some (.string m2) := zh B14.out 2
        refine hK.out _ _ (fun _ => HS) ?_
        clear hK K
        (try simp only [pu0,pu1,pu2,pu3,pu4])
        refine tk 12 ?_
        (try simp only [pu0,pu1,pu2,pu3,pu4])
        refine tk 13 ?_
        (try simp only [pu0,pu1,pu2,pu3,pu4])
        refine tk 14 ?_
        (try simp only [pu0,pu1,pu2,pu3,pu4])
        refine zau qj ?_ _
        clear HS hsl
        by_cases g9 : og ≥ 0
        ·have h := H.out
         rw [if_pos g9] at h
         simp only [Option.some.injEq,Prod.mk.injEq] at h
         obtain ⟨rfl,rfl,rfl⟩ := h
         have t5 : decide (0 ≤ og) = true := decide_eq_true g9
         have hc60 : w7.cell? ⟨w.heap.size,0,none⟩ = some (.int .i64 0) := zh B6.out 0
         have hf60 : w7.frozen? ⟨w.heap.size,0,none⟩ = false := zt B6.out 0
         have hc61 : ∀ x,(w7.setCell ⟨w.heap.size,0,none⟩ (.int .i64 x)).cell? ⟨w.heap.size,1,none⟩ = some (.int .i64 0) := fun x => zh (zaB B6.out 0 _) 1
         have hf61 : ∀ x,(w7.setCell ⟨w.heap.size,0,none⟩ (.int .i64 x)).frozen? ⟨w.heap.size,1,none⟩ = false := fun x => zt (zaB B6.out 0 _) 1
         have hm1 : w7.cell? ⟨w4.heap.size,1,none⟩ = some (.int .i64 m1) := zh B14.out 1
         go_wp2_with fail
         refine zdG B6.out (.int .i64 2) (.int .i64 m1) (.int .i64 0) _ qB qB ?_
         exact ⟨rfl,zi (zi HB.out (Nat.le_refl _)) (Nat.le_refl _)⟩
        ·have h := H.out
         rw [if_neg g9] at h
         simp only [Option.some.injEq,Prod.mk.injEq] at h
         obtain ⟨rfl,rfl,rfl⟩ := h
         have t5 : decide (0 ≤ og) = false := decide_eq_false g9
         have hc60 : w7.cell? ⟨w.heap.size,0,none⟩ = some (.int .i64 0) := zh B6.out 0
         have hf60 : w7.frozen? ⟨w.heap.size,0,none⟩ = false := zt B6.out 0
         have hc61 : ∀ x,(w7.setCell ⟨w.heap.size,0,none⟩ (.int .i64 x)).cell? ⟨w.heap.size,1,none⟩ = some (.int .i64 0) := fun x => zh (zaB B6.out 0 _) 1
         have hf61 : ∀ x,(w7.setCell ⟨w.heap.size,0,none⟩ (.int .i64 x)).frozen? ⟨w.heap.size,1,none⟩ = false := fun x => zt (zaB B6.out 0 _) 1
         have hm1 : w7.cell? ⟨w4.heap.size,1,none⟩ = some (.int .i64 m1) := zh B14.out 1
         go_wp2_with fail
         refine zdG B6.out (.int .i64 3) (.int .i64 m1) (.int .i64 0) _ qB qB ?_
         exact ⟨rfl,zi (zi HB.out (Nat.le_refl _)) (Nat.le_refl _)⟩
       ·refine zd8 (i := 4) (oi := { dst := some 67,op := Go.Op.unOp Go.UnOp.not 4 (Go.Operand.tmp 66),type := 4,pos := "years.go:143",after := #[{ on := 3,ground := Go.Ground.data }],guard := none }) (v := ?_) rfl qj qj qj qj qj (fun _ _ _ h => h) (.inl ⟨by rfl,?_⟩) (by assumption) ?_
        rotate_left
        ·intro w_ hS_; (try dsimp only at hS_); go_simp; all_goals (with_reducible rfl)
        (try simp only [pu0,pu1,pu2,pu3,pu4])
        refine tk 5 ?_
        (try simp only [pu0,pu1,pu2,pu3,pu4])
        refine tkn 6 ?_
        (try simp only [pu0,pu1,pu2,pu3,pu4])
        refine tkn 7 ?_
        (try simp only [pu0,pu1,pu2,pu3,pu4])
        refine tkn 8 ?_
        (try simp only [pu0,pu1,pu2,pu3,pu4])
        refine tkn 9 ?_
        (try simp only [pu0,pu1,pu2,pu3,pu4])
        refine tkn 10 ?_
        (try simp only [pu0,pu1,pu2,pu3,pu4])
        refine on1 11 fun K hK => ?_
        refine ziy qB ?_
        refine hK.out _ _ (fun _ => HS) ?_
        clear hK K
        (try simp only [pu0,pu1,pu2,pu3,pu4])
        refine tkn 12 ?_
        (try simp only [pu0,pu1,pu2,pu3,pu4])
        refine tk 13 ?_
        (try simp only [pu0,pu1,pu2,pu3,pu4])
        refine tk 14 ?_
        (try simp only [pu0,pu1,pu2,pu3,pu4])
        refine zau qj ?_ _
        clear HS
        have h := H.out
        rw [if_pos rfl] at h
        simp only [Option.some.injEq,Prod.mk.injEq] at h
        obtain ⟨rfl,rfl,rfl⟩ := h
        have hc60 : w6.cell? ⟨w.heap.size,0,none⟩ = some (.int .i64 0) := zh B6.out 0
        have hf60 : w6.frozen? ⟨w.heap.size,0,none⟩ = false := zt B6.out 0
        have hc61 : ∀ x,(w6.setCell ⟨w.heap.size,0,none⟩ (.int .i64 x)).cell? ⟨w.heap.size,1,none⟩ = some (.int .i64 0) := fun x => zh (zaB B6.out 0 _) 1
        have hf61 : ∀ x,(w6.setCell ⟨w.heap.size,0,none⟩ (.int .i64 x)).frozen? ⟨w.heap.size,1,none⟩ = false := fun x => zt (zaB B6.out 0 _) 1
        have hm1 : w6.cell? ⟨w4.heap.size,1,none⟩ = some (.int .i64 m1) := zh B14.out 1
        go_wp2_with fail
        refine zdG B6.out (.int .i64 3) (.int .i64 m1) (.int .i64 0) _ qB qB ?_
        exact ⟨rfl,zi (zi HB.out (Nat.le_refl _)) (Nat.le_refl _)⟩
    ·have h := H.out
     rw [if_neg g5] at h
     simp only [Option.some.injEq,Prod.mk.injEq] at h
     obtain ⟨rfl,rfl,rfl⟩ := h
     have t2 : (ce != 0) = true := bne_iff_ne.mpr g5
     have hc60 : w3.cell? ⟨w.heap.size,0,none⟩ = some (.int .i64 0) := zh B6.out 0
     have hf60 : w3.frozen? ⟨w.heap.size,0,none⟩ = false := zt B6.out 0
     have hc61 : ∀ x,(w3.setCell ⟨w.heap.size,0,none⟩ (.int .i64 x)).cell? ⟨w.heap.size,1,none⟩ = some (.int .i64 0) := fun x => zh (zaB B6.out 0 _) 1
     have hf61 : ∀ x,(w3.setCell ⟨w.heap.size,0,none⟩ (.int .i64 x)).frozen? ⟨w.heap.size,1,none⟩ = false := fun x => zt (zaB B6.out 0 _) 1
     go_wp2_with fail
     refine zdG B6.out (.int .i64 0) (.int .i64 0) (.int .i64 ce) _ qB qB ?_
     exact ⟨rfl,zi (zi HB.out (Nat.le_refl _)) (Nat.le_refl _)⟩
   ·have h := H.out
    rw [if_neg g4] at h
    simp only [Option.some.injEq,Prod.mk.injEq] at h
    obtain ⟨rfl,rfl,rfl⟩ := h
    have t2 : (re != 0) = true := bne_iff_ne.mpr g4
    have hc60 : w2.cell? ⟨w.heap.size,0,none⟩ = some (.int .i64 0) := zh B6.out 0
    have hf60 : w2.frozen? ⟨w.heap.size,0,none⟩ = false := zt B6.out 0
    have hc61 : ∀ x,(w2.setCell ⟨w.heap.size,0,none⟩ (.int .i64 x)).cell? ⟨w.heap.size,1,none⟩ = some (.int .i64 0) := fun x => zh (zaB B6.out 0 _) 1
    have hf61 : ∀ x,(w2.setCell ⟨w.heap.size,0,none⟩ (.int .i64 x)).frozen? ⟨w.heap.size,1,none⟩ = false := fun x => zt (zaB B6.out 0 _) 1
    go_wp2_with fail
    refine zdG B6.out (.int .i64 0) (.int .i64 0) (.int .i64 re) _ qB qB ?_
    exact ⟨rfl,zi (zi HB.out (Nat.le_refl _)) (Nat.le_refl _)⟩
 ·have h := H.out
  rw [if_neg g0] at h
  simp only [Option.some.injEq,Prod.mk.injEq] at h
  obtain ⟨rfl,rfl,rfl⟩ := h
  have t2 : (e0 != 0) = true := bne_iff_ne.mpr g0
  have hc60 : w1.cell? ⟨w.heap.size,0,none⟩ = some (.int .i64 0) := zh B6.out 0
  have hf60 : w1.frozen? ⟨w.heap.size,0,none⟩ = false := zt B6.out 0
  have hc61 : ∀ x,(w1.setCell ⟨w.heap.size,0,none⟩ (.int .i64 x)).cell? ⟨w.heap.size,1,none⟩ = some (.int .i64 0) := fun x => zh (zaB B6.out 0 _) 1
  have hf61 : ∀ x,(w1.setCell ⟨w.heap.size,0,none⟩ (.int .i64 x)).frozen? ⟨w.heap.size,1,none⟩ = false := fun x => zt (zaB B6.out 0 _) 1
  go_wp2_with fail
  refine zdG B6.out (.int .i64 0) (.int .i64 0) (.int .i64 e0) _ qB qB ?_
  exact ⟨rfl,zi (zi HB.out (Nat.le_refl _)) (Nat.le_refl _)⟩
theorem zhv (xs : List (Int × List S63)) : ∀ f : Int × List S63,(zbm f xs).1 ≤ f.1 ∧ ∀ x ∈ xs,(zbm f xs).1 ≤ x.1 := by
 induction xs with
 | nil => intro f; exact ⟨Int.le_refl _,fun x hx => by cases hx⟩
 | cons x xs ih =>
  intro f
  rw [zbm]
  have hlt : ∀ u v : Int × List S63,u.1 < v.1 → cmpL u v < 0 := by
   intro u v h
   unfold cmpL or3 zdV
   rw [if_pos h,if_neg qt]; decide
  by_cases hc : cmpL x f < 0
  ·rw [if_pos hc]
   obtain ⟨h1,h2⟩ := ih x
   have hxf : x.1 ≤ f.1 := by
    by_cases h : f.1 < x.1
    ·exfalso
     have : cmpL x f = 1 := by
      unfold cmpL or3 zdV
      rw [if_neg (show ¬ x.1 < f.1 by omega),if_pos h,if_neg qt]
     rw [this] at hc; exact absurd hc qt
    ·omega
   exact ⟨by omega,fun y hy => by
    rcases List.mem_cons.1 hy with rfl | hy
    ·exact h1
    ·exact h2 y hy⟩
  ·rw [if_neg hc]
   obtain ⟨h1,h2⟩ := ih f
   have hxf : f.1 ≤ x.1 := by
    by_cases h : x.1 < f.1
    ·exact absurd (hlt _ _ h) hc
    ·omega
   exact ⟨h1,fun y hy => by
    rcases List.mem_cons.1 hy with rfl | hy
    ·omega
    ·exact h2 y hy⟩
theorem zfP (a b : List ByteArray) : zbu a b ≤ a.length ∧ zbu a b ≤ b.length := by
 obtain ⟨x,h1,h2,h3⟩ := zdd _ a b (Nat.le_refl _)
 rw [← h3]; exact ⟨h1.length_le,h2.length_le⟩
theorem zeO {a a' b b' : List ByteArray} (h1 : a.Sublist a') (h2 : b.Sublist b') : zbu a b ≤ zbu a' b' := by
 obtain ⟨x,k1,k2,k3⟩ := zdd _ a b (Nat.le_refl _)
 rw [← k3]; exact zdL _ a' b' x (Nat.le_refl _) (k1.trans h1) (k2.trans h2)
theorem zhe (a b : List ByteArray) : zbu a b = zcJ a b := by
 obtain ⟨x,k1,k2,k3⟩ := zdd _ a b (Nat.le_refl _)
 obtain ⟨y,m1,m2,m3⟩ := zhp a b
 have h1 := zjr k1 k2
 have h2 := zdL _ a b y (Nat.le_refl _) m1 m2
 omega
theorem zcP (m : S63) (x : Int × List S63) (h0 : 0 ≤ x.1) (hn : x.1 ≤ 5000) : (zx m x).1 = (if m.f0 = 3 then x.1 else x.1 + 1) := by
 unfold zx
 dsimp only
 split
 ·rfl
 ·exact zcx qk qk
theorem zjI (a : List ByteArray) : ∀ (b : List ByteArray) (i : Nat),a.length + b.length ≤ 2000 → (dsp i a b).1 = (b.length : Int) - (zbu a b : Int) := by
 induction a with
 | nil =>
  intro b
  induction b with
  | nil => intro i _; rw [dsp,zbu]; rfl
  | cons y b ih =>
   intro i hl
   simp only [List.length_cons,List.length_nil] at hl
   have h := ih i qH
   rw [zbu] at h
   rw [dsp,zcP _ _ qk qk,h,zbu]
   simp
 | cons x a iha =>
  intro b
  induction b with
  | nil =>
   intro i hl
   simp only [List.length_cons,List.length_nil] at hl
   have h := iha [] (i + 1) qH
   rw [zfm] at h
   rw [dsp,zcP _ _ (by simp at h; omega) (by simp at h; omega),h,zfm]
   simp
  | cons y b ih =>
   intro i hl
   simp only [List.length_cons] at hl
   have h1 := ih i qE
   have h2 := iha (y :: b) (i + 1) qE
   have h3 := iha b (i + 1) qk
   have l1 := zfP (x :: a) b
   have l2 := zfP a (y :: b)
   have l3 := zfP a b
   have m1 := zeO (List.Sublist.refl (x :: a)) (List.sublist_cons_self y b)
   have m2 := zeO (List.sublist_cons_self x a) (List.Sublist.refl (y :: b))
   have m3 := zeO (List.sublist_cons_self x a) (List.Sublist.refl b)
   simp only [List.length_cons] at h2 l1 l2
   have c1 := zcP ⟨1,i,y⟩ (dsp i (x :: a) b) qk qk
   have c2 := zcP ⟨3,i,⟨#[]⟩⟩ (dsp (i + 1) a (y :: b)) qk qk
   have c3 := zcP ⟨2,i,y⟩ (dsp (i + 1) a b) qk qk
   rw [if_neg qI] at c1 c3
   rw [if_pos qB] at c2
   have hmin := zhv ([zx ⟨3,i,⟨#[]⟩⟩ (dsp (i + 1) a (y :: b)),zx ⟨2,i,y⟩ (dsp (i + 1) a b)] ++ (if (x.toList == y.toList) = true then [dsp (i + 1) a b] else [])) (zx ⟨1,i,y⟩ (dsp i (x :: a) b))
   have hmem := zc5 ([zx ⟨3,i,⟨#[]⟩⟩ (dsp (i + 1) a (y :: b)),zx ⟨2,i,y⟩ (dsp (i + 1) a b)] ++ (if (x.toList == y.toList) = true then [dsp (i + 1) a b] else [])) (zx ⟨1,i,y⟩ (dsp i (x :: a) b))
   rw [dsp]
   have e1 := zhe (x :: a) b
   by_cases he : x.toList = y.toList
   ·have hb : (x.toList == y.toList) = true := beq_iff_eq.2 he
    rw [if_pos hb] at hmin hmem ⊢
    generalize zbm (zx ⟨1,i,y⟩ (dsp i (x :: a) b)) ([zx ⟨3,i,⟨#[]⟩⟩ (dsp (i + 1) a (y :: b)),zx ⟨2,i,y⟩ (dsp (i + 1) a b)] ++ [dsp (i + 1) a b]) = r at hmin hmem ⊢
    have hm := hmin.2 (dsp (i + 1) a b) qD
    have hL : zbu (x :: a) (y :: b) = zbu a b + 1 := by rw [zbu,if_pos he]
    have hu := m1
    have hv := m2
    rw [hL] at hu hv ⊢
    simp only [List.length_cons]
    rcases hmem with h | h
    ·rw [h] at hm ⊢; omega
    ·simp only [List.cons_append,List.nil_append,List.mem_cons,List.not_mem_nil,or_false] at h
     rcases h with h | h | h <;> rw [h] at hm ⊢ <;> omega
   ·have hb : ¬ (x.toList == y.toList) = true := fun h => he (beq_iff_eq.1 h)
    rw [if_neg hb,List.append_nil] at hmin hmem ⊢
    generalize zbm (zx ⟨1,i,y⟩ (dsp i (x :: a) b)) [zx ⟨3,i,⟨#[]⟩⟩ (dsp (i + 1) a (y :: b)),zx ⟨2,i,y⟩ (dsp (i + 1) a b)] = r at hmin hmem ⊢
    have hL : zbu (x :: a) (y :: b) = max (zbu a (y :: b)) (zbu (x :: a) b) := by rw [zbu,if_neg he]
    have k1 := hmin.1
    have k2 := hmin.2 _ (List.mem_cons_self)
    rw [hL]
    simp only [List.length_cons]
    rcases hmem with h | h
    ·rw [h] at k2 ⊢; omega
    ·simp only [List.mem_cons,List.not_mem_nil,or_false] at h
     rcases h with h | h <;> rw [h] at k1 k2 ⊢ <;> omega
theorem zhZ (a : List ByteArray) : ∀ (b : List ByteArray) (i : Nat),a.length + b.length ≤ 2000 → (dsp i a b).1 = zcD (dsp i a b).2 := by
 have hb : ∀ (m : S63) (x : Int × List S63),0 ≤ x.1 → x.1 ≤ 5000 → x.1 = zcD x.2 → (zx m x).1 = zcD (zx m x).2 := by
  intro m x h0 h1 h
  rw [zcP m x h0 h1]
  unfold zx
  simp only [zcD]
  split <;> omega
 induction a with
 | nil =>
  intro b
  induction b with
  | nil => intro i _; rw [dsp]; rfl
  | cons y b ih =>
   intro i hl
   simp only [List.length_cons,List.length_nil] at hl
   have h := ih i qH
   have hc := zcF [] b i qH
   simp only [List.length_nil] at hc
   rw [dsp]; exact hb _ _ qk qk h
 | cons x a iha =>
  intro b
  induction b with
  | nil =>
   intro i hl
   simp only [List.length_cons,List.length_nil] at hl
   have h := iha [] (i + 1) qH
   have hc := zcF a [] (i + 1) qH
   simp only [List.length_nil] at hc
   rw [dsp]; exact hb _ _ qk qk h
  | cons y b ih =>
   intro i hl
   simp only [List.length_cons] at hl
   have h1 := ih i qE
   have h2 := iha (y :: b) (i + 1) qE
   have h3 := iha b (i + 1) qk
   have d1 := zcF (x :: a) b i qE
   have d2 := zcF a (y :: b) (i + 1) qE
   have d3 := zcF a b (i + 1) qk
   simp only [List.length_cons] at d1 d2
   rw [dsp]
   rcases zc5 ([zx ⟨3,i,⟨#[]⟩⟩ (dsp (i + 1) a (y :: b)),zx ⟨2,i,y⟩ (dsp (i + 1) a b)] ++ (if (x.toList == y.toList) = true then [dsp (i + 1) a b] else [])) (zx ⟨1,i,y⟩ (dsp i (x :: a) b)) with h | h
   ·rw [h]; exact hb _ _ qk qk h1
   ·generalize zbm (zx ⟨1,i,y⟩ (dsp i (x :: a) b)) ([zx ⟨3,i,⟨#[]⟩⟩ (dsp (i + 1) a (y :: b)),zx ⟨2,i,y⟩ (dsp (i + 1) a b)] ++ (if (x.toList == y.toList) = true then [dsp (i + 1) a b] else [])) = r at h ⊢
    rcases List.mem_append.1 h with h | h
    ·simp only [List.mem_cons,List.not_mem_nil,or_false] at h
     rcases h with rfl | rfl
     ·exact hb _ _ qk qk h2
     ·exact hb _ _ qk qk h3
    ·by_cases he : (x.toList == y.toList) = true
     ·rw [if_pos he] at h
      simp only [List.mem_cons,List.not_mem_nil,or_false] at h
      subst h; exact h3
     ·rw [if_neg he] at h; cases h
def prS (a b : List ByteArray) : Int := (b.length : Int) - (zcJ a b : Int)
theorem zhy (a b : List ByteArray) (h : a.length + b.length ≤ 2000) : zcD (dsp 0 a b).2 = prS a b := by
 rw [← zhZ a b 0 h,zjI a b 0 h,zhe]; rfl
theorem zeM : ∀ p : List ByteArray,zci p = 0 → ∀ x ∈ p,zaX x = 0
 | [],_,x,hx => by cases hx
 | y :: p,h,x,hx => by
  rw [zci] at h
  by_cases hy : zaX y = 0
  ·rw [if_pos hy] at h
   rcases List.mem_cons.1 hx with rfl | hx
   ·exact hy
   ·exact zeM p h x hx
  ·rw [if_neg hy] at h; exact absurd h hy
theorem zhx {p : List ByteArray} (h : zaL p = 0) : ∀ x ∈ p,zaX x = 0 := by
 have hl := zcq h
 unfold zaL at h
 rw [if_neg qk] at h
 exact zeM p h
end Go.Proofs.Ytgmbbfmbimofoaa.P
