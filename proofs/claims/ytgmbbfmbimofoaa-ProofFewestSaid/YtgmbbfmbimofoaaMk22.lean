-- MERGED BY A PROGRAM out of texts of this claim: hand work, and what a (turned) print of the kit has written for it
import Derived.Outline
import Derived.Test.YtgmbbfmbimofoaaMk13
import Derived.Test.YtgmbbfmbimofoaaMk12
import Derived.Test.YtgmbbfmbimofoaaMk21
import Derived.Test.YtgmbbfmbimofoaaMk5
import Derived.Test.YtgmbbfmbimofoaaMk6
import Derived.Test.YtgmbbfmbimofoaaMk8
namespace Go.Proofs.Ytgmbbfmbimofoaa.P
open Go.RowKit Go.Proofs.YtgmbbfmbimofoaaW.PrintWords Go.Proofs.YtgmbbfmbimofoaaW.PrintLast Go.Proofs.YtgmbbfmbimofoaaW.PrintMore
attribute [local go_sem] zH zI zP zO zC zB zJ zK
set_option linter.unusedVariables false
set_option linter.unusedSimpArgs false
inductive zbM : Nat → List ByteArray → List ByteArray → List S63 → Prop
 | nil (i : Nat) : zbM i [] [] []
 | ins {i : Nat} {a b : List ByteArray} {ms : List S63} (y : ByteArray) : zbM i a b ms → zbM i a (y :: b) (⟨1,i,y⟩ :: ms)
 | del {i : Nat} {a b : List ByteArray} {ms : List S63} (x : ByteArray) : zbM (i + 1) a b ms → zbM i (x :: a) b (⟨3,i,⟨#[]⟩⟩ :: ms)
 | set {i : Nat} {a b : List ByteArray} {ms : List S63} (x y : ByteArray) : zbM (i + 1) a b ms → zbM i (x :: a) (y :: b) (⟨2,i,y⟩ :: ms)
 | keep {i : Nat} {a b : List ByteArray} {ms : List S63} (x : ByteArray) : zbM (i + 1) a b ms → zbM i (x :: a) (x :: b) ms
theorem bytes_inj {x y : ByteArray} (h : x.toList = y.toList) : x = y := by
 obtain ⟨⟨l⟩⟩ := x
 obtain ⟨⟨m⟩⟩ := y
 rw [ByteArray.toList_eq,ByteArray.toList_eq] at h
 simp at h
 rw [h]
theorem zhL (a : List ByteArray) : ∀ (b : List ByteArray) (i : Nat),zbM i a b (dsp i a b).2 := by
 induction a with
 | nil =>
  intro b
  induction b with
  | nil => intro i; rw [dsp]; exact .nil i
  | cons y b ih => intro i; rw [dsp]; exact .ins y (ih i)
 | cons x a iha =>
  intro b
  induction b with
  | nil => intro i; rw [dsp]; exact .del x (iha [] (i + 1))
  | cons y b ih =>
   intro i
   rw [dsp]
   rcases zbT ([zq ⟨3,i,⟨#[]⟩⟩ (dsp (i + 1) a (y :: b)),zq ⟨2,i,y⟩ (dsp (i + 1) a b)] ++ (if (x.toList == y.toList) = true then [dsp (i + 1) a b] else [])) (zq ⟨1,i,y⟩ (dsp i (x :: a) b)) with h | h
   ·rw [h]; exact .ins y (ih i)
   ·generalize zaq (zq ⟨1,i,y⟩ (dsp i (x :: a) b)) ([zq ⟨3,i,⟨#[]⟩⟩ (dsp (i + 1) a (y :: b)),zq ⟨2,i,y⟩ (dsp (i + 1) a b)] ++ (if (x.toList == y.toList) = true then [dsp (i + 1) a b] else [])) = r at h ⊢
    rcases List.mem_append.1 h with h | h
    ·simp only [List.mem_cons,List.not_mem_nil,or_false] at h
     rcases h with rfl | rfl
     ·exact .del x (iha (y :: b) (i + 1))
     ·exact .set x y (iha b (i + 1))
    ·by_cases he : (x.toList == y.toList) = true
     ·rw [if_pos he] at h
      simp only [List.mem_cons,List.not_mem_nil,or_false] at h
      subst h
      obtain rfl := bytes_inj (beq_iff_eq.1 he)
      exact .keep x (iha b (i + 1))
     ·rw [if_neg he] at h; cases h
theorem zbM.fits {i : Nat} {a b : List ByteArray} {ms : List S63} (h : zbM i a b ms) : ∀ n,i + a.length = n → ms.all (zbF n) = true := by
 induction h with
 | nil i => intro n _; rfl
 | ins y h ih => intro n hn; rw [List.all_cons,ih n hn,Bool.and_true]; simp [zbF]; omega
 | del x h ih => intro n hn; simp only [List.length_cons] at hn; rw [List.all_cons,ih n ql,Bool.and_true]; simp [zbF]; omega
 | set x y h ih => intro n hn; simp only [List.length_cons] at hn; rw [List.all_cons,ih n ql,Bool.and_true]; simp [zbF]; omega
 | keep x h ih => intro n hn; simp only [List.length_cons] at hn; exact ih n ql
theorem zbM.valid {i : Nat} {a b : List ByteArray} {ms : List S63} (h : zbM i a b ms) : ∀ n,i + a.length = n → (∀ y ∈ b,zaT y = 0) → ∀ prev,(∀ p,prev = some p → p.f1 < (i : Int) ∨ (p.f1 = (i : Int) ∧ p.f0 = 1)) → zbB n prev ms = 0 := by
 induction h with
 | nil i => intro n _ _ prev _; rfl
 | @ins i a b ms y h ih =>
  intro n hn hb prev hp
  have hm : zbJ n prev ⟨1,i,y⟩ = 0 := by
   have ht : zbI ⟨1,(i : Int),y⟩ = 0 := by simp [zbI,hb y List.mem_cons_self]
   unfold zbJ
   rw [if_neg qC,if_neg qI,if_pos ht]
   cases prev with
   | none => rfl
   | some p =>
    rcases hp p rfl with h1 | ⟨h1,h2⟩
    ·simp only [zbg]; rw [if_neg ql,if_pos (Or.inl h1)]
    ·simp only [zbg]; rw [if_neg ql,if_pos (Or.inr h2)]
  rw [zbB,if_pos hm]
  exact ih n hn (fun z hz => hb z (List.mem_cons_of_mem _ hz)) _ (fun p hp' => by cases hp'; exact .inr ⟨rfl,rfl⟩)
 | @del i a b ms x h ih =>
  intro n hn hb prev hp
  simp only [List.length_cons] at hn
  have hm : zbJ n prev ⟨3,i,⟨#[]⟩⟩ = 0 := by
   have ht : zbI ⟨3,(i : Int),⟨#[]⟩⟩ = 0 := by unfold zbI; rw [if_pos rfl,if_pos (by rw [ByteArray.toList_eq])]
   unfold zbJ
   rw [if_neg qC,if_neg qI,if_pos ht]
   cases prev with
   | none => rfl
   | some p =>
    rcases hp p rfl with h1 | ⟨h1,h2⟩
    ·simp only [zbg]; rw [if_neg ql,if_pos (Or.inl h1)]
    ·simp only [zbg]; rw [if_neg ql,if_pos (Or.inr h2)]
  rw [zbB,if_pos hm]
  exact ih n ql hb _ (fun p hp' => by cases hp'; exact .inl qG)
 | @set i a b ms x y h ih =>
  intro n hn hb prev hp
  simp only [List.length_cons] at hn
  have hm : zbJ n prev ⟨2,i,y⟩ = 0 := by
   have ht : zbI ⟨2,(i : Int),y⟩ = 0 := by simp [zbI,hb y List.mem_cons_self]
   unfold zbJ
   rw [if_neg qC,if_neg qI,if_pos ht]
   cases prev with
   | none => rfl
   | some p =>
    rcases hp p rfl with h1 | ⟨h1,h2⟩
    ·simp only [zbg]; rw [if_neg ql,if_pos (Or.inl h1)]
    ·simp only [zbg]; rw [if_neg ql,if_pos (Or.inr h2)]
  rw [zbB,if_pos hm]
  exact ih n ql (fun z hz => hb z (List.mem_cons_of_mem _ hz)) _ (fun p hp' => by cases hp'; exact .inl qG)
 | @keep i a b ms x h ih =>
  intro n hn hb prev hp
  simp only [List.length_cons] at hn
  exact ih n ql (fun z hz => hb z (List.mem_cons_of_mem _ hz)) prev (fun p hp' => by
   rcases hp p hp' with h1 | ⟨h1,_⟩
   ·left; omega
   ·left; omega)
theorem Ev.ifp {α : Type} {c : Prop} [Decidable c] {A B : Nat → Option α} {r : α} (h : c) (k : Ev A r) : Ev (fun n => if c then A n else B n) r := by
 obtain ⟨K,k⟩ := k
 exact ⟨K,fun n hn => by dsimp only; rw [if_pos h]; exact k n hn⟩
theorem Ev.ifn {α : Type} {c : Prop} [Decidable c] {A B : Nat → Option α} {r : α} (h : ¬ c) (k : Ev B r) : Ev (fun n => if c then A n else B n) r := by
 obtain ⟨K,k⟩ := k
 exact ⟨K,fun n hn => by dsimp only; rw [if_neg h]; exact k n hn⟩
theorem Ev.bs {α β : Type} {o : Option α} {a : α} {f : Nat → α → Option β} {r : β} (h : o = some a) (k : Ev (fun n => f n a) r) : Ev (fun n => o.bind (f n)) r := by
 obtain ⟨K,k⟩ := k
 exact ⟨K,fun n hn => by dsimp only; rw [h]; exact k n hn⟩
theorem Ev.be {α β : Type} {g : Nat → Option α} {a : α} {f : Nat → α → Option β} {r : β} (h : Ev g a) (k : Ev (fun n => f n a) r) : Ev (fun n => (g n).bind (fun x => f n x)) r := Ev.bind h k
theorem Ev.ret {α : Type} {o : Option α} {r : α} (h : o = some r) : Ev (fun _ => o) r := ⟨0,fun _ _ => h⟩
theorem zeC {x : Int} (h0 : -1000000000000000 ≤ x) (h1 : x ≤ 1000000000000000) : wrap64 x = x := by unfold wrap64; omega
theorem zcp (n : Nat) (h : n ≤ 1000000) : wrap64 ((n : Int) + 1) = ((n + 1 : Nat) : Int) := by unfold wrap64; omega
theorem zf0 (p : List ByteArray) : Ev (fun k => zY.f k p) (zbt p) := ⟨8,fun k hk => zgl p k ql⟩
instance zjx (x : ByteArray) (p : List ByteArray) : Decidable (x ∈ p) := decidable_of_iff (p.any (fun y => y.toList == x.toList) = true) (by
 rw [List.any_eq_true]
 exact ⟨fun ⟨y,h,e⟩ => by rw [← bytes_inj (beq_iff_eq.1 e)]; exact h,fun h => ⟨x,h,beq_iff_eq.2 rfl⟩⟩)
def Good (n : Nat) (p : List ByteArray) : Prop := p.length ≤ n ∧ ∀ x ∈ p,x ∈ zcv
theorem Good.check {p : List ByteArray} (h : Good 6 p) : zbt p = 0 := checkS_ok_ p h.1 (fun x hx => words6_ok_ x (h.2 x hx))
where
 words6_ok_ : ∀ x ∈ zcv,zaT x = 0 := by
  intro x hx
  simp only [zcv,List.mem_cons,List.not_mem_nil,or_false] at hx
  rcases hx with rfl | rfl | rfl | rfl | rfl | rfl <;> kernel_rfl
 firstErr_ok_ : ∀ p : List ByteArray,(∀ x ∈ p,zaT x = 0) → zcy p = 0
  | [],_ => rfl
  | x :: p,h => by rw [zcy,if_pos (h x List.mem_cons_self)]; exact firstErr_ok_ p (fun y hy => h y (List.mem_cons_of_mem _ hy))
 checkS_ok_ (p : List ByteArray) (hl : p.length ≤ 6) (h : ∀ x ∈ p,zaT x = 0) : zbt p = 0 := by
  unfold zbt
  rw [if_neg ql,firstErr_ok_ p h]
def zg3 (ys : List (List ByteArray)) (x : ByteArray) : Nat → Int
 | 0 => -1
 | n + 1 => if x ∈ ys.getD n [] then (n : Int) else zg3 ys x n
def zhn (ys : List (List ByteArray)) (x : ByteArray) : Prop := 0 ≤ zg3 ys x ys.length ∧ zg3 ys x ys.length < (ys.length : Int) - 1
instance (ys : List (List ByteArray)) (x : ByteArray) : Decidable (zhn ys x) := by unfold zhn; infer_instance
def lastOf : Option S63 → List S63 → Option S63
 | p,[] => p
 | _,m :: ms => lastOf (some m) ms
theorem zev (n : Nat) (m : S63) : ∀ (ms : List S63) (p : Option S63),zbB n p ms = 0 → zbJ n (lastOf p ms) m = 0 → zbB n p (ms ++ [m]) = 0
 | [],p,_,h => by
  simp only [lastOf] at h
  rw [List.nil_append,zbB,if_pos h,zbB]
 | a :: ms,p,h,h2 => by
  rw [zbB] at h
  rw [List.cons_append,zbB]
  by_cases hc : zbJ n p a = 0
  ·rw [if_pos hc] at h ⊢
   exact zev n m ms _ h h2
  ·rw [if_neg hc] at h; exact absurd h hc
def zcY (n : Nat) (m : S63) : Prop := 0 ≤ m.f1 ∧ m.f1 ≤ (n : Int) ∧ ((m.f0 = 3 ∧ m.f2 = ⟨#[]⟩ ∧ m.f1 < (n : Int)) ∨ (m.f0 = 1 ∧ m.f2 ∈ zcv) ∨ (m.f0 = 2 ∧ m.f2 ∈ zcv ∧ m.f1 < (n : Int)))
def MOK (n : Nat) (ms : List S63) : Prop := zbB n none ms = 0 ∧ ∀ m ∈ ms,zcY n m
theorem zfD {x : ByteArray} (h : x ∈ zcv) : zaT x = 0 := Good.check.words6_ok_ x h
theorem zcY.text {n : Nat} {m : S63} (h : zcY n m) : zbI m = 0 := by
 unfold zbI
 rcases h.2.2 with ⟨h1,h2,_⟩ | ⟨h1,h2⟩ | ⟨h1,h2,_⟩
 ·rw [if_pos h1,h2,if_pos (by rw [ByteArray.toList_eq])]
 ·rw [if_neg ql]; exact zfD h2
 ·rw [if_neg ql]; exact zfD h2
theorem zcY.err {n : Nat} {m : S63} (h : zcY n m) {p : Option S63} (hp : ∀ q,p = some q → q.f1 < m.f1 ∨ (q.f1 = m.f1 ∧ q.f0 = 1)) : zbJ n p m = 0 := by
 have h1 := h.1
 have h2 := h.2.1
 unfold zbJ
 have hk : ¬ (m.f0 < 1 ∨ 3 < m.f0) := by rcases h.2.2 with ⟨h1,_⟩ | ⟨h1,_⟩ | ⟨h1,_⟩ <;> omega
 have ha : ¬ (m.f1 < 0 ∨ (if m.f0 = 1 then (n : Int) else (n : Int) - 1) < m.f1) := by
  rcases h.2.2 with ⟨h3,_,h4⟩ | ⟨h3,_⟩ | ⟨h3,_,h4⟩
  ·rw [if_neg ql]; omega
  ·rw [if_pos h3]; omega
  ·rw [if_neg ql]; omega
 rw [if_neg hk,if_neg ha,if_pos h.text]
 cases p with
 | none => rfl
 | some q =>
  rcases hp q rfl with h1 | ⟨h1,h2⟩
  ·simp only [zbg]; rw [if_neg ql,if_pos (Or.inl h1)]
  ·simp only [zbg]; rw [if_neg ql,if_pos (Or.inr h2)]
theorem MOK.snoc {n : Nat} {ms : List S63} {m : S63} (h : MOK n ms) (hm : zcY n m) (hp : ∀ q,lastOf none ms = some q → q.f1 < m.f1 ∨ (q.f1 = m.f1 ∧ q.f0 = 1)) : MOK n (ms ++ [m]) :=
 ⟨zev n m ms none h.1 (hm.err hp),fun x hx => by
  rcases List.mem_append.1 hx with h1 | h1
  ·exact h.2 x h1
  ·rw [List.mem_singleton.1 h1]; exact hm⟩
theorem MOK.marks {n : Nat} {ms : List S63} (h : MOK n ms) (hl : ms.length ≤ 12) : zcN n ms = 0 := by
 unfold zcN; rw [if_neg ql]; exact h.1
theorem MOK.fits {n : Nat} {ms : List S63} (h : MOK n ms) : ms.all (zbF n) = true := by
 rw [List.all_eq_true]
 intro m hm
 obtain ⟨h1,h2,h3⟩ := h.2 m hm
 unfold zbF
 rcases h3 with ⟨h3,_,h4⟩ | ⟨h3,_⟩ | ⟨h3,_,h4⟩ <;> simp [h3] <;> omega
theorem zg9 (pg : List ByteArray) (ms : List S63) : Ev (fun k => zat.f k pg ms) (zbZ pg ms) := ⟨62,fun k hk => zhd pg ms k ql⟩
theorem MOK.checked {pg : List ByteArray} {ms : List S63} (hg : Good 6 pg) (h : MOK pg.length ms) (hl : ms.length ≤ 12) : zbZ pg ms = 0 := by
 unfold zbZ; rw [if_pos hg.check]; exact h.marks hl
theorem zg0 {n : Nat} {ms : List S63} (h : zcN n ms = 0) : ms.length ≤ 12 := by
 unfold zcN at h
 by_cases h12 : 12 < ms.length
 ·rw [if_pos h12] at h; cases h
 ·omega
theorem zcW {p : List ByteArray} (h : zbt p = 0) : p.length ≤ 6 := by
 unfold zbt at h
 by_cases h6 : 6 < p.length
 ·rw [if_pos h6] at h; cases h
 ·omega
theorem zgz {p : List ByteArray} {ms : List S63} (h : zbZ p ms = 0) : zbt p = 0 ∧ zcN p.length ms = 0 := by
 unfold zbZ at h
 by_cases hc : zbt p = 0
 ·rw [if_pos hc] at h; exact ⟨hc,h⟩
 ·rw [if_neg hc] at h; exact absurd h hc
def zaP : List S63 → Int
 | [] => 0
 | m :: ms => (if m.f0 = 3 then 0 else 1) + zaP ms
theorem zgr : ∀ ms : List S63,0 ≤ zaP ms ∧ zaP ms ≤ ms.length
 | [] => by simp [zaP]
 | m :: ms => by
  have := zgr ms
  simp only [zaP,List.length_cons]; split <;> omega
theorem ziP (p : List ByteArray) (ms : List S63) (h : zbZ p ms = 0) : Ev (fun k => zaZ.f k p ms) (zaP ms,0) := by
 have l2 := zg0 (zgz h).2
 have go : ∀ (m i : Nat) (n : Int),ms.length - i = m → i ≤ ms.length → 0 ≤ n → n ≤ (i : Int) → Ev (fun k => zaZ.l0 k n ms (ms.length : Int) (i : Int)) (n + zaP (ms.drop i),0) := by
  intro m
  induction m with
  | zero =>
   intro i n hm hi h0 h1
   rw [List.drop_eq_nil_of_le ql,zaP,Int.add_zero]
   refine Ev.step (fun k => by rw [zaZ.l0]) ?_
   exact Ev.ifn ql (Ev.now _)
  | succ m ih =>
   intro i n hm hi h0 h1
   have hlt : i < ms.length := by omega
   have hlt' : (i : Int) < (ms.length : Int) := by omega
   have r1 : zk ms (i : Int) = ms[i] := by simp [zk,hlt]
   rw [List.drop_eq_getElem_cons hlt,zaP]
   refine Ev.step (fun k => by rw [zaZ.l0]) ?_
   refine Ev.ifp hlt' ?_
   refine Ev.ifp ql ?_
   refine Ev.ifp hlt' ?_
   rw [r1,zcp _ ql]
   by_cases hc : ms[i].f0 = 3
   ·rw [if_pos hc,Int.zero_add]
    exact Ev.ifp hc (ih (i + 1) n ql ql h0 ql)
   ·rw [if_neg hc]
    refine Ev.ifn hc ?_
    rw [zeC ql ql]
    have := ih (i + 1) (n + 1) ql ql ql ql
    rw [Int.add_assoc] at this
    exact this
 unfold zaZ.f
 refine Ev.be (zg9 p ms) ?_
 rw [h]
 refine Ev.ifp rfl ?_
 have := go ms.length 0 0 ql ql ql ql
 rw [List.drop_zero,Int.zero_add] at this
 exact this
theorem zbM.ge {i : Nat} {a b : List ByteArray} {ms : List S63} (h : zbM i a b ms) : ∀ m ∈ ms,(i : Int) ≤ m.f1 := by
 induction h with
 | nil i => intro m hm; cases hm
 | ins y h ih =>
  intro m hm
  rcases List.mem_cons.1 hm with rfl | hm
  ·exact Int.le_refl _
  ·exact ih m hm
 | del x h ih =>
  intro m hm
  rcases List.mem_cons.1 hm with rfl | hm
  ·exact Int.le_refl _
  ·have := ih m hm; omega
 | set x y h ih =>
  intro m hm
  rcases List.mem_cons.1 hm with rfl | hm
  ·exact Int.le_refl _
  ·have := ih m hm; omega
 | keep x h ih =>
  intro m hm
  have := ih m hm; omega
theorem zcr (m : S63) (x : Int × List S63) (n : Nat) (h0 : 0 ≤ x.1) (hn : x.1 ≤ n) (hb : n ≤ 5000) : 0 ≤ (zq m x).1 ∧ (zq m x).1 ≤ n + 1 := by
 unfold zq
 dsimp only
 split
 ·omega
 ·unfold wrap64; omega
theorem zdD (a : List ByteArray) : ∀ (b : List ByteArray) (i : Nat),a.length + b.length ≤ 2000 → 0 ≤ (dsp i a b).1 ∧ (dsp i a b).1 ≤ (a.length + b.length : Nat) := by
 induction a with
 | nil =>
  intro b
  induction b with
  | nil => intro i _; simp [dsp]
  | cons y b ih =>
   intro i hl
   rw [dsp]
   simp only [List.length_cons,List.length_nil] at hl ⊢
   have h := ih i qI
   simp only [List.length_nil] at h
   have := zcr ⟨1,i,y⟩ _ (0 + b.length) h.1 h.2 ql
   omega
 | cons x a iha =>
  intro b
  induction b with
  | nil =>
   intro i hl
   rw [dsp]
   simp only [List.length_cons,List.length_nil] at hl ⊢
   have h := iha [] (i + 1) qI
   simp only [List.length_nil] at h
   have := zcr ⟨3,i,⟨#[]⟩⟩ _ (a.length + 0) h.1 h.2 ql
   omega
  | cons y b ih =>
   intro i hl
   rw [dsp]
   simp only [List.length_cons] at hl ⊢
   have h1 := ih i qI
   have h2 := iha (y :: b) (i + 1) qI
   have h3 := iha b (i + 1) ql
   simp only [List.length_cons] at h1 h2
   have c1 := zcr ⟨1,i,y⟩ _ _ h1.1 h1.2 ql
   have c2 := zcr ⟨3,i,⟨#[]⟩⟩ _ _ h2.1 h2.2 ql
   have c3 := zcr ⟨2,i,y⟩ _ _ h3.1 h3.2 ql
   rcases zbT ([zq ⟨3,i,⟨#[]⟩⟩ (dsp (i + 1) a (y :: b)),zq ⟨2,i,y⟩ (dsp (i + 1) a b)] ++ (if (x.toList == y.toList) = true then [dsp (i + 1) a b] else [])) (zq ⟨1,i,y⟩ (dsp i (x :: a) b)) with h | h
   ·rw [h]; omega
   ·generalize zaq (zq ⟨1,i,y⟩ (dsp i (x :: a) b)) ([zq ⟨3,i,⟨#[]⟩⟩ (dsp (i + 1) a (y :: b)),zq ⟨2,i,y⟩ (dsp (i + 1) a b)] ++ (if (x.toList == y.toList) = true then [dsp (i + 1) a b] else [])) = r at h ⊢
    rcases List.mem_append.1 h with h | h
    ·simp only [List.mem_cons,List.not_mem_nil,or_false] at h
     rcases h with rfl | rfl <;> omega
    ·by_cases he : (x.toList == y.toList) = true
     ·rw [if_pos he] at h
      simp only [List.mem_cons,List.not_mem_nil,or_false] at h
      subst h; omega
     ·rw [if_neg he] at h; cases h
def zbj : List ByteArray → List ByteArray → Nat
 | [],_ => 0
 | _ :: _,[] => 0
 | x :: a,y :: b => if x.toList = y.toList then zbj a b + 1 else max (zbj a (y :: b)) (zbj (x :: a) b)
termination_by a b => a.length + b.length
theorem zeY (a : List ByteArray) : zbj a [] = 0 := by cases a <;> simp [zbj]
theorem zdt : ∀ (n : Nat) (a b x : List ByteArray),a.length + b.length ≤ n → x.Sublist a → x.Sublist b → x.length ≤ zbj a b
 | n,[],b,x,_,h,_ => by rw [List.sublist_nil.1 h]; simp
 | n,_ :: _,[],x,_,_,h => by rw [List.sublist_nil.1 h]; simp
 | 0,c :: a,d :: b,x,hn,_,_ => by simp at hn
 | n + 1,c :: a,d :: b,x,hn,h1,h2 => by
  simp only [List.length_cons] at hn
  rw [zbj]
  by_cases hc : c.toList = d.toList
  ·rw [if_pos hc]
   cases x with
   | nil => simp
   | cons z x =>
    have t1 : x.Sublist a := by
     cases h1 with
     | cons _ h => exact (List.sublist_cons_self z x).trans h
     | cons_cons _ h => exact h
    have t2 : x.Sublist b := by
     cases h2 with
     | cons _ h => exact (List.sublist_cons_self z x).trans h
     | cons_cons _ h => exact h
    have := zdt n a b x ql t1 t2
    simp only [List.length_cons]; omega
  ·rw [if_neg hc]
   cases h1 with
   | cons _ h =>
    have := zdt n a (d :: b) x qx h h2
    omega
   | cons_cons _ h =>
    cases h2 with
    | cons _ h' =>
     have := zdt n (c :: a) b _ qx (h.cons_cons c) h'
     omega
    | cons_cons _ h' => exact absurd rfl hc
theorem zc6 : ∀ (n : Nat) (a b : List ByteArray),a.length + b.length ≤ n → ∃ x : List ByteArray,x.Sublist a ∧ x.Sublist b ∧ x.length = zbj a b
 | n,[],b,_ => ⟨[],List.nil_sublist _,List.nil_sublist _,by simp [zbj]⟩
 | n,c :: a,[],_ => ⟨[],List.nil_sublist _,List.nil_sublist _,by simp [zbj]⟩
 | 0,c :: a,d :: b,hn => by simp at hn
 | n + 1,c :: a,d :: b,hn => by
  simp only [List.length_cons] at hn
  by_cases hc : c.toList = d.toList
  ·obtain ⟨x,h1,h2,h3⟩ := zc6 n a b ql
   refine ⟨c :: x,h1.cons_cons c,?_,?_⟩
   ·rw [bytes_inj hc]; exact h2.cons_cons d
   ·rw [zbj,if_pos hc]; simp [h3]
  ·obtain ⟨x,h1,h2,h3⟩ := zc6 n a (d :: b) qx
   obtain ⟨y,k1,k2,k3⟩ := zc6 n (c :: a) b qx
   rw [zbj,if_neg hc]
   by_cases hm : zbj a (d :: b) ≤ zbj (c :: a) b
   ·exact ⟨y,k1,k2.cons d,by omega⟩
   ·exact ⟨x,h1.cons c,h2,by omega⟩
def zc1 (a b : List ByteArray) : Nat := zbj a.reverse b.reverse
theorem ziw {a b x : List ByteArray} (h1 : x.Sublist a) (h2 : x.Sublist b) : x.length ≤ zc1 a b := by
 have := zdt _ a.reverse b.reverse x.reverse (Nat.le_refl _) (List.reverse_sublist.2 h1) (List.reverse_sublist.2 h2)
 rwa [List.length_reverse] at this
theorem zgP (a b : List ByteArray) : ∃ x : List ByteArray,x.Sublist a ∧ x.Sublist b ∧ x.length = zc1 a b := by
 obtain ⟨x,h1,h2,h3⟩ := zc6 _ a.reverse b.reverse (Nat.le_refl _)
 refine ⟨x.reverse,?_,?_,by rw [List.length_reverse]; exact h3⟩
 ·have := List.reverse_sublist.2 h1; rwa [List.reverse_reverse] at this
 ·have := List.reverse_sublist.2 h2; rwa [List.reverse_reverse] at this
theorem zgM (a b : List ByteArray) : zc1 a b ≤ a.length ∧ zc1 a b ≤ b.length := by
 obtain ⟨x,h1,h2,h3⟩ := zgP a b
 rw [← h3]; exact ⟨h1.length_le,h2.length_le⟩
def zbP (a b : List ByteArray) (i j : Nat) : Nat := zbj (a.take i).reverse (b.take j).reverse
theorem zhl (a b : List ByteArray) (j : Nat) : zbP a b 0 j = 0 := by simp [zbP,zbj]
theorem zei (a b : List ByteArray) (i : Nat) : zbP a b i 0 = 0 := by simp [zbP,zeY]
theorem zhD (a b : List ByteArray) (i j : Nat) (hi : i < a.length) (hj : j < b.length) : zbP a b (i + 1) (j + 1) = if a[i].toList = b[j].toList then zbP a b i j + 1 else max (zbP a b i (j + 1)) (zbP a b (i + 1) j) := by
 unfold zbP
 rw [List.take_succ_eq_append_getElem hi,List.take_succ_eq_append_getElem hj,List.reverse_append,List.reverse_append]
 simp only [List.reverse_cons,List.reverse_nil,List.nil_append,List.singleton_append]
 rw [zbj]
theorem zix (a b : List ByteArray) (i j : Nat) : zbP a b i j ≤ a.length := by
 have h := (zgM (a.take i) (b.take j)).1
 have e : zc1 (a.take i) (b.take j) = zbP a b i j := rfl
 rw [e,List.length_take] at h
 omega
theorem zhq (a b : List ByteArray) (ha : a.length ≤ 1000) (hb : b.length ≤ 1000) : Ev (fun k => zQ.f k a b) (zc1 a b : Int) := by
 have rdset : ∀ (r : List Int) (j : Nat) (v : Int) (q : Nat),j < r.length → rd (r.set j v) (q : Int) = if q = j then v else rd r (q : Int) := by
  intro r j v q hj
  simp only [rd,Int.toNat_natCast,List.getD_eq_getElem?_getD,List.getElem?_set]
  by_cases h : q = j
  ·subst h; simp [hj]
  ·rw [if_neg (fun h' => h h'.symm),if_neg h]
 have L0 : ∀ (m i : Nat) (row : List Int),a.length - i = m → i ≤ a.length → row.length = b.length + 1 → (∀ j : Nat,j ≤ b.length → rd row (j : Int) = (zbP a b i j : Int)) → Ev (fun k => zQ.l0 k a b row (i : Int)) (zc1 a b : Int) := by
  intro m
  induction m with
  | zero =>
   intro i row hm hi hl hr
   have hl' : (b.length : Int) < (row.length : Int) := by omega
   refine Ev.step (fun k => by rw [zQ.l0]) ?_
   refine Ev.ifn ql ?_
   refine Ev.ifp ql ?_
   refine Ev.ifp hl' ?_
   rw [hr b.length (Nat.le_refl _)]
   have e : zbP a b i b.length = zc1 a b := by unfold zbP zc1; rw [List.take_of_length_le ql,List.take_of_length_le (Nat.le_refl _)]
   rw [e]
   exact Ev.now _
  | succ m ihm =>
   intro i row hm hi hl hr
   have hlt : i < a.length := by omega
   have L1 : ∀ (d j : Nat) (row : List Int) (corner : Int),b.length - j = d → j ≤ b.length → row.length = b.length + 1 → corner = (zbP a b i j : Int) → (∀ q : Nat,q ≤ b.length → rd row (q : Int) = if q ≤ j then (zbP a b (i + 1) q : Int) else (zbP a b i q : Int)) →
     Ev (fun k => zQ.l1 k a b row (i : Int) corner (j : Int)) (zc1 a b : Int) := by
    intro d
    induction d with
    | zero =>
     intro j row corner hd hj hl hc hr
     refine Ev.step (fun k => by rw [zQ.l1]) ?_
     refine Ev.ifn ql ?_
     rw [zcp _ ql]
     exact ihm (i + 1) row ql hlt hl (fun q hq => by rw [hr q hq,if_pos ql])
    | succ d ihd =>
     intro j row corner hd hj hl hc hr
     have hjlt : j < b.length := by omega
     have hj6 : j ≤ 1000000 := by omega
     have c1 : ((j + 1 : Nat) : Int) < (row.length : Int) := by omega
     have c2 : (j : Int) < (row.length : Int) := by omega
     have c3 : (j : Int) < (b.length : Int) := by omega
     have c4 : (0 : Int) ≤ ((j + 1 : Nat) : Int) := by omega
     have c5 : (i : Int) < (a.length : Int) := by omega
     have r1 : zaC ByteArray.empty a (i : Int) = a[i] := by simp [zaC,hlt]
     have r2 : zaC ByteArray.empty b (j : Int) = b[j] := by simp [zaC,hjlt]
     have r3 : rd row ((j + 1 : Nat) : Int) = (zbP a b i (j + 1) : Int) := by rw [hr (j + 1) ql,if_neg ql]
     have r4 : rd row (j : Int) = (zbP a b (i + 1) j : Int) := by rw [hr j ql,if_pos ql]
     have hle := zix a b i j
     have hstep := zhD a b i j hlt hjlt
     have hnew : ∀ v : Int,v = (zbP a b (i + 1) (j + 1) : Int) → ∀ q : Nat,q ≤ b.length → rd (row.set (j + 1) v) (q : Int) = if q ≤ j + 1 then (zbP a b (i + 1) q : Int) else (zbP a b i q : Int) := by
      intro v hv q hq
      rw [rdset row (j + 1) v q ql]
      by_cases e : q = j + 1
      ·subst e; rw [if_pos rfl,if_pos (Nat.le_refl _),hv]
      ·rw [if_neg e,hr q hq]
       by_cases e2 : q ≤ j
       ·rw [if_pos e2,if_pos ql]
       ·rw [if_neg e2,if_neg ql]
     refine Ev.step (fun k => by rw [zQ.l1]) ?_
     refine Ev.ifp c3 ?_
     rw [zcp _ hj6]
     refine Ev.ifp c4 ?_
     refine Ev.ifp c1 ?_
     refine Ev.ifp ql ?_
     refine Ev.ifp c5 ?_
     refine Ev.ifp ql ?_
     rw [r1,r2,r3,r4]
     by_cases he : a[i].toList = b[j].toList
     ·rw [if_pos he] at hstep
      refine Ev.ifp he ?_
      refine ihd (j + 1) _ _ ql hjlt (by simpa using hl) rfl (hnew _ ?_)
      rw [hc,hstep,zeC ql ql]; omega
     ·rw [if_neg he] at hstep
      refine Ev.ifn he ?_
      refine Ev.ifp c2 ?_
      refine ihd (j + 1) _ _ ql hjlt (by simpa using hl) rfl (hnew _ ?_)
      rw [hstep]; unfold mx; split <;> omega
   have hlti : (i : Int) < (a.length : Int) := by omega
   refine Ev.step (fun k => by rw [zQ.l0]) ?_
   refine Ev.ifp hlti ?_
   refine L1 b.length 0 row 0 rfl (Nat.zero_le _) hl (by rw [zei]; rfl) ?_
   intro q hq
   rw [hr q hq]
   by_cases e : q ≤ 0
   ·rw [if_pos e,show q = 0 by omega,zei,zei]
   ·rw [if_neg e]
 have hb6 : b.length ≤ 1000000 := by omega
 have hbn : ((b.length + 1 : Nat) : Int).toNat = b.length + 1 := Int.toNat_natCast _
 unfold zQ.f
 rw [zcp _ hb6,hbn]
 refine Ev.ifp ql ?_
 refine Ev.ifp ql ?_
 refine L0 _ 0 _ rfl (Nat.zero_le _) qC ?_
 intro j hj
 rw [zhl]
 simp only [rd,Int.toNat_natCast,List.getD_eq_getElem?_getD]
 rw [List.getElem?_replicate,if_pos ql]; rfl
def zdk.f (k : Nat) (l0 : List (List ByteArray)) (l1 : List (S63)) (l2 : List ByteArray) : Option (Int × Int × Int) := (zaw.f k l0).bind fun t137 => (if t137 = 0 then (if (l0.length : Int) = 0 then (some (0,0,7)) else (if 0 ≤ (wrap64 ((l0.length : Int) - 1)) then (if (wrap64 ((l0.length : Int) - 1)) < (l0.length : Int) then ((zci.f k (zb2 l0 (wrap64 ((l0.length : Int) - 1))) l1).bind fun bt139 => (if bt139.2 = 0 then ((zY.f k l2).bind fun t143 => (if t143 = 0 then ((zbl.f bt139.1 l2).bind fun t144 => (if (t144.length : Int) = 0 then (some (0,0,0)) else (if 0 < (t144.length : Int) then (if ((zk t144 0).f0) = 3 then (some (1,(zk t144 0).f1,0)) else ((zaG.f k bt139.1 ((zk t144 0).f2)).bind fun t149 => (if t149 = true then (some (3,(zk t144 0).f1,0)) else (if (wrap64 ((l0.length : Int) - 1)) ≤ (l0.length : Int) then ((zaQ.f k (l0.take ((wrap64 ((l0.length : Int) - 1)) : Int).toNat) ((zk t144 0).f2)).bind fun t154 => (if t154 ≥ 0 then (some (2,(zk t144 0).f1,0)) else (some (3,(zk t144 0).f1,0)))) else (none))))) else (none)))) else (some (0,0,t143)))) else (some (0,0,bt139.2)))) else (none)) else (none))) else (some (0,0,t137)))
theorem zhv {b : Bool} (h : b = false) {p q : Prop} (hq : q) : if b = true then p else q := by
 subst h; exact hq
theorem zjj (A : Option Addr) (n c : Nat) (j : Int) (h0 : 0 ≤ j) (hm : j ≤ n) (hc : n ≤ c) : ∀ W : World,(Instr.slice 29 (.slice A n c) none (some (.int .i64 j)) none).run Try.prog W = .ok (.slice A j.toNat c) W := by
 intro W
 have hi : ∃ i,Try.prog.info? 22 = some i ∧ i.size = 1 := by
  have h1 : (Try.prog.info? 22).map (fun i => i.size) = some 1 := by kernel_rfl
  obtain ⟨i,h2,h3⟩ := Option.map_eq_some_iff.1 h1
  exact ⟨i,h2,h3⟩
 obtain ⟨i,hi,hsz⟩ := hi
 have hel : Try.prog.elem 29 = 22 := by kernel_rfl
 have hu : Try.prog.underlying 29 = some (.slice (Try.prog.elem 29)) := by rw [hel]; exact Try.underlying29
 have ha : (A.map fun x => x.add 0) = A := by cases A <;> simp [Addr.add]
 rw [run_slice_h W 29 A n c hu .i64 j h0 ql,hel]
 simp [sizeOf,typeInfo,hi,hsz,sliced,Result.andThen,ha]
theorem zdr {W : World} {g : Nat} {z0 z1 : Value} (hb : W.heap[g]? = some (.cells #[z0,z1] 54 (0,0))) (u0 u1 v7 : Value) (tmps : Array Value) (h6 : tmps.getD 6 undef = .pointer (some ⟨g,0,none⟩)) (h7 : tmps.getD 7 undef = v7) {R : Ending → World → Prop}
  (hR : R (.returned (.tuple #[.agg #[u0,u1],v7])) ((W.setCell ⟨g,0,none⟩ u0).setCell ⟨g,1,none⟩ u1)) : bodyPost Try.prog Try.f37 R .ret { tmps := tmps,defers := [] } ((W.setCell ⟨g,0,none⟩ u0).setCell ⟨g,1,none⟩ u1) := by
 have hb2 := zV (zV hb 0 u0 rfl) 1 u1 rfl
 have h := zhe (P := Try.prog) (fn := Try.f37) (p := 6) (u := 7) (ty := 54) qg tmps _ g 54 #[u0,u1] (0,0) _ h6 hb2 Try.underlying54 rfl qg
 rw [h7] at h
 exact bodyPost_ret h rfl hR
set_option maxHeartbeats 4000000 in
set_option maxRecDepth 100000 in
theorem zdk.calls (k : Nat) (A0 : Option Addr) (c0 : Nat) (l0 : List (List ByteArray)) (A1 : Option Addr) (c1 : Nat) (l1 : List (S63)) (A2 : Option Addr) (c2 : Nat) (l2 : List ByteArray) (r1 : Int) (r2 : Int) (r3 : Int) (w : World) (hr0 : Kd.C (Kd.slice 9 Kd.string) w A0 l0.length l0) (hc0 : l0.length ≤ c0) (hr1 : Kd.C k63 w A1 l1.length l1) (hc1 : l1.length ≤ c1) (hr2 : Kd.C Kd.string w A2 l2.length l2) (hc2 : l2.length ≤ c2) (h : zdk.f k l0 l1 l2 = some (r1,r2,r3)) :
  Calls Try.prog 37 #[.slice A0 l0.length c0, .slice A1 l1.length c1, .slice A2 l2.length c2] w fun e w' => e = .returned (.tuple #[.agg #[.int .i64 r1, .int .i64 r2], .int .i64 r3]) ∧ Below w.heap.size w w' := by
 have H := za.mk h
 have HR := za.mk (And.intro hr0 (And.intro hc0 (And.intro hr1 (And.intro hc1 (And.intro hr2 hc2)))))
 clear hr0 hc0 hr1 hc1 hr2 hc2 h
 obtain ⟨e0,he0,h⟩ := Option.bind_eq_some_iff.mp H.out
 replace H := za.mk h
 clear h
 have HE := za.mk he0
 clear he0
 have hu54 := Try.underlying54
 have HB : za (Below w.heap.size w (w.alloc (.cells #[.int .i64 0, .int .i64 0] 54))) := ⟨ze (Below.refl _ _) _⟩
 have B6 := za.mk (heap_alloc_new w (.cells #[.int .i64 0, .int .i64 0] 54))
 go_enter Try.func37,Try.ntmps37
 go_wp2_with fail
 refine (zaw.calls k A0 c0 l0 e0 _ (Kd.zU HR.out.1 HB.out) HR.out.2.1 HE.out).mono ?_
 rintro e w1 ⟨rfl,hb1⟩
 replace HB := za.mk (zo HB.out hb1)
 replace B6 := za.mk (zu B6.out hb1)
 clear hb1
 by_cases g0 : e0 = 0
 ·subst g0
  have h := H.out
  rw [if_pos rfl] at h
  replace H := za.mk h
  clear h
  by_cases g1 : (l0.length : Int) = 0
  ·have h := H.out
   rw [if_pos g1] at h
   simp only [Option.some.injEq,Prod.mk.injEq] at h
   obtain ⟨rfl,rfl,rfl⟩ := h
   have t1 : ((l0.length : Int) == 0) = true := beq_iff_eq.mpr g1
   have t1' : (l0.length == 0) = true := by simpa using g1
   have hc60 : w1.cell? ⟨w.heap.size,0,none⟩ = some (.int .i64 0) := zf B6.out 0
   have hf60 : w1.frozen? ⟨w.heap.size,0,none⟩ = false := zn B6.out 0
   have hc61 : ∀ x,(w1.setCell ⟨w.heap.size,0,none⟩ (.int .i64 x)).cell? ⟨w.heap.size,1,none⟩ = some (.int .i64 0) := fun x => zf (zar B6.out 0 _) 1
   have hf61 : ∀ x,(w1.setCell ⟨w.heap.size,0,none⟩ (.int .i64 x)).frozen? ⟨w.heap.size,1,none⟩ = false := fun x => zn (zar B6.out 0 _) 1
   go_wp2_with fail
   refine zdr B6.out (.int .i64 0) (.int .i64 0) (.int .i64 7) _ qA qA ?_
   exact ⟨rfl,zh (zh HB.out (Nat.le_refl _)) (Nat.le_refl _)⟩
  ·have h := H.out
   rw [if_neg g1] at h
   obtain ⟨lt,hlt⟩ : ∃ t,wrap64 ((l0.length : Int) - 1) = t := ⟨_,rfl⟩
   rw [hlt] at h
   have g2 : 0 ≤ lt := by
    by_cases g2 : 0 ≤ lt
    ·exact g2
    ·rw [if_neg g2] at h; cases h
   rw [if_pos g2] at h
   have g3 : lt < (l0.length : Int) := by
    by_cases g3 : lt < (l0.length : Int)
    ·exact g3
    ·rw [if_neg g3] at h; cases h
   rw [if_pos g3] at h
   obtain ⟨⟨ra,re⟩,hap,h⟩ := Option.bind_eq_some_iff.mp h
   dsimp only at h
   replace H := za.mk h
   clear h
   have t1 : ((l0.length : Int) == 0) = false := beq_eq_false_iff_ne.mpr g1
   have t1' : (l0.length == 0) = false := by simpa using g1
   obtain ⟨ady,Ay,cy,ey,hy,hyl,hyc⟩ := ze4 (Kd.zU HR.out.1 HB.out) lt g2 g3
   subst ey
   have HY := za.mk (And.intro hyl (And.intro hyc hap))
   clear hyl hyc hap
   have G := za.mk (And.intro g2 g3)
   replace g2 := eq_true g2
   replace g3 := eq_true g3
   go_wp2_with fail
   refine (zci.calls k Ay cy (zb2 l0 lt) A1 c1 l1 ra re w1 HY.out.2.1 HY.out.1 (Kd.zU HR.out.2.2.1 HB.out) HR.out.2.2.2.1 HY.out.2.2).mono ?_
   rintro e w2 ⟨v2,rfl,hR2,hb2⟩
   replace HB := za.mk (zo HB.out hb2)
   replace B6 := za.mk (zu B6.out hb2)
   obtain ⟨A3,c3,rfl,_,_⟩ := Kd.zak hR2
   have F2 := za.mk hR2
   clear hR2 hb2 hy t1 t1' HY
   by_cases g4 : re = 0
   ·subst g4
    have h := H.out
    rw [if_pos rfl] at h
    obtain ⟨ce,hce,h⟩ := Option.bind_eq_some_iff.mp h
    replace H := za.mk h
    clear h
    go_wp2_with fail
    refine (zY.calls k A2 c2 l2 ce w2 (Kd.zU HR.out.2.2.2.2.1 HB.out) HR.out.2.2.2.2.2 hce).mono ?_
    rintro e w3 ⟨rfl,hb3⟩
    clear hce
    replace HB := za.mk (zo HB.out hb3)
    replace B6 := za.mk (zu B6.out hb3)
    replace F2 := za.mk (Kd.zD F2.out hb3)
    clear hb3
    by_cases g5 : ce = 0
    ·subst g5
     have h := H.out
     rw [if_pos rfl] at h
     obtain ⟨dl,hdl,h⟩ := Option.bind_eq_some_iff.mp h
     replace H := za.mk h
     clear h
     go_wp2_with fail
     refine (zbl.calls A3 c3 ra A2 c2 l2 dl w3 (zaK F2.out).1 (zaK F2.out).2 (Kd.zU HR.out.2.2.2.2.1 HB.out) HR.out.2.2.2.2.2 hdl).mono ?_
     rintro e w4 ⟨v4,rfl,hR4,hb4⟩
     clear hdl
     replace HB := za.mk (zo HB.out hb4)
     replace B6 := za.mk (zu B6.out hb4)
     replace F2 := za.mk (Kd.zD F2.out hb4)
     obtain ⟨A4,c4,rfl,_,_⟩ := Kd.zak hR4
     have F4 := za.mk hR4
     clear hR4 hb4
     by_cases g6 : (dl.length : Int) = 0
     ·have h := H.out
      rw [if_pos g6] at h
      simp only [Option.some.injEq,Prod.mk.injEq] at h
      obtain ⟨rfl,rfl,rfl⟩ := h
      have t2 : ((dl.length : Int) == 0) = true := beq_iff_eq.mpr g6
      have hc60 : w4.cell? ⟨w.heap.size,0,none⟩ = some (.int .i64 0) := zf B6.out 0
      have hf60 : w4.frozen? ⟨w.heap.size,0,none⟩ = false := zn B6.out 0
      have hc61 : ∀ x,(w4.setCell ⟨w.heap.size,0,none⟩ (.int .i64 x)).cell? ⟨w.heap.size,1,none⟩ = some (.int .i64 0) := fun x => zf (zar B6.out 0 _) 1
      have hf61 : ∀ x,(w4.setCell ⟨w.heap.size,0,none⟩ (.int .i64 x)).frozen? ⟨w.heap.size,1,none⟩ = false := fun x => zn (zar B6.out 0 _) 1
      go_wp2_with fail
      refine zdr B6.out (.int .i64 0) (.int .i64 0) (.int .i64 0) _ qA qA ?_
      exact ⟨rfl,zh (zh HB.out (Nat.le_refl _)) (Nat.le_refl _)⟩
     ·have h := H.out
      have g7 : 0 < (dl.length : Int) := by omega
      rw [if_neg g6,if_pos g7] at h
      obtain ⟨ad4,e4,hx0,hx1,hx2⟩ := zbb (zaK F4.out).1 0 (Int.le_refl _) g7
      subst e4
      have ead : ad4.add ((0 : Int).toNat * 3) = ad4 := by simp [Addr.add]
      rw [ead] at hx0 hx1 hx2
      obtain ⟨⟨m0,m1,m2⟩,hm⟩ : ∃ m,zk dl 0 = m := ⟨_,rfl⟩
      rw [hm] at h hx0 hx1 hx2
      dsimp only at h hx0 hx1 hx2
      replace H := za.mk h
      clear h hm
      have t2 : ((dl.length : Int) == 0) = false := beq_eq_false_iff_ne.mpr g6
      have t2' : (dl.length == 0) = false := by simpa using g6
      have t3 : 0 < dl.length := by omega
      have B14 := za.mk (heap_alloc_new w4 (.cells #[.int .i64 m0, .int .i64 m1, .string m2] 63))
      have hb5 := ze (Below.refl w4.heap.size w4) (.cells #[.int .i64 m0, .int .i64 m1, .string m2] 63)
      replace HB := za.mk (zo HB.out hb5)
      replace B6 := za.mk (zu B6.out hb5)
      replace F2 := za.mk (Kd.zD F2.out hb5)
      by_cases g8 : m0 = 3
      ·subst g8
       have h := H.out
       rw [if_pos rfl] at h
       simp only [Option.some.injEq,Prod.mk.injEq] at h
       obtain ⟨rfl,rfl,rfl⟩ := h
       clear hb5
       have hc60 : (w4.alloc (.cells #[.int .i64 3, .int .i64 m1, .string m2] 63)).cell? ⟨w.heap.size,0,none⟩ = some (.int .i64 0) := zf B6.out 0
       have hf60 : (w4.alloc (.cells #[.int .i64 3, .int .i64 m1, .string m2] 63)).frozen? ⟨w.heap.size,0,none⟩ = false := zn B6.out 0
       have hc61 : ∀ x,((w4.alloc (.cells #[.int .i64 3, .int .i64 m1, .string m2] 63)).setCell ⟨w.heap.size,0,none⟩ (.int .i64 x)).cell? ⟨w.heap.size,1,none⟩ = some (.int .i64 0) := fun x => zf (zar B6.out 0 _) 1
       have hf61 : ∀ x,((w4.alloc (.cells #[.int .i64 3, .int .i64 m1, .string m2] 63)).setCell ⟨w.heap.size,0,none⟩ (.int .i64 x)).frozen? ⟨w.heap.size,1,none⟩ = false := fun x => zn (zar B6.out 0 _) 1
       have hm1 : (w4.alloc (.cells #[.int .i64 3, .int .i64 m1, .string m2] 63)).cell? ⟨w4.heap.size,1,none⟩ = some (.int .i64 m1) := zf B14.out 1
       go_wp2_with fail
       refine zdr B6.out (.int .i64 1) (.int .i64 m1) (.int .i64 0) _ qA qA ?_
       exact ⟨rfl,zh (zh HB.out (Nat.le_refl _)) (Nat.le_refl _)⟩
      ·have h := H.out
       rw [if_neg g8] at h
       obtain ⟨cs,hcs,h⟩ := Option.bind_eq_some_iff.mp h
       replace H := za.mk h
       clear h
       have t4 : (m0 == 3) = false := beq_eq_false_iff_ne.mpr g8
       obtain ⟨W5,hW5⟩ : ∃ W_,w4.alloc (.cells #[.int .i64 m0, .int .i64 m1, .string m2] 63) = W_ := ⟨_,rfl⟩
       have HW5 := za.mk hW5
       rw [hW5] at B14 HB B6 F2
       clear hW5 hb5
       go_wp2_with fail
       rw [HW5.out]
       refine zal (fun W' => W'.cell? ⟨w4.heap.size,2,none⟩ = some (.string m2)) [] qg ?_
       have HS : W5.drew.cell? ⟨w4.heap.size,2,none⟩ = some (.string m2) := zf (zm B14.out) 2
       refine tk 0 ?_
       (try simp only [pu0,pu1,pu2,pu3,pu4])
       refine tk 1 ?_
       (try simp only [pu0,pu1,pu2,pu3,pu4])
       refine tk 2 ?_
       (try simp only [pu0,pu1,pu2,pu3,pu4])
       refine on1 3 fun K hK => ?_
       clear HS
       refine zbv Try.func74 qg rfl #[.slice A3 ra.length c3, .string m2] qA rfl rfl qo ?_
       refine (zaG.calls k A3 c3 ra m2 cs W5.drew (zaK (Kd.zD F2.out (zg (Below.refl _ _)))).1 (zaK F2.out).2 hcs).mono ?_
       rintro e w6 ⟨rfl,nd,hw6⟩
       refine ⟨_,rfl,?_⟩
       have hb6 : Below W5.heap.size W5 w6 := by rw [hw6]; exact zb (zg (Below.refl _ _)) _
       clear hw6 hcs
       replace HB := za.mk (zo HB.out hb6)
       replace B6 := za.mk (zu B6.out hb6)
       replace B14 := za.mk (zu B14.out hb6)
       clear hb6
       have HS : w6.cell? ⟨w4.heap.size,2,none⟩ = some (.string m2) := zf B14.out 2
       refine hK.out _ _ (fun _ => HS) ?_
       clear hK K
       (try simp only [pu0,pu1,pu2,pu3,pu4])
       cases cs
       ·have h := H.out
        rw [if_neg qq] at h
        have gle : lt ≤ (l0.length : Int) := Int.le_of_lt G.out.2
        rw [if_pos gle] at h
        obtain ⟨og,hog,h⟩ := Option.bind_eq_some_iff.mp h
        replace H := za.mk h
        clear h
        have hsl := zjj (some ady) l0.length c0 lt G.out.1 gle HR.out.2.1
        have hlen : (l0.take lt.toNat).length = lt.toNat := by rw [List.length_take]; have := G.out.2; have := G.out.1; omega
        refine tk 4 ?_
        (try simp only [pu0,pu1,pu2,pu3,pu4])
        refine tk 5 ?_
        (try simp only [pu0,pu1,pu2,pu3,pu4])
        refine tk 6 ?_
        (try simp only [pu0,pu1,pu2,pu3,pu4])
        refine tk 7 ?_
        (try simp only [pu0,pu1,pu2,pu3,pu4])
        refine tk 8 ?_
        (try simp only [pu0,pu1,pu2,pu3,pu4])
        refine tk 9 ?_
        (try simp only [pu0,pu1,pu2,pu3,pu4])
        refine tk 10 ?_
        (try simp only [pu0,pu1,pu2,pu3,pu4])
        refine on1 11 fun K hK => ?_
        clear HS
        have hC9 : Kd.C (Kd.slice 9 Kd.string) w6 (some ady) (l0.take lt.toNat).length (l0.take lt.toNat) := Kd.zgc (Kd.zU HR.out.1 HB.out) ql
        refine zbv Try.func75 qg rfl #[.slice (some ady) (l0.take lt.toNat).length c0, .string m2] qA rfl rfl (by simp only [List.map_toArray,List.map_cons,List.map_nil,hlen]; rfl) ?_
        refine (zaQ.calls k (some ady) c0 (l0.take lt.toNat) m2 og w6 hC9 (by have := HR.out.2.1; omega) hog).mono ?_
        rintro e w7 ⟨rfl,nd,hw7⟩
        refine ⟨_,rfl,?_⟩
        have hb7 : Below w6.heap.size w6 w7 := by rw [hw7]; exact zb (Below.refl _ _) _
        clear hw7 hog
        replace HB := za.mk (zo HB.out hb7)
        replace B6 := za.mk (zu B6.out hb7)
        replace B14 := za.mk (zu B14.out hb7)
        clear hb7
        have HS : w7.cell? ⟨w4.heap.size,2,none⟩ = some (.string m2) := zf B14.out 2
        refine hK.out _ _ (fun _ => HS) ?_
        clear hK K
        (try simp only [pu0,pu1,pu2,pu3,pu4])
        refine tk 12 ?_
        (try simp only [pu0,pu1,pu2,pu3,pu4])
        refine tk 13 ?_
        (try simp only [pu0,pu1,pu2,pu3,pu4])
        refine tk 14 ?_
        (try simp only [pu0,pu1,pu2,pu3,pu4])
        refine zac qg ?_ _
        clear HS hsl
        by_cases g9 : og ≥ 0
        ·have h := H.out
         rw [if_pos g9] at h
         simp only [Option.some.injEq,Prod.mk.injEq] at h
         obtain ⟨rfl,rfl,rfl⟩ := h
         have t5 : decide (0 ≤ og) = true := decide_eq_true g9
         have hc60 : w7.cell? ⟨w.heap.size,0,none⟩ = some (.int .i64 0) := zf B6.out 0
         have hf60 : w7.frozen? ⟨w.heap.size,0,none⟩ = false := zn B6.out 0
         have hc61 : ∀ x,(w7.setCell ⟨w.heap.size,0,none⟩ (.int .i64 x)).cell? ⟨w.heap.size,1,none⟩ = some (.int .i64 0) := fun x => zf (zar B6.out 0 _) 1
         have hf61 : ∀ x,(w7.setCell ⟨w.heap.size,0,none⟩ (.int .i64 x)).frozen? ⟨w.heap.size,1,none⟩ = false := fun x => zn (zar B6.out 0 _) 1
         have hm1 : w7.cell? ⟨w4.heap.size,1,none⟩ = some (.int .i64 m1) := zf B14.out 1
         go_wp2_with fail
         refine zdr B6.out (.int .i64 2) (.int .i64 m1) (.int .i64 0) _ qA qA ?_
         exact ⟨rfl,zh (zh HB.out (Nat.le_refl _)) (Nat.le_refl _)⟩
        ·have h := H.out
         rw [if_neg g9] at h
         simp only [Option.some.injEq,Prod.mk.injEq] at h
         obtain ⟨rfl,rfl,rfl⟩ := h
         have t5 : decide (0 ≤ og) = false := decide_eq_false g9
         have hc60 : w7.cell? ⟨w.heap.size,0,none⟩ = some (.int .i64 0) := zf B6.out 0
         have hf60 : w7.frozen? ⟨w.heap.size,0,none⟩ = false := zn B6.out 0
         have hc61 : ∀ x,(w7.setCell ⟨w.heap.size,0,none⟩ (.int .i64 x)).cell? ⟨w.heap.size,1,none⟩ = some (.int .i64 0) := fun x => zf (zar B6.out 0 _) 1
         have hf61 : ∀ x,(w7.setCell ⟨w.heap.size,0,none⟩ (.int .i64 x)).frozen? ⟨w.heap.size,1,none⟩ = false := fun x => zn (zar B6.out 0 _) 1
         have hm1 : w7.cell? ⟨w4.heap.size,1,none⟩ = some (.int .i64 m1) := zf B14.out 1
         go_wp2_with fail
         refine zdr B6.out (.int .i64 3) (.int .i64 m1) (.int .i64 0) _ qA qA ?_
         exact ⟨rfl,zh (zh HB.out (Nat.le_refl _)) (Nat.le_refl _)⟩
       ·refine zdO (i := 4) (oi := { dst := some 67,op := Go.Op.unOp Go.UnOp.not 4 (Go.Operand.tmp 66),type := 4,pos := "years.go:143",after := #[{ on := 3,ground := Go.Ground.data }],guard := none }) (v := ?_) rfl qg qg qg qg qg (fun _ _ _ h => h) (.inl ⟨by rfl,?_⟩) (by assumption) ?_
        rotate_left
        ·intro w_ hS_; (try dsimp only at hS_); go_simp; all_goals (with_reducible rfl)
        (try simp only [pu0,pu1,pu2,pu3,pu4])
        refine tk 5 ?_
        (try simp only [pu0,pu1,pu2,pu3,pu4])
        refine tkn 6 ?_
        (try simp only [pu0,pu1,pu2,pu3,pu4])
        refine tkn 7 ?_
        (try simp only [pu0,pu1,pu2,pu3,pu4])
        refine tkn 8 ?_
        (try simp only [pu0,pu1,pu2,pu3,pu4])
        refine tkn 9 ?_
        (try simp only [pu0,pu1,pu2,pu3,pu4])
        refine tkn 10 ?_
        (try simp only [pu0,pu1,pu2,pu3,pu4])
        refine on1 11 fun K hK => ?_
        refine zhv qA ?_
        refine hK.out _ _ (fun _ => HS) ?_
        clear hK K
        (try simp only [pu0,pu1,pu2,pu3,pu4])
        refine tkn 12 ?_
        (try simp only [pu0,pu1,pu2,pu3,pu4])
        refine tk 13 ?_
        (try simp only [pu0,pu1,pu2,pu3,pu4])
        refine tk 14 ?_
        (try simp only [pu0,pu1,pu2,pu3,pu4])
        refine zac qg ?_ _
        clear HS
        have h := H.out
        rw [if_pos rfl] at h
        simp only [Option.some.injEq,Prod.mk.injEq] at h
        obtain ⟨rfl,rfl,rfl⟩ := h
        have hc60 : w6.cell? ⟨w.heap.size,0,none⟩ = some (.int .i64 0) := zf B6.out 0
        have hf60 : w6.frozen? ⟨w.heap.size,0,none⟩ = false := zn B6.out 0
        have hc61 : ∀ x,(w6.setCell ⟨w.heap.size,0,none⟩ (.int .i64 x)).cell? ⟨w.heap.size,1,none⟩ = some (.int .i64 0) := fun x => zf (zar B6.out 0 _) 1
        have hf61 : ∀ x,(w6.setCell ⟨w.heap.size,0,none⟩ (.int .i64 x)).frozen? ⟨w.heap.size,1,none⟩ = false := fun x => zn (zar B6.out 0 _) 1
        have hm1 : w6.cell? ⟨w4.heap.size,1,none⟩ = some (.int .i64 m1) := zf B14.out 1
        go_wp2_with fail
        refine zdr B6.out (.int .i64 3) (.int .i64 m1) (.int .i64 0) _ qA qA ?_
        exact ⟨rfl,zh (zh HB.out (Nat.le_refl _)) (Nat.le_refl _)⟩
    ·have h := H.out
     rw [if_neg g5] at h
     simp only [Option.some.injEq,Prod.mk.injEq] at h
     obtain ⟨rfl,rfl,rfl⟩ := h
     have t2 : (ce != 0) = true := bne_iff_ne.mpr g5
     have hc60 : w3.cell? ⟨w.heap.size,0,none⟩ = some (.int .i64 0) := zf B6.out 0
     have hf60 : w3.frozen? ⟨w.heap.size,0,none⟩ = false := zn B6.out 0
     have hc61 : ∀ x,(w3.setCell ⟨w.heap.size,0,none⟩ (.int .i64 x)).cell? ⟨w.heap.size,1,none⟩ = some (.int .i64 0) := fun x => zf (zar B6.out 0 _) 1
     have hf61 : ∀ x,(w3.setCell ⟨w.heap.size,0,none⟩ (.int .i64 x)).frozen? ⟨w.heap.size,1,none⟩ = false := fun x => zn (zar B6.out 0 _) 1
     go_wp2_with fail
     refine zdr B6.out (.int .i64 0) (.int .i64 0) (.int .i64 ce) _ qA qA ?_
     exact ⟨rfl,zh (zh HB.out (Nat.le_refl _)) (Nat.le_refl _)⟩
   ·have h := H.out
    rw [if_neg g4] at h
    simp only [Option.some.injEq,Prod.mk.injEq] at h
    obtain ⟨rfl,rfl,rfl⟩ := h
    have t2 : (re != 0) = true := bne_iff_ne.mpr g4
    have hc60 : w2.cell? ⟨w.heap.size,0,none⟩ = some (.int .i64 0) := zf B6.out 0
    have hf60 : w2.frozen? ⟨w.heap.size,0,none⟩ = false := zn B6.out 0
    have hc61 : ∀ x,(w2.setCell ⟨w.heap.size,0,none⟩ (.int .i64 x)).cell? ⟨w.heap.size,1,none⟩ = some (.int .i64 0) := fun x => zf (zar B6.out 0 _) 1
    have hf61 : ∀ x,(w2.setCell ⟨w.heap.size,0,none⟩ (.int .i64 x)).frozen? ⟨w.heap.size,1,none⟩ = false := fun x => zn (zar B6.out 0 _) 1
    go_wp2_with fail
    refine zdr B6.out (.int .i64 0) (.int .i64 0) (.int .i64 re) _ qA qA ?_
    exact ⟨rfl,zh (zh HB.out (Nat.le_refl _)) (Nat.le_refl _)⟩
 ·have h := H.out
  rw [if_neg g0] at h
  simp only [Option.some.injEq,Prod.mk.injEq] at h
  obtain ⟨rfl,rfl,rfl⟩ := h
  have t2 : (e0 != 0) = true := bne_iff_ne.mpr g0
  have hc60 : w1.cell? ⟨w.heap.size,0,none⟩ = some (.int .i64 0) := zf B6.out 0
  have hf60 : w1.frozen? ⟨w.heap.size,0,none⟩ = false := zn B6.out 0
  have hc61 : ∀ x,(w1.setCell ⟨w.heap.size,0,none⟩ (.int .i64 x)).cell? ⟨w.heap.size,1,none⟩ = some (.int .i64 0) := fun x => zf (zar B6.out 0 _) 1
  have hf61 : ∀ x,(w1.setCell ⟨w.heap.size,0,none⟩ (.int .i64 x)).frozen? ⟨w.heap.size,1,none⟩ = false := fun x => zn (zar B6.out 0 _) 1
  go_wp2_with fail
  refine zdr B6.out (.int .i64 0) (.int .i64 0) (.int .i64 e0) _ qA qA ?_
  exact ⟨rfl,zh (zh HB.out (Nat.le_refl _)) (Nat.le_refl _)⟩
theorem zha (xs : List (Int × List S63)) : ∀ f : Int × List S63,(zaq f xs).1 ≤ f.1 ∧ ∀ x ∈ xs,(zaq f xs).1 ≤ x.1 := by
 induction xs with
 | nil => intro f; exact ⟨Int.le_refl _,fun x hx => by cases hx⟩
 | cons x xs ih =>
  intro f
  rw [zaq]
  have hlt : ∀ u v : Int × List S63,u.1 < v.1 → cmpL u v < 0 := by
   intro u v h
   unfold cmpL or3 zcb
   rw [if_pos h,if_neg qq]; decide
  by_cases hc : cmpL x f < 0
  ·rw [if_pos hc]
   obtain ⟨h1,h2⟩ := ih x
   have hxf : x.1 ≤ f.1 := by
    by_cases h : f.1 < x.1
    ·exfalso
     have : cmpL x f = 1 := by
      unfold cmpL or3 zcb
      rw [if_neg (show ¬ x.1 < f.1 by omega),if_pos h,if_neg qq]
     rw [this] at hc; exact absurd hc qq
    ·omega
   exact ⟨by omega,fun y hy => by
    rcases List.mem_cons.1 hy with rfl | hy
    ·exact h1
    ·exact h2 y hy⟩
  ·rw [if_neg hc]
   obtain ⟨h1,h2⟩ := ih f
   have hxf : f.1 ≤ x.1 := by
    by_cases h : x.1 < f.1
    ·exact absurd (hlt _ _ h) hc
    ·omega
   exact ⟨h1,fun y hy => by
    rcases List.mem_cons.1 hy with rfl | hy
    ·omega
    ·exact h2 y hy⟩
theorem zft (a b : List ByteArray) : zbj a b ≤ a.length ∧ zbj a b ≤ b.length := by
 obtain ⟨x,h1,h2,h3⟩ := zc6 _ a b (Nat.le_refl _)
 rw [← h3]; exact ⟨h1.length_le,h2.length_le⟩
theorem zeo {a a' b b' : List ByteArray} (h1 : a.Sublist a') (h2 : b.Sublist b') : zbj a b ≤ zbj a' b' := by
 obtain ⟨x,k1,k2,k3⟩ := zc6 _ a b (Nat.le_refl _)
 rw [← k3]; exact zdt _ a' b' x (Nat.le_refl _) (k1.trans h1) (k2.trans h2)
theorem zgO (a b : List ByteArray) : zbj a b = zc1 a b := by
 obtain ⟨x,k1,k2,k3⟩ := zc6 _ a b (Nat.le_refl _)
 obtain ⟨y,m1,m2,m3⟩ := zgP a b
 have h1 := ziw k1 k2
 have h2 := zdt _ a b y (Nat.le_refl _) m1 m2
 omega
theorem zcc (m : S63) (x : Int × List S63) (h0 : 0 ≤ x.1) (hn : x.1 ≤ 5000) : (zq m x).1 = (if m.f0 = 3 then x.1 else x.1 + 1) := by
 unfold zq
 dsimp only
 split
 ·rfl
 ·exact zeC ql ql
theorem ziB (a : List ByteArray) : ∀ (b : List ByteArray) (i : Nat),a.length + b.length ≤ 2000 → (dsp i a b).1 = (b.length : Int) - (zbj a b : Int) := by
 induction a with
 | nil =>
  intro b
  induction b with
  | nil => intro i _; rw [dsp,zbj]; rfl
  | cons y b ih =>
   intro i hl
   simp only [List.length_cons,List.length_nil] at hl
   have h := ih i qI
   rw [zbj] at h
   rw [dsp,zcc _ _ ql ql,h,zbj]
   simp
 | cons x a iha =>
  intro b
  induction b with
  | nil =>
   intro i hl
   simp only [List.length_cons,List.length_nil] at hl
   have h := iha [] (i + 1) qI
   rw [zeY] at h
   rw [dsp,zcc _ _ (by simp at h; omega) (by simp at h; omega),h,zeY]
   simp
  | cons y b ih =>
   intro i hl
   simp only [List.length_cons] at hl
   have h1 := ih i qx
   have h2 := iha (y :: b) (i + 1) qx
   have h3 := iha b (i + 1) ql
   have l1 := zft (x :: a) b
   have l2 := zft a (y :: b)
   have l3 := zft a b
   have m1 := zeo (List.Sublist.refl (x :: a)) (List.sublist_cons_self y b)
   have m2 := zeo (List.sublist_cons_self x a) (List.Sublist.refl (y :: b))
   have m3 := zeo (List.sublist_cons_self x a) (List.Sublist.refl b)
   simp only [List.length_cons] at h2 l1 l2
   have c1 := zcc ⟨1,i,y⟩ (dsp i (x :: a) b) ql ql
   have c2 := zcc ⟨3,i,⟨#[]⟩⟩ (dsp (i + 1) a (y :: b)) ql ql
   have c3 := zcc ⟨2,i,y⟩ (dsp (i + 1) a b) ql ql
   rw [if_neg qG] at c1 c3
   rw [if_pos qA] at c2
   have hmin := zha ([zq ⟨3,i,⟨#[]⟩⟩ (dsp (i + 1) a (y :: b)),zq ⟨2,i,y⟩ (dsp (i + 1) a b)] ++ (if (x.toList == y.toList) = true then [dsp (i + 1) a b] else [])) (zq ⟨1,i,y⟩ (dsp i (x :: a) b))
   have hmem := zbT ([zq ⟨3,i,⟨#[]⟩⟩ (dsp (i + 1) a (y :: b)),zq ⟨2,i,y⟩ (dsp (i + 1) a b)] ++ (if (x.toList == y.toList) = true then [dsp (i + 1) a b] else [])) (zq ⟨1,i,y⟩ (dsp i (x :: a) b))
   rw [dsp]
   have e1 := zgO (x :: a) b
   by_cases he : x.toList = y.toList
   ·have hb : (x.toList == y.toList) = true := beq_iff_eq.2 he
    rw [if_pos hb] at hmin hmem ⊢
    generalize zaq (zq ⟨1,i,y⟩ (dsp i (x :: a) b)) ([zq ⟨3,i,⟨#[]⟩⟩ (dsp (i + 1) a (y :: b)),zq ⟨2,i,y⟩ (dsp (i + 1) a b)] ++ [dsp (i + 1) a b]) = r at hmin hmem ⊢
    have hm := hmin.2 (dsp (i + 1) a b) qC
    have hL : zbj (x :: a) (y :: b) = zbj a b + 1 := by rw [zbj,if_pos he]
    have hu := m1
    have hv := m2
    rw [hL] at hu hv ⊢
    simp only [List.length_cons]
    rcases hmem with h | h
    ·rw [h] at hm ⊢; omega
    ·simp only [List.cons_append,List.nil_append,List.mem_cons,List.not_mem_nil,or_false] at h
     rcases h with h | h | h <;> rw [h] at hm ⊢ <;> omega
   ·have hb : ¬ (x.toList == y.toList) = true := fun h => he (beq_iff_eq.1 h)
    rw [if_neg hb,List.append_nil] at hmin hmem ⊢
    generalize zaq (zq ⟨1,i,y⟩ (dsp i (x :: a) b)) [zq ⟨3,i,⟨#[]⟩⟩ (dsp (i + 1) a (y :: b)),zq ⟨2,i,y⟩ (dsp (i + 1) a b)] = r at hmin hmem ⊢
    have hL : zbj (x :: a) (y :: b) = max (zbj a (y :: b)) (zbj (x :: a) b) := by rw [zbj,if_neg he]
    have k1 := hmin.1
    have k2 := hmin.2 _ (List.mem_cons_self)
    rw [hL]
    simp only [List.length_cons]
    rcases hmem with h | h
    ·rw [h] at k2 ⊢; omega
    ·simp only [List.mem_cons,List.not_mem_nil,or_false] at h
     rcases h with h | h <;> rw [h] at k1 k2 ⊢ <;> omega
theorem zhr (a : List ByteArray) : ∀ (b : List ByteArray) (i : Nat),a.length + b.length ≤ 2000 → (dsp i a b).1 = zaP (dsp i a b).2 := by
 have hb : ∀ (m : S63) (x : Int × List S63),0 ≤ x.1 → x.1 ≤ 5000 → x.1 = zaP x.2 → (zq m x).1 = zaP (zq m x).2 := by
  intro m x h0 h1 h
  rw [zcc m x h0 h1]
  unfold zq
  simp only [zaP]
  split <;> omega
 induction a with
 | nil =>
  intro b
  induction b with
  | nil => intro i _; rw [dsp]; rfl
  | cons y b ih =>
   intro i hl
   simp only [List.length_cons,List.length_nil] at hl
   have h := ih i qI
   have hc := zdD [] b i qI
   simp only [List.length_nil] at hc
   rw [dsp]; exact hb _ _ ql ql h
 | cons x a iha =>
  intro b
  induction b with
  | nil =>
   intro i hl
   simp only [List.length_cons,List.length_nil] at hl
   have h := iha [] (i + 1) qI
   have hc := zdD a [] (i + 1) qI
   simp only [List.length_nil] at hc
   rw [dsp]; exact hb _ _ ql ql h
  | cons y b ih =>
   intro i hl
   simp only [List.length_cons] at hl
   have h1 := ih i qx
   have h2 := iha (y :: b) (i + 1) qx
   have h3 := iha b (i + 1) ql
   have d1 := zdD (x :: a) b i qx
   have d2 := zdD a (y :: b) (i + 1) qx
   have d3 := zdD a b (i + 1) ql
   simp only [List.length_cons] at d1 d2
   rw [dsp]
   rcases zbT ([zq ⟨3,i,⟨#[]⟩⟩ (dsp (i + 1) a (y :: b)),zq ⟨2,i,y⟩ (dsp (i + 1) a b)] ++ (if (x.toList == y.toList) = true then [dsp (i + 1) a b] else [])) (zq ⟨1,i,y⟩ (dsp i (x :: a) b)) with h | h
   ·rw [h]; exact hb _ _ ql ql h1
   ·generalize zaq (zq ⟨1,i,y⟩ (dsp i (x :: a) b)) ([zq ⟨3,i,⟨#[]⟩⟩ (dsp (i + 1) a (y :: b)),zq ⟨2,i,y⟩ (dsp (i + 1) a b)] ++ (if (x.toList == y.toList) = true then [dsp (i + 1) a b] else [])) = r at h ⊢
    rcases List.mem_append.1 h with h | h
    ·simp only [List.mem_cons,List.not_mem_nil,or_false] at h
     rcases h with rfl | rfl
     ·exact hb _ _ ql ql h2
     ·exact hb _ _ ql ql h3
    ·by_cases he : (x.toList == y.toList) = true
     ·rw [if_pos he] at h
      simp only [List.mem_cons,List.not_mem_nil,or_false] at h
      subst h; exact h3
     ·rw [if_neg he] at h; cases h
def prS (a b : List ByteArray) : Int := (b.length : Int) - (zc1 a b : Int)
theorem zhg (a b : List ByteArray) (h : a.length + b.length ≤ 2000) : zaP (dsp 0 a b).2 = prS a b := by
 rw [← zhr a b 0 h,ziB a b 0 h,zgO]; rfl
theorem zgR (a b : List ByteArray) (ha : zbt a = 0) (hb : zbt b = 0) : Ev (fun k => zbS.f k a b) ((dsp 0 a b).2,0) := by
 have l1 := zcW ha
 have l2 := zcW hb
 unfold zbS.f
 refine Ev.be (zf0 a) ?_
 rw [ha]
 refine Ev.ifp rfl ?_
 refine Ev.be (zf0 b) ?_
 rw [hb]
 refine Ev.ifp rfl ?_
 have hd : zbl.f a b = some (dsp 0 a b).2 := by unfold zbl.f; rw [if_pos ⟨by omega,by omega⟩]
 exact Ev.bs hd (Ev.now _)
theorem zes : ∀ p : List ByteArray,zcy p = 0 → ∀ x ∈ p,zaT x = 0
 | [],_,x,hx => by cases hx
 | y :: p,h,x,hx => by
  rw [zcy] at h
  by_cases hy : zaT y = 0
  ·rw [if_pos hy] at h
   rcases List.mem_cons.1 hx with rfl | hx
   ·exact hy
   ·exact zes p h x hx
  ·rw [if_neg hy] at h; exact absurd h hy
theorem zg8 {p : List ByteArray} (h : zbt p = 0) : ∀ x ∈ p,zaT x = 0 := by
 have hl := zcW h
 unfold zbt at h
 rw [if_neg ql] at h
 exact zes p h
theorem zga (a b : List ByteArray) (ha : zbt a = 0) (hb : zbt b = 0) : zbZ a (dsp 0 a b).2 = 0 := by
 have l1 := zcW ha
 have l2 := zcW hb
 have hlen := zfz a b 0
 unfold zbZ zcN
 rw [if_pos ha,if_neg ql]
 exact (zhL a b 0).valid a.length ql (zg8 hb) none (fun p hp => by cases hp)
end Go.Proofs.Ytgmbbfmbimofoaa.P
