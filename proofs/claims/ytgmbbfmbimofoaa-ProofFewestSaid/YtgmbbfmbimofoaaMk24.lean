-- MERGED BY A PROGRAM out of texts of this claim: hand work, and what a (turned) print of the kit has written for it
import Derived.IntWalk
import Derived.Outline
import Derived.Deep.DeepCutAuto
import Derived.Deep.CutBlock
import Derived.Test.YtgmbbfmbimofoaaMk23
import Derived.Test.YtgmbbfmbimofoaaMk5
import Derived.Test.YtgmbbfmbimofoaaMk22
import Derived.Test.YtgmbbfmbimofoaaMk12
import Derived.Test.YtgmbbfmbimofoaaMk7
import Derived.Test.YtgmbbfmbimofoaaMk9
namespace Go.Proofs.Ytgmbbfmbimofoaa.P
open Go.RowKit Go.Proofs.YtgmbbfmbimofoaaW.PrintWords Go.Proofs.YtgmbbfmbimofoaaW.PrintLast Go.Proofs.YtgmbbfmbimofoaaW.PrintMore
attribute [local go_sem] zH zI zP zO zC zB zJ zK
set_option linter.unusedVariables false
set_option linter.unusedSimpArgs false
structure DIn (w : World) (A0 : Option Addr) (c0 : Nat) (a : List ByteArray) (A1 : Option Addr) (c1 : Nat) (b : List ByteArray) : Prop where
 ra : Kd.string.C w A0 a.length a
 ha : a.length ≤ c0
 rb : Kd.string.C w A1 b.length b
 hb : b.length ≤ c1
theorem DIn.below {w w' : World} {A0 : Option Addr} {c0 : Nat} {a : List ByteArray} {A1 : Option Addr} {c1 : Nat} {b : List ByteArray} (h : DIn w A0 c0 a A1 c1 b) (hb : Below w.heap.size w w') : DIn w' A0 c0 a A1 c1 b :=
 ⟨Kd.zU h.ra hb,h.ha,Kd.zU h.rb hb,h.hb⟩
structure Cmp {α : Type} (c : α → α → Int) : Prop where
 neg : ∀ x y,c y x = - c x y
 tr : ∀ x y z,c x y ≤ 0 → c y z ≤ 0 → c x z ≤ 0
 eq : ∀ x y,c x y = 0 → x = y
theorem Cmp.str {α : Type} {c : α → α → Int} (h : Cmp c) {x y z : α} (h1 : c x y < 0) (h2 : c y z ≤ 0) : c x z < 0 := by
 have h3 := h.tr x y z ql h2
 by_cases h4 : c x z = 0
 ·have := h.eq x z h4
  subst this
  have := h.neg x y
  omega
 ·omega
def lx (a b : Int) : Int := if a = 0 then b else a
theorem zf1 (a b c : Int) : or3 a b c = lx a (lx b c) := rfl
theorem zit {α : Type} {c : α → α → Int} (h : Cmp c) (x y z : α) {u v t : Int} (ht : u ≤ 0 → v ≤ 0 → t ≤ 0) (h1 : lx (c x y) u ≤ 0) (h2 : lx (c y z) v ≤ 0) : lx (c x z) t ≤ 0 := by
 unfold lx at h1 h2 ⊢
 by_cases e1 : c x y = 0
 ·rw [if_pos e1] at h1
  have := h.eq _ _ e1
  subst this
  by_cases e2 : c x z = 0
  ·rw [if_pos e2] at h2 ⊢
   exact ht h1 h2
  ·rw [if_neg e2] at h2 ⊢
   exact h2
 ·rw [if_neg e1] at h1
  by_cases e2 : c y z = 0
  ·have := h.eq _ _ e2
   subst this
   rw [if_neg e1]; exact h1
  ·rw [if_neg e2] at h2
   have := h.str (x := x) (y := y) (z := z) ql h2
   rw [if_neg ql]; omega
theorem zhG {a b a' b' : Int} (h1 : a' = -a) (h2 : b' = -b) : lx a' b' = - lx a b := by
 unfold lx; subst h1 h2; split <;> split <;> omega
theorem zeG {a b : Int} (h : lx a b = 0) : a = 0 ∧ b = 0 := by
 unfold lx at h; split at h
 ·exact ⟨by assumption,h⟩
 ·exact absurd h (by assumption)
theorem Cmp.lex {β γ : Type} {c1 : β → β → Int} {c2 : γ → γ → Int} (h1 : Cmp c1) (h2 : Cmp c2) : Cmp (fun (x y : β × γ) => lx (c1 x.1 y.1) (c2 x.2 y.2)) where
 neg := fun x y => zhG (h1.neg _ _) (h2.neg _ _)
 tr := fun x y z => zit h1 _ _ _ (h2.tr _ _ _)
 eq := fun x y h => Prod.ext (h1.eq _ _ (zeG h).1) (h2.eq _ _ (zeG h).2)
theorem Cmp.inj {α β : Type} {c : β → β → Int} (h : Cmp c) (f : α → β) (hf : ∀ x y,f x = f y → x = y) : Cmp (fun x y => c (f x) (f y)) where
 neg := fun x y => h.neg _ _
 tr := fun x y z => h.tr _ _ _
 eq := fun x y e => hf _ _ (h.eq _ _ e)
theorem zdE : Cmp zcb where
 neg := fun x y => by unfold zcb; split <;> split <;> omega
 tr := fun x y z => by unfold zcb; repeat' split <;> (try omega)
 eq := fun x y => by unfold zcb; repeat' split <;> (try omega)
theorem zgb : ∀ (x y z : List UInt8),Op.bytesLess x y = true → Op.bytesLess y z = true → Op.bytesLess x z = true
 | _,[],_,h,_ => by simp [Op.bytesLess] at h
 | _,_ :: _,[],_,h => by simp [Op.bytesLess] at h
 | [],_ :: _,_ :: _,_,_ => by simp [Op.bytesLess]
 | a :: x,b :: y,c :: z,h1,h2 => by
  have ih := zgb x y z
  rw [Op.bytesLess] at h1 h2 ⊢
  simp only [Bool.or_eq_true,Bool.and_eq_true,decide_eq_true_eq,beq_iff_eq] at h1 h2 ⊢
  rcases h1 with h1 | ⟨rfl,h1⟩
  ·rcases h2 with h2 | ⟨rfl,h2⟩
   ·exact .inl (Nat.lt_trans (m := b.toNat) h1 h2)
   ·exact .inl h1
  ·rcases h2 with h2 | ⟨rfl,h2⟩
   ·exact .inl h2
   ·exact .inr ⟨rfl,ih h1 h2⟩
theorem zbV (x y : ByteArray) : (Op.bytesLess x.toList y.toList = true ∧ Op.bytesLess y.toList x.toList = false ∧ zdG x y = -1) ∨ (Op.bytesLess x.toList y.toList = false ∧ Op.bytesLess y.toList x.toList = true ∧ zdG x y = 1) ∨ (Op.bytesLess x.toList y.toList = false ∧ Op.bytesLess y.toList x.toList = false ∧ x = y ∧ zdG x y = 0) := by
 have hg := ze0 x.toList y.toList
 unfold zdG
 cases h1 : Op.bytesLess x.toList y.toList
 ·cases h2 : Op.bytesLess y.toList x.toList
  ·rw [h1,h2] at hg
   refine .inr (.inr ⟨rfl,rfl,?_,by simp⟩)
   exact bytes_inj (by simpa using hg)
  ·exact .inr (.inl ⟨rfl,rfl,by simp⟩)
 ·rw [h1] at hg
  have h2 : Op.bytesLess y.toList x.toList = false := by rw [← hg]; rfl
  exact .inl ⟨rfl,h2,by simp⟩
theorem zfX : Cmp zdG where
 neg := fun x y => by
  rcases zbV x y with ⟨h1,h2,h3⟩ | ⟨h1,h2,h3⟩ | ⟨h1,h2,rfl,h3⟩
  ·rcases zbV y x with ⟨k1,k2,k3⟩ | ⟨k1,k2,k3⟩ | ⟨k1,k2,_,k3⟩
   ·rw [k1] at h2; cases h2
   ·rw [h3,k3]; rfl
   ·rw [k2] at h1; cases h1
  ·rcases zbV y x with ⟨k1,k2,k3⟩ | ⟨k1,k2,k3⟩ | ⟨k1,k2,_,k3⟩
   ·rw [h3,k3]
   ·rw [k1] at h2; cases h2
   ·rw [k1] at h2; cases h2
  ·rw [h3]; rfl
 tr := fun x y z => by
  intro a1 a2
  rcases zbV x y with ⟨h1,h2,h3⟩ | ⟨h1,h2,h3⟩ | ⟨h1,h2,rfl,h3⟩
  ·rcases zbV y z with ⟨k1,k2,k3⟩ | ⟨k1,k2,k3⟩ | ⟨k1,k2,rfl,k3⟩
   ·have := zgb _ _ _ h1 k1
    unfold zdG; rw [if_pos this]; decide
   ·omega
   ·exact a1
  ·omega
  ·exact a2
 eq := fun x y h => by
  rcases zbV x y with ⟨h1,h2,h3⟩ | ⟨h1,h2,h3⟩ | ⟨h1,h2,rfl,h3⟩
  ·omega
  ·omega
  ·rfl
theorem zd9 : Cmp zdA := (zdE.lex (zdE.lex zfX)).inj (fun m : S63 => (m.f1,m.f0,m.f2)) (fun x y h => by
 cases x; cases y
 simp only [Prod.mk.injEq] at h
 obtain ⟨rfl,rfl,rfl⟩ := h
 rfl)
theorem zcz (a b : S63) (x y : List S63) : zbE (a :: x) (b :: y) = lx (zdA a b) (zbE x y) := by rw [zbE]; rfl
theorem zhN : Cmp zbE where
 neg := fun x => by
  induction x with
  | nil => intro y; cases y <;> simp [zbE]
  | cons a x ih =>
   intro y
   cases y with
   | nil => simp [zbE]
   | cons b y => rw [zcz,zcz]; exact zhG (zd9.neg _ _) (ih _)
 tr := fun x => by
  induction x with
  | nil => intro y z _ _; cases z <;> simp [zbE]
  | cons a x ih =>
   intro y z
   cases y with
   | nil => intro h _; simp [zbE] at h
   | cons b y =>
    cases z with
    | nil => intro _ h; simp [zbE] at h
    | cons c z => rw [zcz,zcz,zcz]; exact zit zd9 _ _ _ (ih y z)
 eq := fun x => by
  induction x with
  | nil => intro y h; cases y with | nil => rfl | cons b y => simp [zbE] at h
  | cons a x ih =>
   intro y h
   cases y with
   | nil => simp [zbE] at h
   | cons b y =>
    rw [zcz] at h
    rw [zd9.eq _ _ (zeG h).1,ih _ (zeG h).2]
theorem zca : Cmp cmpL := (zdE.lex (zdE.lex zhN)).inj (fun x : Int × List S63 => (x.1,(x.2.length : Int),x.2)) (fun x y h => by
 simp only [Prod.mk.injEq] at h
 exact Prod.ext h.1 h.2.2)
theorem zcJ (a b : Int) : zcb a b = 0 ↔ a = b := ⟨zdE.eq a b,fun h => by subst h; simp [zcb]⟩
theorem zec (a b : Int) : zcb a b < 0 ↔ a < b := by unfold zcb; repeat' split <;> (try omega)
theorem zhE (x y : ByteArray) : zdG x y = 0 ↔ x.toList = y.toList := ⟨fun h => by rw [zfX.eq _ _ h],fun h => by
 have := bytes_inj h
 subst this
 rcases zbV x x with ⟨h1,h2,h3⟩ | ⟨h1,h2,h3⟩ | ⟨h1,h2,_,h3⟩
 ·rw [h1] at h2; cases h2
 ·rw [h1] at h2; cases h2
 ·exact h3⟩
theorem zhV (x y : ByteArray) : zdG x y < 0 ↔ Op.bytesLess x.toList y.toList = true := by
 rcases zbV x y with ⟨h1,h2,h3⟩ | ⟨h1,h2,h3⟩ | ⟨h1,h2,_,h3⟩ <;> rw [h1,h3] <;> simp
theorem ze6 (a b : Int) : lx a b < 0 ↔ (a < 0 ∨ (a = 0 ∧ b < 0)) := by unfold lx; split <;> omega
theorem zin (a b : Int) : lx a b = 0 ↔ (a = 0 ∧ b = 0) := by unfold lx; split <;> omega
theorem zfJ (a b : S63) : zek a b = true ↔ zdA a b = 0 := by
 unfold zek zdA
 rw [zf1,zin,zin,zcJ,zcJ,zhE]
 simp only [Bool.and_eq_true,beq_iff_eq]
 constructor
 ·rintro ⟨⟨h1,h2⟩,h3⟩; exact ⟨h2,h1,h3⟩
 ·rintro ⟨h2,h1,h3⟩; exact ⟨⟨h1,h2⟩,h3⟩
theorem zgB (a b : S63) : zd3 a b = true ↔ zdA a b < 0 := by
 unfold zd3 zdA
 rw [zf1,ze6,ze6,zec,zec,zcJ,zcJ,zhV]
 by_cases h1 : a.f1 = b.f1
 ·rw [if_pos h1]
  by_cases h2 : a.f0 = b.f0
  ·rw [if_pos h2]
   constructor
   ·intro h; exact .inr ⟨h1, .inr ⟨h2,h⟩⟩
   ·rintro (h | ⟨_,h | ⟨_,h⟩⟩)
    ·omega
    ·omega
    ·exact h
  ·rw [if_neg h2,decide_eq_true_iff]
   constructor
   ·intro h; exact .inr ⟨h1, .inl h⟩
   ·rintro (h | ⟨_,h | ⟨h,_⟩⟩)
    ·omega
    ·exact h
    ·exact absurd h h2
 ·rw [if_neg h1,decide_eq_true_iff]
  constructor
  ·intro h; exact .inl h
  ·rintro (h | ⟨h,_⟩)
   ·exact h
   ·exact absurd h h1
theorem zez : ∀ (x y : List S63),x.length = y.length → (zcx x y = true ↔ zbE x y < 0)
 | [],[],_ => by simp [zcx,zbE]
 | [],_ :: _,h => by simp at h
 | _ :: _,[],h => by simp at h
 | a :: x,b :: y,h => by
  have ih := zez x y (by simpa using h)
  rw [zcx,zcz,ze6]
  by_cases hs : zek a b = true
  ·rw [if_pos hs,ih]
   have := (zfJ a b).1 hs
   constructor
   ·intro h; exact .inr ⟨this,h⟩
   ·rintro (h | h)
    ·omega
    ·exact h.2
  ·rw [if_neg hs,zgB]
   constructor
   ·exact .inl
   ·rintro (h | h)
    ·exact h
    ·exact absurd ((zfJ a b).2 h.1) hs
def prc (l : List S63) : Int × List S63 := (zaP l,l)
theorem zeU (x y : List S63) : zc3 x y = true ↔ cmpL (prc x) (prc y) < 0 := by
 unfold zc3 cmpL prc
 rw [zf1,ze6,ze6,zec,zec,zcJ,zcJ]
 dsimp only
 by_cases h1 : zaP x = zaP y
 ·rw [if_pos h1]
  by_cases h2 : x.length = y.length
  ·rw [if_pos h2,zez x y h2]
   constructor
   ·intro h; exact .inr ⟨h1, .inr ⟨by omega,h⟩⟩
   ·rintro (h | ⟨_,h | ⟨_,h⟩⟩)
    ·omega
    ·omega
    ·exact h
  ·rw [if_neg h2,decide_eq_true_iff]
   constructor
   ·intro h; exact .inr ⟨h1, .inl ql⟩
   ·rintro (h | ⟨_,h | ⟨h,_⟩⟩)
    ·omega
    ·omega
    ·omega
 ·rw [if_neg h1,decide_eq_true_iff]
  constructor
  ·intro h; exact .inl h
  ·rintro (h | ⟨h,_⟩)
   ·exact h
   ·exact absurd h h1
theorem zdd (xs : List (Int × List S63)) : ∀ f,cmpL (zaq f xs) f ≤ 0 ∧ ∀ x ∈ xs,cmpL (zaq f xs) x ≤ 0 := by
 have hr : ∀ x,cmpL x x ≤ 0 := fun x => by have := zca.neg x x; omega
 induction xs with
 | nil => intro f; exact ⟨hr _,fun x h => by cases h⟩
 | cons x xs ih =>
  intro f
  have := ih (if cmpL x f < 0 then x else f)
  rw [zaq]
  have h1 : cmpL (if cmpL x f < 0 then x else f) f ≤ 0 := by
   split
   ·omega
   ·exact hr _
  have h2 : cmpL (if cmpL x f < 0 then x else f) x ≤ 0 := by
   split
   ·exact hr _
   ·have := zca.neg x f; omega
  refine ⟨zca.tr _ _ _ this.1 h1,fun y hy => ?_⟩
  rcases List.mem_cons.1 hy with rfl | hy
  ·exact zca.tr _ _ _ this.1 h2
  ·exact this.2 y hy
theorem zdP (f g : Int × List S63) (xs ys : List (Int × List S63)) (h1 : ∀ x,x ∈ f :: xs → x ∈ g :: ys) (h2 : ∀ x,x ∈ g :: ys → x ∈ f :: xs) : zaq f xs = zaq g ys := by
 have le : ∀ (f : Int × List S63) xs x,x ∈ f :: xs → cmpL (zaq f xs) x ≤ 0 := fun f xs x hx => by
  rcases List.mem_cons.1 hx with rfl | hx
  ·exact (zdd xs _).1
  ·exact (zdd xs f).2 x hx
 have mem : ∀ (f : Int × List S63) xs,zaq f xs ∈ f :: xs := fun f xs => by
  rcases zbT xs f with h | h
  ·rw [h]; exact List.mem_cons_self
  ·exact List.mem_cons_of_mem _ h
 refine zca.eq _ _ ?_
 have a := le f xs _ (h2 _ (mem g ys))
 have b := le g ys _ (h1 _ (mem f xs))
 have := zca.neg (zaq f xs) (zaq g ys)
 omega
theorem zbx (b l : List S63) : ∃ c,zbA (some b) l = some c ∧ prc c = zaq (prc b) [prc l] := by
 unfold zbA
 dsimp only [zaq]
 by_cases h : zc3 l b = true
 ·rw [if_pos h,if_pos ((zeU l b).1 h)]; exact ⟨_,rfl,rfl⟩
 ·rw [if_neg h,if_neg (fun h' => h ((zeU l b).2 h'))]; exact ⟨_,rfl,rfl⟩
theorem zcT (m : S63) (l : List S63) (h : l.length ≤ 2000) : zq m (prc l) = prc (m :: l) := by
 have hc := zgr l
 refine Prod.ext ?_ rfl
 rw [zcc m (prc l) (by exact hc.1) (by show zaP l ≤ 5000; omega)]
 simp only [prc,zaP]
 split <;> omega
theorem zjg (a : List ByteArray) : ∀ (b : List ByteArray) (i : Nat),a.length + b.length ≤ 1000 → dsp i a b = prc (rdS i a b) := by
 induction a with
 | nil =>
  intro b
  induction b with
  | nil => intro i _; rw [dsp,rdS]; rfl
  | cons y b ih =>
   intro i hl
   simp only [List.length_cons,List.length_nil] at hl
   have hn := zdU [] b i
   simp only [List.length_nil] at hn
   rw [dsp,rdS,ih i qL,zcT _ _ ql]
   rfl
 | cons x a iha =>
  intro b
  induction b with
  | nil =>
   intro i hl
   simp only [List.length_cons,List.length_nil] at hl
   have hn := zdU a [] (i + 1)
   simp only [List.length_nil] at hn
   rw [dsp,rdS,iha [] (i + 1) qL,zcT _ _ ql]
   rfl
  | cons y b ih =>
   intro i hl
   simp only [List.length_cons] at hl
   have n1 := zdU (x :: a) b i
   have n2 := zdU a (y :: b) (i + 1)
   have n3 := zdU a b (i + 1)
   simp only [List.length_cons] at n1 n2
   rw [dsp,rdS,ih i qx,iha (y :: b) (i + 1) qx,iha b (i + 1) ql,zcT _ _ ql,zcT _ _ ql,zcT _ _ ql]
   obtain ⟨l1,e1⟩ : ∃ l,(⟨1,i,y⟩ :: rdS i (x :: a) b : List S63) = l := ⟨_,rfl⟩
   obtain ⟨l2,e2⟩ : ∃ l,(⟨2,i,y⟩ :: rdS (i + 1) a b : List S63) = l := ⟨_,rfl⟩
   obtain ⟨l3,e3⟩ : ∃ l,(⟨3,i,⟨#[]⟩⟩ :: rdS (i + 1) a (y :: b) : List S63) = l := ⟨_,rfl⟩
   rw [e1,e2,e3]
   by_cases he : x.toList = y.toList
   ·rw [if_pos (beq_iff_eq.2 he),if_pos he]
    obtain ⟨c1,u1,p1⟩ := zbx (rdS (i + 1) a b) l1
    obtain ⟨c2,u2,p2⟩ := zbx c1 l2
    obtain ⟨c3,u3,p3⟩ := zbx c2 l3
    rw [u1,u2,u3]
    show _ = prc c3
    have : prc c3 = zaq (prc (rdS (i + 1) a b)) [prc l1,prc l2,prc l3] := by
     rw [p3,p2,p1]; rfl
    rw [this]
    refine zdP _ _ _ _ ?_ ?_ <;> intro z hz <;> simp only [List.cons_append,List.nil_append,List.mem_cons,List.not_mem_nil,or_false] at hz ⊢ <;> rcases hz with h | h | h | h <;> simp [h]
   ·rw [if_neg (fun h => he (beq_iff_eq.1 h)),if_neg he]
    have u1 : zbA none l1 = some l1 := rfl
    obtain ⟨c2,u2,p2⟩ := zbx l1 l2
    obtain ⟨c3,u3,p3⟩ := zbx c2 l3
    rw [u1,u2,u3]
    show _ = prc c3
    have : prc c3 = zaq (prc l1) [prc l2,prc l3] := by
     rw [p3,p2]; rfl
    rw [this]
    refine zdP _ _ _ _ ?_ ?_ <;> intro z hz <;> simp only [List.cons_append,List.nil_append,List.append_nil,List.mem_cons,List.not_mem_nil,or_false] at hz ⊢ <;> rcases hz with h | h | h <;> simp [h]
theorem ziQ (a b : List ByteArray) (h : a.length + b.length ≤ 1000) : rdS 0 a b = (dsp 0 a b).2 := by rw [zjg a b 0 h]; rfl
def zby (i : Nat) (a b : List ByteArray) (begun : List S63) (st : Option (List S63)) : Option (List S63) :=
 match a,b with
 | [],[] => zbA st begun
 | [],y :: b => zby i [] b (begun ++ [⟨1,i,y⟩]) st
 | x :: a,[] => zby (i + 1) a [] (begun ++ [⟨3,i,⟨#[]⟩⟩]) st
 | x :: a,y :: b => zby (i + 1) a b (begun ++ [⟨2,i,y⟩]) (zby (i + 1) a (y :: b) (begun ++ [⟨3,i,⟨#[]⟩⟩]) (zby i (x :: a) b (begun ++ [⟨1,i,y⟩]) (if x.toList = y.toList then zby (i + 1) a b begun st else st)))
termination_by a.length + b.length
theorem zgN {x y : List S63} (h : prc x = prc y) : x = y := (Prod.ext_iff.1 h).2
theorem zet : ∀ x y : List S63,zaP (x ++ y) = zaP x + zaP y
 | [],y => by simp [zaP]
 | m :: x,y => by rw [List.cons_append]; simp only [zaP]; rw [zet x y]; omega
theorem zgs (c x y : Int) : zcb (c + x) (c + y) = zcb x y := by unfold zcb; repeat' split <;> (try omega)
theorem zfH : ∀ c x y : List S63,zbE (c ++ x) (c ++ y) = zbE x y
 | [],_,_ => rfl
 | m :: c,x,y => by
  rw [List.cons_append,List.cons_append,zcz,zfH c x y]
  have := zd9.neg m m
  unfold lx; rw [if_pos ql]
theorem zh3 (c x y : List S63) : cmpL (prc (c ++ x)) (prc (c ++ y)) = cmpL (prc x) (prc y) := by
 unfold cmpL prc
 dsimp only
 rw [zet,zet,zgs,zfH,List.length_append,List.length_append,Int.natCast_add,Int.natCast_add,zgs]
theorem zeb (c : List S63) : ∀ (xs : List (List S63)) (f g : List S63),zaq (prc f) (xs.map prc) = prc g → zaq (prc (c ++ f)) (xs.map fun x => prc (c ++ x)) = prc (c ++ g)
 | [],f,g,h => by
  have := zgN (show prc f = prc g from h)
  subst this; rfl
 | x :: xs,f,g,h => by
  rw [List.map_cons,zaq] at h
  rw [List.map_cons,zaq,zh3]
  by_cases hc : cmpL (prc x) (prc f) < 0
  ·rw [if_pos hc] at h ⊢; exact zeb c xs x g h
  ·rw [if_neg hc] at h ⊢; exact zeb c xs f g h
theorem zeQ (x : Int × List S63) : ∀ (xs : List (Int × List S63)) (f : Int × List S63),zaq f (xs ++ [x]) = (if cmpL x (zaq f xs) < 0 then x else zaq f xs)
 | [],f => rfl
 | y :: xs,f => by rw [List.cons_append,zaq,zeQ x xs,zaq]
def zcl (st : Option (List S63)) (xs : List (List S63)) : Prop := ∃ f, ∃ fs,(∀ x,x ∈ xs ↔ x ∈ f :: fs) ∧ ∃ g,st = some g ∧ prc g = zaq (prc f) (fs.map prc)
theorem zcl.upd {st : Option (List S63)} {xs : List (List S63)} (h : zcl st xs) (l : List S63) : zcl (zbA st l) (l :: xs) := by
 obtain ⟨f,fs,h1,g,rfl,h2⟩ := h
 refine ⟨f,fs ++ [l],fun x => by rw [List.mem_cons,h1]; simp only [List.mem_cons,List.mem_append,List.not_mem_nil,or_false]; constructor <;> rintro (h | h | h) <;> simp [h],?_⟩
 obtain ⟨c,u1,u2⟩ := zbx g l
 refine ⟨c,u1,?_⟩
 rw [u2,List.map_append,List.map_singleton,zeQ, ← h2]
 rfl
theorem zcl.uniq {s t : Option (List S63)} {xs ys : List (List S63)} (h : zcl s xs) (k : zcl t ys) (he : ∀ x,x ∈ xs ↔ x ∈ ys) : s = t := by
 obtain ⟨f,fs,h1,g,rfl,h2⟩ := h
 obtain ⟨f',fs',k1,g',rfl,k2⟩ := k
 have : zaq (prc f) (fs.map prc) = zaq (prc f') (fs'.map prc) := by
  refine zdP _ _ _ _ ?_ ?_ <;> intro x hx <;> rw [← List.map_cons,List.mem_map] at hx ⊢ <;> obtain ⟨y,hy,rfl⟩ := hx
  ·exact ⟨y,(k1 y).1 ((he y).1 ((h1 y).2 hy)),rfl⟩
  ·exact ⟨y,(h1 y).1 ((he y).2 ((k1 y).2 hy)),rfl⟩
 rw [this, ← k2] at h2
 rw [zgN h2]
theorem ziO : ∀ (n : Nat) (a b : List ByteArray) (i : Nat) (begun : List S63) (st : Option (List S63)),a.length + b.length = n → n ≤ 1000 → zby i a b begun st = zbA st (begun ++ rdS i a b) := by
 intro n
 induction n using Nat.strongRecOn with
 | _ n ih =>
  intro a b i begun st hn hl
  match a,b with
  | [],[] => rw [zby,rdS,List.append_nil]
  | [],y :: b =>
   simp only [List.length_cons,List.length_nil] at hn
   rw [zby,ih _ qL [] b i _ st rfl qL,rdS,List.append_assoc]; rfl
  | x :: a,[] =>
   simp only [List.length_cons,List.length_nil] at hn
   rw [zby,ih _ qL a [] (i + 1) _ st rfl qL,rdS,List.append_assoc]; rfl
  | x :: a,y :: b =>
   simp only [List.length_cons] at hn
   rw [zby,ih _ ql a b (i + 1) _ _ rfl ql,ih _ qx a (y :: b) (i + 1) _ _ rfl qx,ih _ qx (x :: a) b i _ _ rfl qx,ih _ ql a b (i + 1) _ _ rfl ql]
   rw [List.append_assoc,List.append_assoc,List.append_assoc,List.singleton_append,List.singleton_append,List.singleton_append]
   rw [rdS]
   obtain ⟨l1,e1⟩ : ∃ l,(⟨1,i,y⟩ :: rdS i (x :: a) b : List S63) = l := ⟨_,rfl⟩
   obtain ⟨l2,e2⟩ : ∃ l,(⟨2,i,y⟩ :: rdS (i + 1) a b : List S63) = l := ⟨_,rfl⟩
   obtain ⟨l3,e3⟩ : ∃ l,(⟨3,i,⟨#[]⟩⟩ :: rdS (i + 1) a (y :: b) : List S63) = l := ⟨_,rfl⟩
   obtain ⟨l0,e0⟩ : ∃ l,rdS (i + 1) a b = l := ⟨_,rfl⟩
   rw [e1,e2,e3,e0]
   clear e1 e2 e3 e0
   have ref : ∃ (f : List S63) (fs : List (List S63)) (g : List S63),zbA (zbA (zbA (if x.toList = y.toList then some l0 else none) l1) l2) l3 = some g ∧ prc g = zaq (prc f) (fs.map prc) ∧ (∀ z,z ∈ f :: fs ↔ (z = l1 ∨ z = l2 ∨ z = l3 ∨ (x.toList = y.toList ∧ z = l0))) := by
    by_cases he : x.toList = y.toList
    ·rw [if_pos he]
     obtain ⟨c1,u1,p1⟩ := zbx l0 l1
     obtain ⟨c2,u2,p2⟩ := zbx c1 l2
     obtain ⟨c3,u3,p3⟩ := zbx c2 l3
     rw [u1,u2,u3]
     refine ⟨l0,[l1,l2,l3],c3,rfl,by rw [p3,p2,p1]; rfl,fun z => ?_⟩
     simp only [List.mem_cons,List.not_mem_nil,or_false]
     constructor
     ·rintro (h | h | h | h) <;> simp [h,he]
     ·rintro (h | h | h | ⟨_,h⟩) <;> simp [h]
    ·rw [if_neg he]
     obtain ⟨c2,u2,p2⟩ := zbx l1 l2
     obtain ⟨c3,u3,p3⟩ := zbx c2 l3
     have u1 : zbA none l1 = some l1 := rfl
     rw [u1,u2,u3]
     refine ⟨l1,[l2,l3],c3,rfl,by rw [p3,p2]; rfl,fun z => ?_⟩
     simp only [List.mem_cons,List.not_mem_nil,or_false]
     constructor
     ·rintro (h | h | h) <;> simp [h]
     ·rintro (h | h | h | ⟨h,_⟩)
      ·simp [h]
      ·simp [h]
      ·simp [h]
      ·exact absurd h he
   obtain ⟨f,fs,g,r1,r2,r3⟩ := ref
   rw [r1]
   show _ = zbA st (begun ++ g)
   have r4 := zeb begun fs f g r2.symm
   have hB : zcl (some (begun ++ g)) ((f :: fs).map (begun ++ ·)) := ⟨begun ++ f,fs.map (begun ++ ·),fun _ => by rw [List.map_cons],begun ++ g,rfl,by rw [← r4,List.map_map]; rfl⟩
   cases st with
   | none =>
    have start : ∀ l : List S63,zcl (zbA none l) [l] := fun l => ⟨l,[],fun _ => Iff.rfl,l,rfl,rfl⟩
    show _ = some (begun ++ g)
    by_cases he : x.toList = y.toList
    ·rw [if_pos he]
     refine ((((start (begun ++ l0)).upd (begun ++ l1)).upd (begun ++ l3)).upd (begun ++ l2)).uniq hB fun z => ?_
     simp only [List.mem_map,r3,List.mem_cons,List.not_mem_nil,or_false]
     constructor
     ·rintro (h | h | h | h)
      ·exact ⟨l2,by simp,h.symm⟩
      ·exact ⟨l3,by simp,h.symm⟩
      ·exact ⟨l1,by simp,h.symm⟩
      ·exact ⟨l0,by simp [he],h.symm⟩
     ·rintro ⟨u,h | h | h | ⟨_,h⟩,rfl⟩ <;> simp [h]
    ·rw [if_neg he]
     refine (((start (begun ++ l1)).upd (begun ++ l3)).upd (begun ++ l2)).uniq hB fun z => ?_
     simp only [List.mem_map,r3,List.mem_cons,List.not_mem_nil,or_false]
     constructor
     ·rintro (h | h | h)
      ·exact ⟨l2,by simp,h.symm⟩
      ·exact ⟨l3,by simp,h.symm⟩
      ·exact ⟨l1,by simp,h.symm⟩
     ·rintro ⟨u,h | h | h | ⟨h,_⟩,rfl⟩
      ·simp [h]
      ·simp [h]
      ·simp [h]
      ·exact absurd h he
   | some s =>
    have start : ∀ l : List S63,zcl (some l) [l] := fun l => ⟨l,[],fun _ => Iff.rfl,l,rfl,rfl⟩
    have hB2 : zcl (zbA (some s) (begun ++ g)) (s :: (f :: fs).map (begun ++ ·)) := by
     obtain ⟨c,u1,u2⟩ := zbx s (begun ++ g)
     refine ⟨s,(f :: fs).map (begun ++ ·),fun _ => Iff.rfl,c,u1,?_⟩
     refine zca.eq _ _ ?_
     have a1 := zdd ((f :: fs).map (begun ++ ·) |>.map prc) (prc s)
     have a2 := zbT ((f :: fs).map (begun ++ ·) |>.map prc) (prc s)
     have b1 := zdd [prc (begun ++ g)] (prc s)
     have b2 := zdd ((fs.map (begun ++ ·)).map prc) (prc (begun ++ f))
     have b3 := zbT ((fs.map (begun ++ ·)).map prc) (prc (begun ++ f))
     have e3 : zaq (prc (begun ++ f)) ((fs.map (begun ++ ·)).map prc) = prc (begun ++ g) := by rw [← r4,List.map_map]; rfl
     rw [e3] at b2 b3
     rw [← u2] at b1
     obtain ⟨L,hL⟩ : ∃ L,zaq (prc s) ((f :: fs).map (begun ++ ·) |>.map prc) = L := ⟨_,rfl⟩
     rw [hL] at a1 a2 ⊢
     have up : cmpL (prc c) L ≤ 0 := by
      rcases a2 with h | h
      ·rw [h]; exact b1.1
      ·refine zca.tr _ _ _ (b1.2 _ (List.mem_singleton.2 rfl)) ?_
       rw [List.map_cons,List.map_cons] at h
       rcases List.mem_cons.1 h with h | h
       ·rw [h]; exact b2.1
       ·exact b2.2 _ h
     have dn : cmpL L (prc c) ≤ 0 := by
      have hc : c = s ∨ c = begun ++ g := by
       unfold zbA at u1
       dsimp only at u1
       split at u1
       ·exact .inr (Option.some.inj u1).symm
       ·exact .inl (Option.some.inj u1).symm
      rcases hc with h | h
      ·rw [h]; exact a1.1
      ·rw [h]
       refine a1.2 _ ?_
       rw [List.map_cons,List.map_cons]
       rcases b3 with h | h
       ·rw [h]; exact List.mem_cons_self
       ·exact List.mem_cons_of_mem _ h
     have := zca.neg L (prc c)
     omega
    by_cases he : x.toList = y.toList
    ·rw [if_pos he]
     refine (((((start s).upd (begun ++ l0)).upd (begun ++ l1)).upd (begun ++ l3)).upd (begun ++ l2)).uniq hB2 fun z => ?_
     simp only [List.mem_cons,List.mem_map,List.not_mem_nil,or_false]
     simp only [← List.mem_cons,r3]
     constructor
     ·rintro (h | h | h | h | h)
      ·exact .inr ⟨l2,by simp,h.symm⟩
      ·exact .inr ⟨l3,by simp,h.symm⟩
      ·exact .inr ⟨l1,by simp,h.symm⟩
      ·exact .inr ⟨l0,by simp [he],h.symm⟩
      ·exact .inl h
     ·rintro (h | ⟨u,h | h | h | ⟨_,h⟩,rfl⟩) <;> simp [h]
    ·rw [if_neg he]
     refine ((((start s).upd (begun ++ l1)).upd (begun ++ l3)).upd (begun ++ l2)).uniq hB2 fun z => ?_
     simp only [List.mem_cons,List.mem_map,List.not_mem_nil,or_false]
     simp only [← List.mem_cons,r3]
     constructor
     ·rintro (h | h | h | h)
      ·exact .inr ⟨l2,by simp,h.symm⟩
      ·exact .inr ⟨l3,by simp,h.symm⟩
      ·exact .inr ⟨l1,by simp,h.symm⟩
      ·exact .inl h
     ·rintro (h | ⟨u,h | h | h | ⟨h,_⟩,rfl⟩)
      ·simp [h]
      ·simp [h]
      ·simp [h]
      ·simp [h]
      ·exact absurd h he
end Go.Proofs.Ytgmbbfmbimofoaa.P
