-- MERGED BY A PROGRAM out of texts of this claim: hand work, and what a (turned) print of the kit has written for it
import Derived.Outline
import Derived.Test.YtgmbbfmbimofoaaMi15
import Derived.Test.YtgmbbfmbimofoaaMi14
import Derived.Test.YtgmbbfmbimofoaaMi23
import Derived.Test.YtgmbbfmbimofoaaMi6
import Derived.Test.YtgmbbfmbimofoaaMi5
import Derived.Test.YtgmbbfmbimofoaaMi7
namespace Go.Proofs.Ytgmbbfmbimofoaa.P
open Go.RowKit Go.Proofs.YtgmbbfmbimofoaaW.PrintWords Go.Proofs.YtgmbbfmbimofoaaW.PrintLast Go.Proofs.YtgmbbfmbimofoaaW.PrintMore
attribute [local go_sem] zM zN zV zU zI zH zO zP
set_option linter.unusedVariables false
set_option linter.unusedSimpArgs false
inductive zbQ : Nat → List ByteArray → List ByteArray → List S63 → Prop
 | nil (i : Nat) : zbQ i [] [] []
 | ins {i : Nat} {a b : List ByteArray} {ms : List S63} (y : ByteArray) : zbQ i a b ms → zbQ i a (y :: b) (⟨1,i,y⟩ :: ms)
 | del {i : Nat} {a b : List ByteArray} {ms : List S63} (x : ByteArray) : zbQ (i + 1) a b ms → zbQ i (x :: a) b (⟨3,i,⟨#[]⟩⟩ :: ms)
 | set {i : Nat} {a b : List ByteArray} {ms : List S63} (x y : ByteArray) : zbQ (i + 1) a b ms → zbQ i (x :: a) (y :: b) (⟨2,i,y⟩ :: ms)
 | keep {i : Nat} {a b : List ByteArray} {ms : List S63} (x : ByteArray) : zbQ (i + 1) a b ms → zbQ i (x :: a) (x :: b) ms
theorem bytes_inj {x y : ByteArray} (h : x.toList = y.toList) : x = y := by
 obtain ⟨⟨l⟩⟩ := x
 obtain ⟨⟨m⟩⟩ := y
 rw [ByteArray.toList_eq,ByteArray.toList_eq] at h
 simp at h
 rw [h]
theorem zbQ.made {P : List ByteArray} {i : Nat} {a b : List ByteArray} {ms : List S63} (h : zbQ i a b ms) : P.drop i = a → i ≤ P.length → ∀ (acc : List ByteArray) (j : Nat),j ≤ i → (ms.foldl (zce P) (acc,j)).1 ++ P.drop (ms.foldl (zce P) (acc,j)).2 = acc ++ (P.take i).drop j ++ b := by
 induction h with
 | nil i =>
  intro hd hi acc j hj
  have hl : P.length ≤ i := by
   have := congrArg List.length hd
   simp at this; omega
  simp only [List.foldl_nil,List.append_nil]
  rw [List.take_of_length_le hl]
 | @ins i a b ms y h ih =>
  intro hd hi acc j hj
  rw [List.foldl_cons]
  have e : zce P (acc,j) ⟨1,i,y⟩ = (acc ++ (P.take i).drop j ++ [y],i) := by
   simp only [zce,Int.toNat_natCast,Nat.max_eq_right hj,if_true]
  rw [e,ih hd hi _ i (Nat.le_refl _)]
  simp [List.append_assoc,List.drop_eq_nil_of_le,List.length_take,Nat.min_le_left]
 | @del i a b ms x h ih =>
  intro hd hi acc j hj
  have hlt : i < P.length := by
   have := congrArg List.length hd
   simp at this; omega
  have hd' : P.drop (i + 1) = a := by
   have := congrArg List.tail hd
   simpa using this
  rw [List.foldl_cons]
  have e : zce P (acc,j) ⟨3,i,⟨#[]⟩⟩ = (acc ++ (P.take i).drop j,i + 1) := by
   simp [zce,Nat.max_eq_right hj]
  rw [e,ih hd' hlt _ (i + 1) (Nat.le_refl _)]
  simp [List.append_assoc,List.drop_eq_nil_of_le,List.length_take,Nat.min_le_left]
 | @set i a b ms x y h ih =>
  intro hd hi acc j hj
  have hlt : i < P.length := by
   have := congrArg List.length hd
   simp at this; omega
  have hd' : P.drop (i + 1) = a := by
   have := congrArg List.tail hd
   simpa using this
  rw [List.foldl_cons]
  have e : zce P (acc,j) ⟨2,i,y⟩ = (acc ++ (P.take i).drop j ++ [y],i + 1) := by
   simp [zce,Nat.max_eq_right hj]
  rw [e,ih hd' hlt _ (i + 1) (Nat.le_refl _)]
  simp [List.append_assoc,List.drop_eq_nil_of_le,List.length_take,Nat.min_le_left]
 | @keep i a b ms x h ih =>
  intro hd hi acc j hj
  have hlt : i < P.length := by
   have := congrArg List.length hd
   simp at this; omega
  have hd' : P.drop (i + 1) = a := by
   have := congrArg List.tail hd
   simpa using this
  have hx : P[i] = x := by
   have := congrArg List.head? hd
   rw [List.drop_eq_getElem_cons hlt,List.head?_cons,List.head?_cons] at this
   exact Option.some.inj this
  rw [ih hd' hlt acc j qj,List.take_succ_eq_append_getElem hlt,List.drop_append_of_le_length qM,hx]
  simp
theorem zbQ.fits {i : Nat} {a b : List ByteArray} {ms : List S63} (h : zbQ i a b ms) : ∀ n,i + a.length = n → ms.all (zct n) = true := by
 induction h with
 | nil i => intro n _; rfl
 | ins y h ih => intro n hn; rw [List.all_cons,ih n hn,Bool.and_true]; simp [zct]; omega
 | del x h ih => intro n hn; simp only [List.length_cons] at hn; rw [List.all_cons,ih n qj,Bool.and_true]; simp [zct]; omega
 | set x y h ih => intro n hn; simp only [List.length_cons] at hn; rw [List.all_cons,ih n qj,Bool.and_true]; simp [zct]; omega
 | keep x h ih => intro n hn; simp only [List.length_cons] at hn; exact ih n qj
theorem Ev.ifp {α : Type} {c : Prop} [Decidable c] {A B : Nat → Option α} {r : α} (h : c) (k : Ev A r) : Ev (fun n => if c then A n else B n) r := by
 obtain ⟨K,k⟩ := k
 exact ⟨K,fun n hn => by dsimp only; rw [if_pos h]; exact k n hn⟩
theorem Ev.ifn {α : Type} {c : Prop} [Decidable c] {A B : Nat → Option α} {r : α} (h : ¬ c) (k : Ev B r) : Ev (fun n => if c then A n else B n) r := by
 obtain ⟨K,k⟩ := k
 exact ⟨K,fun n hn => by dsimp only; rw [if_neg h]; exact k n hn⟩
theorem Ev.bs {α β : Type} {o : Option α} {a : α} {f : Nat → α → Option β} {r : β} (h : o = some a) (k : Ev (fun n => f n a) r) : Ev (fun n => o.bind (f n)) r := by
 obtain ⟨K,k⟩ := k
 exact ⟨K,fun n hn => by dsimp only; rw [h]; exact k n hn⟩
theorem Ev.be {α β : Type} {g : Nat → Option α} {a : α} {f : Nat → α → Option β} {r : β} (h : Ev g a) (k : Ev (fun n => f n a) r) : Ev (fun n => (g n).bind (fun x => f n x)) r := Ev.bind h k
theorem Ev.ret {α : Type} {o : Option α} {r : α} (h : o = some r) : Ev (fun _ => o) r := ⟨0,fun _ _ => h⟩
theorem zcz {x : Int} (h0 : -1000000000000000 ≤ x) (h1 : x ≤ 1000000000000000) : wrap64 x = x := by unfold wrap64; omega
theorem zby (n : Nat) (h : n ≤ 1000000) : wrap64 ((n : Int) + 1) = ((n + 1 : Nat) : Int) := by unfold wrap64; omega
theorem zhP (p : List ByteArray) : Ev (fun k => zaz.f k p) (zbe p) := ⟨8,fun k hk => zhp p k qj⟩
instance zlC (x : ByteArray) (p : List ByteArray) : Decidable (x ∈ p) := decidable_of_iff (p.any (fun y => y.toList == x.toList) = true) (by
 rw [List.any_eq_true]
 exact ⟨fun ⟨y,h,e⟩ => by rw [← bytes_inj (beq_iff_eq.1 e)]; exact h,fun h => ⟨x,h,beq_iff_eq.2 rfl⟩⟩)
theorem zfe {p : List ByteArray} {x : ByteArray} {i : Nat} (h : i < p.length) : x ∈ p.drop i ↔ x = p[i] ∨ x ∈ p.drop (i + 1) := by
 rw [List.drop_eq_getElem_cons h,List.mem_cons]
theorem zht (p : List ByteArray) (x : ByteArray) (hp : p.length ≤ 1000) : ∀ (m i : Nat),p.length - i = m → i ≤ p.length → ∃ r : Int,Ev (fun k => zay.l0 k p x (p.length : Int) (i : Int)) r ∧ (0 ≤ r ↔ x ∈ p.drop i)
 | 0,i,h,hi => by
  refine ⟨-1,Ev.step (fun k => by rw [zay.l0]) (Ev.ifn qj (Ev.now _)),?_⟩
  rw [List.drop_eq_nil_of_le qj]; simp
 | m + 1,i,h,hi => by
  have hlt : i < p.length := by omega
  have r1 : za0 ByteArray.empty p (i : Int) = p[i] := by simp [za0,hlt]
  have hw : wrap64 ((i : Int) + 1) = ((i + 1 : Nat) : Int) := by rw [zcz qj qj]; omega
  by_cases he : x = p[i]
  ·refine ⟨i,Ev.step (fun k => by rw [zay.l0]) (Ev.ifp qj (Ev.ifp qj (Ev.ifp qj (Ev.ifp (by rw [r1, ← he]) (Ev.now _))))),?_⟩
   rw [zfe hlt]
   exact ⟨fun _ => .inl he,fun _ => by omega⟩
  ·obtain ⟨r,h1,h2⟩ := zht p x hp m (i + 1) qj qj
   refine ⟨r,Ev.step (fun k => by rw [zay.l0]) (Ev.ifp qj (Ev.ifp qj (Ev.ifp qj (Ev.ifn (fun h => he (by rw [r1] at h; exact bytes_inj h)) ?_)))),?_⟩
   ·rw [hw]; exact h1
   ·rw [zfe hlt,h2]
    exact ⟨.inr,fun h => h.resolve_left he⟩
theorem zfX (p : List ByteArray) (x : ByteArray) (hp : p.length ≤ 1000) : Ev (fun k => za7.f k p x) (decide (x ∈ p)) := by
 obtain ⟨r,h1,h2⟩ := zht p x hp p.length 0 qj qj
 have e : decide (x ∈ p) = decide (r ≥ 0) := by
  rw [decide_eq_decide]; rw [List.drop_zero] at h2; exact h2.symm
 rw [e]
 exact Ev.bind (f := fun _ t => some (decide (t ≥ 0))) h1 (Ev.now _)
def Good (n : Nat) (p : List ByteArray) : Prop := p.length ≤ n ∧ ∀ x ∈ p,x ∈ zdd
theorem Good.check {p : List ByteArray} (h : Good 6 p) : zbe p = 0 := checkS_ok_ p h.1 (fun x hx => words6_ok_ x (h.2 x hx))
where
 words6_ok_ : ∀ x ∈ zdd,zbb x = 0 := by
  intro x hx
  simp only [zdd,List.mem_cons,List.not_mem_nil,or_false] at hx
  rcases hx with rfl | rfl | rfl | rfl | rfl | rfl <;> kernel_rfl
 firstErr_ok_ : ∀ p : List ByteArray,(∀ x ∈ p,zbb x = 0) → zcn p = 0
  | [],_ => rfl
  | x :: p,h => by rw [zcn,if_pos (h x List.mem_cons_self)]; exact firstErr_ok_ p (fun y hy => h y (List.mem_cons_of_mem _ hy))
 checkS_ok_ (p : List ByteArray) (hl : p.length ≤ 6) (h : ∀ x ∈ p,zbb x = 0) : zbe p = 0 := by
  unfold zbe
  rw [if_neg qj,firstErr_ok_ p h]
def zck (ys : List (List ByteArray)) (x : ByteArray) : Nat → Int
 | 0 => -1
 | n + 1 => if x ∈ ys.getD n [] then (n : Int) else zck ys x n
theorem zhh (ys : List (List ByteArray)) (x : ByteArray) : ∀ n : Nat, -1 ≤ zck ys x n ∧ zck ys x n < n
 | 0 => by simp [zck]
 | n + 1 => by
  have := zhh ys x n
  rw [zck]; split <;> omega
theorem zg4 (ys : List (List ByteArray)) (x : ByteArray) : ∀ n : Nat,0 ≤ zck ys x n → x ∈ ys.getD (zck ys x n).toNat []
 | 0,h => by simp [zck] at h
 | n + 1,h => by
  rw [zck] at h ⊢
  by_cases hx : x ∈ ys.getD n []
  ·rw [if_pos hx]; simpa using hx
  ·rw [if_neg hx] at h ⊢; exact zg4 ys x n h
theorem zgj (ys : List (List ByteArray)) (x : ByteArray) : ∀ n : Nat, ∀ j : Nat,j < n → zck ys x n < j → x ∉ ys.getD j []
 | 0,_,h,_ => by omega
 | n + 1,j,h,hj => by
  rw [zck] at hj
  by_cases hx : x ∈ ys.getD n []
  ·rw [if_pos hx] at hj; omega
  ·rw [if_neg hx] at hj
   by_cases e : j = n
   ·subst e; exact hx
   ·exact zgj ys x n j qj hj
theorem zjn (ys : List (List ByteArray)) (x : ByteArray) (hy : ys.length ≤ 1000) (hp : ∀ p ∈ ys,p.length ≤ 1000) : Ev (fun k => zba.f k ys x) (zck ys x ys.length) := by
 have go : ∀ n : Nat,n ≤ ys.length → Ev (fun k => zba.l0 k ys x ((n : Int) - 1)) (zck ys x n) := by
  intro n
  induction n with
  | zero =>
   intro _
   refine Ev.step (fun k => by rw [zba.l0]) ?_
   refine Ev.ifn ?_ (Ev.now _)
   omega
  | succ n ih =>
   intro hn
   have e : ((n + 1 : Nat) : Int) - 1 = (n : Int) := by omega
   have r1 : zaK ys (n : Int) = ys.getD n [] := by simp [zaK]
   have hm : ys.getD n [] ∈ ys := by rw [List.getD_eq_getElem?_getD,List.getElem?_eq_getElem qj,Option.getD_some]; exact List.getElem_mem _
   rw [e,zck]
   refine Ev.step (fun k => by rw [zba.l0]) (Ev.ifp qj (Ev.ifp qj (Ev.ifp qj (Ev.be (zfX _ x (by rw [r1]; exact hp _ hm)) ?_))))
   rw [r1]
   by_cases hx : x ∈ ys.getD n []
   ·rw [decide_eq_true hx,if_pos hx]; exact Ev.ifp rfl (Ev.now _)
   ·rw [decide_eq_false hx,if_neg hx]
    refine Ev.ifn qt ?_
    rw [zcz qj qj]
    exact ih qj
 have h := go ys.length (Nat.le_refl _)
 unfold zba.f
 rw [zcz qj qj]
 exact h
def zjs (ys : List (List ByteArray)) (x : ByteArray) : Prop := 0 ≤ zck ys x ys.length ∧ zck ys x ys.length < (ys.length : Int) - 1
instance (ys : List (List ByteArray)) (x : ByteArray) : Decidable (zjs ys x) := by unfold zjs; infer_instance
theorem zem (l : List Int) (s1 s2 : Int) (h1 : 0 ≤ s1) (hl : l.length ≤ 17592186044416) (n : Int) (h0 : 1 ≤ n) (hn : n ≤ 1000) : ∃ (b : Bool) (t1 t2 : Int),zaC.f l s1 s2 n = some (b,t1,t2) ∧ 0 ≤ t1 := by
 obtain ⟨r,t1,t2,h,h2,h3,h4⟩ := zeC l s1 s2 h1 hl (n - 1) qj qj
 unfold zaC.f
 rw [zcz qj qj,h]
 exact ⟨r == 0,t1,t2,rfl,h4⟩
theorem zd8 (p : List ByteArray) (h : p.length ≤ 1000) : zaD.f p = some p := by
 unfold zaD.f
 rw [Option.bind_some,if_pos (by simp only [List.length_nil]; omega)]
 rfl
def YG (N : Nat) (g : Nat → Option (List (List ByteArray) × Int × Int)) : Prop := ∃ zs t1 t2,Ev g (zs,t1,t2) ∧ zs.length = N ∧ (∀ q ∈ zs,Good 6 q) ∧ 0 ≤ t1
theorem YG.to {N : Nat} {g f : Nat → Option (List (List ByteArray) × Int × Int)} (h : YG N g) (hg : ∀ r,Ev g r → Ev f r) : YG N f := by
 obtain ⟨zs,t1,t2,h1,h2⟩ := h
 exact ⟨zs,t1,t2,hg _ h1,h2⟩
theorem zgX (l : List Int) (hl : l.length ≤ 17592186044416) : ∀ (m : Nat) (ys : List (List ByteArray)) (p : List ByteArray) (s1 s2 : Int),Good 6 p → (∀ q ∈ ys,Good 6 q) → ys.length + m ≤ 100 → 0 ≤ s1 → YG (ys.length + m) (fun k => zt.l0 k ys p (m : Int) l s1 s2)
 | 0,ys,p,s1,s2,hp,hy,hm,h1 => ⟨ys,s1,s2,Ev.step (fun k => by rw [zt.l0]) (Ev.ifn qj (Ev.now _)),rfl,hy,h1⟩
 | m + 1,ys,p,s1,s2,hp,hy,hm,h1 => by
  have e1 : wrap64 (((m + 1 : Nat) : Int) - 1) = (m : Int) := by rw [zcz qj qj]; omega
  have ih : ∀ (q : List ByteArray) (s1 s2 : Int),Good 6 q → 0 ≤ s1 → YG (ys.length + (m + 1)) (fun k => zt.l0 k (ys ++ [p]) q (m : Int) l s1 s2) := fun q s1 s2 hq h1 => by
   have h := zgX l hl m (ys ++ [p]) q s1 s2 hq (fun z hz => by
    rcases List.mem_append.1 hz with h | h
    ·exact hy z h
    ·rw [List.mem_singleton.1 h]; exact hp) qM h1
   rwa [show (ys ++ [p]).length + m = ys.length + (m + 1) by simp; omega] at h
  have J6 : ∀ (b : Bool) (q : List ByteArray) (s1 s2 : Int),Good 6 q → (b = true → q.length < 6) → 0 ≤ s1 → YG (ys.length + (m + 1)) (fun k => zt.j6 k (ys ++ [p]) q ((m + 1 : Nat) : Int) b l s1 s2) := fun b q s1 s2 hq hb h1 => by
   cases b with
   | true =>
    obtain ⟨x,u1,u2,hx,hxw,hu⟩ := zdO l s1 s2 h1 hl
    refine (ih (q ++ [x]) u1 u2 ⟨by have := hb rfl; simp; omega,fun z hz => by
     rcases List.mem_append.1 hz with h | h
     ·exact hq.2 z h
     ·rw [List.mem_singleton.1 h]; exact hxw⟩ hu).to fun r hr => Ev.step (fun k => by rw [zt.j6]) (Ev.ifp rfl (Ev.bs (zd8 q (by have := hq.1; omega)) (Ev.bs hx ?_)))
    have hq1 := hq.1
    refine Ev.ifp qj ?_
    rw [e1]; exact hr
   | false =>
    refine (ih q s1 s2 hq h1).to fun r hr => Ev.step (fun k => by rw [zt.j6]) (Ev.ifn qt ?_)
    rw [e1]; exact hr
  have J5 : ∀ (q : List ByteArray) (s1 s2 : Int),Good 6 q → 0 ≤ s1 → YG (ys.length + (m + 1)) (fun k => zt.j5 k (ys ++ [p]) q ((m + 1 : Nat) : Int) l s1 s2) := fun q s1 s2 hq h1 => by
   by_cases h6 : (q.length : Int) < 6
   ·obtain ⟨b,u1,u2,hb,hu⟩ := zem l s1 s2 h1 hl 3 qj qj
    exact (J6 b q u1 u2 hq (fun _ => by omega) hu).to fun r hr => Ev.step (fun k => by rw [zt.j5]) (Ev.ifp h6 (Ev.bs hb hr))
   ·exact (J6 false q s1 s2 hq qz h1).to fun r hr => Ev.step (fun k => by rw [zt.j5]) (Ev.ifn h6 hr)
  have J4 : ∀ (b : Bool) (q : List ByteArray) (s1 s2 : Int),Good 6 q → (b = true → 1 ≤ (q.length : Int)) → 0 ≤ s1 → YG (ys.length + (m + 1)) (fun k => zt.j4 k (ys ++ [p]) q ((m + 1 : Nat) : Int) b l s1 s2) := fun b q s1 s2 hq hb h1 => by
   cases b with
   | true => exact (J5 (q.drop (1 : Int).toNat) s1 s2 ⟨by have := hq.1; simp; omega,fun z hz => hq.2 z (List.mem_of_mem_drop hz)⟩ h1).to fun r hr => Ev.step (fun k => by rw [zt.j4]) (Ev.ifp rfl (Ev.ifp (hb rfl) hr))
   | false => exact (J5 q s1 s2 hq h1).to fun r hr => Ev.step (fun k => by rw [zt.j4]) (Ev.ifn qt hr)
  have J3 : ∀ (q : List ByteArray) (s1 s2 : Int),Good 6 q → 0 ≤ s1 → YG (ys.length + (m + 1)) (fun k => zt.j3 k (ys ++ [p]) q ((m + 1 : Nat) : Int) l s1 s2) := fun q s1 s2 hq h1 => by
   by_cases h6 : (q.length : Int) > 0
   ·obtain ⟨b,u1,u2,hb,hu⟩ := zem l s1 s2 h1 hl 3 qj qj
    exact (J4 b q u1 u2 hq (fun _ => by omega) hu).to fun r hr => Ev.step (fun k => by rw [zt.j3]) (Ev.ifp h6 (Ev.bs hb hr))
   ·exact (J4 false q s1 s2 hq qz h1).to fun r hr => Ev.step (fun k => by rw [zt.j3]) (Ev.ifn h6 hr)
  have J2 : ∀ (b : Bool) (q : List ByteArray) (s1 s2 : Int),Good 6 q → (b = true → (q.length : Int) > 0) → 0 ≤ s1 → YG (ys.length + (m + 1)) (fun k => zt.j2 k (ys ++ [p]) q ((m + 1 : Nat) : Int) b l s1 s2) := fun b q s1 s2 hq hb h1 => by
   cases b with
   | true =>
    have hq1 := hq.1
    have hq0 := hb rfl
    obtain ⟨n,u1,u2,hn,hn0,hn1,hu⟩ := zeC l s1 s2 h1 hl ((q.length : Int) - 1) qj qj
    obtain ⟨x,v1,v2,hx,hxw,hv⟩ := zdO l u1 u2 hu hl
    refine (J3 (q.set (n : Int).toNat x) v1 v2 ⟨by simpa using hq1,fun z hz => ?_⟩ hv).to fun r hr => Ev.step (fun k => by rw [zt.j2]) (Ev.ifp rfl (Ev.bs (zd8 q qj) (Ev.bs (a := (n,u1,u2)) ?_ (Ev.bs hx (Ev.ifp hn0 ?_)))))
    ·rcases List.mem_or_eq_of_mem_set hz with h | h
     ·exact hq.2 z h
     ·rw [h]; exact hxw
    ·rw [zcz qj qj]; exact hn
    ·have hq2 : n < (q.length : Int) := by omega
     exact Ev.ifp hq2 hr
   | false => exact (J3 q s1 s2 hq h1).to fun r hr => Ev.step (fun k => by rw [zt.j2]) (Ev.ifn qt hr)
  have J1 : ∀ (q : List ByteArray) (s1 s2 : Int),Good 6 q → 0 ≤ s1 → YG (ys.length + (m + 1)) (fun k => zt.j1 k (ys ++ [p]) q ((m + 1 : Nat) : Int) l s1 s2) := fun q s1 s2 hq h1 => by
   by_cases h6 : (q.length : Int) > 0
   ·obtain ⟨b,u1,u2,hb,hu⟩ := zem l s1 s2 h1 hl 2 qj qj
    exact (J2 b q u1 u2 hq (fun _ => h6) hu).to fun r hr => Ev.step (fun k => by rw [zt.j1]) (Ev.ifp h6 (Ev.bs hb hr))
   ·exact (J2 false q s1 s2 hq qz h1).to fun r hr => Ev.step (fun k => by rw [zt.j1]) (Ev.ifn h6 hr)
  obtain ⟨b,u1,u2,hb,hu⟩ := zem l s1 s2 h1 hl 4 qj qj
  cases b with
  | true =>
   obtain ⟨q,v1,v2,g1,g2,g3,g4⟩ := zgG l u1 u2 hu hl 4 qj 200 qj
   refine (J1 q v1 v2 ⟨by omega,g3⟩ g4).to fun r hr => Ev.step (fun k => by rw [zt.l0]) (Ev.ifp qj (Ev.bs (zd8 p (by have := hp.1; omega)) ?_))
   refine Ev.ifp qj ?_
   refine Ev.bs rfl ?_
   refine Ev.bs hb ?_
   refine Ev.ifp rfl ?_
   exact Ev.be (Ev.of (zX.mono _ _ _ _) g1) hr
  | false =>
   refine (J1 p u1 u2 hp hu).to fun r hr => Ev.step (fun k => by rw [zt.l0]) (Ev.ifp qj (Ev.bs (zd8 p (by have := hp.1; omega)) ?_))
   refine Ev.ifp qj ?_
   refine Ev.bs rfl ?_
   refine Ev.bs hb ?_
   exact Ev.ifn Bool.false_ne_true hr
theorem zjK (l : List Int) (hl : l.length ≤ 17592186044416) (s1 s2 : Int) (h1 : 0 ≤ s1) (n : Nat) (hn : n ≤ 90) : ∃ ys t1 t2,Ev (fun k => zt.f k l s1 s2 (n : Int)) (ys,t1,t2) ∧ ys.length ≤ n ∧ (∀ q ∈ ys,Good 6 q) ∧ 0 ≤ t1 := by
 obtain ⟨q,u1,u2,g1,g2,g3,g4⟩ := zgG l s1 s2 h1 hl 4 qj 200 qj
 obtain ⟨r,v1,v2,h2,h3,h4,h5⟩ := zeC l u1 u2 g4 hl n qj qj
 obtain ⟨m,rfl⟩ := Int.eq_ofNat_of_zero_le h3
 obtain ⟨zs,t1,t2,h6,h7,h8,h9⟩ := zgX l hl m [] q v1 v2 ⟨by omega,g3⟩ qz qM h5
 refine ⟨zs,t1,t2,?_,by simp at h7; omega,h8,h9⟩
 unfold zt.f
 exact Ev.be (Ev.of (zX.mono _ _ _ _) g1) (Ev.bs h2 h6)
def lastOf : Option S63 → List S63 → Option S63
 | p,[] => p
 | _,m :: ms => lastOf (some m) ms
theorem zdT (m : S63) : ∀ (ms : List S63) (p : Option S63),lastOf p (ms ++ [m]) = some m
 | [],_ => rfl
 | _ :: ms,_ => zdT m ms _
theorem zff (n : Nat) (m : S63) : ∀ (ms : List S63) (p : Option S63),zbH n p ms = 0 → zbT n (lastOf p ms) m = 0 → zbH n p (ms ++ [m]) = 0
 | [],p,_,h => by
  simp only [lastOf] at h
  rw [List.nil_append,zbH,if_pos h,zbH]
 | a :: ms,p,h,h2 => by
  rw [zbH] at h
  rw [List.cons_append,zbH]
  by_cases hc : zbT n p a = 0
  ·rw [if_pos hc] at h ⊢
   exact zff n m ms _ h h2
  ·rw [if_neg hc] at h; exact absurd h hc
def zc4 (n : Nat) (m : S63) : Prop := 0 ≤ m.f1 ∧ m.f1 ≤ (n : Int) ∧ ((m.f0 = 3 ∧ m.f2 = ⟨#[]⟩ ∧ m.f1 < (n : Int)) ∨ (m.f0 = 1 ∧ m.f2 ∈ zdd) ∨ (m.f0 = 2 ∧ m.f2 ∈ zdd ∧ m.f1 < (n : Int)))
def MOK (n : Nat) (ms : List S63) : Prop := zbH n none ms = 0 ∧ ∀ m ∈ ms,zc4 n m
theorem zg0 {x : ByteArray} (h : x ∈ zdd) : zbb x = 0 := Good.check.words6_ok_ x h
theorem zc4.text {n : Nat} {m : S63} (h : zc4 n m) : zcc m = 0 := by
 unfold zcc
 rcases h.2.2 with ⟨h1,h2,_⟩ | ⟨h1,h2⟩ | ⟨h1,h2,_⟩
 ·rw [if_pos h1,h2,if_pos (by rw [ByteArray.toList_eq])]
 ·rw [if_neg qj]; exact zg0 h2
 ·rw [if_neg qj]; exact zg0 h2
theorem zc4.err {n : Nat} {m : S63} (h : zc4 n m) {p : Option S63} (hp : ∀ q,p = some q → q.f1 < m.f1 ∨ (q.f1 = m.f1 ∧ q.f0 = 1)) : zbT n p m = 0 := by
 have h1 := h.1
 have h2 := h.2.1
 unfold zbT
 have hk : ¬ (m.f0 < 1 ∨ 3 < m.f0) := by rcases h.2.2 with ⟨h1,_⟩ | ⟨h1,_⟩ | ⟨h1,_⟩ <;> omega
 have ha : ¬ (m.f1 < 0 ∨ (if m.f0 = 1 then (n : Int) else (n : Int) - 1) < m.f1) := by
  rcases h.2.2 with ⟨h3,_,h4⟩ | ⟨h3,_⟩ | ⟨h3,_,h4⟩
  ·rw [if_neg qj]; omega
  ·rw [if_pos h3]; omega
  ·rw [if_neg qj]; omega
 rw [if_neg hk,if_neg ha,if_pos h.text]
 cases p with
 | none => rfl
 | some q =>
  rcases hp q rfl with h1 | ⟨h1,h2⟩
  ·simp only [zb7]; rw [if_neg qj,if_pos (Or.inl h1)]
  ·simp only [zb7]; rw [if_neg qj,if_pos (Or.inr h2)]
theorem MOK.snoc {n : Nat} {ms : List S63} {m : S63} (h : MOK n ms) (hm : zc4 n m) (hp : ∀ q,lastOf none ms = some q → q.f1 < m.f1 ∨ (q.f1 = m.f1 ∧ q.f0 = 1)) : MOK n (ms ++ [m]) :=
 ⟨zff n m ms none h.1 (hm.err hp),fun x hx => by
  rcases List.mem_append.1 hx with h1 | h1
  ·exact h.2 x h1
  ·rw [List.mem_singleton.1 h1]; exact hm⟩
def MG (n most : Nat) (g : Nat → Option (List S63 × Int × Int)) : Prop := ∃ zs t1 t2,Ev g (zs,t1,t2) ∧ zs.length ≤ most ∧ MOK n zs ∧ 0 ≤ t1
theorem MG.to {n most : Nat} {g f : Nat → Option (List S63 × Int × Int)} (h : MG n most g) (hg : ∀ r,Ev g r → Ev f r) : MG n most f := by
 obtain ⟨zs,t1,t2,h1,h2⟩ := h
 exact ⟨zs,t1,t2,hg _ h1,h2⟩
theorem zfm (l : List Int) (hl : l.length ≤ 17592186044416) (n most : Nat) (hn : n ≤ 1000) (hmo : most ≤ 1000) : ∀ (d at_ : Nat) (ms : List S63) (s1 s2 : Int),n + 1 - at_ = d → at_ ≤ n + 1 → 0 ≤ s1 → ms.length ≤ most → MOK n ms → (∀ q,lastOf none ms = some q → q.f1 < (at_ : Int)) →
  MG n most (fun k => zA.l0 k (n : Int) (most : Int) ms (at_ : Int) l s1 s2)
 | 0,at_,ms,s1,s2,hd,ha,h1,hms,hM,hlast => ⟨ms,s1,s2,Ev.step (fun k => by rw [zA.l0]) (Ev.ifn qj (Ev.now _)),hms,hM,h1⟩
 | d + 1,at_,ms,s1,s2,hd,ha,h1,hms,hM,hlast => by
  have hle : at_ ≤ n := by omega
  have ih := fun (ms : List S63) (s1 s2 : Int) => zfm l hl n most hn hmo d (at_ + 1) ms s1 s2 qj qj
  have hat6 : at_ ≤ 1000000 := by omega
  have J3 : ∀ (b : Bool) (ms : List S63) (s1 s2 : Int),0 ≤ s1 → ms.length ≤ most → (b = false → at_ < n ∧ ms.length < most) → MOK n ms → (∀ q,lastOf none ms = some q → q.f1 < (at_ : Int) ∨ (q.f1 = (at_ : Int) ∧ q.f0 = 1)) →
    MG n most (fun k => zA.j3 k (n : Int) (most : Int) ms (at_ : Int) b l s1 s2) := by
   intro b ms s1 s2 h1 hms hb hM hlast
   have hskip : ∀ q,lastOf none ms = some q → q.f1 < ((at_ + 1 : Nat) : Int) := fun q hq => by rcases hlast q hq with h | h <;> omega
   cases b with
   | true =>
    refine (ih ms s1 s2 h1 hms hM hskip).to fun r hr => Ev.step (fun k => by rw [zA.j3]) (Ev.ifp rfl ?_)
    rw [zby _ hat6]; exact hr
   | false =>
    obtain ⟨hb1,hb2⟩ := hb rfl
    obtain ⟨t,u1,u2,ht,ht0,ht1,hu⟩ := zeC l s1 s2 h1 hl 4 qj qj
    have hfew : ms.length < 4398046511104 := by omega
    by_cases c0 : t = 0
    ·obtain ⟨x,v1,v2,hx,hxw,hv⟩ := zdO l u1 u2 hu hl
     have hg : zc4 n ⟨2,at_,x⟩ := ⟨by dsimp only; omega,by dsimp only; omega, .inr (.inr ⟨rfl,hxw,by dsimp only; omega⟩)⟩
     refine (ih (ms ++ [⟨2,at_,x⟩]) v1 v2 hv qM (hM.snoc hg hlast) (fun q hq => by
      rw [zdT] at hq; cases hq; dsimp only; omega)).to fun r hr => Ev.step (fun k => by rw [zA.j3]) (Ev.ifn Bool.false_ne_true (Ev.bs ht ?_))
     refine Ev.ifp c0 (Ev.bs hx (Ev.ifp hfew ?_))
     rw [zby _ hat6]; exact hr
    ·by_cases c1 : t = 1
     ·have hg : zc4 n ⟨3,at_,⟨#[]⟩⟩ := ⟨by dsimp only; omega,by dsimp only; omega, .inl ⟨rfl,rfl,by dsimp only; omega⟩⟩
      refine (ih (ms ++ [⟨3,at_,⟨#[]⟩⟩]) u1 u2 hu qM (hM.snoc hg hlast) (fun q hq => by
       rw [zdT] at hq; cases hq; dsimp only; omega)).to fun r hr => Ev.step (fun k => by rw [zA.j3]) (Ev.ifn Bool.false_ne_true (Ev.bs ht ?_))
      refine Ev.ifn c0 (Ev.ifp c1 (Ev.ifp hfew ?_))
      rw [zby _ hat6]; exact hr
     ·refine (ih ms u1 u2 hu hms hM hskip).to fun r hr => Ev.step (fun k => by rw [zA.j3]) (Ev.ifn Bool.false_ne_true (Ev.bs ht ?_))
      refine Ev.ifn c0 (Ev.ifn c1 ?_)
      rw [zby _ hat6]; exact hr
  have J2 : ∀ (ms : List S63) (s1 s2 : Int),0 ≤ s1 → ms.length ≤ most → MOK n ms → (∀ q,lastOf none ms = some q → q.f1 < (at_ : Int) ∨ (q.f1 = (at_ : Int) ∧ q.f0 = 1)) →
    MG n most (fun k => zA.j2 k (n : Int) (most : Int) ms (at_ : Int) l s1 s2) := by
   intro ms s1 s2 h1 hms hM hlast
   by_cases c : (at_ : Int) = (n : Int)
   ·exact (J3 true ms s1 s2 h1 hms qz hM hlast).to fun r hr => Ev.step (fun k => by rw [zA.j2]) (Ev.ifp c hr)
   ·refine (J3 ((ms.length : Int) == (most : Int)) ms s1 s2 h1 hms ?_ hM hlast).to fun r hr => Ev.step (fun k => by rw [zA.j2]) (Ev.ifn c hr)
    intro hb
    have := beq_eq_false_iff_ne.1 hb
    omega
  have L1 : ∀ (m : Nat) (ms : List S63) (s1 s2 : Int),most - ms.length = m → 0 ≤ s1 → ms.length ≤ most → MOK n ms → (∀ q,lastOf none ms = some q → q.f1 < (at_ : Int) ∨ (q.f1 = (at_ : Int) ∧ q.f0 = 1)) →
    MG n most (fun k => zA.l1 k (n : Int) (most : Int) ms (at_ : Int) l s1 s2) := by
   intro m
   induction m with
   | zero =>
    intro ms s1 s2 hm h1 hms hM hlast
    obtain ⟨b,u1,u2,hb,hu⟩ := zem l s1 s2 h1 hl 4 qj qj
    refine (J2 ms u1 u2 hu hms hM hlast).to fun r hr => Ev.step (fun k => by rw [zA.l1]) (Ev.bs hb ?_)
    cases b with
    | true => refine Ev.ifp rfl ?_; exact Ev.ifn qj hr
    | false => exact Ev.ifn Bool.false_ne_true hr
   | succ m ihm =>
    intro ms s1 s2 hm h1 hms hM hlast
    obtain ⟨b,u1,u2,hb,hu⟩ := zem l s1 s2 h1 hl 4 qj qj
    cases b with
    | true =>
     obtain ⟨x,v1,v2,hx,hxw,hv⟩ := zdO l u1 u2 hu hl
     have hg : zc4 n ⟨1,at_,x⟩ := ⟨by dsimp only; omega,by dsimp only; omega, .inr (.inl ⟨rfl,hxw⟩)⟩
     have hlt : (ms.length : Int) < (most : Int) := by omega
     have hfew : ms.length < 4398046511104 := by omega
     exact (ihm (ms ++ [⟨1,at_,x⟩]) v1 v2 qM hv qM (hM.snoc hg hlast) (fun q hq => by
      rw [zdT] at hq; cases hq; exact .inr ⟨rfl,rfl⟩)).to fun r hr => Ev.step (fun k => by rw [zA.l1]) (Ev.bs hb (Ev.ifp rfl (Ev.ifp hlt (Ev.bs hx (Ev.ifp hfew hr)))))
    | false =>
     exact (J2 ms u1 u2 hu hms hM hlast).to fun r hr => Ev.step (fun k => by rw [zA.l1]) (Ev.bs hb (Ev.ifn Bool.false_ne_true hr))
  have hle' : (at_ : Int) ≤ (n : Int) := by omega
  exact (L1 _ ms s1 s2 rfl h1 hms hM (fun q hq => .inl (hlast q hq))).to fun r hr => Ev.step (fun k => by rw [zA.l0]) (Ev.ifp hle' hr)
theorem zjX (l : List Int) (hl : l.length ≤ 17592186044416) (s1 s2 : Int) (h1 : 0 ≤ s1) (n most : Nat) (hn : n ≤ 1000) (hmo : most ≤ 1000) : ∃ ms t1 t2,Ev (fun k => zA.f k l s1 s2 (n : Int) (most : Int)) (ms,t1,t2) ∧ ms.length ≤ most ∧ MOK n ms ∧ 0 ≤ t1 := by
 obtain ⟨zs,t1,t2,h,h2⟩ := zfm l hl n most hn hmo (n + 1) 0 [] s1 s2 qj qj h1 qz ⟨rfl,fun m hm => by cases hm⟩ (fun q hq => by cases hq)
 exact ⟨zs,t1,t2,h,h2⟩
theorem MOK.marks {n : Nat} {ms : List S63} (h : MOK n ms) (hl : ms.length ≤ 12) : zcS n ms = 0 := by
 unfold zcS; rw [if_neg qj]; exact h.1
theorem MOK.fits {n : Nat} {ms : List S63} (h : MOK n ms) : ms.all (zct n) = true := by
 rw [List.all_eq_true]
 intro m hm
 obtain ⟨h1,h2,h3⟩ := h.2 m hm
 unfold zct
 rcases h3 with ⟨h3,_,h4⟩ | ⟨h3,_⟩ | ⟨h3,_,h4⟩ <;> simp [h3] <;> omega
theorem ziJ (pg : List ByteArray) (ms : List S63) : Ev (fun k => zbj.f k pg ms) (zca pg ms) := ⟨62,fun k hk => zix pg ms k qj⟩
theorem MOK.checked {pg : List ByteArray} {ms : List S63} (hg : Good 6 pg) (h : MOK pg.length ms) (hl : ms.length ≤ 12) : zca pg ms = 0 := by
 unfold zca; rw [if_pos hg.check]; exact h.marks hl
theorem toList_nil {x : ByteArray} (h : x.toList = []) : x = ⟨#[]⟩ := bytes_inj (h.trans (by rw [ByteArray.toList_eq]))
theorem ziy (a : List ByteArray) : ∀ i : Nat,zbQ i a a [] := by
 induction a with
 | nil => exact fun i => .nil i
 | cons x a ih => exact fun i => .keep x (ih (i + 1))
theorem zdk (n : Nat) : ∀ (s : Nat) (ms : List S63) (a : List ByteArray) (i : Nat) (prev : Option S63),ms.length + a.length ≤ s → i + a.length = n → zbH n prev ms = 0 → (∀ m,ms.head? = some m → (i : Int) ≤ m.f1) → ∃ b,zbQ i a b ms
 | s,[],a,i,prev,_,_,_,_ => ⟨a,ziy a i⟩
 | 0,m :: ms,a,i,prev,hs,_,_,_ => by simp at hs
 | s + 1,m :: ms,a,i,prev,hs,hn,hv,hh => by
  simp only [List.length_cons] at hs
  have hi := hh m rfl
  rw [zbH] at hv
  have hme : zbT n prev m = 0 := by
   by_cases hc : zbT n prev m = 0
   ·exact hc
   ·rw [if_neg hc] at hv; exact absurd hv hc
  rw [if_pos hme] at hv
  unfold zbT at hme
  have c1 : ¬ (m.f0 < 1 ∨ 3 < m.f0) := fun h => by rw [if_pos h] at hme; cases hme
  rw [if_neg c1] at hme
  have c2 : ¬ (m.f1 < 0 ∨ (if m.f0 = 1 then (n : Int) else (n : Int) - 1) < m.f1) := fun h => by rw [if_pos h] at hme; cases hme
  rw [if_neg c2] at hme
  have c3 : zcc m = 0 := by
   by_cases h : zcc m = 0
   ·exact h
   ·rw [if_neg h] at hme; exact absurd hme h
  have hle : m.f1 ≤ (n : Int) := by
   by_cases h : m.f0 = 1
   ·rw [if_pos h] at c2; omega
   ·rw [if_neg h] at c2; omega
  have hlt : m.f0 ≠ 1 → m.f1 < (n : Int) := fun h => by rw [if_neg h] at c2; omega
  by_cases hgt : (i : Int) < m.f1
  ·cases a with
   | nil => simp at hn; omega
   | cons x a =>
    simp only [List.length_cons] at hs hn
    have hv' : zbH n prev (m :: ms) = 0 := by
     rw [zbH]; unfold zbT; rw [if_neg c1,if_neg c2,if_pos c3]
     rw [if_pos c3] at hme; rw [if_pos hme]; exact hv
    obtain ⟨b,hb⟩ := zdk n s (m :: ms) a (i + 1) prev qJ qj hv' (fun q hq => by cases hq; omega)
    exact ⟨x :: b, .keep x hb⟩
  ·have e1 : m.f1 = (i : Int) := by omega
   obtain ⟨f0,f1,f2⟩ := m
   dsimp only at e1 c1 hlt c3
   subst e1
   have hnext : ∀ q,ms.head? = some q → (i : Int) ≤ q.f1 ∧ (f0 ≠ 1 → (i : Int) < q.f1) := by
    intro q hq
    cases ms with
    | nil => cases hq
    | cons q' ms =>
     cases hq
     rw [zbH] at hv
     have hme2 : zbT n (some ⟨f0,i,f2⟩) q = 0 := by
      by_cases hc : zbT n (some ⟨f0,i,f2⟩) q = 0
      ·exact hc
      ·rw [if_neg hc] at hv; exact absurd hv hc
     unfold zbT at hme2
     have d1 : ¬ (q.f0 < 1 ∨ 3 < q.f0) := fun h => by rw [if_pos h] at hme2; cases hme2
     rw [if_neg d1] at hme2
     have d2 : ¬ (q.f1 < 0 ∨ (if q.f0 = 1 then (n : Int) else (n : Int) - 1) < q.f1) := fun h => by rw [if_pos h] at hme2; cases hme2
     rw [if_neg d2] at hme2
     have d3 : zcc q = 0 := by
      by_cases h : zcc q = 0
      ·exact h
      ·rw [if_neg h] at hme2; exact absurd hme2 h
     rw [if_pos d3] at hme2
     simp only [zb7] at hme2
     by_cases k1 : q.f1 < (i : Int)
     ·rw [if_pos k1] at hme2; cases hme2
     ·rw [if_neg k1] at hme2
      refine ⟨by omega,fun h1 => ?_⟩
      by_cases k2 : (i : Int) < q.f1
      ·exact k2
      ·rw [if_neg (fun h => h.elim k2 h1)] at hme2
       by_cases k3 : q.f0 = 1
       ·rw [if_pos k3] at hme2; cases hme2
       ·rw [if_neg k3] at hme2; cases hme2
   by_cases k1 : f0 = 1
   ·subst k1
    obtain ⟨b,hb⟩ := zdk n s ms a i _ qj hn hv (fun q hq => (hnext q hq).1)
    exact ⟨f2 :: b, .ins f2 hb⟩
   ·have hin := hlt k1
    cases a with
    | nil => simp at hn; omega
    | cons x a =>
     simp only [List.length_cons] at hs hn
     obtain ⟨b,hb⟩ := zdk n s ms a (i + 1) _ qj qj hv (fun q hq => by have := (hnext q hq).2 k1; omega)
     by_cases k3 : f0 = 3
     ·subst k3
      have : f2 = ⟨#[]⟩ := by
       unfold zcc at c3
       rw [if_pos rfl] at c3
       by_cases h : f2.toList = []
       ·exact toList_nil h
       ·rw [if_neg h] at c3; cases c3
      subst this
      exact ⟨b, .del x hb⟩
     ·have : f0 = 2 := by omega
      subst this
      exact ⟨f2 :: b, .set x f2 hb⟩
theorem zeK {pg : List ByteArray} {ms : List S63} (h : zcS pg.length ms = 0) : zbQ 0 pg (zcL pg ms) ms := by
 unfold zcS at h
 by_cases h12 : 12 < ms.length
 ·rw [if_pos h12] at h; cases h
 ·rw [if_neg h12] at h
  have hge : ∀ m,ms.head? = some m → ((0 : Nat) : Int) ≤ m.f1 := by
   intro m hm
   cases ms with
   | nil => cases hm
   | cons q ms =>
    cases hm
    rw [zbH] at h
    unfold zbT at h
    by_cases c2 : m.f1 < 0 ∨ (if m.f0 = 1 then (pg.length : Int) else (pg.length : Int) - 1) < m.f1
    ·rw [if_pos c2] at h
     by_cases c1 : m.f0 < 1 ∨ 3 < m.f0
     ·rw [if_pos c1,if_neg qt] at h; cases h
     ·rw [if_neg c1,if_neg qt] at h; cases h
    ·omega
  obtain ⟨b,hb⟩ := zdk pg.length _ ms pg 0 none (Nat.le_refl _) qj h hge
  have hm := hb.made (P := pg) rfl (Nat.zero_le _) [] 0 (Nat.le_refl _)
  have e : zcL pg ms = b := by simpa [zcL] using hm
  rw [e]; exact hb
theorem ze0 {n : Nat} {ms : List S63} (h : zcS n ms = 0) : ms.length ≤ 12 := by
 unfold zcS at h
 by_cases h12 : 12 < ms.length
 ·rw [if_pos h12] at h; cases h
 ·omega
theorem zch {p : List ByteArray} (h : zbe p = 0) : p.length ≤ 6 := by
 unfold zbe at h
 by_cases h6 : 6 < p.length
 ·rw [if_pos h6] at h; cases h
 ·omega
theorem zeJ {p : List ByteArray} {ms : List S63} (h : zca p ms = 0) : zbe p = 0 ∧ zcS p.length ms = 0 := by
 unfold zca at h
 by_cases hc : zbe p = 0
 ·rw [if_pos hc] at h; exact ⟨hc,h⟩
 ·rw [if_neg hc] at h; exact absurd h hc
def zcv (p : List ByteArray) (ms : List S63) : List ByteArray × Int :=
 if zca p ms = 0 then (if 6 < (zcL p ms).length then ([],6) else (zcL p ms,0)) else ([],zca p ms)
theorem zjY (p : List ByteArray) (ms : List S63) : Ev (fun k => zcx.f k p ms) (zcv p ms) := by
 unfold zcx.f zcv
 refine Ev.be (ziJ p ms) ?_
 by_cases h : zca p ms = 0
 ·simp only [if_pos h]
  obtain ⟨h1,h2⟩ := zeJ h
  have l1 := zch h1
  have l2 := ze0 h2
  have hm : zcp.f p ms = some (zcL p ms) := by
   unfold zcp.f
   rw [if_pos ⟨by omega,by omega,(zeK h2).fits p.length qj⟩]
  refine Ev.bs hm ?_
  by_cases h6 : 6 < (zcL p ms).length
  ·rw [if_pos h6]
   have h6' : ((zcL p ms).length : Int) > 6 := by omega
   exact Ev.ifp h6' (Ev.now _)
  ·rw [if_neg h6]
   have h6' : ¬ ((zcL p ms).length : Int) > 6 := by omega
   exact Ev.ifn h6' (Ev.now _)
 ·simp only [if_neg h]
  exact Ev.now _
def zcd : List S63 → Int
 | [] => 0
 | m :: ms => (if m.f0 = 3 then 0 else 1) + zcd ms
theorem zhQ : ∀ ms : List S63,0 ≤ zcd ms ∧ zcd ms ≤ ms.length
 | [] => by simp [zcd]
 | m :: ms => by
  have := zhQ ms
  simp only [zcd,List.length_cons]; split <;> omega
theorem zbQ.ge {i : Nat} {a b : List ByteArray} {ms : List S63} (h : zbQ i a b ms) : ∀ m ∈ ms,(i : Int) ≤ m.f1 := by
 induction h with
 | nil i => intro m hm; cases hm
 | ins y h ih =>
  intro m hm
  rcases List.mem_cons.1 hm with rfl | hm
  ·exact Int.le_refl _
  ·exact ih m hm
 | del x h ih =>
  intro m hm
  rcases List.mem_cons.1 hm with rfl | hm
  ·exact Int.le_refl _
  ·have := ih m hm; omega
 | set x y h ih =>
  intro m hm
  rcases List.mem_cons.1 hm with rfl | hm
  ·exact Int.le_refl _
  ·have := ih m hm; omega
 | keep x h ih =>
  intro m hm
  have := ih m hm; omega
theorem zjx (p : List ByteArray) (hp : p.length ≤ 1000) : ∀ (m i k : Nat),p.length - i = m → i ≤ p.length → m < k → zaj.l0 k p p (i : Int) = some true
 | 0,i,k,h,hi,hk => by
  obtain ⟨k',rfl⟩ : ∃ k',k = k' + 1 := ⟨k - 1,by omega⟩
  rw [zaj.l0,if_neg qj]
 | m + 1,i,k,h,hi,hk => by
  obtain ⟨k',rfl⟩ : ∃ k',k = k' + 1 := ⟨k - 1,by omega⟩
  have hw : wrap64 ((i : Int) + 1) = ((i + 1 : Nat) : Int) := by unfold wrap64; omega
  rw [zaj.l0,if_pos qj,if_pos qj,if_pos qj]
  rw [hw]
  simp only [zjx p hp m (i + 1) k' qj qj qj]
  simp
theorem zgA (p : List ByteArray) (hp : p.length ≤ 1000) (k : Nat) (hk : p.length < k) : zaj.f k p p = some true := by
 unfold zaj.f
 rw [if_pos rfl]
 exact zjx p hp p.length 0 k qj qj hk
def zcV.f (k : Nat) (l0 : List (List ByteArray)) (l1 : List (S63)) (l2 : List ByteArray) : Option (Int × Int × Int) := (zaR.f k l0).bind fun t137 => (if t137 = 0 then (if (l0.length : Int) = 0 then (some (0,0,7)) else (if 0 ≤ (wrap64 ((l0.length : Int) - 1)) then (if (wrap64 ((l0.length : Int) - 1)) < (l0.length : Int) then ((zcx.f k (zaK l0 (wrap64 ((l0.length : Int) - 1))) l1).bind fun bt139 => (if bt139.2 = 0 then ((zaz.f k l2).bind fun t143 => (if t143 = 0 then ((zbY.f bt139.1 l2).bind fun t144 => (if (t144.length : Int) = 0 then (some (0,0,0)) else (if 0 < (t144.length : Int) then (if ((zg t144 0).f0) = 3 then (some (1,(zg t144 0).f1,0)) else ((za7.f k bt139.1 ((zg t144 0).f2)).bind fun t149 => (if t149 = true then (some (3,(zg t144 0).f1,0)) else (if (wrap64 ((l0.length : Int) - 1)) ≤ (l0.length : Int) then ((zba.f k (l0.take ((wrap64 ((l0.length : Int) - 1)) : Int).toNat) ((zg t144 0).f2)).bind fun t154 => (if t154 ≥ 0 then (some (2,(zg t144 0).f1,0)) else (some (3,(zg t144 0).f1,0)))) else (none))))) else (none)))) else (some (0,0,t143)))) else (some (0,0,bt139.2)))) else (none)) else (none))) else (some (0,0,t137)))
theorem zgY {b : Bool} (h : b = false) {p q : Prop} (hq : q) : if b = true then p else q := by
 subst h; exact hq
theorem zkm (A : Option Addr) (n c : Nat) (j : Int) (h0 : 0 ≤ j) (hm : j ≤ n) (hc : n ≤ c) : ∀ W : World,(Instr.slice 29 (.slice A n c) none (some (.int .i64 j)) none).run Try.prog W = .ok (.slice A j.toNat c) W := by
 intro W
 have hi : ∃ i,Try.prog.info? 22 = some i ∧ i.size = 1 := by
  have h1 : (Try.prog.info? 22).map (fun i => i.size) = some 1 := by kernel_rfl
  obtain ⟨i,h2,h3⟩ := Option.map_eq_some_iff.1 h1
  exact ⟨i,h2,h3⟩
 obtain ⟨i,hi,hsz⟩ := hi
 have hel : Try.prog.elem 29 = 22 := by kernel_rfl
 have hu : Try.prog.underlying 29 = some (.slice (Try.prog.elem 29)) := by rw [hel]; exact Try.underlying29
 have ha : (A.map fun x => x.add 0) = A := by cases A <;> simp [Addr.add]
 rw [run_slice_h W 29 A n c hu .i64 j h0 qj,hel]
 simp [sizeOf,typeInfo,hi,hsz,sliced,Result.andThen,ha]
theorem zec {W : World} {g : Nat} {z0 z1 : Value} (hb : W.heap[g]? = some (.cells #[z0,z1] 54 (0,0))) (u0 u1 v7 : Value) (tmps : Array Value) (h6 : tmps.getD 6 undef = .pointer (some ⟨g,0,none⟩)) (h7 : tmps.getD 7 undef = v7) {R : Ending → World → Prop}
  (hR : R (.returned (.tuple #[.agg #[u0,u1],v7])) ((W.setCell ⟨g,0,none⟩ u0).setCell ⟨g,1,none⟩ u1)) : bodyPost Try.prog Try.f37 R .ret { tmps := tmps,defers := [] } ((W.setCell ⟨g,0,none⟩ u0).setCell ⟨g,1,none⟩ u1) := by
 have hb2 := zah (zah hb 0 u0 rfl) 1 u1 rfl
 have h := zgk (P := Try.prog) (fn := Try.f37) (p := 6) (u := 7) (ty := 54) qi tmps _ g 54 #[u0,u1] (0,0) _ h6 hb2 Try.underlying54 rfl qi
 rw [h7] at h
 exact bodyPost_ret h rfl hR
set_option maxHeartbeats 4000000 in
set_option maxRecDepth 100000 in
theorem zcV.calls (k : Nat) (A0 : Option Addr) (c0 : Nat) (l0 : List (List ByteArray)) (A1 : Option Addr) (c1 : Nat) (l1 : List (S63)) (A2 : Option Addr) (c2 : Nat) (l2 : List ByteArray) (r1 : Int) (r2 : Int) (r3 : Int) (w : World) (hr0 : Kd.C (Kd.slice 9 Kd.string) w A0 l0.length l0) (hc0 : l0.length ≤ c0) (hr1 : Kd.C k63 w A1 l1.length l1) (hc1 : l1.length ≤ c1) (hr2 : Kd.C Kd.string w A2 l2.length l2) (hc2 : l2.length ≤ c2) (h : zcV.f k l0 l1 l2 = some (r1,r2,r3)) :
  Calls Try.prog 37 #[.slice A0 l0.length c0, .slice A1 l1.length c1, .slice A2 l2.length c2] w fun e w' => e = .returned (.tuple #[.agg #[.int .i64 r1, .int .i64 r2], .int .i64 r3]) ∧ Below w.heap.size w w' := by
 have H := za.mk h
 have HR := za.mk (And.intro hr0 (And.intro hc0 (And.intro hr1 (And.intro hc1 (And.intro hr2 hc2)))))
 clear hr0 hc0 hr1 hc1 hr2 hc2 h
 obtain ⟨e0,he0,h⟩ := Option.bind_eq_some_iff.mp H.out
 replace H := za.mk h
 clear h
 have HE := za.mk he0
 clear he0
 have hu54 := Try.underlying54
 have HB : za (Below w.heap.size w (w.alloc (.cells #[.int .i64 0, .int .i64 0] 54))) := ⟨ze (Below.refl _ _) _⟩
 have B6 := za.mk (heap_alloc_new w (.cells #[.int .i64 0, .int .i64 0] 54))
 go_enter Try.func37,Try.ntmps37
 go_wp2_with fail
 refine (zaR.calls k A0 c0 l0 e0 _ (Kd.zY HR.out.1 HB.out) HR.out.2.1 HE.out).mono ?_
 rintro e w1 ⟨rfl,hb1⟩
 replace HB := za.mk (zq HB.out hb1)
 replace B6 := za.mk (zD B6.out hb1)
 clear hb1
 by_cases g0 : e0 = 0
 ·subst g0
  have h := H.out
  rw [if_pos rfl] at h
  replace H := za.mk h
  clear h
  by_cases g1 : (l0.length : Int) = 0
  ·have h := H.out
   rw [if_pos g1] at h
   simp only [Option.some.injEq,Prod.mk.injEq] at h
   obtain ⟨rfl,rfl,rfl⟩ := h
   have t1 : ((l0.length : Int) == 0) = true := beq_iff_eq.mpr g1
   have t1' : (l0.length == 0) = true := by simpa using g1
   have hc60 : w1.cell? ⟨w.heap.size,0,none⟩ = some (.int .i64 0) := zh B6.out 0
   have hf60 : w1.frozen? ⟨w.heap.size,0,none⟩ = false := zo B6.out 0
   have hc61 : ∀ x,(w1.setCell ⟨w.heap.size,0,none⟩ (.int .i64 x)).cell? ⟨w.heap.size,1,none⟩ = some (.int .i64 0) := fun x => zh (zaB B6.out 0 _) 1
   have hf61 : ∀ x,(w1.setCell ⟨w.heap.size,0,none⟩ (.int .i64 x)).frozen? ⟨w.heap.size,1,none⟩ = false := fun x => zo (zaB B6.out 0 _) 1
   go_wp2_with fail
   refine zec B6.out (.int .i64 0) (.int .i64 0) (.int .i64 7) _ qy qy ?_
   exact ⟨rfl,zi (zi HB.out (Nat.le_refl _)) (Nat.le_refl _)⟩
  ·have h := H.out
   rw [if_neg g1] at h
   obtain ⟨lt,hlt⟩ : ∃ t,wrap64 ((l0.length : Int) - 1) = t := ⟨_,rfl⟩
   rw [hlt] at h
   have g2 : 0 ≤ lt := by
    by_cases g2 : 0 ≤ lt
    ·exact g2
    ·rw [if_neg g2] at h; cases h
   rw [if_pos g2] at h
   have g3 : lt < (l0.length : Int) := by
    by_cases g3 : lt < (l0.length : Int)
    ·exact g3
    ·rw [if_neg g3] at h; cases h
   rw [if_pos g3] at h
   obtain ⟨⟨ra,re⟩,hap,h⟩ := Option.bind_eq_some_iff.mp h
   dsimp only at h
   replace H := za.mk h
   clear h
   have t1 : ((l0.length : Int) == 0) = false := beq_eq_false_iff_ne.mpr g1
   have t1' : (l0.length == 0) = false := by simpa using g1
   obtain ⟨ady,Ay,cy,ey,hy,hyl,hyc⟩ := zco (Kd.zY HR.out.1 HB.out) lt g2 g3
   subst ey
   have HY := za.mk (And.intro hyl (And.intro hyc hap))
   clear hyl hyc hap
   have G := za.mk (And.intro g2 g3)
   replace g2 := eq_true g2
   replace g3 := eq_true g3
   go_wp2_with fail
   refine (zcx.calls k Ay cy (zaK l0 lt) A1 c1 l1 ra re w1 HY.out.2.1 HY.out.1 (Kd.zY HR.out.2.2.1 HB.out) HR.out.2.2.2.1 HY.out.2.2).mono ?_
   rintro e w2 ⟨v2,rfl,hR2,hb2⟩
   replace HB := za.mk (zq HB.out hb2)
   replace B6 := za.mk (zD B6.out hb2)
   obtain ⟨A3,c3,rfl,_,_⟩ := Kd.zav hR2
   have F2 := za.mk hR2
   clear hR2 hb2 hy t1 t1' HY
   by_cases g4 : re = 0
   ·subst g4
    have h := H.out
    rw [if_pos rfl] at h
    obtain ⟨ce,hce,h⟩ := Option.bind_eq_some_iff.mp h
    replace H := za.mk h
    clear h
    go_wp2_with fail
    refine (zaz.calls k A2 c2 l2 ce w2 (Kd.zY HR.out.2.2.2.2.1 HB.out) HR.out.2.2.2.2.2 hce).mono ?_
    rintro e w3 ⟨rfl,hb3⟩
    clear hce
    replace HB := za.mk (zq HB.out hb3)
    replace B6 := za.mk (zD B6.out hb3)
    replace F2 := za.mk (Kd.zJ F2.out hb3)
    clear hb3
    by_cases g5 : ce = 0
    ·subst g5
     have h := H.out
     rw [if_pos rfl] at h
     obtain ⟨dl,hdl,h⟩ := Option.bind_eq_some_iff.mp h
     replace H := za.mk h
     clear h
     go_wp2_with fail
     refine (zbY.calls A3 c3 ra A2 c2 l2 dl w3 (zaw F2.out).1 (zaw F2.out).2 (Kd.zY HR.out.2.2.2.2.1 HB.out) HR.out.2.2.2.2.2 hdl).mono ?_
     rintro e w4 ⟨v4,rfl,hR4,hb4⟩
     clear hdl
     replace HB := za.mk (zq HB.out hb4)
     replace B6 := za.mk (zD B6.out hb4)
     replace F2 := za.mk (Kd.zJ F2.out hb4)
     obtain ⟨A4,c4,rfl,_,_⟩ := Kd.zav hR4
     have F4 := za.mk hR4
     clear hR4 hb4
     by_cases g6 : (dl.length : Int) = 0
     ·have h := H.out
      rw [if_pos g6] at h
      simp only [Option.some.injEq,Prod.mk.injEq] at h
      obtain ⟨rfl,rfl,rfl⟩ := h
      have t2 : ((dl.length : Int) == 0) = true := beq_iff_eq.mpr g6
      have hc60 : w4.cell? ⟨w.heap.size,0,none⟩ = some (.int .i64 0) := zh B6.out 0
      have hf60 : w4.frozen? ⟨w.heap.size,0,none⟩ = false := zo B6.out 0
      have hc61 : ∀ x,(w4.setCell ⟨w.heap.size,0,none⟩ (.int .i64 x)).cell? ⟨w.heap.size,1,none⟩ = some (.int .i64 0) := fun x => zh (zaB B6.out 0 _) 1
      have hf61 : ∀ x,(w4.setCell ⟨w.heap.size,0,none⟩ (.int .i64 x)).frozen? ⟨w.heap.size,1,none⟩ = false := fun x => zo (zaB B6.out 0 _) 1
      go_wp2_with fail
      refine zec B6.out (.int .i64 0) (.int .i64 0) (.int .i64 0) _ qy qy ?_
      exact ⟨rfl,zi (zi HB.out (Nat.le_refl _)) (Nat.le_refl _)⟩
     ·have h := H.out
      have g7 : 0 < (dl.length : Int) := by omega
      rw [if_neg g6,if_pos g7] at h
      obtain ⟨ad4,e4,hx0,hx1,hx2⟩ := za8 (zaw F4.out).1 0 (Int.le_refl _) g7
      subst e4
      have ead : ad4.add ((0 : Int).toNat * 3) = ad4 := by simp [Addr.add]
      rw [ead] at hx0 hx1 hx2
      obtain ⟨⟨m0,m1,m2⟩,hm⟩ : ∃ m,zg dl 0 = m := ⟨_,rfl⟩
      rw [hm] at h hx0 hx1 hx2
      dsimp only at h hx0 hx1 hx2
      replace H := za.mk h
      clear h hm
      have t2 : ((dl.length : Int) == 0) = false := beq_eq_false_iff_ne.mpr g6
      have t2' : (dl.length == 0) = false := by simpa using g6
      have t3 : 0 < dl.length := by omega
      have B14 := za.mk (heap_alloc_new w4 (.cells #[.int .i64 m0, .int .i64 m1, .string m2] 63))
      have hb5 := ze (Below.refl w4.heap.size w4) (.cells #[.int .i64 m0, .int .i64 m1, .string m2] 63)
      replace HB := za.mk (zq HB.out hb5)
      replace B6 := za.mk (zD B6.out hb5)
      replace F2 := za.mk (Kd.zJ F2.out hb5)
      by_cases g8 : m0 = 3
      ·subst g8
       have h := H.out
       rw [if_pos rfl] at h
       simp only [Option.some.injEq,Prod.mk.injEq] at h
       obtain ⟨rfl,rfl,rfl⟩ := h
       clear hb5
       have hc60 : (w4.alloc (.cells #[.int .i64 3, .int .i64 m1, .string m2] 63)).cell? ⟨w.heap.size,0,none⟩ = some (.int .i64 0) := zh B6.out 0
       have hf60 : (w4.alloc (.cells #[.int .i64 3, .int .i64 m1, .string m2] 63)).frozen? ⟨w.heap.size,0,none⟩ = false := zo B6.out 0
       have hc61 : ∀ x,((w4.alloc (.cells #[.int .i64 3, .int .i64 m1, .string m2] 63)).setCell ⟨w.heap.size,0,none⟩ (.int .i64 x)).cell? ⟨w.heap.size,1,none⟩ = some (.int .i64 0) := fun x => zh (zaB B6.out 0 _) 1
       have hf61 : ∀ x,((w4.alloc (.cells #[.int .i64 3, .int .i64 m1, .string m2] 63)).setCell ⟨w.heap.size,0,none⟩ (.int .i64 x)).frozen? ⟨w.heap.size,1,none⟩ = false := fun x => zo (zaB B6.out 0 _) 1
       have hm1 : (w4.alloc (.cells #[.int .i64 3, .int .i64 m1, .string m2] 63)).cell? ⟨w4.heap.size,1,none⟩ = some (.int .i64 m1) := zh B14.out 1
       go_wp2_with fail
       refine zec B6.out (.int .i64 1) (.int .i64 m1) (.int .i64 0) _ qy qy ?_
       exact ⟨rfl,zi (zi HB.out (Nat.le_refl _)) (Nat.le_refl _)⟩
      ·have h := H.out
       rw [if_neg g8] at h
       obtain ⟨cs,hcs,h⟩ := Option.bind_eq_some_iff.mp h
       replace H := za.mk h
       clear h
       have t4 : (m0 == 3) = false := beq_eq_false_iff_ne.mpr g8
       obtain ⟨W5,hW5⟩ : ∃ W_,w4.alloc (.cells #[.int .i64 m0, .int .i64 m1, .string m2] 63) = W_ := ⟨_,rfl⟩
       have HW5 := za.mk hW5
       rw [hW5] at B14 HB B6 F2
       clear hW5 hb5
       go_wp2_with fail
       rw [HW5.out]
       refine zaF (fun W' => W'.cell? ⟨w4.heap.size,2,none⟩ = some (.string m2)) [] qi ?_
       have HS : W5.drew.cell? ⟨w4.heap.size,2,none⟩ = some (.string m2) := zh (zn B14.out) 2
       refine tk 0 ?_
       (try simp only [pu0,pu1,pu2,pu3,pu4])
       refine tk 1 ?_
       (try simp only [pu0,pu1,pu2,pu3,pu4])
       refine tk 2 ?_
       (try simp only [pu0,pu1,pu2,pu3,pu4])
       refine on1 3 fun K hK => ?_
       clear HS
       refine zbt Try.func74 qi rfl #[.slice A3 ra.length c3, .string m2] qy rfl rfl qr ?_
       refine (za7.calls k A3 c3 ra m2 cs W5.drew (zaw (Kd.zJ F2.out (zf (Below.refl _ _)))).1 (zaw F2.out).2 hcs).mono ?_
       rintro e w6 ⟨rfl,nd,hw6⟩
       refine ⟨_,rfl,?_⟩
       have hb6 : Below W5.heap.size W5 w6 := by rw [hw6]; exact zb (zf (Below.refl _ _)) _
       clear hw6 hcs
       replace HB := za.mk (zq HB.out hb6)
       replace B6 := za.mk (zD B6.out hb6)
       replace B14 := za.mk (zD B14.out hb6)
       clear hb6
       have HS : w6.cell? ⟨w4.heap.size,2,none⟩ = some (.string m2) := zh B14.out 2
       refine hK.out _ _ (fun _ => HS) ?_
       clear hK K
       (try simp only [pu0,pu1,pu2,pu3,pu4])
       cases cs
       ·have h := H.out
        rw [if_neg qt] at h
        have gle : lt ≤ (l0.length : Int) := Int.le_of_lt G.out.2
        rw [if_pos gle] at h
        obtain ⟨og,hog,h⟩ := Option.bind_eq_some_iff.mp h
        replace H := za.mk h
        clear h
        have hsl := zkm (some ady) l0.length c0 lt G.out.1 gle HR.out.2.1
        have hlen : (l0.take lt.toNat).length = lt.toNat := by rw [List.length_take]; have := G.out.2; have := G.out.1; omega
        refine tk 4 ?_
        (try simp only [pu0,pu1,pu2,pu3,pu4])
        refine tk 5 ?_
        (try simp only [pu0,pu1,pu2,pu3,pu4])
        refine tk 6 ?_
        (try simp only [pu0,pu1,pu2,pu3,pu4])
        refine tk 7 ?_
        (try simp only [pu0,pu1,pu2,pu3,pu4])
        refine tk 8 ?_
        (try simp only [pu0,pu1,pu2,pu3,pu4])
        refine tk 9 ?_
        (try simp only [pu0,pu1,pu2,pu3,pu4])
        refine tk 10 ?_
        (try simp only [pu0,pu1,pu2,pu3,pu4])
        refine on1 11 fun K hK => ?_
        clear HS
        have hC9 : Kd.C (Kd.slice 9 Kd.string) w6 (some ady) (l0.take lt.toNat).length (l0.take lt.toNat) := Kd.zjy (Kd.zY HR.out.1 HB.out) qj
        refine zbt Try.func75 qi rfl #[.slice (some ady) (l0.take lt.toNat).length c0, .string m2] qy rfl rfl (by simp only [List.map_toArray,List.map_cons,List.map_nil,hlen]; rfl) ?_
        refine (zba.calls k (some ady) c0 (l0.take lt.toNat) m2 og w6 hC9 (by have := HR.out.2.1; omega) hog).mono ?_
        rintro e w7 ⟨rfl,nd,hw7⟩
        refine ⟨_,rfl,?_⟩
        have hb7 : Below w6.heap.size w6 w7 := by rw [hw7]; exact zb (Below.refl _ _) _
        clear hw7 hog
        replace HB := za.mk (zq HB.out hb7)
        replace B6 := za.mk (zD B6.out hb7)
        replace B14 := za.mk (zD B14.out hb7)
        clear hb7
        have HS : w7.cell? ⟨w4.heap.size,2,none⟩ = some (.string m2) := zh B14.out 2
        refine hK.out _ _ (fun _ => HS) ?_
        clear hK K
        (try simp only [pu0,pu1,pu2,pu3,pu4])
        refine tk 12 ?_
        (try simp only [pu0,pu1,pu2,pu3,pu4])
        refine tk 13 ?_
        (try simp only [pu0,pu1,pu2,pu3,pu4])
        refine tk 14 ?_
        (try simp only [pu0,pu1,pu2,pu3,pu4])
        refine zar qi ?_ _
        clear HS hsl
        by_cases g9 : og ≥ 0
        ·have h := H.out
         rw [if_pos g9] at h
         simp only [Option.some.injEq,Prod.mk.injEq] at h
         obtain ⟨rfl,rfl,rfl⟩ := h
         have t5 : decide (0 ≤ og) = true := decide_eq_true g9
         have hc60 : w7.cell? ⟨w.heap.size,0,none⟩ = some (.int .i64 0) := zh B6.out 0
         have hf60 : w7.frozen? ⟨w.heap.size,0,none⟩ = false := zo B6.out 0
         have hc61 : ∀ x,(w7.setCell ⟨w.heap.size,0,none⟩ (.int .i64 x)).cell? ⟨w.heap.size,1,none⟩ = some (.int .i64 0) := fun x => zh (zaB B6.out 0 _) 1
         have hf61 : ∀ x,(w7.setCell ⟨w.heap.size,0,none⟩ (.int .i64 x)).frozen? ⟨w.heap.size,1,none⟩ = false := fun x => zo (zaB B6.out 0 _) 1
         have hm1 : w7.cell? ⟨w4.heap.size,1,none⟩ = some (.int .i64 m1) := zh B14.out 1
         go_wp2_with fail
         refine zec B6.out (.int .i64 2) (.int .i64 m1) (.int .i64 0) _ qy qy ?_
         exact ⟨rfl,zi (zi HB.out (Nat.le_refl _)) (Nat.le_refl _)⟩
        ·have h := H.out
         rw [if_neg g9] at h
         simp only [Option.some.injEq,Prod.mk.injEq] at h
         obtain ⟨rfl,rfl,rfl⟩ := h
         have t5 : decide (0 ≤ og) = false := decide_eq_false g9
         have hc60 : w7.cell? ⟨w.heap.size,0,none⟩ = some (.int .i64 0) := zh B6.out 0
         have hf60 : w7.frozen? ⟨w.heap.size,0,none⟩ = false := zo B6.out 0
         have hc61 : ∀ x,(w7.setCell ⟨w.heap.size,0,none⟩ (.int .i64 x)).cell? ⟨w.heap.size,1,none⟩ = some (.int .i64 0) := fun x => zh (zaB B6.out 0 _) 1
         have hf61 : ∀ x,(w7.setCell ⟨w.heap.size,0,none⟩ (.int .i64 x)).frozen? ⟨w.heap.size,1,none⟩ = false := fun x => zo (zaB B6.out 0 _) 1
         have hm1 : w7.cell? ⟨w4.heap.size,1,none⟩ = some (.int .i64 m1) := zh B14.out 1
         go_wp2_with fail
         refine zec B6.out (.int .i64 3) (.int .i64 m1) (.int .i64 0) _ qy qy ?_
         exact ⟨rfl,zi (zi HB.out (Nat.le_refl _)) (Nat.le_refl _)⟩
       ·refine zeH (i := 4) (oi := { dst := some 67,op := Go.Op.unOp Go.UnOp.not 4 (Go.Operand.tmp 66),type := 4,pos := "years.go:143",after := #[{ on := 3,ground := Go.Ground.data }],guard := none }) (v := ?_) rfl qi qi qi qi qi (fun _ _ _ h => h) (.inl ⟨by rfl,?_⟩) (by assumption) ?_
        rotate_left
        ·intro w_ hS_; (try dsimp only at hS_); go_simp; all_goals (with_reducible rfl)
        (try simp only [pu0,pu1,pu2,pu3,pu4])
        refine tk 5 ?_
        (try simp only [pu0,pu1,pu2,pu3,pu4])
        refine tkn 6 ?_
        (try simp only [pu0,pu1,pu2,pu3,pu4])
        refine tkn 7 ?_
        (try simp only [pu0,pu1,pu2,pu3,pu4])
        refine tkn 8 ?_
        (try simp only [pu0,pu1,pu2,pu3,pu4])
        refine tkn 9 ?_
        (try simp only [pu0,pu1,pu2,pu3,pu4])
        refine tkn 10 ?_
        (try simp only [pu0,pu1,pu2,pu3,pu4])
        refine on1 11 fun K hK => ?_
        refine zgY qy ?_
        refine hK.out _ _ (fun _ => HS) ?_
        clear hK K
        (try simp only [pu0,pu1,pu2,pu3,pu4])
        refine tkn 12 ?_
        (try simp only [pu0,pu1,pu2,pu3,pu4])
        refine tk 13 ?_
        (try simp only [pu0,pu1,pu2,pu3,pu4])
        refine tk 14 ?_
        (try simp only [pu0,pu1,pu2,pu3,pu4])
        refine zar qi ?_ _
        clear HS
        have h := H.out
        rw [if_pos rfl] at h
        simp only [Option.some.injEq,Prod.mk.injEq] at h
        obtain ⟨rfl,rfl,rfl⟩ := h
        have hc60 : w6.cell? ⟨w.heap.size,0,none⟩ = some (.int .i64 0) := zh B6.out 0
        have hf60 : w6.frozen? ⟨w.heap.size,0,none⟩ = false := zo B6.out 0
        have hc61 : ∀ x,(w6.setCell ⟨w.heap.size,0,none⟩ (.int .i64 x)).cell? ⟨w.heap.size,1,none⟩ = some (.int .i64 0) := fun x => zh (zaB B6.out 0 _) 1
        have hf61 : ∀ x,(w6.setCell ⟨w.heap.size,0,none⟩ (.int .i64 x)).frozen? ⟨w.heap.size,1,none⟩ = false := fun x => zo (zaB B6.out 0 _) 1
        have hm1 : w6.cell? ⟨w4.heap.size,1,none⟩ = some (.int .i64 m1) := zh B14.out 1
        go_wp2_with fail
        refine zec B6.out (.int .i64 3) (.int .i64 m1) (.int .i64 0) _ qy qy ?_
        exact ⟨rfl,zi (zi HB.out (Nat.le_refl _)) (Nat.le_refl _)⟩
    ·have h := H.out
     rw [if_neg g5] at h
     simp only [Option.some.injEq,Prod.mk.injEq] at h
     obtain ⟨rfl,rfl,rfl⟩ := h
     have t2 : (ce != 0) = true := bne_iff_ne.mpr g5
     have hc60 : w3.cell? ⟨w.heap.size,0,none⟩ = some (.int .i64 0) := zh B6.out 0
     have hf60 : w3.frozen? ⟨w.heap.size,0,none⟩ = false := zo B6.out 0
     have hc61 : ∀ x,(w3.setCell ⟨w.heap.size,0,none⟩ (.int .i64 x)).cell? ⟨w.heap.size,1,none⟩ = some (.int .i64 0) := fun x => zh (zaB B6.out 0 _) 1
     have hf61 : ∀ x,(w3.setCell ⟨w.heap.size,0,none⟩ (.int .i64 x)).frozen? ⟨w.heap.size,1,none⟩ = false := fun x => zo (zaB B6.out 0 _) 1
     go_wp2_with fail
     refine zec B6.out (.int .i64 0) (.int .i64 0) (.int .i64 ce) _ qy qy ?_
     exact ⟨rfl,zi (zi HB.out (Nat.le_refl _)) (Nat.le_refl _)⟩
   ·have h := H.out
    rw [if_neg g4] at h
    simp only [Option.some.injEq,Prod.mk.injEq] at h
    obtain ⟨rfl,rfl,rfl⟩ := h
    have t2 : (re != 0) = true := bne_iff_ne.mpr g4
    have hc60 : w2.cell? ⟨w.heap.size,0,none⟩ = some (.int .i64 0) := zh B6.out 0
    have hf60 : w2.frozen? ⟨w.heap.size,0,none⟩ = false := zo B6.out 0
    have hc61 : ∀ x,(w2.setCell ⟨w.heap.size,0,none⟩ (.int .i64 x)).cell? ⟨w.heap.size,1,none⟩ = some (.int .i64 0) := fun x => zh (zaB B6.out 0 _) 1
    have hf61 : ∀ x,(w2.setCell ⟨w.heap.size,0,none⟩ (.int .i64 x)).frozen? ⟨w.heap.size,1,none⟩ = false := fun x => zo (zaB B6.out 0 _) 1
    go_wp2_with fail
    refine zec B6.out (.int .i64 0) (.int .i64 0) (.int .i64 re) _ qy qy ?_
    exact ⟨rfl,zi (zi HB.out (Nat.le_refl _)) (Nat.le_refl _)⟩
 ·have h := H.out
  rw [if_neg g0] at h
  simp only [Option.some.injEq,Prod.mk.injEq] at h
  obtain ⟨rfl,rfl,rfl⟩ := h
  have t2 : (e0 != 0) = true := bne_iff_ne.mpr g0
  have hc60 : w1.cell? ⟨w.heap.size,0,none⟩ = some (.int .i64 0) := zh B6.out 0
  have hf60 : w1.frozen? ⟨w.heap.size,0,none⟩ = false := zo B6.out 0
  have hc61 : ∀ x,(w1.setCell ⟨w.heap.size,0,none⟩ (.int .i64 x)).cell? ⟨w.heap.size,1,none⟩ = some (.int .i64 0) := fun x => zh (zaB B6.out 0 _) 1
  have hf61 : ∀ x,(w1.setCell ⟨w.heap.size,0,none⟩ (.int .i64 x)).frozen? ⟨w.heap.size,1,none⟩ = false := fun x => zo (zaB B6.out 0 _) 1
  go_wp2_with fail
  refine zec B6.out (.int .i64 0) (.int .i64 0) (.int .i64 e0) _ qy qy ?_
  exact ⟨rfl,zi (zi HB.out (Nat.le_refl _)) (Nat.le_refl _)⟩
theorem zi0 (m : S63) (x : Int × List S63) (h0 : 0 ≤ x.1) (hn : x.1 ≤ 5000) : (zG m x).1 = (if m.f0 = 3 then x.1 else x.1 + 1) := by
 unfold zG
 dsimp only
 split
 ·rfl
 ·exact zcz qj qj
theorem zfj : ∀ p : List ByteArray,zcn p = 0 → ∀ x ∈ p,zbb x = 0
 | [],_,x,hx => by cases hx
 | y :: p,h,x,hx => by
  rw [zcn] at h
  by_cases hy : zbb y = 0
  ·rw [if_pos hy] at h
   rcases List.mem_cons.1 hx with rfl | hx
   ·exact hy
   ·exact zfj p h x hx
  ·rw [if_neg hy] at h; exact absurd h hy
theorem ziu {p : List ByteArray} (h : zbe p = 0) : ∀ x ∈ p,zbb x = 0 := by
 have hl := zch h
 unfold zbe at h
 rw [if_neg qj] at h
 exact zfj p h
end Go.Proofs.Ytgmbbfmbimofoaa.P
