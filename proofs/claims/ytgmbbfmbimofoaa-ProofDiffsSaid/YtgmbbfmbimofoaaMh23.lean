-- MERGED BY A PROGRAM out of texts of this claim: hand work, and what a (turned) print of the kit has written for it
import Derived.Outline
import Derived.Test.YtgmbbfmbimofoaaMh13
import Derived.Test.YtgmbbfmbimofoaaMh12
import Derived.Test.YtgmbbfmbimofoaaMh22
import Derived.Test.YtgmbbfmbimofoaaMh5
import Derived.Test.YtgmbbfmbimofoaaMh7
import Derived.Test.YtgmbbfmbimofoaaMh6
namespace Go.Proofs.Ytgmbbfmbimofoaa.P
open Go.RowKit Go.Proofs.YtgmbbfmbimofoaaW.PrintWords Go.Proofs.YtgmbbfmbimofoaaW.PrintLast Go.Proofs.YtgmbbfmbimofoaaW.PrintMore
attribute [local go_sem] zI zM zO zP zC zD zK zJ
set_option linter.unusedVariables false
set_option linter.unusedSimpArgs false
inductive zb5 : Nat → List ByteArray → List ByteArray → List S63 → Prop
 | nil (i : Nat) : zb5 i [] [] []
 | ins {i : Nat} {a b : List ByteArray} {ms : List S63} (y : ByteArray) : zb5 i a b ms → zb5 i a (y :: b) (⟨1, i, y⟩ :: ms)
 | del {i : Nat} {a b : List ByteArray} {ms : List S63} (x : ByteArray) : zb5 (i + 1) a b ms → zb5 i (x :: a) b (⟨3, i, ⟨#[]⟩⟩ :: ms)
 | set {i : Nat} {a b : List ByteArray} {ms : List S63} (x y : ByteArray) : zb5 (i + 1) a b ms → zb5 i (x :: a) (y :: b) (⟨2, i, y⟩ :: ms)
 | keep {i : Nat} {a b : List ByteArray} {ms : List S63} (x : ByteArray) : zb5 (i + 1) a b ms → zb5 i (x :: a) (x :: b) ms
theorem bytes_inj {x y : ByteArray} (h : x.toList = y.toList) : x = y := by
 obtain ⟨⟨l⟩⟩ := x
 obtain ⟨⟨m⟩⟩ := y
 rw [ByteArray.toList_eq, ByteArray.toList_eq] at h
 simp at h
 rw [h]
theorem zb5.fits {i : Nat} {a b : List ByteArray} {ms : List S63} (h : zb5 i a b ms) : ∀ n, i + a.length = n → ms.all (zbH n) = true := by
 induction h with
 | nil i => intro n _; rfl
 | ins y h ih => intro n hn; rw [List.all_cons, ih n hn, Bool.and_true]; simp [zbH]; omega
 | del x h ih => intro n hn; simp only [List.length_cons] at hn; rw [List.all_cons, ih n (by omega), Bool.and_true]; simp [zbH]; omega
 | set x y h ih => intro n hn; simp only [List.length_cons] at hn; rw [List.all_cons, ih n (by omega), Bool.and_true]; simp [zbH]; omega
 | keep x h ih => intro n hn; simp only [List.length_cons] at hn; exact ih n (by omega)
theorem Ev.ifp {α : Type} {c : Prop} [Decidable c] {A B : Nat → Option α} {r : α} (h : c) (k : Ev A r) : Ev (fun n => if c then A n else B n) r := by
 obtain ⟨K, k⟩ := k
 exact ⟨K, fun n hn => by dsimp only; rw [if_pos h]; exact k n hn⟩
theorem Ev.ifn {α : Type} {c : Prop} [Decidable c] {A B : Nat → Option α} {r : α} (h : ¬ c) (k : Ev B r) : Ev (fun n => if c then A n else B n) r := by
 obtain ⟨K, k⟩ := k
 exact ⟨K, fun n hn => by dsimp only; rw [if_neg h]; exact k n hn⟩
theorem Ev.bs {α β : Type} {o : Option α} {a : α} {f : Nat → α → Option β} {r : β} (h : o = some a) (k : Ev (fun n => f n a) r) : Ev (fun n => o.bind (f n)) r := by
 obtain ⟨K, k⟩ := k
 exact ⟨K, fun n hn => by dsimp only; rw [h]; exact k n hn⟩
theorem Ev.be {α β : Type} {g : Nat → Option α} {a : α} {f : Nat → α → Option β} {r : β} (h : Ev g a) (k : Ev (fun n => f n a) r) : Ev (fun n => (g n).bind (fun x => f n x)) r := Ev.bind h k
theorem Ev.ret {α : Type} {o : Option α} {r : α} (h : o = some r) : Ev (fun _ => o) r := ⟨0, fun _ _ => h⟩
theorem ze4 {x : Int} (h0 : -1000000000000000 ≤ x) (h1 : x ≤ 1000000000000000) : wrap64 x = x := by unfold wrap64; omega
theorem zcX (n : Nat) (h : n ≤ 1000000) : wrap64 ((n : Int) + 1) = ((n + 1 : Nat) : Int) := by unfold wrap64; omega
theorem zdx (p : List ByteArray) : Ev (fun k => zae.f k p) (zaS p) := ⟨8, fun k hk => zhB p k (by omega)⟩
instance ziV (x : ByteArray) (p : List ByteArray) : Decidable (x ∈ p) := decidable_of_iff (p.any (fun y => y.toList == x.toList) = true) (by
 rw [List.any_eq_true]
 exact ⟨fun ⟨y, h, e⟩ => by rw [← bytes_inj (beq_iff_eq.1 e)]; exact h, fun h => ⟨x, h, beq_iff_eq.2 rfl⟩⟩)
def Good (n : Nat) (p : List ByteArray) : Prop := p.length ≤ n ∧ ∀ x ∈ p, x ∈ zck
theorem Good.check {p : List ByteArray} (h : Good 6 p) : zaS p = 0 := checkS_ok_ p h.1 (fun x hx => words6_ok_ x (h.2 x hx))
where
 words6_ok_ : ∀ x ∈ zck, za0 x = 0 := by
  intro x hx
  simp only [zck, List.mem_cons, List.not_mem_nil, or_false] at hx
  rcases hx with rfl | rfl | rfl | rfl | rfl | rfl <;> kernel_rfl
 firstErr_ok_ : ∀ p : List ByteArray, (∀ x ∈ p, za0 x = 0) → zb7 p = 0
  | [], _ => rfl
  | x :: p, h => by rw [zb7, if_pos (h x List.mem_cons_self)]; exact firstErr_ok_ p (fun y hy => h y (List.mem_cons_of_mem _ hy))
 checkS_ok_ (p : List ByteArray) (hl : p.length ≤ 6) (h : ∀ x ∈ p, za0 x = 0) : zaS p = 0 := by
  unfold zaS
  rw [if_neg (by omega), firstErr_ok_ p h]
def zgM (ys : List (List ByteArray)) (x : ByteArray) : Nat → Int
 | 0 => -1
 | n + 1 => if x ∈ ys.getD n [] then (n : Int) else zgM ys x n
def zgV (ys : List (List ByteArray)) (x : ByteArray) : Prop := 0 ≤ zgM ys x ys.length ∧ zgM ys x ys.length < (ys.length : Int) - 1
instance (ys : List (List ByteArray)) (x : ByteArray) : Decidable (zgV ys x) := by unfold zgV; infer_instance
theorem zg8 (p : List ByteArray) (h : p.length ≤ 1000) : zba.f p = some p := by
 unfold zba.f
 rw [Option.bind_some, if_pos (by simp only [List.length_nil]; omega)]
 rfl
def lastOf : Option S63 → List S63 → Option S63
 | p, [] => p
 | _, m :: ms => lastOf (some m) ms
theorem zd9 (n : Nat) (m : S63) : ∀ (ms : List S63) (p : Option S63), zcr n p ms = 0 → zdr n (lastOf p ms) m = 0 → zcr n p (ms ++ [m]) = 0
 | [], p, _, h => by
  simp only [lastOf] at h
  rw [List.nil_append, zcr, if_pos h, zcr]
 | a :: ms, p, h, h2 => by
  rw [zcr] at h
  rw [List.cons_append, zcr]
  by_cases hc : zdr n p a = 0
  ·rw [if_pos hc] at h ⊢
   exact zd9 n m ms _ h h2
  ·rw [if_neg hc] at h; exact absurd h hc
def zcQ (n : Nat) (m : S63) : Prop := 0 ≤ m.f1 ∧ m.f1 ≤ (n : Int) ∧ ((m.f0 = 3 ∧ m.f2 = ⟨#[]⟩ ∧ m.f1 < (n : Int)) ∨ (m.f0 = 1 ∧ m.f2 ∈ zck) ∨ (m.f0 = 2 ∧ m.f2 ∈ zck ∧ m.f1 < (n : Int)))
def MOK (n : Nat) (ms : List S63) : Prop := zcr n none ms = 0 ∧ ∀ m ∈ ms, zcQ n m
theorem zfh {x : ByteArray} (h : x ∈ zck) : za0 x = 0 := Good.check.words6_ok_ x h
theorem zcQ.text {n : Nat} {m : S63} (h : zcQ n m) : zem m = 0 := by
 unfold zem
 rcases h.2.2 with ⟨h1, h2, _⟩ | ⟨h1, h2⟩ | ⟨h1, h2, _⟩
 ·rw [if_pos h1, h2, if_pos (by rw [ByteArray.toList_eq])]
 ·rw [if_neg (by omega)]; exact zfh h2
 ·rw [if_neg (by omega)]; exact zfh h2
theorem zcQ.err {n : Nat} {m : S63} (h : zcQ n m) {p : Option S63} (hp : ∀ q, p = some q → q.f1 < m.f1 ∨ (q.f1 = m.f1 ∧ q.f0 = 1)) : zdr n p m = 0 := by
 have h1 := h.1
 have h2 := h.2.1
 unfold zdr
 have hk : ¬ (m.f0 < 1 ∨ 3 < m.f0) := by rcases h.2.2 with ⟨h1, _⟩ | ⟨h1, _⟩ | ⟨h1, _⟩ <;> omega
 have ha : ¬ (m.f1 < 0 ∨ (if m.f0 = 1 then (n : Int) else (n : Int) - 1) < m.f1) := by
  rcases h.2.2 with ⟨h3, _, h4⟩ | ⟨h3, _⟩ | ⟨h3, _, h4⟩
  ·rw [if_neg (by omega)]; omega
  ·rw [if_pos h3]; omega
  ·rw [if_neg (by omega)]; omega
 rw [if_neg hk, if_neg ha, if_pos h.text]
 cases p with
 | none => rfl
 | some q =>
  rcases hp q rfl with h1 | ⟨h1, h2⟩
  ·simp only [ze3]; rw [if_neg (by omega), if_pos (Or.inl h1)]
  ·simp only [ze3]; rw [if_neg (by omega), if_pos (Or.inr h2)]
theorem MOK.snoc {n : Nat} {ms : List S63} {m : S63} (h : MOK n ms) (hm : zcQ n m) (hp : ∀ q, lastOf none ms = some q → q.f1 < m.f1 ∨ (q.f1 = m.f1 ∧ q.f0 = 1)) : MOK n (ms ++ [m]) :=
 ⟨zd9 n m ms none h.1 (hm.err hp), fun x hx => by
  rcases List.mem_append.1 hx with h1 | h1
  ·exact h.2 x h1
  ·rw [List.mem_singleton.1 h1]; exact hm⟩
theorem MOK.marks {n : Nat} {ms : List S63} (h : MOK n ms) (hl : ms.length ≤ 12) : zfE n ms = 0 := by
 unfold zfE; rw [if_neg (by omega)]; exact h.1
theorem MOK.fits {n : Nat} {ms : List S63} (h : MOK n ms) : ms.all (zbH n) = true := by
 rw [List.all_eq_true]
 intro m hm
 obtain ⟨h1, h2, h3⟩ := h.2 m hm
 unfold zbH
 rcases h3 with ⟨h3, _, h4⟩ | ⟨h3, _⟩ | ⟨h3, _, h4⟩ <;> simp [h3] <;> omega
theorem MOK.checked {pg : List ByteArray} {ms : List S63} (hg : Good 6 pg) (h : MOK pg.length ms) (hl : ms.length ≤ 12) : zfO pg ms = 0 := by
 unfold zfO; rw [if_pos hg.check]; exact h.marks hl
theorem zdl {p : List ByteArray} (h : zaS p = 0) : p.length ≤ 6 := by
 unfold zaS at h
 by_cases h6 : 6 < p.length
 ·rw [if_pos h6] at h; cases h
 ·omega
def zby : List S63 → Int
 | [] => 0
 | m :: ms => (if m.f0 = 3 then 0 else 1) + zby ms
theorem zf3 : ∀ ms : List S63, 0 ≤ zby ms ∧ zby ms ≤ ms.length
 | [] => by simp [zby]
 | m :: ms => by
  have := zf3 ms
  simp only [zby, List.length_cons]; split <;> omega
theorem zb5.ge {i : Nat} {a b : List ByteArray} {ms : List S63} (h : zb5 i a b ms) : ∀ m ∈ ms, (i : Int) ≤ m.f1 := by
 induction h with
 | nil i => intro m hm; cases hm
 | ins y h ih =>
  intro m hm
  rcases List.mem_cons.1 hm with rfl | hm
  ·exact Int.le_refl _
  ·exact ih m hm
 | del x h ih =>
  intro m hm
  rcases List.mem_cons.1 hm with rfl | hm
  ·exact Int.le_refl _
  ·have := ih m hm; omega
 | set x y h ih =>
  intro m hm
  rcases List.mem_cons.1 hm with rfl | hm
  ·exact Int.le_refl _
  ·have := ih m hm; omega
 | keep x h ih =>
  intro m hm
  have := ih m hm; omega
theorem zhf (p : List ByteArray) (hp : p.length ≤ 1000) : ∀ (m i k : Nat), p.length - i = m → i ≤ p.length → m < k → zad.l0 k p p (i : Int) = some true
 | 0, i, k, h, hi, hk => by
  obtain ⟨k', rfl⟩ : ∃ k', k = k' + 1 := ⟨k - 1, by omega⟩
  rw [zad.l0, if_neg (by omega)]
 | m + 1, i, k, h, hi, hk => by
  obtain ⟨k', rfl⟩ : ∃ k', k = k' + 1 := ⟨k - 1, by omega⟩
  have hw : wrap64 ((i : Int) + 1) = ((i + 1 : Nat) : Int) := by unfold wrap64; omega
  rw [zad.l0, if_pos (by omega), if_pos (by omega), if_pos (by omega)]
  rw [hw]
  simp only [zhf p hp m (i + 1) k' (by omega) (by omega) (by omega)]
  simp
theorem zfe (p : List ByteArray) (hp : p.length ≤ 1000) (k : Nat) (hk : p.length < k) : zad.f k p p = some true := by
 unfold zad.f
 rw [if_pos rfl]
 exact zhf p hp p.length 0 k (by omega) (by omega) hk
def zc9.f (k : Nat) (l0 : List (List ByteArray)) (l1 : List (S63)) (l2 : List ByteArray) : Option (Int × Int × Int) := (zaw.f k l0).bind fun t137 => (if t137 = 0 then (if (l0.length : Int) = 0 then (some (0, 0, 7)) else (if 0 ≤ (wrap64 ((l0.length : Int) - 1)) then (if (wrap64 ((l0.length : Int) - 1)) < (l0.length : Int) then ((zcf.f k (zb2 l0 (wrap64 ((l0.length : Int) - 1))) l1).bind fun bt139 => (if bt139.2 = 0 then ((zae.f k l2).bind fun t143 => (if t143 = 0 then ((zbk.f bt139.1 l2).bind fun t144 => (if (t144.length : Int) = 0 then (some (0, 0, 0)) else (if 0 < (t144.length : Int) then (if ((zk t144 0).f0) = 3 then (some (1, (zk t144 0).f1, 0)) else ((zaI.f k bt139.1 ((zk t144 0).f2)).bind fun t149 => (if t149 = true then (some (3, (zk t144 0).f1, 0)) else (if (wrap64 ((l0.length : Int) - 1)) ≤ (l0.length : Int) then ((zaQ.f k (l0.take ((wrap64 ((l0.length : Int) - 1)) : Int).toNat) ((zk t144 0).f2)).bind fun t154 => (if t154 ≥ 0 then (some (2, (zk t144 0).f1, 0)) else (some (3, (zk t144 0).f1, 0)))) else (none))))) else (none)))) else (some (0, 0, t143)))) else (some (0, 0, bt139.2)))) else (none)) else (none))) else (some (0, 0, t137)))
theorem zhc {b : Bool} (h : b = false) {p q : Prop} (hq : q) : if b = true then p else q := by
 subst h; exact hq
theorem ziK (A : Option Addr) (n c : Nat) (j : Int) (h0 : 0 ≤ j) (hm : j ≤ n) (hc : n ≤ c) : ∀ W : World, (Instr.slice 29 (.slice A n c) none (some (.int .i64 j)) none).run Try.prog W = .ok (.slice A j.toNat c) W := by
 intro W
 have hi : ∃ i, Try.prog.info? 22 = some i ∧ i.size = 1 := by
  have h1 : (Try.prog.info? 22).map (fun i => i.size) = some 1 := by kernel_rfl
  obtain ⟨i, h2, h3⟩ := Option.map_eq_some_iff.1 h1
  exact ⟨i, h2, h3⟩
 obtain ⟨i, hi, hsz⟩ := hi
 have hel : Try.prog.elem 29 = 22 := by kernel_rfl
 have hu : Try.prog.underlying 29 = some (.slice (Try.prog.elem 29)) := by rw [hel]; exact Try.underlying29
 have ha : (A.map fun x => x.add 0) = A := by cases A <;> simp [Addr.add]
 rw [run_slice_h W 29 A n c hu .i64 j h0 (by omega), hel]
 simp [sizeOf, typeInfo, hi, hsz, sliced, Result.andThen, ha]
theorem zdf {W : World} {g : Nat} {z0 z1 : Value} (hb : W.heap[g]? = some (.cells #[z0, z1] 54 (0, 0))) (u0 u1 v7 : Value) (tmps : Array Value) (h6 : tmps.getD 6 undef = .pointer (some ⟨g, 0, none⟩)) (h7 : tmps.getD 7 undef = v7) {R : Ending → World → Prop}
  (hR : R (.returned (.tuple #[.agg #[u0, u1], v7])) ((W.setCell ⟨g, 0, none⟩ u0).setCell ⟨g, 1, none⟩ u1)) : bodyPost Try.prog Try.f37 R .ret { tmps := tmps, defers := [] } ((W.setCell ⟨g, 0, none⟩ u0).setCell ⟨g, 1, none⟩ u1) := by
 have hb2 := zY (zY hb 0 u0 rfl) 1 u1 rfl
 have h := zgv (P := Try.prog) (fn := Try.f37) (p := 6) (u := 7) (ty := 54) (by kernel_rfl) tmps _ g 54 #[u0, u1] (0, 0) _ h6 hb2 Try.underlying54 rfl (by kernel_rfl)
 rw [h7] at h
 exact bodyPost_ret h rfl hR
set_option maxHeartbeats 4000000 in
set_option maxRecDepth 100000 in
theorem zc9.calls (k : Nat) (A0 : Option Addr) (c0 : Nat) (l0 : List (List ByteArray)) (A1 : Option Addr) (c1 : Nat) (l1 : List (S63)) (A2 : Option Addr) (c2 : Nat) (l2 : List ByteArray) (r1 : Int) (r2 : Int) (r3 : Int) (w : World) (hr0 : Kd.C (Kd.slice 9 Kd.string) w A0 l0.length l0) (hc0 : l0.length ≤ c0) (hr1 : Kd.C k63 w A1 l1.length l1) (hc1 : l1.length ≤ c1) (hr2 : Kd.C Kd.string w A2 l2.length l2) (hc2 : l2.length ≤ c2) (h : zc9.f k l0 l1 l2 = some (r1, r2, r3)) :
  Calls Try.prog 37 #[.slice A0 l0.length c0, .slice A1 l1.length c1, .slice A2 l2.length c2] w fun e w' => e = .returned (.tuple #[.agg #[.int .i64 r1, .int .i64 r2], .int .i64 r3]) ∧ Below w.heap.size w w' := by
 have H := za.mk h
 have HR := za.mk (And.intro hr0 (And.intro hc0 (And.intro hr1 (And.intro hc1 (And.intro hr2 hc2)))))
 clear hr0 hc0 hr1 hc1 hr2 hc2 h
 obtain ⟨e0, he0, h⟩ := Option.bind_eq_some_iff.mp H.out
 replace H := za.mk h
 clear h
 have HE := za.mk he0
 clear he0
 have hu54 := Try.underlying54
 have HB : za (Below w.heap.size w (w.alloc (.cells #[.int .i64 0, .int .i64 0] 54))) := ⟨ze (Below.refl _ _) _⟩
 have B6 := za.mk (heap_alloc_new w (.cells #[.int .i64 0, .int .i64 0] 54))
 go_enter Try.func37, Try.ntmps37
 go_wp2_with fail
 refine (zaw.calls k A0 c0 l0 e0 _ (Kd.zW HR.out.1 HB.out) HR.out.2.1 HE.out).mono ?_
 rintro e w1 ⟨rfl, hb1⟩
 replace HB := za.mk (zo HB.out hb1)
 replace B6 := za.mk (zA B6.out hb1)
 clear hb1
 by_cases g0 : e0 = 0
 ·subst g0
  have h := H.out
  rw [if_pos rfl] at h
  replace H := za.mk h
  clear h
  by_cases g1 : (l0.length : Int) = 0
  ·have h := H.out
   rw [if_pos g1] at h
   simp only [Option.some.injEq, Prod.mk.injEq] at h
   obtain ⟨rfl, rfl, rfl⟩ := h
   have t1 : ((l0.length : Int) == 0) = true := beq_iff_eq.mpr g1
   have t1' : (l0.length == 0) = true := by simpa using g1
   have hc60 : w1.cell? ⟨w.heap.size, 0, none⟩ = some (.int .i64 0) := zf B6.out 0
   have hf60 : w1.frozen? ⟨w.heap.size, 0, none⟩ = false := zn B6.out 0
   have hc61 : ∀ x, (w1.setCell ⟨w.heap.size, 0, none⟩ (.int .i64 x)).cell? ⟨w.heap.size, 1, none⟩ = some (.int .i64 0) := fun x => zf (zat B6.out 0 _) 1
   have hf61 : ∀ x, (w1.setCell ⟨w.heap.size, 0, none⟩ (.int .i64 x)).frozen? ⟨w.heap.size, 1, none⟩ = false := fun x => zn (zat B6.out 0 _) 1
   go_wp2_with fail
   refine zdf B6.out (.int .i64 0) (.int .i64 0) (.int .i64 7) _ (by rfl) (by rfl) ?_
   exact ⟨rfl, zh (zh HB.out (Nat.le_refl _)) (Nat.le_refl _)⟩
  ·have h := H.out
   rw [if_neg g1] at h
   obtain ⟨lt, hlt⟩ : ∃ t, wrap64 ((l0.length : Int) - 1) = t := ⟨_, rfl⟩
   rw [hlt] at h
   have g2 : 0 ≤ lt := by
    by_cases g2 : 0 ≤ lt
    ·exact g2
    ·rw [if_neg g2] at h; cases h
   rw [if_pos g2] at h
   have g3 : lt < (l0.length : Int) := by
    by_cases g3 : lt < (l0.length : Int)
    ·exact g3
    ·rw [if_neg g3] at h; cases h
   rw [if_pos g3] at h
   obtain ⟨⟨ra, re⟩, hap, h⟩ := Option.bind_eq_some_iff.mp h
   dsimp only at h
   replace H := za.mk h
   clear h
   have t1 : ((l0.length : Int) == 0) = false := beq_eq_false_iff_ne.mpr g1
   have t1' : (l0.length == 0) = false := by simpa using g1
   obtain ⟨ady, Ay, cy, ey, hy, hyl, hyc⟩ := zeZ (Kd.zW HR.out.1 HB.out) lt g2 g3
   subst ey
   have HY := za.mk (And.intro hyl (And.intro hyc hap))
   clear hyl hyc hap
   have G := za.mk (And.intro g2 g3)
   replace g2 := eq_true g2
   replace g3 := eq_true g3
   go_wp2_with fail
   refine (zcf.calls k Ay cy (zb2 l0 lt) A1 c1 l1 ra re w1 HY.out.2.1 HY.out.1 (Kd.zW HR.out.2.2.1 HB.out) HR.out.2.2.2.1 HY.out.2.2).mono ?_
   rintro e w2 ⟨v2, rfl, hR2, hb2⟩
   replace HB := za.mk (zo HB.out hb2)
   replace B6 := za.mk (zA B6.out hb2)
   obtain ⟨A3, c3, rfl, _, _⟩ := Kd.zaa hR2
   have F2 := za.mk hR2
   clear hR2 hb2 hy t1 t1' HY
   by_cases g4 : re = 0
   ·subst g4
    have h := H.out
    rw [if_pos rfl] at h
    obtain ⟨ce, hce, h⟩ := Option.bind_eq_some_iff.mp h
    replace H := za.mk h
    clear h
    go_wp2_with fail
    refine (zae.calls k A2 c2 l2 ce w2 (Kd.zW HR.out.2.2.2.2.1 HB.out) HR.out.2.2.2.2.2 hce).mono ?_
    rintro e w3 ⟨rfl, hb3⟩
    clear hce
    replace HB := za.mk (zo HB.out hb3)
    replace B6 := za.mk (zA B6.out hb3)
    replace F2 := za.mk (Kd.zB F2.out hb3)
    clear hb3
    by_cases g5 : ce = 0
    ·subst g5
     have h := H.out
     rw [if_pos rfl] at h
     obtain ⟨dl, hdl, h⟩ := Option.bind_eq_some_iff.mp h
     replace H := za.mk h
     clear h
     go_wp2_with fail
     refine (zbk.calls A3 c3 ra A2 c2 l2 dl w3 (zZ F2.out).1 (zZ F2.out).2 (Kd.zW HR.out.2.2.2.2.1 HB.out) HR.out.2.2.2.2.2 hdl).mono ?_
     rintro e w4 ⟨v4, rfl, hR4, hb4⟩
     clear hdl
     replace HB := za.mk (zo HB.out hb4)
     replace B6 := za.mk (zA B6.out hb4)
     replace F2 := za.mk (Kd.zB F2.out hb4)
     obtain ⟨A4, c4, rfl, _, _⟩ := Kd.zaa hR4
     have F4 := za.mk hR4
     clear hR4 hb4
     by_cases g6 : (dl.length : Int) = 0
     ·have h := H.out
      rw [if_pos g6] at h
      simp only [Option.some.injEq, Prod.mk.injEq] at h
      obtain ⟨rfl, rfl, rfl⟩ := h
      have t2 : ((dl.length : Int) == 0) = true := beq_iff_eq.mpr g6
      have hc60 : w4.cell? ⟨w.heap.size, 0, none⟩ = some (.int .i64 0) := zf B6.out 0
      have hf60 : w4.frozen? ⟨w.heap.size, 0, none⟩ = false := zn B6.out 0
      have hc61 : ∀ x, (w4.setCell ⟨w.heap.size, 0, none⟩ (.int .i64 x)).cell? ⟨w.heap.size, 1, none⟩ = some (.int .i64 0) := fun x => zf (zat B6.out 0 _) 1
      have hf61 : ∀ x, (w4.setCell ⟨w.heap.size, 0, none⟩ (.int .i64 x)).frozen? ⟨w.heap.size, 1, none⟩ = false := fun x => zn (zat B6.out 0 _) 1
      go_wp2_with fail
      refine zdf B6.out (.int .i64 0) (.int .i64 0) (.int .i64 0) _ (by rfl) (by rfl) ?_
      exact ⟨rfl, zh (zh HB.out (Nat.le_refl _)) (Nat.le_refl _)⟩
     ·have h := H.out
      have g7 : 0 < (dl.length : Int) := by omega
      rw [if_neg g6, if_pos g7] at h
      obtain ⟨ad4, e4, hx0, hx1, hx2⟩ := zbi (zZ F4.out).1 0 (Int.le_refl _) g7
      subst e4
      have ead : ad4.add ((0 : Int).toNat * 3) = ad4 := by simp [Addr.add]
      rw [ead] at hx0 hx1 hx2
      obtain ⟨⟨m0, m1, m2⟩, hm⟩ : ∃ m, zk dl 0 = m := ⟨_, rfl⟩
      rw [hm] at h hx0 hx1 hx2
      dsimp only at h hx0 hx1 hx2
      replace H := za.mk h
      clear h hm
      have t2 : ((dl.length : Int) == 0) = false := beq_eq_false_iff_ne.mpr g6
      have t2' : (dl.length == 0) = false := by simpa using g6
      have t3 : 0 < dl.length := by omega
      have B14 := za.mk (heap_alloc_new w4 (.cells #[.int .i64 m0, .int .i64 m1, .string m2] 63))
      have hb5 := ze (Below.refl w4.heap.size w4) (.cells #[.int .i64 m0, .int .i64 m1, .string m2] 63)
      replace HB := za.mk (zo HB.out hb5)
      replace B6 := za.mk (zA B6.out hb5)
      replace F2 := za.mk (Kd.zB F2.out hb5)
      by_cases g8 : m0 = 3
      ·subst g8
       have h := H.out
       rw [if_pos rfl] at h
       simp only [Option.some.injEq, Prod.mk.injEq] at h
       obtain ⟨rfl, rfl, rfl⟩ := h
       clear hb5
       have hc60 : (w4.alloc (.cells #[.int .i64 3, .int .i64 m1, .string m2] 63)).cell? ⟨w.heap.size, 0, none⟩ = some (.int .i64 0) := zf B6.out 0
       have hf60 : (w4.alloc (.cells #[.int .i64 3, .int .i64 m1, .string m2] 63)).frozen? ⟨w.heap.size, 0, none⟩ = false := zn B6.out 0
       have hc61 : ∀ x, ((w4.alloc (.cells #[.int .i64 3, .int .i64 m1, .string m2] 63)).setCell ⟨w.heap.size, 0, none⟩ (.int .i64 x)).cell? ⟨w.heap.size, 1, none⟩ = some (.int .i64 0) := fun x => zf (zat B6.out 0 _) 1
       have hf61 : ∀ x, ((w4.alloc (.cells #[.int .i64 3, .int .i64 m1, .string m2] 63)).setCell ⟨w.heap.size, 0, none⟩ (.int .i64 x)).frozen? ⟨w.heap.size, 1, none⟩ = false := fun x => zn (zat B6.out 0 _) 1
       have hm1 : (w4.alloc (.cells #[.int .i64 3, .int .i64 m1, .string m2] 63)).cell? ⟨w4.heap.size, 1, none⟩ = some (.int .i64 m1) := zf B14.out 1
       go_wp2_with fail
       refine zdf B6.out (.int .i64 1) (.int .i64 m1) (.int .i64 0) _ (by rfl) (by rfl) ?_
       exact ⟨rfl, zh (zh HB.out (Nat.le_refl _)) (Nat.le_refl _)⟩
      ·have h := H.out
       rw [if_neg g8] at h
       obtain ⟨cs, hcs, h⟩ := Option.bind_eq_some_iff.mp h
       replace H := za.mk h
       clear h
       have t4 : (m0 == 3) = false := beq_eq_false_iff_ne.mpr g8
       obtain ⟨W5, hW5⟩ : ∃ W_, w4.alloc (.cells #[.int .i64 m0, .int .i64 m1, .string m2] 63) = W_ := ⟨_, rfl⟩
       have HW5 := za.mk hW5
       rw [hW5] at B14 HB B6 F2
       clear hW5 hb5
       go_wp2_with fail
       rw [HW5.out]
       refine zaj (fun W' => W'.cell? ⟨w4.heap.size, 2, none⟩ = some (.string m2)) [] (by kernel_rfl) ?_
       have HS : W5.drew.cell? ⟨w4.heap.size, 2, none⟩ = some (.string m2) := zf (zm B14.out) 2
       refine tk 0 ?_
       (try simp only [pu0, pu1, pu2, pu3, pu4])
       refine tk 1 ?_
       (try simp only [pu0, pu1, pu2, pu3, pu4])
       refine tk 2 ?_
       (try simp only [pu0, pu1, pu2, pu3, pu4])
       refine on1 3 fun K hK => ?_
       clear HS
       refine za5 Try.func74 (by kernel_rfl) rfl #[.slice A3 ra.length c3, .string m2] (by rfl) rfl rfl (by simp only [List.map_toArray, List.map_cons, List.map_nil]; rfl) ?_
       refine (zaI.calls k A3 c3 ra m2 cs W5.drew (zZ (Kd.zB F2.out (zg (Below.refl _ _)))).1 (zZ F2.out).2 hcs).mono ?_
       rintro e w6 ⟨rfl, nd, hw6⟩
       refine ⟨_, rfl, ?_⟩
       have hb6 : Below W5.heap.size W5 w6 := by rw [hw6]; exact zb (zg (Below.refl _ _)) _
       clear hw6 hcs
       replace HB := za.mk (zo HB.out hb6)
       replace B6 := za.mk (zA B6.out hb6)
       replace B14 := za.mk (zA B14.out hb6)
       clear hb6
       have HS : w6.cell? ⟨w4.heap.size, 2, none⟩ = some (.string m2) := zf B14.out 2
       refine hK.out _ _ (fun _ => HS) ?_
       clear hK K
       (try simp only [pu0, pu1, pu2, pu3, pu4])
       cases cs
       ·have h := H.out
        rw [if_neg (by decide)] at h
        have gle : lt ≤ (l0.length : Int) := Int.le_of_lt G.out.2
        rw [if_pos gle] at h
        obtain ⟨og, hog, h⟩ := Option.bind_eq_some_iff.mp h
        replace H := za.mk h
        clear h
        have hsl := ziK (some ady) l0.length c0 lt G.out.1 gle HR.out.2.1
        have hlen : (l0.take lt.toNat).length = lt.toNat := by rw [List.length_take]; have := G.out.2; have := G.out.1; omega
        refine tk 4 ?_
        (try simp only [pu0, pu1, pu2, pu3, pu4])
        refine tk 5 ?_
        (try simp only [pu0, pu1, pu2, pu3, pu4])
        refine tk 6 ?_
        (try simp only [pu0, pu1, pu2, pu3, pu4])
        refine tk 7 ?_
        (try simp only [pu0, pu1, pu2, pu3, pu4])
        refine tk 8 ?_
        (try simp only [pu0, pu1, pu2, pu3, pu4])
        refine tk 9 ?_
        (try simp only [pu0, pu1, pu2, pu3, pu4])
        refine tk 10 ?_
        (try simp only [pu0, pu1, pu2, pu3, pu4])
        refine on1 11 fun K hK => ?_
        clear HS
        have hC9 : Kd.C (Kd.slice 9 Kd.string) w6 (some ady) (l0.take lt.toNat).length (l0.take lt.toNat) := Kd.zix (Kd.zW HR.out.1 HB.out) (by omega)
        refine za5 Try.func75 (by kernel_rfl) rfl #[.slice (some ady) (l0.take lt.toNat).length c0, .string m2] (by rfl) rfl rfl (by simp only [List.map_toArray, List.map_cons, List.map_nil, hlen]; rfl) ?_
        refine (zaQ.calls k (some ady) c0 (l0.take lt.toNat) m2 og w6 hC9 (by have := HR.out.2.1; omega) hog).mono ?_
        rintro e w7 ⟨rfl, nd, hw7⟩
        refine ⟨_, rfl, ?_⟩
        have hb7 : Below w6.heap.size w6 w7 := by rw [hw7]; exact zb (Below.refl _ _) _
        clear hw7 hog
        replace HB := za.mk (zo HB.out hb7)
        replace B6 := za.mk (zA B6.out hb7)
        replace B14 := za.mk (zA B14.out hb7)
        clear hb7
        have HS : w7.cell? ⟨w4.heap.size, 2, none⟩ = some (.string m2) := zf B14.out 2
        refine hK.out _ _ (fun _ => HS) ?_
        clear hK K
        (try simp only [pu0, pu1, pu2, pu3, pu4])
        refine tk 12 ?_
        (try simp only [pu0, pu1, pu2, pu3, pu4])
        refine tk 13 ?_
        (try simp only [pu0, pu1, pu2, pu3, pu4])
        refine tk 14 ?_
        (try simp only [pu0, pu1, pu2, pu3, pu4])
        refine z8 (by kernel_rfl) ?_ _
        clear HS hsl
        by_cases g9 : og ≥ 0
        ·have h := H.out
         rw [if_pos g9] at h
         simp only [Option.some.injEq, Prod.mk.injEq] at h
         obtain ⟨rfl, rfl, rfl⟩ := h
         have t5 : decide (0 ≤ og) = true := decide_eq_true g9
         have hc60 : w7.cell? ⟨w.heap.size, 0, none⟩ = some (.int .i64 0) := zf B6.out 0
         have hf60 : w7.frozen? ⟨w.heap.size, 0, none⟩ = false := zn B6.out 0
         have hc61 : ∀ x, (w7.setCell ⟨w.heap.size, 0, none⟩ (.int .i64 x)).cell? ⟨w.heap.size, 1, none⟩ = some (.int .i64 0) := fun x => zf (zat B6.out 0 _) 1
         have hf61 : ∀ x, (w7.setCell ⟨w.heap.size, 0, none⟩ (.int .i64 x)).frozen? ⟨w.heap.size, 1, none⟩ = false := fun x => zn (zat B6.out 0 _) 1
         have hm1 : w7.cell? ⟨w4.heap.size, 1, none⟩ = some (.int .i64 m1) := zf B14.out 1
         go_wp2_with fail
         refine zdf B6.out (.int .i64 2) (.int .i64 m1) (.int .i64 0) _ (by rfl) (by rfl) ?_
         exact ⟨rfl, zh (zh HB.out (Nat.le_refl _)) (Nat.le_refl _)⟩
        ·have h := H.out
         rw [if_neg g9] at h
         simp only [Option.some.injEq, Prod.mk.injEq] at h
         obtain ⟨rfl, rfl, rfl⟩ := h
         have t5 : decide (0 ≤ og) = false := decide_eq_false g9
         have hc60 : w7.cell? ⟨w.heap.size, 0, none⟩ = some (.int .i64 0) := zf B6.out 0
         have hf60 : w7.frozen? ⟨w.heap.size, 0, none⟩ = false := zn B6.out 0
         have hc61 : ∀ x, (w7.setCell ⟨w.heap.size, 0, none⟩ (.int .i64 x)).cell? ⟨w.heap.size, 1, none⟩ = some (.int .i64 0) := fun x => zf (zat B6.out 0 _) 1
         have hf61 : ∀ x, (w7.setCell ⟨w.heap.size, 0, none⟩ (.int .i64 x)).frozen? ⟨w.heap.size, 1, none⟩ = false := fun x => zn (zat B6.out 0 _) 1
         have hm1 : w7.cell? ⟨w4.heap.size, 1, none⟩ = some (.int .i64 m1) := zf B14.out 1
         go_wp2_with fail
         refine zdf B6.out (.int .i64 3) (.int .i64 m1) (.int .i64 0) _ (by rfl) (by rfl) ?_
         exact ⟨rfl, zh (zh HB.out (Nat.le_refl _)) (Nat.le_refl _)⟩
       ·refine zdI (i := 4) (oi := { dst := some 67, op := Go.Op.unOp Go.UnOp.not 4 (Go.Operand.tmp 66), type := 4, pos := "years.go:143", after := #[{ on := 3, ground := Go.Ground.data }], guard := none }) (v := ?_) rfl (by kernel_rfl) (by kernel_rfl) (by kernel_rfl) (by kernel_rfl) (by kernel_rfl) (fun _ _ _ h => h) (.inl ⟨by rfl, ?_⟩) (by assumption) ?_
        rotate_left
        ·intro w_ hS_; (try dsimp only at hS_); go_simp; all_goals (with_reducible rfl)
        (try simp only [pu0, pu1, pu2, pu3, pu4])
        refine tk 5 ?_
        (try simp only [pu0, pu1, pu2, pu3, pu4])
        refine tkn 6 ?_
        (try simp only [pu0, pu1, pu2, pu3, pu4])
        refine tkn 7 ?_
        (try simp only [pu0, pu1, pu2, pu3, pu4])
        refine tkn 8 ?_
        (try simp only [pu0, pu1, pu2, pu3, pu4])
        refine tkn 9 ?_
        (try simp only [pu0, pu1, pu2, pu3, pu4])
        refine tkn 10 ?_
        (try simp only [pu0, pu1, pu2, pu3, pu4])
        refine on1 11 fun K hK => ?_
        refine zhc (by rfl) ?_
        refine hK.out _ _ (fun _ => HS) ?_
        clear hK K
        (try simp only [pu0, pu1, pu2, pu3, pu4])
        refine tkn 12 ?_
        (try simp only [pu0, pu1, pu2, pu3, pu4])
        refine tk 13 ?_
        (try simp only [pu0, pu1, pu2, pu3, pu4])
        refine tk 14 ?_
        (try simp only [pu0, pu1, pu2, pu3, pu4])
        refine z8 (by kernel_rfl) ?_ _
        clear HS
        have h := H.out
        rw [if_pos rfl] at h
        simp only [Option.some.injEq, Prod.mk.injEq] at h
        obtain ⟨rfl, rfl, rfl⟩ := h
        have hc60 : w6.cell? ⟨w.heap.size, 0, none⟩ = some (.int .i64 0) := zf B6.out 0
        have hf60 : w6.frozen? ⟨w.heap.size, 0, none⟩ = false := zn B6.out 0
        have hc61 : ∀ x, (w6.setCell ⟨w.heap.size, 0, none⟩ (.int .i64 x)).cell? ⟨w.heap.size, 1, none⟩ = some (.int .i64 0) := fun x => zf (zat B6.out 0 _) 1
        have hf61 : ∀ x, (w6.setCell ⟨w.heap.size, 0, none⟩ (.int .i64 x)).frozen? ⟨w.heap.size, 1, none⟩ = false := fun x => zn (zat B6.out 0 _) 1
        have hm1 : w6.cell? ⟨w4.heap.size, 1, none⟩ = some (.int .i64 m1) := zf B14.out 1
        go_wp2_with fail
        refine zdf B6.out (.int .i64 3) (.int .i64 m1) (.int .i64 0) _ (by rfl) (by rfl) ?_
        exact ⟨rfl, zh (zh HB.out (Nat.le_refl _)) (Nat.le_refl _)⟩
    ·have h := H.out
     rw [if_neg g5] at h
     simp only [Option.some.injEq, Prod.mk.injEq] at h
     obtain ⟨rfl, rfl, rfl⟩ := h
     have t2 : (ce != 0) = true := bne_iff_ne.mpr g5
     have hc60 : w3.cell? ⟨w.heap.size, 0, none⟩ = some (.int .i64 0) := zf B6.out 0
     have hf60 : w3.frozen? ⟨w.heap.size, 0, none⟩ = false := zn B6.out 0
     have hc61 : ∀ x, (w3.setCell ⟨w.heap.size, 0, none⟩ (.int .i64 x)).cell? ⟨w.heap.size, 1, none⟩ = some (.int .i64 0) := fun x => zf (zat B6.out 0 _) 1
     have hf61 : ∀ x, (w3.setCell ⟨w.heap.size, 0, none⟩ (.int .i64 x)).frozen? ⟨w.heap.size, 1, none⟩ = false := fun x => zn (zat B6.out 0 _) 1
     go_wp2_with fail
     refine zdf B6.out (.int .i64 0) (.int .i64 0) (.int .i64 ce) _ (by rfl) (by rfl) ?_
     exact ⟨rfl, zh (zh HB.out (Nat.le_refl _)) (Nat.le_refl _)⟩
   ·have h := H.out
    rw [if_neg g4] at h
    simp only [Option.some.injEq, Prod.mk.injEq] at h
    obtain ⟨rfl, rfl, rfl⟩ := h
    have t2 : (re != 0) = true := bne_iff_ne.mpr g4
    have hc60 : w2.cell? ⟨w.heap.size, 0, none⟩ = some (.int .i64 0) := zf B6.out 0
    have hf60 : w2.frozen? ⟨w.heap.size, 0, none⟩ = false := zn B6.out 0
    have hc61 : ∀ x, (w2.setCell ⟨w.heap.size, 0, none⟩ (.int .i64 x)).cell? ⟨w.heap.size, 1, none⟩ = some (.int .i64 0) := fun x => zf (zat B6.out 0 _) 1
    have hf61 : ∀ x, (w2.setCell ⟨w.heap.size, 0, none⟩ (.int .i64 x)).frozen? ⟨w.heap.size, 1, none⟩ = false := fun x => zn (zat B6.out 0 _) 1
    go_wp2_with fail
    refine zdf B6.out (.int .i64 0) (.int .i64 0) (.int .i64 re) _ (by rfl) (by rfl) ?_
    exact ⟨rfl, zh (zh HB.out (Nat.le_refl _)) (Nat.le_refl _)⟩
 ·have h := H.out
  rw [if_neg g0] at h
  simp only [Option.some.injEq, Prod.mk.injEq] at h
  obtain ⟨rfl, rfl, rfl⟩ := h
  have t2 : (e0 != 0) = true := bne_iff_ne.mpr g0
  have hc60 : w1.cell? ⟨w.heap.size, 0, none⟩ = some (.int .i64 0) := zf B6.out 0
  have hf60 : w1.frozen? ⟨w.heap.size, 0, none⟩ = false := zn B6.out 0
  have hc61 : ∀ x, (w1.setCell ⟨w.heap.size, 0, none⟩ (.int .i64 x)).cell? ⟨w.heap.size, 1, none⟩ = some (.int .i64 0) := fun x => zf (zat B6.out 0 _) 1
  have hf61 : ∀ x, (w1.setCell ⟨w.heap.size, 0, none⟩ (.int .i64 x)).frozen? ⟨w.heap.size, 1, none⟩ = false := fun x => zn (zat B6.out 0 _) 1
  go_wp2_with fail
  refine zdf B6.out (.int .i64 0) (.int .i64 0) (.int .i64 e0) _ (by rfl) (by rfl) ?_
  exact ⟨rfl, zh (zh HB.out (Nat.le_refl _)) (Nat.le_refl _)⟩
theorem zgt (m : S63) (x : Int × List S63) (h0 : 0 ≤ x.1) (hn : x.1 ≤ 5000) : (zx m x).1 = (if m.f0 = 3 then x.1 else x.1 + 1) := by
 unfold zx
 dsimp only
 split
 ·rfl
 ·exact ze4 (by omega) (by omega)
theorem zhV (a b : List ByteArray) (ha : zaS a = 0) (hb : zaS b = 0) : Ev (fun k => zbA.f k a b) ((dsp 0 a b).2, 0) := by
 have l1 := zdl ha
 have l2 := zdl hb
 unfold zbA.f
 refine Ev.be (zdx a) ?_
 rw [ha]
 refine Ev.ifp rfl ?_
 refine Ev.be (zdx b) ?_
 rw [hb]
 refine Ev.ifp rfl ?_
 have hd : zbk.f a b = some (dsp 0 a b).2 := by unfold zbk.f; rw [if_pos ⟨by omega, by omega⟩]
 exact Ev.bs hd (Ev.now _)
end Go.Proofs.Ytgmbbfmbimofoaa.P
