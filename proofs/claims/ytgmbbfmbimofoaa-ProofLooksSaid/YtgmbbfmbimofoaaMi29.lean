-- MERGED BY A PROGRAM out of texts of this claim: hand work, and what a (turned) print of the kit has written for it
import Derived.IntWalk
import Derived.Outline
import Derived.Deep.DeepCutAuto
import Derived.Deep.CutBlock
import Derived.Test.YtgmbbfmbimofoaaMi25
import Derived.Test.YtgmbbfmbimofoaaMi24
import Derived.Test.YtgmbbfmbimofoaaMi28
import Derived.Test.YtgmbbfmbimofoaaMi12
import Derived.Test.YtgmbbfmbimofoaaMi5
import Derived.Test.YtgmbbfmbimofoaaMi6
import Derived.Test.YtgmbbfmbimofoaaMi7
import Derived.Test.YtgmbbfmbimofoaaMi23
import Derived.Test.YtgmbbfmbimofoaaMi26
import Derived.Test.YtgmbbfmbimofoaaMi15
import Derived.Test.YtgmbbfmbimofoaaMi10
import Derived.Test.YtgmbbfmbimofoaaMi9
namespace Go.Proofs.Ytgmbbfmbimofoaa.P
open Go.RowKit Go.Proofs.YtgmbbfmbimofoaaW.PrintWords Go.Proofs.YtgmbbfmbimofoaaW.PrintLast Go.Proofs.YtgmbbfmbimofoaaW.PrintMore
attribute [local go_sem] zM zN zV zU zI zH zO zP
set_option linter.unusedVariables false
set_option linter.unusedSimpArgs false
theorem zcq {w w' : World} (h : zw w w') : Below w.heap.size w w' := by
 obtain ⟨n,rfl⟩ := h
 exact zb (Below.refl _ _) n
theorem zaL {α : Type} {d : Kd α} {w w' : World} {A : Option Addr} {n c : Nat} {xs : List α} (h : d.C w A n xs ∧ n ≤ c) (hb : Below w.heap.size w w') : d.C w' A n xs ∧ n ≤ c := ⟨Kd.zY h.1 hb,h.2⟩
theorem ziO (p : List ByteArray) (ms : List S63) : (zcv p ms).1.length ≤ 6 := by
 unfold zcv
 split
 ·split
  ·simp
  ·dsimp only; omega
 ·simp
structure zjH (W : World) (b9 b10 : Nat) (i : Nat) (p : List ByteArray) (A : Option Addr) (c : Nat) (m : List S63) (B : Option Addr) (d : Nat) : Prop where
 c9 : W.cell? ⟨b9,i,none⟩ = some (.slice A p.length c)
 c10 : W.cell? ⟨b10,i,none⟩ = some (.slice B m.length d)
 rp : Kd.string.C W A p.length p
 hp : p.length ≤ c
 rm : k63.C W B m.length m
 hm : m.length ≤ d
 sp : p.length ≤ 20
 sm : m.length ≤ 20
theorem zjH.below {W W' : World} {b9 b10 i : Nat} {p : List ByteArray} {A : Option Addr} {c : Nat} {m : List S63} {B : Option Addr} {d : Nat} (h : zjH W b9 b10 i p A c m B d) (hb : Below W.heap.size W W') : zjH W' b9 b10 i p A c m B d :=
 ⟨(hb.cell (World.block_lt_of_cell? W _ h.c9)).trans h.c9,(hb.cell (World.block_lt_of_cell? W _ h.c10)).trans h.c10,Kd.zY h.rp hb,h.hp,Kd.zY h.rm hb,h.hm,h.sp,h.sm⟩
structure ziX (W : World) (b9 b10 : Nat) (i : Nat) (p : List ByteArray) (A : Option Addr) (c : Nat) (m : List ByteArray) (B : Option Addr) (d : Nat) : Prop where
 c9 : W.cell? ⟨b9,i,none⟩ = some (.slice A p.length c)
 c10 : W.cell? ⟨b10,i,none⟩ = some (.slice B m.length d)
 rp : Kd.string.C W A p.length p
 hp : p.length ≤ c
 rm : Kd.string.C W B m.length m
 hm : m.length ≤ d
 sp : p.length ≤ 20
 sm : m.length ≤ 20
theorem ziX.below {W W' : World} {b9 b10 i : Nat} {p : List ByteArray} {A : Option Addr} {c : Nat} {m : List ByteArray} {B : Option Addr} {d : Nat} (h : ziX W b9 b10 i p A c m B d) (hb : Below W.heap.size W W') : ziX W' b9 b10 i p A c m B d :=
 ⟨(hb.cell (World.block_lt_of_cell? W _ h.c9)).trans h.c9,(hb.cell (World.block_lt_of_cell? W _ h.c10)).trans h.c10,Kd.zY h.rp hb,h.hp,Kd.zY h.rm hb,h.hm,h.sp,h.sm⟩
theorem zfo (n : Nat) : ∀ (ms : List S63) (prev : Option S63),zbH n prev ms = 0 → ∀ m ∈ ms,m.f0 ≠ 3 → zbb m.f2 = 0
 | [],_,_,m,hm,_ => by cases hm
 | q :: ms,prev,h,m,hm,h3 => by
  rw [zbH] at h
  by_cases hq : zbT n prev q = 0
  ·rw [if_pos hq] at h
   rcases List.mem_cons.1 hm with rfl | hm
   ·unfold zbT at hq
    by_cases c1 : m.f0 < 1 ∨ 3 < m.f0
    ·rw [if_pos c1] at hq; cases hq
    ·rw [if_neg c1] at hq
     by_cases c2 : m.f1 < 0 ∨ (if m.f0 = 1 then (n : Int) else (n : Int) - 1) < m.f1
     ·rw [if_pos c2] at hq; cases hq
     ·rw [if_neg c2] at hq
      by_cases c3 : zcc m = 0
      ·unfold zcc at c3
       rw [if_neg h3] at c3
       exact c3
      ·rw [if_neg c3] at hq; exact absurd hq c3
   ·exact zfo n ms _ h m hm h3
  ·rw [if_neg hq] at h; exact absurd h hq
theorem zh5 {i : Nat} {a b : List ByteArray} {ms : List S63} (h : zbQ i a b ms) : (∀ x ∈ a,zbb x = 0) → (∀ m ∈ ms,m.f0 ≠ 3 → zbb m.f2 = 0) → ∀ y ∈ b,zbb y = 0 := by
 induction h with
 | nil => intro _ _ y hy; cases hy
 | @ins i a b ms y0 h ih =>
  intro ha hm y hy
  rcases List.mem_cons.1 hy with rfl | hy
  ·exact hm ⟨1,i,y⟩ List.mem_cons_self (by show (1 : Int) ≠ 3; decide)
  ·exact ih ha (fun m h => hm m (List.mem_cons_of_mem _ h)) y hy
 | @del i a b ms x0 h ih =>
  intro ha hm y hy
  exact ih (fun x h => ha x (List.mem_cons_of_mem _ h)) (fun m h => hm m (List.mem_cons_of_mem _ h)) y hy
 | @set i a b ms x0 y0 h ih =>
  intro ha hm y hy
  rcases List.mem_cons.1 hy with rfl | hy
  ·exact hm ⟨2,i,y⟩ List.mem_cons_self (by show (2 : Int) ≠ 3; decide)
  ·exact ih (fun x h => ha x (List.mem_cons_of_mem _ h)) (fun m h => hm m (List.mem_cons_of_mem _ h)) y hy
 | @keep i a b ms x0 h ih =>
  intro ha hm y hy
  rcases List.mem_cons.1 hy with rfl | hy
  ·exact ha y List.mem_cons_self
  ·exact ih (fun x h => ha x (List.mem_cons_of_mem _ h)) hm y hy
theorem zfN : ∀ p : List ByteArray,(∀ x ∈ p,zbb x = 0) → zcn p = 0
 | [],_ => rfl
 | x :: p,h => by rw [zcn,if_pos (h x List.mem_cons_self)]; exact zfN p (fun y hy => h y (List.mem_cons_of_mem _ hy))
theorem zju (p : List ByteArray) (hl : p.length ≤ 6) (h : ∀ x ∈ p,zbb x = 0) : zbe p = 0 := by
 unfold zbe
 rw [if_neg qj,zfN p h]
theorem zgZ {p : List ByteArray} {ms : List S63} (h : (zcv p ms).2 = 0) : zbe (zcv p ms).1 = 0 := by
 unfold zcv at h ⊢
 by_cases hc : zca p ms = 0
 ·rw [if_pos hc] at h ⊢
  by_cases h6 : 6 < (zcL p ms).length
  ·rw [if_pos h6] at h; cases h
  ·rw [if_neg h6]
   obtain ⟨h1,h2⟩ := zeJ hc
   refine zju _ (by show (zcL p ms).length ≤ 6; omega) ?_
   have hm := ze0 h2
   refine zh5 (zeK h2) (ziu h1) ?_
   unfold zcS at h2
   rw [if_neg qj] at h2
   exact zfo _ ms none h2
 ·rw [if_neg hc] at h; exact absurd h hc
def zdw : List (List ByteArray) → Int
 | [] => 0
 | p :: ys => if zbe p = 0 then zdw ys else zbe p
def zcy (ys : List (List ByteArray)) : Int := if 4 < ys.length then 6 else zdw ys
theorem zfR : ∀ ys : List (List ByteArray),zdw ys = 0 → ∀ p ∈ ys,zbe p = 0
 | [],_,p,hp => by cases hp
 | q :: ys,h,p,hp => by
  rw [zdw] at h
  by_cases hq : zbe q = 0
  ·rw [if_pos hq] at h
   rcases List.mem_cons.1 hp with rfl | hp
   ·exact hq
   ·exact zfR ys h p hp
  ·rw [if_neg hq] at h; exact absurd h hq
theorem zfu {ys : List (List ByteArray)} (h : zcy ys = 0) : ys.length ≤ 4 ∧ ∀ p ∈ ys,zbe p = 0 := by
 unfold zcy at h
 by_cases h4 : 4 < ys.length
 ·rw [if_pos h4] at h; cases h
 ·rw [if_neg h4] at h; exact ⟨by omega,zfR ys h⟩
theorem zgD (ys : List (List ByteArray)) : Ev (fun k => zaR.f k ys) (zcy ys) := by
 unfold zaR.f zcy
 by_cases h4 : 4 < ys.length
 ·rw [if_pos h4]; exact Ev.ifp qj (Ev.now _)
 ·rw [if_neg h4]
  refine Ev.ifn qj ?_
  have go : ∀ (m i : Nat),ys.length - i = m → i ≤ ys.length → Ev (fun k => zaR.l0 k ys (ys.length : Int) (i : Int)) (zdw (ys.drop i)) := by
   intro m
   induction m with
   | zero =>
    intro i h hi
    rw [List.drop_eq_nil_of_le qj]
    refine Ev.step (fun k => by rw [zaR.l0]) ?_
    exact Ev.ifn qj (Ev.now _)
   | succ m ih =>
    intro i h hi
    have hlt : i < ys.length := by omega
    have r1 : zaK ys (i : Int) = ys[i] := by simp [zaK,hlt]
    rw [List.drop_eq_getElem_cons hlt,zdw]
    refine Ev.step (fun k => by rw [zaR.l0]) ?_
    refine Ev.ifp qj ?_
    refine Ev.ifp qj ?_
    refine Ev.ifp qj ?_
    refine Ev.be (zhP _) ?_
    rw [r1]
    by_cases hc : zbe ys[i] = 0
    ·rw [if_pos hc]
     refine Ev.ifp hc ?_
     rw [zby i qj]
     exact ih (i + 1) qj qj
    ·rw [if_neg hc]
     exact Ev.ifn hc (Ev.now _)
  have := go ys.length 0 qj qj
  rw [List.drop_zero] at this
  exact this
theorem zh6 (ys : List (List ByteArray)) : Ev (fun k => zax.f k ys) (zcy ys) := by
 unfold zax.f zcy
 by_cases h4 : 4 < ys.length
 ·rw [if_pos h4]; exact Ev.ifp qj (Ev.now _)
 ·rw [if_neg h4]
  refine Ev.ifn qj ?_
  have go : ∀ (m i : Nat),ys.length - i = m → i ≤ ys.length → Ev (fun k => zax.l0 k ys (i : Int)) (zdw (ys.drop i)) := by
   intro m
   induction m with
   | zero =>
    intro i h hi
    rw [List.drop_eq_nil_of_le qj]
    refine Ev.step (fun k => by rw [zax.l0]) ?_
    exact Ev.ifn qj (Ev.now _)
   | succ m ih =>
    intro i h hi
    have hlt : i < ys.length := by omega
    have r1 : zaK ys (i : Int) = ys[i] := by simp [zaK,hlt]
    rw [List.drop_eq_getElem_cons hlt,zdw]
    refine Ev.step (fun k => by rw [zax.l0]) ?_
    refine Ev.ifp qj ?_
    refine Ev.ifp qj ?_
    refine Ev.be (zdS _) ?_
    rw [r1]
    by_cases hc : zbe ys[i] = 0
    ·rw [if_pos hc]
     refine Ev.ifp hc ?_
     rw [zby i qj]
     exact ih (i + 1) qj qj
    ·rw [if_neg hc]
     exact Ev.ifn hc (Ev.now _)
  have := go ys.length 0 qj qj
  rw [List.drop_zero] at this
  exact this
def zdj (x : ByteArray) : List ByteArray → Nat
 | [] => 0
 | y :: p => (if y.toList = x.toList then 1 else 0) + zdj x p
theorem zkp (x : ByteArray) : ∀ p : List ByteArray,zdj x p ≤ p.length
 | [] => by simp [zdj]
 | y :: p => by have := zkp x p; simp only [zdj,List.length_cons]; split <;> omega
theorem zfl (x : ByteArray) : ∀ p : List ByteArray,zdj x p = 0 ↔ x ∉ p
 | [] => by simp [zdj]
 | y :: p => by
  have := zfl x p
  rw [zdj]
  by_cases h : y.toList = x.toList
  ·rw [if_pos h]
   have := bytes_inj h
   subst this
   simp
  ·rw [if_neg h,Nat.zero_add,this]
   have hne : x ≠ y := fun e => h (by rw [e])
   simp [hne]
theorem zhk (p : List ByteArray) (x : ByteArray) (hp : p.length ≤ 1000) : Ev (fun k => zaH.f k p x) (zdj x p : Int) := by
 have go : ∀ (m i n : Nat),p.length - i = m → i ≤ p.length → n ≤ i → Ev (fun k => zaH.l0 k p x (n : Int) (i : Int)) ((n + zdj x (p.drop i) : Nat) : Int) := by
  intro m
  induction m with
  | zero =>
   intro i n h hi hn
   rw [List.drop_eq_nil_of_le qj,zdj,Nat.add_zero]
   refine Ev.step (fun k => by rw [zaH.l0]) ?_
   exact Ev.ifn qj (Ev.now _)
  | succ m ih =>
   intro i n h hi hn
   have hlt : i < p.length := by omega
   have r1 : za0 ByteArray.empty p (i : Int) = p[i] := by simp [za0,hlt]
   rw [List.drop_eq_getElem_cons hlt,zdj]
   refine Ev.step (fun k => by rw [zaH.l0]) ?_
   refine Ev.ifp qj ?_
   refine Ev.ifp qj ?_
   rw [r1,zby i qj,zby n qj]
   by_cases hc : p[i].toList = x.toList
   ·rw [if_pos hc]
    refine Ev.ifp hc ?_
    have := ih (i + 1) (n + 1) qj qj qj
    rw [show n + (1 + zdj x (p.drop (i + 1))) = n + 1 + zdj x (p.drop (i + 1)) by omega]
    exact this
   ·rw [if_neg hc,Nat.zero_add]
    exact Ev.ifn hc (ih (i + 1) n qj qj qj)
 have := go p.length 0 0 qj qj qj
 rw [List.drop_zero,Nat.zero_add] at this
 exact this
theorem zjG (ys : List (List ByteArray)) (x : ByteArray) (hy : ys.length ≤ 1000) (hp : ∀ p ∈ ys,p.length ≤ 1000) : ∃ r : Int,Ev (fun k => zaO.f k ys x) r ∧ (0 < r ↔ ∃ p ∈ ys,x ∈ p) := by
 have go : ∀ (m i : Nat) (n : Int),ys.length - i = m → i ≤ ys.length → 0 ≤ n → ∃ r : Int,Ev (fun k => zaO.l0 k ys x n (i : Int)) r ∧ (0 < r ↔ (0 < n ∨ ∃ p ∈ ys.drop i,x ∈ p)) := by
  intro m
  induction m with
  | zero =>
   intro i n h hi hn
   rw [List.drop_eq_nil_of_le qj]
   refine ⟨n,?_,by simp⟩
   refine Ev.step (fun k => by rw [zaO.l0]) ?_
   exact Ev.ifn qj (Ev.now _)
  | succ m ih =>
   intro i n h hi hn
   have hlt : i < ys.length := by omega
   have r1 : zaK ys (i : Int) = ys[i] := by simp [zaK,hlt]
   have hmx : 0 ≤ mx n (zdj x ys[i] : Int) := by unfold mx; split <;> omega
   obtain ⟨r,h1,h2⟩ := ih (i + 1) (mx n (zdj x ys[i] : Int)) qj qj hmx
   refine ⟨r,?_,?_⟩
   ·refine Ev.step (fun k => by rw [zaO.l0]) ?_
    refine Ev.ifp qj ?_
    refine Ev.ifp qj ?_
    rw [r1]
    refine Ev.be (zhk _ x (hp _ (List.getElem_mem _))) ?_
    rw [zby i qj]
    exact h1
   ·rw [h2,List.drop_eq_getElem_cons hlt]
    have hz := zfl x ys[i]
    have hm : 0 < mx n (zdj x ys[i] : Int) ↔ (0 < n ∨ x ∈ ys[i]) := by
     by_cases hx : x ∈ ys[i]
     ·have : zdj x ys[i] ≠ 0 := fun h => (hz.1 h) hx
      unfold mx; constructor
      ·intro _; exact .inr hx
      ·intro _; split <;> omega
     ·have := hz.2 hx
      rw [this]
      unfold mx
      constructor
      ·intro h; left; split at h <;> omega
      ·rintro (h | h)
       ·split <;> omega
       ·exact absurd h hx
    rw [hm]
    simp only [List.mem_cons,exists_eq_or_imp]
    exact or_assoc
 obtain ⟨r,h1,h2⟩ := go ys.length 0 0 qj qj qj
 rw [List.drop_zero] at h2
 exact ⟨r,h1,by rw [h2]; simp⟩
theorem zjc (ys : List (List ByteArray)) (x : ByteArray) : 0 ≤ zck ys x ys.length ↔ ∃ p ∈ ys,x ∈ p := by
 constructor
 ·intro h
  have hl := zhh ys x ys.length
  have hh := zg4 ys x ys.length h
  have hlt : (zck ys x ys.length).toNat < ys.length := by omega
  rw [List.getD_eq_getElem?_getD,List.getElem?_eq_getElem hlt,Option.getD_some] at hh
  exact ⟨_,List.getElem_mem _,hh⟩
 ·rintro ⟨p,hp,hx⟩
  obtain ⟨j,hj,rfl⟩ := List.mem_iff_getElem.1 hp
  by_cases h : 0 ≤ zck ys x ys.length
  ·exact h
  ·exfalso
   refine zgj ys x ys.length j hj qj ?_
   rw [List.getD_eq_getElem?_getD,List.getElem?_eq_getElem hj,Option.getD_some]
   exact hx
def ziY (ys : List (List ByteArray)) (pf : List ByteArray) : List S63 → Int × Int × Int
 | [] => (0,0,0)
 | m :: _ => if m.f0 = 3 then (1,m.f1,0) else if m.f2 ∈ pf then (3,m.f1,0) else if 0 ≤ zck ys m.f2 ys.length then (2,m.f1,0) else (3,m.f1,0)
def zf9 (ys : List (List ByteArray)) (ms : List S63) (rt : List ByteArray) : Int × Int × Int :=
 if zcy ys = 0 then (if ys.length = 0 then (0,0,7)
  else if (zcv (ys.getD (ys.length - 1) []) ms).2 = 0 then (if zbe rt = 0 then ziY (ys.take (ys.length - 1)) (zcv (ys.getD (ys.length - 1) []) ms).1 (dsp 0 (zcv (ys.getD (ys.length - 1) []) ms).1 rt).2 else (0,0,zbe rt))
  else (0,0,(zcv (ys.getD (ys.length - 1) []) ms).2))
 else (0,0,zcy ys)
theorem zkw (ys : List (List ByteArray)) (ms : List S63) (rt : List ByteArray) : Ev (fun k => zcV.f k ys ms rt) (zf9 ys ms rt) := by
 unfold zcV.f zf9
 refine Ev.be (zgD ys) ?_
 by_cases hy : zcy ys = 0
 ·simp only [if_pos hy]
  obtain ⟨h4,hall⟩ := zfu hy
  by_cases h0 : ys.length = 0
  ·rw [if_pos h0]; exact Ev.ifp qj (Ev.now _)
  ·rw [if_neg h0]
   have hw : wrap64 ((ys.length : Int) - 1) = ((ys.length - 1 : Nat) : Int) := by rw [zcz qj qj]; omega
   rw [hw]
   refine Ev.ifn qj ?_
   refine Ev.ifp qj ?_
   refine Ev.ifp qj ?_
   refine Ev.be (zjY _ ms) ?_
   have r1 : zaK ys ((ys.length - 1 : Nat) : Int) = ys.getD (ys.length - 1) [] := by simp [zaK]
   rw [r1]
   obtain ⟨q,hq⟩ : ∃ q,zcv (ys.getD (ys.length - 1) []) ms = q := ⟨_,rfl⟩
   have hok := @zgZ (ys.getD (ys.length - 1) []) ms
   rw [hq] at hok ⊢
   by_cases h2 : q.2 = 0
   ·simp only [if_pos h2]
    have l1 := zch (hok h2)
    refine Ev.be (zhP rt) ?_
    by_cases h3 : zbe rt = 0
    ·simp only [if_pos h3]
     have l2 := zch h3
     have hd : zbY.f q.1 rt = some (dsp 0 q.1 rt).2 := by unfold zbY.f; rw [if_pos ⟨by omega,by omega⟩]
     refine Ev.bs hd ?_
     cases hdd : (dsp 0 q.1 rt).2 with
     | nil => exact Ev.ifp rfl (Ev.now _)
     | cons m d =>
      have r2 : zg (m :: d) 0 = m := rfl
      rw [r2]
      refine Ev.ifn qJ ?_
      refine Ev.ifp qJ ?_
      rw [ziY]
      by_cases c3 : m.f0 = 3
      ·rw [if_pos c3]; exact Ev.ifp c3 (Ev.now _)
      ·rw [if_neg c3]
       refine Ev.ifn c3 ?_
       refine Ev.be (zfX q.1 m.f2 qj) ?_
       by_cases c4 : m.f2 ∈ q.1
       ·rw [if_pos c4]; exact Ev.ifp (decide_eq_true c4) (Ev.now _)
       ·rw [if_neg c4]
        refine Ev.ifn (by simpa using c4) ?_
        refine Ev.ifp qj ?_
        rw [Int.toNat_natCast]
        refine Ev.be (zjn (ys.take (ys.length - 1)) m.f2 qV (fun p hp => by have := zch (hall p (List.mem_of_mem_take hp)); omega)) ?_
        by_cases c5 : 0 ≤ zck (ys.take (ys.length - 1)) m.f2 (ys.take (ys.length - 1)).length
        ·rw [if_pos c5,if_pos c5]; exact Ev.now _
        ·rw [if_neg c5,if_neg c5]; exact Ev.now _
    ·simp only [if_neg h3]; exact Ev.now _
   ·simp only [if_neg h2]; exact Ev.now _
 ·simp only [if_neg hy]; exact Ev.now _
theorem ziN (ys : List (List ByteArray)) (ms : List S63) (rt : List ByteArray) : Ev (fun k => zb6.f k ys ms rt) (zf9 ys ms rt) := by
 unfold zb6.f zf9
 refine Ev.be (zh6 ys) ?_
 by_cases hy : zcy ys = 0
 ·simp only [if_pos hy]
  obtain ⟨h4,hall⟩ := zfu hy
  by_cases h0 : ys.length = 0
  ·rw [if_pos h0]; exact Ev.ifp qj (Ev.now _)
  ·rw [if_neg h0]
   have hw : wrap64 ((ys.length : Int) - 1) = ((ys.length - 1 : Nat) : Int) := by rw [zcz qj qj]; omega
   rw [hw]
   refine Ev.ifn qj ?_
   refine Ev.ifp qj ?_
   refine Ev.ifp qj ?_
   refine Ev.be (zfW _ ms) ?_
   have r1 : zaK ys ((ys.length - 1 : Nat) : Int) = ys.getD (ys.length - 1) [] := by simp [zaK]
   rw [r1]
   obtain ⟨q,hq⟩ : ∃ q,zcv (ys.getD (ys.length - 1) []) ms = q := ⟨_,rfl⟩
   have hok := @zgZ (ys.getD (ys.length - 1) []) ms
   rw [hq] at hok ⊢
   by_cases h2 : q.2 = 0
   ·simp only [if_pos h2]
    have l0 := hok h2
    have l1 := zch l0
    refine Ev.be (ziS q.1 rt) ?_
    rw [if_pos l0]
    by_cases h3 : zbe rt = 0
    ·simp only [if_pos h3]
     refine Ev.ifp trivial ?_
     cases hdd : (dsp 0 q.1 rt).2 with
     | nil => exact Ev.ifp rfl (Ev.now _)
     | cons m d =>
      have r2 : zg (m :: d) 0 = m := rfl
      rw [r2]
      refine Ev.ifn qJ ?_
      refine Ev.ifp qJ ?_
      rw [ziY]
      by_cases c3 : m.f0 = 3
      ·rw [if_pos c3]; exact Ev.ifp c3 (Ev.now _)
      ·rw [if_neg c3]
       refine Ev.ifn c3 ?_
       refine Ev.be (zhk q.1 m.f2 qj) ?_
       have hz := zfl m.f2 q.1
       by_cases c4 : m.f2 ∈ q.1
       ·rw [if_pos c4]
        refine Ev.ifn ?_ (Ev.now _)
        intro h
        exact (hz.1 qj) c4
       ·rw [if_neg c4]
        refine Ev.ifp (by have := hz.2 c4; omega) ?_
        refine Ev.ifp qj ?_
        rw [Int.toNat_natCast]
        obtain ⟨r,s1,s2⟩ := zjG (ys.take (ys.length - 1)) m.f2 qV (fun p hp => by have := zch (hall p (List.mem_of_mem_take hp)); omega)
        refine Ev.be s1 ?_
        rw [← zjc] at s2
        by_cases c5 : 0 ≤ zck (ys.take (ys.length - 1)) m.f2 (ys.take (ys.length - 1)).length
        ·rw [if_pos c5]; exact Ev.ifp (s2.2 c5) (Ev.now _)
        ·rw [if_neg c5]; exact Ev.ifn (fun h => c5 (s2.1 h)) (Ev.now _)
    ·simp only [if_neg h3]
     exact Ev.now _
   ·simp only [if_neg h2]; exact Ev.now _
 ·simp only [if_neg hy]; exact Ev.now _
theorem ziB {w : World} {A : Option Addr} {n : Nat} {ys : List (List ByteArray)} (h : (Kd.slice 9 Kd.string).C w A n ys) : ∀ p ∈ ys,p.length ≤ 9223372036854775807 := by
 intro p hp
 obtain ⟨j,hj,rfl⟩ := List.mem_iff_getElem.1 hp
 have hn := h.1
 obtain ⟨ad,A0,c0,_,_,_,hC⟩ := zco h (j : Int) qj qj
 have e : zaK ys (j : Int) = ys[j] := by simp [zaK,hj]
 rw [e] at hC
 exact zgv hC
structure ziG (W : World) (b16 b17 b18 : Nat) (i : Nat) (Y : List (List ByteArray)) (A : Option Addr) (c : Nat) (m : List S63) (B : Option Addr) (d : Nat) (p : List ByteArray) (D : Option Addr) (e : Nat) : Prop where
 c16 : W.cell? ⟨b16,i,none⟩ = some (.slice A Y.length c)
 c17 : W.cell? ⟨b17,i,none⟩ = some (.slice B m.length d)
 c18 : W.cell? ⟨b18,i,none⟩ = some (.slice D p.length e)
 ry : (Kd.slice 9 Kd.string).C W A Y.length Y
 hy : Y.length ≤ c
 rm : k63.C W B m.length m
 hm : m.length ≤ d
 rp : Kd.string.C W D p.length p
 hp : p.length ≤ e
 sy : Y.length ≤ 20 ∧ ∀ q ∈ Y,q.length ≤ 20
 sm : m.length ≤ 20
 sp : p.length ≤ 20
theorem ziG.below {W W' : World} {b16 b17 b18 i : Nat} {Y : List (List ByteArray)} {A : Option Addr} {c : Nat} {m : List S63} {B : Option Addr} {d : Nat} {p : List ByteArray} {D : Option Addr} {e : Nat} (h : ziG W b16 b17 b18 i Y A c m B d p D e) (hb : Below W.heap.size W W') : ziG W' b16 b17 b18 i Y A c m B d p D e :=
 ⟨(hb.cell (World.block_lt_of_cell? W _ h.c16)).trans h.c16,(hb.cell (World.block_lt_of_cell? W _ h.c17)).trans h.c17,(hb.cell (World.block_lt_of_cell? W _ h.c18)).trans h.c18,Kd.zY h.ry hb,h.hy,Kd.zY h.rm hb,h.hm,Kd.zY h.rp hb,h.hp,h.sy,h.sm,h.sp⟩
theorem zlq (d : Nat) (w : World) (x0 y0 : Int) (x1 y1 : Int) :
  (Op.equalIn (d + 2) 54 (.agg #[.int .i64 x0, .int .i64 x1]) (.agg #[.int .i64 y0, .int .i64 y1])).run Try.prog w = .ok (x0 == y0 && x1 == y1) w := by
 refine zjh Try.underlying54 qi ?_
 refine zf3 qy qS qS (by go_simp) ?_
 exact zhi qy qS qS (by go_simp)
attribute [local go_sem high] zlq
theorem zgV {P : Program} {o : Oper} {a : Act} {ops : Array Oper} {Kc : Act → World → Prop} {Q : Exit → Act → World → Prop} {W w1 : World} (hw : Region.wanted o (yielded ops a.tmps) = true) (hN : o.dst = none) (hrun : (execOp a.eval o).run P W = .ok .skip w1) (h : Kc a w1) : if Region.wanted o (yielded ops a.tmps) = true then Oper.wp P o a W Kc Q else Kc (a.put o.dst undef) W := by
 rw [if_pos hw]
 unfold Oper.wp
 rw [hrun]
 show Kc (a.put o.dst undef) _
 rw [hN]
 exact h
set_option maxHeartbeats 16000000 in
set_option maxRecDepth 100000 in
theorem zh1 (A0 : Option Addr) (c0 : Nat) (ys : List (List ByteArray)) (A1 : Option Addr) (c1 : Nat) (ms : List S63) (A2 : Option Addr) (c2 : Nat) (pg : List ByteArray) (A3 : Option Addr) (c3 : Nat) (l0 : List Int) (w : World)
  (hr0 : Kd.C (Kd.slice 9 Kd.string) w A0 ys.length ys) (hc0 : ys.length ≤ c0) (hr1 : Kd.C k63 w A1 ms.length ms) (hc1 : ms.length ≤ c1) (hr2 : Kd.C Kd.string w A2 pg.length pg) (hc2 : pg.length ≤ c2)
  (hr3 : Kd.C (Kd.int .i64) w A3 l0.length l0) (hc3 : l0.length ≤ c3) (hl8 : l0.length * 8 ≤ 140737488351232) :
  Calls Try.prog 5 #[.slice A0 ys.length c0, .slice A1 ms.length c1, .slice A2 pg.length c2, .slice A3 l0.length c3] w fun e w' => e = .returned (.bool true) ∧ Below w.heap.size w w' := by
 have hl : l0.length ≤ 17592186044416 := by omega
 obtain ⟨bo,⟨KO,hKO⟩,hbo⟩ := zle ys (zgv hr0) (ziB hr0)
 obtain ⟨bm,⟨KM,hKM⟩,hbm⟩ := zkL ms (zgv hr1)
 obtain ⟨bl,⟨KL,hKL⟩,hbl⟩ := zib pg (zgv hr2)
 obtain ⟨ys0,t1,t2,⟨KY,y1⟩,y2,y3,y4⟩ := zjK l0 hl 0 11400714819323198485 (Int.le_refl _) 3 qt
 obtain ⟨pl,u1,u2,p1,p2,p3,p4⟩ := zgG l0 t1 t2 y4 hl 3 qt 200 qt
 obtain ⟨mq,v1,v2,⟨KQ,m1⟩,m2,m3,m4⟩ := zjX l0 hl u1 u2 p4 pl.length 3 qj qj
 obtain ⟨KA,a1⟩ := zfW pl mq
 have a2 := ziO pl mq
 obtain ⟨⟨ra,re⟩,hap⟩ : ∃ x,zcv pl mq = x := ⟨_,rfl⟩
 rw [hap] at a1 a2
 obtain ⟨tn,x1,x2,o1,o2,o3,o4⟩ := zeC l0 v1 v2 m4 hl 3 qt qt
 have K := za.mk (And.intro (hKO KO (Nat.le_refl _)) (And.intro (hKM KM (Nat.le_refl _)) (And.intro (hKL KL (Nat.le_refl _)) (And.intro (y1 KY (Nat.le_refl _)) (And.intro p1 (And.intro (m1 KQ (Nat.le_refl _)) (And.intro (a1 KA (Nat.le_refl _)) o1)))))))
 have HR := za.mk (And.intro hr0 (And.intro hc0 (And.intro hr1 (And.intro hc1 (And.intro hr2 (And.intro hc2 (And.intro hr3 hc3)))))))
 have S := za.mk (And.intro hbo (And.intro hbm hbl))
 have Z := za.mk (And.intro y2 (And.intro y3 (And.intro p2 (And.intro m2 (And.intro a2 (And.intro o2 (And.intro o3 o4)))))))
 have HL := za.mk hl
 clear hKO hKM hKL y1 p1 m1 a1 o1 hr0 hc0 hr1 hc1 hr2 hc2 hr3 hc3 hbo hbm hbl y2 y3 p2 m2 a2 o2 o3 o4 hap y4 p3 p4 m3 m4 hl hl8
 have HB := za.mk (Below.refl w.heap.size w)
 go_enter Try.func5,Try.ntmps5
 go_upto_region 1 with fail
 go_cut [71] (fun v71 wc => ∃ g : Bool,v71 = .bool g ∧ za (g = false → (ys.length ≤ 20 ∧ ∀ p ∈ ys,p.length ≤ 20) ∧ ms.length ≤ 20 ∧ pg.length ≤ 20) ∧ za (Below w.heap.size w wc))
 case first =>
  as_aux_lemma =>
  go_wp2_with fail
  refine (zaU.calls KO A0 c0 ys bo _ (Kd.zY HR.out.1 HB.out) HR.out.2.1 K.out.1).mono ?_
  rintro e w1 ⟨rfl,hd⟩
  replace HB := za.mk (zq HB.out (zcq hd))
  clear hd
  cases bo with
  | true =>
   have HS : za (true = false → (ys.length ≤ 20 ∧ ∀ p ∈ ys,p.length ≤ 20) ∧ ms.length ≤ 20 ∧ pg.length ≤ 20) := ⟨fun h => by cases h⟩
   go_wp2_with fail
   go_meet
   case rel => exact ⟨true,rfl,HS,HB⟩
  | false =>
  have S1 := za.mk (S.out.1 rfl)
  go_wp2_with fail
  refine (za1.calls KM A1 c1 ms bm w1 (Kd.zY HR.out.2.2.1 HB.out) HR.out.2.2.2.1 K.out.2.1).mono ?_
  rintro e w2 ⟨rfl,hd⟩
  replace HB := za.mk (zq HB.out (zcq hd))
  clear hd
  cases bm with
  | true =>
   have HS : za (true = false → (ys.length ≤ 20 ∧ ∀ p ∈ ys,p.length ≤ 20) ∧ ms.length ≤ 20 ∧ pg.length ≤ 20) := ⟨fun h => by cases h⟩
   go_wp2_with fail
   go_meet
   case rel => exact ⟨true,rfl,HS,HB⟩
  | false =>
  have S2 := za.mk (S.out.2.1 rfl)
  go_wp2_with fail
  refine (zaM.calls KL A2 c2 pg bl w2 (Kd.zY HR.out.2.2.2.2.1 HB.out) HR.out.2.2.2.2.2.1 K.out.2.2.1).mono ?_
  rintro e w3 ⟨rfl,hd⟩
  replace HB := za.mk (zq HB.out (zcq hd))
  clear hd
  cases bl with
  | true =>
   have HS : za (true = false → (ys.length ≤ 20 ∧ ∀ p ∈ ys,p.length ≤ 20) ∧ ms.length ≤ 20 ∧ pg.length ≤ 20) := ⟨fun h => by cases h⟩
   go_wp2_with fail
   go_meet
   case rel => exact ⟨true,rfl,HS,HB⟩
  | false =>
  have HS0 := za.mk (And.intro S1.out (And.intro S2.out (S.out.2.2 rfl)))
  clear S1 S2
  have la : pg.length ≤ 20 := HS0.out.2.2
  have lb : ys.length ≤ 20 := HS0.out.1.1
  clear K S Z
  by_cases g4 : pg.length ≤ 4
  ·skip
   have d0 : decide (4 < (pg.length : Int)) = false := decide_eq_false qj
   have d1 : decide ((pg.length : Int) > 4) = false := decide_eq_false qj
   have d2 : decide (4 < pg.length) = false := decide_eq_false qj
   clear g4
   by_cases hy0 : ys.length = 0
   ·clear la
    have e0 : decide (0 < (ys.length : Int)) = false := decide_eq_false qj
    have e1 : decide ((ys.length : Int) > 0) = false := decide_eq_false qj
    have e2 : decide (0 < ys.length) = false := decide_eq_false qj
    clear hy0 lb
    go_wp2_with fail
    go_meet
    case rel => exact ⟨false,rfl,⟨fun _ => HS0.out⟩,HB⟩
   ·clear la
    have e0 : decide (0 < (ys.length : Int)) = true := decide_eq_true qj
    have e1 : decide ((ys.length : Int) > 0) = true := decide_eq_true qj
    have e2 : decide (0 < ys.length) = true := decide_eq_true qj
    have HRy := Kd.zY HR.out.1 HB.out
    obtain ⟨yl,hyl⟩ : ∃ m : Nat,(ys.length : Int) - 1 = (m : Int) := ⟨ys.length - 1,by omega⟩
    have hw : IntKind.i64.wrap ((ys.length : Int) - 1) = (yl : Int) := by rw [hyl]; exact IntWalk.i64_in _ qj
    obtain ⟨ad,Ap,cp,eA,hx,hlp,_⟩ := zco HRy (yl : Int) qj qj
    subst eA
    rw [Int.toNat_natCast] at hx
    have q1 : ((yl : Int) < (ys.length : Int)) = True := eq_true qj
    have q2 : (yl < ys.length) = True := eq_true qj
    have q3 : decide ((yl : Int) < (ys.length : Int)) = true := decide_eq_true qj
    obtain ⟨lp,hlpe⟩ : ∃ n,(zaK ys (yl : Int)).length = n := ⟨_,rfl⟩
    rw [hlpe] at hx
    clear hyl
    clear hlpe HRy hlp lb hy0
    by_cases k4 : lp ≤ 4
    ·skip
     have f0 : decide (4 < (lp : Int)) = false := decide_eq_false qj
     have f1 : decide ((lp : Int) > 4) = false := decide_eq_false qj
     have f2 : decide (4 < lp) = false := decide_eq_false qj
     clear k4
     go_wp2_with fail
     go_meet
     case rel => exact ⟨false,rfl,⟨fun _ => HS0.out⟩,HB⟩
    ·by_cases k6 : lp ≤ 6
     ·skip
      have f0 : decide (4 < (lp : Int)) = true := decide_eq_true qj
      have f1 : decide ((lp : Int) > 4) = true := decide_eq_true qj
      have f2 : decide (4 < lp) = true := decide_eq_true qj
      have h0 : decide ((lp : Int) ≤ 6) = true := decide_eq_true qj
      have h1 : decide (lp ≤ 6) = true := decide_eq_true qj
      clear k4 k6
      go_wp2_with fail
      go_meet
      case rel => exact ⟨true,rfl,⟨fun h => by cases h⟩,HB⟩
     ·skip
      have f0 : decide (4 < (lp : Int)) = true := decide_eq_true qj
      have f1 : decide ((lp : Int) > 4) = true := decide_eq_true qj
      have f2 : decide (4 < lp) = true := decide_eq_true qj
      have h0 : decide ((lp : Int) ≤ 6) = false := decide_eq_false qj
      have h1 : decide (lp ≤ 6) = false := decide_eq_false qj
      clear k4 k6
      go_wp2_with fail
      go_meet
      case rel => exact ⟨false,rfl,⟨fun _ => HS0.out⟩,HB⟩
  ·by_cases g6 : pg.length ≤ 6
   ·skip
    have d0 : decide (4 < (pg.length : Int)) = true := decide_eq_true qj
    have d1 : decide ((pg.length : Int) > 4) = true := decide_eq_true qj
    have d2 : decide (4 < pg.length) = true := decide_eq_true qj
    have c0 : decide ((pg.length : Int) ≤ 6) = true := decide_eq_true qj
    have c1 : decide (pg.length ≤ 6) = true := decide_eq_true qj
    clear g4 g6 la lb
    go_wp2_with fail
    go_meet
    case rel => exact ⟨true,rfl,⟨fun h => by cases h⟩,HB⟩
   ·skip
    have d0 : decide (4 < (pg.length : Int)) = true := decide_eq_true qj
    have d1 : decide ((pg.length : Int) > 4) = true := decide_eq_true qj
    have d2 : decide (4 < pg.length) = true := decide_eq_true qj
    have c0 : decide ((pg.length : Int) ≤ 6) = false := decide_eq_false qj
    have c1 : decide (pg.length ≤ 6) = false := decide_eq_false qj
    clear g4 g6
    by_cases hy0 : ys.length = 0
    ·clear la
     have e0 : decide (0 < (ys.length : Int)) = false := decide_eq_false qj
     have e1 : decide ((ys.length : Int) > 0) = false := decide_eq_false qj
     have e2 : decide (0 < ys.length) = false := decide_eq_false qj
     clear hy0 lb
     go_wp2_with fail
     go_meet
     case rel => exact ⟨false,rfl,⟨fun _ => HS0.out⟩,HB⟩
    ·clear la
     have e0 : decide (0 < (ys.length : Int)) = true := decide_eq_true qj
     have e1 : decide ((ys.length : Int) > 0) = true := decide_eq_true qj
     have e2 : decide (0 < ys.length) = true := decide_eq_true qj
     have HRy := Kd.zY HR.out.1 HB.out
     obtain ⟨yl,hyl⟩ : ∃ m : Nat,(ys.length : Int) - 1 = (m : Int) := ⟨ys.length - 1,by omega⟩
     have hw : IntKind.i64.wrap ((ys.length : Int) - 1) = (yl : Int) := by rw [hyl]; exact IntWalk.i64_in _ qj
     obtain ⟨ad,Ap,cp,eA,hx,hlp,_⟩ := zco HRy (yl : Int) qj qj
     subst eA
     rw [Int.toNat_natCast] at hx
     have q1 : ((yl : Int) < (ys.length : Int)) = True := eq_true qj
     have q2 : (yl < ys.length) = True := eq_true qj
     have q3 : decide ((yl : Int) < (ys.length : Int)) = true := decide_eq_true qj
     obtain ⟨lp,hlpe⟩ : ∃ n,(zaK ys (yl : Int)).length = n := ⟨_,rfl⟩
     rw [hlpe] at hx
     clear hyl
     clear hlpe HRy hlp lb hy0
     by_cases k4 : lp ≤ 4
     ·skip
      have f0 : decide (4 < (lp : Int)) = false := decide_eq_false qj
      have f1 : decide ((lp : Int) > 4) = false := decide_eq_false qj
      have f2 : decide (4 < lp) = false := decide_eq_false qj
      clear k4
      go_wp2_with fail
      go_meet
      case rel => exact ⟨false,rfl,⟨fun _ => HS0.out⟩,HB⟩
     ·by_cases k6 : lp ≤ 6
      ·skip
       have f0 : decide (4 < (lp : Int)) = true := decide_eq_true qj
       have f1 : decide ((lp : Int) > 4) = true := decide_eq_true qj
       have f2 : decide (4 < lp) = true := decide_eq_true qj
       have h0 : decide ((lp : Int) ≤ 6) = true := decide_eq_true qj
       have h1 : decide (lp ≤ 6) = true := decide_eq_true qj
       clear k4 k6
       go_wp2_with fail
       go_meet
       case rel => exact ⟨true,rfl,⟨fun h => by cases h⟩,HB⟩
      ·skip
       have f0 : decide (4 < (lp : Int)) = true := decide_eq_true qj
       have f1 : decide ((lp : Int) > 4) = true := decide_eq_true qj
       have f2 : decide (4 < lp) = true := decide_eq_true qj
       have h0 : decide ((lp : Int) ≤ 6) = false := decide_eq_false qj
       have h1 : decide (lp ≤ 6) = false := decide_eq_false qj
       clear k4 k6
       go_wp2_with fail
       go_meet
       case rel => exact ⟨false,rfl,⟨fun _ => HS0.out⟩,HB⟩
 case rest =>
 obtain ⟨gd,rfl,HG,HB⟩ := hcut
 clear S
 cases gd with
 | true =>
  go_wp2_with fail
  refine (zeG wc).mono ?_
  rintro e wq ⟨rfl,hb⟩
  replace HB := za.mk (zq HB.out hb)
  clear hb
  go_wp2_with fail
  go_ret
  exact ⟨rfl,HB.out⟩
 | false =>
 have S := za.mk (HG.out rfl)
 clear HG
 go_wp2_with fail
 refine (zc2.calls _ _ l0 l0 0 11400714819323198485 w _ HB.out HR.out.2.2.2.2.2.2.1 HR.out.2.2.2.2.2.2.2 rfl).mono ?_
 rintro e w3 ⟨g,rfl,hI,hB,_⟩
 have HI := za.mk hI
 replace HB := za.mk hB
 have HG3 : za (g < w3.heap.size) := ⟨hI.lt⟩
 clear hI hB
 go_wp2_with fail
 refine (zt.calls KY g l0 0 11400714819323198485 3 ys0 t1 t2 w w3 HI.out HB.out K.out.2.2.2.1).mono ?_
 rintro e w4 ⟨vy,rfl,hS,hI,hB,hk⟩
 have SY : za (Kd.S (Kd.slice 9 Kd.string) 22 w4 w3.heap.size (fun k => w3.heap.size ≤ k ∧ k < w4.heap.size) vy ys0) := ⟨Kd.zbO (Kd.zeT hS) (fun k hk => ⟨hk.2.1,hk.2.2.1⟩)⟩
 have HL34 : za (w3.heap.size ≤ w4.heap.size) := ⟨hk.1⟩
 obtain ⟨Ay,cy,ey⟩ := Kd.zkr hS
 subst ey
 replace HI := za.mk hI
 replace HB := za.mk hB
 clear hS hI hB hk
 go_wp2_with fail
 refine (zX.calls 200 g l0 t1 t2 3 pl u1 u2 w w4 HI.out HB.out K.out.2.2.2.2.1).mono ?_
 rintro e w5 ⟨vp,rfl,hR,hI,hB,hk⟩
 replace SY := za.mk (Kd.zdC SY.out hk (fun k hk' => by have := HG3.out; omega))
 have RP := za.mk (Kd.zaT hR HL34.out)
 have RPb := za.mk (Kd.zcU hR)
 have HL45 : za (w4.heap.size ≤ w5.heap.size) := ⟨hk.1⟩
 obtain ⟨Av,cv,ev⟩ := Kd.zbr hR
 subst ev
 replace HI := za.mk hI
 replace HB := za.mk hB
 clear hR hI hB hk
 have HSB : za (∀ k,(Value.slice Ay ys0.length cy).ownBlock = some k → k < w4.heap.size) := ⟨fun k hk => ((Kd.S_R SY.out).1 k hk).2⟩
 obtain ⟨Y,hY⟩ : ∃ Y,ys0 ++ [pl] = Y := ⟨_,rfl⟩
 go_upto_region 5 with ((with_reducible refine zbf (b := .append) (xs := #[.tmp 76, .tmp 79]) rfl ?_); at_builtin; go_loud (refine Kd.zf6 (Kd.slice 9 Kd.string) (w0 := w5) w3.heap.size rfl (.tmp 76) (.tmp 79) 29 22 (.slice none 0 0) 24 rfl Try.underlying29 zhn rfl qt qj (.slice Ay ys0.length cy) ys0 pl [.slice Av pl.length cv] (fun _ => True) (fun k_ => some k_ = (.slice Av pl.length cv : Value).ownBlock) rfl rfl ?aP ?aQ (fun _ _ => trivial) ?aO (Below.refl _ _) ?aS ?aL ?_; (case aP => exact Kd.ziv (Kd.zaA (Kd.zfD rfl RP.out) (fun _ h_ => h_))); (case aQ => exact fun k_ hk_ => ⟨trivial,fun e_ => by have h1 := RPb.out k_ hk_.symm; have h2 := HSB.out k_ e_.symm; omega⟩); (case aO => exact Kd.zbO SY.out (fun k_ hk_ => ⟨trivial,fun e_ => by have h1 := RPb.out k_ e_.symm; omega⟩)); (case aS => exact Nat.le_trans HL34.out HL45.out); (case aL => have := Z.out.1; omega)); intro v10 w6 ho hb hg hat; rw [hY] at ho; obtain ⟨AY,cY,rfl,hcY,hFY⟩ := zhD (Kd.S_R ho) HG3.out)
 replace HI := za.mk (HI.out.grown hg (HI.out.zir SY.out qt))
 replace HB := za.mk (zbU HB.out (Nat.le_trans (Nat.le_of_lt_succ (Nat.lt_succ_of_le HI.out.ge)) (Nat.le_of_lt HG3.out)) hb)
 have FY := za.mk hFY
 have CY := za.mk hcY
 have HL6 : za (w3.heap.size ≤ w6.heap.size) := ⟨Nat.le_trans (Nat.le_trans HL34.out HL45.out) hb.size⟩
 have NY : za (1 ≤ Y.length ∧ Y.length ≤ 4 ∧ (∀ q ∈ Y,q.length ≤ 6) ∧ zaK Y ((Y.length - 1 : Nat) : Int) = pl) := ⟨by
  subst hY
  refine ⟨by simp,by have := Z.out.1; simp; omega,fun q hq => ?_,by simp [zaK]⟩
  rcases List.mem_append.1 hq with h | h
  ·exact (Z.out.2.1 q h).1
  ·rw [List.mem_singleton.1 h]; have := Z.out.2.2.1; omega⟩
 clear ho hb hg hat hFY hcY hY SY RP RPb HSB HL34 HL45
 obtain ⟨la,hla⟩ : ∃ n : Nat,Y.length - 1 = n := ⟨_,rfl⟩
 have hla2 : (Y.length : Int) - 1 = (la : Int) := by have := NY.out.1; omega
 have hw : IntKind.i64.wrap ((Y.length : Int) - 1) = (la : Int) := by have := NY.out.2.1; rw [hla2]; exact IntWalk.i64_in _ qj
 have q1 : ((la : Int) < (Y.length : Int)) = True := eq_true (by have := NY.out.1; omega)
 have q2 : (la < Y.length) = True := eq_true (by have := NY.out.1; omega)
 have q3 : decide ((la : Int) < (Y.length : Int)) = true := decide_eq_true (by have := NY.out.1; omega)
 have LA : za (zaK Y (la : Int) = pl ∧ la < Y.length) := ⟨⟨by rw [← hla]; exact NY.out.2.2.2,by have := NY.out.1; omega⟩⟩
 clear hla hla2
 obtain ⟨ad,A6,c6,eA,hx,hl6,_⟩ := zco (ze1 FY.out) (la : Int) qj (by have := LA.out.2; omega)
 subst eA
 rw [Int.toNat_natCast,LA.out.1] at hx
 clear hl6
 go_wp2_with fail
 refine (zA.calls KQ g l0 u1 u2 pl.length 3 mq v1 v2 w w6 HI.out HB.out K.out.2.2.2.2.2.1).mono ?_
 rintro e w7 ⟨v,rfl,hR,hI,hB,hk⟩
 obtain ⟨Aq,cq,rfl,hc,hF⟩ := zhD hR (Nat.lt_of_lt_of_le HG3.out HL6.out)
 replace FY := za.mk (zfq FY.out hk)
 have Fq := za.mk hF
 have Cq := za.mk hc
 replace HI := za.mk hI
 replace HB := za.mk hB
 clear hF hc hI hB hk hR hx
 obtain ⟨ad',A7,c7,eA,hx,hl7,hC7⟩ := zco (ze1 FY.out) (la : Int) qj (by have := LA.out.2; omega)
 injection eA with eA
 subst eA
 rw [Int.toNat_natCast,LA.out.1] at hx
 rw [LA.out.1] at hC7 hl7
 have H7 := za.mk (And.intro hC7 hl7)
 clear hC7 hl7
 go_wp2_with fail
 refine (zbL.calls KA A7 c7 pl Aq cq mq ra re w7 H7.out.1 H7.out.2 (ze1 Fq.out) Cq.out K.out.2.2.2.2.2.2.1).mono ?_
 rintro e w8 ⟨v,rfl,hR,hb⟩
 obtain ⟨Ar,cr,rfl,hc,hF⟩ := zhD hR HI.out.lt
 have Fr := za.mk hF
 have Cr := za.mk hc
 replace FY := za.mk (zfq FY.out (zdo hb g))
 replace Fq := za.mk (zfq Fq.out (zdo hb g))
 replace HI := za.mk (HI.out.below hb)
 replace HB := za.mk (zq HB.out hb)
 clear hR hb hc hF hx H7 q1 q2 q3 hw LA
 go_wp2_with fail
 refine (zaD.calls Ar cr ra ra w8 (ze1 Fr.out) Cr.out (zd8 ra (by have := Z.out.2.2.2.2.1; omega))).mono ?_
 rintro e w9 ⟨vn,rfl,hR,hb⟩
 have RN : za (Kd.string.R 9 w9 w8.heap.size (fun k => w8.heap.size ≤ k) vn ra) := ⟨Kd.zaA (Kd.zbv hR) (fun k hk => hk.2.1)⟩
 obtain ⟨An,cn,ev⟩ := Kd.zbr hR
 subst ev
 have HK := za.mk (zdo hb g)
 have HG8 : za (g < w8.heap.size) := ⟨HI.out.lt⟩
 replace HI := za.mk (HI.out.below hb)
 replace HB := za.mk (zq HB.out hb)
 clear hR hb
 go_wp2_with fail
 refine (zak.calls g l0 v1 v2 3 tn x1 x2 w w9 HI.out HB.out K.out.2.2.2.2.2.2.2).mono ?_
 rintro e w10 ⟨rfl,hI,hB,hk⟩
 replace RN := za.mk (Kd.zcf RN.out hk (fun k hk' => by have := HG8.out; omega))
 replace HK := za.mk (HK.out.trans hk (.inl rfl))
 replace HI := za.mk hI
 replace HB := za.mk hB
 clear hI hB hk K
 go_upto_block 0 with fail
 go_cut [15] (fun v15 W => ∃ (nr : List ByteArray) (Az : Option Addr) (cz : Nat),v15 = .slice Az nr.length cz ∧ za (nr.length ≤ cz ∧ nr.length ≤ 20 ∧ Kd.string.C W Az nr.length nr) ∧ za (zu w8 W g none) ∧ za (Below w.heap.size w W))
 case first =>
  as_aux_lemma =>
  have htn : tn = 0 ∨ tn = 1 ∨ tn = 2 ∨ tn = 3 := by have h1 := Z.out.2.2.2.2.2.1; have h2 := Z.out.2.2.2.2.2.2.1; omega
  have HX1 := za.mk Z.out.2.2.2.2.2.2.2
  have HRA := za.mk Z.out.2.2.2.2.1
  have HRF := za.mk (And.intro HRA.out (Kd.zb2 RN.out))
  rcases htn with rfl | rfl | rfl | rfl
  ·as_aux_lemma =>
   by_cases hn : ra.length = 0
   ·have e1 : decide (0 < (ra.length : Int)) = false := decide_eq_false qj
    have e2 : decide ((ra.length : Int) > 0) = false := decide_eq_false qj
    have e3 : decide (0 < ra.length) = false := decide_eq_false qj
    clear hn
    go_wp2_with fail
    go_meet
    case rel => exact ⟨ra,An,cn,rfl,⟨⟨HRF.out.2.2.1,by have := HRF.out.1; omega,HRF.out.2.2.2⟩⟩,HK,HB⟩
   ·have e1 : decide (0 < (ra.length : Int)) = true := decide_eq_true qj
    have e2 : decide ((ra.length : Int) > 0) = true := decide_eq_true qj
    have e3 : decide (0 < ra.length) = true := decide_eq_true qj
    have hn1 : (1 : Int) ≤ (ra.length : Int) := by omega
    clear hn
    obtain ⟨i_,hi_,_,hsz_,_⟩ := info_parts zdb
    have hcut := zhl (P := Try.prog) 22 9 .i64 Try.underlying22 hi_ 1 hsz_ An ra.length cn 1 qj hn1
    have hr := Kd.zjj (m := (1 : Int).toNat) HRF.out.2.2.2 qj HRF.out.2.2.1
    obtain ⟨A5,hA5⟩ : ∃ A1,A1 = (if cn = (1 : Int).toNat then An else (An : Option Addr).map (·.add ((1 : Int).toNat * 1))) := ⟨_,rfl⟩
    obtain ⟨c5,hc5⟩ : ∃ c1,c1 = cn - (1 : Int).toNat := ⟨_,rfl⟩
    rw [← hA5, ← hc5] at hcut
    have hr2 : Kd.string.C w10 A5 (ra.drop (1 : Int).toNat).length (ra.drop (1 : Int).toNat) := by rw [hA5]; exact hr
    obtain ⟨nr,hnr⟩ : ∃ x,ra.drop (1 : Int).toNat = x := ⟨_,rfl⟩
    have hnl : nr.length = ra.length - (1 : Int).toNat := by rw [← hnr,List.length_drop]
    have hln : nr.length ≤ c5 := by have := HRF.out.2.2.1; omega
    rw [hnr] at hr2
    rw [← hnl] at hcut
    have HN := za.mk (And.intro hln (And.intro (show nr.length ≤ 20 by have := HRF.out.1; omega) hr2))
    clear hr hr2 hA5 hc5 hnr hnl hln hn1
    go_wp2_with fail
    go_meet
    case rel => exact ⟨nr,A5,c5,rfl,HN,HK,HB⟩
  ·as_aux_lemma =>
   go_upto_region 14 with fail
   obtain ⟨lx,lt1,lt2,lo1,lo2,lo3⟩ := zdO l0 x1 x2 HX1.out HL.out
   have LO := za.mk lo1
   clear lo1 lo2 lo3
   have HT : True := trivial
   have hcap : ra.length ≤ cn := HRF.out.2.2.1
   have hcap1 : (ra.length : Int) ≤ (cn : Int) := by omega
   refine zaF (fun _ => True) [] qi ?_
   refine tk 0 ?_
   (try simp only [pu0,pu1,pu2,pu3,pu4])
   refine tk 1 ?_
   (try simp only [pu0,pu1,pu2,pu3,pu4])
   refine tk 2 ?_
   (try simp only [pu0,pu1,pu2,pu3,pu4])
   refine tk 3 ?_
   (try simp only [pu0,pu1,pu2,pu3,pu4])
   refine tk 4 ?_
   (try simp only [pu0,pu1,pu2,pu3,pu4])
   refine tk 5 ?_
   (try simp only [pu0,pu1,pu2,pu3,pu4])
   refine tk 6 ?_
   (try simp only [pu0,pu1,pu2,pu3,pu4])
   refine on1 7 fun K hK => ?_
   refine zbt Try.func35 qi rfl #[.pointer (some ⟨g,0,none⟩)] qy rfl rfl qr ?_
   refine (zat.calls g l0 x1 x2 lx lt1 lt2 w w10.drew (HI.out.drew) (zc5 HB.out) LO.out).mono ?_
   rintro e w11 ⟨rfl,hI,hB,hk⟩
   refine ⟨_,rfl,?_⟩
   have hk' : zu w10 w11 g none := hk
   replace HK := za.mk (HK.out.trans hk' (.inl rfl))
   replace HI := za.mk hI
   replace HB := za.mk hB
   have RN11 := za.mk (Kd.zcf RN.out hk' (fun k hk'' => by have := HG8.out; omega))
   have CN11 := za.mk (Kd.zb2 RN11.out).2.2
   clear hI hB hk hk'
   refine hK.out _ _ (fun _ => trivial) ?_
   clear hK K
   (try simp only [pu0,pu1,pu2,pu3,pu4])
   refine on1 8 fun K hK => ?_
   refine zdE qy (v := .slice (some ⟨w11.heap.size,0,none⟩) 1 1) (w1 := w11.alloc (.cells #[.string lx] 9)) ?hr ?_
   case hr => first | (go_simp; done) | (go_simp; rfl)
   refine hK.out _ _ (fun _ => trivial) ?_
   clear hK K
   (try simp only [pu0,pu1,pu2,pu3,pu4])
   refine on1 9 fun K hK => ?_
   refine zf7 Kd.string (W := w11) qy (.tmp 118) (.tmp 121) 22 9 (.string ByteArray.empty) 16 qy Try.underlying22 zdb rfl qt qt An ra lx [.string lx] qy qy CN11.out (ziL CN11.out) rfl (fun _ _ _ _ _ _ h => h) (by have := HRA.out; omega) ?_
   intro v1 w12 hR hb
   obtain ⟨Az,cz,rfl,hcz,hCz⟩ := Kd.zav hR
   have HN := za.mk (And.intro hcz (And.intro (show (ra ++ [lx]).length ≤ 20 by have := HRA.out; rw [List.length_append,List.length_singleton]; omega) hCz))
   replace HK := za.mk (HK.out.trans (zdo hb g) (.inl rfl))
   replace HB := za.mk (zq HB.out hb)
   clear hR hb hcz hCz RN11 CN11
   obtain ⟨nr,hnr⟩ : ∃ x,ra ++ [lx] = x := ⟨_,rfl⟩
   rw [hnr] at HN ⊢
   clear hnr
   refine hK.out _ _ (fun _ => trivial) ?_
   clear hK K
   (try simp only [pu0,pu1,pu2,pu3,pu4])
   refine tk 10 ?_
   (try simp only [pu0,pu1,pu2,pu3,pu4])
   refine zar qi ?_ _
   clear HT hcap hcap1
   go_wp2_with fail
   go_meet
   case rel => exact ⟨nr,Az,cz,rfl,HN,HK,HB⟩
  ·as_aux_lemma =>
   by_cases hn : ra.length = 0
   ·have e1 : decide (0 < (ra.length : Int)) = false := decide_eq_false qj
    have e2 : decide ((ra.length : Int) > 0) = false := decide_eq_false qj
    have e3 : decide (0 < ra.length) = false := decide_eq_false qj
    clear hn
    go_wp2_with fail
    go_meet
    case rel => exact ⟨ra,An,cn,rfl,⟨⟨HRF.out.2.2.1,by have := HRF.out.1; omega,HRF.out.2.2.2⟩⟩,HK,HB⟩
   ·have e1 : decide (0 < (ra.length : Int)) = true := decide_eq_true qj
    have e2 : decide ((ra.length : Int) > 0) = true := decide_eq_true qj
    have e3 : decide (0 < ra.length) = true := decide_eq_true qj
    obtain ⟨rl,hrl⟩ : ∃ n : Nat,(ra.length : Int) - 1 = (n : Int) := ⟨ra.length - 1,by omega⟩
    have hw : IntKind.i64.wrap ((ra.length : Int) - 1) = (rl : Int) := by rw [hrl]; exact IntWalk.i64_in _ (by have := HRA.out; omega)
    obtain ⟨mn,z1,z2,n1,n2,n3,n4⟩ := zeC l0 x1 x2 HX1.out HL.out (rl : Int) qj (by have := HRA.out; omega)
    obtain ⟨mm,rfl⟩ := Int.eq_ofNat_of_zero_le n2
    obtain ⟨lx,lt1,lt2,lo1,lo2,lo3⟩ := zdO l0 z1 z2 n4 HL.out
    have LO := za.mk (And.intro n1 (And.intro lo1 (show mm < ra.length by omega)))
    clear hn hrl n1 n2 n3 n4 lo1 lo2 lo3
    go_wp2_with fail
    refine (zak.calls g l0 x1 x2 (rl : Int) (mm : Int) z1 z2 w w10 HI.out HB.out LO.out.1).mono ?_
    rintro e w11 ⟨rfl,hI,hB,hk⟩
    replace RN := za.mk (Kd.zcf RN.out hk (fun k hk' => by have := HG8.out; omega))
    replace HK := za.mk (HK.out.trans hk (.inl rfl))
    replace HI := za.mk hI
    replace HB := za.mk hB
    clear hI hB hk
    go_wp2_with fail
    refine (zat.calls g l0 z1 z2 lx lt1 lt2 w w11 HI.out HB.out LO.out.2.1).mono ?_
    rintro e w12 ⟨rfl,hI,hB,hk⟩
    replace RN := za.mk (Kd.zcf RN.out hk (fun k hk' => by have := HG8.out; omega))
    replace HK := za.mk (HK.out.trans hk (.inl rfl))
    replace HI := za.mk hI
    replace HB := za.mk hB
    clear hI hB hk
    obtain ⟨go_,co_,eo_,gb_,gl_,cl_,HGo⟩ := Kd.zjm RN.out (by have := LO.out.2.2; omega)
    injection eo_ with ea_ en_ ec_
    subst ea_
    subst ec_
    have GB := za.mk gb_
    clear gb_ gl_ en_ HGo
    obtain ⟨hx,hf⟩ := Kd.zgK (⟨#[]⟩ : ByteArray) RN.out (mm : Int) qj (by have := LO.out.2.2; omega)
    have HP := za.mk (Kd.zi7 RN.out (mm : Int) lx)
    have q1 : ((mm : Int) < (ra.length : Int)) = True := eq_true (by have := LO.out.2.2; omega)
    have q2 : (mm < ra.length) = True := eq_true LO.out.2.2
    have q3 : decide ((mm : Int) < (ra.length : Int)) = true := decide_eq_true (by have := LO.out.2.2; omega)
    rw [Int.toNat_natCast] at hx hf HP
    go_wp2_with fail
    have hR : Kd.string.R 9 (w12.setCell ⟨go_,mm,none⟩ (.string lx)) w8.heap.size (fun k => w8.heap.size ≤ k) (.slice (some ⟨go_,0,none⟩) ra.length cn) (ra.set mm lx) := HP.out.1
    have hRR := Kd.zb2 hR
    have HN := za.mk (And.intro (show (ra.set mm lx).length ≤ cn by rw [← hRR.1]; exact hRR.2.1) (And.intro (show (ra.set mm lx).length ≤ 20 by rw [← hRR.1]; have := HRA.out; omega) hRR.2.2))
    have HK2 := za.mk (zjW HK.out (p := ⟨go_,mm,none⟩) GB.out (.string lx))
    have HB2 := za.mk (zi (j := mm) (v := .string lx) HB.out (show w.heap.size ≤ go_ by have h1 := HI.out.ge; have h2 := HG8.out; have h3 := GB.out; omega))
    have hlen := hRR.1
    clear hR hRR hx hf
    go_meet
    case rel => exact ⟨ra.set mm lx,some ⟨go_,0,none⟩,cn,by rw [← hlen],HN,HK2,HB2⟩
  ·as_aux_lemma =>
   go_wp2_with fail
   go_meet
   case rel => exact ⟨ra,An,cn,rfl,⟨⟨HRF.out.2.2.1,by have := HRF.out.1; omega,HRF.out.2.2.2⟩⟩,HK,HB⟩
 case rest =>
 obtain ⟨nr,Az,cz,rfl,HN,HK,HB⟩ := hcut
 have RY := za.mk (FY.out _ HK.out)
 have Rq := za.mk (Fq.out _ HK.out)
 have Rr := za.mk (Fr.out _ HK.out)
 clear FY Fq Fr HK HG3 HL6 HI HG8 HL
 go_upto_region 19 with fail
 have s1 : (wc.alloc (Obj.cells #[.slice A0 ys.length c0, .slice (some ad) Y.length cY, .slice (some ad) Y.length cY, .slice (some ad) Y.length cY] 29)).heap.size = wc.heap.size + 1 := by simp
 have s2 : ((wc.alloc (Obj.cells #[.slice A0 ys.length c0, .slice (some ad) Y.length cY, .slice (some ad) Y.length cY, .slice (some ad) Y.length cY] 29)).alloc (Obj.cells #[.slice A1 ms.length c1, .slice Aq mq.length cq, .slice Aq mq.length cq, .slice A1 ms.length c1] 31)).heap.size = wc.heap.size + 1 + 1 := by simp
 have x16 := heap_alloc_new wc (Obj.cells #[.slice A0 ys.length c0, .slice (some ad) Y.length cY, .slice (some ad) Y.length cY, .slice (some ad) Y.length cY] 29)
 have x17 := heap_alloc_new (wc.alloc (Obj.cells #[.slice A0 ys.length c0, .slice (some ad) Y.length cY, .slice (some ad) Y.length cY, .slice (some ad) Y.length cY] 29)) (Obj.cells #[.slice A1 ms.length c1, .slice Aq mq.length cq, .slice Aq mq.length cq, .slice A1 ms.length c1] 31)
 have x18 := heap_alloc_new ((wc.alloc (Obj.cells #[.slice A0 ys.length c0, .slice (some ad) Y.length cY, .slice (some ad) Y.length cY, .slice (some ad) Y.length cY] 29)).alloc (Obj.cells #[.slice A1 ms.length c1, .slice Aq mq.length cq, .slice Aq mq.length cq, .slice A1 ms.length c1] 31)) (Obj.cells #[.slice A2 pg.length c2, .slice Az nr.length cz, .slice Ar ra.length cr, .slice Az nr.length cz] 22)
 have b1 := ze (Below.refl wc.heap.size wc) (Obj.cells #[.slice A0 ys.length c0, .slice (some ad) Y.length cY, .slice (some ad) Y.length cY, .slice (some ad) Y.length cY] 29)
 have b2 := ze (Below.refl (wc.alloc (Obj.cells #[.slice A0 ys.length c0, .slice (some ad) Y.length cY, .slice (some ad) Y.length cY, .slice (some ad) Y.length cY] 29)).heap.size (wc.alloc (Obj.cells #[.slice A0 ys.length c0, .slice (some ad) Y.length cY, .slice (some ad) Y.length cY, .slice (some ad) Y.length cY] 29))) (Obj.cells #[.slice A1 ms.length c1, .slice Aq mq.length cq, .slice Aq mq.length cq, .slice A1 ms.length c1] 31)
 have b3 := ze (Below.refl ((wc.alloc (Obj.cells #[.slice A0 ys.length c0, .slice (some ad) Y.length cY, .slice (some ad) Y.length cY, .slice (some ad) Y.length cY] 29)).alloc (Obj.cells #[.slice A1 ms.length c1, .slice Aq mq.length cq, .slice Aq mq.length cq, .slice A1 ms.length c1] 31)).heap.size ((wc.alloc (Obj.cells #[.slice A0 ys.length c0, .slice (some ad) Y.length cY, .slice (some ad) Y.length cY, .slice (some ad) Y.length cY] 29)).alloc (Obj.cells #[.slice A1 ms.length c1, .slice Aq mq.length cq, .slice Aq mq.length cq, .slice A1 ms.length c1] 31))) (Obj.cells #[.slice A2 pg.length c2, .slice Az nr.length cz, .slice Ar ra.length cr, .slice Az nr.length cz] 22)
 have X16 := za.mk (zD (zD x16 b2) b3)
 have X17 := za.mk (zD x17 b3)
 have X18 := za.mk x18
 have HB2 := za.mk (zq (zq b1 b2) b3)
 rw [s1] at X17
 rw [s2] at X18
 clear s1 s2 x16 x17 x18 b1 b2 b3
 obtain ⟨wL,hwL⟩ : ∃ u_,((wc.alloc (Obj.cells #[.slice A0 ys.length c0, .slice (some ad) Y.length cY, .slice (some ad) Y.length cY, .slice (some ad) Y.length cY] 29)).alloc (Obj.cells #[.slice A1 ms.length c1, .slice Aq mq.length cq, .slice Aq mq.length cq, .slice A1 ms.length c1] 31)).alloc (Obj.cells #[.slice A2 pg.length c2, .slice Az nr.length cz, .slice Ar ra.length cr, .slice Az nr.length cz] 22) = u_ := ⟨_,rfl⟩
 rw [hwL] at X16 X17 X18 HB2 ⊢
 clear hwL
 obtain ⟨b16,hb16⟩ : ∃ b,wc.heap.size = b := ⟨_,rfl⟩
 rw [hb16] at X16 X17 X18 ⊢
 obtain ⟨b17,hb17⟩ : ∃ b,b16 + 1 = b := ⟨_,rfl⟩
 rw [hb17] at X17 X18 ⊢
 obtain ⟨b18,hb18⟩ : ∃ b,b17 + 1 = b := ⟨_,rfl⟩
 rw [hb18] at X18 ⊢
 clear hb17 hb18 hb16
 have HC := HB
 replace HB := za.mk (zq HB.out HB2.out)
 have HE : za (∀ i : Nat,i < 4 → ∃ Y A c m B d p D e,ziG wL b16 b17 b18 i Y A c m B d p D e) := ⟨fun i hi => by
  have z16 := fun k => zh X16.out k
  have z17 := fun k => zh X17.out k
  have z18 := fun k => zh X18.out k
  have sY : Y.length ≤ 20 ∧ ∀ q ∈ Y,q.length ≤ 20 := ⟨by have := NY.out.2.1; omega,fun q hq => by have := NY.out.2.2.1 q hq; omega⟩
  have RY' := Kd.zY RY.out HB2.out
  have Rq' := Kd.zY Rq.out HB2.out
  have Rr' := Kd.zY Rr.out HB2.out
  have RN' := Kd.zY HN.out.2.2 HB2.out
  have sq : mq.length ≤ 20 := by have := Z.out.2.2.2.1; omega
  have sr : ra.length ≤ 20 := by have := Z.out.2.2.2.2.1; omega
  match i,hi with
  | 0,_ => exact ⟨ys,A0,c0,ms,A1,c1,pg,A2,c2,⟨z16 0,z17 0,z18 0,Kd.zY HR.out.1 HB.out,HR.out.2.1,Kd.zY HR.out.2.2.1 HB.out,HR.out.2.2.2.1,Kd.zY HR.out.2.2.2.2.1 HB.out,HR.out.2.2.2.2.2.1,S.out.1,S.out.2.1,S.out.2.2⟩⟩
  | 1,_ => exact ⟨Y,some ad,cY,mq,Aq,cq,nr,Az,cz,⟨z16 1,z17 1,z18 1,RY',CY.out,Rq',Cq.out,RN',HN.out.1,sY,sq,HN.out.2.1⟩⟩
  | 2,_ => exact ⟨Y,some ad,cY,mq,Aq,cq,ra,Ar,cr,⟨z16 2,z17 2,z18 2,RY',CY.out,Rq',Cq.out,Rr',Cr.out,sY,sq,sr⟩⟩
  | 3,_ => exact ⟨Y,some ad,cY,ms,A1,c1,nr,Az,cz,⟨z16 3,z17 3,z18 3,RY',CY.out,Kd.zY HR.out.2.2.1 HB.out,HR.out.2.2.2.1,RN',HN.out.1,sY,S.out.2.1,HN.out.2.1⟩⟩⟩
 clear X16 X17 X18 RY Rq Rr HN NY CY Cq Cr Z S HC HB2
 go_wp2_with fail
 go_loopw [19] (fun v19 W => ∃ i : Nat,i ≤ 4 ∧ v19 = .int .i64 i ∧ za (Below wL.heap.size wL W)) (fun v19 _ => 4 - (intOf v19).toNat)
 case atStart => exact ⟨0,by omega,rfl,⟨Below.refl _ _⟩⟩
 case round =>
  obtain ⟨i,hi4,rfl,HBr⟩ := hrel
  by_cases hlt : i < 4
  ·have e1 : decide ((i : Int) < 4) = true := decide_eq_true qj
   have e2 : decide (i < 4) = true := decide_eq_true hlt
   have e3 : ((i : Int) < 4) = True := eq_true qj
   obtain ⟨Yi,A,c,m,B,d,p,D,e,hq⟩ := HE.out i hlt
   have HPr := za.mk (hq.below HBr.out)
   clear hq
   go_upto_region 22 with fail
   go_cut [20,21,22] (fun v20 v21 v22 W => ∃ (Ao : Option Addr) (co : Nat) (Bo : Option Addr) (eo : Nat) (Do : Option Addr) (fo : Nat),v20 = .slice Ao Yi.length co ∧ v21 = .slice Bo m.length eo ∧ v22 = .slice Do p.length fo ∧ za (Below wr.heap.size wr W) ∧ za ((Kd.slice 9 Kd.string).C W Ao Yi.length Yi ∧ Yi.length ≤ co) ∧ za (k63.C W Bo m.length m ∧ m.length ≤ eo) ∧ za (Kd.string.C W Do p.length p ∧ p.length ≤ fo))
   case first =>
    as_aux_lemma =>
    obtain ⟨KD,hKD⟩ := zh0 Yi (by have := HPr.out.sy.1; omega) (fun q hq => by have := HPr.out.sy.2 q hq; omega)
    have KY := za.mk (hKD KD (Nat.le_refl _))
    clear hKD
    have HPr0 := HPr
    refine zaF (fun W' => W'.cell? ⟨b16,i,none⟩ = some (.slice A Yi.length c) ∧ W'.cell? ⟨b17,i,none⟩ = some (.slice B m.length d) ∧ W'.cell? ⟨b18,i,none⟩ = some (.slice D p.length e)) [] qi ?_
    have HW := za.mk (zf (Below.refl wr.heap.size wr))
    replace HPr := za.mk (HPr.out.below HW.out)
    obtain ⟨wd,hwd⟩ : ∃ W,wr.drew = W := ⟨_,rfl⟩
    rw [hwd] at HW HPr ⊢
    clear hwd
    have HS : wd.cell? ⟨b16,i,none⟩ = some (.slice A Yi.length c) ∧ wd.cell? ⟨b17,i,none⟩ = some (.slice B m.length d) ∧ wd.cell? ⟨b18,i,none⟩ = some (.slice D p.length e) := ⟨HPr.out.c16,HPr.out.c17,HPr.out.c18⟩
    refine tk 0 ?_
    (try simp only [pu0,pu1,pu2,pu3,pu4])
    refine tk 1 ?_
    (try simp only [pu0,pu1,pu2,pu3,pu4])
    refine tk 2 ?_
    (try simp only [pu0,pu1,pu2,pu3,pu4])
    refine tk 3 ?_
    (try simp only [pu0,pu1,pu2,pu3,pu4])
    refine tk 6 ?_
    (try simp only [pu0,pu1,pu2,pu3,pu4])
    refine tk 7 ?_
    (try simp only [pu0,pu1,pu2,pu3,pu4])
    refine tk 8 ?_
    (try simp only [pu0,pu1,pu2,pu3,pu4])
    refine tk 9 ?_
    (try simp only [pu0,pu1,pu2,pu3,pu4])
    refine tk 11 ?_
    (try simp only [pu0,pu1,pu2,pu3,pu4])
    refine tk 12 ?_
    (try simp only [pu0,pu1,pu2,pu3,pu4])
    refine tk 13 ?_
    (try simp only [pu0,pu1,pu2,pu3,pu4])
    refine tk 14 ?_
    (try simp only [pu0,pu1,pu2,pu3,pu4])
    refine on2 4 5 (fun K hK => ?_) (fun K hK => ?_)
    ·skip
     as_aux_lemma =>
     clear HS
     refine zbt Try.func36 qi rfl #[.slice A Yi.length c] qy rfl rfl qr ?_
     refine (zaJ.calls KD A c Yi Yi wd HPr.out.ry HPr.out.hy KY.out).mono ?_
     rintro e_ wa ⟨v20,rfl,hRa,hba⟩
     refine ⟨_,rfl,?_⟩
     have SY := za.mk (Kd.zih (Kd.zbO (Kd.zeT hRa) (ok' := fun k => wd.heap.size ≤ k ∧ k < wa.heap.size) (fun k hk => ⟨hk.2.1,hk.2.2.1⟩)) HW.out.size)
     replace HW := za.mk (zq HW.out hba)
     replace HPr := za.mk (HPr.out.below hba)
     have HS : wa.cell? ⟨b16,i,none⟩ = some (.slice A Yi.length c) ∧ wa.cell? ⟨b17,i,none⟩ = some (.slice B m.length d) ∧ wa.cell? ⟨b18,i,none⟩ = some (.slice D p.length e) := ⟨HPr.out.c16,HPr.out.c17,HPr.out.c18⟩
     clear hRa hba
     refine hK.out _ _ (fun _ => HS) ?_
     clear hK K
     (try simp only [pu0,pu1,pu2,pu3,pu4])
     refine on1 5 fun K hK => ?_
     clear HS
     refine Kd.zbN k63 (w0 := wa) _ 63 ?hg (N := 163) ?hd (xs := ([] : List S63)) (inner := []) (ok := fun _ => True) (okp := fun _ => True) ?hr ?hp (fun _ hk => hk) trivial (Below.refl _ _) (Nat.le_refl _) qz ?_
     case hd => rfl
     case hg => rfl
     case hr => first | (go_simp; done) | (go_simp; rfl)
     case hp => exact (zan.none _ _)
     intro v55 wl hRl hbl hgl hnl
     have R55 := za.mk (Kd.zaT hRl HW.out.size)
     have R55b := za.mk (Kd.zcU hRl)
     have R55l := za.mk (Kd.zjN hRl)
     replace HW := za.mk (zq HW.out hbl)
     replace HPr := za.mk (HPr.out.below hbl)
     have HS : wl.cell? ⟨b16,i,none⟩ = some (.slice A Yi.length c) ∧ wl.cell? ⟨b17,i,none⟩ = some (.slice B m.length d) ∧ wl.cell? ⟨b18,i,none⟩ = some (.slice D p.length e) := ⟨HPr.out.c16,HPr.out.c17,HPr.out.c18⟩
     replace SY := za.mk (Kd.zbO (ok' := fun k => some k ≠ v55.ownBlock) (Kd.zfE SY.out hbl) (fun k hk e_ => by have := R55b.out k e_.symm; omega))
     clear hRl hbl hgl hnl
     refine hK.out _ _ (fun _ => HS) ?_
     clear hK K
     (try simp only [pu0,pu1,pu2,pu3,pu4])
     refine on1 10 fun K hK => ?_
     clear HS
     refine Kd.zaY k63 (w0 := wr) wr.heap.size qy _ _ 31 63 _ 32 qy Try.underlying31 zcg rfl qt qt v55 [] m B m.length _ (fun _ => True) (fun _ => False) qy qy R55.out HPr.out.rm (fun x cs h => by rw [zcC h]; exact zbs _ _ _ x) (fun _ h => h.elim) (fun _ _ => trivial) HW.out HW.out.size (by have := HPr.out.sm; simp; omega) ?_
     intro v21 wz hRz hbz hgz hatz
     replace SY := za.mk (Kd.zh8 SY.out hgz (fun k hk => hk))
     have RM := za.mk hRz
     replace HW := za.mk hbz
     replace HPr := za.mk (HPr0.out.below hbz)
     clear hRz hbz hgz hatz R55 R55b R55l
     have HS : wz.cell? ⟨b16,i,none⟩ = some (.slice A Yi.length c) ∧ wz.cell? ⟨b17,i,none⟩ = some (.slice B m.length d) ∧ wz.cell? ⟨b18,i,none⟩ = some (.slice D p.length e) := ⟨HPr.out.c16,HPr.out.c17,HPr.out.c18⟩
     refine hK.out _ _ (fun _ => HS) ?_
     clear hK K
     (try simp only [pu0,pu1,pu2,pu3,pu4])
     refine on1 15 fun K hK => ?_
     clear HS
     refine zbt Try.func21 qi rfl #[.slice D p.length e] qy rfl rfl qr ?_
     refine (zaD.calls D e p p wz HPr.out.rp HPr.out.hp (zd8 p (by have := HPr.out.sp; omega))).mono ?_
     rintro e_ wf ⟨v22,rfl,hRa,hba⟩
     refine ⟨_,rfl,?_⟩
     obtain ⟨Ao,co,rfl,hco,hCo⟩ := Kd.zit SY.out
     obtain ⟨Bo,eo,rfl,heo,hCe⟩ := Kd.zav RM.out
     obtain ⟨Do,fo,rfl,hfo,hCf⟩ := Kd.zav hRa
     have F20 := za.mk (And.intro (Kd.zY hCo hba) hco)
     have F21 := za.mk (And.intro (Kd.zY hCe hba) heo)
     have F22 := za.mk (And.intro hCf hfo)
     replace HW := za.mk (zq HW.out hba)
     replace HPr := za.mk (HPr.out.below hba)
     clear hRa hba hco hCo heo hCe hfo hCf SY RM
     have HS : wf.cell? ⟨b16,i,none⟩ = some (.slice A Yi.length c) ∧ wf.cell? ⟨b17,i,none⟩ = some (.slice B m.length d) ∧ wf.cell? ⟨b18,i,none⟩ = some (.slice D p.length e) := ⟨HPr.out.c16,HPr.out.c17,HPr.out.c18⟩
     refine hK.out _ _ (fun _ => HS) ?_
     clear hK K
     (try simp only [pu0,pu1,pu2,pu3,pu4])
     refine tk 16 ?_
     (try simp only [pu0,pu1,pu2,pu3,pu4])
     refine tk 17 ?_
     (try simp only [pu0,pu1,pu2,pu3,pu4])
     refine tk 18 ?_
     (try simp only [pu0,pu1,pu2,pu3,pu4])
     refine zar qi ?_ _
     clear HS
     go_wp2_with fail
     go_meet
     case rel => exact ⟨Ao,co,Bo,eo,Do,fo,rfl,rfl,rfl,HW,F20,F21,F22⟩
    ·skip
     as_aux_lemma =>
     clear HS
     refine Kd.zbN k63 (w0 := wd) _ 63 ?hg (N := 163) ?hd (xs := ([] : List S63)) (inner := []) (ok := fun _ => True) (okp := fun _ => True) ?hr ?hp (fun _ hk => hk) trivial (Below.refl _ _) (Nat.le_refl _) qz ?_
     case hd => rfl
     case hg => rfl
     case hr => first | (go_simp; done) | (go_simp; rfl)
     case hp => exact (zan.none _ _)
     intro v55 wl hRl hbl hgl hnl
     have R55 := za.mk (Kd.zaT hRl HW.out.size)
     have R55b := za.mk (Kd.zcU hRl)
     have R55l := za.mk (Kd.zjN hRl)
     replace HW := za.mk (zq HW.out hbl)
     replace HPr := za.mk (HPr.out.below hbl)
     have HS : wl.cell? ⟨b16,i,none⟩ = some (.slice A Yi.length c) ∧ wl.cell? ⟨b17,i,none⟩ = some (.slice B m.length d) ∧ wl.cell? ⟨b18,i,none⟩ = some (.slice D p.length e) := ⟨HPr.out.c16,HPr.out.c17,HPr.out.c18⟩
     clear hRl hbl hgl hnl
     refine hK.out _ _ (fun _ => HS) ?_
     clear hK K
     (try simp only [pu0,pu1,pu2,pu3,pu4])
     refine on1 4 fun K hK => ?_
     clear HS
     refine zbt Try.func36 qi rfl #[.slice A Yi.length c] qy rfl rfl qr ?_
     refine (zaJ.calls KD A c Yi Yi wl HPr.out.ry HPr.out.hy KY.out).mono ?_
     rintro e_ wa ⟨v20,rfl,hRa,hba⟩
     refine ⟨_,rfl,?_⟩
     have SY := za.mk (Kd.zih (Kd.zbO (Kd.zeT hRa) (ok' := fun k => wl.heap.size ≤ k ∧ k < wa.heap.size) (fun k hk => ⟨hk.2.1,hk.2.2.1⟩)) HW.out.size)
     replace HW := za.mk (zq HW.out hba)
     replace HPr := za.mk (HPr.out.below hba)
     have HS : wa.cell? ⟨b16,i,none⟩ = some (.slice A Yi.length c) ∧ wa.cell? ⟨b17,i,none⟩ = some (.slice B m.length d) ∧ wa.cell? ⟨b18,i,none⟩ = some (.slice D p.length e) := ⟨HPr.out.c16,HPr.out.c17,HPr.out.c18⟩
     replace SY := za.mk (Kd.zbO (ok' := fun k => some k ≠ v55.ownBlock) SY.out (fun k hk e_ => by have := R55l.out k e_.symm; omega))
     replace R55 := za.mk (Kd.zJ R55.out hba)
     clear hRa hba
     refine hK.out _ _ (fun _ => HS) ?_
     clear hK K
     (try simp only [pu0,pu1,pu2,pu3,pu4])
     refine on1 10 fun K hK => ?_
     clear HS
     refine Kd.zaY k63 (w0 := wr) wr.heap.size qy _ _ 31 63 _ 32 qy Try.underlying31 zcg rfl qt qt v55 [] m B m.length _ (fun _ => True) (fun _ => False) qy qy R55.out HPr.out.rm (fun x cs h => by rw [zcC h]; exact zbs _ _ _ x) (fun _ h => h.elim) (fun _ _ => trivial) HW.out HW.out.size (by have := HPr.out.sm; simp; omega) ?_
     intro v21 wz hRz hbz hgz hatz
     replace SY := za.mk (Kd.zh8 SY.out hgz (fun k hk => hk))
     have RM := za.mk hRz
     replace HW := za.mk hbz
     replace HPr := za.mk (HPr0.out.below hbz)
     clear hRz hbz hgz hatz R55 R55b R55l
     have HS : wz.cell? ⟨b16,i,none⟩ = some (.slice A Yi.length c) ∧ wz.cell? ⟨b17,i,none⟩ = some (.slice B m.length d) ∧ wz.cell? ⟨b18,i,none⟩ = some (.slice D p.length e) := ⟨HPr.out.c16,HPr.out.c17,HPr.out.c18⟩
     refine hK.out _ _ (fun _ => HS) ?_
     clear hK K
     (try simp only [pu0,pu1,pu2,pu3,pu4])
     refine on1 15 fun K hK => ?_
     clear HS
     refine zbt Try.func21 qi rfl #[.slice D p.length e] qy rfl rfl qr ?_
     refine (zaD.calls D e p p wz HPr.out.rp HPr.out.hp (zd8 p (by have := HPr.out.sp; omega))).mono ?_
     rintro e_ wf ⟨v22,rfl,hRa,hba⟩
     refine ⟨_,rfl,?_⟩
     obtain ⟨Ao,co,rfl,hco,hCo⟩ := Kd.zit SY.out
     obtain ⟨Bo,eo,rfl,heo,hCe⟩ := Kd.zav RM.out
     obtain ⟨Do,fo,rfl,hfo,hCf⟩ := Kd.zav hRa
     have F20 := za.mk (And.intro (Kd.zY hCo hba) hco)
     have F21 := za.mk (And.intro (Kd.zY hCe hba) heo)
     have F22 := za.mk (And.intro hCf hfo)
     replace HW := za.mk (zq HW.out hba)
     replace HPr := za.mk (HPr.out.below hba)
     clear hRa hba hco hCo heo hCe hfo hCf SY RM
     have HS : wf.cell? ⟨b16,i,none⟩ = some (.slice A Yi.length c) ∧ wf.cell? ⟨b17,i,none⟩ = some (.slice B m.length d) ∧ wf.cell? ⟨b18,i,none⟩ = some (.slice D p.length e) := ⟨HPr.out.c16,HPr.out.c17,HPr.out.c18⟩
     refine hK.out _ _ (fun _ => HS) ?_
     clear hK K
     (try simp only [pu0,pu1,pu2,pu3,pu4])
     refine tk 16 ?_
     (try simp only [pu0,pu1,pu2,pu3,pu4])
     refine tk 17 ?_
     (try simp only [pu0,pu1,pu2,pu3,pu4])
     refine tk 18 ?_
     (try simp only [pu0,pu1,pu2,pu3,pu4])
     refine zar qi ?_ _
     clear HS
     go_wp2_with fail
     go_meet
     case rel => exact ⟨Ao,co,Bo,eo,Do,fo,rfl,rfl,rfl,HW,F20,F21,F22⟩
   case rest =>
    obtain ⟨Ao,co,Bo,eo,Do,fo,rfl,rfl,rfl,HW,F20,F21,F22⟩ := hcut
    have HPr0 := HPr
    replace HPr := za.mk (HPr.out.below HW.out)
    obtain ⟨K1,h1⟩ := zkw Yi m p
    obtain ⟨K2,h2⟩ := ziN Yi m p
    obtain ⟨⟨s1,s2,s3⟩,hst⟩ : ∃ x,zf9 Yi m p = x := ⟨_,rfl⟩
    rw [hst] at h1 h2
    obtain ⟨K7,h7⟩ := ziF Yi (by have := HPr.out.sy.1; omega) (fun q hq => by have := HPr.out.sy.2 q hq; omega)
    obtain ⟨K8,h8⟩ := ziE m (by have := HPr.out.sm; omega)
    obtain ⟨K9,h9⟩ := zhs p (by have := HPr.out.sp; omega)
    have KK := za.mk (And.intro (h1 K1 (Nat.le_refl _)) (And.intro (h2 K2 (Nat.le_refl _)) (And.intro (h7 K7 (Nat.le_refl _)) (And.intro (h8 K8 (Nat.le_refl _)) (h9 K9 (Nat.le_refl _))))))
    clear h1 h2 h7 h8 h9 hst
    have hu54 := Try.underlying54
    go_wp2_with fail
    refine (zcV.calls K1 Ao co Yi Bo eo m Do fo p s1 s2 s3 wc F20.out.1 F20.out.2 F21.out.1 F21.out.2 F22.out.1 F22.out.2 KK.out.1).mono ?_
    rintro e_ wx1 ⟨rfl,hb⟩
    replace F20 := za.mk (zaL F20.out hb)
    replace F21 := za.mk (zaL F21.out hb)
    replace F22 := za.mk (zaL F22.out hb)
    replace HPr := za.mk (HPr.out.below hb)
    replace HW := za.mk (zq HW.out hb)
    clear hb
    go_upto_region 24 with fail
    have B23 := za.mk (heap_alloc_new wx1 (.cells #[.int .i64 s1, .int .i64 s2] 54))
    have hb := ze (Below.refl wx1.heap.size wx1) (.cells #[.int .i64 s1, .int .i64 s2] 54)
    replace F20 := za.mk (zaL F20.out hb)
    replace F21 := za.mk (zaL F21.out hb)
    replace F22 := za.mk (zaL F22.out hb)
    replace HPr := za.mk (HPr.out.below hb)
    replace HW := za.mk (zq HW.out hb)
    clear hb
    obtain ⟨wq,hwq⟩ : ∃ u_,wx1.alloc (.cells #[.int .i64 s1, .int .i64 s2] 54) = u_ := ⟨_,rfl⟩
    obtain ⟨b23,hb23⟩ : ∃ u_,wx1.heap.size = u_ := ⟨_,rfl⟩
    rw [hwq] at HW HPr F20 F21 F22 B23 ⊢
    rw [hb23] at B23 ⊢
    clear hwq hb23
    refine zaF (fun W' => W'.cell? ⟨b16,i,none⟩ = some (.slice A Yi.length c) ∧ W'.cell? ⟨b17,i,none⟩ = some (.slice B m.length d) ∧ W'.cell? ⟨b18,i,none⟩ = some (.slice D p.length e)) [] qi ?_
    have hb := zf (Below.refl wq.heap.size wq)
    replace F20 := za.mk (zaL F20.out hb)
    replace F21 := za.mk (zaL F21.out hb)
    replace F22 := za.mk (zaL F22.out hb)
    replace HPr := za.mk (HPr.out.below hb)
    replace HW := za.mk (zq HW.out hb)
    clear hb
    replace B23 := za.mk (show wq.drew.heap[b23]? = _ from B23.out)
    obtain ⟨wd,hwd⟩ : ∃ W,wq.drew = W := ⟨_,rfl⟩
    rw [hwd] at HW HPr F20 F21 F22 B23 ⊢
    clear hwd
    have HS : wd.cell? ⟨b16,i,none⟩ = some (.slice A Yi.length c) ∧ wd.cell? ⟨b17,i,none⟩ = some (.slice B m.length d) ∧ wd.cell? ⟨b18,i,none⟩ = some (.slice D p.length e) := ⟨HPr.out.c16,HPr.out.c17,HPr.out.c18⟩
    refine tk 0 ?_
    (try simp only [pu0,pu1,pu2,pu3,pu4])
    refine tk 1 ?_
    (try simp only [pu0,pu1,pu2,pu3,pu4])
    refine tk 2 ?_
    (try simp only [pu0,pu1,pu2,pu3,pu4])
    refine tk 3 ?_
    (try simp only [pu0,pu1,pu2,pu3,pu4])
    refine tk 4 ?_
    (try simp only [pu0,pu1,pu2,pu3,pu4])
    refine tk 5 ?_
    (try simp only [pu0,pu1,pu2,pu3,pu4])
    refine tk 6 ?_
    (try simp only [pu0,pu1,pu2,pu3,pu4])
    refine tk 7 ?_
    (try simp only [pu0,pu1,pu2,pu3,pu4])
    refine tk 8 ?_
    (try simp only [pu0,pu1,pu2,pu3,pu4])
    refine tk 9 ?_
    (try simp only [pu0,pu1,pu2,pu3,pu4])
    refine tk 10 ?_
    (try simp only [pu0,pu1,pu2,pu3,pu4])
    refine tk 11 ?_
    (try simp only [pu0,pu1,pu2,pu3,pu4])
    refine on2 12 16 (fun K hK => ?_) (fun K hK => ?_)
    ·skip
     as_aux_lemma =>
     clear HS
     refine zbt Try.func38 qi rfl #[.slice A Yi.length c, .slice B m.length d, .slice D p.length e] qy rfl rfl qr ?_
     refine (zb6.calls K2 A c Yi B d m D e p s1 s2 s3 wd HPr.out.ry HPr.out.hy HPr.out.rm HPr.out.hm HPr.out.rp HPr.out.hp KK.out.2.1).mono ?_
     rintro e_ wa ⟨rfl,hb⟩
     refine ⟨_,rfl,?_⟩
     replace B23 := za.mk (zD B23.out hb)
     replace F20 := za.mk (zaL F20.out hb)
     replace F21 := za.mk (zaL F21.out hb)
     replace F22 := za.mk (zaL F22.out hb)
     replace HPr := za.mk (HPr.out.below hb)
     replace HW := za.mk (zq HW.out hb)
     clear hb
     have HS : wa.cell? ⟨b16,i,none⟩ = some (.slice A Yi.length c) ∧ wa.cell? ⟨b17,i,none⟩ = some (.slice B m.length d) ∧ wa.cell? ⟨b18,i,none⟩ = some (.slice D p.length e) := ⟨HPr.out.c16,HPr.out.c17,HPr.out.c18⟩
     refine hK.out _ _ (fun _ => HS) ?_
     clear hK K
     (try simp only [pu0,pu1,pu2,pu3,pu4])
     refine tk 13 ?_
     (try simp only [pu0,pu1,pu2,pu3,pu4])
     refine tk 14 ?_
     (try simp only [pu0,pu1,pu2,pu3,pu4])
     refine tk 15 ?_
     (try simp only [pu0,pu1,pu2,pu3,pu4])
     refine on1 16 fun K hK => ?_
     clear HS
     refine zdE qy (v := .pointer (some ⟨wa.heap.size,0,none⟩)) (w1 := wa.alloc (.cells #[.int .i64 0, .int .i64 0] 54)) ?hr ?_
     case hr => first | (go_simp; done) | (go_simp; rfl)
     have HNE : za (b23 ≠ wa.heap.size) := ⟨fun e => by have := zae B23.out; omega⟩
     have B25 := za.mk (heap_alloc_new wa (.cells #[.int .i64 0, .int .i64 0] 54))
     have hb := ze (Below.refl wa.heap.size wa) (.cells #[.int .i64 0, .int .i64 0] 54)
     have B23a := B23
     have F20a := F20
     have F21a := F21
     have F22a := F22
     have HA := za.mk hb
     replace B23 := za.mk (zD B23.out hb)
     have HG25 : za (wr.heap.size ≤ wa.heap.size) := ⟨HW.out.size⟩
     replace F20 := za.mk (zaL F20.out hb)
     replace F21 := za.mk (zaL F21.out hb)
     replace F22 := za.mk (zaL F22.out hb)
     replace HPr := za.mk (HPr.out.below hb)
     replace HW := za.mk (zq HW.out hb)
     clear hb
     obtain ⟨wl,hwa⟩ : ∃ u_,wa.alloc (.cells #[.int .i64 0, .int .i64 0] 54) = u_ := ⟨_,rfl⟩
     obtain ⟨b25,hb25⟩ : ∃ u_,wa.heap.size = u_ := ⟨_,rfl⟩
     rw [hwa] at HW HPr F20 F21 F22 B23 B25 HA ⊢
     have HA25 : za (wa.heap.size ≤ b25) := ⟨Nat.le_of_eq hb25⟩
     rw [hb25] at B25 HNE HG25 ⊢
     clear hwa hb25
     have HS : wl.cell? ⟨b16,i,none⟩ = some (.slice A Yi.length c) ∧ wl.cell? ⟨b17,i,none⟩ = some (.slice B m.length d) ∧ wl.cell? ⟨b18,i,none⟩ = some (.slice D p.length e) := ⟨HPr.out.c16,HPr.out.c17,HPr.out.c18⟩
     refine hK.out _ _ (fun _ => HS) ?_
     clear hK K
     (try simp only [pu0,pu1,pu2,pu3,pu4])
     refine on1 17 fun K hK => ?_
     clear HS
     have hx0 := (zh B25.out 0).trans rfl
     have hx1 := (zh B25.out 1).trans rfl
     have hf0 := zo B25.out 0
     have hf1 := zo B25.out 1
     refine zgV qy rfl (w1 := (wl.setCell ⟨b25,0,none⟩ (.int .i64 s1)).setCell ⟨b25,1,none⟩ (.int .i64 s2)) ?hr ?_
     case hr => first | (go_simp; done) | (go_simp; rfl)
     clear hx0 hx1 hf0 hf1
     replace B25 := za.mk (zah (zah B25.out 0 (.int .i64 s1) rfl) 1 (.int .i64 s2) rfl)
     replace HA := za.mk (zi (j := 1) (v := .int .i64 s2) (zi (j := 0) (v := .int .i64 s1) HA.out HA25.out) HA25.out)
     replace HW := za.mk (zi (j := 1) (v := .int .i64 s2) (zi (j := 0) (v := .int .i64 s1) HW.out HG25.out) HG25.out)
     replace B23 := za.mk (zD B23a.out HA.out)
     replace F20 := za.mk (zaL F20a.out HA.out)
     replace F21 := za.mk (zaL F21a.out HA.out)
     replace F22 := za.mk (zaL F22a.out HA.out)
     replace HPr := za.mk (HPr0.out.below HW.out)
     clear HA F20a F21a F22a B23a HG25 HA25 HNE
     obtain ⟨ws,hws⟩ : ∃ u_,(wl.setCell ⟨b25,0,none⟩ (.int .i64 s1)).setCell ⟨b25,1,none⟩ (.int .i64 s2) = u_ := ⟨_,rfl⟩
     rw [hws] at HW HPr F20 F21 F22 B23 B25 ⊢
     clear hws
     have HS : ws.cell? ⟨b16,i,none⟩ = some (.slice A Yi.length c) ∧ ws.cell? ⟨b17,i,none⟩ = some (.slice B m.length d) ∧ ws.cell? ⟨b18,i,none⟩ = some (.slice D p.length e) := ⟨HPr.out.c16,HPr.out.c17,HPr.out.c18⟩
     refine hK.out _ _ (fun _ => HS) ?_
     clear hK K
     (try simp only [pu0,pu1,pu2,pu3,pu4])
     refine tk 18 ?_
     (try simp only [pu0,pu1,pu2,pu3,pu4])
     refine zar qi ?_ _
     clear HS
     have y0 := (zh B23.out 0).trans rfl
     have y1 := (zh B23.out 1).trans rfl
     have y2 := (zh B25.out 0).trans rfl
     have y3 := (zh B25.out 1).trans rfl
     have hc16 := HPr.out.c16
     go_wp2_with fail
     clear y0 y1 y2 y3 hc16
     refine (zaG.calls K7 Ao co Yi A c Yi true ws F20.out.1 F20.out.2 HPr.out.ry HPr.out.hy KK.out.2.2.1).mono ?_
     rintro e_ wx3 ⟨rfl,hd⟩
     have hb := zcq hd
     clear hd
     replace F20 := za.mk (zaL F20.out hb)
     replace F21 := za.mk (zaL F21.out hb)
     replace F22 := za.mk (zaL F22.out hb)
     replace HPr := za.mk (HPr.out.below hb)
     replace HW := za.mk (zq HW.out hb)
     clear hb
     have hc17 := HPr.out.c17
     go_wp2_with fail
     refine (zaI.calls K8 Bo eo m B d m true wx3 F21.out.1 F21.out.2 HPr.out.rm HPr.out.hm KK.out.2.2.2.1).mono ?_
     rintro e_ wx4 ⟨rfl,hd⟩
     have hb := zcq hd
     clear hd hc17
     replace F20 := za.mk (zaL F20.out hb)
     replace F21 := za.mk (zaL F21.out hb)
     replace F22 := za.mk (zaL F22.out hb)
     replace HPr := za.mk (HPr.out.below hb)
     replace HW := za.mk (zq HW.out hb)
     clear hb
     have hc18 := HPr.out.c18
     go_wp2_with fail
     refine (zaj.calls K9 Do fo p D e p true wx4 F22.out.1 F22.out.2 HPr.out.rp HPr.out.hp KK.out.2.2.2.2).mono ?_
     rintro e_ wx5 ⟨rfl,hd⟩
     have hb := zcq hd
     clear hd hc18
     replace F20 := za.mk (zaL F20.out hb)
     replace F21 := za.mk (zaL F21.out hb)
     replace F22 := za.mk (zaL F22.out hb)
     replace HPr := za.mk (HPr.out.below hb)
     replace HW := za.mk (zq HW.out hb)
     clear hb
     have HBn := za.mk (zq HBr.out HW.out)
     go_wp2_with fail
     go_roundw
     case rel => exact ⟨i + 1,by omega,by go_num,HBn⟩
     case measure => simp [intOf]; omega
    ·skip
     as_aux_lemma =>
     clear HS
     refine zdE qy (v := .pointer (some ⟨wd.heap.size,0,none⟩)) (w1 := wd.alloc (.cells #[.int .i64 0, .int .i64 0] 54)) ?hr ?_
     case hr => first | (go_simp; done) | (go_simp; rfl)
     have HNE : za (b23 ≠ wd.heap.size) := ⟨fun e => by have := zae B23.out; omega⟩
     have B25 := za.mk (heap_alloc_new wd (.cells #[.int .i64 0, .int .i64 0] 54))
     have hb := ze (Below.refl wd.heap.size wd) (.cells #[.int .i64 0, .int .i64 0] 54)
     have B23a := B23
     have F20a := F20
     have F21a := F21
     have F22a := F22
     have HA := za.mk hb
     replace B23 := za.mk (zD B23.out hb)
     have HG25 : za (wr.heap.size ≤ wd.heap.size) := ⟨HW.out.size⟩
     replace F20 := za.mk (zaL F20.out hb)
     replace F21 := za.mk (zaL F21.out hb)
     replace F22 := za.mk (zaL F22.out hb)
     replace HPr := za.mk (HPr.out.below hb)
     replace HW := za.mk (zq HW.out hb)
     clear hb
     obtain ⟨wl,hwa⟩ : ∃ u_,wd.alloc (.cells #[.int .i64 0, .int .i64 0] 54) = u_ := ⟨_,rfl⟩
     obtain ⟨b25,hb25⟩ : ∃ u_,wd.heap.size = u_ := ⟨_,rfl⟩
     rw [hwa] at HW HPr F20 F21 F22 B23 B25 HA ⊢
     have HA25 : za (wd.heap.size ≤ b25) := ⟨Nat.le_of_eq hb25⟩
     rw [hb25] at B25 HNE HG25 ⊢
     clear hwa hb25
     have HS : wl.cell? ⟨b16,i,none⟩ = some (.slice A Yi.length c) ∧ wl.cell? ⟨b17,i,none⟩ = some (.slice B m.length d) ∧ wl.cell? ⟨b18,i,none⟩ = some (.slice D p.length e) := ⟨HPr.out.c16,HPr.out.c17,HPr.out.c18⟩
     refine hK.out _ _ (fun _ => HS) ?_
     clear hK K
     (try simp only [pu0,pu1,pu2,pu3,pu4])
     refine on1 12 fun K hK => ?_
     clear HS
     refine zbt Try.func38 qi rfl #[.slice A Yi.length c, .slice B m.length d, .slice D p.length e] qy rfl rfl qr ?_
     refine (zb6.calls K2 A c Yi B d m D e p s1 s2 s3 wl HPr.out.ry HPr.out.hy HPr.out.rm HPr.out.hm HPr.out.rp HPr.out.hp KK.out.2.1).mono ?_
     rintro e_ wa ⟨rfl,hb⟩
     refine ⟨_,rfl,?_⟩
     replace B23 := za.mk (zD B23.out hb)
     replace B25 := za.mk (zD B25.out hb)
     replace HA := za.mk (zq HA.out hb)
     replace F20 := za.mk (zaL F20.out hb)
     replace F21 := za.mk (zaL F21.out hb)
     replace F22 := za.mk (zaL F22.out hb)
     replace HPr := za.mk (HPr.out.below hb)
     replace HW := za.mk (zq HW.out hb)
     clear hb
     have HS : wa.cell? ⟨b16,i,none⟩ = some (.slice A Yi.length c) ∧ wa.cell? ⟨b17,i,none⟩ = some (.slice B m.length d) ∧ wa.cell? ⟨b18,i,none⟩ = some (.slice D p.length e) := ⟨HPr.out.c16,HPr.out.c17,HPr.out.c18⟩
     refine hK.out _ _ (fun _ => HS) ?_
     clear hK K
     (try simp only [pu0,pu1,pu2,pu3,pu4])
     refine tk 13 ?_
     (try simp only [pu0,pu1,pu2,pu3,pu4])
     refine tk 14 ?_
     (try simp only [pu0,pu1,pu2,pu3,pu4])
     refine tk 15 ?_
     (try simp only [pu0,pu1,pu2,pu3,pu4])
     refine on1 17 fun K hK => ?_
     clear HS
     have hx0 := (zh B25.out 0).trans rfl
     have hx1 := (zh B25.out 1).trans rfl
     have hf0 := zo B25.out 0
     have hf1 := zo B25.out 1
     refine zgV qy rfl (w1 := (wa.setCell ⟨b25,0,none⟩ (.int .i64 s1)).setCell ⟨b25,1,none⟩ (.int .i64 s2)) ?hr ?_
     case hr => first | (go_simp; done) | (go_simp; rfl)
     clear hx0 hx1 hf0 hf1
     replace B25 := za.mk (zah (zah B25.out 0 (.int .i64 s1) rfl) 1 (.int .i64 s2) rfl)
     replace HA := za.mk (zi (j := 1) (v := .int .i64 s2) (zi (j := 0) (v := .int .i64 s1) HA.out HA25.out) HA25.out)
     replace HW := za.mk (zi (j := 1) (v := .int .i64 s2) (zi (j := 0) (v := .int .i64 s1) HW.out HG25.out) HG25.out)
     replace B23 := za.mk (zD B23a.out HA.out)
     replace F20 := za.mk (zaL F20a.out HA.out)
     replace F21 := za.mk (zaL F21a.out HA.out)
     replace F22 := za.mk (zaL F22a.out HA.out)
     replace HPr := za.mk (HPr0.out.below HW.out)
     clear HA F20a F21a F22a B23a HG25 HA25 HNE
     obtain ⟨ws,hws⟩ : ∃ u_,(wa.setCell ⟨b25,0,none⟩ (.int .i64 s1)).setCell ⟨b25,1,none⟩ (.int .i64 s2) = u_ := ⟨_,rfl⟩
     rw [hws] at HW HPr F20 F21 F22 B23 B25 ⊢
     clear hws
     have HS : ws.cell? ⟨b16,i,none⟩ = some (.slice A Yi.length c) ∧ ws.cell? ⟨b17,i,none⟩ = some (.slice B m.length d) ∧ ws.cell? ⟨b18,i,none⟩ = some (.slice D p.length e) := ⟨HPr.out.c16,HPr.out.c17,HPr.out.c18⟩
     refine hK.out _ _ (fun _ => HS) ?_
     clear hK K
     (try simp only [pu0,pu1,pu2,pu3,pu4])
     refine tk 18 ?_
     (try simp only [pu0,pu1,pu2,pu3,pu4])
     refine zar qi ?_ _
     clear HS
     have y0 := (zh B23.out 0).trans rfl
     have y1 := (zh B23.out 1).trans rfl
     have y2 := (zh B25.out 0).trans rfl
     have y3 := (zh B25.out 1).trans rfl
     have hc16 := HPr.out.c16
     go_wp2_with fail
     clear y0 y1 y2 y3 hc16
     refine (zaG.calls K7 Ao co Yi A c Yi true ws F20.out.1 F20.out.2 HPr.out.ry HPr.out.hy KK.out.2.2.1).mono ?_
     rintro e_ wx3 ⟨rfl,hd⟩
     have hb := zcq hd
     clear hd
     replace F20 := za.mk (zaL F20.out hb)
     replace F21 := za.mk (zaL F21.out hb)
     replace F22 := za.mk (zaL F22.out hb)
     replace HPr := za.mk (HPr.out.below hb)
     replace HW := za.mk (zq HW.out hb)
     clear hb
     have hc17 := HPr.out.c17
     go_wp2_with fail
     refine (zaI.calls K8 Bo eo m B d m true wx3 F21.out.1 F21.out.2 HPr.out.rm HPr.out.hm KK.out.2.2.2.1).mono ?_
     rintro e_ wx4 ⟨rfl,hd⟩
     have hb := zcq hd
     clear hd hc17
     replace F20 := za.mk (zaL F20.out hb)
     replace F21 := za.mk (zaL F21.out hb)
     replace F22 := za.mk (zaL F22.out hb)
     replace HPr := za.mk (HPr.out.below hb)
     replace HW := za.mk (zq HW.out hb)
     clear hb
     have hc18 := HPr.out.c18
     go_wp2_with fail
     refine (zaj.calls K9 Do fo p D e p true wx4 F22.out.1 F22.out.2 HPr.out.rp HPr.out.hp KK.out.2.2.2.2).mono ?_
     rintro e_ wx5 ⟨rfl,hd⟩
     have hb := zcq hd
     clear hd hc18
     replace F20 := za.mk (zaL F20.out hb)
     replace F21 := za.mk (zaL F21.out hb)
     replace F22 := za.mk (zaL F22.out hb)
     replace HPr := za.mk (HPr.out.below hb)
     replace HW := za.mk (zq HW.out hb)
     clear hb
     have HBn := za.mk (zq HBr.out HW.out)
     go_wp2_with fail
     go_roundw
     case rel => exact ⟨i + 1,by omega,by go_num,HBn⟩
     case measure => simp [intOf]; omega
  ·obtain rfl : i = 4 := by omega
   go_wp2_with fail
   refine (zeG wr).mono ?_
   rintro e wz ⟨rfl,hb⟩
   replace HB := za.mk (zq (zq HB.out HBr.out) hb)
   clear hb
   go_wp2_with fail
   go_ret
   exact ⟨rfl,HB.out⟩
end Go.Proofs.Ytgmbbfmbimofoaa.P
