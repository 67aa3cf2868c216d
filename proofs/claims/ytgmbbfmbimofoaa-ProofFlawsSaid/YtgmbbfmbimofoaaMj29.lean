-- MERGED BY A PROGRAM out of texts of this claim: hand work, and what a (turned) print of the kit has written for it
import Derived.IntWalk
import Derived.Outline
import Derived.Deep.DeepCutAuto
import Derived.Deep.CutBlock
import Derived.Test.YtgmbbfmbimofoaaMj23
import Derived.Test.YtgmbbfmbimofoaaMj22
import Derived.Test.YtgmbbfmbimofoaaMj26
import Derived.Test.YtgmbbfmbimofoaaMj28
import Derived.Test.YtgmbbfmbimofoaaMj5
import Derived.Test.YtgmbbfmbimofoaaMj6
import Derived.Test.YtgmbbfmbimofoaaMj21
import Derived.Test.YtgmbbfmbimofoaaMj24
import Derived.Test.YtgmbbfmbimofoaaMj13
import Derived.Test.YtgmbbfmbimofoaaMj7
import Derived.Test.YtgmbbfmbimofoaaMj9
namespace Go.Proofs.Ytgmbbfmbimofoaa.P
open Go.RowKit Go.Proofs.YtgmbbfmbimofoaaW.PrintWords Go.Proofs.YtgmbbfmbimofoaaW.PrintLast Go.Proofs.YtgmbbfmbimofoaaW.PrintMore
attribute [local go_sem] zO zN zT zS zI zJ zP zQ
set_option linter.unusedVariables false
set_option linter.unusedSimpArgs false
theorem zea {w w' : World} (h : zF w w') : Below w.heap.size w w' := by
 obtain ⟨n,rfl⟩ := h
 exact zb (Below.refl _ _) n
theorem zbw {α : Type} {d : Kd α} {w w' : World} {A : Option Addr} {n c : Nat} {xs : List α} (h : d.C w A n xs ∧ n ≤ c) (hb : Below w.heap.size w w') : d.C w' A n xs ∧ n ≤ c := ⟨Kd.zX h.1 hb,h.2⟩
theorem zfE (p : List ByteArray) (ms : List S63) : (zbI p ms).1.length ≤ 6 := by
 unfold zbI
 split
 ·split
  ·simp
  ·dsimp only; omega
 ·simp
structure ziG (W : World) (b9 b10 : Nat) (i : Nat) (p : List ByteArray) (A : Option Addr) (c : Nat) (m : List S63) (B : Option Addr) (d : Nat) : Prop where
 c9 : W.cell? ⟨b9,i,none⟩ = some (.slice A p.length c)
 c10 : W.cell? ⟨b10,i,none⟩ = some (.slice B m.length d)
 rp : Kd.string.C W A p.length p
 hp : p.length ≤ c
 rm : k63.C W B m.length m
 hm : m.length ≤ d
 sp : p.length ≤ 20
 sm : m.length ≤ 20
theorem ziG.below {W W' : World} {b9 b10 i : Nat} {p : List ByteArray} {A : Option Addr} {c : Nat} {m : List S63} {B : Option Addr} {d : Nat} (h : ziG W b9 b10 i p A c m B d) (hb : Below W.heap.size W W') : ziG W' b9 b10 i p A c m B d :=
 ⟨(hb.cell (World.block_lt_of_cell? W _ h.c9)).trans h.c9,(hb.cell (World.block_lt_of_cell? W _ h.c10)).trans h.c10,Kd.zX h.rp hb,h.hp,Kd.zX h.rm hb,h.hm,h.sp,h.sm⟩
structure zhz (W : World) (b9 b10 : Nat) (i : Nat) (p : List ByteArray) (A : Option Addr) (c : Nat) (m : List ByteArray) (B : Option Addr) (d : Nat) : Prop where
 c9 : W.cell? ⟨b9,i,none⟩ = some (.slice A p.length c)
 c10 : W.cell? ⟨b10,i,none⟩ = some (.slice B m.length d)
 rp : Kd.string.C W A p.length p
 hp : p.length ≤ c
 rm : Kd.string.C W B m.length m
 hm : m.length ≤ d
 sp : p.length ≤ 20
 sm : m.length ≤ 20
theorem zhz.below {W W' : World} {b9 b10 i : Nat} {p : List ByteArray} {A : Option Addr} {c : Nat} {m : List ByteArray} {B : Option Addr} {d : Nat} (h : zhz W b9 b10 i p A c m B d) (hb : Below W.heap.size W W') : zhz W' b9 b10 i p A c m B d :=
 ⟨(hb.cell (World.block_lt_of_cell? W _ h.c9)).trans h.c9,(hb.cell (World.block_lt_of_cell? W _ h.c10)).trans h.c10,Kd.zX h.rp hb,h.hp,Kd.zX h.rm hb,h.hm,h.sp,h.sm⟩
theorem zeC (n : Nat) : ∀ (ms : List S63) (prev : Option S63),zbs n prev ms = 0 → ∀ m ∈ ms,m.f0 ≠ 3 → zaX m.f2 = 0
 | [],_,_,m,hm,_ => by cases hm
 | q :: ms,prev,h,m,hm,h3 => by
  rw [zbs] at h
  by_cases hq : zbG n prev q = 0
  ·rw [if_pos hq] at h
   rcases List.mem_cons.1 hm with rfl | hm
   ·unfold zbG at hq
    by_cases c1 : m.f0 < 1 ∨ 3 < m.f0
    ·rw [if_pos c1] at hq; cases hq
    ·rw [if_neg c1] at hq
     by_cases c2 : m.f1 < 0 ∨ (if m.f0 = 1 then (n : Int) else (n : Int) - 1) < m.f1
     ·rw [if_pos c2] at hq; cases hq
     ·rw [if_neg c2] at hq
      by_cases c3 : zbX m = 0
      ·unfold zbX at c3
       rw [if_neg h3] at c3
       exact c3
      ·rw [if_neg c3] at hq; exact absurd hq c3
   ·exact zeC n ms _ h m hm h3
  ·rw [if_neg hq] at h; exact absurd h hq
theorem zg7 {i : Nat} {a b : List ByteArray} {ms : List S63} (h : zbj i a b ms) : (∀ x ∈ a,zaX x = 0) → (∀ m ∈ ms,m.f0 ≠ 3 → zaX m.f2 = 0) → ∀ y ∈ b,zaX y = 0 := by
 induction h with
 | nil => intro _ _ y hy; cases hy
 | @ins i a b ms y0 h ih =>
  intro ha hm y hy
  rcases List.mem_cons.1 hy with rfl | hy
  ·exact hm ⟨1,i,y⟩ List.mem_cons_self (by show (1 : Int) ≠ 3; decide)
  ·exact ih ha (fun m h => hm m (List.mem_cons_of_mem _ h)) y hy
 | @del i a b ms x0 h ih =>
  intro ha hm y hy
  exact ih (fun x h => ha x (List.mem_cons_of_mem _ h)) (fun m h => hm m (List.mem_cons_of_mem _ h)) y hy
 | @set i a b ms x0 y0 h ih =>
  intro ha hm y hy
  rcases List.mem_cons.1 hy with rfl | hy
  ·exact hm ⟨2,i,y⟩ List.mem_cons_self (by show (2 : Int) ≠ 3; decide)
  ·exact ih (fun x h => ha x (List.mem_cons_of_mem _ h)) (fun m h => hm m (List.mem_cons_of_mem _ h)) y hy
 | @keep i a b ms x0 h ih =>
  intro ha hm y hy
  rcases List.mem_cons.1 hy with rfl | hy
  ·exact ha y List.mem_cons_self
  ·exact ih (fun x h => ha x (List.mem_cons_of_mem _ h)) hm y hy
theorem zff : ∀ p : List ByteArray,(∀ x ∈ p,zaX x = 0) → zci p = 0
 | [],_ => rfl
 | x :: p,h => by rw [zci,if_pos (h x List.mem_cons_self)]; exact zff p (fun y hy => h y (List.mem_cons_of_mem _ hy))
theorem zh7 (p : List ByteArray) (hl : p.length ≤ 6) (h : ∀ x ∈ p,zaX x = 0) : zaL p = 0 := by
 unfold zaL
 rw [if_neg qk,zff p h]
theorem zgb {p : List ByteArray} {ms : List S63} (h : (zbI p ms).2 = 0) : zaL (zbI p ms).1 = 0 := by
 unfold zbI at h ⊢
 by_cases hc : zb6 p ms = 0
 ·rw [if_pos hc] at h ⊢
  by_cases h6 : 6 < (zcC p ms).length
  ·rw [if_pos h6] at h; cases h
  ·rw [if_neg h6]
   obtain ⟨h1,h2⟩ := zfd hc
   refine zh7 _ (by show (zcC p ms).length ≤ 6; omega) ?_
   have hm := zfu h2
   refine zg7 (ze7 h2) (zhx h1) ?_
   unfold zcI at h2
   rw [if_neg qk] at h2
   exact zeC _ ms none h2
 ·rw [if_neg hc] at h; exact absurd h hc
def zc0 : List (List ByteArray) → Int
 | [] => 0
 | p :: ys => if zaL p = 0 then zc0 ys else zaL p
def zcf (ys : List (List ByteArray)) : Int := if 4 < ys.length then 6 else zc0 ys
theorem zfb : ∀ ys : List (List ByteArray),zc0 ys = 0 → ∀ p ∈ ys,zaL p = 0
 | [],_,p,hp => by cases hp
 | q :: ys,h,p,hp => by
  rw [zc0] at h
  by_cases hq : zaL q = 0
  ·rw [if_pos hq] at h
   rcases List.mem_cons.1 hp with rfl | hp
   ·exact hq
   ·exact zfb ys h p hp
  ·rw [if_neg hq] at h; exact absurd h hq
theorem zg2 {ys : List (List ByteArray)} (h : zcf ys = 0) : ys.length ≤ 4 ∧ ∀ p ∈ ys,zaL p = 0 := by
 unfold zcf at h
 by_cases h4 : 4 < ys.length
 ·rw [if_pos h4] at h; cases h
 ·rw [if_neg h4] at h; exact ⟨by omega,zfb ys h⟩
theorem zfW (ys : List (List ByteArray)) : Ev (fun k => zat.f k ys) (zcf ys) := by
 unfold zat.f zcf
 by_cases h4 : 4 < ys.length
 ·rw [if_pos h4]; exact Ev.ifp qk (Ev.now _)
 ·rw [if_neg h4]
  refine Ev.ifn qk ?_
  have go : ∀ (m i : Nat),ys.length - i = m → i ≤ ys.length → Ev (fun k => zat.l0 k ys (ys.length : Int) (i : Int)) (zc0 (ys.drop i)) := by
   intro m
   induction m with
   | zero =>
    intro i h hi
    rw [List.drop_eq_nil_of_le qk]
    refine Ev.step (fun k => by rw [zat.l0]) ?_
    exact Ev.ifn qk (Ev.now _)
   | succ m ih =>
    intro i h hi
    have hlt : i < ys.length := by omega
    have r1 : zbo ys (i : Int) = ys[i] := by simp [zbo,hlt]
    rw [List.drop_eq_getElem_cons hlt,zc0]
    refine Ev.step (fun k => by rw [zat.l0]) ?_
    refine Ev.ifp qk ?_
    refine Ev.ifp qk ?_
    refine Ev.ifp qk ?_
    refine Ev.be (zgX _) ?_
    rw [r1]
    by_cases hc : zaL ys[i] = 0
    ·rw [if_pos hc]
     refine Ev.ifp hc ?_
     rw [zce i qk]
     exact ih (i + 1) qk qk
    ·rw [if_neg hc]
     exact Ev.ifn hc (Ev.now _)
  have := go ys.length 0 qk qk
  rw [List.drop_zero] at this
  exact this
theorem zis (ys : List (List ByteArray)) (x : ByteArray) : 0 ≤ zbO ys x ys.length ↔ ∃ p ∈ ys,x ∈ p := by
 constructor
 ·intro h
  have hl := zgQ ys x ys.length
  have hh := zf9 ys x ys.length h
  have hlt : (zbO ys x ys.length).toNat < ys.length := by omega
  rw [List.getD_eq_getElem?_getD,List.getElem?_eq_getElem hlt,Option.getD_some] at hh
  exact ⟨_,List.getElem_mem _,hh⟩
 ·rintro ⟨p,hp,hx⟩
  obtain ⟨j,hj,rfl⟩ := List.mem_iff_getElem.1 hp
  by_cases h : 0 ≤ zbO ys x ys.length
  ·exact h
  ·exfalso
   refine zfv ys x ys.length j hj qk ?_
   rw [List.getD_eq_getElem?_getD,List.getElem?_eq_getElem hj,Option.getD_some]
   exact hx
def zeQ (ys : List (List ByteArray)) (pf : List ByteArray) : List S63 → Int × Int × Int
 | [] => (0,0,0)
 | m :: _ => if m.f0 = 3 then (1,m.f1,0) else if m.f2 ∈ pf then (3,m.f1,0) else if 0 ≤ zbO ys m.f2 ys.length then (2,m.f1,0) else (3,m.f1,0)
def zep (ys : List (List ByteArray)) (ms : List S63) (rt : List ByteArray) : Int × Int × Int :=
 if zcf ys = 0 then (if ys.length = 0 then (0,0,7)
  else if (zbI (ys.getD (ys.length - 1) []) ms).2 = 0 then (if zaL rt = 0 then zeQ (ys.take (ys.length - 1)) (zbI (ys.getD (ys.length - 1) []) ms).1 (dsp 0 (zbI (ys.getD (ys.length - 1) []) ms).1 rt).2 else (0,0,zaL rt))
  else (0,0,(zbI (ys.getD (ys.length - 1) []) ms).2))
 else (0,0,zcf ys)
theorem zfM (ys : List (List ByteArray)) (ms : List S63) (rt : List ByteArray) : Ev (fun k => zb2.f k ys ms rt) (zep ys ms rt) := by
 unfold zb2.f zep
 refine Ev.be (zfW ys) ?_
 by_cases hy : zcf ys = 0
 ·simp only [if_pos hy]
  obtain ⟨h4,hall⟩ := zg2 hy
  by_cases h0 : ys.length = 0
  ·rw [if_pos h0]; exact Ev.ifp qk (Ev.now _)
  ·rw [if_neg h0]
   have hw : wrap64 ((ys.length : Int) - 1) = ((ys.length - 1 : Nat) : Int) := by rw [zcx qk qk]; omega
   rw [hw]
   refine Ev.ifn qk ?_
   refine Ev.ifp qk ?_
   refine Ev.ifp qk ?_
   refine Ev.be (zgw _ ms) ?_
   have r1 : zbo ys ((ys.length - 1 : Nat) : Int) = ys.getD (ys.length - 1) [] := by simp [zbo]
   rw [r1]
   obtain ⟨q,hq⟩ : ∃ q,zbI (ys.getD (ys.length - 1) []) ms = q := ⟨_,rfl⟩
   have hok := @zgb (ys.getD (ys.length - 1) []) ms
   rw [hq] at hok ⊢
   by_cases h2 : q.2 = 0
   ·simp only [if_pos h2]
    have l1 := zcq (hok h2)
    refine Ev.be (zgX rt) ?_
    by_cases h3 : zaL rt = 0
    ·simp only [if_pos h3]
     have l2 := zcq h3
     have hd : zbt.f q.1 rt = some (dsp 0 q.1 rt).2 := by unfold zbt.f; rw [if_pos ⟨by omega,by omega⟩]
     refine Ev.bs hd ?_
     cases hdd : (dsp 0 q.1 rt).2 with
     | nil => exact Ev.ifp rfl (Ev.now _)
     | cons m d =>
      have r2 : zm (m :: d) 0 = m := rfl
      rw [r2]
      refine Ev.ifn qE ?_
      refine Ev.ifp qE ?_
      rw [zeQ]
      by_cases c3 : m.f0 = 3
      ·rw [if_pos c3]; exact Ev.ifp c3 (Ev.now _)
      ·rw [if_neg c3]
       refine Ev.ifn c3 ?_
       refine Ev.be (ze6 q.1 m.f2 qk) ?_
       by_cases c4 : m.f2 ∈ q.1
       ·rw [if_pos c4]; exact Ev.ifp (decide_eq_true c4) (Ev.now _)
       ·rw [if_neg c4]
        refine Ev.ifn (by simpa using c4) ?_
        refine Ev.ifp qk ?_
        rw [Int.toNat_natCast]
        refine Ev.be (zib (ys.take (ys.length - 1)) m.f2 (by rw [List.length_take]; omega) (fun p hp => by have := zcq (hall p (List.mem_of_mem_take hp)); omega)) ?_
        by_cases c5 : 0 ≤ zbO (ys.take (ys.length - 1)) m.f2 (ys.take (ys.length - 1)).length
        ·rw [if_pos c5,if_pos c5]; exact Ev.now _
        ·rw [if_neg c5,if_neg c5]; exact Ev.now _
    ·simp only [if_neg h3]; exact Ev.now _
   ·simp only [if_neg h2]; exact Ev.now _
 ·simp only [if_neg hy]; exact Ev.now _
theorem zbj.nil_eq {i : Nat} {a b : List ByteArray} {ms : List S63} (h : zbj i a b ms) : ms = [] → a = b := by
 induction h with
 | nil i => intro _; rfl
 | ins y h ih => intro e; cases e
 | del x h ih => intro e; cases e
 | set x y h ih => intro e; cases e
 | keep x h ih => intro e; rw [ih e]
theorem zbj.zkk {i : Nat} {a b : List ByteArray} {ms : List S63} (h : zbj i a b ms) : ∀ m ∈ ms,m.f1 ≤ (i : Int) + a.length := by
 induction h with
 | nil i => intro m hm; cases hm
 | ins y h ih =>
  intro m hm
  rcases List.mem_cons.1 hm with rfl | hm
  ·dsimp only; omega
  ·exact ih m hm
 | del x h ih =>
  intro m hm
  simp only [List.length_cons]
  rcases List.mem_cons.1 hm with rfl | hm
  ·dsimp only; omega
  ·have := ih m hm; omega
 | set x y h ih =>
  intro m hm
  simp only [List.length_cons]
  rcases List.mem_cons.1 hm with rfl | hm
  ·dsimp only; omega
  ·have := ih m hm; omega
 | keep x h ih =>
  intro m hm
  simp only [List.length_cons]
  have := ih m hm; omega
theorem zbj.zjo {i : Nat} {a b : List ByteArray} {ms : List S63} (h : zbj i a b ms) : ∀ m ∈ ms,m.f0 ≠ 3 → m.f2 ∈ b := by
 induction h with
 | nil i => intro m hm; cases hm
 | ins y h ih =>
  intro m hm h3
  rcases List.mem_cons.1 hm with rfl | hm
  ·exact List.mem_cons_self
  ·exact List.mem_cons_of_mem _ (ih m hm h3)
 | del x h ih =>
  intro m hm h3
  rcases List.mem_cons.1 hm with rfl | hm
  ·exact absurd rfl h3
  ·exact ih m hm h3
 | set x y h ih =>
  intro m hm h3
  rcases List.mem_cons.1 hm with rfl | hm
  ·exact List.mem_cons_self
  ·exact List.mem_cons_of_mem _ (ih m hm h3)
 | keep x h ih =>
  intro m hm h3
  exact List.mem_cons_of_mem _ (ih m hm h3)
theorem zf8 : ∀ ms : List S63,zdJ ms ≤ zcD ms
 | [] => by simp [zdJ,zcD]
 | m :: ms => by
  have := zf8 ms
  simp only [zdJ,zcD]
  by_cases h1 : m.f0 = 1
  ·rw [if_pos h1,if_neg qk]; omega
  ·rw [if_neg h1]; split <;> omega
theorem zh5 (ys : List (List ByteArray)) (rt q : List ByteArray) (hl : rt.length + q.length ≤ 1000) :
  (rt = q → zeQ ys rt (dsp 0 rt q).2 = (0,0,0)) ∧
  (rt ≠ q → ∃ k a,zeQ ys rt (dsp 0 rt q).2 = (k,a,0) ∧ 1 ≤ k ∧ k ≤ 3 ∧ 0 ≤ a ∧ a ≤ rt.length ∧
   (k = 2 → ∃ x ∈ q,x ∉ rt ∧ ∃ p ∈ ys,x ∈ p) ∧ (k = 1 → zcJ rt q < rt.length)) := by
 have hM := zhW rt q 0
 constructor
 ·rintro rfl
  rw [zi2 rt 0 qk]; rfl
 ·intro hne
  cases hd : (dsp 0 rt q).2 with
  | nil => exact absurd (hM.nil_eq hd) hne
  | cons m d =>
   have hp := zhy rt q qk
   have hg := hM.grow
   have h0 := hM.ge m (by rw [hd]; exact List.mem_cons_self)
   have h1 := hM.zkk m (by rw [hd]; exact List.mem_cons_self)
   have h2 := hM.zjo m (by rw [hd]; exact List.mem_cons_self)
   rw [hd] at hp hg
   rw [zeQ]
   by_cases c3 : m.f0 = 3
   ·rw [if_pos c3]
    refine ⟨1,m.f1,rfl,by omega,by omega,by omega,by omega,fun h => (by cases h),fun _ => ?_⟩
    have := zf8 d
    unfold prS at hp
    simp only [zcD,zdJ,if_pos c3] at hp hg
    rw [if_neg qk] at hg
    omega
   ·rw [if_neg c3]
    by_cases c4 : m.f2 ∈ rt
    ·rw [if_pos c4]
     exact ⟨3,m.f1,rfl,by omega,by omega,by omega,by omega,fun h => (by cases h),fun h => (by cases h)⟩
    ·rw [if_neg c4]
     by_cases c5 : 0 ≤ zbO ys m.f2 ys.length
     ·rw [if_pos c5]
      exact ⟨2,m.f1,rfl,by omega,by omega,by omega,by omega,fun _ => ⟨m.f2,h2 c3,c4,(zis ys m.f2).1 c5⟩,fun h => (by cases h)⟩
     ·rw [if_neg c5]
      exact ⟨3,m.f1,rfl,by omega,by omega,by omega,by omega,fun h => (by cases h),fun h => (by cases h)⟩
theorem zfs : ∀ ys : List (List ByteArray),(∀ p ∈ ys,zaL p = 0) → zc0 ys = 0
 | [],_ => rfl
 | p :: ys,h => by rw [zc0,if_pos (h p List.mem_cons_self)]; exact zfs ys (fun q hq => h q (List.mem_cons_of_mem _ hq))
theorem zeE {ys : List (List ByteArray)} (h4 : ys.length ≤ 4) (h : ∀ p ∈ ys,zaL p = 0) : zcf ys = 0 := by
 unfold zcf; rw [if_neg qk]; exact zfs ys h
theorem ziL {ys : List (List ByteArray)} {p : List ByteArray} {ms : List S63} {rt : List ByteArray} (h4 : ys.length + 1 ≤ 4) (hy : ∀ q ∈ ys,zaL q = 0) (hp : zaL p = 0) (he : (zbI p ms).2 ≠ 0) : zep (ys ++ [p]) ms rt = (0,0,(zbI p ms).2) := by
 unfold zep
 rw [if_pos (zeE qH (fun q hq => by
  rcases List.mem_append.1 hq with h | h
  ·exact hy q h
  ·rw [List.mem_singleton.1 h]; exact hp)),if_neg qD]
 have e : (ys ++ [p]).getD ((ys ++ [p]).length - 1) [] = p := by simp
 rw [e,if_neg he]
theorem zih {ys : List (List ByteArray)} {p : List ByteArray} {ms : List S63} {rt right : List ByteArray} (h4 : ys.length + 1 ≤ 4) (hy : ∀ q ∈ ys,zaL q = 0) (hp : zaL p = 0) (he : zbI p ms = (right,0)) (hr : zaL rt = 0) : zep (ys ++ [p]) ms rt = zeQ ys right (dsp 0 right rt).2 := by
 unfold zep
 rw [if_pos (zeE qH (fun q hq => by
  rcases List.mem_append.1 hq with h | h
  ·exact hy q h
  ·rw [List.mem_singleton.1 h]; exact hp)),if_neg qD]
 have e : (ys ++ [p]).getD ((ys ++ [p]).length - 1) [] = p := by simp
 have e2 : (ys ++ [p]).take ((ys ++ [p]).length - 1) = ys := by simp
 rw [e,e2,he,if_pos rfl,if_pos hr]
theorem ziv (p q : List ByteArray) (hp : p.length ≤ 1000) (hq : q.length ≤ 1000) : ∃ r : Bool,Ev (fun k => zak.f k p q) r ∧ (r = true ↔ p = q) := by
 have go : ∀ (m i : Nat),p.length - i = m → i ≤ p.length → p.length = q.length → ∃ r : Bool,Ev (fun k => zak.l0 k p q (i : Int)) r ∧ (r = true ↔ p.drop i = q.drop i) := by
  intro m
  induction m with
  | zero =>
   intro i h hi he
   refine ⟨true,Ev.step (fun k => by rw [zak.l0]) (Ev.ifn qk (Ev.now _)),?_⟩
   rw [List.drop_eq_nil_of_le qk,List.drop_eq_nil_of_le qk]; simp
  | succ m ih =>
   intro i h hi he
   have hlt : i < p.length := by omega
   have hlt2 : i < q.length := by omega
   have r1 : zaE ByteArray.empty p (i : Int) = p[i] := by simp [zaE,hlt]
   have r2 : zaE ByteArray.empty q (i : Int) = q[i] := by simp [zaE,hlt2]
   obtain ⟨r,h1,h2⟩ := ih (i + 1) qk qk he
   rw [List.drop_eq_getElem_cons hlt,List.drop_eq_getElem_cons hlt2]
   by_cases hc : p[i].toList = q[i].toList
   ·refine ⟨r,?_,?_⟩
    ·refine Ev.step (fun k => by rw [zak.l0]) ?_
     refine Ev.ifp qk (Ev.ifp qk (Ev.ifp qk ?_))
     rw [r1,r2,zce i qk]
     exact Ev.ifp hc h1
    ·rw [h2,bytes_inj hc]; exact ⟨fun h => by rw [h],fun h => by injection h⟩
   ·refine ⟨false,?_,?_⟩
    ·refine Ev.step (fun k => by rw [zak.l0]) ?_
     refine Ev.ifp qk (Ev.ifp qk (Ev.ifp qk ?_))
     rw [r1,r2]
     exact Ev.ifn hc (Ev.now _)
    ·constructor
     ·intro h; cases h
     ·intro h; injection h with h3 h4; exact absurd (by rw [h3]) hc
 by_cases he : p.length = q.length
 ·obtain ⟨r,h1,h2⟩ := go p.length 0 qk qk he
  rw [List.drop_zero,List.drop_zero] at h2
  refine ⟨r,?_,h2⟩
  unfold zak.f
  exact Ev.ifp qk h1
 ·refine ⟨false,?_,?_⟩
  ·unfold zak.f
   exact Ev.ifn qk (Ev.now _)
  ·constructor
   ·intro h; cases h
   ·intro h; exact absurd (by rw [h]) he
theorem zit {W : World} {g la c6 : Nat} {ad : Addr} {Y : List (List ByteArray)} {A6 : Option Addr} {pl : List ByteArray} (hF : ∀ W',zq W W' g none → (Kd.slice 9 Kd.string).C W' (some ad) Y.length Y) (hla : la < Y.length) (hrd : zbo Y (la : Int) = pl)
  (hx : W.cell? (ad.add la) = some (.slice A6 pl.length c6)) : ∀ W',zq W W' g none → Kd.string.C W' A6 pl.length pl := by
 intro W' hk
 have hne := Kd.zjl hF qk qt
 obtain ⟨ad',A',c',e,hx',_,hC'⟩ := zdW (hF W' hk) (la : Int) qk qk
 injection e with e
 subst e
 rw [hrd] at hx' hC'
 rw [Int.toNat_natCast,zdY hk hx (by rw [add_block]; exact hne)] at hx'
 injection hx' with hx'
 injection hx' with h1
 rw [h1]; exact hC'
theorem zkn (d : Nat) (w : World) (x0 y0 : Int) (x1 y1 : Int) :
  (Op.equalIn (d + 2) 54 (.agg #[.int .i64 x0, .int .i64 x1]) (.agg #[.int .i64 y0, .int .i64 y1])).run Try.prog w = .ok (x0 == y0 && x1 == y1) w := by
 refine zin Try.underlying54 qj ?_
 refine zfk qB qS qS (by go_simp) ?_
 exact zgF qB qS qS (by go_simp)
attribute [local go_sem high] zkn
def zdz (ys : List (List ByteArray)) (x : ByteArray) : Bool := ys.any fun p => decide (x ∈ p)
def zc7 (ys : List (List ByteArray)) (rt : List ByteArray) (q : List ByteArray) : Bool := q.any fun x => zdz ys x && !decide (x ∈ rt)
theorem zil (ys : List (List ByteArray)) (x : ByteArray) (y : Nat) (h : y < ys.length) : zdz (ys.take (y + 1)) x = (zdz (ys.take y) x || decide (x ∈ ys[y])) := by
 unfold zdz; rw [List.take_succ_eq_append_getElem h,List.any_append]; simp
theorem zhD (ys : List (List ByteArray)) (rt q : List ByteArray) (k : Nat) (h : k < q.length) : zc7 ys rt (q.take (k + 1)) = (zc7 ys rt (q.take k) || (zdz ys q[k] && !decide (q[k] ∈ rt))) := by
 unfold zc7; rw [List.take_succ_eq_append_getElem h,List.any_append]; simp
theorem zgc {ys : List (List ByteArray)} {p : List ByteArray} {ms : List S63} {rt right : List ByteArray} (h4 : ys.length + 1 ≤ 4) (hy : ∀ q ∈ ys,zaL q = 0) (hp : zaL p = 0) (he : zbI p ms = (right,0)) (hr : zaL rt = 0) :
  ∃ k a : Int,zep (ys ++ [p]) ms rt = (k,a,0) ∧ ((right = rt ∧ k = 0 ∧ a = 0) ∨ (right ≠ rt ∧ 1 ≤ k ∧ k ≤ 3 ∧ 0 ≤ a ∧ a ≤ right.length ∧ (k = 2 → zc7 ys right rt = true) ∧ (k = 1 → zcJ right rt < right.length))) := by
 have l1 := zcq hr
 have l2 := zfE p ms
 rw [he] at l2
 rw [zih h4 hy hp he hr]
 obtain ⟨f1,f2⟩ := zh5 ys right rt (by dsimp only at l2; omega)
 by_cases e : right = rt
 ·exact ⟨0,0,f1 e, .inl ⟨e,rfl,rfl⟩⟩
 ·obtain ⟨k,a,g1,g2,g3,g4,g5,g6,g7⟩ := f2 e
  refine ⟨k,a,g1, .inr ⟨e,g2,g3,g4,g5,fun h => ?_,g7⟩⟩
  obtain ⟨x,x1,x2,p,x3,x4⟩ := g6 h
  unfold zc7 zdz
  rw [List.any_eq_true]
  refine ⟨x,x1,?_⟩
  rw [Bool.and_eq_true,List.any_eq_true]
  exact ⟨⟨p,x3,by simpa using x4⟩,by simpa using x2⟩
structure zhA (W : World) (b13 : Nat) (i : Nat) (q : List ByteArray) (D : Option Addr) (e : Nat) : Prop where
 c13 : W.cell? ⟨b13,i,none⟩ = some (.slice D q.length e)
 rq : Kd.string.C W D q.length q
 hq : q.length ≤ e
 ck : zaL q = 0
theorem zhA.below {W W' : World} {b13 i : Nat} {q : List ByteArray} {D : Option Addr} {e : Nat} (h : zhA W b13 i q D e) (hb : Below W.heap.size W W') : zhA W' b13 i q D e :=
 ⟨(hb.cell (World.block_lt_of_cell? W _ h.c13)).trans h.c13,Kd.zX h.rq hb,h.hq,h.ck⟩
set_option maxHeartbeats 16000000 in
set_option maxRecDepth 100000 in
theorem zg6 (A0 : Option Addr) (c0 : Nat) (l0 : List Int) (w : World) (hr0 : Kd.C (Kd.int .i64) w A0 l0.length l0) (hc0 : l0.length ≤ c0) (hl : l0.length ≤ 17592186044416) :
  Calls Try.prog 8 #[.slice A0 l0.length c0] w fun e w' => e = .returned (.bool true) ∧ Below w.heap.size w w' := by
 obtain ⟨ys0,t1,t2,⟨KY,y1⟩,y2,y3,y4⟩ := zi5 l0 hl 0 11400714819323198485 (Int.le_refl _) 3 qt
 obtain ⟨pl,u1,u2,p1,p2,p3,p4⟩ := zeX l0 t1 t2 y4 hl 4 qt 200 qt
 obtain ⟨mq,v1,v2,⟨KQ,m1⟩,m2,m3,m4⟩ := ziT l0 hl u1 u2 p4 pl.length 3 qk qk
 obtain ⟨KA,a1⟩ := zgw pl mq
 have a2 := zfE pl mq
 obtain ⟨⟨ra,re⟩,hap⟩ : ∃ x,zbI pl mq = x := ⟨_,rfl⟩
 rw [hap] at a1 a2
 obtain ⟨pq,s1,s2,g1,g2,g3,g4⟩ := zeX l0 v1 v2 m4 hl 4 qt 200 qt
 have gl : zaL pl = 0 := Good.check ⟨by omega,p3⟩
 have gq : zaL pq = 0 := Good.check ⟨by omega,g3⟩
 have gy : ∀ q ∈ ys0,zaL q = 0 := fun q hq => (y3 q hq).check
 have K := za.mk (And.intro (y1 KY (Nat.le_refl _)) (And.intro p1 (And.intro (m1 KQ (Nat.le_refl _)) (And.intro (a1 KA (Nat.le_refl _)) g1))))
 have HR := za.mk (And.intro hr0 hc0)
 have Z := za.mk (And.intro y2 (And.intro y3 (And.intro p2 (And.intro m2 a2))))
 have HF := za.mk (And.intro gy (And.intro gl (And.intro gq hap)))
 clear y1 p1 m1 a1 g1 hr0 hc0 y2 y3 p2 m2 a2 y4 p3 p4 m3 m4 g2 g3 g4 gl gq gy hap hl
 have HB := za.mk (Below.refl w.heap.size w)
 have hu54 := Try.underlying54
 go_enter Try.func8,Try.ntmps8
 go_wp2_with fail
 refine (zcs.calls _ _ l0 l0 0 11400714819323198485 w _ HB.out HR.out.1 HR.out.2 rfl).mono ?_
 rintro e w3 ⟨g,rfl,hI,hB,_⟩
 have HI := za.mk hI
 replace HB := za.mk hB
 have HG3 : za (g < w3.heap.size) := ⟨hI.lt⟩
 clear hI hB
 go_wp2_with fail
 refine (zo.calls KY g l0 0 11400714819323198485 3 ys0 t1 t2 w w3 HI.out HB.out K.out.1).mono ?_
 rintro e w4 ⟨vy,rfl,hS,hI,hB,hk⟩
 have SY : za (Kd.S (Kd.slice 9 Kd.string) 22 w4 w3.heap.size (fun k => w3.heap.size ≤ k ∧ k < w4.heap.size) vy ys0) := ⟨Kd.zbL (Kd.zf5 hS) (fun k hk => ⟨hk.2.1,hk.2.2.1⟩)⟩
 have HL34 : za (w3.heap.size ≤ w4.heap.size) := ⟨hk.1⟩
 obtain ⟨Ay,cy,ey⟩ := Kd.zjt hS
 subst ey
 replace HI := za.mk hI
 replace HB := za.mk hB
 clear hS hI hB hk
 go_wp2_with fail
 refine (zK.calls 200 g l0 t1 t2 4 pl u1 u2 w w4 HI.out HB.out K.out.2.1).mono ?_
 rintro e w5 ⟨vp,rfl,hR,hI,hB,hk⟩
 replace SY := za.mk (Kd.zc9 SY.out hk (fun k hk' => by have := HG3.out; omega))
 have RP := za.mk (Kd.zaO hR HL34.out)
 have RPb := za.mk (Kd.zcT hR)
 have HL45 : za (w4.heap.size ≤ w5.heap.size) := ⟨hk.1⟩
 obtain ⟨Av,cv,ev⟩ := Kd.za3 hR
 subst ev
 replace HI := za.mk hI
 replace HB := za.mk hB
 clear hR hI hB hk
 have HSB : za (∀ k,(Value.slice Ay ys0.length cy).ownBlock = some k → k < w4.heap.size) := ⟨fun k hk => ((Kd.S_R SY.out).1 k hk).2⟩
 obtain ⟨Y,hY⟩ : ∃ Y,ys0 ++ [pl] = Y := ⟨_,rfl⟩
 go_upto_region 3 with ((with_reducible refine za6 (b := .append) (xs := #[.tmp 25, .tmp 28]) rfl ?_); at_builtin; refine Kd.zgs (Kd.slice 9 Kd.string) (w0 := w5) w3.heap.size rfl (.tmp 25) (.tmp 28) 29 22 (.slice none 0 0) 24 rfl Try.underlying29 ziu rfl qt qk (.slice Ay ys0.length cy) ys0 pl [.slice Av pl.length cv] (fun _ => True) (fun k_ => some k_ = (.slice Av pl.length cv : Value).ownBlock) rfl rfl ?aP ?aQ (fun _ _ => trivial) ?aO (Below.refl _ _) ?aS ?aL ?_; (case aP => exact Kd.zjb (Kd.zav (Kd.zf1 rfl RP.out) (fun _ h_ => h_))); (case aQ => exact fun k_ hk_ => ⟨trivial,fun e_ => by have h1 := RPb.out k_ hk_.symm; have h2 := HSB.out k_ e_.symm; omega⟩); (case aO => exact Kd.zbL SY.out (fun k_ hk_ => ⟨trivial,fun e_ => by have h1 := RPb.out k_ e_.symm; omega⟩)); (case aS => exact Nat.le_trans HL34.out HL45.out); (case aL => have := Z.out.1; omega); intro v10 w6 ho hb hg hat; rw [hY] at ho; obtain ⟨AY,cY,rfl,hcY,hFY⟩ := zfz (Kd.S_R ho) HG3.out)
 replace HI := za.mk (HI.out.grown hg (HI.out.zhh SY.out qt))
 replace HB := za.mk (zbp HB.out (Nat.le_trans (Nat.le_of_lt_succ (Nat.lt_succ_of_le HI.out.ge)) (Nat.le_of_lt HG3.out)) hb)
 have FY := za.mk hFY
 have CY := za.mk hcY
 have HL6 : za (w3.heap.size ≤ w6.heap.size) := ⟨Nat.le_trans (Nat.le_trans HL34.out HL45.out) hb.size⟩
 obtain ⟨la,hla⟩ : ∃ n : Nat,ys0.length = n := ⟨_,rfl⟩
 have NY : za (Y.length = la + 1 ∧ (∀ j : Nat, ∀ h : j < ys0.length,zbo Y (j : Int) = ys0[j]) ∧ zbo Y (la : Int) = pl ∧ (∀ q ∈ ys0,q.length ≤ 6)) := ⟨by
  subst hY
  subst hla
  refine ⟨by simp,fun j h => ?_,by simp [zbo],fun q hq => (Z.out.2.1 q hq).1⟩
  simp [zbo,List.getElem?_append_left h,h]⟩
 have HYe := za.mk hY
 clear ho hb hg hat hFY hcY hY SY RP RPb HSB HL34 HL45
 have HLA : za (ys0.length = la ∧ la ≤ 3) := ⟨hla,by have := Z.out.1; omega⟩
 have hla2 : (Y.length : Int) - 1 = (la : Int) := by have := NY.out.1; omega
 have hw : IntKind.i64.wrap ((Y.length : Int) - 1) = (la : Int) := by have := HLA.out.2; rw [hla2]; exact IntWalk.i64_in _ qk
 have q1 : ((la : Int) < (Y.length : Int)) = True := eq_true qN
 have q2 : (la < Y.length) = True := eq_true qN
 have q3 : decide ((la : Int) < (Y.length : Int)) = true := decide_eq_true qN
 clear hla hla2
 obtain ⟨ad,A6,c6,eA,hx,hl6,_⟩ := zdW (zco FY.out) (la : Int) qk qN
 subst eA
 rw [Int.toNat_natCast,NY.out.2.2.1] at hx
 rw [NY.out.2.2.1] at hl6
 have FP := za.mk (zit FY.out qN NY.out.2.2.1 hx)
 have CP := za.mk hl6
 clear hl6
 go_wp2_with fail
 refine (zw.calls KQ g l0 u1 u2 pl.length 3 mq v1 v2 w w6 HI.out HB.out K.out.2.2.1).mono ?_
 rintro e w7 ⟨v,rfl,hR,hI,hB,hk⟩
 obtain ⟨Aq,cq,rfl,hc,hF⟩ := zfz hR (Nat.lt_of_lt_of_le HG3.out HL6.out)
 replace FY := za.mk (zbD FY.out hk)
 replace FP := za.mk (zbD FP.out hk)
 have Fq := za.mk hF
 have Cq := za.mk hc
 replace HI := za.mk hI
 replace HB := za.mk hB
 clear hF hc hI hB hk hR hx
 go_wp2_with fail
 refine (zbR.calls KA A6 c6 pl Aq cq mq ra re w7 (zco FP.out) CP.out (zco Fq.out) Cq.out K.out.2.2.2.1).mono ?_
 rintro e w8 ⟨v,rfl,hR,hb⟩
 obtain ⟨Ar,cr,rfl,hc,hF⟩ := zfz hR HI.out.lt
 have Fr := za.mk hF
 have Cr := za.mk hc
 replace FY := za.mk (zbD FY.out (zbi hb g))
 replace FP := za.mk (zbD FP.out (zbi hb g))
 replace Fq := za.mk (zbD Fq.out (zbi hb g))
 replace HI := za.mk (HI.out.below hb)
 replace HB := za.mk (zu HB.out hb)
 clear hR hb hc hF
 by_cases gre : re = 0
 ·subst gre
  obtain ⟨K3,h3⟩ := zfM Y mq ra
  obtain ⟨kk,ka,e3,hkk⟩ := zgc qW HF.out.1 HF.out.2.1 HF.out.2.2.2 (zgb (show (zbI pl mq).2 = 0 by rw [HF.out.2.2.2]) |> fun h => by rw [HF.out.2.2.2] at h; exact h)
  rcases hkk with ⟨_,rfl,rfl⟩ | ⟨hne,_⟩
  rotate_left
  ·exact absurd rfl hne
  rw [HYe.out] at e3
  rw [e3] at h3
  have K3' := za.mk (h3 K3 (Nat.le_refl _))
  clear h3 e3
  have d1 : decide ((ra.length : Int) > 6) = false := decide_eq_false qR
  have d2 : decide (6 < (ra.length : Int)) = false := decide_eq_false qR
  have d3 : decide (6 < ra.length) = false := decide_eq_false qR
  go_wp2_with fail
  refine (zb2.calls K3 (some ad) cY Y Aq cq mq Ar cr ra 0 0 0 w8 (zco FY.out) CY.out (zco Fq.out) Cq.out (zco Fr.out) Cr.out K3'.out).mono ?_
  rintro e w9 ⟨rfl,hb⟩
  replace FY := za.mk (zbD FY.out (zbi hb g))
  replace FP := za.mk (zbD FP.out (zbi hb g))
  replace Fq := za.mk (zbD Fq.out (zbi hb g))
  replace Fr := za.mk (zbD Fr.out (zbi hb g))
  replace HI := za.mk (HI.out.below hb)
  replace HB := za.mk (zu HB.out hb)
  clear hb K3' d1 d2 d3
  go_upto_region 12 with fail
  have B11 := heap_alloc_new w9 (.cells #[.int .i64 0, .int .i64 0] 54)
  have hb := ze (Below.refl w9.heap.size w9) (.cells #[.int .i64 0, .int .i64 0] 54)
  replace FY := za.mk (zbD FY.out (zbi hb g))
  replace FP := za.mk (zbD FP.out (zbi hb g))
  replace Fq := za.mk (zbD Fq.out (zbi hb g))
  replace Fr := za.mk (zbD Fr.out (zbi hb g))
  replace HI := za.mk (HI.out.below hb)
  replace HB := za.mk (zu HB.out hb)
  clear hb
  obtain ⟨w10,hw10⟩ : ∃ u_,w9.alloc (.cells #[.int .i64 0, .int .i64 0] 54) = u_ := ⟨_,rfl⟩
  rw [hw10] at FY FP Fq Fr HI HB B11 ⊢
  clear hw10
  have z0 := (zh B11 0).trans rfl
  have z1 := (zh B11 1).trans rfl
  clear B11
  go_wp2_with fail
  clear z0 z1
  refine (zK.calls 200 g l0 v1 v2 4 pq s1 s2 w w10 HI.out HB.out K.out.2.2.2.2).mono ?_
  rintro e w11 ⟨v,rfl,hR,hI,hB,hk⟩
  obtain ⟨Ap,cp,rfl,hc,hF⟩ := zfz hR HI.out.lt
  have RQ := za.mk (And.intro (zco hF) hc)
  have RY := za.mk (FY.out _ hk)
  have RP := za.mk (FP.out _ hk)
  have Rq := za.mk (Fq.out _ hk)
  have Rr := za.mk (Fr.out _ hk)
  replace HB := za.mk hB
  clear hF hc hI hB hk hR FY FP Fq Fr HI K
  go_upto_region 15 with fail
  have X13 := heap_alloc_new w11 (.cells #[.slice Ap pq.length cp, .slice A6 pl.length c6, .slice none 0 0] 22)
  have hb := ze (Below.refl w11.heap.size w11) (.cells #[.slice Ap pq.length cp, .slice A6 pl.length c6, .slice none 0 0] 22)
  replace RQ := za.mk (zbw RQ.out hb)
  replace RY := za.mk (And.intro (Kd.zX RY.out hb) CY.out)
  replace RP := za.mk (Kd.zX RP.out hb)
  replace Rq := za.mk (And.intro (Kd.zX Rq.out hb) Cq.out)
  replace Rr := za.mk (And.intro (Kd.zX Rr.out hb) Cr.out)
  replace HB := za.mk (zu HB.out hb)
  clear hb
  obtain ⟨wL,hwL⟩ : ∃ u_,w11.alloc (.cells #[.slice Ap pq.length cp, .slice A6 pl.length c6, .slice none 0 0] 22) = u_ := ⟨_,rfl⟩
  obtain ⟨b13,hb13⟩ : ∃ u_,w11.heap.size = u_ := ⟨_,rfl⟩
  rw [hwL] at RQ RY RP Rq Rr HB X13 ⊢
  rw [hb13] at X13 ⊢
  clear hwL hb13
  have HE : za (∀ i : Nat,i < 3 → ∃ q D e,zhA wL b13 i q D e) := ⟨fun i hi => by
   have z := fun k => zh X13 k
   match i,hi with
   | 0,_ => exact ⟨pq,Ap,cp,⟨z 0,RQ.out.1,RQ.out.2,HF.out.2.2.1⟩⟩
   | 1,_ => exact ⟨pl,A6,c6,⟨z 1,RP.out,CP.out,HF.out.2.1⟩⟩
   | 2,_ => exact ⟨[],none,0,⟨z 2,Kd.zhs _ _,Nat.le_refl _,rfl⟩⟩⟩
  clear X13 RQ RP CP CY Cq Cr
  go_wp2_with fail
  go_loopw [14] (fun v14 W => ∃ i : Nat,i ≤ 3 ∧ v14 = .int .i64 i ∧ za (Below wL.heap.size wL W)) (fun v14 _ => 3 - (intOf v14).toNat)
  case atStart => exact ⟨0,by omega,rfl,⟨Below.refl _ _⟩⟩
  case round =>
   obtain ⟨i,hi3,rfl,HBr⟩ := hrel
   by_cases hlt : i < 3
   ·have e1 : decide ((i : Int) < 3) = true := decide_eq_true qk
    have e2 : decide (i < 3) = true := decide_eq_true hlt
    have e3 : ((i : Int) < 3) = True := eq_true qk
    obtain ⟨q,D,e,hT⟩ := HE.out i hlt
    have HT := za.mk (hT.below HBr.out)
    have RYr := za.mk (zbw RY.out HBr.out)
    have Rqr := za.mk (zbw Rq.out HBr.out)
    have Rrr := za.mk (zbw Rr.out HBr.out)
    clear hT
    have HQ6 := za.mk (zcq HT.out.ck)
    obtain ⟨K3,h3⟩ := zfM Y mq q
    obtain ⟨wk,wa,e4,hkk⟩ := zgc qW HF.out.1 HF.out.2.1 HF.out.2.2.2 HT.out.ck
    rw [HYe.out] at e4
    rw [e4] at h3
    obtain ⟨r,⟨K4,h4⟩,hr⟩ := ziv ra q qR (by have := HQ6.out; omega)
    have KK := za.mk (And.intro (h3 K3 (Nat.le_refl _)) (h4 K4 (Nat.le_refl _)))
    have HKK : za ((r = true ∧ wk = 0 ∧ wa = 0) ∨ (r = false ∧ 1 ≤ wk ∧ wk ≤ 3 ∧ 0 ≤ wa ∧ wa ≤ ra.length ∧ (wk = 2 → zc7 ys0 ra q = true) ∧ (wk = 1 → zcJ ra q < ra.length))) := ⟨by
     rcases hkk with ⟨h1,h2,h3⟩ | ⟨h1,h2⟩
     ·exact .inl ⟨hr.2 h1,h2,h3⟩
     ·refine .inr ⟨?_,h2⟩
      cases r with
      | false => rfl
      | true => exact absurd (hr.1 rfl) h1⟩
    clear h3 e4 h4 hr hkk
    have hc13 := HT.out.c13
    go_wp2_with fail
    refine (zb2.calls K3 (some ad) cY Y Aq cq mq D e q wk wa 0 wr RYr.out.1 RYr.out.2 Rqr.out.1 Rqr.out.2 HT.out.rq HT.out.hq KK.out.1).mono ?_
    rintro e_ w12 ⟨rfl,hb⟩
    clear hc13
    replace HT := za.mk (HT.out.below hb)
    replace RYr := za.mk (zbw RYr.out hb)
    replace Rrr := za.mk (zbw Rrr.out hb)
    have HW := za.mk hb
    clear hb Rqr
    go_upto_region 19 with fail
    have hb := ze (Below.refl w12.heap.size w12) (.cells #[.int .i64 wk, .int .i64 wa] 54)
    have B15 := za.mk (heap_alloc_new w12 (.cells #[.int .i64 wk, .int .i64 wa] 54))
    replace HT := za.mk (HT.out.below hb)
    replace RYr := za.mk (zbw RYr.out hb)
    replace Rrr := za.mk (zbw Rrr.out hb)
    replace HW := za.mk (zu HW.out hb)
    clear hb
    obtain ⟨w13,hw13⟩ : ∃ u_,w12.alloc (.cells #[.int .i64 wk, .int .i64 wa] 54) = u_ := ⟨_,rfl⟩
    obtain ⟨b15,hb15⟩ : ∃ u_,w12.heap.size = u_ := ⟨_,rfl⟩
    rw [hw13] at HT RYr Rrr HW B15 ⊢
    rw [hb15] at B15 ⊢
    clear hw13 hb15
    have hc13 := HT.out.c13
    go_wp2_with fail
    refine (zak.calls K4 Ar cr ra D e q r w13 Rrr.out.1 Rrr.out.2 HT.out.rq HT.out.hq KK.out.2).mono ?_
    rintro e_ w14 ⟨rfl,hd⟩
    have hb := zea hd
    clear hd hc13
    replace B15 := za.mk (zB B15.out hb)
    replace HT := za.mk (HT.out.below hb)
    replace RYr := za.mk (zbw RYr.out hb)
    replace Rrr := za.mk (zbw Rrr.out hb)
    replace HW := za.mk (zu HW.out hb)
    clear hb
    go_upto_region 20 with fail
    go_cut [137] (fun v137 W => v137 = .bool false ∧ za (Below w14.heap.size w14 W))
    case first =>
     as_aux_lemma =>
     have z0 := (zh B15.out 0).trans rfl
     have z1 := (zh B15.out 1).trans rfl
     have HS : za (Below w14.heap.size w14 w14) := ⟨Below.refl _ _⟩
     rcases HKK.out with ⟨rfl,rfl,rfl⟩ | ⟨rfl,n1,n2,n3,n4,_,_⟩
     ·go_wp2_with fail
      go_meet
      case rel => exact ⟨rfl,HS⟩
     ·have f1 : (wk == 0) = false := beq_eq_false_iff_ne.2 qk
      have f2 : decide (wk < 1) = false := decide_eq_false qk
      have f3 : decide (wk > 3) = false := decide_eq_false qk
      have f4 : decide (3 < wk) = false := decide_eq_false qk
      have f5 : decide (wa < 0) = false := decide_eq_false qk
      have f6 : decide ((ra.length : Int) < wa) = false := decide_eq_false qk
      have f7 : decide (wa > (ra.length : Int)) = false := decide_eq_false qk
      clear n1 n2 n3 n4
      go_wp2_with fail
      go_meet
      case rel => exact ⟨rfl,HS⟩
    case rest =>
     obtain ⟨rfl,HWc⟩ := hcut
     replace B15 := za.mk (zB B15.out HWc.out)
     replace HT := za.mk (HT.out.below HWc.out)
     replace RYr := za.mk (zbw RYr.out HWc.out)
     replace Rrr := za.mk (zbw Rrr.out HWc.out)
     replace HW := za.mk (zu HW.out HWc.out)
     clear HWc
     go_wp2_with fail
     go_loopw [18,19] (fun v18 v19 W => ∃ k : Nat,k ≤ q.length ∧ v19 = .int .i64 k ∧ v18 = .bool (zc7 ys0 ra (q.take k)) ∧ za (Below wc.heap.size wc W)) (fun _ v19 _ => q.length - (intOf v19).toNat)
     case atStart => exact ⟨0,by omega,rfl,by rw [List.take_zero]; rfl,⟨Below.refl _ _⟩⟩
     case round =>
      obtain ⟨k,hk,rfl,rfl,HBk⟩ := hrel
      have B15k := za.mk (zB B15.out HBk.out)
      have HTk := za.mk (HT.out.below HBk.out)
      have RYk := za.mk (zbw RYr.out HBk.out)
      have Rrk := za.mk (zbw Rrr.out HBk.out)
      have hc13 := HTk.out.c13
      have hq6 : q.length ≤ 6 := HQ6.out
      by_cases hkl : k < q.length
      ·have k1 : decide ((k : Int) < (q.length : Int)) = true := decide_eq_true qk
       have k2 : decide (k < q.length) = true := decide_eq_true hkl
       have k3 : ((k : Int) < (q.length : Int)) = True := eq_true qk
       obtain ⟨x,hx⟩ : ∃ x,q[k] = x := ⟨_,rfl⟩
       have HX := za.mk (And.intro hkl (show zc7 ys0 ra (q.take (k + 1)) = (zc7 ys0 ra (q.take k) || (zdz ys0 x && !decide (x ∈ ra))) by rw [← hx]; exact zhD ys0 ra q k hkl))
       have hrd : zaE ByteArray.empty q (k : Int) = x := by simp [zaE,hkl,hx]
       clear hx
       obtain ⟨bk,hbk⟩ : ∃ b,zc7 ys0 ra (q.take k) = b := ⟨_,rfl⟩
       rw [hbk] at HX ⊢
       clear hbk
       go_wp2_with fail
       clear hc13
       go_loopw [20,21] (fun v20 v21 W => ∃ y : Nat,y ≤ la ∧ v21 = .int .i64 y ∧ v20 = .bool (zdz (ys0.take y) x) ∧ za (Below wr.heap.size wr W)) (fun _ v21 _ => la - (intOf v21).toNat)
       case atStart => exact ⟨0,by omega,rfl,by rw [List.take_zero]; rfl,⟨Below.refl _ _⟩⟩
       case round =>
        obtain ⟨y,hy,rfl,rfl,HBy⟩ := hrel
        have HTy := za.mk (HTk.out.below HBy.out)
        have RYy := za.mk (zbw RYk.out HBy.out)
        have hla3 : la ≤ 3 := HLA.out.2
        by_cases hyl : y < la
        ·as_aux_lemma =>
         have j1 : decide ((y : Int) < (la : Int)) = true := decide_eq_true qk
         have j2 : decide (y < la) = true := decide_eq_true hyl
         have hys : y < ys0.length := by rw [HLA.out.1]; exact hyl
         have HO := za.mk (zil ys0 x y hys)
         have HYR : za (zbo Y (y : Int) = ys0[y]) := ⟨NY.out.2.1 y hys⟩
         obtain ⟨K5,h5⟩ := zjh ys0[y] x (by have := NY.out.2.2.2 _ (List.getElem_mem hys); omega)
         have KO := za.mk (h5 K5 (Nat.le_refl _))
         obtain ⟨yb,hyb⟩ : ∃ p,ys0[y] = p := ⟨_,rfl⟩
         rw [hyb] at HO KO HYR
         obtain ⟨ob,hob⟩ : ∃ b,zdz (ys0.take y) x = b := ⟨_,rfl⟩
         rw [hob] at HO ⊢
         clear h5 hyb hob hys
         obtain ⟨adq,eD,hxs⟩ := Kd.zbb HTy.out.rq (k : Int) qk (by have := HX.out.1; omega)
         subst eD
         rw [hrd,Int.toNat_natCast] at hxs
         obtain ⟨ad2,A2,c2,eY,hxy,hl2,hC2⟩ := zdW RYy.out.1 (y : Int) qk qN
         injection eY with eY
         subst eY
         rw [Int.toNat_natCast,HYR.out] at hxy
         rw [HYR.out] at hl2 hC2
         have H2 := za.mk (And.intro hC2 hl2)
         clear hl2 hC2
         have y3 : ((y : Int) < (Y.length : Int)) = True := eq_true qN
         have y4 : (y < Y.length) = True := eq_true qN
         have y5 : (k < q.length) = True := eq_true HX.out.1
         have hc13 := HTy.out.c13
         go_upto_region 30 with fail
         refine zaF (fun W' => W'.cell? (ad.add y) = some (.slice A2 yb.length c2) ∧ W'.cell? ⟨b13,i,none⟩ = some (.slice (some adq) q.length e) ∧ W'.cell? (adq.add k) = some (.string x)) [] qj ?_
         have HS : wr.drew.cell? (ad.add y) = some (.slice A2 yb.length c2) ∧ wr.drew.cell? ⟨b13,i,none⟩ = some (.slice (some adq) q.length e) ∧ wr.drew.cell? (adq.add k) = some (.string x) := ⟨hxy,hc13,hxs⟩
         have hbd := zf (Below.refl wr.heap.size wr)
         clear hxy hc13 hxs
         cases ob with
         | true =>
          refine tk 0 ?_
          (try simp only [pu0,pu1,pu2,pu3,pu4])
          refine tk 1 ?_
          (try simp only [pu0,pu1,pu2,pu3,pu4])
          refine tkn 2 ?_
          (try simp only [pu0,pu1,pu2,pu3,pu4])
          refine tkn 3 ?_
          (try simp only [pu0,pu1,pu2,pu3,pu4])
          refine tkn 4 ?_
          (try simp only [pu0,pu1,pu2,pu3,pu4])
          refine tkn 5 ?_
          (try simp only [pu0,pu1,pu2,pu3,pu4])
          refine tkn 6 ?_
          (try simp only [pu0,pu1,pu2,pu3,pu4])
          refine tkn 7 ?_
          (try simp only [pu0,pu1,pu2,pu3,pu4])
          refine tkn 8 ?_
          (try simp only [pu0,pu1,pu2,pu3,pu4])
          refine tkn 9 ?_
          (try simp only [pu0,pu1,pu2,pu3,pu4])
          refine tkn 10 ?_
          (try simp only [pu0,pu1,pu2,pu3,pu4])
          refine tkn 11 ?_
          (try simp only [pu0,pu1,pu2,pu3,pu4])
          refine tkn 12 ?_
          (try simp only [pu0,pu1,pu2,pu3,pu4])
          refine tkn 13 ?_
          (try simp only [pu0,pu1,pu2,pu3,pu4])
          refine tk 14 ?_
          (try simp only [pu0,pu1,pu2,pu3,pu4])
          refine tk 15 ?_
          (try simp only [pu0,pu1,pu2,pu3,pu4])
          refine zau qj ?_ _
          clear HS
          have HBn := za.mk (zu HBy.out hbd)
          clear hbd
          go_wp2_with fail
          go_roundw
          case rel => exact ⟨y + 1,by omega,by go_num,by rw [HO.out]; rfl,HBn⟩
          case measure => simp [intOf]; omega
         | false =>
          refine tk 0 ?_
          (try simp only [pu0,pu1,pu2,pu3,pu4])
          refine tk 1 ?_
          (try simp only [pu0,pu1,pu2,pu3,pu4])
          refine tk 2 ?_
          (try simp only [pu0,pu1,pu2,pu3,pu4])
          refine tk 3 ?_
          (try simp only [pu0,pu1,pu2,pu3,pu4])
          refine tk 4 ?_
          (try simp only [pu0,pu1,pu2,pu3,pu4])
          refine tk 5 ?_
          (try simp only [pu0,pu1,pu2,pu3,pu4])
          refine tk 6 ?_
          (try simp only [pu0,pu1,pu2,pu3,pu4])
          refine tk 7 ?_
          (try simp only [pu0,pu1,pu2,pu3,pu4])
          refine tk 8 ?_
          (try simp only [pu0,pu1,pu2,pu3,pu4])
          refine tk 9 ?_
          (try simp only [pu0,pu1,pu2,pu3,pu4])
          refine tk 10 ?_
          (try simp only [pu0,pu1,pu2,pu3,pu4])
          refine tk 11 ?_
          (try simp only [pu0,pu1,pu2,pu3,pu4])
          refine tk 12 ?_
          (try simp only [pu0,pu1,pu2,pu3,pu4])
          refine on1 13 fun K hK => ?_
          refine zbJ Try.func42 qj rfl #[.slice A2 yb.length c2, .string x] qB rfl rfl qv ?_
          refine (zaD.calls K5 A2 c2 yb x _ wr.drew (Kd.zX H2.out.1 hbd) H2.out.2 KO.out).mono ?_
          rintro e_ wo ⟨rfl,hd⟩
          refine ⟨_,rfl,?_⟩
          have hbo := zea hd
          clear hd
          have HS' : wo.cell? (ad.add y) = some (.slice A2 yb.length c2) ∧ wo.cell? ⟨b13,i,none⟩ = some (.slice (some adq) q.length e) ∧ wo.cell? (adq.add k) = some (.string x) := by
           exact ⟨(hbo.cell (World.block_lt_of_cell? _ _ HS.1)).trans HS.1,(hbo.cell (World.block_lt_of_cell? _ _ HS.2.1)).trans HS.2.1,(hbo.cell (World.block_lt_of_cell? _ _ HS.2.2)).trans HS.2.2⟩
          have HBn := za.mk (zu (zu HBy.out hbd) hbo)
          clear HS
          have HS := HS'
          clear HS'
          refine hK.out _ _ (fun _ => HS) ?_
          clear hK K hbd hbo
          (try simp only [pu0,pu1,pu2,pu3,pu4])
          refine tk 14 ?_
          (try simp only [pu0,pu1,pu2,pu3,pu4])
          refine tk 15 ?_
          (try simp only [pu0,pu1,pu2,pu3,pu4])
          refine zau qj ?_ _
          clear HS
          go_wp2_with fail
          go_roundw
          case rel => exact ⟨y + 1,by omega,by go_num,by rw [HO.out]; rfl,HBn⟩
          case measure => simp [intOf]; omega
        ·as_aux_lemma =>
         obtain rfl : y = la := by omega
         have hob0 : zdz (ys0.take y) x = zdz ys0 x := by rw [List.take_of_length_le (by have := HLA.out.1; omega)]
         obtain ⟨ob,hob⟩ : ∃ b,zdz ys0 x = b := ⟨_,rfl⟩
         rw [hob0,hob]
         rw [hob] at HX
         obtain ⟨K6,h6⟩ := zjh ra x qR
         obtain ⟨xb,hxb⟩ : ∃ b,decide (x ∈ ra) = b := ⟨_,rfl⟩
         rw [hxb] at h6 HX
         have KX := za.mk (h6 K6 (Nat.le_refl _))
         clear h6 hxb hob0 hob
         have y5 : (k < q.length) = True := eq_true HX.out.1
         have y6 : decide ((y : Int) < (y : Int)) = false := decide_eq_false qk
         have hc13 := HTy.out.c13
         have Rry := za.mk (zbw Rrk.out HBy.out)
         obtain ⟨adq,eD,hxs⟩ := Kd.zbb HTy.out.rq (k : Int) qk (by have := HX.out.1; omega)
         subst eD
         rw [hrd,Int.toNat_natCast] at hxs
         have HBn := za.mk (zu HBk.out HBy.out)
         have h1 := HX.out.1
         cases bk with
         | true =>
          go_wp2_with fail
          go_roundw
          case rel => exact ⟨k + 1,by omega,by go_num,by rw [HX.out.2]; rfl,HBn⟩
          case measure => simp [intOf]; omega
         | false =>
          cases ob with
          | false =>
           go_wp2_with fail
           go_roundw
           case rel => exact ⟨k + 1,by omega,by go_num,by rw [HX.out.2]; rfl,HBn⟩
           case measure => simp [intOf]; omega
          | true =>
           go_wp2_with fail
           refine (zaD.calls K6 Ar cr ra x xb wr Rry.out.1 Rry.out.2 KX.out).mono ?_
           rintro e_ wo ⟨rfl,hd⟩
           replace HBn := za.mk (zu HBn.out (zea hd))
           clear hd hc13 hxs
           go_wp2_with fail
           go_roundw
           case rel => exact ⟨k + 1,by omega,by go_num,by rw [HX.out.2]; rfl,HBn⟩
           case measure => simp [intOf]; omega
      ·as_aux_lemma =>
       obtain rfl : k = q.length := by omega
       rw [List.take_length]
       have k1 : decide ((q.length : Int) < (q.length : Int)) = false := decide_eq_false qk
       have k2 : decide (q.length < q.length) = false := decide_eq_false qk
       have z0 := (zh B15k.out 0).trans rfl
       have z1 := (zh B15k.out 1).trans rfl
       have HBn := za.mk (zu (zu HBr.out HW.out) HBk.out)
       obtain ⟨bk,hbk⟩ : ∃ b,zc7 ys0 ra q = b := ⟨_,rfl⟩
       have HB3 : za (wk = 2 → bk = true) := ⟨fun h => by
        rcases HKK.out with ⟨_,h2,_⟩ | ⟨_,_,_,_,_,h2,_⟩
        ·omega
        ·rw [← hbk]; exact h2 h⟩
       rw [hbk]
       clear hbk
       by_cases w2 : wk = 2
       ·subst w2
        obtain rfl := HB3.out rfl
        go_wp2_with fail
        go_roundw
        case rel => exact ⟨i + 1,by omega,by go_num,HBn⟩
        case measure => simp [intOf]; omega
       ·have f1 : (wk == 2) = false := beq_eq_false_iff_ne.2 w2
        by_cases w1 : wk = 1
        ·subst w1
         obtain ⟨K8,h8⟩ := zhU ra q qR qk
         have KC := za.mk (h8 K8 (Nat.le_refl _))
         have hlc : zcJ ra q < ra.length := by
          rcases HKK.out with ⟨_,h2,_⟩ | ⟨_,_,_,_,_,_,h2⟩
          ·omega
          ·exact h2 rfl
         obtain ⟨lc,hlce⟩ : ∃ n,zcJ ra q = n := ⟨_,rfl⟩
         rw [hlce] at KC hlc
         have f2 : decide ((ra.length : Int) ≤ (lc : Int)) = false := decide_eq_false qk
         have f3 : decide (ra.length ≤ lc) = false := decide_eq_false qk
         clear h8 hlc hlce w2
         go_wp2_with fail
         refine (zU.calls K8 Ar cr ra D e q (lc : Int) wr Rrk.out.1 Rrk.out.2 HTk.out.rq HTk.out.hq KC.out).mono ?_
         rintro e_ wo ⟨rfl,hd⟩
         replace HBn := za.mk (zu HBn.out hd)
         clear hd
         go_wp2_with fail
         go_roundw
         case rel => exact ⟨i + 1,by omega,by go_num,HBn⟩
         case measure => simp [intOf]; omega
        ·have f2 : (wk == 1) = false := beq_eq_false_iff_ne.2 w1
         clear w1 w2
         go_wp2_with fail
         go_roundw
         case rel => exact ⟨i + 1,by omega,by go_num,HBn⟩
         case measure => simp [intOf]; omega
   ·obtain rfl : i = 3 := by omega
    go_wp2_with fail
    refine (zd5 wr).mono ?_
    rintro e wz ⟨rfl,hb⟩
    replace HB := za.mk (zu (zu HB.out HBr.out) hb)
    clear hb
    go_wp2_with fail
    go_ret
    exact ⟨rfl,HB.out⟩
 ·as_aux_lemma =>
  have t0 : (re != 0) = true := bne_iff_ne.2 gre
  have t0' : (re == 0) = false := beq_eq_false_iff_ne.2 gre
  obtain ⟨K3,h3⟩ := zfM Y mq []
  have e3 := ziL (rt := []) qW HF.out.1 HF.out.2.1 (show (zbI pl mq).2 ≠ 0 by rw [HF.out.2.2.2]; exact gre)
  rw [HF.out.2.2.2,HYe.out] at e3
  rw [e3] at h3
  have K3' := za.mk (h3 K3 (Nat.le_refl _))
  clear h3 e3
  go_wp2_with fail
  refine (zb2.calls K3 (some ad) cY Y Aq cq mq none 0 [] 0 0 re w8 (zco FY.out) CY.out (zco Fq.out) Cq.out (Kd.zhs _ _) (Nat.le_refl _) K3'.out).mono ?_
  rintro e w9 ⟨rfl,hb⟩
  replace HB := za.mk (zu HB.out hb)
  clear hb
  go_wp2_with fail
  refine (zd5 _).mono ?_
  rintro e wz ⟨rfl,hb⟩
  replace HB := za.mk (zu (zu HB.out (ze (Below.refl _ _) _)) hb)
  clear hb
  go_wp2_with fail
  go_ret
  exact ⟨rfl,HB.out⟩
theorem zg5 (a0 : Option Addr) (len0 cap0 : Nat) (z0 : List Int) (w : World) (w0 : (a0 = none ∧ len0 = 0 ∧ cap0 = 0 ∧ z0 = []) ∨ ∃ x,a0 = some x ∧ len0 ≤ cap0 ∧ cap0 ≤ maxLen ∧ z0.length = cap0 ∧ (∀ i,i < z0.length → w.cell? (x.add i) = some (.int .i64 (z0.getD i 0))) ∧ ∀ n ∈ z0,(Lit.int .i64 n).wf = true) (y0 : len0 * 8 ≤ 140737488351232) :
  Calls Try.prog 8 #[.slice a0 len0 cap0] w fun e w' => e = .returned (.bool true) ∧ Below w.heap.size w w' := by
 obtain ⟨l0,rfl,hr0,hm0,hw0,hc0⟩ := zaZ.zjX w0
 exact zg6 _ _ l0 w (Kd.zer (d := (0 : Int)) (h1 := fun _ => rfl) hr0) hc0 qk
end Go.Proofs.Ytgmbbfmbimofoaa.P
