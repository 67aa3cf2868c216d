-- MERGED BY A PROGRAM out of texts of this claim: hand work, and what a (turned) print of the kit has written for it
import Derived.Test.YtgmbbfmbimofoaaMk5
import Derived.Test.YtgmbbfmbimofoaaMk12
import Derived.Test.YtgmbbfmbimofoaaMk6
namespace Go.Proofs.Ytgmbbfmbimofoaa.P
open Go.RowKit Go.Proofs.YtgmbbfmbimofoaaW.PrintWords Go.Proofs.YtgmbbfmbimofoaaW.PrintLast Go.Proofs.YtgmbbfmbimofoaaW.PrintMore
attribute [local go_sem] zH zI zP zO zC zB zJ zK
set_option linter.unusedVariables false
set_option linter.unusedSimpArgs false
attribute [local go_sem high] zff
def zbS.f (k : Nat) (l0 : List ByteArray) (l1 : List ByteArray) : Option ((List (S63)) × Int) := (zY.f k l0).bind fun t106 => (if t106 = 0 then ((zY.f k l1).bind fun t107 => (if t107 = 0 then ((zbl.f l0 l1).bind fun t108 => (some (t108,0))) else (some (([] : List (S63)),t107)))) else (some (([] : List (S63)),t106)))
set_option maxHeartbeats 8000000 in
set_option maxRecDepth 100000 in
theorem zbS.calls (k : Nat) (A0 : Option Addr) (c0 : Nat) (l0 : List ByteArray) (A1 : Option Addr) (c1 : Nat) (l1 : List ByteArray) (r1 : List (S63)) (r2 : Int) (w : World) (hr0 : Kd.C Kd.string w A0 l0.length l0) (hc0 : l0.length ≤ c0) (hr1 : Kd.C Kd.string w A1 l1.length l1) (hc1 : l1.length ≤ c1) (h : zbS.f k l0 l1 = some (r1,r2)) :
  Calls Try.prog 22 #[.slice A0 l0.length c0, .slice A1 l1.length c1] w fun e w' => ∃ v0_ : Value,e = .returned (.tuple #[v0_, .int .i64 r2]) ∧ Kd.R k63 63 w' w.heap.size (fun _ => True) v0_ r1 ∧ Below w.heap.size w w' := by
 have HR0 := za.mk hr0
 have HC0 := za.mk hc0
 clear hr0 hc0
 have HR1 := za.mk hr1
 have HC1 := za.mk hc1
 clear hr1 hc1
 have HB := za.mk (Below.refl w.heap.size w)
 have H : ((zY.f k l0).bind fun t106 => (if t106 = 0 then ((zY.f k l1).bind fun t107 => (if t107 = 0 then ((zbl.f l0 l1).bind fun t108 => (some (t108,0))) else (some (([] : List (S63)),t107)))) else (some (([] : List (S63)),t106)))) = some (r1,r2) := h
 clear h
 replace H := Option.bind_eq_some_iff.mp H
 obtain ⟨t106,A30,H⟩ := H
 replace H : (if t106 = 0 then ((zY.f k l1).bind fun t107 => (if t107 = 0 then ((zbl.f l0 l1).bind fun t108 => (some (t108,0))) else (some (([] : List (S63)),t107)))) else (some (([] : List (S63)),t106))) = some (r1,r2) := H
 have A3 := za.mk A30
 clear A30
 by_cases c4 : t106 = 0
 ·rw [if_pos c4] at H
  have c4b0 : (t106 == 0) = true := beq_iff_eq.mpr c4
  have c4b1 : (t106 != 0) = false := bne_eq_false_iff_eq.mpr c4
  clear c4
  replace H := Option.bind_eq_some_iff.mp H
  obtain ⟨t107,A50,H⟩ := H
  replace H : (if t107 = 0 then ((zbl.f l0 l1).bind fun t108 => (some (t108,0))) else (some (([] : List (S63)),t107))) = some (r1,r2) := H
  have A5 := za.mk A50
  clear A50
  by_cases c6 : t107 = 0
  ·rw [if_pos c6] at H
   have c6b0 : (t107 == 0) = true := beq_iff_eq.mpr c6
   have c6b1 : (t107 != 0) = false := bne_eq_false_iff_eq.mpr c6
   clear c6
   replace H := Option.bind_eq_some_iff.mp H
   obtain ⟨t108,A70,H⟩ := H
   replace H : (some (t108,0)) = some (r1,r2) := H
   have A7 := za.mk A70
   clear A70
   simp only [Option.some.injEq,Prod.mk.injEq] at H
   obtain ⟨rfl,rfl⟩ := H
   go_enter Try.func22,Try.ntmps22
   go_wp2_with (first | ((with_reducible refine zA (f := 46) rfl ?_); refine zW (some 9) rfl rfl Try.func46 qg rfl #[.slice A0 l0.length c0] rfl qb ?_; (with_reducible refine (zY.calls k _ _ l0 t106 _ ?side1 ?side2 A3.out).mono ?_); (case side1 => exact qe HR0.out); (case side2 => exact HC0.out); rintro e w8 ⟨rfl,hb⟩; refine ⟨_,rfl,?_⟩; have n0_ := za.mk (zo (qc HB.out) hb); clear HB; have HB := n0_; clear n0_; (try clear hb); (try clear hb2); (try clear hk); (try clear hi)) | ((with_reducible refine zA (f := 46) rfl ?_); refine zW (some 14) rfl rfl Try.func46 qg rfl #[.slice A1 l1.length c1] rfl qb ?_; (with_reducible refine (zY.calls k _ _ l1 t107 _ ?side1 ?side2 A5.out).mono ?_); (case side1 => exact qj HR1.out HB.out); (case side2 => exact HC1.out); rintro e w9 ⟨rfl,hb⟩; refine ⟨_,rfl,?_⟩; have n0_ := za.mk (zo (qc HB.out) hb); clear HB; have HB := n0_; clear n0_; (try clear hb); (try clear hb2); (try clear hk); (try clear hi)) | ((with_reducible refine zA (f := 64) rfl ?_); refine zW (some 20) rfl rfl Try.func64 qg rfl #[.slice A0 l0.length c0, .slice A1 l1.length c1] rfl qb ?_; (with_reducible refine (zbl.calls _ _ l0 _ _ l1 t108 _ ?side1 ?side2 ?side3 ?side4 A7.out).mono ?_); (case side1 => exact qj HR0.out HB.out); (case side2 => exact HC0.out); (case side3 => exact qj HR1.out HB.out); (case side4 => exact HC1.out); rintro e w10 ⟨v109,rfl,ho0,hb⟩; refine ⟨_,rfl,?_⟩; have n0_ := za.mk (Kd.zaO ho0 (zy (qc HB.out))); have n1_ := za.mk (zo (qc HB.out) hb); clear HB; have HO110 := n0_; have HB := n1_; clear n0_ n1_; (try clear hb); (try clear hb2); (try clear hk); (try clear hi); (try clear ho0)))
   go_ret2
   exact ⟨_,by first | rfl | (simp [zw,zx] <;> rfl) | (simp [*,zw,zx] <;> rfl),by (with_reducible repeat (first | apply Kd.zaE | apply Kd.zau | apply Kd.zaJ)); exact HO110.out,by repeat (first | (with_reducible first | exact HB.out | apply ze | apply zb | apply zg) | exact HB.out)⟩
  ·rw [if_neg c6] at H
   have c6b0 : (t107 == 0) = false := beq_eq_false_iff_ne.mpr c6
   have c6b1 : (t107 != 0) = true := bne_iff_ne.mpr c6
   simp only [Option.some.injEq,Prod.mk.injEq] at H
   obtain ⟨rfl,rfl⟩ := H
   go_enter Try.func22,Try.ntmps22
   go_wp2_with (first | ((with_reducible refine zA (f := 46) rfl ?_); refine zW (some 9) rfl rfl Try.func46 qg rfl #[.slice A0 l0.length c0] rfl qb ?_; (with_reducible refine (zY.calls k _ _ l0 t106 _ ?side1 ?side2 A3.out).mono ?_); (case side1 => exact qe HR0.out); (case side2 => exact HC0.out); rintro e w11 ⟨rfl,hb⟩; refine ⟨_,rfl,?_⟩; have n0_ := za.mk (zo (qc HB.out) hb); clear HB; have HB := n0_; clear n0_; (try clear hb); (try clear hb2); (try clear hk); (try clear hi)) | ((with_reducible refine zA (f := 46) rfl ?_); refine zW (some 14) rfl rfl Try.func46 qg rfl #[.slice A1 l1.length c1] rfl qb ?_; (with_reducible refine (zY.calls k _ _ l1 t107 _ ?side1 ?side2 A5.out).mono ?_); (case side1 => exact qj HR1.out HB.out); (case side2 => exact HC1.out); rintro e w12 ⟨rfl,hb⟩; refine ⟨_,rfl,?_⟩; have n0_ := za.mk (zo (qc HB.out) hb); clear HB; have HB := n0_; clear n0_; (try clear hb); (try clear hb2); (try clear hk); (try clear hi)))
   go_ret2
   exact ⟨_,by first | rfl | (simp [zw,zx] <;> rfl) | (simp [*,zw,zx] <;> rfl),by first | exact Kd.zbG _ _ _ _ _ | exact Kd.zd8 _ _ _ _ _ | exact Kd.zd4 _ _ _ _ _ | exact Kd.zeh _ _ _ _ _ | exact Kd.zd5 _ _ _ _ _,by repeat (first | (with_reducible first | exact HB.out | apply ze | apply zb | apply zg) | exact HB.out)⟩
 ·rw [if_neg c4] at H
  have c4b0 : (t106 == 0) = false := beq_eq_false_iff_ne.mpr c4
  have c4b1 : (t106 != 0) = true := bne_iff_ne.mpr c4
  simp only [Option.some.injEq,Prod.mk.injEq] at H
  obtain ⟨rfl,rfl⟩ := H
  go_enter Try.func22,Try.ntmps22
  go_wp2_with (first | ((with_reducible refine zA (f := 46) rfl ?_); refine zW (some 9) rfl rfl Try.func46 qg rfl #[.slice A0 l0.length c0] rfl qb ?_; (with_reducible refine (zY.calls k _ _ l0 t106 _ ?side1 ?side2 A3.out).mono ?_); (case side1 => exact qe HR0.out); (case side2 => exact HC0.out); rintro e w13 ⟨rfl,hb⟩; refine ⟨_,rfl,?_⟩; have n0_ := za.mk (zo (qc HB.out) hb); clear HB; have HB := n0_; clear n0_; (try clear hb); (try clear hb2); (try clear hk); (try clear hi)))
  go_ret2
  exact ⟨_,by first | rfl | (simp [zw,zx] <;> rfl) | (simp [*,zw,zx] <;> rfl),by first | exact Kd.zbG _ _ _ _ _ | exact Kd.zd8 _ _ _ _ _ | exact Kd.zd4 _ _ _ _ _ | exact Kd.zeh _ _ _ _ _ | exact Kd.zd5 _ _ _ _ _,by repeat (first | (with_reducible first | exact HB.out | apply ze | apply zb | apply zg) | exact HB.out)⟩
end Go.Proofs.Ytgmbbfmbimofoaa.P
namespace Go.Proofs.Ytgmbbfmbimofoaa.P
open Go.RowKit Go.Proofs.YtgmbbfmbimofoaaW.PrintWords Go.Proofs.YtgmbbfmbimofoaaW.PrintLast Go.Proofs.YtgmbbfmbimofoaaW.PrintMore
attribute [local go_sem] zH zI zP zO zC zB zJ zK
set_option linter.unusedVariables false
set_option linter.unusedSimpArgs false
def zcy : List ByteArray → Int
 | [] => 0
 | x :: xs => if zaT x = 0 then zcy xs else zaT x
def zbt (page : List ByteArray) : Int := if 6 < page.length then 6 else zcy page
theorem zeq (p : List ByteArray) (hp : p.length ≤ 1000) : ∀ (m i k : Nat),p.length - i = m → i ≤ p.length → m < k → zY.l0 k p (p.length : Int) (i : Int) = some (zcy (p.drop i))
 | 0,i,k,h,hi,hk => by
  obtain ⟨k',rfl⟩ : ∃ k',k = k' + 1 := ⟨k - 1,by omega⟩
  rw [zY.l0,if_neg ql,List.drop_eq_nil_of_le ql]
  rfl
 | m + 1,i,k,h,hi,hk => by
  obtain ⟨k',rfl⟩ : ∃ k',k = k' + 1 := ⟨k - 1,by omega⟩
  have hlt : i < p.length := by omega
  have r1 : zaC ByteArray.empty p (i : Int) = p[i] := by simp [zaC,hlt]
  have hw : wrap64 ((i : Int) + 1) = ((i + 1 : Nat) : Int) := by unfold wrap64; omega
  rw [zY.l0,if_pos ql,if_pos ql,if_pos ql,r1,List.drop_eq_getElem_cons hlt,zcy]
  rw [show zbe.f p[i] = some (zaT p[i]) from rfl,Option.bind_some]
  by_cases he : zaT p[i] = 0
  ·rw [if_pos he,if_pos he,hw]
   exact zeq p hp m (i + 1) k' ql ql ql
  ·rw [if_neg he,if_neg he]
theorem zgl (p : List ByteArray) (k : Nat) (hk : 7 < k) : zY.f k p = some (zbt p) := by
 unfold zY.f zbt
 by_cases h : 6 < p.length
 ·rw [if_pos ql,if_pos h]
 ·rw [if_neg ql,if_neg h]
  exact zeq p ql p.length 0 k ql ql ql
def zbI (m : S63) : Int := if m.f0 = 3 then (if m.f2.toList = [] then 0 else 2) else zaT m.f2
def zbg : Option S63 → S63 → Int
 | none,_ => 0
 | some p,m => if m.f1 < p.f1 then 5 else if p.f1 < m.f1 ∨ p.f0 = 1 then 0 else if m.f0 = 1 then 5 else 4
def zbJ (n : Nat) (prev : Option S63) (m : S63) : Int :=
 if m.f0 < 1 ∨ 3 < m.f0 then 8
 else if m.f1 < 0 ∨ (if m.f0 = 1 then (n : Int) else (n : Int) - 1) < m.f1 then 3
 else if zbI m = 0 then zbg prev m
 else zbI m
def zbB (n : Nat) : Option S63 → List S63 → Int
 | _,[] => 0
 | prev,m :: ms => if zbJ n prev m = 0 then zbB n (some m) ms else zbJ n prev m
def zcN (n : Nat) (ms : List S63) : Int := if 12 < ms.length then 6 else zbB n none ms
def zdT (ms : List S63) (i : Nat) : Option S63 := if i = 0 then none else ms[i - 1]?
theorem zgn (m : S63) : za6.f m.f0 m.f1 m.f2 = some (zbI m) := by
 unfold za6.f zbI
 split
 ·split <;> rfl
 ·rfl
theorem zdB (pg : List ByteArray) (ms : List S63) (hn : pg.length ≤ 1000) (hm : ms.length ≤ 1000) : ∀ (m i k : Nat),ms.length - i = m → i ≤ ms.length → 5 * m < k → zt.l0 k pg ms ms (ms.length : Int) (i : Int) = some (zbB pg.length (zdT ms i) (ms.drop i))
 | 0,i,k,h,hi,hk => by
  obtain ⟨k',rfl⟩ : ∃ k',k = k' + 1 := ⟨k - 1,by omega⟩
  rw [zt.l0,if_neg ql,List.drop_eq_nil_of_le ql]
  rfl
 | m + 1,i,k,h,hi,hk => by
  obtain ⟨k',rfl⟩ : ∃ k',k = k' + 1 + 1 + 1 + 1 + 1 := ⟨k - 5,by omega⟩
  have hlt : i < ms.length := by omega
  have r1 : zk ms (i : Int) = ms[i] := by simp [zk,hlt]
  have hw : wrap64 ((i : Int) + 1) = ((i + 1 : Nat) : Int) := by unfold wrap64; omega
  have ih := zdB pg ms hn hm m (i + 1) k' ql ql ql
  have ih' := zdB pg ms hn hm m (i + 1) (k' + 1) ql ql ql
  have hp1 : zdT ms (i + 1) = some ms[i] := by simp [zdT,hlt]
  rw [hp1] at ih ih'
  have w1 : wrap64 ((pg.length : Int) - 1) = (pg.length : Int) - 1 := by unfold wrap64; omega
  have w2 : wrap64 ((pg.length : Int) - 1 + 1) = (pg.length : Int) := by unfold wrap64; omega
  rw [List.drop_eq_getElem_cons hlt,zbB]
  obtain ⟨mk,hmk⟩ : ∃ mk,ms[i] = mk := ⟨_,rfl⟩
  rw [hmk] at ih ih' r1 ⊢
  rw [zt.l0,if_pos ql,if_pos ql,if_pos ql,r1]
  have E1 : (if mk.f0 < 1 then zt.j1 (k' + 1 + 1 + 1 + 1) pg ms (i : Int) ms (ms.length : Int) (i : Int) true mk.f0 mk.f1 mk.f2 else zt.j1 (k' + 1 + 1 + 1 + 1) pg ms (i : Int) ms (ms.length : Int) (i : Int) (decide (mk.f0 > 3)) mk.f0 mk.f1 mk.f2) = zt.j1 (k' + 1 + 1 + 1 + 1) pg ms (i : Int) ms (ms.length : Int) (i : Int) (decide (mk.f0 < 1 ∨ 3 < mk.f0)) mk.f0 mk.f1 mk.f2 := by
   split
   ·rename_i hc; rw [decide_eq_true (Or.inl hc : mk.f0 < 1 ∨ 3 < mk.f0)]
   ·rename_i hc
    congr 1
    simp only [gt_iff_lt,decide_eq_decide]
    constructor
    ·exact Or.inr
    ·rintro (h | h); exact absurd h hc; exact h
  rw [E1,zt.j1]
  unfold zbJ
  by_cases c1 : mk.f0 < 1 ∨ 3 < mk.f0
  ·rw [if_pos (decide_eq_true c1),if_pos c1,if_neg qq]
  ·rw [if_neg (by rw [decide_eq_false c1]; decide),if_neg c1]
   have E2 : (if mk.f0 = 1 then zt.j2 (k' + 1 + 1 + 1) pg ms (i : Int) (wrap64 ((wrap64 ((pg.length : Int) - 1)) + 1)) ms (ms.length : Int) (i : Int) mk.f0 mk.f1 mk.f2 else zt.j2 (k' + 1 + 1 + 1) pg ms (i : Int) (wrap64 ((pg.length : Int) - 1)) ms (ms.length : Int) (i : Int) mk.f0 mk.f1 mk.f2) = zt.j2 (k' + 1 + 1 + 1) pg ms (i : Int) (if mk.f0 = 1 then (pg.length : Int) else (pg.length : Int) - 1) ms (ms.length : Int) (i : Int) mk.f0 mk.f1 mk.f2 := by
    rw [w1,w2]; split <;> rfl
   rw [E2,zt.j2]
   obtain ⟨top,htop⟩ : ∃ t,(if mk.f0 = 1 then (pg.length : Int) else (pg.length : Int) - 1) = t := ⟨_,rfl⟩
   rw [htop]
   have E3 : (if mk.f1 < 0 then zt.j3 (k' + 1 + 1) pg ms (i : Int) ms (ms.length : Int) (i : Int) true mk.f0 mk.f1 mk.f2 else zt.j3 (k' + 1 + 1) pg ms (i : Int) ms (ms.length : Int) (i : Int) (decide (mk.f1 > top)) mk.f0 mk.f1 mk.f2) = zt.j3 (k' + 1 + 1) pg ms (i : Int) ms (ms.length : Int) (i : Int) (decide (mk.f1 < 0 ∨ top < mk.f1)) mk.f0 mk.f1 mk.f2 := by
    split
    ·rename_i hc; rw [decide_eq_true (Or.inl hc : mk.f1 < 0 ∨ top < mk.f1)]
    ·rename_i hc
     congr 1
     simp only [gt_iff_lt,decide_eq_decide]
     constructor
     ·exact Or.inr
     ·rintro (h | h); exact absurd h hc; exact h
   rw [E3,zt.j3]
   by_cases c2 : mk.f1 < 0 ∨ top < mk.f1
   ·rw [if_pos (decide_eq_true c2),if_pos c2,if_neg qq]
   ·rw [if_neg (by rw [decide_eq_false c2]; decide),if_neg c2,zgn,Option.bind_some]
    by_cases c3 : zbI mk = 0
    ·rw [if_pos c3,if_pos c3]
     by_cases c4 : i = 0
     ·subst c4
      rw [if_pos qA,hw,show zbg (zdT ms 0) mk = 0 from rfl,if_pos rfl]
      exact ih'
     ·have hi1 : i - 1 < ms.length := by omega
      have w3 : wrap64 ((i : Int) - 1) = ((i - 1 : Nat) : Int) := by unfold wrap64; omega
      have r2 : zk ms ((i - 1 : Nat) : Int) = ms[i - 1] := by simp [zk,hi1]
      have hp : zdT ms i = some ms[i - 1] := by simp [zdT,c4,hi1]
      rw [if_neg ql,w3,if_pos ql,if_pos ql,r2,hp]
      obtain ⟨pv,hpv⟩ : ∃ pv,ms[i - 1] = pv := ⟨_,rfl⟩
      rw [hpv]
      by_cases c5 : mk.f1 < pv.f1
      ·rw [if_pos c5,show zbg (some pv) mk = 5 from by simp [zbg,c5],if_neg qq]
      ·rw [if_neg c5]
       by_cases c6 : pv.f1 < mk.f1
       ·rw [if_pos c6,show zbg (some pv) mk = 0 from by simp [zbg,c5,c6],if_pos rfl,zt.j4,if_pos rfl,hw]
        exact ih
       ·rw [if_neg ql]
        by_cases c7 : pv.f0 = 1
        ·rw [show zbg (some pv) mk = 0 from by simp [zbg,c5,c7],if_pos rfl,show (pv.f0 == 1) = true from by simpa using c7,zt.j4,if_pos rfl,hw]
         exact ih
        ·rw [show (pv.f0 == 1) = false from by simpa using c7,zt.j4,if_neg qq]
         by_cases c8 : mk.f0 = 1
         ·rw [if_pos c8,show zbg (some pv) mk = 5 from by simp [zbg,c5,c6,c7,c8],if_neg qq]
         ·rw [if_neg c8,show zbg (some pv) mk = 4 from by simp [zbg,c5,c6,c7,c8],if_neg qq]
    ·rw [if_neg c3,if_neg c3,if_neg c3]
theorem zh8 (pg : List ByteArray) (ms : List S63) (hn : pg.length ≤ 1000) (k : Nat) (hk : 61 < k) : zt.f k pg ms = some (zcN pg.length ms) := by
 unfold zt.f zcN
 by_cases h : 12 < ms.length
 ·rw [if_pos ql,if_pos h]
 ·rw [if_neg ql,if_neg h]
  exact zdB pg ms hn ql ms.length 0 k ql ql ql
def zbZ (pg : List ByteArray) (ms : List S63) : Int := if zbt pg = 0 then zcN pg.length ms else zbt pg
theorem zhd (pg : List ByteArray) (ms : List S63) (k : Nat) (hk : 61 < k) : zat.f k pg ms = some (zbZ pg ms) := by
 unfold zat.f zbZ
 rw [zgl pg k ql,Option.bind_some]
 by_cases h : zbt pg = 0
 ·rw [if_pos h,if_pos h]
  have hl : pg.length ≤ 6 := by
   unfold zbt at h
   by_cases h6 : 6 < pg.length
   ·rw [if_pos h6] at h; cases h
   ·omega
  rw [zh8 pg ms ql k hk]
  rfl
 ·rw [if_neg h,if_neg h]
end Go.Proofs.Ytgmbbfmbimofoaa.P
