-- MERGED BY A PROGRAM out of texts of this claim: hand work, and what a (turned) print of the kit has written for it
import Derived.Outline
import Derived.Test.YtgmbbfmbimofoaaMb5
import Derived.Test.YtgmbbfmbimofoaaMb20
import Derived.Test.YtgmbbfmbimofoaaMb6
import Derived.Test.YtgmbbfmbimofoaaMb12
import Derived.Test.YtgmbbfmbimofoaaMb11
import Derived.Test.YtgmbbfmbimofoaaMb8
namespace Go.Proofs.Ytgmbbfmbimofoaa.P
open Go.RowKit Go.Proofs.YtgmbbfmbimofoaaW.PrintWords Go.Proofs.YtgmbbfmbimofoaaW.PrintLast Go.Proofs.YtgmbbfmbimofoaaW.PrintMore
attribute [local go_sem] zU zV z8 zaa zQ zR zS zT
set_option linter.unusedVariables false
set_option linter.unusedSimpArgs false
def zc4.f (k : Nat) (l0 : List (List ByteArray)) (l1 : List (S63)) (l2 : List ByteArray) : Option (Int × Int × Int) := (zar.f k l0).bind fun t137 => (if t137 = 0 then (if (l0.length : Int) = 0 then (some (0, 0, 7)) else (if 0 ≤ (wrap64 ((l0.length : Int) - 1)) then (if (wrap64 ((l0.length : Int) - 1)) < (l0.length : Int) then ((zcf.f k (za8 l0 (wrap64 ((l0.length : Int) - 1))) l1).bind fun bt139 => (if bt139.2 = 0 then ((zak.f k l2).bind fun t143 => (if t143 = 0 then ((zbE.f bt139.1 l2).bind fun t144 => (if (t144.length : Int) = 0 then (some (0, 0, 0)) else (if 0 < (t144.length : Int) then (if ((zo t144 0).f0) = 3 then (some (1, (zo t144 0).f1, 0)) else ((zaS.f k bt139.1 ((zo t144 0).f2)).bind fun t149 => (if t149 = true then (some (3, (zo t144 0).f1, 0)) else (if (wrap64 ((l0.length : Int) - 1)) ≤ (l0.length : Int) then ((zaH.f k (l0.take ((wrap64 ((l0.length : Int) - 1)) : Int).toNat) ((zo t144 0).f2)).bind fun t154 => (if t154 ≥ 0 then (some (2, (zo t144 0).f1, 0)) else (some (3, (zo t144 0).f1, 0)))) else (none))))) else (none)))) else (some (0, 0, t143)))) else (some (0, 0, bt139.2)))) else (none)) else (none))) else (some (0, 0, t137)))
theorem zgO {b : Bool} (h : b = false) {p q : Prop} (hq : q) : if b = true then p else q := by
 subst h; exact hq
theorem ziQ (A : Option Addr) (n c : Nat) (j : Int) (h0 : 0 ≤ j) (hm : j ≤ n) (hc : n ≤ c) : ∀ W : World, (Instr.slice 29 (.slice A n c) none (some (.int .i64 j)) none).run Try.prog W = .ok (.slice A j.toNat c) W := by
 intro W
 have hi : ∃ i, Try.prog.info? 22 = some i ∧ i.size = 1 := by
  have h1 : (Try.prog.info? 22).map (fun i => i.size) = some 1 := by kernel_rfl
  obtain ⟨i, h2, h3⟩ := Option.map_eq_some_iff.1 h1
  exact ⟨i, h2, h3⟩
 obtain ⟨i, hi, hsz⟩ := hi
 have hel : Try.prog.elem 29 = 22 := by kernel_rfl
 have hu : Try.prog.underlying 29 = some (.slice (Try.prog.elem 29)) := by rw [hel]; exact Try.underlying29
 have ha : (A.map fun x => x.add 0) = A := by cases A <;> simp [Addr.add]
 rw [run_slice_h W 29 A n c hu .i64 j h0 (by omega), hel]
 simp [sizeOf, typeInfo, hi, hsz, sliced, Result.andThen, ha]
theorem zc8 {W : World} {g : Nat} {z0 z1 : Value} (hb : W.heap[g]? = some (.cells #[z0, z1] 54 (0, 0))) (u0 u1 v7 : Value) (tmps : Array Value) (h6 : tmps.getD 6 undef = .pointer (some ⟨g, 0, none⟩)) (h7 : tmps.getD 7 undef = v7) {R : Ending → World → Prop}
  (hR : R (.returned (.tuple #[.agg #[u0, u1], v7])) ((W.setCell ⟨g, 0, none⟩ u0).setCell ⟨g, 1, none⟩ u1)) : bodyPost Try.prog Try.f37 R .ret { tmps := tmps, defers := [] } ((W.setCell ⟨g, 0, none⟩ u0).setCell ⟨g, 1, none⟩ u1) := by
 have hb2 := zac (zac hb 0 u0 rfl) 1 u1 rfl
 have h := zgB (P := Try.prog) (fn := Try.f37) (p := 6) (u := 7) (ty := 54) (by kernel_rfl) tmps _ g 54 #[u0, u1] (0, 0) _ h6 hb2 Try.underlying54 rfl (by kernel_rfl)
 rw [h7] at h
 exact bodyPost_ret h rfl hR
set_option maxHeartbeats 4000000 in
set_option maxRecDepth 100000 in
theorem zc4.calls (k : Nat) (A0 : Option Addr) (c0 : Nat) (l0 : List (List ByteArray)) (A1 : Option Addr) (c1 : Nat) (l1 : List (S63)) (A2 : Option Addr) (c2 : Nat) (l2 : List ByteArray) (r1 : Int) (r2 : Int) (r3 : Int) (w : World) (hr0 : Kd.C (Kd.slice 9 Kd.string) w A0 l0.length l0) (hc0 : l0.length ≤ c0) (hr1 : Kd.C k63 w A1 l1.length l1) (hc1 : l1.length ≤ c1) (hr2 : Kd.C Kd.string w A2 l2.length l2) (hc2 : l2.length ≤ c2) (h : zc4.f k l0 l1 l2 = some (r1, r2, r3)) :
  Calls Try.prog 37 #[.slice A0 l0.length c0, .slice A1 l1.length c1, .slice A2 l2.length c2] w fun e w' => e = .returned (.tuple #[.agg #[.int .i64 r1, .int .i64 r2], .int .i64 r3]) ∧ Below w.heap.size w w' := by
 have H := za.mk h
 have HR := za.mk (And.intro hr0 (And.intro hc0 (And.intro hr1 (And.intro hc1 (And.intro hr2 hc2)))))
 clear hr0 hc0 hr1 hc1 hr2 hc2 h
 obtain ⟨e0, he0, h⟩ := Option.bind_eq_some_iff.mp H.out
 replace H := za.mk h
 clear h
 have HE := za.mk he0
 clear he0
 have hu54 := Try.underlying54
 have HB : za (Below w.heap.size w (w.alloc (.cells #[.int .i64 0, .int .i64 0] 54))) := ⟨ze (Below.refl _ _) _⟩
 have B6 := za.mk (heap_alloc_new w (.cells #[.int .i64 0, .int .i64 0] 54))
 go_enter Try.func37, Try.ntmps37
 go_wp2_with fail
 refine (zar.calls k A0 c0 l0 e0 _ (Kd.zaf HR.out.1 HB.out) HR.out.2.1 HE.out).mono ?_
 rintro e w1 ⟨rfl, hb1⟩
 replace HB := za.mk (zu HB.out hb1)
 replace B6 := za.mk (zF B6.out hb1)
 clear hb1
 by_cases g0 : e0 = 0
 ·subst g0
  have h := H.out
  rw [if_pos rfl] at h
  replace H := za.mk h
  clear h
  by_cases g1 : (l0.length : Int) = 0
  ·have h := H.out
   rw [if_pos g1] at h
   simp only [Option.some.injEq, Prod.mk.injEq] at h
   obtain ⟨rfl, rfl, rfl⟩ := h
   have t1 : ((l0.length : Int) == 0) = true := beq_iff_eq.mpr g1
   have t1' : (l0.length == 0) = true := by simpa using g1
   have hc60 : w1.cell? ⟨w.heap.size, 0, none⟩ = some (.int .i64 0) := zg B6.out 0
   have hf60 : w1.frozen? ⟨w.heap.size, 0, none⟩ = false := zt B6.out 0
   have hc61 : ∀ x, (w1.setCell ⟨w.heap.size, 0, none⟩ (.int .i64 x)).cell? ⟨w.heap.size, 1, none⟩ = some (.int .i64 0) := fun x => zg (zaG B6.out 0 _) 1
   have hf61 : ∀ x, (w1.setCell ⟨w.heap.size, 0, none⟩ (.int .i64 x)).frozen? ⟨w.heap.size, 1, none⟩ = false := fun x => zt (zaG B6.out 0 _) 1
   go_wp2_with fail
   refine zc8 B6.out (.int .i64 0) (.int .i64 0) (.int .i64 7) _ (by rfl) (by rfl) ?_
   exact ⟨rfl, zi (zi HB.out (Nat.le_refl _)) (Nat.le_refl _)⟩
  ·have h := H.out
   rw [if_neg g1] at h
   obtain ⟨lt, hlt⟩ : ∃ t, wrap64 ((l0.length : Int) - 1) = t := ⟨_, rfl⟩
   rw [hlt] at h
   have g2 : 0 ≤ lt := by
    by_cases g2 : 0 ≤ lt
    ·exact g2
    ·rw [if_neg g2] at h; cases h
   rw [if_pos g2] at h
   have g3 : lt < (l0.length : Int) := by
    by_cases g3 : lt < (l0.length : Int)
    ·exact g3
    ·rw [if_neg g3] at h; cases h
   rw [if_pos g3] at h
   obtain ⟨⟨ra, re⟩, hap, h⟩ := Option.bind_eq_some_iff.mp h
   dsimp only at h
   replace H := za.mk h
   clear h
   have t1 : ((l0.length : Int) == 0) = false := beq_eq_false_iff_ne.mpr g1
   have t1' : (l0.length == 0) = false := by simpa using g1
   obtain ⟨ady, Ay, cy, ey, hy, hyl, hyc⟩ := zdl (Kd.zaf HR.out.1 HB.out) lt g2 g3
   subst ey
   have HY := za.mk (And.intro hyl (And.intro hyc hap))
   clear hyl hyc hap
   have G := za.mk (And.intro g2 g3)
   replace g2 := eq_true g2
   replace g3 := eq_true g3
   go_wp2_with fail
   refine (zcf.calls k Ay cy (za8 l0 lt) A1 c1 l1 ra re w1 HY.out.2.1 HY.out.1 (Kd.zaf HR.out.2.2.1 HB.out) HR.out.2.2.2.1 HY.out.2.2).mono ?_
   rintro e w2 ⟨v2, rfl, hR2, hb2⟩
   replace HB := za.mk (zu HB.out hb2)
   replace B6 := za.mk (zF B6.out hb2)
   obtain ⟨A3, c3, rfl, _, _⟩ := Kd.zaN hR2
   have F2 := za.mk hR2
   clear hR2 hb2 hy t1 t1' HY
   by_cases g4 : re = 0
   ·subst g4
    have h := H.out
    rw [if_pos rfl] at h
    obtain ⟨ce, hce, h⟩ := Option.bind_eq_some_iff.mp h
    replace H := za.mk h
    clear h
    go_wp2_with fail
    refine (zak.calls k A2 c2 l2 ce w2 (Kd.zaf HR.out.2.2.2.2.1 HB.out) HR.out.2.2.2.2.2 hce).mono ?_
    rintro e w3 ⟨rfl, hb3⟩
    clear hce
    replace HB := za.mk (zu HB.out hb3)
    replace B6 := za.mk (zF B6.out hb3)
    replace F2 := za.mk (Kd.zM F2.out hb3)
    clear hb3
    by_cases g5 : ce = 0
    ·subst g5
     have h := H.out
     rw [if_pos rfl] at h
     obtain ⟨dl, hdl, h⟩ := Option.bind_eq_some_iff.mp h
     replace H := za.mk h
     clear h
     go_wp2_with fail
     refine (zbE.calls A3 c3 ra A2 c2 l2 dl w3 (zbo F2.out).1 (zbo F2.out).2 (Kd.zaf HR.out.2.2.2.2.1 HB.out) HR.out.2.2.2.2.2 hdl).mono ?_
     rintro e w4 ⟨v4, rfl, hR4, hb4⟩
     clear hdl
     replace HB := za.mk (zu HB.out hb4)
     replace B6 := za.mk (zF B6.out hb4)
     replace F2 := za.mk (Kd.zM F2.out hb4)
     obtain ⟨A4, c4, rfl, _, _⟩ := Kd.zaN hR4
     have F4 := za.mk hR4
     clear hR4 hb4
     by_cases g6 : (dl.length : Int) = 0
     ·have h := H.out
      rw [if_pos g6] at h
      simp only [Option.some.injEq, Prod.mk.injEq] at h
      obtain ⟨rfl, rfl, rfl⟩ := h
      have t2 : ((dl.length : Int) == 0) = true := beq_iff_eq.mpr g6
      have hc60 : w4.cell? ⟨w.heap.size, 0, none⟩ = some (.int .i64 0) := zg B6.out 0
      have hf60 : w4.frozen? ⟨w.heap.size, 0, none⟩ = false := zt B6.out 0
      have hc61 : ∀ x, (w4.setCell ⟨w.heap.size, 0, none⟩ (.int .i64 x)).cell? ⟨w.heap.size, 1, none⟩ = some (.int .i64 0) := fun x => zg (zaG B6.out 0 _) 1
      have hf61 : ∀ x, (w4.setCell ⟨w.heap.size, 0, none⟩ (.int .i64 x)).frozen? ⟨w.heap.size, 1, none⟩ = false := fun x => zt (zaG B6.out 0 _) 1
      go_wp2_with fail
      refine zc8 B6.out (.int .i64 0) (.int .i64 0) (.int .i64 0) _ (by rfl) (by rfl) ?_
      exact ⟨rfl, zi (zi HB.out (Nat.le_refl _)) (Nat.le_refl _)⟩
     ·have h := H.out
      have g7 : 0 < (dl.length : Int) := by omega
      rw [if_neg g6, if_pos g7] at h
      obtain ⟨ad4, e4, hx0, hx1, hx2⟩ := zbS (zbo F4.out).1 0 (Int.le_refl _) g7
      subst e4
      have ead : ad4.add ((0 : Int).toNat * 3) = ad4 := by simp [Addr.add]
      rw [ead] at hx0 hx1 hx2
      obtain ⟨⟨m0, m1, m2⟩, hm⟩ : ∃ m, zo dl 0 = m := ⟨_, rfl⟩
      rw [hm] at h hx0 hx1 hx2
      dsimp only at h hx0 hx1 hx2
      replace H := za.mk h
      clear h hm
      have t2 : ((dl.length : Int) == 0) = false := beq_eq_false_iff_ne.mpr g6
      have t2' : (dl.length == 0) = false := by simpa using g6
      have t3 : 0 < dl.length := by omega
      have B14 := za.mk (heap_alloc_new w4 (.cells #[.int .i64 m0, .int .i64 m1, .string m2] 63))
      have hb5 := ze (Below.refl w4.heap.size w4) (.cells #[.int .i64 m0, .int .i64 m1, .string m2] 63)
      replace HB := za.mk (zu HB.out hb5)
      replace B6 := za.mk (zF B6.out hb5)
      replace F2 := za.mk (Kd.zM F2.out hb5)
      by_cases g8 : m0 = 3
      ·subst g8
       have h := H.out
       rw [if_pos rfl] at h
       simp only [Option.some.injEq, Prod.mk.injEq] at h
       obtain ⟨rfl, rfl, rfl⟩ := h
       clear hb5
       have hc60 : (w4.alloc (.cells #[.int .i64 3, .int .i64 m1, .string m2] 63)).cell? ⟨w.heap.size, 0, none⟩ = some (.int .i64 0) := zg B6.out 0
       have hf60 : (w4.alloc (.cells #[.int .i64 3, .int .i64 m1, .string m2] 63)).frozen? ⟨w.heap.size, 0, none⟩ = false := zt B6.out 0
       have hc61 : ∀ x, ((w4.alloc (.cells #[.int .i64 3, .int .i64 m1, .string m2] 63)).setCell ⟨w.heap.size, 0, none⟩ (.int .i64 x)).cell? ⟨w.heap.size, 1, none⟩ = some (.int .i64 0) := fun x => zg (zaG B6.out 0 _) 1
       have hf61 : ∀ x, ((w4.alloc (.cells #[.int .i64 3, .int .i64 m1, .string m2] 63)).setCell ⟨w.heap.size, 0, none⟩ (.int .i64 x)).frozen? ⟨w.heap.size, 1, none⟩ = false := fun x => zt (zaG B6.out 0 _) 1
       have hm1 : (w4.alloc (.cells #[.int .i64 3, .int .i64 m1, .string m2] 63)).cell? ⟨w4.heap.size, 1, none⟩ = some (.int .i64 m1) := zg B14.out 1
       go_wp2_with fail
       refine zc8 B6.out (.int .i64 1) (.int .i64 m1) (.int .i64 0) _ (by rfl) (by rfl) ?_
       exact ⟨rfl, zi (zi HB.out (Nat.le_refl _)) (Nat.le_refl _)⟩
      ·have h := H.out
       rw [if_neg g8] at h
       obtain ⟨cs, hcs, h⟩ := Option.bind_eq_some_iff.mp h
       replace H := za.mk h
       clear h
       have t4 : (m0 == 3) = false := beq_eq_false_iff_ne.mpr g8
       obtain ⟨W5, hW5⟩ : ∃ W_, w4.alloc (.cells #[.int .i64 m0, .int .i64 m1, .string m2] 63) = W_ := ⟨_, rfl⟩
       have HW5 := za.mk hW5
       rw [hW5] at B14 HB B6 F2
       clear hW5 hb5
       go_wp2_with fail
       rw [HW5.out]
       refine zaM (fun W' => W'.cell? ⟨w4.heap.size, 2, none⟩ = some (.string m2)) [] (by kernel_rfl) ?_
       have HS : W5.drew.cell? ⟨w4.heap.size, 2, none⟩ = some (.string m2) := zg (zn B14.out) 2
       refine tk 0 ?_
       (try simp only [pu0, pu1, pu2, pu3, pu4])
       refine tk 1 ?_
       (try simp only [pu0, pu1, pu2, pu3, pu4])
       refine tk 2 ?_
       (try simp only [pu0, pu1, pu2, pu3, pu4])
       refine on1 3 fun K hK => ?_
       clear HS
       refine zbB Try.func74 (by kernel_rfl) rfl #[.slice A3 ra.length c3, .string m2] (by rfl) rfl rfl (by simp only [List.map_toArray, List.map_cons, List.map_nil]; rfl) ?_
       refine (zaS.calls k A3 c3 ra m2 cs W5.drew (zbo (Kd.zM F2.out (zf (Below.refl _ _)))).1 (zbo F2.out).2 hcs).mono ?_
       rintro e w6 ⟨rfl, nd, hw6⟩
       refine ⟨_, rfl, ?_⟩
       have hb6 : Below W5.heap.size W5 w6 := by rw [hw6]; exact zb (zf (Below.refl _ _)) _
       clear hw6 hcs
       replace HB := za.mk (zu HB.out hb6)
       replace B6 := za.mk (zF B6.out hb6)
       replace B14 := za.mk (zF B14.out hb6)
       clear hb6
       have HS : w6.cell? ⟨w4.heap.size, 2, none⟩ = some (.string m2) := zg B14.out 2
       refine hK.out _ _ (fun _ => HS) ?_
       clear hK K
       (try simp only [pu0, pu1, pu2, pu3, pu4])
       cases cs
       ·have h := H.out
        rw [if_neg (by decide)] at h
        have gle : lt ≤ (l0.length : Int) := Int.le_of_lt G.out.2
        rw [if_pos gle] at h
        obtain ⟨og, hog, h⟩ := Option.bind_eq_some_iff.mp h
        replace H := za.mk h
        clear h
        have hsl := ziQ (some ady) l0.length c0 lt G.out.1 gle HR.out.2.1
        have hlen : (l0.take lt.toNat).length = lt.toNat := by rw [List.length_take]; have := G.out.2; have := G.out.1; omega
        refine tk 4 ?_
        (try simp only [pu0, pu1, pu2, pu3, pu4])
        refine tk 5 ?_
        (try simp only [pu0, pu1, pu2, pu3, pu4])
        refine tk 6 ?_
        (try simp only [pu0, pu1, pu2, pu3, pu4])
        refine tk 7 ?_
        (try simp only [pu0, pu1, pu2, pu3, pu4])
        refine tk 8 ?_
        (try simp only [pu0, pu1, pu2, pu3, pu4])
        refine tk 9 ?_
        (try simp only [pu0, pu1, pu2, pu3, pu4])
        refine tk 10 ?_
        (try simp only [pu0, pu1, pu2, pu3, pu4])
        refine on1 11 fun K hK => ?_
        clear HS
        have hC9 : Kd.C (Kd.slice 9 Kd.string) w6 (some ady) (l0.take lt.toNat).length (l0.take lt.toNat) := Kd.zil (Kd.zaf HR.out.1 HB.out) (by omega)
        refine zbB Try.func75 (by kernel_rfl) rfl #[.slice (some ady) (l0.take lt.toNat).length c0, .string m2] (by rfl) rfl rfl (by simp only [List.map_toArray, List.map_cons, List.map_nil, hlen]; rfl) ?_
        refine (zaH.calls k (some ady) c0 (l0.take lt.toNat) m2 og w6 hC9 (by have := HR.out.2.1; omega) hog).mono ?_
        rintro e w7 ⟨rfl, nd, hw7⟩
        refine ⟨_, rfl, ?_⟩
        have hb7 : Below w6.heap.size w6 w7 := by rw [hw7]; exact zb (Below.refl _ _) _
        clear hw7 hog
        replace HB := za.mk (zu HB.out hb7)
        replace B6 := za.mk (zF B6.out hb7)
        replace B14 := za.mk (zF B14.out hb7)
        clear hb7
        have HS : w7.cell? ⟨w4.heap.size, 2, none⟩ = some (.string m2) := zg B14.out 2
        refine hK.out _ _ (fun _ => HS) ?_
        clear hK K
        (try simp only [pu0, pu1, pu2, pu3, pu4])
        refine tk 12 ?_
        (try simp only [pu0, pu1, pu2, pu3, pu4])
        refine tk 13 ?_
        (try simp only [pu0, pu1, pu2, pu3, pu4])
        refine tk 14 ?_
        (try simp only [pu0, pu1, pu2, pu3, pu4])
        refine zay (by kernel_rfl) ?_ _
        clear HS hsl
        by_cases g9 : og ≥ 0
        ·have h := H.out
         rw [if_pos g9] at h
         simp only [Option.some.injEq, Prod.mk.injEq] at h
         obtain ⟨rfl, rfl, rfl⟩ := h
         have t5 : decide (0 ≤ og) = true := decide_eq_true g9
         have hc60 : w7.cell? ⟨w.heap.size, 0, none⟩ = some (.int .i64 0) := zg B6.out 0
         have hf60 : w7.frozen? ⟨w.heap.size, 0, none⟩ = false := zt B6.out 0
         have hc61 : ∀ x, (w7.setCell ⟨w.heap.size, 0, none⟩ (.int .i64 x)).cell? ⟨w.heap.size, 1, none⟩ = some (.int .i64 0) := fun x => zg (zaG B6.out 0 _) 1
         have hf61 : ∀ x, (w7.setCell ⟨w.heap.size, 0, none⟩ (.int .i64 x)).frozen? ⟨w.heap.size, 1, none⟩ = false := fun x => zt (zaG B6.out 0 _) 1
         have hm1 : w7.cell? ⟨w4.heap.size, 1, none⟩ = some (.int .i64 m1) := zg B14.out 1
         go_wp2_with fail
         refine zc8 B6.out (.int .i64 2) (.int .i64 m1) (.int .i64 0) _ (by rfl) (by rfl) ?_
         exact ⟨rfl, zi (zi HB.out (Nat.le_refl _)) (Nat.le_refl _)⟩
        ·have h := H.out
         rw [if_neg g9] at h
         simp only [Option.some.injEq, Prod.mk.injEq] at h
         obtain ⟨rfl, rfl, rfl⟩ := h
         have t5 : decide (0 ≤ og) = false := decide_eq_false g9
         have hc60 : w7.cell? ⟨w.heap.size, 0, none⟩ = some (.int .i64 0) := zg B6.out 0
         have hf60 : w7.frozen? ⟨w.heap.size, 0, none⟩ = false := zt B6.out 0
         have hc61 : ∀ x, (w7.setCell ⟨w.heap.size, 0, none⟩ (.int .i64 x)).cell? ⟨w.heap.size, 1, none⟩ = some (.int .i64 0) := fun x => zg (zaG B6.out 0 _) 1
         have hf61 : ∀ x, (w7.setCell ⟨w.heap.size, 0, none⟩ (.int .i64 x)).frozen? ⟨w.heap.size, 1, none⟩ = false := fun x => zt (zaG B6.out 0 _) 1
         have hm1 : w7.cell? ⟨w4.heap.size, 1, none⟩ = some (.int .i64 m1) := zg B14.out 1
         go_wp2_with fail
         refine zc8 B6.out (.int .i64 3) (.int .i64 m1) (.int .i64 0) _ (by rfl) (by rfl) ?_
         exact ⟨rfl, zi (zi HB.out (Nat.le_refl _)) (Nat.le_refl _)⟩
       ·refine zds (i := 4) (oi := { dst := some 67, op := Go.Op.unOp Go.UnOp.not 4 (Go.Operand.tmp 66), type := 4, pos := "years.go:143", after := #[{ on := 3, ground := Go.Ground.data }], guard := none }) (v := ?_) rfl (by kernel_rfl) (by kernel_rfl) (by kernel_rfl) (by kernel_rfl) (by kernel_rfl) (fun _ _ _ h => h) (.inl ⟨by rfl, ?_⟩) (by assumption) ?_
        rotate_left
        ·intro w_ hS_; (try dsimp only at hS_); go_simp; all_goals (with_reducible rfl)
        (try simp only [pu0, pu1, pu2, pu3, pu4])
        refine tk 5 ?_
        (try simp only [pu0, pu1, pu2, pu3, pu4])
        refine tkn 6 ?_
        (try simp only [pu0, pu1, pu2, pu3, pu4])
        refine tkn 7 ?_
        (try simp only [pu0, pu1, pu2, pu3, pu4])
        refine tkn 8 ?_
        (try simp only [pu0, pu1, pu2, pu3, pu4])
        refine tkn 9 ?_
        (try simp only [pu0, pu1, pu2, pu3, pu4])
        refine tkn 10 ?_
        (try simp only [pu0, pu1, pu2, pu3, pu4])
        refine on1 11 fun K hK => ?_
        refine zgO (by rfl) ?_
        refine hK.out _ _ (fun _ => HS) ?_
        clear hK K
        (try simp only [pu0, pu1, pu2, pu3, pu4])
        refine tkn 12 ?_
        (try simp only [pu0, pu1, pu2, pu3, pu4])
        refine tk 13 ?_
        (try simp only [pu0, pu1, pu2, pu3, pu4])
        refine tk 14 ?_
        (try simp only [pu0, pu1, pu2, pu3, pu4])
        refine zay (by kernel_rfl) ?_ _
        clear HS
        have h := H.out
        rw [if_pos rfl] at h
        simp only [Option.some.injEq, Prod.mk.injEq] at h
        obtain ⟨rfl, rfl, rfl⟩ := h
        have hc60 : w6.cell? ⟨w.heap.size, 0, none⟩ = some (.int .i64 0) := zg B6.out 0
        have hf60 : w6.frozen? ⟨w.heap.size, 0, none⟩ = false := zt B6.out 0
        have hc61 : ∀ x, (w6.setCell ⟨w.heap.size, 0, none⟩ (.int .i64 x)).cell? ⟨w.heap.size, 1, none⟩ = some (.int .i64 0) := fun x => zg (zaG B6.out 0 _) 1
        have hf61 : ∀ x, (w6.setCell ⟨w.heap.size, 0, none⟩ (.int .i64 x)).frozen? ⟨w.heap.size, 1, none⟩ = false := fun x => zt (zaG B6.out 0 _) 1
        have hm1 : w6.cell? ⟨w4.heap.size, 1, none⟩ = some (.int .i64 m1) := zg B14.out 1
        go_wp2_with fail
        refine zc8 B6.out (.int .i64 3) (.int .i64 m1) (.int .i64 0) _ (by rfl) (by rfl) ?_
        exact ⟨rfl, zi (zi HB.out (Nat.le_refl _)) (Nat.le_refl _)⟩
    ·have h := H.out
     rw [if_neg g5] at h
     simp only [Option.some.injEq, Prod.mk.injEq] at h
     obtain ⟨rfl, rfl, rfl⟩ := h
     have t2 : (ce != 0) = true := bne_iff_ne.mpr g5
     have hc60 : w3.cell? ⟨w.heap.size, 0, none⟩ = some (.int .i64 0) := zg B6.out 0
     have hf60 : w3.frozen? ⟨w.heap.size, 0, none⟩ = false := zt B6.out 0
     have hc61 : ∀ x, (w3.setCell ⟨w.heap.size, 0, none⟩ (.int .i64 x)).cell? ⟨w.heap.size, 1, none⟩ = some (.int .i64 0) := fun x => zg (zaG B6.out 0 _) 1
     have hf61 : ∀ x, (w3.setCell ⟨w.heap.size, 0, none⟩ (.int .i64 x)).frozen? ⟨w.heap.size, 1, none⟩ = false := fun x => zt (zaG B6.out 0 _) 1
     go_wp2_with fail
     refine zc8 B6.out (.int .i64 0) (.int .i64 0) (.int .i64 ce) _ (by rfl) (by rfl) ?_
     exact ⟨rfl, zi (zi HB.out (Nat.le_refl _)) (Nat.le_refl _)⟩
   ·have h := H.out
    rw [if_neg g4] at h
    simp only [Option.some.injEq, Prod.mk.injEq] at h
    obtain ⟨rfl, rfl, rfl⟩ := h
    have t2 : (re != 0) = true := bne_iff_ne.mpr g4
    have hc60 : w2.cell? ⟨w.heap.size, 0, none⟩ = some (.int .i64 0) := zg B6.out 0
    have hf60 : w2.frozen? ⟨w.heap.size, 0, none⟩ = false := zt B6.out 0
    have hc61 : ∀ x, (w2.setCell ⟨w.heap.size, 0, none⟩ (.int .i64 x)).cell? ⟨w.heap.size, 1, none⟩ = some (.int .i64 0) := fun x => zg (zaG B6.out 0 _) 1
    have hf61 : ∀ x, (w2.setCell ⟨w.heap.size, 0, none⟩ (.int .i64 x)).frozen? ⟨w.heap.size, 1, none⟩ = false := fun x => zt (zaG B6.out 0 _) 1
    go_wp2_with fail
    refine zc8 B6.out (.int .i64 0) (.int .i64 0) (.int .i64 re) _ (by rfl) (by rfl) ?_
    exact ⟨rfl, zi (zi HB.out (Nat.le_refl _)) (Nat.le_refl _)⟩
 ·have h := H.out
  rw [if_neg g0] at h
  simp only [Option.some.injEq, Prod.mk.injEq] at h
  obtain ⟨rfl, rfl, rfl⟩ := h
  have t2 : (e0 != 0) = true := bne_iff_ne.mpr g0
  have hc60 : w1.cell? ⟨w.heap.size, 0, none⟩ = some (.int .i64 0) := zg B6.out 0
  have hf60 : w1.frozen? ⟨w.heap.size, 0, none⟩ = false := zt B6.out 0
  have hc61 : ∀ x, (w1.setCell ⟨w.heap.size, 0, none⟩ (.int .i64 x)).cell? ⟨w.heap.size, 1, none⟩ = some (.int .i64 0) := fun x => zg (zaG B6.out 0 _) 1
  have hf61 : ∀ x, (w1.setCell ⟨w.heap.size, 0, none⟩ (.int .i64 x)).frozen? ⟨w.heap.size, 1, none⟩ = false := fun x => zt (zaG B6.out 0 _) 1
  go_wp2_with fail
  refine zc8 B6.out (.int .i64 0) (.int .i64 0) (.int .i64 e0) _ (by rfl) (by rfl) ?_
  exact ⟨rfl, zi (zi HB.out (Nat.le_refl _)) (Nat.le_refl _)⟩
inductive zcA : Nat → List ByteArray → List ByteArray → List S63 → Prop
 | nil (i : Nat) : zcA i [] [] []
 | ins {i : Nat} {a b : List ByteArray} {ms : List S63} (y : ByteArray) : zcA i a b ms → zcA i a (y :: b) (⟨1, i, y⟩ :: ms)
 | del {i : Nat} {a b : List ByteArray} {ms : List S63} (x : ByteArray) : zcA (i + 1) a b ms → zcA i (x :: a) b (⟨3, i, ⟨#[]⟩⟩ :: ms)
 | set {i : Nat} {a b : List ByteArray} {ms : List S63} (x y : ByteArray) : zcA (i + 1) a b ms → zcA i (x :: a) (y :: b) (⟨2, i, y⟩ :: ms)
 | keep {i : Nat} {a b : List ByteArray} {ms : List S63} (x : ByteArray) : zcA (i + 1) a b ms → zcA i (x :: a) (x :: b) ms
theorem bytes_inj {x y : ByteArray} (h : x.toList = y.toList) : x = y := by
 obtain ⟨⟨l⟩⟩ := x
 obtain ⟨⟨m⟩⟩ := y
 rw [ByteArray.toList_eq, ByteArray.toList_eq] at h
 simp at h
 rw [h]
theorem zcA.fits {i : Nat} {a b : List ByteArray} {ms : List S63} (h : zcA i a b ms) : ∀ n, i + a.length = n → ms.all (zb3 n) = true := by
 induction h with
 | nil i => intro n _; rfl
 | ins y h ih => intro n hn; rw [List.all_cons, ih n hn, Bool.and_true]; simp [zb3]; omega
 | del x h ih => intro n hn; simp only [List.length_cons] at hn; rw [List.all_cons, ih n (by omega), Bool.and_true]; simp [zb3]; omega
 | set x y h ih => intro n hn; simp only [List.length_cons] at hn; rw [List.all_cons, ih n (by omega), Bool.and_true]; simp [zb3]; omega
 | keep x h ih => intro n hn; simp only [List.length_cons] at hn; exact ih n (by omega)
theorem Ev.ifp {α : Type} {c : Prop} [Decidable c] {A B : Nat → Option α} {r : α} (h : c) (k : Ev A r) : Ev (fun n => if c then A n else B n) r := by
 obtain ⟨K, k⟩ := k
 exact ⟨K, fun n hn => by dsimp only; rw [if_pos h]; exact k n hn⟩
theorem Ev.ifn {α : Type} {c : Prop} [Decidable c] {A B : Nat → Option α} {r : α} (h : ¬ c) (k : Ev B r) : Ev (fun n => if c then A n else B n) r := by
 obtain ⟨K, k⟩ := k
 exact ⟨K, fun n hn => by dsimp only; rw [if_neg h]; exact k n hn⟩
theorem Ev.bs {α β : Type} {o : Option α} {a : α} {f : Nat → α → Option β} {r : β} (h : o = some a) (k : Ev (fun n => f n a) r) : Ev (fun n => o.bind (f n)) r := by
 obtain ⟨K, k⟩ := k
 exact ⟨K, fun n hn => by dsimp only; rw [h]; exact k n hn⟩
theorem Ev.be {α β : Type} {g : Nat → Option α} {a : α} {f : Nat → α → Option β} {r : β} (h : Ev g a) (k : Ev (fun n => f n a) r) : Ev (fun n => (g n).bind (fun x => f n x)) r := Ev.bind h k
theorem Ev.ret {α : Type} {o : Option α} {r : α} (h : o = some r) : Ev (fun _ => o) r := ⟨0, fun _ _ => h⟩
theorem zbL {x : Int} (h0 : -1000000000000000 ≤ x) (h1 : x ≤ 1000000000000000) : wrap64 x = x := by unfold wrap64; omega
theorem zdZ (n : Nat) (h : n ≤ 1000000) : wrap64 ((n : Int) + 1) = ((n + 1 : Nat) : Int) := by unfold wrap64; omega
theorem zft (p : List ByteArray) : Ev (fun k => zak.f k p) (zdw p) := ⟨8, fun k hk => zhi p k (by omega)⟩
instance zi4 (x : ByteArray) (p : List ByteArray) : Decidable (x ∈ p) := decidable_of_iff (p.any (fun y => y.toList == x.toList) = true) (by
 rw [List.any_eq_true]
 exact ⟨fun ⟨y, h, e⟩ => by rw [← bytes_inj (beq_iff_eq.1 e)]; exact h, fun h => ⟨x, h, beq_iff_eq.2 rfl⟩⟩)
theorem zcs {p : List ByteArray} {x : ByteArray} {i : Nat} (h : i < p.length) : x ∈ p.drop i ↔ x = p[i] ∨ x ∈ p.drop (i + 1) := by
 rw [List.drop_eq_getElem_cons h, List.mem_cons]
theorem zfA (p : List ByteArray) (x : ByteArray) (hp : p.length ≤ 1000) : ∀ (m i : Nat), p.length - i = m → i ≤ p.length → ∃ r : Int, Ev (fun k => zai.l0 k p x (p.length : Int) (i : Int)) r ∧ (0 ≤ r ↔ x ∈ p.drop i)
 | 0, i, h, hi => by
  refine ⟨-1, Ev.step (fun k => by rw [zai.l0]) (Ev.ifn (by omega) (Ev.now _)), ?_⟩
  rw [List.drop_eq_nil_of_le (by omega)]; simp
 | m + 1, i, h, hi => by
  have hlt : i < p.length := by omega
  have r1 : zaJ ByteArray.empty p (i : Int) = p[i] := by simp [zaJ, hlt]
  have hw : wrap64 ((i : Int) + 1) = ((i + 1 : Nat) : Int) := by rw [zbL (by omega) (by omega)]; omega
  by_cases he : x = p[i]
  ·refine ⟨i, Ev.step (fun k => by rw [zai.l0]) (Ev.ifp (by omega) (Ev.ifp (by omega) (Ev.ifp (by omega) (Ev.ifp (by rw [r1, ← he]) (Ev.now _))))), ?_⟩
   rw [zcs hlt]
   exact ⟨fun _ => .inl he, fun _ => by omega⟩
  ·obtain ⟨r, h1, h2⟩ := zfA p x hp m (i + 1) (by omega) (by omega)
   refine ⟨r, Ev.step (fun k => by rw [zai.l0]) (Ev.ifp (by omega) (Ev.ifp (by omega) (Ev.ifp (by omega) (Ev.ifn (fun h => he (by rw [r1] at h; exact bytes_inj h)) ?_)))), ?_⟩
   ·rw [hw]; exact h1
   ·rw [zcs hlt, h2]
    exact ⟨.inr, fun h => h.resolve_left he⟩
theorem zf0 (p : List ByteArray) (x : ByteArray) (hp : p.length ≤ 1000) : Ev (fun k => zaS.f k p x) (decide (x ∈ p)) := by
 obtain ⟨r, h1, h2⟩ := zfA p x hp p.length 0 (by omega) (by omega)
 have e : decide (x ∈ p) = decide (r ≥ 0) := by
  rw [decide_eq_decide]; rw [List.drop_zero] at h2; exact h2.symm
 rw [e]
 exact Ev.bind (f := fun _ t => some (decide (t ≥ 0))) h1 (Ev.now _)
theorem zhD (p : List ByteArray) (x : ByteArray) (hp : p.length ≤ 1000) : Ev (fun k => zav.f k p x) (decide (x ∈ p)) := by
 have go : ∀ (m i : Nat), p.length - i = m → i ≤ p.length → Ev (fun k => zav.l0 k p x (i : Int)) (decide (x ∈ p.drop i)) := by
  intro m
  induction m with
  | zero =>
   intro i h hi
   refine Ev.step (fun k => by rw [zav.l0]) (Ev.ifn (by omega) ?_)
   rw [List.drop_eq_nil_of_le (by omega)]; exact Ev.now _
  | succ m ih =>
   intro i h hi
   have hlt : i < p.length := by omega
   have r1 : zaJ ByteArray.empty p (i : Int) = p[i] := by simp [zaJ, hlt]
   have hw : wrap64 ((i : Int) + 1) = ((i + 1 : Nat) : Int) := by rw [zbL (by omega) (by omega)]; omega
   by_cases he : x = p[i]
   ·rw [decide_eq_true ((zcs hlt).2 (.inl he))]
    exact Ev.step (fun k => by rw [zav.l0]) (Ev.ifp (by omega) (Ev.ifp (by omega) (Ev.ifp (by rw [r1, ← he]) (Ev.now _))))
   ·have e : decide (x ∈ p.drop i) = decide (x ∈ p.drop (i + 1)) := by
     rw [decide_eq_decide, zcs hlt]
     exact ⟨fun h => h.resolve_left he, .inr⟩
    rw [e]
    refine Ev.step (fun k => by rw [zav.l0]) (Ev.ifp (by omega) (Ev.ifp (by omega) (Ev.ifn (fun h => he (by rw [r1] at h; exact (bytes_inj h).symm)) ?_)))
    rw [hw]; exact ih (i + 1) (by omega) (by omega)
 have h := go p.length 0 (by omega) (by omega)
 rw [List.drop_zero] at h
 exact h
def Good (n : Nat) (p : List ByteArray) : Prop := p.length ≤ n ∧ ∀ x ∈ p, x ∈ zcW
theorem Good.check {p : List ByteArray} (h : Good 6 p) : zdw p = 0 := checkS_ok_ p h.1 (fun x hx => words6_ok_ x (h.2 x hx))
where
 words6_ok_ : ∀ x ∈ zcW, zbr x = 0 := by
  intro x hx
  simp only [zcW, List.mem_cons, List.not_mem_nil, or_false] at hx
  rcases hx with rfl | rfl | rfl | rfl | rfl | rfl <;> kernel_rfl
 firstErr_ok_ : ∀ p : List ByteArray, (∀ x ∈ p, zbr x = 0) → zcG p = 0
  | [], _ => rfl
  | x :: p, h => by rw [zcG, if_pos (h x List.mem_cons_self)]; exact firstErr_ok_ p (fun y hy => h y (List.mem_cons_of_mem _ hy))
 checkS_ok_ (p : List ByteArray) (hl : p.length ≤ 6) (h : ∀ x ∈ p, zbr x = 0) : zdw p = 0 := by
  unfold zdw
  rw [if_neg (by omega), firstErr_ok_ p h]
def zbD (ys : List (List ByteArray)) (x : ByteArray) : Nat → Int
 | 0 => -1
 | n + 1 => if x ∈ ys.getD n [] then (n : Int) else zbD ys x n
theorem zfD (ys : List (List ByteArray)) (x : ByteArray) : ∀ n : Nat, -1 ≤ zbD ys x n ∧ zbD ys x n < n
 | 0 => by simp [zbD]
 | n + 1 => by
  have := zfD ys x n
  rw [zbD]; split <;> omega
theorem zff (ys : List (List ByteArray)) (x : ByteArray) : ∀ n : Nat, 0 ≤ zbD ys x n → x ∈ ys.getD (zbD ys x n).toNat []
 | 0, h => by simp [zbD] at h
 | n + 1, h => by
  rw [zbD] at h ⊢
  by_cases hx : x ∈ ys.getD n []
  ·rw [if_pos hx]; simpa using hx
  ·rw [if_neg hx] at h ⊢; exact zff ys x n h
theorem zeM (ys : List (List ByteArray)) (x : ByteArray) : ∀ n : Nat, ∀ j : Nat, j < n → zbD ys x n < j → x ∉ ys.getD j []
 | 0, _, h, _ => by omega
 | n + 1, j, h, hj => by
  rw [zbD] at hj
  by_cases hx : x ∈ ys.getD n []
  ·rw [if_pos hx] at hj; omega
  ·rw [if_neg hx] at hj
   by_cases e : j = n
   ·subst e; exact hx
   ·exact zeM ys x n j (by omega) hj
theorem zfe (ys : List (List ByteArray)) (x : ByteArray) (hy : ys.length ≤ 1000) (hp : ∀ p ∈ ys, p.length ≤ 1000) : Ev (fun k => zaH.f k ys x) (zbD ys x ys.length) := by
 have go : ∀ n : Nat, n ≤ ys.length → Ev (fun k => zaH.l0 k ys x ((n : Int) - 1)) (zbD ys x n) := by
  intro n
  induction n with
  | zero =>
   intro _
   refine Ev.step (fun k => by rw [zaH.l0]) ?_
   refine Ev.ifn ?_ (Ev.now _)
   omega
  | succ n ih =>
   intro hn
   have e : ((n + 1 : Nat) : Int) - 1 = (n : Int) := by omega
   have r1 : za8 ys (n : Int) = ys.getD n [] := by simp [za8]
   have hm : ys.getD n [] ∈ ys := by rw [List.getD_eq_getElem?_getD, List.getElem?_eq_getElem (by omega), Option.getD_some]; exact List.getElem_mem _
   rw [e, zbD]
   refine Ev.step (fun k => by rw [zaH.l0]) (Ev.ifp (by omega) (Ev.ifp (by omega) (Ev.ifp (by omega) (Ev.be (zf0 _ x (by rw [r1]; exact hp _ hm)) ?_))))
   rw [r1]
   by_cases hx : x ∈ ys.getD n []
   ·rw [decide_eq_true hx, if_pos hx]; exact Ev.ifp rfl (Ev.now _)
   ·rw [decide_eq_false hx, if_neg hx]
    refine Ev.ifn (by decide) ?_
    rw [zbL (by omega) (by omega)]
    exact ih (by omega)
 have h := go ys.length (Nat.le_refl _)
 unfold zaH.f
 rw [zbL (by omega) (by omega)]
 exact h
theorem zf3 (ys : List (List ByteArray)) (hy : ys.length ≤ 4) (hg : ∀ p ∈ ys, Good 6 p) : Ev (fun k => zar.f k ys) 0 := by
 have go : ∀ (m i : Nat), ys.length - i = m → i ≤ ys.length → Ev (fun k => zar.l0 k ys (ys.length : Int) (i : Int)) 0 := by
  intro m
  induction m with
  | zero =>
   intro i h hi
   exact Ev.step (fun k => by rw [zar.l0]) (Ev.ifn (by omega) (Ev.now _))
  | succ m ih =>
   intro i h hi
   have hlt : i < ys.length := by omega
   have r1 : za8 ys (i : Int) = ys[i] := by simp [za8, hlt]
   have hw : wrap64 ((i : Int) + 1) = ((i + 1 : Nat) : Int) := by rw [zbL (by omega) (by omega)]; omega
   refine Ev.step (fun k => by rw [zar.l0]) (Ev.ifp (by omega) (Ev.ifp (by omega) (Ev.ifp (by omega) (Ev.be (zft _) (Ev.ifp ?_ ?_)))))
   ·rw [r1]; exact (hg _ (List.getElem_mem _)).check
   ·rw [hw]; exact ih (i + 1) (by omega) (by omega)
 unfold zar.f
 exact Ev.ifn (by omega) (go ys.length 0 (by omega) (by omega))
theorem zfE (ys : List (List ByteArray)) (p : List ByteArray) (hy : ys.length ≤ 4) (hg : ∀ p ∈ ys, Good 6 p) (h : Good 6 p) : Ev (fun k => zbp.f k ys p) 0 := by
 unfold zbp.f
 refine Ev.be (zf3 ys hy hg) (Ev.ifp rfl ?_)
 refine Ev.be (zft p) ?_
 rw [h.check]; exact Ev.now _
theorem zgn (ys : List (List ByteArray)) (p : List ByteArray) (hy : ys.length ≤ 4) (hg : ∀ p ∈ ys, Good 6 p) (h : Good 6 p) : Ev (fun k => zaB.f k ys p) (p.map (fun x => zbD ys x ys.length), 0) := by
 have hp : ∀ q ∈ ys, q.length ≤ 1000 := fun q hq => Nat.le_trans (hg q hq).1 (by omega)
 have hl := h.1
 have go : ∀ (m i : Nat), p.length - i = m → i ≤ p.length → ∀ acc : List Int, acc.length ≤ i → Ev (fun k => zaB.l0 k ys acc p (p.length : Int) (i : Int)) (acc ++ (p.drop i).map (fun x => zbD ys x ys.length), 0) := by
  intro m
  induction m with
  | zero =>
   intro i h hi acc _
   rw [List.drop_eq_nil_of_le (by omega), List.map_nil, List.append_nil]
   exact Ev.step (fun k => by rw [zaB.l0]) (Ev.ifn (by omega) (Ev.now _))
  | succ m ih =>
   intro i h hi acc ha
   have hlt : i < p.length := by omega
   have r1 : zaJ ByteArray.empty p (i : Int) = p[i] := by simp [zaJ, hlt]
   have hw : wrap64 ((i : Int) + 1) = ((i + 1 : Nat) : Int) := by rw [zbL (by omega) (by omega)]; omega
   refine Ev.step (fun k => by rw [zaB.l0]) (Ev.ifp (by omega) (Ev.ifp (by omega) (Ev.ifp (by omega) (Ev.be (zfe ys _ (by omega) hp) ?_))))
   refine Ev.ifp (by omega) ?_
   rw [r1, hw, List.drop_eq_getElem_cons hlt, List.map_cons]
   have := ih (i + 1) (by omega) (by omega) (acc ++ [zbD ys p[i] ys.length]) (by simp; omega)
   rw [List.append_assoc, List.singleton_append] at this
   exact this
 unfold zaB.f
 refine Ev.be (zfE ys p hy hg h) (Ev.ifp rfl ?_)
 have := go p.length 0 (by omega) (by omega) [] (by simp)
 simpa using this
def zdt (ys : List (List ByteArray)) (x : ByteArray) : Prop := 0 ≤ zbD ys x ys.length ∧ zbD ys x ys.length < (ys.length : Int) - 1
instance (ys : List (List ByteArray)) (x : ByteArray) : Decidable (zdt ys x) := by unfold zdt; infer_instance
def zbT (ys : List (List ByteArray)) : Nat → List ByteArray → List Int
 | _, [] => []
 | i, x :: xs => if zdt ys x then (i : Int) :: zbT ys (i + 1) xs else zbT ys (i + 1) xs
theorem zd1 (ys : List (List ByteArray)) : ∀ (xs : List ByteArray) (i : Nat), (zbT ys i xs).length ≤ xs.length
 | [], _ => Nat.le_refl _
 | x :: xs, i => by
  have := zd1 ys xs (i + 1)
  rw [zbT]; split <;> simp <;> omega
theorem zh3 (ys : List (List ByteArray)) (p : List ByteArray) (hy : ys.length ≤ 4) (hg : ∀ p ∈ ys, Good 6 p) (h : Good 6 p) : Ev (fun k => zaK.f k ys p) (zbT ys 0 p, 0) := by
 have hp : ∀ q ∈ ys, q.length ≤ 1000 := fun q hq => Nat.le_trans (hg q hq).1 (by omega)
 have hl := h.1
 have go : ∀ (m i : Nat), p.length - i = m → i ≤ p.length → ∀ acc : List Int, acc.length ≤ i → Ev (fun k => zaK.l0 k ys acc p (p.length : Int) (i : Int)) (acc ++ zbT ys i (p.drop i), 0) := by
  intro m
  induction m with
  | zero =>
   intro i h hi acc _
   rw [List.drop_eq_nil_of_le (by omega), zbT, List.append_nil]
   exact Ev.step (fun k => by rw [zaK.l0]) (Ev.ifn (by omega) (Ev.now _))
  | succ m ih =>
   intro i h hi acc ha
   have hlt : i < p.length := by omega
   have r1 : zaJ ByteArray.empty p (i : Int) = p[i] := by simp [zaJ, hlt]
   have hw : wrap64 ((i : Int) + 1) = ((i + 1 : Nat) : Int) := by rw [zbL (by omega) (by omega)]; omega
   have hw2 : wrap64 ((ys.length : Int) - 1) = (ys.length : Int) - 1 := zbL (by omega) (by omega)
   refine Ev.step (fun k => by rw [zaK.l0]) (Ev.ifp (by omega) (Ev.ifp (by omega) (Ev.ifp (by omega) (Ev.be (zfe ys _ (by omega) hp) ?_))))
   rw [r1, hw, hw2, List.drop_eq_getElem_cons hlt, zbT]
   by_cases hb : zdt ys p[i]
   ·rw [if_pos hb]
    refine Ev.ifp hb.1 (Ev.ifp hb.2 (Ev.ifp (by omega) ?_))
    have := ih (i + 1) (by omega) (by omega) (acc ++ [(i : Int)]) (by simp; omega)
    rw [List.append_assoc, List.singleton_append] at this
    exact this
   ·rw [if_neg hb]
    have h0 := ih (i + 1) (by omega) (by omega) acc (by omega)
    by_cases h1 : zbD ys p[i] ys.length ≥ 0
    ·exact Ev.ifp h1 (Ev.ifn (fun h2 => hb ⟨h1, h2⟩) h0)
    ·exact Ev.ifn h1 h0
 unfold zaK.f
 refine Ev.be (zfE ys p hy hg h) (Ev.ifp rfl ?_)
 have := go p.length 0 (by omega) (by omega) [] (by simp)
 simpa using this
theorem zd9 (l : List Int) (s1 s2 : Int) (h1 : 0 ≤ s1) (hl : l.length ≤ 17592186044416) (n : Int) (h0 : 1 ≤ n) (hn : n ≤ 1000) : ∃ (b : Bool) (t1 t2 : Int), zaz.f l s1 s2 n = some (b, t1, t2) ∧ 0 ≤ t1 := by
 obtain ⟨r, t1, t2, h, h2, h3, h4⟩ := zeL l s1 s2 h1 hl (n - 1) (by omega) (by omega)
 unfold zaz.f
 rw [zbL (by omega) (by omega), h]
 exact ⟨r == 0, t1, t2, rfl, h4⟩
theorem zez (p : List ByteArray) (h : p.length ≤ 1000) : zaI.f p = some p := by
 unfold zaI.f
 rw [Option.bind_some, if_pos (by simp only [List.length_nil]; omega)]
 rfl
def YG (N : Nat) (g : Nat → Option (List (List ByteArray) × Int × Int)) : Prop := ∃ zs t1 t2, Ev g (zs, t1, t2) ∧ zs.length = N ∧ (∀ q ∈ zs, Good 6 q) ∧ 0 ≤ t1
theorem YG.to {N : Nat} {g f : Nat → Option (List (List ByteArray) × Int × Int)} (h : YG N g) (hg : ∀ r, Ev g r → Ev f r) : YG N f := by
 obtain ⟨zs, t1, t2, h1, h2⟩ := h
 exact ⟨zs, t1, t2, hg _ h1, h2⟩
theorem ze9 (l : List Int) (hl : l.length ≤ 17592186044416) : ∀ (m : Nat) (ys : List (List ByteArray)) (p : List ByteArray) (s1 s2 : Int), Good 6 p → (∀ q ∈ ys, Good 6 q) → ys.length + m ≤ 100 → 0 ≤ s1 → YG (ys.length + m) (fun k => zq.l0 k ys p (m : Int) l s1 s2)
 | 0, ys, p, s1, s2, hp, hy, hm, h1 => ⟨ys, s1, s2, Ev.step (fun k => by rw [zq.l0]) (Ev.ifn (by omega) (Ev.now _)), rfl, hy, h1⟩
 | m + 1, ys, p, s1, s2, hp, hy, hm, h1 => by
  have e1 : wrap64 (((m + 1 : Nat) : Int) - 1) = (m : Int) := by rw [zbL (by omega) (by omega)]; omega
  have ih : ∀ (q : List ByteArray) (s1 s2 : Int), Good 6 q → 0 ≤ s1 → YG (ys.length + (m + 1)) (fun k => zq.l0 k (ys ++ [p]) q (m : Int) l s1 s2) := fun q s1 s2 hq h1 => by
   have h := ze9 l hl m (ys ++ [p]) q s1 s2 hq (fun z hz => by
    rcases List.mem_append.1 hz with h | h
    ·exact hy z h
    ·rw [List.mem_singleton.1 h]; exact hp) (by simp; omega) h1
   rwa [show (ys ++ [p]).length + m = ys.length + (m + 1) by simp; omega] at h
  have J6 : ∀ (b : Bool) (q : List ByteArray) (s1 s2 : Int), Good 6 q → (b = true → q.length < 6) → 0 ≤ s1 → YG (ys.length + (m + 1)) (fun k => zq.j6 k (ys ++ [p]) q ((m + 1 : Nat) : Int) b l s1 s2) := fun b q s1 s2 hq hb h1 => by
   cases b with
   | true =>
    obtain ⟨x, u1, u2, hx, hxw, hu⟩ := ze8 l s1 s2 h1 hl
    refine (ih (q ++ [x]) u1 u2 ⟨by have := hb rfl; simp; omega, fun z hz => by
     rcases List.mem_append.1 hz with h | h
     ·exact hq.2 z h
     ·rw [List.mem_singleton.1 h]; exact hxw⟩ hu).to fun r hr => Ev.step (fun k => by rw [zq.j6]) (Ev.ifp rfl (Ev.bs (zez q (by have := hq.1; omega)) (Ev.bs hx ?_)))
    have hq1 := hq.1
    refine Ev.ifp (by omega) ?_
    rw [e1]; exact hr
   | false =>
    refine (ih q s1 s2 hq h1).to fun r hr => Ev.step (fun k => by rw [zq.j6]) (Ev.ifn (by decide) ?_)
    rw [e1]; exact hr
  have J5 : ∀ (q : List ByteArray) (s1 s2 : Int), Good 6 q → 0 ≤ s1 → YG (ys.length + (m + 1)) (fun k => zq.j5 k (ys ++ [p]) q ((m + 1 : Nat) : Int) l s1 s2) := fun q s1 s2 hq h1 => by
   by_cases h6 : (q.length : Int) < 6
   ·obtain ⟨b, u1, u2, hb, hu⟩ := zd9 l s1 s2 h1 hl 3 (by omega) (by omega)
    exact (J6 b q u1 u2 hq (fun _ => by omega) hu).to fun r hr => Ev.step (fun k => by rw [zq.j5]) (Ev.ifp h6 (Ev.bs hb hr))
   ·exact (J6 false q s1 s2 hq (by simp) h1).to fun r hr => Ev.step (fun k => by rw [zq.j5]) (Ev.ifn h6 hr)
  have J4 : ∀ (b : Bool) (q : List ByteArray) (s1 s2 : Int), Good 6 q → (b = true → 1 ≤ (q.length : Int)) → 0 ≤ s1 → YG (ys.length + (m + 1)) (fun k => zq.j4 k (ys ++ [p]) q ((m + 1 : Nat) : Int) b l s1 s2) := fun b q s1 s2 hq hb h1 => by
   cases b with
   | true => exact (J5 (q.drop (1 : Int).toNat) s1 s2 ⟨by have := hq.1; simp; omega, fun z hz => hq.2 z (List.mem_of_mem_drop hz)⟩ h1).to fun r hr => Ev.step (fun k => by rw [zq.j4]) (Ev.ifp rfl (Ev.ifp (hb rfl) hr))
   | false => exact (J5 q s1 s2 hq h1).to fun r hr => Ev.step (fun k => by rw [zq.j4]) (Ev.ifn (by decide) hr)
  have J3 : ∀ (q : List ByteArray) (s1 s2 : Int), Good 6 q → 0 ≤ s1 → YG (ys.length + (m + 1)) (fun k => zq.j3 k (ys ++ [p]) q ((m + 1 : Nat) : Int) l s1 s2) := fun q s1 s2 hq h1 => by
   by_cases h6 : (q.length : Int) > 0
   ·obtain ⟨b, u1, u2, hb, hu⟩ := zd9 l s1 s2 h1 hl 3 (by omega) (by omega)
    exact (J4 b q u1 u2 hq (fun _ => by omega) hu).to fun r hr => Ev.step (fun k => by rw [zq.j3]) (Ev.ifp h6 (Ev.bs hb hr))
   ·exact (J4 false q s1 s2 hq (by simp) h1).to fun r hr => Ev.step (fun k => by rw [zq.j3]) (Ev.ifn h6 hr)
  have J2 : ∀ (b : Bool) (q : List ByteArray) (s1 s2 : Int), Good 6 q → (b = true → (q.length : Int) > 0) → 0 ≤ s1 → YG (ys.length + (m + 1)) (fun k => zq.j2 k (ys ++ [p]) q ((m + 1 : Nat) : Int) b l s1 s2) := fun b q s1 s2 hq hb h1 => by
   cases b with
   | true =>
    have hq1 := hq.1
    have hq0 := hb rfl
    obtain ⟨n, u1, u2, hn, hn0, hn1, hu⟩ := zeL l s1 s2 h1 hl ((q.length : Int) - 1) (by omega) (by omega)
    obtain ⟨x, v1, v2, hx, hxw, hv⟩ := ze8 l u1 u2 hu hl
    refine (J3 (q.set (n : Int).toNat x) v1 v2 ⟨by simpa using hq1, fun z hz => ?_⟩ hv).to fun r hr => Ev.step (fun k => by rw [zq.j2]) (Ev.ifp rfl (Ev.bs (zez q (by omega)) (Ev.bs (a := (n, u1, u2)) ?_ (Ev.bs hx (Ev.ifp hn0 ?_)))))
    ·rcases List.mem_or_eq_of_mem_set hz with h | h
     ·exact hq.2 z h
     ·rw [h]; exact hxw
    ·rw [zbL (by omega) (by omega)]; exact hn
    ·have hq2 : n < (q.length : Int) := by omega
     exact Ev.ifp hq2 hr
   | false => exact (J3 q s1 s2 hq h1).to fun r hr => Ev.step (fun k => by rw [zq.j2]) (Ev.ifn (by decide) hr)
  have J1 : ∀ (q : List ByteArray) (s1 s2 : Int), Good 6 q → 0 ≤ s1 → YG (ys.length + (m + 1)) (fun k => zq.j1 k (ys ++ [p]) q ((m + 1 : Nat) : Int) l s1 s2) := fun q s1 s2 hq h1 => by
   by_cases h6 : (q.length : Int) > 0
   ·obtain ⟨b, u1, u2, hb, hu⟩ := zd9 l s1 s2 h1 hl 2 (by omega) (by omega)
    exact (J2 b q u1 u2 hq (fun _ => h6) hu).to fun r hr => Ev.step (fun k => by rw [zq.j1]) (Ev.ifp h6 (Ev.bs hb hr))
   ·exact (J2 false q s1 s2 hq (by simp) h1).to fun r hr => Ev.step (fun k => by rw [zq.j1]) (Ev.ifn h6 hr)
  obtain ⟨b, u1, u2, hb, hu⟩ := zd9 l s1 s2 h1 hl 4 (by omega) (by omega)
  cases b with
  | true =>
   obtain ⟨q, v1, v2, g1, g2, g3, g4⟩ := zeW l u1 u2 hu hl 4 (by omega) 200 (by omega)
   refine (J1 q v1 v2 ⟨by omega, g3⟩ g4).to fun r hr => Ev.step (fun k => by rw [zq.l0]) (Ev.ifp (by omega) (Ev.bs (zez p (by have := hp.1; omega)) ?_))
   refine Ev.ifp (by omega) ?_
   refine Ev.bs rfl ?_
   refine Ev.bs hb ?_
   refine Ev.ifp rfl ?_
   exact Ev.be (Ev.of (zI.mono _ _ _ _) g1) hr
  | false =>
   refine (J1 p u1 u2 hp hu).to fun r hr => Ev.step (fun k => by rw [zq.l0]) (Ev.ifp (by omega) (Ev.bs (zez p (by have := hp.1; omega)) ?_))
   refine Ev.ifp (by omega) ?_
   refine Ev.bs rfl ?_
   refine Ev.bs hb ?_
   exact Ev.ifn Bool.false_ne_true hr
theorem zhl (l : List Int) (hl : l.length ≤ 17592186044416) (s1 s2 : Int) (h1 : 0 ≤ s1) (n : Nat) (hn : n ≤ 90) : ∃ ys t1 t2, Ev (fun k => zq.f k l s1 s2 (n : Int)) (ys, t1, t2) ∧ ys.length ≤ n ∧ (∀ q ∈ ys, Good 6 q) ∧ 0 ≤ t1 := by
 obtain ⟨q, u1, u2, g1, g2, g3, g4⟩ := zeW l s1 s2 h1 hl 4 (by omega) 200 (by omega)
 obtain ⟨r, v1, v2, h2, h3, h4, h5⟩ := zeL l u1 u2 g4 hl n (by omega) (by omega)
 obtain ⟨m, rfl⟩ := Int.eq_ofNat_of_zero_le h3
 obtain ⟨zs, t1, t2, h6, h7, h8, h9⟩ := ze9 l hl m [] q v1 v2 ⟨by omega, g3⟩ (by simp) (by simp; omega) h5
 refine ⟨zs, t1, t2, ?_, by simp at h7; omega, h8, h9⟩
 unfold zq.f
 exact Ev.be (Ev.of (zI.mono _ _ _ _) g1) (Ev.bs h2 h6)
end Go.Proofs.Ytgmbbfmbimofoaa.P
