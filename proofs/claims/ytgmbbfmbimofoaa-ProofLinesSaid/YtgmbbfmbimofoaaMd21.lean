-- MERGED BY A PROGRAM out of texts of this claim: hand work, and what a (turned) print of the kit has written for it
import Derived.Outline
import Derived.Test.YtgmbbfmbimofoaaMd5
import Derived.Test.YtgmbbfmbimofoaaMd20
import Derived.Test.YtgmbbfmbimofoaaMd6
import Derived.Test.YtgmbbfmbimofoaaMd12
import Derived.Test.YtgmbbfmbimofoaaMd11
import Derived.Test.YtgmbbfmbimofoaaMd8
namespace Go.Proofs.Ytgmbbfmbimofoaa.P
open Go.RowKit Go.Proofs.YtgmbbfmbimofoaaW.PrintWords Go.Proofs.YtgmbbfmbimofoaaW.PrintLast Go.Proofs.YtgmbbfmbimofoaaW.PrintMore
attribute [local go_sem] zR zO zT zU zM zK zQ zP
set_option linter.unusedVariables false
set_option linter.unusedSimpArgs false
def zda.f (k : Nat) (l0 : List (List ByteArray)) (l1 : List (S63)) (l2 : List ByteArray) : Option (Int × Int × Int) := (zaB.f k l0).bind fun t137 => (if t137 = 0 then (if (l0.length : Int) = 0 then (some (0, 0, 7)) else (if 0 ≤ (wrap64 ((l0.length : Int) - 1)) then (if (wrap64 ((l0.length : Int) - 1)) < (l0.length : Int) then ((zbu.f k (zb0 l0 (wrap64 ((l0.length : Int) - 1))) l1).bind fun bt139 => (if bt139.2 = 0 then ((zae.f k l2).bind fun t143 => (if t143 = 0 then ((zbv.f bt139.1 l2).bind fun t144 => (if (t144.length : Int) = 0 then (some (0, 0, 0)) else (if 0 < (t144.length : Int) then (if ((zk t144 0).f0) = 3 then (some (1, (zk t144 0).f1, 0)) else ((zaN.f k bt139.1 ((zk t144 0).f2)).bind fun t149 => (if t149 = true then (some (3, (zk t144 0).f1, 0)) else (if (wrap64 ((l0.length : Int) - 1)) ≤ (l0.length : Int) then ((zaW.f k (l0.take ((wrap64 ((l0.length : Int) - 1)) : Int).toNat) ((zk t144 0).f2)).bind fun t154 => (if t154 ≥ 0 then (some (2, (zk t144 0).f1, 0)) else (some (3, (zk t144 0).f1, 0)))) else (none))))) else (none)))) else (some (0, 0, t143)))) else (some (0, 0, bt139.2)))) else (none)) else (none))) else (some (0, 0, t137)))
theorem zgR {b : Bool} (h : b = false) {p q : Prop} (hq : q) : if b = true then p else q := by
 subst h; exact hq
theorem ziq (A : Option Addr) (n c : Nat) (j : Int) (h0 : 0 ≤ j) (hm : j ≤ n) (hc : n ≤ c) : ∀ W : World, (Instr.slice 29 (.slice A n c) none (some (.int .i64 j)) none).run Try.prog W = .ok (.slice A j.toNat c) W := by
 intro W
 have hi : ∃ i, Try.prog.info? 22 = some i ∧ i.size = 1 := by
  have h1 : (Try.prog.info? 22).map (fun i => i.size) = some 1 := by kernel_rfl
  obtain ⟨i, h2, h3⟩ := Option.map_eq_some_iff.1 h1
  exact ⟨i, h2, h3⟩
 obtain ⟨i, hi, hsz⟩ := hi
 have hel : Try.prog.elem 29 = 22 := by kernel_rfl
 have hu : Try.prog.underlying 29 = some (.slice (Try.prog.elem 29)) := by rw [hel]; exact Try.underlying29
 have ha : (A.map fun x => x.add 0) = A := by cases A <;> simp [Addr.add]
 rw [run_slice_h W 29 A n c hu .i64 j h0 (by omega), hel]
 simp [sizeOf, typeInfo, hi, hsz, sliced, Result.andThen, ha]
theorem zdb {W : World} {g : Nat} {z0 z1 : Value} (hb : W.heap[g]? = some (.cells #[z0, z1] 54 (0, 0))) (u0 u1 v7 : Value) (tmps : Array Value) (h6 : tmps.getD 6 undef = .pointer (some ⟨g, 0, none⟩)) (h7 : tmps.getD 7 undef = v7) {R : Ending → World → Prop}
  (hR : R (.returned (.tuple #[.agg #[u0, u1], v7])) ((W.setCell ⟨g, 0, none⟩ u0).setCell ⟨g, 1, none⟩ u1)) : bodyPost Try.prog Try.f37 R .ret { tmps := tmps, defers := [] } ((W.setCell ⟨g, 0, none⟩ u0).setCell ⟨g, 1, none⟩ u1) := by
 have hb2 := zX (zX hb 0 u0 rfl) 1 u1 rfl
 have h := zgp (P := Try.prog) (fn := Try.f37) (p := 6) (u := 7) (ty := 54) (by kernel_rfl) tmps _ g 54 #[u0, u1] (0, 0) _ h6 hb2 Try.underlying54 rfl (by kernel_rfl)
 rw [h7] at h
 exact bodyPost_ret h rfl hR
set_option maxHeartbeats 4000000 in
set_option maxRecDepth 100000 in
theorem zda.calls (k : Nat) (A0 : Option Addr) (c0 : Nat) (l0 : List (List ByteArray)) (A1 : Option Addr) (c1 : Nat) (l1 : List (S63)) (A2 : Option Addr) (c2 : Nat) (l2 : List ByteArray) (r1 : Int) (r2 : Int) (r3 : Int) (w : World) (hr0 : Kd.C (Kd.slice 9 Kd.string) w A0 l0.length l0) (hc0 : l0.length ≤ c0) (hr1 : Kd.C k63 w A1 l1.length l1) (hc1 : l1.length ≤ c1) (hr2 : Kd.C Kd.string w A2 l2.length l2) (hc2 : l2.length ≤ c2) (h : zda.f k l0 l1 l2 = some (r1, r2, r3)) :
  Calls Try.prog 37 #[.slice A0 l0.length c0, .slice A1 l1.length c1, .slice A2 l2.length c2] w fun e w' => e = .returned (.tuple #[.agg #[.int .i64 r1, .int .i64 r2], .int .i64 r3]) ∧ Below w.heap.size w w' := by
 have H := za.mk h
 have HR := za.mk (And.intro hr0 (And.intro hc0 (And.intro hr1 (And.intro hc1 (And.intro hr2 hc2)))))
 clear hr0 hc0 hr1 hc1 hr2 hc2 h
 obtain ⟨e0, he0, h⟩ := Option.bind_eq_some_iff.mp H.out
 replace H := za.mk h
 clear h
 have HE := za.mk he0
 clear he0
 have hu54 := Try.underlying54
 have HB : za (Below w.heap.size w (w.alloc (.cells #[.int .i64 0, .int .i64 0] 54))) := ⟨ze (Below.refl _ _) _⟩
 have B6 := za.mk (heap_alloc_new w (.cells #[.int .i64 0, .int .i64 0] 54))
 go_enter Try.func37, Try.ntmps37
 go_wp2_with fail
 refine (zaB.calls k A0 c0 l0 e0 _ (Kd.zaf HR.out.1 HB.out) HR.out.2.1 HE.out).mono ?_
 rintro e w1 ⟨rfl, hb1⟩
 replace HB := za.mk (zu HB.out hb1)
 replace B6 := za.mk (zF B6.out hb1)
 clear hb1
 by_cases g0 : e0 = 0
 ·subst g0
  have h := H.out
  rw [if_pos rfl] at h
  replace H := za.mk h
  clear h
  by_cases g1 : (l0.length : Int) = 0
  ·have h := H.out
   rw [if_pos g1] at h
   simp only [Option.some.injEq, Prod.mk.injEq] at h
   obtain ⟨rfl, rfl, rfl⟩ := h
   have t1 : ((l0.length : Int) == 0) = true := beq_iff_eq.mpr g1
   have t1' : (l0.length == 0) = true := by simpa using g1
   have hc60 : w1.cell? ⟨w.heap.size, 0, none⟩ = some (.int .i64 0) := zg B6.out 0
   have hf60 : w1.frozen? ⟨w.heap.size, 0, none⟩ = false := zq B6.out 0
   have hc61 : ∀ x, (w1.setCell ⟨w.heap.size, 0, none⟩ (.int .i64 x)).cell? ⟨w.heap.size, 1, none⟩ = some (.int .i64 0) := fun x => zg (zav B6.out 0 _) 1
   have hf61 : ∀ x, (w1.setCell ⟨w.heap.size, 0, none⟩ (.int .i64 x)).frozen? ⟨w.heap.size, 1, none⟩ = false := fun x => zq (zav B6.out 0 _) 1
   go_wp2_with fail
   refine zdb B6.out (.int .i64 0) (.int .i64 0) (.int .i64 7) _ (by rfl) (by rfl) ?_
   exact ⟨rfl, zh (zh HB.out (Nat.le_refl _)) (Nat.le_refl _)⟩
  ·have h := H.out
   rw [if_neg g1] at h
   obtain ⟨lt, hlt⟩ : ∃ t, wrap64 ((l0.length : Int) - 1) = t := ⟨_, rfl⟩
   rw [hlt] at h
   have g2 : 0 ≤ lt := by
    by_cases g2 : 0 ≤ lt
    ·exact g2
    ·rw [if_neg g2] at h; cases h
   rw [if_pos g2] at h
   have g3 : lt < (l0.length : Int) := by
    by_cases g3 : lt < (l0.length : Int)
    ·exact g3
    ·rw [if_neg g3] at h; cases h
   rw [if_pos g3] at h
   obtain ⟨⟨ra, re⟩, hap, h⟩ := Option.bind_eq_some_iff.mp h
   dsimp only at h
   replace H := za.mk h
   clear h
   have t1 : ((l0.length : Int) == 0) = false := beq_eq_false_iff_ne.mpr g1
   have t1' : (l0.length == 0) = false := by simpa using g1
   obtain ⟨ady, Ay, cy, ey, hy, hyl, hyc⟩ := zez (Kd.zaf HR.out.1 HB.out) lt g2 g3
   subst ey
   have HY := za.mk (And.intro hyl (And.intro hyc hap))
   clear hyl hyc hap
   have G := za.mk (And.intro g2 g3)
   replace g2 := eq_true g2
   replace g3 := eq_true g3
   go_wp2_with fail
   refine (zbu.calls k Ay cy (zb0 l0 lt) A1 c1 l1 ra re w1 HY.out.2.1 HY.out.1 (Kd.zaf HR.out.2.2.1 HB.out) HR.out.2.2.2.1 HY.out.2.2).mono ?_
   rintro e w2 ⟨v2, rfl, hR2, hb2⟩
   replace HB := za.mk (zu HB.out hb2)
   replace B6 := za.mk (zF B6.out hb2)
   obtain ⟨A3, c3, rfl, _, _⟩ := Kd.zaA hR2
   have F2 := za.mk hR2
   clear hR2 hb2 hy t1 t1' HY
   by_cases g4 : re = 0
   ·subst g4
    have h := H.out
    rw [if_pos rfl] at h
    obtain ⟨ce, hce, h⟩ := Option.bind_eq_some_iff.mp h
    replace H := za.mk h
    clear h
    go_wp2_with fail
    refine (zae.calls k A2 c2 l2 ce w2 (Kd.zaf HR.out.2.2.2.2.1 HB.out) HR.out.2.2.2.2.2 hce).mono ?_
    rintro e w3 ⟨rfl, hb3⟩
    clear hce
    replace HB := za.mk (zu HB.out hb3)
    replace B6 := za.mk (zF B6.out hb3)
    replace F2 := za.mk (Kd.zH F2.out hb3)
    clear hb3
    by_cases g5 : ce = 0
    ·subst g5
     have h := H.out
     rw [if_pos rfl] at h
     obtain ⟨dl, hdl, h⟩ := Option.bind_eq_some_iff.mp h
     replace H := za.mk h
     clear h
     go_wp2_with fail
     refine (zbv.calls A3 c3 ra A2 c2 l2 dl w3 (zbg F2.out).1 (zbg F2.out).2 (Kd.zaf HR.out.2.2.2.2.1 HB.out) HR.out.2.2.2.2.2 hdl).mono ?_
     rintro e w4 ⟨v4, rfl, hR4, hb4⟩
     clear hdl
     replace HB := za.mk (zu HB.out hb4)
     replace B6 := za.mk (zF B6.out hb4)
     replace F2 := za.mk (Kd.zH F2.out hb4)
     obtain ⟨A4, c4, rfl, _, _⟩ := Kd.zaA hR4
     have F4 := za.mk hR4
     clear hR4 hb4
     by_cases g6 : (dl.length : Int) = 0
     ·have h := H.out
      rw [if_pos g6] at h
      simp only [Option.some.injEq, Prod.mk.injEq] at h
      obtain ⟨rfl, rfl, rfl⟩ := h
      have t2 : ((dl.length : Int) == 0) = true := beq_iff_eq.mpr g6
      have hc60 : w4.cell? ⟨w.heap.size, 0, none⟩ = some (.int .i64 0) := zg B6.out 0
      have hf60 : w4.frozen? ⟨w.heap.size, 0, none⟩ = false := zq B6.out 0
      have hc61 : ∀ x, (w4.setCell ⟨w.heap.size, 0, none⟩ (.int .i64 x)).cell? ⟨w.heap.size, 1, none⟩ = some (.int .i64 0) := fun x => zg (zav B6.out 0 _) 1
      have hf61 : ∀ x, (w4.setCell ⟨w.heap.size, 0, none⟩ (.int .i64 x)).frozen? ⟨w.heap.size, 1, none⟩ = false := fun x => zq (zav B6.out 0 _) 1
      go_wp2_with fail
      refine zdb B6.out (.int .i64 0) (.int .i64 0) (.int .i64 0) _ (by rfl) (by rfl) ?_
      exact ⟨rfl, zh (zh HB.out (Nat.le_refl _)) (Nat.le_refl _)⟩
     ·have h := H.out
      have g7 : 0 < (dl.length : Int) := by omega
      rw [if_neg g6, if_pos g7] at h
      obtain ⟨ad4, e4, hx0, hx1, hx2⟩ := zbe (zbg F4.out).1 0 (Int.le_refl _) g7
      subst e4
      have ead : ad4.add ((0 : Int).toNat * 3) = ad4 := by simp [Addr.add]
      rw [ead] at hx0 hx1 hx2
      obtain ⟨⟨m0, m1, m2⟩, hm⟩ : ∃ m, zk dl 0 = m := ⟨_, rfl⟩
      rw [hm] at h hx0 hx1 hx2
      dsimp only at h hx0 hx1 hx2
      replace H := za.mk h
      clear h hm
      have t2 : ((dl.length : Int) == 0) = false := beq_eq_false_iff_ne.mpr g6
      have t2' : (dl.length == 0) = false := by simpa using g6
      have t3 : 0 < dl.length := by omega
      have B14 := za.mk (heap_alloc_new w4 (.cells #[.int .i64 m0, .int .i64 m1, .string m2] 63))
      have hb5 := ze (Below.refl w4.heap.size w4) (.cells #[.int .i64 m0, .int .i64 m1, .string m2] 63)
      replace HB := za.mk (zu HB.out hb5)
      replace B6 := za.mk (zF B6.out hb5)
      replace F2 := za.mk (Kd.zH F2.out hb5)
      by_cases g8 : m0 = 3
      ·subst g8
       have h := H.out
       rw [if_pos rfl] at h
       simp only [Option.some.injEq, Prod.mk.injEq] at h
       obtain ⟨rfl, rfl, rfl⟩ := h
       clear hb5
       have hc60 : (w4.alloc (.cells #[.int .i64 3, .int .i64 m1, .string m2] 63)).cell? ⟨w.heap.size, 0, none⟩ = some (.int .i64 0) := zg B6.out 0
       have hf60 : (w4.alloc (.cells #[.int .i64 3, .int .i64 m1, .string m2] 63)).frozen? ⟨w.heap.size, 0, none⟩ = false := zq B6.out 0
       have hc61 : ∀ x, ((w4.alloc (.cells #[.int .i64 3, .int .i64 m1, .string m2] 63)).setCell ⟨w.heap.size, 0, none⟩ (.int .i64 x)).cell? ⟨w.heap.size, 1, none⟩ = some (.int .i64 0) := fun x => zg (zav B6.out 0 _) 1
       have hf61 : ∀ x, ((w4.alloc (.cells #[.int .i64 3, .int .i64 m1, .string m2] 63)).setCell ⟨w.heap.size, 0, none⟩ (.int .i64 x)).frozen? ⟨w.heap.size, 1, none⟩ = false := fun x => zq (zav B6.out 0 _) 1
       have hm1 : (w4.alloc (.cells #[.int .i64 3, .int .i64 m1, .string m2] 63)).cell? ⟨w4.heap.size, 1, none⟩ = some (.int .i64 m1) := zg B14.out 1
       go_wp2_with fail
       refine zdb B6.out (.int .i64 1) (.int .i64 m1) (.int .i64 0) _ (by rfl) (by rfl) ?_
       exact ⟨rfl, zh (zh HB.out (Nat.le_refl _)) (Nat.le_refl _)⟩
      ·have h := H.out
       rw [if_neg g8] at h
       obtain ⟨cs, hcs, h⟩ := Option.bind_eq_some_iff.mp h
       replace H := za.mk h
       clear h
       have t4 : (m0 == 3) = false := beq_eq_false_iff_ne.mpr g8
       obtain ⟨W5, hW5⟩ : ∃ W_, w4.alloc (.cells #[.int .i64 m0, .int .i64 m1, .string m2] 63) = W_ := ⟨_, rfl⟩
       have HW5 := za.mk hW5
       rw [hW5] at B14 HB B6 F2
       clear hW5 hb5
       go_wp2_with fail
       rw [HW5.out]
       refine zax (fun W' => W'.cell? ⟨w4.heap.size, 2, none⟩ = some (.string m2)) [] (by kernel_rfl) ?_
       have HS : W5.drew.cell? ⟨w4.heap.size, 2, none⟩ = some (.string m2) := zg (zm B14.out) 2
       refine tk 0 ?_
       (try simp only [pu0, pu1, pu2, pu3, pu4])
       refine tk 1 ?_
       (try simp only [pu0, pu1, pu2, pu3, pu4])
       refine tk 2 ?_
       (try simp only [pu0, pu1, pu2, pu3, pu4])
       refine on1 3 fun K hK => ?_
       clear HS
       refine zbz Try.func74 (by kernel_rfl) rfl #[.slice A3 ra.length c3, .string m2] (by rfl) rfl rfl (by simp only [List.map_toArray, List.map_cons, List.map_nil]; rfl) ?_
       refine (zaN.calls k A3 c3 ra m2 cs W5.drew (zbg (Kd.zH F2.out (zf (Below.refl _ _)))).1 (zbg F2.out).2 hcs).mono ?_
       rintro e w6 ⟨rfl, nd, hw6⟩
       refine ⟨_, rfl, ?_⟩
       have hb6 : Below W5.heap.size W5 w6 := by rw [hw6]; exact zb (zf (Below.refl _ _)) _
       clear hw6 hcs
       replace HB := za.mk (zu HB.out hb6)
       replace B6 := za.mk (zF B6.out hb6)
       replace B14 := za.mk (zF B14.out hb6)
       clear hb6
       have HS : w6.cell? ⟨w4.heap.size, 2, none⟩ = some (.string m2) := zg B14.out 2
       refine hK.out _ _ (fun _ => HS) ?_
       clear hK K
       (try simp only [pu0, pu1, pu2, pu3, pu4])
       cases cs
       ·have h := H.out
        rw [if_neg (by decide)] at h
        have gle : lt ≤ (l0.length : Int) := Int.le_of_lt G.out.2
        rw [if_pos gle] at h
        obtain ⟨og, hog, h⟩ := Option.bind_eq_some_iff.mp h
        replace H := za.mk h
        clear h
        have hsl := ziq (some ady) l0.length c0 lt G.out.1 gle HR.out.2.1
        have hlen : (l0.take lt.toNat).length = lt.toNat := by rw [List.length_take]; have := G.out.2; have := G.out.1; omega
        refine tk 4 ?_
        (try simp only [pu0, pu1, pu2, pu3, pu4])
        refine tk 5 ?_
        (try simp only [pu0, pu1, pu2, pu3, pu4])
        refine tk 6 ?_
        (try simp only [pu0, pu1, pu2, pu3, pu4])
        refine tk 7 ?_
        (try simp only [pu0, pu1, pu2, pu3, pu4])
        refine tk 8 ?_
        (try simp only [pu0, pu1, pu2, pu3, pu4])
        refine tk 9 ?_
        (try simp only [pu0, pu1, pu2, pu3, pu4])
        refine tk 10 ?_
        (try simp only [pu0, pu1, pu2, pu3, pu4])
        refine on1 11 fun K hK => ?_
        clear HS
        have hC9 : Kd.C (Kd.slice 9 Kd.string) w6 (some ady) (l0.take lt.toNat).length (l0.take lt.toNat) := Kd.zh8 (Kd.zaf HR.out.1 HB.out) (by omega)
        refine zbz Try.func75 (by kernel_rfl) rfl #[.slice (some ady) (l0.take lt.toNat).length c0, .string m2] (by rfl) rfl rfl (by simp only [List.map_toArray, List.map_cons, List.map_nil, hlen]; rfl) ?_
        refine (zaW.calls k (some ady) c0 (l0.take lt.toNat) m2 og w6 hC9 (by have := HR.out.2.1; omega) hog).mono ?_
        rintro e w7 ⟨rfl, nd, hw7⟩
        refine ⟨_, rfl, ?_⟩
        have hb7 : Below w6.heap.size w6 w7 := by rw [hw7]; exact zb (Below.refl _ _) _
        clear hw7 hog
        replace HB := za.mk (zu HB.out hb7)
        replace B6 := za.mk (zF B6.out hb7)
        replace B14 := za.mk (zF B14.out hb7)
        clear hb7
        have HS : w7.cell? ⟨w4.heap.size, 2, none⟩ = some (.string m2) := zg B14.out 2
        refine hK.out _ _ (fun _ => HS) ?_
        clear hK K
        (try simp only [pu0, pu1, pu2, pu3, pu4])
        refine tk 12 ?_
        (try simp only [pu0, pu1, pu2, pu3, pu4])
        refine tk 13 ?_
        (try simp only [pu0, pu1, pu2, pu3, pu4])
        refine tk 14 ?_
        (try simp only [pu0, pu1, pu2, pu3, pu4])
        refine zar (by kernel_rfl) ?_ _
        clear HS hsl
        by_cases g9 : og ≥ 0
        ·have h := H.out
         rw [if_pos g9] at h
         simp only [Option.some.injEq, Prod.mk.injEq] at h
         obtain ⟨rfl, rfl, rfl⟩ := h
         have t5 : decide (0 ≤ og) = true := decide_eq_true g9
         have hc60 : w7.cell? ⟨w.heap.size, 0, none⟩ = some (.int .i64 0) := zg B6.out 0
         have hf60 : w7.frozen? ⟨w.heap.size, 0, none⟩ = false := zq B6.out 0
         have hc61 : ∀ x, (w7.setCell ⟨w.heap.size, 0, none⟩ (.int .i64 x)).cell? ⟨w.heap.size, 1, none⟩ = some (.int .i64 0) := fun x => zg (zav B6.out 0 _) 1
         have hf61 : ∀ x, (w7.setCell ⟨w.heap.size, 0, none⟩ (.int .i64 x)).frozen? ⟨w.heap.size, 1, none⟩ = false := fun x => zq (zav B6.out 0 _) 1
         have hm1 : w7.cell? ⟨w4.heap.size, 1, none⟩ = some (.int .i64 m1) := zg B14.out 1
         go_wp2_with fail
         refine zdb B6.out (.int .i64 2) (.int .i64 m1) (.int .i64 0) _ (by rfl) (by rfl) ?_
         exact ⟨rfl, zh (zh HB.out (Nat.le_refl _)) (Nat.le_refl _)⟩
        ·have h := H.out
         rw [if_neg g9] at h
         simp only [Option.some.injEq, Prod.mk.injEq] at h
         obtain ⟨rfl, rfl, rfl⟩ := h
         have t5 : decide (0 ≤ og) = false := decide_eq_false g9
         have hc60 : w7.cell? ⟨w.heap.size, 0, none⟩ = some (.int .i64 0) := zg B6.out 0
         have hf60 : w7.frozen? ⟨w.heap.size, 0, none⟩ = false := zq B6.out 0
         have hc61 : ∀ x, (w7.setCell ⟨w.heap.size, 0, none⟩ (.int .i64 x)).cell? ⟨w.heap.size, 1, none⟩ = some (.int .i64 0) := fun x => zg (zav B6.out 0 _) 1
         have hf61 : ∀ x, (w7.setCell ⟨w.heap.size, 0, none⟩ (.int .i64 x)).frozen? ⟨w.heap.size, 1, none⟩ = false := fun x => zq (zav B6.out 0 _) 1
         have hm1 : w7.cell? ⟨w4.heap.size, 1, none⟩ = some (.int .i64 m1) := zg B14.out 1
         go_wp2_with fail
         refine zdb B6.out (.int .i64 3) (.int .i64 m1) (.int .i64 0) _ (by rfl) (by rfl) ?_
         exact ⟨rfl, zh (zh HB.out (Nat.le_refl _)) (Nat.le_refl _)⟩
       ·refine zdv (i := 4) (oi := { dst := some 67, op := Go.Op.unOp Go.UnOp.not 4 (Go.Operand.tmp 66), type := 4, pos := "years.go:143", after := #[{ on := 3, ground := Go.Ground.data }], guard := none }) (v := ?_) rfl (by kernel_rfl) (by kernel_rfl) (by kernel_rfl) (by kernel_rfl) (by kernel_rfl) (fun _ _ _ h => h) (.inl ⟨by rfl, ?_⟩) (by assumption) ?_
        rotate_left
        ·intro w_ hS_; (try dsimp only at hS_); go_simp; all_goals (with_reducible rfl)
        (try simp only [pu0, pu1, pu2, pu3, pu4])
        refine tk 5 ?_
        (try simp only [pu0, pu1, pu2, pu3, pu4])
        refine tkn 6 ?_
        (try simp only [pu0, pu1, pu2, pu3, pu4])
        refine tkn 7 ?_
        (try simp only [pu0, pu1, pu2, pu3, pu4])
        refine tkn 8 ?_
        (try simp only [pu0, pu1, pu2, pu3, pu4])
        refine tkn 9 ?_
        (try simp only [pu0, pu1, pu2, pu3, pu4])
        refine tkn 10 ?_
        (try simp only [pu0, pu1, pu2, pu3, pu4])
        refine on1 11 fun K hK => ?_
        refine zgR (by rfl) ?_
        refine hK.out _ _ (fun _ => HS) ?_
        clear hK K
        (try simp only [pu0, pu1, pu2, pu3, pu4])
        refine tkn 12 ?_
        (try simp only [pu0, pu1, pu2, pu3, pu4])
        refine tk 13 ?_
        (try simp only [pu0, pu1, pu2, pu3, pu4])
        refine tk 14 ?_
        (try simp only [pu0, pu1, pu2, pu3, pu4])
        refine zar (by kernel_rfl) ?_ _
        clear HS
        have h := H.out
        rw [if_pos rfl] at h
        simp only [Option.some.injEq, Prod.mk.injEq] at h
        obtain ⟨rfl, rfl, rfl⟩ := h
        have hc60 : w6.cell? ⟨w.heap.size, 0, none⟩ = some (.int .i64 0) := zg B6.out 0
        have hf60 : w6.frozen? ⟨w.heap.size, 0, none⟩ = false := zq B6.out 0
        have hc61 : ∀ x, (w6.setCell ⟨w.heap.size, 0, none⟩ (.int .i64 x)).cell? ⟨w.heap.size, 1, none⟩ = some (.int .i64 0) := fun x => zg (zav B6.out 0 _) 1
        have hf61 : ∀ x, (w6.setCell ⟨w.heap.size, 0, none⟩ (.int .i64 x)).frozen? ⟨w.heap.size, 1, none⟩ = false := fun x => zq (zav B6.out 0 _) 1
        have hm1 : w6.cell? ⟨w4.heap.size, 1, none⟩ = some (.int .i64 m1) := zg B14.out 1
        go_wp2_with fail
        refine zdb B6.out (.int .i64 3) (.int .i64 m1) (.int .i64 0) _ (by rfl) (by rfl) ?_
        exact ⟨rfl, zh (zh HB.out (Nat.le_refl _)) (Nat.le_refl _)⟩
    ·have h := H.out
     rw [if_neg g5] at h
     simp only [Option.some.injEq, Prod.mk.injEq] at h
     obtain ⟨rfl, rfl, rfl⟩ := h
     have t2 : (ce != 0) = true := bne_iff_ne.mpr g5
     have hc60 : w3.cell? ⟨w.heap.size, 0, none⟩ = some (.int .i64 0) := zg B6.out 0
     have hf60 : w3.frozen? ⟨w.heap.size, 0, none⟩ = false := zq B6.out 0
     have hc61 : ∀ x, (w3.setCell ⟨w.heap.size, 0, none⟩ (.int .i64 x)).cell? ⟨w.heap.size, 1, none⟩ = some (.int .i64 0) := fun x => zg (zav B6.out 0 _) 1
     have hf61 : ∀ x, (w3.setCell ⟨w.heap.size, 0, none⟩ (.int .i64 x)).frozen? ⟨w.heap.size, 1, none⟩ = false := fun x => zq (zav B6.out 0 _) 1
     go_wp2_with fail
     refine zdb B6.out (.int .i64 0) (.int .i64 0) (.int .i64 ce) _ (by rfl) (by rfl) ?_
     exact ⟨rfl, zh (zh HB.out (Nat.le_refl _)) (Nat.le_refl _)⟩
   ·have h := H.out
    rw [if_neg g4] at h
    simp only [Option.some.injEq, Prod.mk.injEq] at h
    obtain ⟨rfl, rfl, rfl⟩ := h
    have t2 : (re != 0) = true := bne_iff_ne.mpr g4
    have hc60 : w2.cell? ⟨w.heap.size, 0, none⟩ = some (.int .i64 0) := zg B6.out 0
    have hf60 : w2.frozen? ⟨w.heap.size, 0, none⟩ = false := zq B6.out 0
    have hc61 : ∀ x, (w2.setCell ⟨w.heap.size, 0, none⟩ (.int .i64 x)).cell? ⟨w.heap.size, 1, none⟩ = some (.int .i64 0) := fun x => zg (zav B6.out 0 _) 1
    have hf61 : ∀ x, (w2.setCell ⟨w.heap.size, 0, none⟩ (.int .i64 x)).frozen? ⟨w.heap.size, 1, none⟩ = false := fun x => zq (zav B6.out 0 _) 1
    go_wp2_with fail
    refine zdb B6.out (.int .i64 0) (.int .i64 0) (.int .i64 re) _ (by rfl) (by rfl) ?_
    exact ⟨rfl, zh (zh HB.out (Nat.le_refl _)) (Nat.le_refl _)⟩
 ·have h := H.out
  rw [if_neg g0] at h
  simp only [Option.some.injEq, Prod.mk.injEq] at h
  obtain ⟨rfl, rfl, rfl⟩ := h
  have t2 : (e0 != 0) = true := bne_iff_ne.mpr g0
  have hc60 : w1.cell? ⟨w.heap.size, 0, none⟩ = some (.int .i64 0) := zg B6.out 0
  have hf60 : w1.frozen? ⟨w.heap.size, 0, none⟩ = false := zq B6.out 0
  have hc61 : ∀ x, (w1.setCell ⟨w.heap.size, 0, none⟩ (.int .i64 x)).cell? ⟨w.heap.size, 1, none⟩ = some (.int .i64 0) := fun x => zg (zav B6.out 0 _) 1
  have hf61 : ∀ x, (w1.setCell ⟨w.heap.size, 0, none⟩ (.int .i64 x)).frozen? ⟨w.heap.size, 1, none⟩ = false := fun x => zq (zav B6.out 0 _) 1
  go_wp2_with fail
  refine zdb B6.out (.int .i64 0) (.int .i64 0) (.int .i64 e0) _ (by rfl) (by rfl) ?_
  exact ⟨rfl, zh (zh HB.out (Nat.le_refl _)) (Nat.le_refl _)⟩
inductive zby : Nat → List ByteArray → List ByteArray → List S63 → Prop
 | nil (i : Nat) : zby i [] [] []
 | ins {i : Nat} {a b : List ByteArray} {ms : List S63} (y : ByteArray) : zby i a b ms → zby i a (y :: b) (⟨1, i, y⟩ :: ms)
 | del {i : Nat} {a b : List ByteArray} {ms : List S63} (x : ByteArray) : zby (i + 1) a b ms → zby i (x :: a) b (⟨3, i, ⟨#[]⟩⟩ :: ms)
 | set {i : Nat} {a b : List ByteArray} {ms : List S63} (x y : ByteArray) : zby (i + 1) a b ms → zby i (x :: a) (y :: b) (⟨2, i, y⟩ :: ms)
 | keep {i : Nat} {a b : List ByteArray} {ms : List S63} (x : ByteArray) : zby (i + 1) a b ms → zby i (x :: a) (x :: b) ms
theorem bytes_inj {x y : ByteArray} (h : x.toList = y.toList) : x = y := by
 obtain ⟨⟨l⟩⟩ := x
 obtain ⟨⟨m⟩⟩ := y
 rw [ByteArray.toList_eq, ByteArray.toList_eq] at h
 simp at h
 rw [h]
theorem zby.made {P : List ByteArray} {i : Nat} {a b : List ByteArray} {ms : List S63} (h : zby i a b ms) : P.drop i = a → i ≤ P.length → ∀ (acc : List ByteArray) (j : Nat), j ≤ i → (ms.foldl (zbt P) (acc, j)).1 ++ P.drop (ms.foldl (zbt P) (acc, j)).2 = acc ++ (P.take i).drop j ++ b := by
 induction h with
 | nil i =>
  intro hd hi acc j hj
  have hl : P.length ≤ i := by
   have := congrArg List.length hd
   simp at this; omega
  simp only [List.foldl_nil, List.append_nil]
  rw [List.take_of_length_le hl]
 | @ins i a b ms y h ih =>
  intro hd hi acc j hj
  rw [List.foldl_cons]
  have e : zbt P (acc, j) ⟨1, i, y⟩ = (acc ++ (P.take i).drop j ++ [y], i) := by
   simp only [zbt, Int.toNat_natCast, Nat.max_eq_right hj, if_true]
  rw [e, ih hd hi _ i (Nat.le_refl _)]
  simp [List.append_assoc, List.drop_eq_nil_of_le, List.length_take, Nat.min_le_left]
 | @del i a b ms x h ih =>
  intro hd hi acc j hj
  have hlt : i < P.length := by
   have := congrArg List.length hd
   simp at this; omega
  have hd' : P.drop (i + 1) = a := by
   have := congrArg List.tail hd
   simpa using this
  rw [List.foldl_cons]
  have e : zbt P (acc, j) ⟨3, i, ⟨#[]⟩⟩ = (acc ++ (P.take i).drop j, i + 1) := by
   simp [zbt, Nat.max_eq_right hj]
  rw [e, ih hd' hlt _ (i + 1) (Nat.le_refl _)]
  simp [List.append_assoc, List.drop_eq_nil_of_le, List.length_take, Nat.min_le_left]
 | @set i a b ms x y h ih =>
  intro hd hi acc j hj
  have hlt : i < P.length := by
   have := congrArg List.length hd
   simp at this; omega
  have hd' : P.drop (i + 1) = a := by
   have := congrArg List.tail hd
   simpa using this
  rw [List.foldl_cons]
  have e : zbt P (acc, j) ⟨2, i, y⟩ = (acc ++ (P.take i).drop j ++ [y], i + 1) := by
   simp [zbt, Nat.max_eq_right hj]
  rw [e, ih hd' hlt _ (i + 1) (Nat.le_refl _)]
  simp [List.append_assoc, List.drop_eq_nil_of_le, List.length_take, Nat.min_le_left]
 | @keep i a b ms x h ih =>
  intro hd hi acc j hj
  have hlt : i < P.length := by
   have := congrArg List.length hd
   simp at this; omega
  have hd' : P.drop (i + 1) = a := by
   have := congrArg List.tail hd
   simpa using this
  have hx : P[i] = x := by
   have := congrArg List.head? hd
   rw [List.drop_eq_getElem_cons hlt, List.head?_cons, List.head?_cons] at this
   exact Option.some.inj this
  rw [ih hd' hlt acc j (by omega), List.take_succ_eq_append_getElem hlt, List.drop_append_of_le_length (by simp; omega), hx]
  simp
theorem zby.fits {i : Nat} {a b : List ByteArray} {ms : List S63} (h : zby i a b ms) : ∀ n, i + a.length = n → ms.all (zbJ n) = true := by
 induction h with
 | nil i => intro n _; rfl
 | ins y h ih => intro n hn; rw [List.all_cons, ih n hn, Bool.and_true]; simp [zbJ]; omega
 | del x h ih => intro n hn; simp only [List.length_cons] at hn; rw [List.all_cons, ih n (by omega), Bool.and_true]; simp [zbJ]; omega
 | set x y h ih => intro n hn; simp only [List.length_cons] at hn; rw [List.all_cons, ih n (by omega), Bool.and_true]; simp [zbJ]; omega
 | keep x h ih => intro n hn; simp only [List.length_cons] at hn; exact ih n (by omega)
theorem Ev.ifp {α : Type} {c : Prop} [Decidable c] {A B : Nat → Option α} {r : α} (h : c) (k : Ev A r) : Ev (fun n => if c then A n else B n) r := by
 obtain ⟨K, k⟩ := k
 exact ⟨K, fun n hn => by dsimp only; rw [if_pos h]; exact k n hn⟩
theorem Ev.ifn {α : Type} {c : Prop} [Decidable c] {A B : Nat → Option α} {r : α} (h : ¬ c) (k : Ev B r) : Ev (fun n => if c then A n else B n) r := by
 obtain ⟨K, k⟩ := k
 exact ⟨K, fun n hn => by dsimp only; rw [if_neg h]; exact k n hn⟩
theorem Ev.bs {α β : Type} {o : Option α} {a : α} {f : Nat → α → Option β} {r : β} (h : o = some a) (k : Ev (fun n => f n a) r) : Ev (fun n => o.bind (f n)) r := by
 obtain ⟨K, k⟩ := k
 exact ⟨K, fun n hn => by dsimp only; rw [h]; exact k n hn⟩
theorem Ev.be {α β : Type} {g : Nat → Option α} {a : α} {f : Nat → α → Option β} {r : β} (h : Ev g a) (k : Ev (fun n => f n a) r) : Ev (fun n => (g n).bind (fun x => f n x)) r := Ev.bind h k
theorem Ev.ret {α : Type} {o : Option α} {r : α} (h : o = some r) : Ev (fun _ => o) r := ⟨0, fun _ _ => h⟩
theorem zde {x : Int} (h0 : -1000000000000000 ≤ x) (h1 : x ≤ 1000000000000000) : wrap64 x = x := by unfold wrap64; omega
theorem zbH (n : Nat) (h : n ≤ 1000000) : wrap64 ((n : Int) + 1) = ((n + 1 : Nat) : Int) := by unfold wrap64; omega
instance ziA (x : ByteArray) (p : List ByteArray) : Decidable (x ∈ p) := decidable_of_iff (p.any (fun y => y.toList == x.toList) = true) (by
 rw [List.any_eq_true]
 exact ⟨fun ⟨y, h, e⟩ => by rw [← bytes_inj (beq_iff_eq.1 e)]; exact h, fun h => ⟨x, h, beq_iff_eq.2 rfl⟩⟩)
def Good (n : Nat) (p : List ByteArray) : Prop := p.length ≤ n ∧ ∀ x ∈ p, x ∈ zck
theorem Good.check {p : List ByteArray} (h : Good 6 p) : zb2 p = 0 := checkS_ok_ p h.1 (fun x hx => words6_ok_ x (h.2 x hx))
where
 words6_ok_ : ∀ x ∈ zck, zba x = 0 := by
  intro x hx
  simp only [zck, List.mem_cons, List.not_mem_nil, or_false] at hx
  rcases hx with rfl | rfl | rfl | rfl | rfl | rfl <;> kernel_rfl
 firstErr_ok_ : ∀ p : List ByteArray, (∀ x ∈ p, zba x = 0) → zcG p = 0
  | [], _ => rfl
  | x :: p, h => by rw [zcG, if_pos (h x List.mem_cons_self)]; exact firstErr_ok_ p (fun y hy => h y (List.mem_cons_of_mem _ hy))
 checkS_ok_ (p : List ByteArray) (hl : p.length ≤ 6) (h : ∀ x ∈ p, zba x = 0) : zb2 p = 0 := by
  unfold zb2
  rw [if_neg (by omega), firstErr_ok_ p h]
def zgv (ys : List (List ByteArray)) (x : ByteArray) : Nat → Int
 | 0 => -1
 | n + 1 => if x ∈ ys.getD n [] then (n : Int) else zgv ys x n
def zgF (ys : List (List ByteArray)) (x : ByteArray) : Prop := 0 ≤ zgv ys x ys.length ∧ zgv ys x ys.length < (ys.length : Int) - 1
instance (ys : List (List ByteArray)) (x : ByteArray) : Decidable (zgF ys x) := by unfold zgF; infer_instance
theorem zf1 (l : List Int) (s1 s2 : Int) (h1 : 0 ≤ s1) (hl : l.length ≤ 17592186044416) (n : Int) (h0 : 1 ≤ n) (hn : n ≤ 1000) : ∃ (b : Bool) (t1 t2 : Int), zaV.f l s1 s2 n = some (b, t1, t2) ∧ 0 ≤ t1 := by
 obtain ⟨r, t1, t2, h, h2, h3, h4⟩ := zfh l s1 s2 h1 hl (n - 1) (by omega) (by omega)
 unfold zaV.f
 rw [zde (by omega) (by omega), h]
 exact ⟨r == 0, t1, t2, rfl, h4⟩
def YG (N : Nat) (g : Nat → Option (List (List ByteArray) × Int × Int)) : Prop := ∃ zs t1 t2, Ev g (zs, t1, t2) ∧ zs.length = N ∧ (∀ q ∈ zs, Good 6 q) ∧ 0 ≤ t1
theorem YG.to {N : Nat} {g f : Nat → Option (List (List ByteArray) × Int × Int)} (h : YG N g) (hg : ∀ r, Ev g r → Ev f r) : YG N f := by
 obtain ⟨zs, t1, t2, h1, h2⟩ := h
 exact ⟨zs, t1, t2, hg _ h1, h2⟩
def lastOf : Option S63 → List S63 → Option S63
 | p, [] => p
 | _, m :: ms => lastOf (some m) ms
theorem zcN (m : S63) : ∀ (ms : List S63) (p : Option S63), lastOf p (ms ++ [m]) = some m
 | [], _ => rfl
 | _ :: ms, _ => zcN m ms _
theorem zdV (n : Nat) (m : S63) : ∀ (ms : List S63) (p : Option S63), zbr n p ms = 0 → zbB n (lastOf p ms) m = 0 → zbr n p (ms ++ [m]) = 0
 | [], p, _, h => by
  simp only [lastOf] at h
  rw [List.nil_append, zbr, if_pos h, zbr]
 | a :: ms, p, h, h2 => by
  rw [zbr] at h
  rw [List.cons_append, zbr]
  by_cases hc : zbB n p a = 0
  ·rw [if_pos hc] at h ⊢
   exact zdV n m ms _ h h2
  ·rw [if_neg hc] at h; exact absurd h hc
def zb5 (n : Nat) (m : S63) : Prop := 0 ≤ m.f1 ∧ m.f1 ≤ (n : Int) ∧ ((m.f0 = 3 ∧ m.f2 = ⟨#[]⟩ ∧ m.f1 < (n : Int)) ∨ (m.f0 = 1 ∧ m.f2 ∈ zck) ∨ (m.f0 = 2 ∧ m.f2 ∈ zck ∧ m.f1 < (n : Int)))
def MOK (n : Nat) (ms : List S63) : Prop := zbr n none ms = 0 ∧ ∀ m ∈ ms, zb5 n m
theorem ze4 {x : ByteArray} (h : x ∈ zck) : zba x = 0 := Good.check.words6_ok_ x h
theorem zb5.text {n : Nat} {m : S63} (h : zb5 n m) : zbS m = 0 := by
 unfold zbS
 rcases h.2.2 with ⟨h1, h2, _⟩ | ⟨h1, h2⟩ | ⟨h1, h2, _⟩
 ·rw [if_pos h1, h2, if_pos (by rw [ByteArray.toList_eq])]
 ·rw [if_neg (by omega)]; exact ze4 h2
 ·rw [if_neg (by omega)]; exact ze4 h2
theorem zb5.err {n : Nat} {m : S63} (h : zb5 n m) {p : Option S63} (hp : ∀ q, p = some q → q.f1 < m.f1 ∨ (q.f1 = m.f1 ∧ q.f0 = 1)) : zbB n p m = 0 := by
 have h1 := h.1
 have h2 := h.2.1
 unfold zbB
 have hk : ¬ (m.f0 < 1 ∨ 3 < m.f0) := by rcases h.2.2 with ⟨h1, _⟩ | ⟨h1, _⟩ | ⟨h1, _⟩ <;> omega
 have ha : ¬ (m.f1 < 0 ∨ (if m.f0 = 1 then (n : Int) else (n : Int) - 1) < m.f1) := by
  rcases h.2.2 with ⟨h3, _, h4⟩ | ⟨h3, _⟩ | ⟨h3, _, h4⟩
  ·rw [if_neg (by omega)]; omega
  ·rw [if_pos h3]; omega
  ·rw [if_neg (by omega)]; omega
 rw [if_neg hk, if_neg ha, if_pos h.text]
 cases p with
 | none => rfl
 | some q =>
  rcases hp q rfl with h1 | ⟨h1, h2⟩
  ·simp only [zbC]; rw [if_neg (by omega), if_pos (Or.inl h1)]
  ·simp only [zbC]; rw [if_neg (by omega), if_pos (Or.inr h2)]
theorem MOK.snoc {n : Nat} {ms : List S63} {m : S63} (h : MOK n ms) (hm : zb5 n m) (hp : ∀ q, lastOf none ms = some q → q.f1 < m.f1 ∨ (q.f1 = m.f1 ∧ q.f0 = 1)) : MOK n (ms ++ [m]) :=
 ⟨zdV n m ms none h.1 (hm.err hp), fun x hx => by
  rcases List.mem_append.1 hx with h1 | h1
  ·exact h.2 x h1
  ·rw [List.mem_singleton.1 h1]; exact hm⟩
def MG (n most : Nat) (g : Nat → Option (List S63 × Int × Int)) : Prop := ∃ zs t1 t2, Ev g (zs, t1, t2) ∧ zs.length ≤ most ∧ MOK n zs ∧ 0 ≤ t1
theorem MG.to {n most : Nat} {g f : Nat → Option (List S63 × Int × Int)} (h : MG n most g) (hg : ∀ r, Ev g r → Ev f r) : MG n most f := by
 obtain ⟨zs, t1, t2, h1, h2⟩ := h
 exact ⟨zs, t1, t2, hg _ h1, h2⟩
theorem zdZ (l : List Int) (hl : l.length ≤ 17592186044416) (n most : Nat) (hn : n ≤ 1000) (hmo : most ≤ 1000) : ∀ (d at_ : Nat) (ms : List S63) (s1 s2 : Int), n + 1 - at_ = d → at_ ≤ n + 1 → 0 ≤ s1 → ms.length ≤ most → MOK n ms → (∀ q, lastOf none ms = some q → q.f1 < (at_ : Int)) →
  MG n most (fun k => zt.l0 k (n : Int) (most : Int) ms (at_ : Int) l s1 s2)
 | 0, at_, ms, s1, s2, hd, ha, h1, hms, hM, hlast => ⟨ms, s1, s2, Ev.step (fun k => by rw [zt.l0]) (Ev.ifn (by omega) (Ev.now _)), hms, hM, h1⟩
 | d + 1, at_, ms, s1, s2, hd, ha, h1, hms, hM, hlast => by
  have hle : at_ ≤ n := by omega
  have ih := fun (ms : List S63) (s1 s2 : Int) => zdZ l hl n most hn hmo d (at_ + 1) ms s1 s2 (by omega) (by omega)
  have hat6 : at_ ≤ 1000000 := by omega
  have J3 : ∀ (b : Bool) (ms : List S63) (s1 s2 : Int), 0 ≤ s1 → ms.length ≤ most → (b = false → at_ < n ∧ ms.length < most) → MOK n ms → (∀ q, lastOf none ms = some q → q.f1 < (at_ : Int) ∨ (q.f1 = (at_ : Int) ∧ q.f0 = 1)) →
    MG n most (fun k => zt.j3 k (n : Int) (most : Int) ms (at_ : Int) b l s1 s2) := by
   intro b ms s1 s2 h1 hms hb hM hlast
   have hskip : ∀ q, lastOf none ms = some q → q.f1 < ((at_ + 1 : Nat) : Int) := fun q hq => by rcases hlast q hq with h | h <;> omega
   cases b with
   | true =>
    refine (ih ms s1 s2 h1 hms hM hskip).to fun r hr => Ev.step (fun k => by rw [zt.j3]) (Ev.ifp rfl ?_)
    rw [zbH _ hat6]; exact hr
   | false =>
    obtain ⟨hb1, hb2⟩ := hb rfl
    obtain ⟨t, u1, u2, ht, ht0, ht1, hu⟩ := zfh l s1 s2 h1 hl 4 (by omega) (by omega)
    have hfew : ms.length < 4398046511104 := by omega
    by_cases c0 : t = 0
    ·obtain ⟨x, v1, v2, hx, hxw, hv⟩ := zeQ l u1 u2 hu hl
     have hg : zb5 n ⟨2, at_, x⟩ := ⟨by dsimp only; omega, by dsimp only; omega, .inr (.inr ⟨rfl, hxw, by dsimp only; omega⟩)⟩
     refine (ih (ms ++ [⟨2, at_, x⟩]) v1 v2 hv (by simp; omega) (hM.snoc hg hlast) (fun q hq => by
      rw [zcN] at hq; cases hq; dsimp only; omega)).to fun r hr => Ev.step (fun k => by rw [zt.j3]) (Ev.ifn Bool.false_ne_true (Ev.bs ht ?_))
     refine Ev.ifp c0 (Ev.bs hx (Ev.ifp hfew ?_))
     rw [zbH _ hat6]; exact hr
    ·by_cases c1 : t = 1
     ·have hg : zb5 n ⟨3, at_, ⟨#[]⟩⟩ := ⟨by dsimp only; omega, by dsimp only; omega, .inl ⟨rfl, rfl, by dsimp only; omega⟩⟩
      refine (ih (ms ++ [⟨3, at_, ⟨#[]⟩⟩]) u1 u2 hu (by simp; omega) (hM.snoc hg hlast) (fun q hq => by
       rw [zcN] at hq; cases hq; dsimp only; omega)).to fun r hr => Ev.step (fun k => by rw [zt.j3]) (Ev.ifn Bool.false_ne_true (Ev.bs ht ?_))
      refine Ev.ifn c0 (Ev.ifp c1 (Ev.ifp hfew ?_))
      rw [zbH _ hat6]; exact hr
     ·refine (ih ms u1 u2 hu hms hM hskip).to fun r hr => Ev.step (fun k => by rw [zt.j3]) (Ev.ifn Bool.false_ne_true (Ev.bs ht ?_))
      refine Ev.ifn c0 (Ev.ifn c1 ?_)
      rw [zbH _ hat6]; exact hr
  have J2 : ∀ (ms : List S63) (s1 s2 : Int), 0 ≤ s1 → ms.length ≤ most → MOK n ms → (∀ q, lastOf none ms = some q → q.f1 < (at_ : Int) ∨ (q.f1 = (at_ : Int) ∧ q.f0 = 1)) →
    MG n most (fun k => zt.j2 k (n : Int) (most : Int) ms (at_ : Int) l s1 s2) := by
   intro ms s1 s2 h1 hms hM hlast
   by_cases c : (at_ : Int) = (n : Int)
   ·exact (J3 true ms s1 s2 h1 hms (by simp) hM hlast).to fun r hr => Ev.step (fun k => by rw [zt.j2]) (Ev.ifp c hr)
   ·refine (J3 ((ms.length : Int) == (most : Int)) ms s1 s2 h1 hms ?_ hM hlast).to fun r hr => Ev.step (fun k => by rw [zt.j2]) (Ev.ifn c hr)
    intro hb
    have := beq_eq_false_iff_ne.1 hb
    omega
  have L1 : ∀ (m : Nat) (ms : List S63) (s1 s2 : Int), most - ms.length = m → 0 ≤ s1 → ms.length ≤ most → MOK n ms → (∀ q, lastOf none ms = some q → q.f1 < (at_ : Int) ∨ (q.f1 = (at_ : Int) ∧ q.f0 = 1)) →
    MG n most (fun k => zt.l1 k (n : Int) (most : Int) ms (at_ : Int) l s1 s2) := by
   intro m
   induction m with
   | zero =>
    intro ms s1 s2 hm h1 hms hM hlast
    obtain ⟨b, u1, u2, hb, hu⟩ := zf1 l s1 s2 h1 hl 4 (by omega) (by omega)
    refine (J2 ms u1 u2 hu hms hM hlast).to fun r hr => Ev.step (fun k => by rw [zt.l1]) (Ev.bs hb ?_)
    cases b with
    | true => refine Ev.ifp rfl ?_; exact Ev.ifn (by omega) hr
    | false => exact Ev.ifn Bool.false_ne_true hr
   | succ m ihm =>
    intro ms s1 s2 hm h1 hms hM hlast
    obtain ⟨b, u1, u2, hb, hu⟩ := zf1 l s1 s2 h1 hl 4 (by omega) (by omega)
    cases b with
    | true =>
     obtain ⟨x, v1, v2, hx, hxw, hv⟩ := zeQ l u1 u2 hu hl
     have hg : zb5 n ⟨1, at_, x⟩ := ⟨by dsimp only; omega, by dsimp only; omega, .inr (.inl ⟨rfl, hxw⟩)⟩
     have hlt : (ms.length : Int) < (most : Int) := by omega
     have hfew : ms.length < 4398046511104 := by omega
     exact (ihm (ms ++ [⟨1, at_, x⟩]) v1 v2 (by simp; omega) hv (by simp; omega) (hM.snoc hg hlast) (fun q hq => by
      rw [zcN] at hq; cases hq; exact .inr ⟨rfl, rfl⟩)).to fun r hr => Ev.step (fun k => by rw [zt.l1]) (Ev.bs hb (Ev.ifp rfl (Ev.ifp hlt (Ev.bs hx (Ev.ifp hfew hr)))))
    | false =>
     exact (J2 ms u1 u2 hu hms hM hlast).to fun r hr => Ev.step (fun k => by rw [zt.l1]) (Ev.bs hb (Ev.ifn Bool.false_ne_true hr))
  have hle' : (at_ : Int) ≤ (n : Int) := by omega
  exact (L1 _ ms s1 s2 rfl h1 hms hM (fun q hq => .inl (hlast q hq))).to fun r hr => Ev.step (fun k => by rw [zt.l0]) (Ev.ifp hle' hr)
theorem zhn (l : List Int) (hl : l.length ≤ 17592186044416) (s1 s2 : Int) (h1 : 0 ≤ s1) (n most : Nat) (hn : n ≤ 1000) (hmo : most ≤ 1000) : ∃ ms t1 t2, Ev (fun k => zt.f k l s1 s2 (n : Int) (most : Int)) (ms, t1, t2) ∧ ms.length ≤ most ∧ MOK n ms ∧ 0 ≤ t1 := by
 obtain ⟨zs, t1, t2, h, h2⟩ := zdZ l hl n most hn hmo (n + 1) 0 [] s1 s2 (by omega) (by omega) h1 (by simp) ⟨rfl, fun m hm => by cases hm⟩ (fun q hq => by cases hq)
 exact ⟨zs, t1, t2, h, h2⟩
theorem MOK.marks {n : Nat} {ms : List S63} (h : MOK n ms) (hl : ms.length ≤ 12) : zcu n ms = 0 := by
 unfold zcu; rw [if_neg (by omega)]; exact h.1
theorem MOK.fits {n : Nat} {ms : List S63} (h : MOK n ms) : ms.all (zbJ n) = true := by
 rw [List.all_eq_true]
 intro m hm
 obtain ⟨h1, h2, h3⟩ := h.2 m hm
 unfold zbJ
 rcases h3 with ⟨h3, _, h4⟩ | ⟨h3, _⟩ | ⟨h3, _, h4⟩ <;> simp [h3] <;> omega
theorem zeu (pg : List ByteArray) (ms : List S63) : Ev (fun k => zaz.f k pg ms) (zbM pg ms) := ⟨62, fun k hk => zgi pg ms k (by omega)⟩
theorem MOK.checked {pg : List ByteArray} {ms : List S63} (hg : Good 6 pg) (h : MOK pg.length ms) (hl : ms.length ≤ 12) : zbM pg ms = 0 := by
 unfold zbM; rw [if_pos hg.check]; exact h.marks hl
theorem toList_nil {x : ByteArray} (h : x.toList = []) : x = ⟨#[]⟩ := bytes_inj (h.trans (by rw [ByteArray.toList_eq]))
theorem zgd (a : List ByteArray) : ∀ i : Nat, zby i a a [] := by
 induction a with
 | nil => exact fun i => .nil i
 | cons x a ih => exact fun i => .keep x (ih (i + 1))
theorem zcn (n : Nat) : ∀ (s : Nat) (ms : List S63) (a : List ByteArray) (i : Nat) (prev : Option S63), ms.length + a.length ≤ s → i + a.length = n → zbr n prev ms = 0 → (∀ m, ms.head? = some m → (i : Int) ≤ m.f1) → ∃ b, zby i a b ms
 | s, [], a, i, prev, _, _, _, _ => ⟨a, zgd a i⟩
 | 0, m :: ms, a, i, prev, hs, _, _, _ => by simp at hs
 | s + 1, m :: ms, a, i, prev, hs, hn, hv, hh => by
  simp only [List.length_cons] at hs
  have hi := hh m rfl
  rw [zbr] at hv
  have hme : zbB n prev m = 0 := by
   by_cases hc : zbB n prev m = 0
   ·exact hc
   ·rw [if_neg hc] at hv; exact absurd hv hc
  rw [if_pos hme] at hv
  unfold zbB at hme
  have c1 : ¬ (m.f0 < 1 ∨ 3 < m.f0) := fun h => by rw [if_pos h] at hme; cases hme
  rw [if_neg c1] at hme
  have c2 : ¬ (m.f1 < 0 ∨ (if m.f0 = 1 then (n : Int) else (n : Int) - 1) < m.f1) := fun h => by rw [if_pos h] at hme; cases hme
  rw [if_neg c2] at hme
  have c3 : zbS m = 0 := by
   by_cases h : zbS m = 0
   ·exact h
   ·rw [if_neg h] at hme; exact absurd hme h
  have hle : m.f1 ≤ (n : Int) := by
   by_cases h : m.f0 = 1
   ·rw [if_pos h] at c2; omega
   ·rw [if_neg h] at c2; omega
  have hlt : m.f0 ≠ 1 → m.f1 < (n : Int) := fun h => by rw [if_neg h] at c2; omega
  by_cases hgt : (i : Int) < m.f1
  ·cases a with
   | nil => simp at hn; omega
   | cons x a =>
    simp only [List.length_cons] at hs hn
    have hv' : zbr n prev (m :: ms) = 0 := by
     rw [zbr]; unfold zbB; rw [if_neg c1, if_neg c2, if_pos c3]
     rw [if_pos c3] at hme; rw [if_pos hme]; exact hv
    obtain ⟨b, hb⟩ := zcn n s (m :: ms) a (i + 1) prev (by simp only [List.length_cons]; omega) (by omega) hv' (fun q hq => by cases hq; omega)
    exact ⟨x :: b, .keep x hb⟩
  ·have e1 : m.f1 = (i : Int) := by omega
   obtain ⟨f0, f1, f2⟩ := m
   dsimp only at e1 c1 hlt c3
   subst e1
   have hnext : ∀ q, ms.head? = some q → (i : Int) ≤ q.f1 ∧ (f0 ≠ 1 → (i : Int) < q.f1) := by
    intro q hq
    cases ms with
    | nil => cases hq
    | cons q' ms =>
     cases hq
     rw [zbr] at hv
     have hme2 : zbB n (some ⟨f0, i, f2⟩) q = 0 := by
      by_cases hc : zbB n (some ⟨f0, i, f2⟩) q = 0
      ·exact hc
      ·rw [if_neg hc] at hv; exact absurd hv hc
     unfold zbB at hme2
     have d1 : ¬ (q.f0 < 1 ∨ 3 < q.f0) := fun h => by rw [if_pos h] at hme2; cases hme2
     rw [if_neg d1] at hme2
     have d2 : ¬ (q.f1 < 0 ∨ (if q.f0 = 1 then (n : Int) else (n : Int) - 1) < q.f1) := fun h => by rw [if_pos h] at hme2; cases hme2
     rw [if_neg d2] at hme2
     have d3 : zbS q = 0 := by
      by_cases h : zbS q = 0
      ·exact h
      ·rw [if_neg h] at hme2; exact absurd hme2 h
     rw [if_pos d3] at hme2
     simp only [zbC] at hme2
     by_cases k1 : q.f1 < (i : Int)
     ·rw [if_pos k1] at hme2; cases hme2
     ·rw [if_neg k1] at hme2
      refine ⟨by omega, fun h1 => ?_⟩
      by_cases k2 : (i : Int) < q.f1
      ·exact k2
      ·rw [if_neg (fun h => h.elim k2 h1)] at hme2
       by_cases k3 : q.f0 = 1
       ·rw [if_pos k3] at hme2; cases hme2
       ·rw [if_neg k3] at hme2; cases hme2
   by_cases k1 : f0 = 1
   ·subst k1
    obtain ⟨b, hb⟩ := zcn n s ms a i _ (by omega) hn hv (fun q hq => (hnext q hq).1)
    exact ⟨f2 :: b, .ins f2 hb⟩
   ·have hin := hlt k1
    cases a with
    | nil => simp at hn; omega
    | cons x a =>
     simp only [List.length_cons] at hs hn
     obtain ⟨b, hb⟩ := zcn n s ms a (i + 1) _ (by omega) (by omega) hv (fun q hq => by have := (hnext q hq).2 k1; omega)
     by_cases k3 : f0 = 3
     ·subst k3
      have : f2 = ⟨#[]⟩ := by
       unfold zbS at c3
       rw [if_pos rfl] at c3
       by_cases h : f2.toList = []
       ·exact toList_nil h
       ·rw [if_neg h] at c3; cases c3
      subst this
      exact ⟨b, .del x hb⟩
     ·have : f0 = 2 := by omega
      subst this
      exact ⟨f2 :: b, .set x f2 hb⟩
theorem zeo {pg : List ByteArray} {ms : List S63} (h : zcu pg.length ms = 0) : zby 0 pg (zcf pg ms) ms := by
 unfold zcu at h
 by_cases h12 : 12 < ms.length
 ·rw [if_pos h12] at h; cases h
 ·rw [if_neg h12] at h
  have hge : ∀ m, ms.head? = some m → ((0 : Nat) : Int) ≤ m.f1 := by
   intro m hm
   cases ms with
   | nil => cases hm
   | cons q ms =>
    cases hm
    rw [zbr] at h
    unfold zbB at h
    by_cases c2 : m.f1 < 0 ∨ (if m.f0 = 1 then (pg.length : Int) else (pg.length : Int) - 1) < m.f1
    ·rw [if_pos c2] at h
     by_cases c1 : m.f0 < 1 ∨ 3 < m.f0
     ·rw [if_pos c1, if_neg (by decide)] at h; cases h
     ·rw [if_neg c1, if_neg (by decide)] at h; cases h
    ·omega
  obtain ⟨b, hb⟩ := zcn pg.length _ ms pg 0 none (Nat.le_refl _) (by omega) h hge
  have hm := hb.made (P := pg) rfl (Nat.zero_le _) [] 0 (Nat.le_refl _)
  have e : zcf pg ms = b := by simpa [zcf] using hm
  rw [e]; exact hb
theorem zeK {n : Nat} {ms : List S63} (h : zcu n ms = 0) : ms.length ≤ 12 := by
 unfold zcu at h
 by_cases h12 : 12 < ms.length
 ·rw [if_pos h12] at h; cases h
 ·omega
theorem zgu {p : List ByteArray} (h : zb2 p = 0) : p.length ≤ 6 := by
 unfold zb2 at h
 by_cases h6 : 6 < p.length
 ·rw [if_pos h6] at h; cases h
 ·omega
theorem zdt {p : List ByteArray} {ms : List S63} (h : zbM p ms = 0) : zb2 p = 0 ∧ zcu p.length ms = 0 := by
 unfold zbM at h
 by_cases hc : zb2 p = 0
 ·rw [if_pos hc] at h; exact ⟨hc, h⟩
 ·rw [if_neg hc] at h; exact absurd h hc
def zfR (p : List ByteArray) (ms : List S63) : List ByteArray × Int :=
 if zbM p ms = 0 then (if 6 < (zcf p ms).length then ([], 6) else (zcf p ms, 0)) else ([], zbM p ms)
theorem zg6 (p : List ByteArray) (ms : List S63) : Ev (fun k => zbu.f k p ms) (zfR p ms) := by
 unfold zbu.f zfR
 refine Ev.be (zeu p ms) ?_
 by_cases h : zbM p ms = 0
 ·simp only [if_pos h]
  obtain ⟨h1, h2⟩ := zdt h
  have l1 := zgu h1
  have l2 := zeK h2
  have hm : zbE.f p ms = some (zcf p ms) := by
   unfold zbE.f
   rw [if_pos ⟨by omega, by omega, (zeo h2).fits p.length (by omega)⟩]
  refine Ev.bs hm ?_
  by_cases h6 : 6 < (zcf p ms).length
  ·rw [if_pos h6]
   have h6' : ((zcf p ms).length : Int) > 6 := by omega
   exact Ev.ifp h6' (Ev.now _)
  ·rw [if_neg h6]
   have h6' : ¬ ((zcf p ms).length : Int) > 6 := by omega
   exact Ev.ifn h6' (Ev.now _)
 ·simp only [if_neg h]
  exact Ev.now _
def zct : List S63 → Int
 | [] => 0
 | m :: ms => (if m.f0 = 3 then 0 else 1) + zct ms
theorem zfw : ∀ ms : List S63, 0 ≤ zct ms ∧ zct ms ≤ ms.length
 | [] => by simp [zct]
 | m :: ms => by
  have := zfw ms
  simp only [zct, List.length_cons]; split <;> omega
theorem zh2 (p : List ByteArray) (ms : List S63) (h : zbM p ms = 0) : Ev (fun k => zaT.f k p ms) (zct ms, 0) := by
 have l2 := zeK (zdt h).2
 have go : ∀ (m i : Nat) (n : Int), ms.length - i = m → i ≤ ms.length → 0 ≤ n → n ≤ (i : Int) → Ev (fun k => zaT.l0 k n ms (ms.length : Int) (i : Int)) (n + zct (ms.drop i), 0) := by
  intro m
  induction m with
  | zero =>
   intro i n hm hi h0 h1
   rw [List.drop_eq_nil_of_le (by omega), zct, Int.add_zero]
   refine Ev.step (fun k => by rw [zaT.l0]) ?_
   exact Ev.ifn (by omega) (Ev.now _)
  | succ m ih =>
   intro i n hm hi h0 h1
   have hlt : i < ms.length := by omega
   have hlt' : (i : Int) < (ms.length : Int) := by omega
   have r1 : zk ms (i : Int) = ms[i] := by simp [zk, hlt]
   rw [List.drop_eq_getElem_cons hlt, zct]
   refine Ev.step (fun k => by rw [zaT.l0]) ?_
   refine Ev.ifp hlt' ?_
   refine Ev.ifp (by omega) ?_
   refine Ev.ifp hlt' ?_
   rw [r1, zbH _ (by omega)]
   by_cases hc : ms[i].f0 = 3
   ·rw [if_pos hc, Int.zero_add]
    exact Ev.ifp hc (ih (i + 1) n (by omega) (by omega) h0 (by omega))
   ·rw [if_neg hc]
    refine Ev.ifn hc ?_
    rw [zde (by omega) (by omega)]
    have := ih (i + 1) (n + 1) (by omega) (by omega) (by omega) (by omega)
    rw [Int.add_assoc] at this
    exact this
 unfold zaT.f
 refine Ev.be (zeu p ms) ?_
 rw [h]
 refine Ev.ifp rfl ?_
 have := go ms.length 0 0 (by omega) (by omega) (by omega) (by omega)
 rw [List.drop_zero, Int.zero_add] at this
 exact this
def zcs : List S63 → Int
 | [] => 0
 | m :: ms => (if m.f0 = 1 then 1 else if m.f0 = 3 then -1 else 0) + zcs ms
theorem zfK : ∀ ms : List S63, -(ms.length : Int) ≤ zcs ms ∧ zcs ms ≤ ms.length
 | [] => by simp [zcs]
 | m :: ms => by
  have := zfK ms
  simp only [zcs, List.length_cons]; split
  ·omega
  ·split <;> omega
theorem zby.ge {i : Nat} {a b : List ByteArray} {ms : List S63} (h : zby i a b ms) : ∀ m ∈ ms, (i : Int) ≤ m.f1 := by
 induction h with
 | nil i => intro m hm; cases hm
 | ins y h ih =>
  intro m hm
  rcases List.mem_cons.1 hm with rfl | hm
  ·exact Int.le_refl _
  ·exact ih m hm
 | del x h ih =>
  intro m hm
  rcases List.mem_cons.1 hm with rfl | hm
  ·exact Int.le_refl _
  ·have := ih m hm; omega
 | set x y h ih =>
  intro m hm
  rcases List.mem_cons.1 hm with rfl | hm
  ·exact Int.le_refl _
  ·have := ih m hm; omega
 | keep x h ih =>
  intro m hm
  have := ih m hm; omega
theorem zby.grow {i : Nat} {a b : List ByteArray} {ms : List S63} (h : zby i a b ms) : (b.length : Int) = a.length + zcs ms := by
 induction h with
 | nil i => rfl
 | ins y h ih => simp only [zcs, List.length_cons, if_true]; omega
 | del x h ih => simp [zcs]; omega
 | set x y h ih => simp [zcs]; omega
 | keep x h ih => simp only [List.length_cons]; omega
def zce : List ByteArray → List ByteArray → Nat
 | [], _ => 0
 | _ :: _, [] => 0
 | x :: a, y :: b => if x.toList = y.toList then zce a b + 1 else max (zce a (y :: b)) (zce (x :: a) b)
termination_by a b => a.length + b.length
theorem zhi (a : List ByteArray) : zce a [] = 0 := by cases a <;> simp [zce]
theorem zd6 : ∀ (n : Nat) (a b x : List ByteArray), a.length + b.length ≤ n → x.Sublist a → x.Sublist b → x.length ≤ zce a b
 | n, [], b, x, _, h, _ => by rw [List.sublist_nil.1 h]; simp
 | n, _ :: _, [], x, _, _, h => by rw [List.sublist_nil.1 h]; simp
 | 0, c :: a, d :: b, x, hn, _, _ => by simp at hn
 | n + 1, c :: a, d :: b, x, hn, h1, h2 => by
  simp only [List.length_cons] at hn
  rw [zce]
  by_cases hc : c.toList = d.toList
  ·rw [if_pos hc]
   cases x with
   | nil => simp
   | cons z x =>
    have t1 : x.Sublist a := by
     cases h1 with
     | cons _ h => exact (List.sublist_cons_self z x).trans h
     | cons_cons _ h => exact h
    have t2 : x.Sublist b := by
     cases h2 with
     | cons _ h => exact (List.sublist_cons_self z x).trans h
     | cons_cons _ h => exact h
    have := zd6 n a b x (by omega) t1 t2
    simp only [List.length_cons]; omega
  ·rw [if_neg hc]
   cases h1 with
   | cons _ h =>
    have := zd6 n a (d :: b) x (by simp only [List.length_cons]; omega) h h2
    omega
   | cons_cons _ h =>
    cases h2 with
    | cons _ h' =>
     have := zd6 n (c :: a) b _ (by simp only [List.length_cons]; omega) (h.cons_cons c) h'
     omega
    | cons_cons _ h' => exact absurd rfl hc
theorem zd7 : ∀ (n : Nat) (a b : List ByteArray), a.length + b.length ≤ n → ∃ x : List ByteArray, x.Sublist a ∧ x.Sublist b ∧ x.length = zce a b
 | n, [], b, _ => ⟨[], List.nil_sublist _, List.nil_sublist _, by simp [zce]⟩
 | n, c :: a, [], _ => ⟨[], List.nil_sublist _, List.nil_sublist _, by simp [zce]⟩
 | 0, c :: a, d :: b, hn => by simp at hn
 | n + 1, c :: a, d :: b, hn => by
  simp only [List.length_cons] at hn
  by_cases hc : c.toList = d.toList
  ·obtain ⟨x, h1, h2, h3⟩ := zd7 n a b (by omega)
   refine ⟨c :: x, h1.cons_cons c, ?_, ?_⟩
   ·rw [bytes_inj hc]; exact h2.cons_cons d
   ·rw [zce, if_pos hc]; simp [h3]
  ·obtain ⟨x, h1, h2, h3⟩ := zd7 n a (d :: b) (by simp only [List.length_cons]; omega)
   obtain ⟨y, k1, k2, k3⟩ := zd7 n (c :: a) b (by simp only [List.length_cons]; omega)
   rw [zce, if_neg hc]
   by_cases hm : zce a (d :: b) ≤ zce (c :: a) b
   ·exact ⟨y, k1, k2.cons d, by omega⟩
   ·exact ⟨x, h1.cons c, h2, by omega⟩
def zcX (a b : List ByteArray) : Nat := zce a.reverse b.reverse
theorem zhH {a b x : List ByteArray} (h1 : x.Sublist a) (h2 : x.Sublist b) : x.length ≤ zcX a b := by
 have := zd6 _ a.reverse b.reverse x.reverse (Nat.le_refl _) (List.reverse_sublist.2 h1) (List.reverse_sublist.2 h2)
 rwa [List.length_reverse] at this
theorem zfZ (a b : List ByteArray) : ∃ x : List ByteArray, x.Sublist a ∧ x.Sublist b ∧ x.length = zcX a b := by
 obtain ⟨x, h1, h2, h3⟩ := zd7 _ a.reverse b.reverse (Nat.le_refl _)
 refine ⟨x.reverse, ?_, ?_, by rw [List.length_reverse]; exact h3⟩
 ·have := List.reverse_sublist.2 h1; rwa [List.reverse_reverse] at this
 ·have := List.reverse_sublist.2 h2; rwa [List.reverse_reverse] at this
theorem zf5 (a b : List ByteArray) : zcX a b ≤ a.length ∧ zcX a b ≤ b.length := by
 obtain ⟨x, h1, h2, h3⟩ := zfZ a b
 rw [← h3]; exact ⟨h1.length_le, h2.length_le⟩
theorem zfW (a b : List ByteArray) : zcX a b = a.length ↔ a.Sublist b := by
 constructor
 ·intro h
  obtain ⟨x, h1, h2, h3⟩ := zfZ a b
  have := h1.eq_of_length (by omega)
  rw [← this]; exact h2
 ·intro h
  have := zhH (List.Sublist.refl a) h
  have := (zf5 a b).1
  omega
def zbQ (a b : List ByteArray) (i j : Nat) : Nat := zce (a.take i).reverse (b.take j).reverse
theorem zgH (a b : List ByteArray) (j : Nat) : zbQ a b 0 j = 0 := by simp [zbQ, zce]
theorem zdP (a b : List ByteArray) (i : Nat) : zbQ a b i 0 = 0 := by simp [zbQ, zhi]
theorem zgE (a b : List ByteArray) (i j : Nat) (hi : i < a.length) (hj : j < b.length) : zbQ a b (i + 1) (j + 1) = if a[i].toList = b[j].toList then zbQ a b i j + 1 else max (zbQ a b i (j + 1)) (zbQ a b (i + 1) j) := by
 unfold zbQ
 rw [List.take_succ_eq_append_getElem hi, List.take_succ_eq_append_getElem hj, List.reverse_append, List.reverse_append]
 simp only [List.reverse_cons, List.reverse_nil, List.nil_append, List.singleton_append]
 rw [zce]
theorem zhI (a b : List ByteArray) (i j : Nat) : zbQ a b i j ≤ a.length := by
 have h := (zf5 (a.take i) (b.take j)).1
 have e : zcX (a.take i) (b.take j) = zbQ a b i j := rfl
 rw [e, List.length_take] at h
 omega
theorem zgC (a b : List ByteArray) (ha : a.length ≤ 1000) (hb : b.length ≤ 1000) : Ev (fun k => zN.f k a b) (zcX a b : Int) := by
 have rdset : ∀ (r : List Int) (j : Nat) (v : Int) (q : Nat), j < r.length → rd (r.set j v) (q : Int) = if q = j then v else rd r (q : Int) := by
  intro r j v q hj
  simp only [rd, Int.toNat_natCast, List.getD_eq_getElem?_getD, List.getElem?_set]
  by_cases h : q = j
  ·subst h; simp [hj]
  ·rw [if_neg (fun h' => h h'.symm), if_neg h]
 have L0 : ∀ (m i : Nat) (row : List Int), a.length - i = m → i ≤ a.length → row.length = b.length + 1 → (∀ j : Nat, j ≤ b.length → rd row (j : Int) = (zbQ a b i j : Int)) → Ev (fun k => zN.l0 k a b row (i : Int)) (zcX a b : Int) := by
  intro m
  induction m with
  | zero =>
   intro i row hm hi hl hr
   have hl' : (b.length : Int) < (row.length : Int) := by omega
   refine Ev.step (fun k => by rw [zN.l0]) ?_
   refine Ev.ifn (by omega) ?_
   refine Ev.ifp (by omega) ?_
   refine Ev.ifp hl' ?_
   rw [hr b.length (Nat.le_refl _)]
   have e : zbQ a b i b.length = zcX a b := by unfold zbQ zcX; rw [List.take_of_length_le (by omega), List.take_of_length_le (Nat.le_refl _)]
   rw [e]
   exact Ev.now _
  | succ m ihm =>
   intro i row hm hi hl hr
   have hlt : i < a.length := by omega
   have L1 : ∀ (d j : Nat) (row : List Int) (corner : Int), b.length - j = d → j ≤ b.length → row.length = b.length + 1 → corner = (zbQ a b i j : Int) → (∀ q : Nat, q ≤ b.length → rd row (q : Int) = if q ≤ j then (zbQ a b (i + 1) q : Int) else (zbQ a b i q : Int)) →
     Ev (fun k => zN.l1 k a b row (i : Int) corner (j : Int)) (zcX a b : Int) := by
    intro d
    induction d with
    | zero =>
     intro j row corner hd hj hl hc hr
     refine Ev.step (fun k => by rw [zN.l1]) ?_
     refine Ev.ifn (by omega) ?_
     rw [zbH _ (by omega)]
     exact ihm (i + 1) row (by omega) hlt hl (fun q hq => by rw [hr q hq, if_pos (by omega)])
    | succ d ihd =>
     intro j row corner hd hj hl hc hr
     have hjlt : j < b.length := by omega
     have hj6 : j ≤ 1000000 := by omega
     have c1 : ((j + 1 : Nat) : Int) < (row.length : Int) := by omega
     have c2 : (j : Int) < (row.length : Int) := by omega
     have c3 : (j : Int) < (b.length : Int) := by omega
     have c4 : (0 : Int) ≤ ((j + 1 : Nat) : Int) := by omega
     have c5 : (i : Int) < (a.length : Int) := by omega
     have r1 : zaJ ByteArray.empty a (i : Int) = a[i] := by simp [zaJ, hlt]
     have r2 : zaJ ByteArray.empty b (j : Int) = b[j] := by simp [zaJ, hjlt]
     have r3 : rd row ((j + 1 : Nat) : Int) = (zbQ a b i (j + 1) : Int) := by rw [hr (j + 1) (by omega), if_neg (by omega)]
     have r4 : rd row (j : Int) = (zbQ a b (i + 1) j : Int) := by rw [hr j (by omega), if_pos (by omega)]
     have hle := zhI a b i j
     have hstep := zgE a b i j hlt hjlt
     have hnew : ∀ v : Int, v = (zbQ a b (i + 1) (j + 1) : Int) → ∀ q : Nat, q ≤ b.length → rd (row.set (j + 1) v) (q : Int) = if q ≤ j + 1 then (zbQ a b (i + 1) q : Int) else (zbQ a b i q : Int) := by
      intro v hv q hq
      rw [rdset row (j + 1) v q (by omega)]
      by_cases e : q = j + 1
      ·subst e; rw [if_pos rfl, if_pos (Nat.le_refl _), hv]
      ·rw [if_neg e, hr q hq]
       by_cases e2 : q ≤ j
       ·rw [if_pos e2, if_pos (by omega)]
       ·rw [if_neg e2, if_neg (by omega)]
     refine Ev.step (fun k => by rw [zN.l1]) ?_
     refine Ev.ifp c3 ?_
     rw [zbH _ hj6]
     refine Ev.ifp c4 ?_
     refine Ev.ifp c1 ?_
     refine Ev.ifp (by omega) ?_
     refine Ev.ifp c5 ?_
     refine Ev.ifp (by omega) ?_
     rw [r1, r2, r3, r4]
     by_cases he : a[i].toList = b[j].toList
     ·rw [if_pos he] at hstep
      refine Ev.ifp he ?_
      refine ihd (j + 1) _ _ (by omega) hjlt (by simpa using hl) rfl (hnew _ ?_)
      rw [hc, hstep, zde (by omega) (by omega)]; omega
     ·rw [if_neg he] at hstep
      refine Ev.ifn he ?_
      refine Ev.ifp c2 ?_
      refine ihd (j + 1) _ _ (by omega) hjlt (by simpa using hl) rfl (hnew _ ?_)
      rw [hstep]; unfold mx; split <;> omega
   have hlti : (i : Int) < (a.length : Int) := by omega
   refine Ev.step (fun k => by rw [zN.l0]) ?_
   refine Ev.ifp hlti ?_
   refine L1 b.length 0 row 0 rfl (Nat.zero_le _) hl (by rw [zdP]; rfl) ?_
   intro q hq
   rw [hr q hq]
   by_cases e : q ≤ 0
   ·rw [if_pos e, show q = 0 by omega, zdP, zdP]
   ·rw [if_neg e]
 have hb6 : b.length ≤ 1000000 := by omega
 have hbn : ((b.length + 1 : Nat) : Int).toNat = b.length + 1 := Int.toNat_natCast _
 unfold zN.f
 rw [zbH _ hb6, hbn]
 refine Ev.ifp (by omega) ?_
 refine Ev.ifp (by omega) ?_
 refine L0 _ 0 _ rfl (Nat.zero_le _) (by simp) ?_
 intro j hj
 rw [zgH]
 simp only [rd, Int.toNat_natCast, List.getD_eq_getElem?_getD]
 rw [List.getElem?_replicate, if_pos (by omega)]; rfl
end Go.Proofs.Ytgmbbfmbimofoaa.P
