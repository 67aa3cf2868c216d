-- MERGED BY A PROGRAM out of texts of this claim: hand work, and what a (turned) print of the kit has written for it
import Derived.IntWalk
import Derived.Outline
import Derived.Deep.DeepCutAuto
import Derived.Deep.CutBlock
import Derived.Test.YtgmbbfmbimofoaaMh24
import Derived.Test.YtgmbbfmbimofoaaMh23
import Derived.Test.YtgmbbfmbimofoaaMh27
import Derived.Test.YtgmbbfmbimofoaaMh14
import Derived.Test.YtgmbbfmbimofoaaMh5
import Derived.Test.YtgmbbfmbimofoaaMh7
import Derived.Test.YtgmbbfmbimofoaaMh22
import Derived.Test.YtgmbbfmbimofoaaMh6
import Derived.Test.YtgmbbfmbimofoaaMh25
import Derived.Test.YtgmbbfmbimofoaaMh13
import Derived.Test.YtgmbbfmbimofoaaMh9
namespace Go.Proofs.Ytgmbbfmbimofoaa.P
open Go.RowKit Go.Proofs.YtgmbbfmbimofoaaW.PrintWords Go.Proofs.YtgmbbfmbimofoaaW.PrintLast Go.Proofs.YtgmbbfmbimofoaaW.PrintMore
attribute [local go_sem] zI zM zO zP zC zD zK zJ
set_option linter.unusedVariables false
set_option linter.unusedSimpArgs false
theorem zcu {w w' : World} (h : zq w w') : Below w.heap.size w w' := by
 obtain ⟨n, rfl⟩ := h
 exact zb (Below.refl _ _) n
theorem za4 {α : Type} {d : Kd α} {w w' : World} {A : Option Addr} {n c : Nat} {xs : List α} (h : d.C w A n xs ∧ n ≤ c) (hb : Below w.heap.size w w') : d.C w' A n xs ∧ n ≤ c := ⟨Kd.zW h.1 hb, h.2⟩
structure zhu (W : World) (b9 b10 : Nat) (i : Nat) (p : List ByteArray) (A : Option Addr) (c : Nat) (m : List S63) (B : Option Addr) (d : Nat) : Prop where
 c9 : W.cell? ⟨b9, i, none⟩ = some (.slice A p.length c)
 c10 : W.cell? ⟨b10, i, none⟩ = some (.slice B m.length d)
 rp : Kd.string.C W A p.length p
 hp : p.length ≤ c
 rm : k63.C W B m.length m
 hm : m.length ≤ d
 sp : p.length ≤ 20
 sm : m.length ≤ 20
theorem zhu.below {W W' : World} {b9 b10 i : Nat} {p : List ByteArray} {A : Option Addr} {c : Nat} {m : List S63} {B : Option Addr} {d : Nat} (h : zhu W b9 b10 i p A c m B d) (hb : Below W.heap.size W W') : zhu W' b9 b10 i p A c m B d :=
 ⟨(hb.cell (World.block_lt_of_cell? W _ h.c9)).trans h.c9, (hb.cell (World.block_lt_of_cell? W _ h.c10)).trans h.c10, Kd.zW h.rp hb, h.hp, Kd.zW h.rm hb, h.hm, h.sp, h.sm⟩
def zeY (p m : List ByteArray) : List S63 × Int := if zaS p = 0 then (if zaS m = 0 then ((dsp 0 p m).2, 0) else ([], zaS m)) else ([], zaS p)
theorem zgR (p m : List ByteArray) (hp : p.length ≤ 20) (hm : m.length ≤ 20) : (zeY p m).1.length ≤ 40 := by
 unfold zeY
 have := zgp p m 0
 split
 ·split
  ·dsimp only; omega
  ·simp
 ·simp
structure zfx (W : World) (b9 b10 : Nat) (i : Nat) (p : List ByteArray) (A : Option Addr) (c : Nat) (m : List ByteArray) (B : Option Addr) (d : Nat) : Prop where
 c9 : W.cell? ⟨b9, i, none⟩ = some (.slice A p.length c)
 c10 : W.cell? ⟨b10, i, none⟩ = some (.slice B m.length d)
 rp : Kd.string.C W A p.length p
 hp : p.length ≤ c
 rm : Kd.string.C W B m.length m
 hm : m.length ≤ d
 sp : p.length ≤ 20
 sm : m.length ≤ 20
theorem zfx.below {W W' : World} {b9 b10 i : Nat} {p : List ByteArray} {A : Option Addr} {c : Nat} {m : List ByteArray} {B : Option Addr} {d : Nat} (h : zfx W b9 b10 i p A c m B d) (hb : Below W.heap.size W W') : zfx W' b9 b10 i p A c m B d :=
 ⟨(hb.cell (World.block_lt_of_cell? W _ h.c9)).trans h.c9, (hb.cell (World.block_lt_of_cell? W _ h.c10)).trans h.c10, Kd.zW h.rp hb, h.hp, Kd.zW h.rm hb, h.hm, h.sp, h.sm⟩
set_option maxHeartbeats 16000000 in
set_option maxRecDepth 100000 in
theorem zf9 (A0 : Option Addr) (c0 : Nat) (pg : List ByteArray) (A1 : Option Addr) (c1 : Nat) (pb : List ByteArray) (A2 : Option Addr) (c2 : Nat) (l0 : List Int) (w : World) (hr0 : Kd.C Kd.string w A0 pg.length pg) (hc0 : pg.length ≤ c0) (hr1 : Kd.C Kd.string w A1 pb.length pb) (hc1 : pb.length ≤ c1)
  (hr2 : Kd.C (Kd.int .i64) w A2 l0.length l0) (hc2 : l0.length ≤ c2) (hl8 : l0.length * 8 ≤ 140737488351232) :
  Calls Try.prog 3 #[.slice A0 pg.length c0, .slice A1 pb.length c1, .slice A2 l0.length c2] w fun e w' => e = .returned (.bool true) ∧ Below w.heap.size w w' := by
 have hl : l0.length ≤ 17592186044416 := by omega
 obtain ⟨bl, ⟨KL, hKL⟩, hbl⟩ := zgi pg (zgF hr0)
 obtain ⟨bm, ⟨KM, hKM⟩, hbm⟩ := zgi pb (zgF hr1)
 obtain ⟨pm, t1, t2, p1, p2, p3, p4⟩ := zgk l0 0 11400714819323198485 (Int.le_refl _) hl 4 (by decide) 200 (by decide)
 obtain ⟨pn, u1, u2, q1, q2, q3, q4⟩ := zgk l0 t1 t2 p4 hl 4 (by decide) 200 (by decide)
 have K := za.mk (And.intro (hKL KL (Nat.le_refl _)) (And.intro (hKM KM (Nat.le_refl _)) (And.intro p1 q1)))
 have HR := za.mk (And.intro hr0 (And.intro hc0 (And.intro hr1 (And.intro hc1 (And.intro hr2 hc2)))))
 have S := za.mk (And.intro hbl (And.intro hbm (And.intro p2 q2)))
 clear hKL hKM p1 p2 p3 p4 q1 q2 q3 q4 hr0 hc0 hr1 hc1 hr2 hc2 hl hl8 hbl hbm
 have HB := za.mk (Below.refl w.heap.size w)
 go_enter Try.func3, Try.ntmps3
 go_wp2_with fail
 refine (zaq.calls KL A0 c0 pg bl w HR.out.1 HR.out.2.1 K.out.1).mono ?_
 rintro e w1 ⟨rfl, hd⟩
 replace HB := za.mk (zo HB.out (zcu hd))
 clear hd
 cases bl with
 | true =>
  go_wp2_with fail
  refine (zci w1).mono ?_
  rintro e wq ⟨rfl, hb⟩
  replace HB := za.mk (zo HB.out hb)
  clear hb
  go_wp2_with fail
  go_ret
  exact ⟨rfl, HB.out⟩
 | false =>
 have S1 := za.mk (S.out.1 rfl)
 have S2 := za.mk S.out.2
 clear S
 go_wp2_with fail
 refine (zaq.calls KM A1 c1 pb bm w1 (Kd.zW HR.out.2.2.1 HB.out) HR.out.2.2.2.1 K.out.2.1).mono ?_
 rintro e w2 ⟨rfl, hd⟩
 replace HB := za.mk (zo HB.out (zcu hd))
 clear hd
 cases bm with
 | true =>
  go_wp2_with fail
  refine (zci w2).mono ?_
  rintro e wq ⟨rfl, hb⟩
  replace HB := za.mk (zo HB.out hb)
  clear hb
  go_wp2_with fail
  go_ret
  exact ⟨rfl, HB.out⟩
 | false =>
 have S := za.mk (And.intro S1.out (And.intro (S2.out.1 rfl) S2.out.2))
 clear S1 S2
 have la : pg.length ≤ 20 := S.out.1
 have lb : pb.length ≤ 20 := S.out.2.1
 have hw : IntKind.i64.wrap ((pg.length : Int) + (pb.length : Int)) = (pg.length : Int) + (pb.length : Int) := IntWalk.i64_in _ (by omega)
 have hcase : (pg.length ≤ 6 ∧ pb.length ≤ 6 ∧ 9 < pg.length + pb.length) ∨ (¬ pg.length ≤ 6 ∨ (pg.length ≤ 6 ∧ ¬ pb.length ≤ 6) ∨ (pg.length ≤ 6 ∧ pb.length ≤ 6 ∧ ¬ 9 < pg.length + pb.length)) := by omega
 rcases hcase with ⟨n1, n2, n3⟩ | hcase
 ·have d1 : decide ((pg.length : Int) ≤ 6) = true := decide_eq_true (by omega)
  have d2 : decide ((pb.length : Int) ≤ 6) = true := decide_eq_true (by omega)
  have d3 : decide (9 < (pg.length : Int) + (pb.length : Int)) = true := decide_eq_true (by omega)
  have d4 : decide ((pg.length : Int) + (pb.length : Int) > 9) = true := decide_eq_true (by omega)
  have d5 : decide (pg.length ≤ 6) = true := decide_eq_true (by omega)
  have d6 : decide (pb.length ≤ 6) = true := decide_eq_true (by omega)
  have d7 : decide (9 < pg.length + pb.length) = true := decide_eq_true (by omega)
  go_wp2_with fail
  refine (zci w2).mono ?_
  rintro e wq ⟨rfl, hb⟩
  replace HB := za.mk (zo HB.out hb)
  clear hb
  go_wp2_with fail
  go_ret
  exact ⟨rfl, HB.out⟩
 clear la lb
 rcases hcase with n1 | ⟨n1, n2⟩ | ⟨n1, n2, n3⟩
 case' inr.inl =>
  have d1 : decide ((pg.length : Int) ≤ 6) = false := decide_eq_false (by omega)
  have d5 : decide (pg.length ≤ 6) = false := decide_eq_false (by omega)
  clear n1 hw
  go_wp2_with fail
 case' inr.inr.inl =>
  have d1 : decide ((pg.length : Int) ≤ 6) = true := decide_eq_true (by omega)
  have d2 : decide ((pb.length : Int) ≤ 6) = false := decide_eq_false (by omega)
  have d5 : decide (pg.length ≤ 6) = true := decide_eq_true (by omega)
  have d6 : decide (pb.length ≤ 6) = false := decide_eq_false (by omega)
  clear n1 n2 hw
  go_wp2_with fail
 case' inr.inr.inr =>
  have d1 : decide ((pg.length : Int) ≤ 6) = true := decide_eq_true (by omega)
  have d2 : decide ((pb.length : Int) ≤ 6) = true := decide_eq_true (by omega)
  have d3 : decide (9 < (pg.length : Int) + (pb.length : Int)) = false := decide_eq_false (by omega)
  have d4 : decide ((pg.length : Int) + (pb.length : Int) > 9) = false := decide_eq_false (by omega)
  have d5 : decide (pg.length ≤ 6) = true := decide_eq_true (by omega)
  have d6 : decide (pb.length ≤ 6) = true := decide_eq_true (by omega)
  have d7 : decide (9 < pg.length + pb.length) = false := decide_eq_false (by omega)
  clear n1 n2 n3
  go_wp2_with fail
 all_goals
  refine (zcb.calls _ _ l0 l0 0 11400714819323198485 w _ HB.out HR.out.2.2.2.2.1 HR.out.2.2.2.2.2 rfl).mono ?_
  rintro e w3 ⟨g, rfl, hI, hB, _⟩
  have HI := za.mk hI
  replace HB := za.mk hB
  clear hI hB
  go_wp2_with fail
  refine (zaf.calls 200 g l0 0 11400714819323198485 4 pm t1 t2 w w3 HI.out HB.out K.out.2.2.1).mono ?_
  rintro e w4 ⟨v, rfl, hR, hI, hB, hk⟩
  obtain ⟨Am, cm, rfl, hc, hF⟩ := zg6 hR HI.out.lt
  have Fm := za.mk hF
  have Cm := za.mk hc
  replace HI := za.mk hI
  replace HB := za.mk hB
  clear hF hc hI hB hk hR
  go_wp2_with fail
  have hbx := ze (Below.refl w4.heap.size w4) (.cells #[.slice A0 pg.length c0, .slice Am pm.length cm, .slice Am pm.length cm] 22)
  have X9 := za.mk (heap_alloc_new w4 (.cells #[.slice A0 pg.length c0, .slice Am pm.length cm, .slice Am pm.length cm] 22))
  have G9 := za.mk HI.out.lt
  replace HI := za.mk (HI.out.below hbx)
  replace HB := za.mk (zo HB.out hbx)
  replace Fm := za.mk (zdC Fm.out (zc7 hbx g))
  obtain ⟨b9, hb9⟩ : ∃ b, w4.heap.size = b := ⟨_, rfl⟩
  obtain ⟨w5, hw5⟩ : ∃ u_, w4.alloc (.cells #[.slice A0 pg.length c0, .slice Am pm.length cm, .slice Am pm.length cm] 22) = u_ := ⟨_, rfl⟩
  rw [hw5] at X9 HI HB Fm ⊢
  rw [hb9] at X9 G9 ⊢
  clear hw5 hb9 hbx
  refine (zaf.calls 200 g l0 t1 t2 4 pn u1 u2 w w5 HI.out HB.out K.out.2.2.2).mono ?_
  rintro e w6 ⟨v, rfl, hR, hI, hB, hk⟩
  obtain ⟨Aq, cq, rfl, hc, hF⟩ := zg6 hR HI.out.lt
  replace Fm := za.mk (zdC Fm.out hk)
  have Fq := za.mk hF
  have Cq := za.mk hc
  have X9' := za.mk ((hk.2 b9 (zQ X9.out) (by have := G9.out; omega) (by simp)).trans X9.out)
  clear X9
  have X9 := X9'
  clear X9'
  replace HI := za.mk hI
  replace HB := za.mk hB
  clear hF hc hI hB hk hR
  go_wp2_with fail
  have hbx := ze (Below.refl w6.heap.size w6) (.cells #[.slice A1 pb.length c1, .slice Aq pn.length cq, .slice A1 pb.length c1] 22)
  have X10 := za.mk (heap_alloc_new w6 (.cells #[.slice A1 pb.length c1, .slice Aq pn.length cq, .slice A1 pb.length c1] 22))
  replace X9 := za.mk (zA X9.out hbx)
  replace HB := za.mk (zo HB.out hbx)
  replace Fm := za.mk (zdC Fm.out (zc7 hbx g))
  replace Fq := za.mk (zdC Fq.out (zc7 hbx g))
  obtain ⟨b10, hb10⟩ : ∃ b, w6.heap.size = b := ⟨_, rfl⟩
  obtain ⟨w9, hw9⟩ : ∃ u_, w6.alloc (.cells #[.slice A1 pb.length c1, .slice Aq pn.length cq, .slice A1 pb.length c1] 22) = u_ := ⟨_, rfl⟩
  rw [hw9] at X9 X10 HB Fm Fq ⊢
  rw [hb10] at X10 ⊢
  clear hw9 hb10 hbx HI G9
  have HE : za (∀ i : Nat, i < 3 → ∃ p A c m B d, zfx w9 b9 b10 i p A c m B d) := ⟨fun i hi => by
   have z9 := fun k => zf X9.out k
   have z10 := fun k => zf X10.out k
   match i, hi with
   | 0, _ => exact ⟨pg, A0, c0, pb, A1, c1, ⟨z9 0, z10 0, Kd.zW HR.out.1 HB.out, HR.out.2.1, Kd.zW HR.out.2.2.1 HB.out, HR.out.2.2.2.1, S.out.1, S.out.2.1⟩⟩
   | 1, _ => exact ⟨pm, Am, cm, pn, Aq, cq, ⟨z9 1, z10 1, zeF Fm.out, Cm.out, zeF Fq.out, Cq.out, by have := S.out.2.2.1; omega, by have := S.out.2.2.2; omega⟩⟩
   | 2, _ => exact ⟨pm, Am, cm, pb, A1, c1, ⟨z9 2, z10 2, zeF Fm.out, Cm.out, Kd.zW HR.out.2.2.1 HB.out, HR.out.2.2.2.1, by have := S.out.2.2.1; omega, S.out.2.1⟩⟩⟩
  clear X9 X10 Fm Fq Cm Cq S K
  go_loopw [11] (fun v14 W => ∃ i : Nat, i ≤ 3 ∧ v14 = .int .i64 i ∧ za (Below w9.heap.size w9 W)) (fun v14 _ => 3 - (intOf v14).toNat)
  case atStart => exact ⟨0, by omega, rfl, ⟨Below.refl _ _⟩⟩
  case round =>
   obtain ⟨i, hi3, rfl, HBr⟩ := hrel
   by_cases hlt : i < 3
   ·have e1 : decide ((i : Int) < 3) = true := decide_eq_true (by omega)
    have e2 : decide (i < 3) = true := decide_eq_true hlt
    have e3 : ((i : Int) < 3) = True := eq_true (by omega)
    obtain ⟨p, A, c, m, B, d, hpair⟩ := HE.out i hlt
    have HPr := za.mk (hpair.below HBr.out)
    clear hpair
    go_upto_region 9 with fail
    go_cut [12, 13] (fun v12 v13 wc => ∃ (Ao : Option Addr) (co : Nat) (Bo : Option Addr) (eo : Nat), v12 = .slice Ao p.length co ∧ v13 = .slice Bo m.length eo ∧ za (Below wr.heap.size wr wc) ∧ za (Kd.string.C wc Ao p.length p ∧ p.length ≤ co ∧ Kd.string.C wc Bo m.length m ∧ m.length ≤ eo))
    case first =>
     refine zaj (fun W' => W'.cell? ⟨b9, i, none⟩ = some (.slice A p.length c) ∧ W'.cell? ⟨b10, i, none⟩ = some (.slice B m.length d)) [] (by kernel_rfl) ?_
     have HW := za.mk (zg (Below.refl wr.heap.size wr))
     replace HPr := za.mk (HPr.out.below HW.out)
     obtain ⟨wd, hwd⟩ : ∃ W, wr.drew = W := ⟨_, rfl⟩
     rw [hwd] at HW HPr ⊢
     clear hwd
     have HS : wd.cell? ⟨b9, i, none⟩ = some (.slice A p.length c) ∧ wd.cell? ⟨b10, i, none⟩ = some (.slice B m.length d) := ⟨HPr.out.c9, HPr.out.c10⟩
     refine tk 0 ?_
     (try simp only [pu0, pu1, pu2, pu3, pu4])
     refine tk 1 ?_
     (try simp only [pu0, pu1, pu2, pu3, pu4])
     refine tk 2 ?_
     (try simp only [pu0, pu1, pu2, pu3, pu4])
     refine tk 3 ?_
     (try simp only [pu0, pu1, pu2, pu3, pu4])
     refine tk 5 ?_
     (try simp only [pu0, pu1, pu2, pu3, pu4])
     refine tk 6 ?_
     (try simp only [pu0, pu1, pu2, pu3, pu4])
     refine tk 7 ?_
     (try simp only [pu0, pu1, pu2, pu3, pu4])
     refine tk 8 ?_
     (try simp only [pu0, pu1, pu2, pu3, pu4])
     refine on1 4 fun K hK => ?_
     clear HS
     refine za5 Try.func21 (by kernel_rfl) rfl #[.slice A p.length c] (by rfl) rfl rfl (by simp only [List.map_toArray, List.map_cons, List.map_nil]; rfl) ?_
     refine (zba.calls A c p p wd HPr.out.rp HPr.out.hp (zg8 p (by have := HPr.out.sp; omega))).mono ?_
     rintro e wa ⟨vd, rfl, hRa, hba⟩
     refine ⟨_, rfl, ?_⟩
     have RDp := za.mk (Kd.zaA hRa HW.out.size)
     replace HW := za.mk (zo HW.out hba)
     replace HPr := za.mk (HPr.out.below hba)
     have HS : wa.cell? ⟨b9, i, none⟩ = some (.slice A p.length c) ∧ wa.cell? ⟨b10, i, none⟩ = some (.slice B m.length d) := ⟨HPr.out.c9, HPr.out.c10⟩
     clear hRa hba
     refine hK.out _ _ (fun _ => HS) ?_
     clear hK K
     (try simp only [pu0, pu1, pu2, pu3, pu4])
     refine on1 9 fun K hK => ?_
     clear HS
     refine za5 Try.func21 (by kernel_rfl) rfl #[.slice B m.length d] (by rfl) rfl rfl (by simp only [List.map_toArray, List.map_cons, List.map_nil]; rfl) ?_
     refine (zba.calls B d m m wa HPr.out.rm HPr.out.hm (zg8 m (by have := HPr.out.sm; omega))).mono ?_
     rintro e wz ⟨vd, rfl, hRa, hba⟩
     refine ⟨_, rfl, ?_⟩
     have RDm := za.mk (Kd.zaA hRa HW.out.size)
     replace HW := za.mk (zo HW.out hba)
     replace HPr := za.mk (HPr.out.below hba)
     replace RDp := za.mk (Kd.zB RDp.out hba)
     have HS : wz.cell? ⟨b9, i, none⟩ = some (.slice A p.length c) ∧ wz.cell? ⟨b10, i, none⟩ = some (.slice B m.length d) := ⟨HPr.out.c9, HPr.out.c10⟩
     clear hRa hba
     refine hK.out _ _ (fun _ => HS) ?_
     clear hK K
     (try simp only [pu0, pu1, pu2, pu3, pu4])
     obtain ⟨Ao, co, rfl, hco, _⟩ := Kd.zaa RDp.out
     obtain ⟨Bo, eo, rfl, heo, _⟩ := Kd.zaa RDm.out
     have HF := za.mk (And.intro (zZ RDp.out).1 (And.intro (zZ RDp.out).2 (And.intro (zZ RDm.out).1 (zZ RDm.out).2)))
     clear hco heo RDp RDm
     refine tk 10 ?_
     (try simp only [pu0, pu1, pu2, pu3, pu4])
     refine tk 11 ?_
     (try simp only [pu0, pu1, pu2, pu3, pu4])
     refine z8 (by kernel_rfl) ?_ _
     clear HS
     go_wp2_with fail
     go_meet
     case rel => exact ⟨Ao, co, Bo, eo, rfl, rfl, HW, HF⟩
    case rest =>
     obtain ⟨Ao, co, Bo, eo, rfl, rfl, HW, HF⟩ := hcut
     replace HPr := za.mk (HPr.out.below HW.out)
     have hsl := zgR p m HPr.out.sp HPr.out.sm
     obtain ⟨K1, h1⟩ := zgz p m
     obtain ⟨K2, h2⟩ := zgG p m
     change ∀ k, K1 ≤ k → zbA.f k p m = some (zeY p m) at h1
     change ∀ k, K2 ≤ k → zbs.f k p m = some (zeY p m) at h2
     obtain ⟨⟨so, se⟩, hst⟩ : ∃ x, zeY p m = x := ⟨_, rfl⟩
     rw [hst] at h1 h2 hsl
     obtain ⟨K7, h7⟩ := zgH so (by have : so.length ≤ 40 := hsl; omega)
     obtain ⟨K8, h8⟩ := zfD p (by have := HPr.out.sp; omega)
     obtain ⟨K9, h9⟩ := zfD m (by have := HPr.out.sm; omega)
     have KK := za.mk (And.intro (h1 K1 (Nat.le_refl _)) (And.intro (h2 K2 (Nat.le_refl _)) (And.intro (h7 K7 (Nat.le_refl _)) (And.intro (h8 K8 (Nat.le_refl _)) (h9 K9 (Nat.le_refl _))))))
     clear h1 h2 h7 h8 h9 hst hsl
     have FO := za.mk (And.intro HF.out.1 HF.out.2.1)
     have FB := za.mk HF.out.2.2
     clear HF
     go_wp2_with fail
     refine (zbA.calls K1 Ao co p Bo eo m so se wc FO.out.1 FO.out.2 FB.out.1 FB.out.2 KK.out.1).mono ?_
     rintro e wx1 ⟨v14, rfl, hR, hb⟩
     obtain ⟨A14, c14, rfl, _, _⟩ := Kd.zaa hR
     have F14 := za.mk (zZ hR)
     clear hR
     replace FO := za.mk (za4 FO.out hb)
     replace FB := za.mk (za4 FB.out hb)
     replace HPr := za.mk (HPr.out.below hb)
     replace HW := za.mk (zo HW.out hb)
     clear hb
     go_wp2_with fail
     refine zaj (fun W' => W'.cell? ⟨b9, i, none⟩ = some (.slice A p.length c) ∧ W'.cell? ⟨b10, i, none⟩ = some (.slice B m.length d)) [] (by kernel_rfl) ?_
     have hb := zg (Below.refl wx1.heap.size wx1)
     replace FO := za.mk (za4 FO.out hb)
     replace FB := za.mk (za4 FB.out hb)
     replace F14 := za.mk (za4 F14.out hb)
     replace HPr := za.mk (HPr.out.below hb)
     replace HW := za.mk (zo HW.out hb)
     clear hb
     obtain ⟨wy1, hwd⟩ : ∃ W, wx1.drew = W := ⟨_, rfl⟩
     rw [hwd] at HW HPr FO FB F14 ⊢
     clear hwd
     have HS : wy1.cell? ⟨b9, i, none⟩ = some (.slice A p.length c) ∧ wy1.cell? ⟨b10, i, none⟩ = some (.slice B m.length d) := ⟨HPr.out.c9, HPr.out.c10⟩
     refine tk 0 ?_
     (try simp only [pu0, pu1, pu2, pu3, pu4])
     refine tk 1 ?_
     (try simp only [pu0, pu1, pu2, pu3, pu4])
     refine tk 2 ?_
     (try simp only [pu0, pu1, pu2, pu3, pu4])
     refine tk 3 ?_
     (try simp only [pu0, pu1, pu2, pu3, pu4])
     refine tk 4 ?_
     (try simp only [pu0, pu1, pu2, pu3, pu4])
     refine tk 5 ?_
     (try simp only [pu0, pu1, pu2, pu3, pu4])
     refine tk 6 ?_
     (try simp only [pu0, pu1, pu2, pu3, pu4])
     refine tk 7 ?_
     (try simp only [pu0, pu1, pu2, pu3, pu4])
     refine on1 8 fun K hK => ?_
     clear HS
     refine za5 Try.func23 (by kernel_rfl) rfl #[.slice A p.length c, .slice B m.length d] (by rfl) rfl rfl (by simp only [List.map_toArray, List.map_cons, List.map_nil]; rfl) ?_
     refine (zbs.calls K2 A c p B d m so se wy1 HPr.out.rp HPr.out.hp HPr.out.rm HPr.out.hm KK.out.2.1).mono ?_
     rintro e wx2 ⟨v16, rfl, hR, hb⟩
     refine ⟨_, rfl, ?_⟩
     obtain ⟨A16, c16, rfl, _, _⟩ := Kd.zaa hR
     have F16 := za.mk (zZ hR)
     clear hR
     replace FO := za.mk (za4 FO.out hb)
     replace FB := za.mk (za4 FB.out hb)
     replace F14 := za.mk (za4 F14.out hb)
     replace HPr := za.mk (HPr.out.below hb)
     replace HW := za.mk (zo HW.out hb)
     clear hb
     have HS : wx2.cell? ⟨b9, i, none⟩ = some (.slice A p.length c) ∧ wx2.cell? ⟨b10, i, none⟩ = some (.slice B m.length d) := ⟨HPr.out.c9, HPr.out.c10⟩
     refine hK.out _ _ (fun _ => HS) ?_
     clear hK K
     (try simp only [pu0, pu1, pu2, pu3, pu4])
     refine tk 9 ?_
     (try simp only [pu0, pu1, pu2, pu3, pu4])
     refine tk 10 ?_
     (try simp only [pu0, pu1, pu2, pu3, pu4])
     refine tk 11 ?_
     (try simp only [pu0, pu1, pu2, pu3, pu4])
     refine tk 12 ?_
     (try simp only [pu0, pu1, pu2, pu3, pu4])
     refine tk 13 ?_
     (try simp only [pu0, pu1, pu2, pu3, pu4])
     refine z8 (by kernel_rfl) ?_ _
     clear HS
     go_wp2_with fail
     refine (zak.calls K7 A14 c14 so A16 c16 so true wx2 F14.out.1 F14.out.2 F16.out.1 F16.out.2 KK.out.2.2.1).mono ?_
     rintro e wx3 ⟨rfl, hd⟩
     have hb := zcu hd
     clear hd
     replace FO := za.mk (za4 FO.out hb)
     replace FB := za.mk (za4 FB.out hb)
     replace F14 := za.mk (za4 F14.out hb)
     replace F16 := za.mk (za4 F16.out hb)
     replace HPr := za.mk (HPr.out.below hb)
     replace HW := za.mk (zo HW.out hb)
     clear hb
     have hc9 := HPr.out.c9
     go_wp2_with fail
     refine (zad.calls K8 Ao co p A c p true wx3 FO.out.1 FO.out.2 HPr.out.rp HPr.out.hp KK.out.2.2.2.1).mono ?_
     rintro e wx4 ⟨rfl, hd⟩
     have hb := zcu hd
     clear hd hc9
     replace FO := za.mk (za4 FO.out hb)
     replace FB := za.mk (za4 FB.out hb)
     replace F14 := za.mk (za4 F14.out hb)
     replace F16 := za.mk (za4 F16.out hb)
     replace HPr := za.mk (HPr.out.below hb)
     replace HW := za.mk (zo HW.out hb)
     clear hb
     have hc10 := HPr.out.c10
     go_wp2_with fail
     refine (zad.calls K9 Bo eo m B d m true wx4 FB.out.1 FB.out.2 HPr.out.rm HPr.out.hm KK.out.2.2.2.2).mono ?_
     rintro e wx5 ⟨rfl, hd⟩
     have hb := zcu hd
     clear hd hc10
     replace FO := za.mk (za4 FO.out hb)
     replace FB := za.mk (za4 FB.out hb)
     replace F14 := za.mk (za4 F14.out hb)
     replace F16 := za.mk (za4 F16.out hb)
     replace HPr := za.mk (HPr.out.below hb)
     replace HW := za.mk (zo HW.out hb)
     clear hb
     have HBn := za.mk (zo HBr.out HW.out)
     go_wp2_with fail
     go_roundw
     case rel => exact ⟨i + 1, by omega, by go_num, HBn⟩
     case measure => simp [intOf]; omega
   ·obtain rfl : i = 3 := by omega
    go_wp2_with fail
    refine (zci wr).mono ?_
    rintro e wz ⟨rfl, hb⟩
    replace HB := za.mk (zo (zo HB.out HBr.out) hb)
    clear hb
    go_wp2_with fail
    go_ret
    exact ⟨rfl, HB.out⟩
end Go.Proofs.Ytgmbbfmbimofoaa.P
