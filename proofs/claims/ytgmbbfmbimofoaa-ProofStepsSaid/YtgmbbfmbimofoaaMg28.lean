-- MERGED BY A PROGRAM out of texts of this claim: hand work, and what a (turned) print of the kit has written for it
import Derived.IntWalk
import Derived.Outline
import Derived.Deep.DeepCutAuto
import Derived.Deep.CutBlock
import Derived.Test.YtgmbbfmbimofoaaMg24
import Derived.Test.YtgmbbfmbimofoaaMg23
import Derived.Test.YtgmbbfmbimofoaaMg27
import Derived.Test.YtgmbbfmbimofoaaMg11
import Derived.Test.YtgmbbfmbimofoaaMg5
import Derived.Test.YtgmbbfmbimofoaaMg6
import Derived.Test.YtgmbbfmbimofoaaMg7
import Derived.Test.YtgmbbfmbimofoaaMg22
import Derived.Test.YtgmbbfmbimofoaaMg25
import Derived.Test.YtgmbbfmbimofoaaMg9
namespace Go.Proofs.Ytgmbbfmbimofoaa.P
open Go.RowKit Go.Proofs.YtgmbbfmbimofoaaW.PrintWords Go.Proofs.YtgmbbfmbimofoaaW.PrintLast Go.Proofs.YtgmbbfmbimofoaaW.PrintMore
attribute [local go_sem] zI zJ zP zO zH zG zM zK
set_option linter.unusedVariables false
set_option linter.unusedSimpArgs false
theorem zcG {w w' : World} (h : zx w w') : Below w.heap.size w w' := by
 obtain ⟨n, rfl⟩ := h
 exact zb (Below.refl _ _) n
theorem zba {α : Type} {d : Kd α} {w w' : World} {A : Option Addr} {n c : Nat} {xs : List α} (h : d.C w A n xs ∧ n ≤ c) (hb : Below w.heap.size w w') : d.C w' A n xs ∧ n ≤ c := ⟨Kd.zU h.1 hb, h.2⟩
structure zgy (W : World) (b9 b10 : Nat) (i : Nat) (p : List ByteArray) (A : Option Addr) (c : Nat) (m : List S63) (B : Option Addr) (d : Nat) : Prop where
 c9 : W.cell? ⟨b9, i, none⟩ = some (.slice A p.length c)
 c10 : W.cell? ⟨b10, i, none⟩ = some (.slice B m.length d)
 rp : Kd.string.C W A p.length p
 hp : p.length ≤ c
 rm : k63.C W B m.length m
 hm : m.length ≤ d
 sp : p.length ≤ 20
 sm : m.length ≤ 20
theorem zgy.below {W W' : World} {b9 b10 i : Nat} {p : List ByteArray} {A : Option Addr} {c : Nat} {m : List S63} {B : Option Addr} {d : Nat} (h : zgy W b9 b10 i p A c m B d) (hb : Below W.heap.size W W') : zgy W' b9 b10 i p A c m B d :=
 ⟨(hb.cell (World.block_lt_of_cell? W _ h.c9)).trans h.c9, (hb.cell (World.block_lt_of_cell? W _ h.c10)).trans h.c10, Kd.zU h.rp hb, h.hp, Kd.zU h.rm hb, h.hm, h.sp, h.sm⟩
set_option maxHeartbeats 16000000 in
set_option maxRecDepth 100000 in
theorem zf8 (A0 : Option Addr) (c0 : Nat) (pg : List ByteArray) (A1 : Option Addr) (c1 : Nat) (ms : List S63) (most : Int) (A2 : Option Addr) (c2 : Nat) (l0 : List Int) (w : World) (hr0 : Kd.C Kd.string w A0 pg.length pg) (hc0 : pg.length ≤ c0) (hr1 : Kd.C k63 w A1 ms.length ms) (hc1 : ms.length ≤ c1) (_hmost : (Lit.int .i64 most).wf = true)
  (hr2 : Kd.C (Kd.int .i64) w A2 l0.length l0) (hc2 : l0.length ≤ c2) (hl8 : l0.length * 8 ≤ 140737488351232) :
  Calls Try.prog 4 #[.slice A0 pg.length c0, .slice A1 ms.length c1, .int .i64 most, .slice A2 l0.length c2] w fun e w' => e = .returned (.bool true) ∧ Below w.heap.size w w' := by
 have hl : l0.length ≤ 17592186044416 := by omega
 obtain ⟨bl, ⟨KL, hKL⟩, hbl⟩ := zh7 pg (zgD hr0)
 obtain ⟨bm, ⟨KM, hKM⟩, hbm⟩ := zhR ms (zgD hr1)
 obtain ⟨pm, t1, t2, p1, p2, p3, p4⟩ := zh3 l0 0 11400714819323198485 (Int.le_refl _) hl 6 (by decide) 200 (by decide)
 obtain ⟨mq, u1, u2, ⟨KQ, q1⟩, q2, q3, q4⟩ := zhl l0 hl t1 t2 p4 pm.length 5 (by omega) (by omega)
 obtain ⟨dt, y1, y2, z1, z2, z3, z4⟩ := zeJ l0 u1 u2 q4 hl 1 (by omega) (by omega)
 have K := za.mk (And.intro (hKL KL (Nat.le_refl _)) (And.intro (hKM KM (Nat.le_refl _)) (And.intro p1 (And.intro (q1 KQ (Nat.le_refl _)) z1))))
 have HR := za.mk (And.intro hr0 (And.intro hc0 (And.intro hr1 (And.intro hc1 (And.intro hr2 hc2)))))
 have S := za.mk (And.intro hbl (And.intro hbm (And.intro p2 (And.intro q2 (And.intro z2 z3)))))
 clear hKL hKM p1 p2 p3 p4 q1 q2 q3 q4 z1 z2 z3 z4 hr0 hc0 hr1 hc1 hr2 hc2 hl hl8 hbl hbm _hmost
 have HB := za.mk (Below.refl w.heap.size w)
 go_enter Try.func4, Try.ntmps4
 go_wp2_with fail
 refine (zaC.calls KL A0 c0 pg bl w HR.out.1 HR.out.2.1 K.out.1).mono ?_
 rintro e w1 ⟨rfl, hd⟩
 replace HB := za.mk (zo HB.out (zcG hd))
 clear hd
 cases bl with
 | true =>
  go_wp2_with fail
  refine (zcR w1).mono ?_
  rintro e w2 ⟨rfl, hb⟩
  replace HB := za.mk (zo HB.out hb)
  clear hb
  go_wp2_with fail
  go_ret
  exact ⟨rfl, HB.out⟩
 | false =>
 have S1 := za.mk (S.out.1 rfl)
 have S2 := za.mk S.out.2
 clear S
 go_wp2_with fail
 refine (zaD.calls KM A1 c1 ms bm w1 (Kd.zU HR.out.2.2.1 HB.out) HR.out.2.2.2.1 K.out.2.1).mono ?_
 rintro e w2 ⟨rfl, hd⟩
 replace HB := za.mk (zo HB.out (zcG hd))
 clear hd
 cases bm with
 | true =>
  go_wp2_with fail
  refine (zcR w2).mono ?_
  rintro e w3 ⟨rfl, hb⟩
  replace HB := za.mk (zo HB.out hb)
  clear hb
  go_wp2_with fail
  go_ret
  exact ⟨rfl, HB.out⟩
 | false =>
 have S := za.mk (And.intro S1.out (And.intro (S2.out.1 rfl) S2.out.2))
 clear S1 S2
 go_wp2_with fail
 refine (zcg.calls _ _ l0 l0 0 11400714819323198485 w _ HB.out HR.out.2.2.2.2.1 HR.out.2.2.2.2.2 rfl).mono ?_
 rintro e w3 ⟨g, rfl, hI, hB, _⟩
 have HI := za.mk hI
 replace HB := za.mk hB
 clear hI hB
 go_wp2_with fail
 refine (zao.calls 200 g l0 0 11400714819323198485 6 pm t1 t2 w w3 HI.out HB.out K.out.2.2.1).mono ?_
 rintro e w4 ⟨v, rfl, hR, hI, hB, hk⟩
 obtain ⟨Am, cm, rfl, hc, hF⟩ := zg2 hR HI.out.lt
 have Fm := za.mk hF
 have Cm := za.mk hc
 replace HI := za.mk hI
 replace HB := za.mk hB
 clear hF hc hI hB hk hR
 go_wp2_with fail
 have hbx := ze (Below.refl w4.heap.size w4) (.cells #[.slice A0 pg.length c0, .slice Am pm.length cm, .slice Am pm.length cm] 22)
 have X9 := za.mk (heap_alloc_new w4 (.cells #[.slice A0 pg.length c0, .slice Am pm.length cm, .slice Am pm.length cm] 22))
 have G9 := za.mk HI.out.lt
 replace HI := za.mk (HI.out.below hbx)
 replace HB := za.mk (zo HB.out hbx)
 replace Fm := za.mk (zcc Fm.out (zco hbx g))
 obtain ⟨b9, hb9⟩ : ∃ b, w4.heap.size = b := ⟨_, rfl⟩
 obtain ⟨w5, hw5⟩ : ∃ u_, w4.alloc (.cells #[.slice A0 pg.length c0, .slice Am pm.length cm, .slice Am pm.length cm] 22) = u_ := ⟨_, rfl⟩
 rw [hw5] at X9 HI HB Fm ⊢
 rw [hb9] at X9 G9 ⊢
 clear hw5 hb9 hbx
 refine (zw.calls KQ g l0 t1 t2 pm.length 5 mq u1 u2 w w5 HI.out HB.out K.out.2.2.2.1).mono ?_
 rintro e w6 ⟨v, rfl, hR, hI, hB, hk⟩
 obtain ⟨Aq, cq, rfl, hc, hF⟩ := zg2 hR HI.out.lt
 replace Fm := za.mk (zcc Fm.out hk)
 have Fq := za.mk hF
 have Cq := za.mk hc
 have X9' := za.mk ((hk.2 b9 (zR X9.out) (by have := G9.out; omega) (by simp)).trans X9.out)
 clear X9
 have X9 := X9'
 clear X9'
 replace HI := za.mk hI
 replace HB := za.mk hB
 clear hF hc hI hB hk hR
 go_wp2_with fail
 have hbx := ze (Below.refl w6.heap.size w6) (.cells #[.slice A1 ms.length c1, .slice Aq mq.length cq, .slice A1 ms.length c1] 31)
 have X10 := za.mk (heap_alloc_new w6 (.cells #[.slice A1 ms.length c1, .slice Aq mq.length cq, .slice A1 ms.length c1] 31))
 have G10 := za.mk HI.out.lt
 replace HI := za.mk (HI.out.below hbx)
 replace X9 := za.mk (zF X9.out hbx)
 replace HB := za.mk (zo HB.out hbx)
 replace Fm := za.mk (zcc Fm.out (zco hbx g))
 replace Fq := za.mk (zcc Fq.out (zco hbx g))
 obtain ⟨b10, hb10⟩ : ∃ b, w6.heap.size = b := ⟨_, rfl⟩
 obtain ⟨w7, hw7⟩ : ∃ u_, w6.alloc (.cells #[.slice A1 ms.length c1, .slice Aq mq.length cq, .slice A1 ms.length c1] 31) = u_ := ⟨_, rfl⟩
 rw [hw7] at X9 X10 HB Fm Fq HI ⊢
 rw [hb10] at X10 G10 ⊢
 clear hw7 hb10 hbx
 refine (zak.calls g l0 u1 u2 1 dt y1 y2 w w7 HI.out HB.out K.out.2.2.2.2).mono ?_
 rintro e w8 ⟨rfl, hI, hB, hk⟩
 replace Fm := za.mk (zcc Fm.out hk)
 replace Fq := za.mk (zcc Fq.out hk)
 have X9' := za.mk ((hk.2 b9 (zR X9.out) (by have := G9.out; omega) (by simp)).trans X9.out)
 have X10' := za.mk ((hk.2 b10 (zR X10.out) (by have := G10.out; omega) (by simp)).trans X10.out)
 clear X9 X10
 have X9 := X9'
 have X10 := X10'
 clear X9' X10'
 replace HB := za.mk hB
 clear hI hB hk HI G9 G10
 have hw : IntKind.i64.wrap ((pm.length : Int) + dt) = (pm.length : Int) + dt := IntWalk.i64_in ((pm.length : Int) + dt) (by have h1 := S.out.2.2.1; have h2 := S.out.2.2.2.2.1; have h3 := S.out.2.2.2.2.2; omega)
 have b1 : 0 ≤ dt := S.out.2.2.2.2.1
 have b2 : dt ≤ 1 := S.out.2.2.2.2.2
 have b3 : pm.length ≤ 6 := S.out.2.2.1
 go_wp2_with fail
 obtain ⟨num, hnum⟩ : ∃ n, (pm.length : Int) + dt = n := ⟨_, rfl⟩
 rw [hnum]
 have hbx := ze (Below.refl w8.heap.size w8) (.cells #[.int .i64 most, .int .i64 num, .int .i64 most] 3)
 have X13 := za.mk (heap_alloc_new w8 (.cells #[.int .i64 most, .int .i64 num, .int .i64 most] 3))
 replace X9 := za.mk (zF X9.out hbx)
 replace X10 := za.mk (zF X10.out hbx)
 replace HB := za.mk (zo HB.out hbx)
 replace Fm := za.mk (zcc Fm.out (zco hbx g))
 replace Fq := za.mk (zcc Fq.out (zco hbx g))
 obtain ⟨b13, hb13⟩ : ∃ b, w8.heap.size = b := ⟨_, rfl⟩
 obtain ⟨w9, hw9⟩ : ∃ u_, w8.alloc (.cells #[.int .i64 most, .int .i64 num, .int .i64 most] 3) = u_ := ⟨_, rfl⟩
 rw [hw9] at X9 X10 X13 HB Fm Fq ⊢
 rw [hb13] at X13 ⊢
 clear hw9 hb13 hbx hw b1 b2 b3 hnum
 have HE : za (∀ i : Nat, i < 3 → ∃ p A c m B d n, zgy w9 b9 b10 i p A c m B d ∧ w9.cell? ⟨b13, i, none⟩ = some (.int .i64 n)) := ⟨fun i hi => by
  have z9 := fun k => zg X9.out k
  have z10 := fun k => zg X10.out k
  have z13 := fun k => zg X13.out k
  match i, hi with
  | 0, _ => exact ⟨pg, A0, c0, ms, A1, c1, most, ⟨z9 0, z10 0, Kd.zU HR.out.1 HB.out, HR.out.2.1, Kd.zU HR.out.2.2.1 HB.out, HR.out.2.2.2.1, S.out.1, S.out.2.1⟩, z13 0⟩
  | 1, _ => exact ⟨pm, Am, cm, mq, Aq, cq, num, ⟨z9 1, z10 1, zeA Fm.out, Cm.out, zeA Fq.out, Cq.out, by have := S.out.2.2.1; omega, by have := S.out.2.2.2.1; omega⟩, z13 1⟩
  | 2, _ => exact ⟨pm, Am, cm, ms, A1, c1, most, ⟨z9 2, z10 2, zeA Fm.out, Cm.out, Kd.zU HR.out.2.2.1 HB.out, HR.out.2.2.2.1, by have := S.out.2.2.1; omega, S.out.2.1⟩, z13 2⟩⟩
 clear X9 X10 X13 Fm Fq Cm Cq S K
 go_loopw [14] (fun v14 W => ∃ i : Nat, i ≤ 3 ∧ v14 = .int .i64 i ∧ za (Below w9.heap.size w9 W)) (fun v14 _ => 3 - (intOf v14).toNat)
 case atStart => exact ⟨0, by omega, rfl, ⟨Below.refl _ _⟩⟩
 case round =>
  obtain ⟨i, hi3, rfl, HBr⟩ := hrel
  by_cases hlt : i < 3
  ·have d1 : decide ((i : Int) < 3) = true := decide_eq_true (by omega)
   have d2 : decide (i < 3) = true := decide_eq_true hlt
   have d3 : ((i : Int) < 3) = True := eq_true (by omega)
   obtain ⟨p, A, c, m, B, d, num2, hpair, hnu⟩ := HE.out i hlt
   have HPr := za.mk (hpair.below HBr.out)
   have HNu := za.mk ((HBr.out.cell (World.block_lt_of_cell? w9 _ hnu)).trans hnu)
   clear hpair hnu
   go_upto_region 9 with fail
   go_cut [15, 16] (fun v12 v13 wc => ∃ (Ao : Option Addr) (co : Nat) (Bo : Option Addr) (eo : Nat), v12 = .slice Ao p.length co ∧ v13 = .slice Bo m.length eo ∧ za (Below wr.heap.size wr wc) ∧ za (Kd.string.C wc Ao p.length p ∧ p.length ≤ co ∧ k63.C wc Bo m.length m ∧ m.length ≤ eo))
   case first =>
    refine zaz (fun W' => W'.cell? ⟨b9, i, none⟩ = some (.slice A p.length c) ∧ W'.cell? ⟨b10, i, none⟩ = some (.slice B m.length d)) [] (by kernel_rfl) ?_
    have HW := za.mk (zf (Below.refl wr.heap.size wr))
    have HPr0 := HPr
    replace HPr := za.mk (HPr.out.below HW.out)
    obtain ⟨wd, hwd⟩ : ∃ W, wr.drew = W := ⟨_, rfl⟩
    rw [hwd] at HW HPr ⊢
    clear hwd
    have HS : wd.cell? ⟨b9, i, none⟩ = some (.slice A p.length c) ∧ wd.cell? ⟨b10, i, none⟩ = some (.slice B m.length d) := ⟨HPr.out.c9, HPr.out.c10⟩
    refine tk 0 ?_
    (try simp only [pu0, pu1, pu2, pu3, pu4])
    refine tk 1 ?_
    (try simp only [pu0, pu1, pu2, pu3, pu4])
    refine tk 2 ?_
    (try simp only [pu0, pu1, pu2, pu3, pu4])
    refine tk 3 ?_
    (try simp only [pu0, pu1, pu2, pu3, pu4])
    refine tk 6 ?_
    (try simp only [pu0, pu1, pu2, pu3, pu4])
    refine tk 7 ?_
    (try simp only [pu0, pu1, pu2, pu3, pu4])
    refine tk 8 ?_
    (try simp only [pu0, pu1, pu2, pu3, pu4])
    refine tk 9 ?_
    (try simp only [pu0, pu1, pu2, pu3, pu4])
    refine on2 4 5 (fun K hK => ?_) (fun K hK => ?_)
    ·skip
     clear HS
     refine zbh Try.func21 (by kernel_rfl) rfl #[.slice A p.length c] (by rfl) rfl rfl (by simp only [List.map_toArray, List.map_cons, List.map_nil]; rfl) ?_
     refine (zbe.calls A c p p wd HPr.out.rp HPr.out.hp (zhd p (by have := HPr.out.sp; omega))).mono ?_
     rintro e wa ⟨v12, rfl, hRa, hba⟩
     refine ⟨_, rfl, ?_⟩
     have R12 := za.mk hRa
     replace HW := za.mk (zo HW.out hba)
     replace HPr := za.mk (HPr.out.below hba)
     have HS : wa.cell? ⟨b9, i, none⟩ = some (.slice A p.length c) ∧ wa.cell? ⟨b10, i, none⟩ = some (.slice B m.length d) := ⟨HPr.out.c9, HPr.out.c10⟩
     clear hRa hba
     refine hK.out _ _ (fun _ => HS) ?_
     clear hK K
     (try simp only [pu0, pu1, pu2, pu3, pu4])
     refine on1 5 fun K hK => ?_
     clear HS
     refine Kd.zbL k63 (w0 := wa) _ 63 ?hg (N := 62) ?hd (xs := ([] : List S63)) (inner := []) (ok := fun _ => True) (okp := fun _ => True) ?hr ?hp (fun _ hk => hk) trivial (Below.refl _ _) (Nat.le_refl _) (by simp) ?_
     case hd => rfl
     case hg => rfl
     case hr => first | (go_simp; done) | (go_simp; rfl)
     case hp => exact (zZ.none _ _)
     intro v55 wl hRl hbl hgl hnl
     have R55 := za.mk (Kd.zaQ hRl HW.out.size)
     replace HW := za.mk (zo HW.out hbl)
     replace HPr := za.mk (HPr.out.below hbl)
     replace R12 := za.mk (Kd.zN R12.out hbl)
     have HS : wl.cell? ⟨b9, i, none⟩ = some (.slice A p.length c) ∧ wl.cell? ⟨b10, i, none⟩ = some (.slice B m.length d) := ⟨HPr.out.c9, HPr.out.c10⟩
     clear hRl hgl hnl
     refine hK.out _ _ (fun _ => HS) ?_
     clear hK K
     (try simp only [pu0, pu1, pu2, pu3, pu4])
     refine on1 10 fun K hK => ?_
     clear HS
     refine Kd.zaB k63 (w0 := wr) wr.heap.size (by rfl) _ _ 31 63 _ 32 (by rfl) Try.underlying31 zcy rfl (by decide) (by decide) v55 [] m B m.length _ (fun _ => True) (fun _ => False) (by rfl) (by rfl) R55.out HPr.out.rm (fun x cs h => by rw [zeC h]; exact zcb _ _ _ x) (fun _ h => h.elim) (fun _ _ => trivial) HW.out HW.out.size (by have := HPr.out.sm; simp; omega) ?_
     intro v13 wz hRz hbz hgz hatz
     have R12z := Kd.zgl (Kd.zfM R12.out R55.out (by decide)) hgz (fun _ h => h.2)
     obtain ⟨Ao, co, rfl, hco, _⟩ := Kd.zan R12z
     obtain ⟨Bo, eo, rfl, heo, _⟩ := Kd.zan hRz
     have HF := za.mk (And.intro (zaS R12z).1 (And.intro (zaS R12z).2 (And.intro (zaS hRz).1 (zaS hRz).2)))
     replace HW := za.mk hbz
     replace HPr := za.mk (HPr0.out.below hbz)
     clear R12z hco heo hRz hbz hgz hatz R12 R55
     have HS : wz.cell? ⟨b9, i, none⟩ = some (.slice A p.length c) ∧ wz.cell? ⟨b10, i, none⟩ = some (.slice B m.length d) := ⟨HPr.out.c9, HPr.out.c10⟩
     refine hK.out _ _ (fun _ => HS) ?_
     clear hK K
     (try simp only [pu0, pu1, pu2, pu3, pu4])
     refine tk 11 ?_
     (try simp only [pu0, pu1, pu2, pu3, pu4])
     refine tk 12 ?_
     (try simp only [pu0, pu1, pu2, pu3, pu4])
     refine zal (by kernel_rfl) ?_ _
     go_wp2_with fail
     go_meet
     case rel => exact ⟨Ao, co, Bo, eo, rfl, rfl, HW, HF⟩
    ·skip
     clear HS
     refine Kd.zbL k63 (w0 := wd) _ 63 ?hg (N := 62) ?hd (xs := ([] : List S63)) (inner := []) (ok := fun _ => True) (okp := fun _ => True) ?hr ?hp (fun _ hk => hk) trivial (Below.refl _ _) (Nat.le_refl _) (by simp) ?_
     case hd => rfl
     case hg => rfl
     case hr => first | (go_simp; done) | (go_simp; rfl)
     case hp => exact (zZ.none _ _)
     intro v55 wl hRl hbl hgl hnl
     have R55 := za.mk (Kd.zaQ hRl HW.out.size)
     replace HW := za.mk (zo HW.out hbl)
     replace HPr := za.mk (HPr.out.below hbl)
     have HS : wl.cell? ⟨b9, i, none⟩ = some (.slice A p.length c) ∧ wl.cell? ⟨b10, i, none⟩ = some (.slice B m.length d) := ⟨HPr.out.c9, HPr.out.c10⟩
     clear hRl hbl hgl hnl
     refine hK.out _ _ (fun _ => HS) ?_
     clear hK K
     (try simp only [pu0, pu1, pu2, pu3, pu4])
     refine on1 4 fun K hK => ?_
     clear HS
     refine zbh Try.func21 (by kernel_rfl) rfl #[.slice A p.length c] (by rfl) rfl rfl (by simp only [List.map_toArray, List.map_cons, List.map_nil]; rfl) ?_
     refine (zbe.calls A c p p wl HPr.out.rp HPr.out.hp (zhd p (by have := HPr.out.sp; omega))).mono ?_
     rintro e wa ⟨v12, rfl, hRa, hba⟩
     refine ⟨_, rfl, ?_⟩
     have R12 := za.mk hRa
     replace HW := za.mk (zo HW.out hba)
     replace HPr := za.mk (HPr.out.below hba)
     replace R55 := za.mk (Kd.zN R55.out hba)
     have HS : wa.cell? ⟨b9, i, none⟩ = some (.slice A p.length c) ∧ wa.cell? ⟨b10, i, none⟩ = some (.slice B m.length d) := ⟨HPr.out.c9, HPr.out.c10⟩
     clear hRa hba
     refine hK.out _ _ (fun _ => HS) ?_
     clear hK K
     (try simp only [pu0, pu1, pu2, pu3, pu4])
     refine on1 10 fun K hK => ?_
     clear HS
     refine Kd.zaB k63 (w0 := wr) wr.heap.size (by rfl) _ _ 31 63 _ 32 (by rfl) Try.underlying31 zcy rfl (by decide) (by decide) v55 [] m B m.length _ (fun _ => True) (fun _ => False) (by rfl) (by rfl) R55.out HPr.out.rm (fun x cs h => by rw [zeC h]; exact zcb _ _ _ x) (fun _ h => h.elim) (fun _ _ => trivial) HW.out HW.out.size (by have := HPr.out.sm; simp; omega) ?_
     intro v13 wz hRz hbz hgz hatz
     have R12z := Kd.zgl (Kd.zfM R12.out R55.out (by decide)) hgz (fun _ h => h.2)
     obtain ⟨Ao, co, rfl, hco, _⟩ := Kd.zan R12z
     obtain ⟨Bo, eo, rfl, heo, _⟩ := Kd.zan hRz
     have HF := za.mk (And.intro (zaS R12z).1 (And.intro (zaS R12z).2 (And.intro (zaS hRz).1 (zaS hRz).2)))
     replace HW := za.mk hbz
     replace HPr := za.mk (HPr0.out.below hbz)
     clear R12z hco heo hRz hbz hgz hatz R12 R55
     have HS : wz.cell? ⟨b9, i, none⟩ = some (.slice A p.length c) ∧ wz.cell? ⟨b10, i, none⟩ = some (.slice B m.length d) := ⟨HPr.out.c9, HPr.out.c10⟩
     refine hK.out _ _ (fun _ => HS) ?_
     clear hK K
     (try simp only [pu0, pu1, pu2, pu3, pu4])
     refine tk 11 ?_
     (try simp only [pu0, pu1, pu2, pu3, pu4])
     refine tk 12 ?_
     (try simp only [pu0, pu1, pu2, pu3, pu4])
     refine zal (by kernel_rfl) ?_ _
     go_wp2_with fail
     go_meet
     case rel => exact ⟨Ao, co, Bo, eo, rfl, rfl, HW, HF⟩
   case rest =>
    obtain ⟨Ao, co, Bo, eo, rfl, rfl, HW, HF⟩ := hcut
    replace HPr := za.mk (HPr.out.below HW.out)
    replace HNu := za.mk ((HW.out.cell (World.block_lt_of_cell? wr _ HNu.out)).trans HNu.out)
    obtain ⟨⟨so, se⟩, hst⟩ : ∃ x, zdU p m num2 = x := ⟨_, rfl⟩
    have hsl : so.length ≤ 5 := by have := zgW p m num2; rw [hst] at this; exact this
    have h1 := zhk p m num2 (by have := HPr.out.sp; omega) (by have := HPr.out.sm; omega)
    obtain ⟨K2, h2⟩ := zga p m num2
    obtain ⟨K7, h7⟩ := zg4 so (by omega)
    obtain ⟨K8, h8⟩ := zht p (by have := HPr.out.sp; omega)
    obtain ⟨K9, h9⟩ := zgs m (by have := HPr.out.sm; omega)
    rw [hst] at h1 h2
    have KK := za.mk (And.intro h1 (And.intro (h2 K2 (Nat.le_refl _)) (And.intro (h7 K7 (Nat.le_refl _)) (And.intro (h8 K8 (Nat.le_refl _)) (h9 K9 (Nat.le_refl _))))))
    clear h1 h2 h7 h8 h9 hst hsl
    have FO := za.mk (And.intro HF.out.1 HF.out.2.1)
    have FB := za.mk HF.out.2.2
    clear HF
    have hn13 := HNu.out
    go_wp2_with fail
    refine (zbJ.calls Ao co p Bo eo m num2 so se wc FO.out.1 FO.out.2 FB.out.1 FB.out.2 KK.out.1).mono ?_
    rintro e wx1 ⟨v14, rfl, hR, hb⟩
    obtain ⟨A14, c14, rfl, _, _⟩ := Kd.zan hR
    have F14 := za.mk (zaS hR)
    clear hR hn13
    replace FO := za.mk (zba FO.out hb)
    replace FB := za.mk (zba FB.out hb)
    replace HNu := za.mk ((hb.cell (World.block_lt_of_cell? _ _ HNu.out)).trans HNu.out)
    replace HPr := za.mk (HPr.out.below hb)
    replace HW := za.mk (zo HW.out hb)
    clear hb
    go_wp2_with fail
    refine zaz (fun W' => W'.cell? ⟨b9, i, none⟩ = some (.slice A p.length c) ∧ W'.cell? ⟨b10, i, none⟩ = some (.slice B m.length d) ∧ W'.cell? ⟨b13, i, none⟩ = some (.int .i64 num2)) [] (by kernel_rfl) ?_
    have hb := zf (Below.refl wx1.heap.size wx1)
    replace FO := za.mk (zba FO.out hb)
    replace FB := za.mk (zba FB.out hb)
    replace F14 := za.mk (zba F14.out hb)
    replace HNu := za.mk ((hb.cell (World.block_lt_of_cell? _ _ HNu.out)).trans HNu.out)
    replace HPr := za.mk (HPr.out.below hb)
    replace HW := za.mk (zo HW.out hb)
    clear hb
    obtain ⟨wy1, hwd⟩ : ∃ W, wx1.drew = W := ⟨_, rfl⟩
    rw [hwd] at HW HPr HNu FO FB F14 ⊢
    clear hwd
    have HS : wy1.cell? ⟨b9, i, none⟩ = some (.slice A p.length c) ∧ wy1.cell? ⟨b10, i, none⟩ = some (.slice B m.length d) ∧ wy1.cell? ⟨b13, i, none⟩ = some (.int .i64 num2) := ⟨HPr.out.c9, HPr.out.c10, HNu.out⟩
    refine tk 0 ?_
    (try simp only [pu0, pu1, pu2, pu3, pu4])
    refine tk 1 ?_
    (try simp only [pu0, pu1, pu2, pu3, pu4])
    refine tk 2 ?_
    (try simp only [pu0, pu1, pu2, pu3, pu4])
    refine tk 3 ?_
    (try simp only [pu0, pu1, pu2, pu3, pu4])
    refine tk 4 ?_
    (try simp only [pu0, pu1, pu2, pu3, pu4])
    refine tk 5 ?_
    (try simp only [pu0, pu1, pu2, pu3, pu4])
    refine tk 6 ?_
    (try simp only [pu0, pu1, pu2, pu3, pu4])
    refine tk 7 ?_
    (try simp only [pu0, pu1, pu2, pu3, pu4])
    refine tk 8 ?_
    (try simp only [pu0, pu1, pu2, pu3, pu4])
    refine tk 9 ?_
    (try simp only [pu0, pu1, pu2, pu3, pu4])
    refine tk 10 ?_
    (try simp only [pu0, pu1, pu2, pu3, pu4])
    refine tk 11 ?_
    (try simp only [pu0, pu1, pu2, pu3, pu4])
    refine on1 12 fun K hK => ?_
    clear HS
    refine zbh Try.func30 (by kernel_rfl) rfl #[.slice A p.length c, .slice B m.length d, .int .i64 num2] (by rfl) rfl rfl (by simp only [List.map_toArray, List.map_cons, List.map_nil]; rfl) ?_
    refine (zbF.calls K2 A c p B d m num2 so se wy1 HPr.out.rp HPr.out.hp HPr.out.rm HPr.out.hm KK.out.2.1).mono ?_
    rintro e wx2 ⟨v16, rfl, hR, hb⟩
    refine ⟨_, rfl, ?_⟩
    obtain ⟨A16, c16, rfl, _, _⟩ := Kd.zan hR
    have F16 := za.mk (zaS hR)
    clear hR
    replace FO := za.mk (zba FO.out hb)
    replace FB := za.mk (zba FB.out hb)
    replace F14 := za.mk (zba F14.out hb)
    replace HNu := za.mk ((hb.cell (World.block_lt_of_cell? _ _ HNu.out)).trans HNu.out)
    replace HPr := za.mk (HPr.out.below hb)
    replace HW := za.mk (zo HW.out hb)
    clear hb
    have HS : wx2.cell? ⟨b9, i, none⟩ = some (.slice A p.length c) ∧ wx2.cell? ⟨b10, i, none⟩ = some (.slice B m.length d) ∧ wx2.cell? ⟨b13, i, none⟩ = some (.int .i64 num2) := ⟨HPr.out.c9, HPr.out.c10, HNu.out⟩
    refine hK.out _ _ (fun _ => HS) ?_
    clear hK K
    (try simp only [pu0, pu1, pu2, pu3, pu4])
    refine tk 13 ?_
    (try simp only [pu0, pu1, pu2, pu3, pu4])
    refine tk 14 ?_
    (try simp only [pu0, pu1, pu2, pu3, pu4])
    refine tk 15 ?_
    (try simp only [pu0, pu1, pu2, pu3, pu4])
    refine tk 16 ?_
    (try simp only [pu0, pu1, pu2, pu3, pu4])
    refine tk 17 ?_
    (try simp only [pu0, pu1, pu2, pu3, pu4])
    refine zal (by kernel_rfl) ?_ _
    clear HS
    go_wp2_with fail
    refine (zam.calls K7 A14 c14 so A16 c16 so true wx2 F14.out.1 F14.out.2 F16.out.1 F16.out.2 KK.out.2.2.1).mono ?_
    rintro e wx3 ⟨rfl, hd⟩
    have hb := zcG hd
    clear hd
    replace FO := za.mk (zba FO.out hb)
    replace FB := za.mk (zba FB.out hb)
    replace F14 := za.mk (zba F14.out hb)
    replace F16 := za.mk (zba F16.out hb)
    replace HNu := za.mk ((hb.cell (World.block_lt_of_cell? _ _ HNu.out)).trans HNu.out)
    replace HPr := za.mk (HPr.out.below hb)
    replace HW := za.mk (zo HW.out hb)
    clear hb
    have hc9 := HPr.out.c9
    go_wp2_with fail
    refine (zae.calls K8 Ao co p A c p true wx3 FO.out.1 FO.out.2 HPr.out.rp HPr.out.hp KK.out.2.2.2.1).mono ?_
    rintro e wx4 ⟨rfl, hd⟩
    have hb := zcG hd
    clear hd hc9
    replace FO := za.mk (zba FO.out hb)
    replace FB := za.mk (zba FB.out hb)
    replace F14 := za.mk (zba F14.out hb)
    replace F16 := za.mk (zba F16.out hb)
    replace HNu := za.mk ((hb.cell (World.block_lt_of_cell? _ _ HNu.out)).trans HNu.out)
    replace HPr := za.mk (HPr.out.below hb)
    replace HW := za.mk (zo HW.out hb)
    clear hb
    have hc10 := HPr.out.c10
    go_wp2_with fail
    refine (zaq.calls K9 Bo eo m B d m true wx4 FB.out.1 FB.out.2 HPr.out.rm HPr.out.hm KK.out.2.2.2.2).mono ?_
    rintro e wx5 ⟨rfl, hd⟩
    have hb := zcG hd
    clear hd hc10
    replace FO := za.mk (zba FO.out hb)
    replace FB := za.mk (zba FB.out hb)
    replace F14 := za.mk (zba F14.out hb)
    replace F16 := za.mk (zba F16.out hb)
    replace HNu := za.mk ((hb.cell (World.block_lt_of_cell? _ _ HNu.out)).trans HNu.out)
    replace HPr := za.mk (HPr.out.below hb)
    replace HW := za.mk (zo HW.out hb)
    clear hb
    have HBn := za.mk (zo HBr.out HW.out)
    go_wp2_with fail
    go_roundw
    case rel => exact ⟨i + 1, by omega, by go_num, HBn⟩
    case measure => simp [intOf]; omega
  ·obtain rfl : i = 3 := by omega
   go_wp2_with fail
   refine (zcR wr).mono ?_
   rintro e wz ⟨rfl, hb⟩
   replace HB := za.mk (zo (zo HB.out HBr.out) hb)
   clear hb
   go_wp2_with fail
   go_ret
   exact ⟨rfl, HB.out⟩
end Go.Proofs.Ytgmbbfmbimofoaa.P
