-- MERGED BY A PROGRAM out of texts of this claim: hand work, and what a (turned) print of the kit has written for it
import Derived.IntWalk
import Derived.Outline
import Derived.Deep.DeepCutAuto
import Derived.Deep.CutBlock
import Derived.Test.YtgmbbfmbimofoaaMf23
import Derived.Test.YtgmbbfmbimofoaaMf22
import Derived.Test.YtgmbbfmbimofoaaMf25
import Derived.Test.YtgmbbfmbimofoaaMf10
import Derived.Test.YtgmbbfmbimofoaaMf5
import Derived.Test.YtgmbbfmbimofoaaMf6
import Derived.Test.YtgmbbfmbimofoaaMf7
import Derived.Test.YtgmbbfmbimofoaaMf21
namespace Go.Proofs.Ytgmbbfmbimofoaa.P
open Go.RowKit Go.Proofs.YtgmbbfmbimofoaaW.PrintWords Go.Proofs.YtgmbbfmbimofoaaW.PrintLast Go.Proofs.YtgmbbfmbimofoaaW.PrintMore
attribute [local go_sem] zJ zM zR zQ zI zH zK zN
set_option linter.unusedVariables false
set_option linter.unusedSimpArgs false
theorem zcq {w w' : World} (h : zw w w') : Below w.heap.size w w' := by
 obtain ⟨n, rfl⟩ := h
 exact zb (Below.refl _ _) n
theorem zas {α : Type} {d : Kd α} {w w' : World} {A : Option Addr} {n c : Nat} {xs : List α} (h : d.C w A n xs ∧ n ≤ c) (hb : Below w.heap.size w w') : d.C w' A n xs ∧ n ≤ c := ⟨Kd.zV h.1 hb, h.2⟩
theorem zgI (p : List ByteArray) (ms : List S63) : (zdu p ms).1.length ≤ 6 := by
 unfold zdu
 split
 ·split
  ·simp
  ·dsimp only; omega
 ·simp
structure zgz (W : World) (b9 b10 : Nat) (i : Nat) (p : List ByteArray) (A : Option Addr) (c : Nat) (m : List S63) (B : Option Addr) (d : Nat) : Prop where
 c9 : W.cell? ⟨b9, i, none⟩ = some (.slice A p.length c)
 c10 : W.cell? ⟨b10, i, none⟩ = some (.slice B m.length d)
 rp : Kd.string.C W A p.length p
 hp : p.length ≤ c
 rm : k63.C W B m.length m
 hm : m.length ≤ d
 sp : p.length ≤ 20
 sm : m.length ≤ 20
theorem zgz.below {W W' : World} {b9 b10 i : Nat} {p : List ByteArray} {A : Option Addr} {c : Nat} {m : List S63} {B : Option Addr} {d : Nat} (h : zgz W b9 b10 i p A c m B d) (hb : Below W.heap.size W W') : zgz W' b9 b10 i p A c m B d :=
 ⟨(hb.cell (World.block_lt_of_cell? W _ h.c9)).trans h.c9, (hb.cell (World.block_lt_of_cell? W _ h.c10)).trans h.c10, Kd.zV h.rp hb, h.hp, Kd.zV h.rm hb, h.hm, h.sp, h.sm⟩
set_option maxHeartbeats 16000000 in
set_option maxRecDepth 100000 in
theorem zf6 (A0 : Option Addr) (c0 : Nat) (pg : List ByteArray) (A1 : Option Addr) (c1 : Nat) (ms : List S63) (A2 : Option Addr) (c2 : Nat) (l0 : List Int) (w : World) (hr0 : Kd.C Kd.string w A0 pg.length pg) (hc0 : pg.length ≤ c0) (hr1 : Kd.C k63 w A1 ms.length ms) (hc1 : ms.length ≤ c1)
  (hr2 : Kd.C (Kd.int .i64) w A2 l0.length l0) (hc2 : l0.length ≤ c2) (hl : l0.length ≤ 17592186044416) :
  Calls Try.prog 9 #[.slice A0 pg.length c0, .slice A1 ms.length c1, .slice A2 l0.length c2] w fun e w' => e = .returned (.bool true) ∧ Below w.heap.size w w' := by
 obtain ⟨bl, ⟨KL, hKL⟩, hbl⟩ := zic pg (zgr hr0)
 obtain ⟨bm, ⟨KM, hKM⟩, hbm⟩ := zh0 ms (zgr hr1)
 obtain ⟨pm, t1, t2, p1, p2, p3, p4⟩ := zia l0 0 11400714819323198485 (Int.le_refl _) hl 6 (by decide) 200 (by decide)
 obtain ⟨mq, u1, u2, ⟨KQ, q1⟩, q2, q3, q4⟩ := zhg l0 hl t1 t2 p4 pm.length 12 (by omega) (by omega)
 have K := za.mk (And.intro (hKL KL (Nat.le_refl _)) (And.intro (hKM KM (Nat.le_refl _)) (And.intro p1 (q1 KQ (Nat.le_refl _)))))
 have HR := za.mk (And.intro hr0 (And.intro hc0 (And.intro hr1 (And.intro hc1 (And.intro hr2 hc2)))))
 have S := za.mk (And.intro hbl (And.intro hbm (And.intro p2 q2)))
 clear hKL hKM p1 p2 p3 p4 q1 q2 q3 q4 hr0 hc0 hr1 hc1 hr2 hc2 hl hbl hbm
 have HB := za.mk (Below.refl w.heap.size w)
 go_enter Try.func9, Try.ntmps9
 go_wp2_with fail
 refine (zaE.calls KL A0 c0 pg bl w HR.out.1 HR.out.2.1 K.out.1).mono ?_
 rintro e w1 ⟨rfl, hd⟩
 replace HB := za.mk (zq HB.out (zcq hd))
 clear hd
 cases bl with
 | true =>
  go_wp2_with fail
  refine (zcL w1).mono ?_
  rintro e w2 ⟨rfl, hb⟩
  replace HB := za.mk (zq HB.out hb)
  clear hb
  go_wp2_with fail
  go_ret
  exact ⟨rfl, HB.out⟩
 | false =>
 have S1 := za.mk (S.out.1 rfl)
 have S2 := za.mk S.out.2
 clear S
 go_wp2_with fail
 refine (zaD.calls KM A1 c1 ms bm w1 (Kd.zV HR.out.2.2.1 HB.out) HR.out.2.2.2.1 K.out.2.1).mono ?_
 rintro e w2 ⟨rfl, hd⟩
 replace HB := za.mk (zq HB.out (zcq hd))
 clear hd
 cases bm with
 | true =>
  go_wp2_with fail
  refine (zcL w2).mono ?_
  rintro e w3 ⟨rfl, hb⟩
  replace HB := za.mk (zq HB.out hb)
  clear hb
  go_wp2_with fail
  go_ret
  exact ⟨rfl, HB.out⟩
 | false =>
 have S := za.mk (And.intro S1.out (And.intro (S2.out.1 rfl) S2.out.2))
 clear S1 S2
 go_wp2_with fail
 refine (zce.calls _ _ l0 l0 0 11400714819323198485 w _ HB.out HR.out.2.2.2.2.1 HR.out.2.2.2.2.2 rfl).mono ?_
 rintro e w3 ⟨g, rfl, hI, hB, _⟩
 have HI := za.mk hI
 replace HB := za.mk hB
 clear hI hB
 go_wp2_with fail
 refine (zaq.calls 200 g l0 0 11400714819323198485 6 pm t1 t2 w w3 HI.out HB.out K.out.2.2.1).mono ?_
 rintro e w4 ⟨v, rfl, hR, hI, hB, hk⟩
 obtain ⟨Am, cm, rfl, hc, hF⟩ := zgW hR HI.out.lt
 have Fm := za.mk hF
 have Cm := za.mk hc
 replace HI := za.mk hI
 replace HB := za.mk hB
 clear hF hc hI hB hk hR
 go_wp2_with fail
 have hbx := ze (Below.refl w4.heap.size w4) (.cells #[.slice A0 pg.length c0, .slice Am pm.length cm, .slice Am pm.length cm] 22)
 have X9 := za.mk (heap_alloc_new w4 (.cells #[.slice A0 pg.length c0, .slice Am pm.length cm, .slice Am pm.length cm] 22))
 have G9 := za.mk HI.out.lt
 replace HI := za.mk (HI.out.below hbx)
 replace HB := za.mk (zq HB.out hbx)
 replace Fm := za.mk (zdD Fm.out (zdc hbx g))
 obtain ⟨b9, hb9⟩ : ∃ b, w4.heap.size = b := ⟨_, rfl⟩
 obtain ⟨w5, hw5⟩ : ∃ u_, w4.alloc (.cells #[.slice A0 pg.length c0, .slice Am pm.length cm, .slice Am pm.length cm] 22) = u_ := ⟨_, rfl⟩
 rw [hw5] at X9 HI HB Fm ⊢
 rw [hb9] at X9 G9 ⊢
 clear hw5 hb9 hbx
 refine (zx.calls KQ g l0 t1 t2 pm.length 12 mq u1 u2 w w5 HI.out HB.out K.out.2.2.2).mono ?_
 rintro e w6 ⟨v, rfl, hR, hI, hB, hk⟩
 obtain ⟨Aq, cq, rfl, hc, hF⟩ := zgW hR HI.out.lt
 replace Fm := za.mk (zdD Fm.out hk)
 have Fq := za.mk hF
 have Cq := za.mk hc
 have X9' := za.mk ((hk.2 b9 (zT X9.out) (by have := G9.out; omega) (by simp)).trans X9.out)
 clear X9
 have X9 := X9'
 clear X9'
 replace HI := za.mk hI
 replace HB := za.mk hB
 clear hF hc hI hB hk hR
 go_wp2_with fail
 have hbx := ze (Below.refl w6.heap.size w6) (.cells #[.slice A1 ms.length c1, .slice Aq mq.length cq, .slice A1 ms.length c1] 31)
 have X10 := za.mk (heap_alloc_new w6 (.cells #[.slice A1 ms.length c1, .slice Aq mq.length cq, .slice A1 ms.length c1] 31))
 replace X9 := za.mk (zF X9.out hbx)
 replace HB := za.mk (zq HB.out hbx)
 replace Fm := za.mk (zdD Fm.out (zdc hbx g))
 replace Fq := za.mk (zdD Fq.out (zdc hbx g))
 obtain ⟨b10, hb10⟩ : ∃ b, w6.heap.size = b := ⟨_, rfl⟩
 obtain ⟨w7, hw7⟩ : ∃ u_, w6.alloc (.cells #[.slice A1 ms.length c1, .slice Aq mq.length cq, .slice A1 ms.length c1] 31) = u_ := ⟨_, rfl⟩
 rw [hw7] at X9 X10 HB Fm Fq ⊢
 rw [hb10] at X10 ⊢
 clear hw7 hb10 hbx HI G9
 have HE : za (∀ i : Nat, i < 3 → ∃ p A c m B d, zgz w7 b9 b10 i p A c m B d) := ⟨fun i hi => by
  have z9 := fun k => zh X9.out k
  have z10 := fun k => zh X10.out k
  match i, hi with
  | 0, _ => exact ⟨pg, A0, c0, ms, A1, c1, z9 0, z10 0, Kd.zV HR.out.1 HB.out, HR.out.2.1, Kd.zV HR.out.2.2.1 HB.out, HR.out.2.2.2.1, S.out.1, S.out.2.1⟩
  | 1, _ => exact ⟨pm, Am, cm, mq, Aq, cq, z9 1, z10 1, zeD Fm.out, Cm.out, zeD Fq.out, Cq.out, by have := S.out.2.2.1; omega, by have := S.out.2.2.2; omega⟩
  | 2, _ => exact ⟨pm, Am, cm, ms, A1, c1, z9 2, z10 2, zeD Fm.out, Cm.out, Kd.zV HR.out.2.2.1 HB.out, HR.out.2.2.2.1, by have := S.out.2.2.1; omega, S.out.2.1⟩⟩
 clear X9 X10 Fm Fq Cm Cq S K
 go_loopw [11] (fun v11 W => ∃ i : Nat, i ≤ 3 ∧ v11 = .int .i64 i ∧ za (Below w7.heap.size w7 W)) (fun v11 _ => 3 - (intOf v11).toNat)
 case atStart => exact ⟨0, by omega, rfl, ⟨Below.refl _ _⟩⟩
 case round =>
  obtain ⟨i, hi3, rfl, HBr⟩ := hrel
  by_cases hlt : i < 3
  ·have d1 : decide ((i : Int) < 3) = true := decide_eq_true (by omega)
   have d2 : decide (i < 3) = true := decide_eq_true hlt
   have d3 : ((i : Int) < 3) = True := eq_true (by omega)
   obtain ⟨p, A, c, m, B, d, hpair⟩ := HE.out i hlt
   have HPr := za.mk (hpair.below HBr.out)
   clear hpair
   go_upto_region 9 with fail
   go_cut [12, 13] (fun v12 v13 wc => ∃ (Ao : Option Addr) (co : Nat) (Bo : Option Addr) (eo : Nat), v12 = .slice Ao p.length co ∧ v13 = .slice Bo m.length eo ∧ za (Below wr.heap.size wr wc) ∧ za (Kd.string.C wc Ao p.length p ∧ p.length ≤ co ∧ k63.C wc Bo m.length m ∧ m.length ≤ eo))
   case first =>
    refine zaz (fun W' => W'.cell? ⟨b9, i, none⟩ = some (.slice A p.length c) ∧ W'.cell? ⟨b10, i, none⟩ = some (.slice B m.length d)) [] (by kernel_rfl) ?_
    have HW := za.mk (zf (Below.refl wr.heap.size wr))
    have HPr0 := HPr
    replace HPr := za.mk (HPr.out.below HW.out)
    obtain ⟨wd, hwd⟩ : ∃ W, wr.drew = W := ⟨_, rfl⟩
    rw [hwd] at HW HPr ⊢
    clear hwd
    have HS : wd.cell? ⟨b9, i, none⟩ = some (.slice A p.length c) ∧ wd.cell? ⟨b10, i, none⟩ = some (.slice B m.length d) := ⟨HPr.out.c9, HPr.out.c10⟩
    refine tk 0 ?_
    (try simp only [pu0, pu1, pu2, pu3, pu4])
    refine tk 1 ?_
    (try simp only [pu0, pu1, pu2, pu3, pu4])
    refine tk 2 ?_
    (try simp only [pu0, pu1, pu2, pu3, pu4])
    refine tk 3 ?_
    (try simp only [pu0, pu1, pu2, pu3, pu4])
    refine tk 6 ?_
    (try simp only [pu0, pu1, pu2, pu3, pu4])
    refine tk 7 ?_
    (try simp only [pu0, pu1, pu2, pu3, pu4])
    refine tk 8 ?_
    (try simp only [pu0, pu1, pu2, pu3, pu4])
    refine tk 9 ?_
    (try simp only [pu0, pu1, pu2, pu3, pu4])
    refine on2 4 5 (fun K hK => ?_) (fun K hK => ?_)
    ·skip
     clear HS
     refine zbl Try.func21 (by kernel_rfl) rfl #[.slice A p.length c] (by rfl) rfl rfl (by simp only [List.map_toArray, List.map_cons, List.map_nil]; rfl) ?_
     refine (zbh.calls A c p p wd HPr.out.rp HPr.out.hp (zg4 p (by have := HPr.out.sp; omega))).mono ?_
     rintro e wa ⟨v12, rfl, hRa, hba⟩
     refine ⟨_, rfl, ?_⟩
     have R12 := za.mk hRa
     replace HW := za.mk (zq HW.out hba)
     replace HPr := za.mk (HPr.out.below hba)
     have HS : wa.cell? ⟨b9, i, none⟩ = some (.slice A p.length c) ∧ wa.cell? ⟨b10, i, none⟩ = some (.slice B m.length d) := ⟨HPr.out.c9, HPr.out.c10⟩
     clear hRa hba
     refine hK.out _ _ (fun _ => HS) ?_
     clear hK K
     (try simp only [pu0, pu1, pu2, pu3, pu4])
     refine on1 5 fun K hK => ?_
     clear HS
     refine Kd.zb6 k63 (w0 := wa) _ 63 ?hg (N := 55) ?hd (xs := ([] : List S63)) (inner := []) (ok := fun _ => True) (okp := fun _ => True) ?hr ?hp (fun _ hk => hk) trivial (Below.refl _ _) (Nat.le_refl _) (by simp) ?_
     case hd => rfl
     case hg => rfl
     case hr => first | (go_simp; done) | (go_simp; rfl)
     case hp => exact (zaf.none _ _)
     intro v55 wl hRl hbl hgl hnl
     have R55 := za.mk (Kd.zaY hRl HW.out.size)
     replace HW := za.mk (zq HW.out hbl)
     replace HPr := za.mk (HPr.out.below hbl)
     replace R12 := za.mk (Kd.zO R12.out hbl)
     have HS : wl.cell? ⟨b9, i, none⟩ = some (.slice A p.length c) ∧ wl.cell? ⟨b10, i, none⟩ = some (.slice B m.length d) := ⟨HPr.out.c9, HPr.out.c10⟩
     clear hRl hgl hnl
     refine hK.out _ _ (fun _ => HS) ?_
     clear hK K
     (try simp only [pu0, pu1, pu2, pu3, pu4])
     refine on1 10 fun K hK => ?_
     clear HS
     refine Kd.za3 k63 (w0 := wr) wr.heap.size (by rfl) _ _ 31 63 _ 32 (by rfl) Try.underlying31 zcy rfl (by decide) (by decide) v55 [] m B m.length _ (fun _ => True) (fun _ => False) (by rfl) (by rfl) R55.out HPr.out.rm (fun x cs h => by rw [zeC h]; exact zcb _ _ _ x) (fun _ h => h.elim) (fun _ _ => trivial) HW.out HW.out.size (by have := HPr.out.sm; simp; omega) ?_
     intro v13 wz hRz hbz hgz hatz
     have R12z := Kd.zgd (Kd.zfB R12.out R55.out (by decide)) hgz (fun _ h => h.2)
     obtain ⟨Ao, co, rfl, hco, _⟩ := Kd.zay R12z
     obtain ⟨Bo, eo, rfl, heo, _⟩ := Kd.zay hRz
     have HF := za.mk (And.intro (zaZ R12z).1 (And.intro (zaZ R12z).2 (And.intro (zaZ hRz).1 (zaZ hRz).2)))
     replace HW := za.mk hbz
     replace HPr := za.mk (HPr0.out.below hbz)
     clear R12z hco heo hRz hbz hgz hatz R12 R55
     have HS : wz.cell? ⟨b9, i, none⟩ = some (.slice A p.length c) ∧ wz.cell? ⟨b10, i, none⟩ = some (.slice B m.length d) := ⟨HPr.out.c9, HPr.out.c10⟩
     refine hK.out _ _ (fun _ => HS) ?_
     clear hK K
     (try simp only [pu0, pu1, pu2, pu3, pu4])
     refine tk 11 ?_
     (try simp only [pu0, pu1, pu2, pu3, pu4])
     refine tk 12 ?_
     (try simp only [pu0, pu1, pu2, pu3, pu4])
     refine zam (by kernel_rfl) ?_ _
     go_wp2_with fail
     go_meet
     case rel => exact ⟨Ao, co, Bo, eo, rfl, rfl, HW, HF⟩
    ·skip
     clear HS
     refine Kd.zb6 k63 (w0 := wd) _ 63 ?hg (N := 55) ?hd (xs := ([] : List S63)) (inner := []) (ok := fun _ => True) (okp := fun _ => True) ?hr ?hp (fun _ hk => hk) trivial (Below.refl _ _) (Nat.le_refl _) (by simp) ?_
     case hd => rfl
     case hg => rfl
     case hr => first | (go_simp; done) | (go_simp; rfl)
     case hp => exact (zaf.none _ _)
     intro v55 wl hRl hbl hgl hnl
     have R55 := za.mk (Kd.zaY hRl HW.out.size)
     replace HW := za.mk (zq HW.out hbl)
     replace HPr := za.mk (HPr.out.below hbl)
     have HS : wl.cell? ⟨b9, i, none⟩ = some (.slice A p.length c) ∧ wl.cell? ⟨b10, i, none⟩ = some (.slice B m.length d) := ⟨HPr.out.c9, HPr.out.c10⟩
     clear hRl hbl hgl hnl
     refine hK.out _ _ (fun _ => HS) ?_
     clear hK K
     (try simp only [pu0, pu1, pu2, pu3, pu4])
     refine on1 4 fun K hK => ?_
     clear HS
     refine zbl Try.func21 (by kernel_rfl) rfl #[.slice A p.length c] (by rfl) rfl rfl (by simp only [List.map_toArray, List.map_cons, List.map_nil]; rfl) ?_
     refine (zbh.calls A c p p wl HPr.out.rp HPr.out.hp (zg4 p (by have := HPr.out.sp; omega))).mono ?_
     rintro e wa ⟨v12, rfl, hRa, hba⟩
     refine ⟨_, rfl, ?_⟩
     have R12 := za.mk hRa
     replace HW := za.mk (zq HW.out hba)
     replace HPr := za.mk (HPr.out.below hba)
     replace R55 := za.mk (Kd.zO R55.out hba)
     have HS : wa.cell? ⟨b9, i, none⟩ = some (.slice A p.length c) ∧ wa.cell? ⟨b10, i, none⟩ = some (.slice B m.length d) := ⟨HPr.out.c9, HPr.out.c10⟩
     clear hRa hba
     refine hK.out _ _ (fun _ => HS) ?_
     clear hK K
     (try simp only [pu0, pu1, pu2, pu3, pu4])
     refine on1 10 fun K hK => ?_
     clear HS
     refine Kd.za3 k63 (w0 := wr) wr.heap.size (by rfl) _ _ 31 63 _ 32 (by rfl) Try.underlying31 zcy rfl (by decide) (by decide) v55 [] m B m.length _ (fun _ => True) (fun _ => False) (by rfl) (by rfl) R55.out HPr.out.rm (fun x cs h => by rw [zeC h]; exact zcb _ _ _ x) (fun _ h => h.elim) (fun _ _ => trivial) HW.out HW.out.size (by have := HPr.out.sm; simp; omega) ?_
     intro v13 wz hRz hbz hgz hatz
     have R12z := Kd.zgd (Kd.zfB R12.out R55.out (by decide)) hgz (fun _ h => h.2)
     obtain ⟨Ao, co, rfl, hco, _⟩ := Kd.zay R12z
     obtain ⟨Bo, eo, rfl, heo, _⟩ := Kd.zay hRz
     have HF := za.mk (And.intro (zaZ R12z).1 (And.intro (zaZ R12z).2 (And.intro (zaZ hRz).1 (zaZ hRz).2)))
     replace HW := za.mk hbz
     replace HPr := za.mk (HPr0.out.below hbz)
     clear R12z hco heo hRz hbz hgz hatz R12 R55
     have HS : wz.cell? ⟨b9, i, none⟩ = some (.slice A p.length c) ∧ wz.cell? ⟨b10, i, none⟩ = some (.slice B m.length d) := ⟨HPr.out.c9, HPr.out.c10⟩
     refine hK.out _ _ (fun _ => HS) ?_
     clear hK K
     (try simp only [pu0, pu1, pu2, pu3, pu4])
     refine tk 11 ?_
     (try simp only [pu0, pu1, pu2, pu3, pu4])
     refine tk 12 ?_
     (try simp only [pu0, pu1, pu2, pu3, pu4])
     refine zam (by kernel_rfl) ?_ _
     go_wp2_with fail
     go_meet
     case rel => exact ⟨Ao, co, Bo, eo, rfl, rfl, HW, HF⟩
   case rest =>
    obtain ⟨Ao, co, Bo, eo, rfl, rfl, HW, HF⟩ := hcut
    replace HPr := za.mk (HPr.out.below HW.out)
    obtain ⟨⟨ra, re⟩, hap⟩ : ∃ x, zdu p m = x := ⟨_, rfl⟩
    obtain ⟨⟨cn, ce⟩, hco⟩ : ∃ x, zeN p m = x := ⟨_, rfl⟩
    obtain ⟨ch, hch⟩ : ∃ x, zbO p = x := ⟨_, rfl⟩
    have hral : ra.length ≤ 6 := by have := zgI p m; rw [hap] at this; exact this
    obtain ⟨K1, h1⟩ := zhi p m
    obtain ⟨K2, h2⟩ := zf5 p m
    obtain ⟨K3, h3⟩ := zhp p m
    obtain ⟨K4, h4⟩ := zgK p m
    obtain ⟨K5, h5⟩ := zhz p
    obtain ⟨K6, h6⟩ := zez p
    obtain ⟨K7, h7⟩ := zfP ra (by omega)
    obtain ⟨K8, h8⟩ := zfP p (by have := HPr.out.sp; omega)
    obtain ⟨K9, h9⟩ := zgq m (by have := HPr.out.sm; omega)
    rw [hap] at h1 h2
    rw [hco] at h3 h4
    rw [hch] at h5 h6
    have KK := za.mk (And.intro (h1 K1 (Nat.le_refl _)) (And.intro (h2 K2 (Nat.le_refl _)) (And.intro (h3 K3 (Nat.le_refl _)) (And.intro (h4 K4 (Nat.le_refl _)) (And.intro (h5 K5 (Nat.le_refl _)) (And.intro (h6 K6 (Nat.le_refl _)) (And.intro (h7 K7 (Nat.le_refl _)) (And.intro (h8 K8 (Nat.le_refl _)) (h9 K9 (Nat.le_refl _))))))))))
    clear h1 h2 h3 h4 h5 h6 h7 h8 h9 hap hco hch hral
    have FO := za.mk (And.intro HF.out.1 HF.out.2.1)
    have FB := za.mk HF.out.2.2
    clear HF
    go_wp2_with fail
    refine (zbR.calls K1 Ao co p Bo eo m ra re wc FO.out.1 FO.out.2 FB.out.1 FB.out.2 KK.out.1).mono ?_
    rintro e wx1 ⟨v14, rfl, hR, hb⟩
    obtain ⟨A14, c14, rfl, _, _⟩ := Kd.zay hR
    have F14 := za.mk (zaZ hR)
    clear hR
    replace FO := za.mk (zas FO.out hb)
    replace FB := za.mk (zas FB.out hb)
    replace HPr := za.mk (HPr.out.below hb)
    replace HW := za.mk (zq HW.out hb)
    clear hb
    go_wp2_with fail
    refine zaz (fun W' => W'.cell? ⟨b9, i, none⟩ = some (.slice A p.length c) ∧ W'.cell? ⟨b10, i, none⟩ = some (.slice B m.length d)) [] (by kernel_rfl) ?_
    have hb := zf (Below.refl wx1.heap.size wx1)
    replace FO := za.mk (zas FO.out hb)
    replace FB := za.mk (zas FB.out hb)
    replace F14 := za.mk (zas F14.out hb)
    replace HPr := za.mk (HPr.out.below hb)
    replace HW := za.mk (zq HW.out hb)
    clear hb
    obtain ⟨wy1, hwd⟩ : ∃ W, wx1.drew = W := ⟨_, rfl⟩
    rw [hwd] at HW HPr FO FB F14 ⊢
    clear hwd
    have HS : wy1.cell? ⟨b9, i, none⟩ = some (.slice A p.length c) ∧ wy1.cell? ⟨b10, i, none⟩ = some (.slice B m.length d) := ⟨HPr.out.c9, HPr.out.c10⟩
    refine tk 0 ?_
    (try simp only [pu0, pu1, pu2, pu3, pu4])
    refine tk 1 ?_
    (try simp only [pu0, pu1, pu2, pu3, pu4])
    refine tk 2 ?_
    (try simp only [pu0, pu1, pu2, pu3, pu4])
    refine tk 3 ?_
    (try simp only [pu0, pu1, pu2, pu3, pu4])
    refine tk 4 ?_
    (try simp only [pu0, pu1, pu2, pu3, pu4])
    refine tk 5 ?_
    (try simp only [pu0, pu1, pu2, pu3, pu4])
    refine tk 6 ?_
    (try simp only [pu0, pu1, pu2, pu3, pu4])
    refine tk 7 ?_
    (try simp only [pu0, pu1, pu2, pu3, pu4])
    refine on1 8 fun K hK => ?_
    clear HS
    refine zbl Try.func34 (by kernel_rfl) rfl #[.slice A p.length c, .slice B m.length d] (by rfl) rfl rfl (by simp only [List.map_toArray, List.map_cons, List.map_nil]; rfl) ?_
    refine (zbK.calls K2 A c p B d m ra re wy1 HPr.out.rp HPr.out.hp HPr.out.rm HPr.out.hm KK.out.2.1).mono ?_
    rintro e wx2 ⟨v16, rfl, hR, hb⟩
    refine ⟨_, rfl, ?_⟩
    obtain ⟨A16, c16, rfl, _, _⟩ := Kd.zay hR
    have F16 := za.mk (zaZ hR)
    clear hR
    replace FO := za.mk (zas FO.out hb)
    replace FB := za.mk (zas FB.out hb)
    replace F14 := za.mk (zas F14.out hb)
    replace HPr := za.mk (HPr.out.below hb)
    replace HW := za.mk (zq HW.out hb)
    clear hb
    have HS : wx2.cell? ⟨b9, i, none⟩ = some (.slice A p.length c) ∧ wx2.cell? ⟨b10, i, none⟩ = some (.slice B m.length d) := ⟨HPr.out.c9, HPr.out.c10⟩
    refine hK.out _ _ (fun _ => HS) ?_
    clear hK K
    (try simp only [pu0, pu1, pu2, pu3, pu4])
    refine tk 9 ?_
    (try simp only [pu0, pu1, pu2, pu3, pu4])
    refine tk 10 ?_
    (try simp only [pu0, pu1, pu2, pu3, pu4])
    refine tk 11 ?_
    (try simp only [pu0, pu1, pu2, pu3, pu4])
    refine tk 12 ?_
    (try simp only [pu0, pu1, pu2, pu3, pu4])
    refine tk 13 ?_
    (try simp only [pu0, pu1, pu2, pu3, pu4])
    refine zam (by kernel_rfl) ?_ _
    clear HS
    go_wp2_with fail
    refine (za1.calls K3 Ao co p Bo eo m cn ce wx2 FO.out.1 FO.out.2 FB.out.1 FB.out.2 KK.out.2.2.1).mono ?_
    rintro e wx3 ⟨rfl, hb⟩
    replace FO := za.mk (zas FO.out hb)
    replace FB := za.mk (zas FB.out hb)
    replace F14 := za.mk (zas F14.out hb)
    replace F16 := za.mk (zas F16.out hb)
    replace HPr := za.mk (HPr.out.below hb)
    replace HW := za.mk (zq HW.out hb)
    clear hb
    go_wp2_with fail
    refine zaz (fun W' => W'.cell? ⟨b9, i, none⟩ = some (.slice A p.length c) ∧ W'.cell? ⟨b10, i, none⟩ = some (.slice B m.length d)) [] (by kernel_rfl) ?_
    have hb := zf (Below.refl wx3.heap.size wx3)
    replace FO := za.mk (zas FO.out hb)
    replace FB := za.mk (zas FB.out hb)
    replace F14 := za.mk (zas F14.out hb)
    replace F16 := za.mk (zas F16.out hb)
    replace HPr := za.mk (HPr.out.below hb)
    replace HW := za.mk (zq HW.out hb)
    clear hb
    obtain ⟨wy3, hwd⟩ : ∃ W, wx3.drew = W := ⟨_, rfl⟩
    rw [hwd] at HW HPr FO FB F14 F16 ⊢
    clear hwd
    have HS : wy3.cell? ⟨b9, i, none⟩ = some (.slice A p.length c) ∧ wy3.cell? ⟨b10, i, none⟩ = some (.slice B m.length d) := ⟨HPr.out.c9, HPr.out.c10⟩
    refine tk 0 ?_
    (try simp only [pu0, pu1, pu2, pu3, pu4])
    refine tk 1 ?_
    (try simp only [pu0, pu1, pu2, pu3, pu4])
    refine tk 2 ?_
    (try simp only [pu0, pu1, pu2, pu3, pu4])
    refine tk 3 ?_
    (try simp only [pu0, pu1, pu2, pu3, pu4])
    refine tk 4 ?_
    (try simp only [pu0, pu1, pu2, pu3, pu4])
    refine tk 5 ?_
    (try simp only [pu0, pu1, pu2, pu3, pu4])
    refine tk 6 ?_
    (try simp only [pu0, pu1, pu2, pu3, pu4])
    refine tk 7 ?_
    (try simp only [pu0, pu1, pu2, pu3, pu4])
    refine on1 8 fun K hK => ?_
    clear HS
    refine zbl Try.func45 (by kernel_rfl) rfl #[.slice A p.length c, .slice B m.length d] (by rfl) rfl rfl (by simp only [List.map_toArray, List.map_cons, List.map_nil]; rfl) ?_
    refine (zbM.calls K4 A c p B d m cn ce wy3 HPr.out.rp HPr.out.hp HPr.out.rm HPr.out.hm KK.out.2.2.2.1).mono ?_
    rintro e wx4 ⟨rfl, hb⟩
    refine ⟨_, rfl, ?_⟩
    replace FO := za.mk (zas FO.out hb)
    replace FB := za.mk (zas FB.out hb)
    replace F14 := za.mk (zas F14.out hb)
    replace F16 := za.mk (zas F16.out hb)
    replace HPr := za.mk (HPr.out.below hb)
    replace HW := za.mk (zq HW.out hb)
    clear hb
    have HS : wx4.cell? ⟨b9, i, none⟩ = some (.slice A p.length c) ∧ wx4.cell? ⟨b10, i, none⟩ = some (.slice B m.length d) := ⟨HPr.out.c9, HPr.out.c10⟩
    refine hK.out _ _ (fun _ => HS) ?_
    clear hK K
    (try simp only [pu0, pu1, pu2, pu3, pu4])
    refine tk 9 ?_
    (try simp only [pu0, pu1, pu2, pu3, pu4])
    refine tk 10 ?_
    (try simp only [pu0, pu1, pu2, pu3, pu4])
    refine tk 11 ?_
    (try simp only [pu0, pu1, pu2, pu3, pu4])
    refine tk 12 ?_
    (try simp only [pu0, pu1, pu2, pu3, pu4])
    refine tk 13 ?_
    (try simp only [pu0, pu1, pu2, pu3, pu4])
    refine zam (by kernel_rfl) ?_ _
    clear HS
    go_wp2_with fail
    refine zaz (fun W' => W'.cell? ⟨b9, i, none⟩ = some (.slice A p.length c) ∧ W'.cell? ⟨b10, i, none⟩ = some (.slice B m.length d)) [] (by kernel_rfl) ?_
    have hb := zf (Below.refl wx4.heap.size wx4)
    replace FO := za.mk (zas FO.out hb)
    replace FB := za.mk (zas FB.out hb)
    replace F14 := za.mk (zas F14.out hb)
    replace F16 := za.mk (zas F16.out hb)
    replace HPr := za.mk (HPr.out.below hb)
    replace HW := za.mk (zq HW.out hb)
    clear hb
    obtain ⟨wy4, hwd⟩ : ∃ W, wx4.drew = W := ⟨_, rfl⟩
    rw [hwd] at HW HPr FO FB F14 F16 ⊢
    clear hwd
    have HS : wy4.cell? ⟨b9, i, none⟩ = some (.slice A p.length c) ∧ wy4.cell? ⟨b10, i, none⟩ = some (.slice B m.length d) := ⟨HPr.out.c9, HPr.out.c10⟩
    refine tk 0 ?_
    (try simp only [pu0, pu1, pu2, pu3, pu4])
    refine tk 2 ?_
    (try simp only [pu0, pu1, pu2, pu3, pu4])
    refine tk 3 ?_
    (try simp only [pu0, pu1, pu2, pu3, pu4])
    refine tk 4 ?_
    (try simp only [pu0, pu1, pu2, pu3, pu4])
    refine tk 5 ?_
    (try simp only [pu0, pu1, pu2, pu3, pu4])
    refine on1 1 fun K hK => ?_
    clear HS
    refine zbl Try.func46 (by kernel_rfl) rfl #[.slice Ao p.length co] (by rfl) rfl rfl (by simp only [List.map_toArray, List.map_cons, List.map_nil]; rfl) ?_
    refine (zac.calls K5 Ao co p ch wy4 FO.out.1 FO.out.2 KK.out.2.2.2.2.1).mono ?_
    rintro e wx5 ⟨rfl, hb⟩
    refine ⟨_, rfl, ?_⟩
    replace FO := za.mk (zas FO.out hb)
    replace FB := za.mk (zas FB.out hb)
    replace F14 := za.mk (zas F14.out hb)
    replace F16 := za.mk (zas F16.out hb)
    replace HPr := za.mk (HPr.out.below hb)
    replace HW := za.mk (zq HW.out hb)
    clear hb
    have HS : wx5.cell? ⟨b9, i, none⟩ = some (.slice A p.length c) ∧ wx5.cell? ⟨b10, i, none⟩ = some (.slice B m.length d) := ⟨HPr.out.c9, HPr.out.c10⟩
    refine hK.out _ _ (fun _ => HS) ?_
    clear hK K
    (try simp only [pu0, pu1, pu2, pu3, pu4])
    refine on1 6 fun K hK => ?_
    clear HS
    refine zbl Try.func47 (by kernel_rfl) rfl #[.slice A p.length c] (by rfl) rfl rfl (by simp only [List.map_toArray, List.map_cons, List.map_nil]; rfl) ?_
    refine (zak.calls K6 A c p ch wx5 HPr.out.rp HPr.out.hp KK.out.2.2.2.2.2.1).mono ?_
    rintro e wx6 ⟨rfl, hd⟩
    refine ⟨_, rfl, ?_⟩
    have hb := zcq hd
    clear hd
    replace FO := za.mk (zas FO.out hb)
    replace FB := za.mk (zas FB.out hb)
    replace F14 := za.mk (zas F14.out hb)
    replace F16 := za.mk (zas F16.out hb)
    replace HPr := za.mk (HPr.out.below hb)
    replace HW := za.mk (zq HW.out hb)
    clear hb
    have HS : wx6.cell? ⟨b9, i, none⟩ = some (.slice A p.length c) ∧ wx6.cell? ⟨b10, i, none⟩ = some (.slice B m.length d) := ⟨HPr.out.c9, HPr.out.c10⟩
    refine hK.out _ _ (fun _ => HS) ?_
    clear hK K
    (try simp only [pu0, pu1, pu2, pu3, pu4])
    refine tk 7 ?_
    (try simp only [pu0, pu1, pu2, pu3, pu4])
    refine tk 8 ?_
    (try simp only [pu0, pu1, pu2, pu3, pu4])
    refine tk 9 ?_
    (try simp only [pu0, pu1, pu2, pu3, pu4])
    refine tk 10 ?_
    (try simp only [pu0, pu1, pu2, pu3, pu4])
    refine tk 11 ?_
    (try simp only [pu0, pu1, pu2, pu3, pu4])
    refine tk 12 ?_
    (try simp only [pu0, pu1, pu2, pu3, pu4])
    refine tk 13 ?_
    (try simp only [pu0, pu1, pu2, pu3, pu4])
    refine tk 14 ?_
    (try simp only [pu0, pu1, pu2, pu3, pu4])
    refine tk 15 ?_
    (try simp only [pu0, pu1, pu2, pu3, pu4])
    refine tk 16 ?_
    (try simp only [pu0, pu1, pu2, pu3, pu4])
    refine tk 17 ?_
    (try simp only [pu0, pu1, pu2, pu3, pu4])
    refine tk 18 ?_
    (try simp only [pu0, pu1, pu2, pu3, pu4])
    refine tk 19 ?_
    (try simp only [pu0, pu1, pu2, pu3, pu4])
    refine tk 20 ?_
    (try simp only [pu0, pu1, pu2, pu3, pu4])
    refine tk 21 ?_
    (try simp only [pu0, pu1, pu2, pu3, pu4])
    refine tk 22 ?_
    (try simp only [pu0, pu1, pu2, pu3, pu4])
    refine tk 23 ?_
    (try simp only [pu0, pu1, pu2, pu3, pu4])
    refine tk 24 ?_
    (try simp only [pu0, pu1, pu2, pu3, pu4])
    refine tk 25 ?_
    (try simp only [pu0, pu1, pu2, pu3, pu4])
    refine on1 26 fun K hK => ?_
    clear HS
    refine zbl Try.func25 (by kernel_rfl) rfl #[.slice A14 ra.length c14, .slice A16 ra.length c16] (by rfl) rfl rfl (by simp only [List.map_toArray, List.map_cons, List.map_nil]; rfl) ?_
    refine (zah.calls K7 A14 c14 ra A16 c16 ra true wx6 F14.out.1 F14.out.2 F16.out.1 F16.out.2 KK.out.2.2.2.2.2.2.1).mono ?_
    rintro e wx7 ⟨rfl, hd⟩
    refine ⟨_, rfl, ?_⟩
    have hb := zcq hd
    clear hd
    replace FO := za.mk (zas FO.out hb)
    replace FB := za.mk (zas FB.out hb)
    replace F14 := za.mk (zas F14.out hb)
    replace F16 := za.mk (zas F16.out hb)
    replace HPr := za.mk (HPr.out.below hb)
    replace HW := za.mk (zq HW.out hb)
    clear hb
    have HS : wx7.cell? ⟨b9, i, none⟩ = some (.slice A p.length c) ∧ wx7.cell? ⟨b10, i, none⟩ = some (.slice B m.length d) := ⟨HPr.out.c9, HPr.out.c10⟩
    refine hK.out _ _ (fun _ => HS) ?_
    clear hK K
    (try simp only [pu0, pu1, pu2, pu3, pu4])
    refine tk 27 ?_
    (try simp only [pu0, pu1, pu2, pu3, pu4])
    refine tk 28 ?_
    (try simp only [pu0, pu1, pu2, pu3, pu4])
    refine tk 29 ?_
    (try simp only [pu0, pu1, pu2, pu3, pu4])
    refine tk 30 ?_
    (try simp only [pu0, pu1, pu2, pu3, pu4])
    refine tk 31 ?_
    (try simp only [pu0, pu1, pu2, pu3, pu4])
    refine tk 32 ?_
    (try simp only [pu0, pu1, pu2, pu3, pu4])
    refine tk 33 ?_
    (try simp only [pu0, pu1, pu2, pu3, pu4])
    refine tk 34 ?_
    (try simp only [pu0, pu1, pu2, pu3, pu4])
    refine on1 35 fun K hK => ?_
    clear HS
    refine zbl Try.func25 (by kernel_rfl) rfl #[.slice Ao p.length co, .slice A p.length c] (by rfl) rfl rfl (by simp only [List.map_toArray, List.map_cons, List.map_nil]; rfl) ?_
    refine (zah.calls K8 Ao co p A c p true wx7 FO.out.1 FO.out.2 HPr.out.rp HPr.out.hp KK.out.2.2.2.2.2.2.2.1).mono ?_
    rintro e wx8 ⟨rfl, hd⟩
    refine ⟨_, rfl, ?_⟩
    have hb := zcq hd
    clear hd
    replace FO := za.mk (zas FO.out hb)
    replace FB := za.mk (zas FB.out hb)
    replace F14 := za.mk (zas F14.out hb)
    replace F16 := za.mk (zas F16.out hb)
    replace HPr := za.mk (HPr.out.below hb)
    replace HW := za.mk (zq HW.out hb)
    clear hb
    have HS : wx8.cell? ⟨b9, i, none⟩ = some (.slice A p.length c) ∧ wx8.cell? ⟨b10, i, none⟩ = some (.slice B m.length d) := ⟨HPr.out.c9, HPr.out.c10⟩
    refine hK.out _ _ (fun _ => HS) ?_
    clear hK K
    (try simp only [pu0, pu1, pu2, pu3, pu4])
    refine tk 36 ?_
    (try simp only [pu0, pu1, pu2, pu3, pu4])
    refine tk 37 ?_
    (try simp only [pu0, pu1, pu2, pu3, pu4])
    refine tk 38 ?_
    (try simp only [pu0, pu1, pu2, pu3, pu4])
    refine tk 39 ?_
    (try simp only [pu0, pu1, pu2, pu3, pu4])
    refine tk 40 ?_
    (try simp only [pu0, pu1, pu2, pu3, pu4])
    refine tk 41 ?_
    (try simp only [pu0, pu1, pu2, pu3, pu4])
    refine tk 42 ?_
    (try simp only [pu0, pu1, pu2, pu3, pu4])
    refine tk 43 ?_
    (try simp only [pu0, pu1, pu2, pu3, pu4])
    refine on1 44 fun K hK => ?_
    clear HS
    refine zbl Try.func24 (by kernel_rfl) rfl #[.slice Bo m.length eo, .slice B m.length d] (by rfl) rfl rfl (by simp only [List.map_toArray, List.map_cons, List.map_nil]; rfl) ?_
    refine (zat.calls K9 Bo eo m B d m true wx8 FB.out.1 FB.out.2 HPr.out.rm HPr.out.hm KK.out.2.2.2.2.2.2.2.2).mono ?_
    rintro e wx9 ⟨rfl, hd⟩
    refine ⟨_, rfl, ?_⟩
    have hb := zcq hd
    clear hd
    replace FO := za.mk (zas FO.out hb)
    replace FB := za.mk (zas FB.out hb)
    replace F14 := za.mk (zas F14.out hb)
    replace F16 := za.mk (zas F16.out hb)
    replace HPr := za.mk (HPr.out.below hb)
    replace HW := za.mk (zq HW.out hb)
    clear hb
    have HS : wx9.cell? ⟨b9, i, none⟩ = some (.slice A p.length c) ∧ wx9.cell? ⟨b10, i, none⟩ = some (.slice B m.length d) := ⟨HPr.out.c9, HPr.out.c10⟩
    refine hK.out _ _ (fun _ => HS) ?_
    clear hK K
    (try simp only [pu0, pu1, pu2, pu3, pu4])
    refine tk 45 ?_
    (try simp only [pu0, pu1, pu2, pu3, pu4])
    refine tk 46 ?_
    (try simp only [pu0, pu1, pu2, pu3, pu4])
    refine zam (by kernel_rfl) ?_ _
    clear HS
    have HBn := za.mk (zq HBr.out HW.out)
    go_wp2_with fail
    go_roundw
    case rel => exact ⟨i + 1, by omega, by go_num, HBn⟩
    case measure => simp [intOf]; omega
  ·obtain rfl : i = 3 := by omega
   go_wp2_with fail
   refine (zcL wr).mono ?_
   rintro e wz ⟨rfl, hb⟩
   replace HB := za.mk (zq (zq HB.out HBr.out) hb)
   clear hb
   go_wp2_with fail
   go_ret
   exact ⟨rfl, HB.out⟩
theorem zgD (A0 : Option Addr) (c0 : Nat) (pg : List ByteArray) (A1 : Option Addr) (c1 : Nat) (ms : List S63) (A2 : Option Addr) (c2 : Nat) (l0 : List Int) (w : World) (hr0 : Kd.C Kd.string w A0 pg.length pg) (hc0 : pg.length ≤ c0) (hr1 : Kd.C k63 w A1 ms.length ms) (hc1 : ms.length ≤ c1)
  (hr2 : Kd.C (Kd.int .i64) w A2 l0.length l0) (hc2 : l0.length ≤ c2) (hl : l0.length * 8 ≤ 140737488351232) :
  Calls Try.prog 9 #[.slice A0 pg.length c0, .slice A1 ms.length c1, .slice A2 l0.length c2] w fun e w' => e = .returned (.bool true) ∧ Below w.heap.size w w' :=
 zf6 A0 c0 pg A1 c1 ms A2 c2 l0 w hr0 hc0 hr1 hc1 hr2 hc2 (by omega)
end Go.Proofs.Ytgmbbfmbimofoaa.P
