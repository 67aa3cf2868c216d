-- MERGED BY A PROGRAM out of texts of this claim: hand work, and what a (turned) print of the kit has written for it
import Derived.Test.YtgmbbfmbimofoaaMh5
import Derived.Test.YtgmbbfmbimofoaaMh12
import Derived.Test.YtgmbbfmbimofoaaMh7
namespace Go.Proofs.Ytgmbbfmbimofoaa.P
open Go.RowKit Go.Proofs.YtgmbbfmbimofoaaW.PrintWords Go.Proofs.YtgmbbfmbimofoaaW.PrintLast Go.Proofs.YtgmbbfmbimofoaaW.PrintMore
attribute [local go_sem] zI zM zO zP zC zD zK zJ
set_option linter.unusedVariables false
set_option linter.unusedSimpArgs false
attribute [local go_sem high] zeM
def zbA.f (k : Nat) (l0 : List ByteArray) (l1 : List ByteArray) : Option ((List (S63)) × Int) := (zae.f k l0).bind fun t106 => (if t106 = 0 then ((zae.f k l1).bind fun t107 => (if t107 = 0 then ((zbk.f l0 l1).bind fun t108 => (some (t108, 0))) else (some (([] : List (S63)), t107)))) else (some (([] : List (S63)), t106)))
set_option maxHeartbeats 8000000 in
set_option maxRecDepth 100000 in
theorem zbA.calls (k : Nat) (A0 : Option Addr) (c0 : Nat) (l0 : List ByteArray) (A1 : Option Addr) (c1 : Nat) (l1 : List ByteArray) (r1 : List (S63)) (r2 : Int) (w : World) (hr0 : Kd.C Kd.string w A0 l0.length l0) (hc0 : l0.length ≤ c0) (hr1 : Kd.C Kd.string w A1 l1.length l1) (hc1 : l1.length ≤ c1) (h : zbA.f k l0 l1 = some (r1, r2)) :
  Calls Try.prog 22 #[.slice A0 l0.length c0, .slice A1 l1.length c1] w fun e w' => ∃ v0_ : Value, e = .returned (.tuple #[v0_, .int .i64 r2]) ∧ Kd.R k63 63 w' w.heap.size (fun _ => True) v0_ r1 ∧ Below w.heap.size w w' := by
 have HR0 := za.mk hr0
 have HC0 := za.mk hc0
 clear hr0 hc0
 have HR1 := za.mk hr1
 have HC1 := za.mk hc1
 clear hr1 hc1
 have HB := za.mk (Below.refl w.heap.size w)
 have H : ((zae.f k l0).bind fun t106 => (if t106 = 0 then ((zae.f k l1).bind fun t107 => (if t107 = 0 then ((zbk.f l0 l1).bind fun t108 => (some (t108, 0))) else (some (([] : List (S63)), t107)))) else (some (([] : List (S63)), t106)))) = some (r1, r2) := h
 clear h
 replace H := Option.bind_eq_some_iff.mp H
 obtain ⟨t106, A30, H⟩ := H
 replace H : (if t106 = 0 then ((zae.f k l1).bind fun t107 => (if t107 = 0 then ((zbk.f l0 l1).bind fun t108 => (some (t108, 0))) else (some (([] : List (S63)), t107)))) else (some (([] : List (S63)), t106))) = some (r1, r2) := H
 have A3 := za.mk A30
 clear A30
 by_cases c4 : t106 = 0
 ·rw [if_pos c4] at H
  have c4b0 : (t106 == 0) = true := beq_iff_eq.mpr c4
  have c4b1 : (t106 != 0) = false := bne_eq_false_iff_eq.mpr c4
  clear c4
  replace H := Option.bind_eq_some_iff.mp H
  obtain ⟨t107, A50, H⟩ := H
  replace H : (if t107 = 0 then ((zbk.f l0 l1).bind fun t108 => (some (t108, 0))) else (some (([] : List (S63)), t107))) = some (r1, r2) := H
  have A5 := za.mk A50
  clear A50
  by_cases c6 : t107 = 0
  ·rw [if_pos c6] at H
   have c6b0 : (t107 == 0) = true := beq_iff_eq.mpr c6
   have c6b1 : (t107 != 0) = false := bne_eq_false_iff_eq.mpr c6
   clear c6
   replace H := Option.bind_eq_some_iff.mp H
   obtain ⟨t108, A70, H⟩ := H
   replace H : (some (t108, 0)) = some (r1, r2) := H
   have A7 := za.mk A70
   clear A70
   simp only [Option.some.injEq, Prod.mk.injEq] at H
   obtain ⟨rfl, rfl⟩ := H
   go_enter Try.func22, Try.ntmps22
   go_wp2_with (first | ((with_reducible refine zw (f := 46) rfl ?_); refine zR (some 9) rfl rfl Try.func46 (by kernel_rfl) rfl #[.slice A0 l0.length c0] rfl (by (try simp only [List.map_toArray, List.map_cons, List.map_nil]); first | done | rfl | (simp only [List.length_drop, List.length_take]; rfl)) ?_; (with_reducible refine (zae.calls k _ _ l0 t106 _ ?side1 ?side2 A3.out).mono ?_); (case side1 => repeat (first | exact HR0.out | (with_reducible refine Kd.zab ?_ _) | (with_reducible refine Kd.zac ?_ _) | (with_reducible refine Kd.zah ?_))); (case side2 => exact HC0.out); rintro e w8 ⟨rfl, hb⟩; refine ⟨_, rfl, ?_⟩; have n0_ := za.mk (zo (by repeat (first | (with_reducible first | exact HB.out | apply ze | apply zb | apply zg) | exact HB.out)) hb); clear HB; have HB := n0_; clear n0_; (try clear hb); (try clear hb2); (try clear hk); (try clear hi)) | ((with_reducible refine zw (f := 46) rfl ?_); refine zR (some 14) rfl rfl Try.func46 (by kernel_rfl) rfl #[.slice A1 l1.length c1] rfl (by (try simp only [List.map_toArray, List.map_cons, List.map_nil]); first | done | rfl | (simp only [List.length_drop, List.length_take]; rfl)) ?_; (with_reducible refine (zae.calls k _ _ l1 t107 _ ?side1 ?side2 A5.out).mono ?_); (case side1 => repeat (first | exact (Kd.zW HR1.out HB.out) | (with_reducible refine Kd.zab ?_ _) | (with_reducible refine Kd.zac ?_ _) | (with_reducible refine Kd.zah ?_))); (case side2 => exact HC1.out); rintro e w9 ⟨rfl, hb⟩; refine ⟨_, rfl, ?_⟩; have n0_ := za.mk (zo (by repeat (first | (with_reducible first | exact HB.out | apply ze | apply zb | apply zg) | exact HB.out)) hb); clear HB; have HB := n0_; clear n0_; (try clear hb); (try clear hb2); (try clear hk); (try clear hi)) | ((with_reducible refine zw (f := 64) rfl ?_); refine zR (some 20) rfl rfl Try.func64 (by kernel_rfl) rfl #[.slice A0 l0.length c0, .slice A1 l1.length c1] rfl (by (try simp only [List.map_toArray, List.map_cons, List.map_nil]); first | done | rfl | (simp only [List.length_drop, List.length_take]; rfl)) ?_; (with_reducible refine (zbk.calls _ _ l0 _ _ l1 t108 _ ?side1 ?side2 ?side3 ?side4 A7.out).mono ?_); (case side1 => repeat (first | exact (Kd.zW HR0.out HB.out) | (with_reducible refine Kd.zab ?_ _) | (with_reducible refine Kd.zac ?_ _) | (with_reducible refine Kd.zah ?_))); (case side2 => exact HC0.out); (case side3 => repeat (first | exact (Kd.zW HR1.out HB.out) | (with_reducible refine Kd.zab ?_ _) | (with_reducible refine Kd.zac ?_ _) | (with_reducible refine Kd.zah ?_))); (case side4 => exact HC1.out); rintro e w10 ⟨v109, rfl, ho0, hb⟩; refine ⟨_, rfl, ?_⟩; have n0_ := za.mk (Kd.zaA ho0 (zy (by repeat (first | (with_reducible first | exact HB.out | apply ze | apply zb | apply zg) | exact HB.out)))); have n1_ := za.mk (zo (by repeat (first | (with_reducible first | exact HB.out | apply ze | apply zb | apply zg) | exact HB.out)) hb); clear HB; have HO110 := n0_; have HB := n1_; clear n0_ n1_; (try clear hb); (try clear hb2); (try clear hk); (try clear hi); (try clear ho0)))
   go_ret2
   exact ⟨_, by first | rfl | (simp [zt, zu] <;> rfl) | (simp [*, zt, zu] <;> rfl), by (with_reducible repeat (first | apply Kd.zaE | apply Kd.zaF | apply Kd.zaM)); exact HO110.out, by repeat (first | (with_reducible first | exact HB.out | apply ze | apply zb | apply zg) | exact HB.out)⟩
  ·rw [if_neg c6] at H
   have c6b0 : (t107 == 0) = false := beq_eq_false_iff_ne.mpr c6
   have c6b1 : (t107 != 0) = true := bne_iff_ne.mpr c6
   simp only [Option.some.injEq, Prod.mk.injEq] at H
   obtain ⟨rfl, rfl⟩ := H
   go_enter Try.func22, Try.ntmps22
   go_wp2_with (first | ((with_reducible refine zw (f := 46) rfl ?_); refine zR (some 9) rfl rfl Try.func46 (by kernel_rfl) rfl #[.slice A0 l0.length c0] rfl (by (try simp only [List.map_toArray, List.map_cons, List.map_nil]); first | done | rfl | (simp only [List.length_drop, List.length_take]; rfl)) ?_; (with_reducible refine (zae.calls k _ _ l0 t106 _ ?side1 ?side2 A3.out).mono ?_); (case side1 => repeat (first | exact HR0.out | (with_reducible refine Kd.zab ?_ _) | (with_reducible refine Kd.zac ?_ _) | (with_reducible refine Kd.zah ?_))); (case side2 => exact HC0.out); rintro e w11 ⟨rfl, hb⟩; refine ⟨_, rfl, ?_⟩; have n0_ := za.mk (zo (by repeat (first | (with_reducible first | exact HB.out | apply ze | apply zb | apply zg) | exact HB.out)) hb); clear HB; have HB := n0_; clear n0_; (try clear hb); (try clear hb2); (try clear hk); (try clear hi)) | ((with_reducible refine zw (f := 46) rfl ?_); refine zR (some 14) rfl rfl Try.func46 (by kernel_rfl) rfl #[.slice A1 l1.length c1] rfl (by (try simp only [List.map_toArray, List.map_cons, List.map_nil]); first | done | rfl | (simp only [List.length_drop, List.length_take]; rfl)) ?_; (with_reducible refine (zae.calls k _ _ l1 t107 _ ?side1 ?side2 A5.out).mono ?_); (case side1 => repeat (first | exact (Kd.zW HR1.out HB.out) | (with_reducible refine Kd.zab ?_ _) | (with_reducible refine Kd.zac ?_ _) | (with_reducible refine Kd.zah ?_))); (case side2 => exact HC1.out); rintro e w12 ⟨rfl, hb⟩; refine ⟨_, rfl, ?_⟩; have n0_ := za.mk (zo (by repeat (first | (with_reducible first | exact HB.out | apply ze | apply zb | apply zg) | exact HB.out)) hb); clear HB; have HB := n0_; clear n0_; (try clear hb); (try clear hb2); (try clear hk); (try clear hi)))
   go_ret2
   exact ⟨_, by first | rfl | (simp [zt, zu] <;> rfl) | (simp [*, zt, zu] <;> rfl), by first | exact Kd.zbz _ _ _ _ _ | exact Kd.zdk _ _ _ _ _ | exact Kd.zdb _ _ _ _ _ | exact Kd.zda _ _ _ _ _ | exact Kd.zdc _ _ _ _ _, by repeat (first | (with_reducible first | exact HB.out | apply ze | apply zb | apply zg) | exact HB.out)⟩
 ·rw [if_neg c4] at H
  have c4b0 : (t106 == 0) = false := beq_eq_false_iff_ne.mpr c4
  have c4b1 : (t106 != 0) = true := bne_iff_ne.mpr c4
  simp only [Option.some.injEq, Prod.mk.injEq] at H
  obtain ⟨rfl, rfl⟩ := H
  go_enter Try.func22, Try.ntmps22
  go_wp2_with (first | ((with_reducible refine zw (f := 46) rfl ?_); refine zR (some 9) rfl rfl Try.func46 (by kernel_rfl) rfl #[.slice A0 l0.length c0] rfl (by (try simp only [List.map_toArray, List.map_cons, List.map_nil]); first | done | rfl | (simp only [List.length_drop, List.length_take]; rfl)) ?_; (with_reducible refine (zae.calls k _ _ l0 t106 _ ?side1 ?side2 A3.out).mono ?_); (case side1 => repeat (first | exact HR0.out | (with_reducible refine Kd.zab ?_ _) | (with_reducible refine Kd.zac ?_ _) | (with_reducible refine Kd.zah ?_))); (case side2 => exact HC0.out); rintro e w13 ⟨rfl, hb⟩; refine ⟨_, rfl, ?_⟩; have n0_ := za.mk (zo (by repeat (first | (with_reducible first | exact HB.out | apply ze | apply zb | apply zg) | exact HB.out)) hb); clear HB; have HB := n0_; clear n0_; (try clear hb); (try clear hb2); (try clear hk); (try clear hi)))
  go_ret2
  exact ⟨_, by first | rfl | (simp [zt, zu] <;> rfl) | (simp [*, zt, zu] <;> rfl), by first | exact Kd.zbz _ _ _ _ _ | exact Kd.zdk _ _ _ _ _ | exact Kd.zdb _ _ _ _ _ | exact Kd.zda _ _ _ _ _ | exact Kd.zdc _ _ _ _ _, by repeat (first | (with_reducible first | exact HB.out | apply ze | apply zb | apply zg) | exact HB.out)⟩
end Go.Proofs.Ytgmbbfmbimofoaa.P
namespace Go.Proofs.Ytgmbbfmbimofoaa.P
open Go.RowKit Go.Proofs.YtgmbbfmbimofoaaW.PrintWords Go.Proofs.YtgmbbfmbimofoaaW.PrintLast Go.Proofs.YtgmbbfmbimofoaaW.PrintMore
attribute [local go_sem] zI zM zO zP zC zD zK zJ
set_option linter.unusedVariables false
set_option linter.unusedSimpArgs false
def zb7 : List ByteArray → Int
 | [] => 0
 | x :: xs => if za0 x = 0 then zb7 xs else za0 x
def zaS (page : List ByteArray) : Int := if 6 < page.length then 6 else zb7 page
theorem zea (p : List ByteArray) (hp : p.length ≤ 1000) : ∀ (m i k : Nat), p.length - i = m → i ≤ p.length → m < k → zae.l0 k p (p.length : Int) (i : Int) = some (zb7 (p.drop i))
 | 0, i, k, h, hi, hk => by
  obtain ⟨k', rfl⟩ : ∃ k', k = k' + 1 := ⟨k - 1, by omega⟩
  rw [zae.l0, if_neg (by omega), List.drop_eq_nil_of_le (by omega)]
  rfl
 | m + 1, i, k, h, hi, hk => by
  obtain ⟨k', rfl⟩ : ∃ k', k = k' + 1 := ⟨k - 1, by omega⟩
  have hlt : i < p.length := by omega
  have r1 : zaH ByteArray.empty p (i : Int) = p[i] := by simp [zaH, hlt]
  have hw : wrap64 ((i : Int) + 1) = ((i + 1 : Nat) : Int) := by unfold wrap64; omega
  rw [zae.l0, if_pos (by omega), if_pos (by omega), if_pos (by omega), r1, List.drop_eq_getElem_cons hlt, zb7]
  rw [show zbe.f p[i] = some (za0 p[i]) from rfl, Option.bind_some]
  by_cases he : za0 p[i] = 0
  ·rw [if_pos he, if_pos he, hw]
   exact zea p hp m (i + 1) k' (by omega) (by omega) (by omega)
  ·rw [if_neg he, if_neg he]
theorem zhB (p : List ByteArray) (k : Nat) (hk : 7 < k) : zae.f k p = some (zaS p) := by
 unfold zae.f zaS
 by_cases h : 6 < p.length
 ·rw [if_pos (by omega), if_pos h]
 ·rw [if_neg (by omega), if_neg h]
  exact zea p (by omega) p.length 0 k (by omega) (by omega) (by omega)
def zem (m : S63) : Int := if m.f0 = 3 then (if m.f2.toList = [] then 0 else 2) else za0 m.f2
def ze3 : Option S63 → S63 → Int
 | none, _ => 0
 | some p, m => if m.f1 < p.f1 then 5 else if p.f1 < m.f1 ∨ p.f0 = 1 then 0 else if m.f0 = 1 then 5 else 4
def zdr (n : Nat) (prev : Option S63) (m : S63) : Int :=
 if m.f0 < 1 ∨ 3 < m.f0 then 8
 else if m.f1 < 0 ∨ (if m.f0 = 1 then (n : Int) else (n : Int) - 1) < m.f1 then 3
 else if zem m = 0 then ze3 prev m
 else zem m
def zcr (n : Nat) : Option S63 → List S63 → Int
 | _, [] => 0
 | prev, m :: ms => if zdr n prev m = 0 then zcr n (some m) ms else zdr n prev m
def zfE (n : Nat) (ms : List S63) : Int := if 12 < ms.length then 6 else zcr n none ms
def zfO (pg : List ByteArray) (ms : List S63) : Int := if zaS pg = 0 then zfE pg.length ms else zaS pg
end Go.Proofs.Ytgmbbfmbimofoaa.P
