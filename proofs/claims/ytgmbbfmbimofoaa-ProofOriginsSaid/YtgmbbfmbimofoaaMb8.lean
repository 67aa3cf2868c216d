-- MERGED BY A PROGRAM out of texts of this claim: hand work, and what a (turned) print of the kit has written for it
import Derived.Test.YtgmbbfmbimofoaaMb5
namespace Go.Proofs.Ytgmbbfmbimofoaa.P
open Go.RowKit Go.Proofs.YtgmbbfmbimofoaaW.PrintWords Go.Proofs.YtgmbbfmbimofoaaW.PrintLast Go.Proofs.YtgmbbfmbimofoaaW.PrintMore
attribute [local go_sem] zU zV z8 zaa zQ zR zS zT
set_option linter.unusedVariables false
set_option linter.unusedSimpArgs false
def zaI.f (l0 : List ByteArray) : Option (List ByteArray) := (some (([] : List ByteArray) : List ByteArray)).bind fun y210 => (if y210.length + l0.length < 8796093022208 then (some (y210 ++ l0)) else (none))
set_option maxHeartbeats 8000000 in
set_option maxRecDepth 100000 in
theorem zaI.calls (A0 : Option Addr) (c0 : Nat) (l0 : List ByteArray) (r : List ByteArray) (w : World) (hr0 : Kd.C Kd.string w A0 l0.length l0) (hc0 : l0.length ≤ c0) (h : zaI.f l0 = some r) :
  Calls Try.prog 21 #[.slice A0 l0.length c0] w fun e w' => ∃ v0_ : Value, e = .returned (v0_) ∧ Kd.R Kd.string 9 w' w.heap.size (fun _ => True) v0_ r ∧ Below w.heap.size w w' := by
 have HR0 := za.mk hr0
 have HC0 := za.mk hc0
 clear hr0 hc0
 have HB := za.mk (Below.refl w.heap.size w)
 have H : ((some (([] : List ByteArray) : List ByteArray)).bind fun y210 => (if y210.length + l0.length < 8796093022208 then (some (y210 ++ l0)) else (none))) = some r := h
 clear h
 obtain ⟨y210, hy210⟩ : ∃ y_ : List ByteArray, y_ = (([] : List ByteArray)) := ⟨_, rfl⟩
 replace H : (if y210.length + l0.length < 8796093022208 then (some (y210 ++ l0)) else (none)) = some r := by first | (rw [hy210]; with_reducible exact H) | (have H2_ := (Option.bind_some _ _).symm.trans H; rw [hy210]; with_reducible exact H2_) | (have H2_ := (Option.bind_some _ _).symm.trans H; with_reducible exact H2_) | with_reducible exact H | (rw [hy210]; exact H) | exact H
 have Ny210 := za.mk hy210
 clear hy210
 by_cases c2 : y210.length + l0.length < 8796093022208
 ·rw [if_pos c2] at H
  have LMc2 := za.mk c2
  clear c2
  obtain ⟨y213, hy213⟩ : ∃ y_ : List ByteArray, y_ = (y210 ++ l0) := ⟨_, rfl⟩
  replace H : (some y213) = some r := by first | (rw [hy213]; with_reducible exact H) | (have H2_ := (Option.bind_some _ _).symm.trans H; rw [hy213]; with_reducible exact H2_) | (have H2_ := (Option.bind_some _ _).symm.trans H; with_reducible exact H2_) | with_reducible exact H | (rw [hy213]; exact H) | exact H
  have Ny213 := za.mk hy213
  clear hy213
  obtain rfl := Option.some.inj H
  go_enter Try.func21, Try.ntmps21
  go_wp2_with (first | ((with_reducible refine zaD (N := 3) rfl ?_); refine Kd.zdM Kd.string _ 9 ?hg (N := 3) ?hd (xs := ([] : List ByteArray)) (inner := []) (ok := fun _ => True) (okp := fun _ => True) ?hr ?hp (fun _ hk => hk) trivial (Below.refl _ _) (Nat.le_refl _) (by simp) ?_; (case hd => rfl); (case hg => rfl); (case hr => first | (go_simp; done) | (go_simp; rfl)); (case hp => exact (zah.none _ _)); intro v211 w3 ho4 hb hg_ hnew_; clear hg_ hnew_; (first | rw [← Ny210.out] at ho4 | (simp only [Int.reduceToNat] at ho4; rw [← Ny210.out] at ho4)); have n0_ := za.mk (Kd.zaV ho4 (zG (by repeat (first | (with_reducible first | exact HB.out | apply ze | apply zb | apply zf) | exact HB.out)))); have n1_ := za.mk (zu (by repeat (first | (with_reducible first | exact HB.out | apply ze | apply zb | apply zf) | exact HB.out)) hb); clear HB; have HO212 := n0_; have HB := n1_; clear n0_ n1_; clear hb ho4) | ((with_reducible refine zbm (b := .append) (xs := #[.tmp 3, .tmp 4]) rfl ?_); at_builtin; refine Kd.zdR Kd.string (w0 := w) w.heap.size rfl (.tmp 3) (.tmp 4) 22 9 (.string ⟨#[]⟩) 16 rfl Try.underlying22 zcK rfl (by decide) (by omega) v211 y210 l0 _ _ _ (fun _ => True) (fun _ => False) rfl rfl ?aO ?aR (fun _ _ h => h) (fun _ h => h.elim) ?aF ?aB ?aS ?aL ?_; (case aR => repeat (first | exact (Kd.zaf HR0.out HB.out) | (with_reducible refine Kd.zad ?_ _) | (with_reducible refine Kd.zae ?_ _) | (with_reducible refine Kd.zal ?_))); (case aB => exact (by repeat (first | (with_reducible first | exact HB.out | apply ze | apply zb | apply zf) | exact HB.out))); (case aF => exact (fun _ _ => trivial)); (case aO => exact (by (with_reducible repeat (first | apply Kd.zO | apply Kd.zP | apply Kd.zN)); exact HO212.out)); (case aS => exact (zG (by repeat (first | (with_reducible first | exact HB.out | apply ze | apply zb | apply zf) | exact HB.out)))); (case aL => have := LMc2.out; omega); intro v214 w5 ho hb hg hat; rw [← Ny213.out] at ho; have n0_ := za.mk (hb); have n1_ := za.mk (ho); clear HB; clear HO212; have HB := n0_; have HO215 := n1_; clear n0_ n1_; clear ho hb hg hat))
  go_ret
  exact ⟨_, by first | rfl | (simp [zA, zz] <;> rfl) | (simp [*, zA, zz] <;> rfl), by (with_reducible repeat (first | apply Kd.zO | apply Kd.zP | apply Kd.zN)); exact HO215.out, by repeat (first | (with_reducible first | exact HB.out | apply ze | apply zb | apply zf) | exact HB.out)⟩
 ·rw [if_neg c2] at H
  exact absurd H (by simp)
def zaz.f (s0_0 : List Int) (s0_1 : Int) (s0_2 : Int) (a1 : Int) : Option (Bool × Int × Int) := (zaj.f s0_0 s0_1 s0_2 (wrap64 (a1 - 1))).bind fun bt248 => (some ((bt248.1 == 0), bt248.2.1, bt248.2.2))
set_option maxHeartbeats 8000000 in
set_option maxRecDepth 100000 in
theorem zaz.calls (g : Nat) (s0_0 : List Int) (s0_1 : Int) (s0_2 : Int) (a1 : Int) (r1 : Bool) (r2 : Int) (r3 : Int) (w0 w : World) (hI : zk w0 w g s0_0 s0_1 s0_2) (hB : Below w0.heap.size w0 w) (h : zaz.f s0_0 s0_1 s0_2 a1 = some (r1, r2, r3)) :
  Calls Try.prog 49 #[.pointer (some ⟨g, 0, none⟩), .int .i64 a1] w fun e w' => e = .returned (.bool r1) ∧ zk w0 w' g s0_0 r2 r3 ∧ Below w0.heap.size w0 w' ∧ zx w w' g none := by
 have HI0 := za.mk hI
 have HK := za.mk (zx.refl w g none)
 have HL := za.mk hB.size
 clear hI
 have HW0 := za.mk hB.size
 have HB := za.mk hB
 clear hB
 have H : ((zaj.f s0_0 s0_1 s0_2 (wrap64 (a1 - 1))).bind fun bt248 => (some ((bt248.1 == 0), bt248.2.1, bt248.2.2))) = some (r1, r2, r3) := h
 clear h
 replace H := Option.bind_eq_some_iff.mp H
 obtain ⟨⟨t248, t249, t250⟩, A30, H⟩ := H
 replace H : (some ((t248 == 0), t249, t250)) = some (r1, r2, r3) := H
 have A3 := za.mk A30
 clear A30
 simp only [Option.some.injEq, Prod.mk.injEq] at H
 obtain ⟨rfl, rfl, rfl⟩ := H
 go_enter Try.func49, Try.ntmps49
 go_wp2_with (first | ((with_reducible refine zD (f := 28) rfl ?_); refine zab (some 8) rfl rfl Try.func28 (by kernel_rfl) rfl #[.pointer (some ⟨g, 0, none⟩), .int .i64 (wrap64 (a1 - 1))] rfl (by (try simp only [List.map_toArray, List.map_cons, List.map_nil]); first | done | rfl | (simp only [List.length_drop, List.length_take]; rfl)) ?_; (with_reducible refine (zaj.calls g s0_0 s0_1 s0_2 (wrap64 (a1 - 1)) t248 t249 t250 w0 _ ?side1 ?side2 A3.out).mono ?_); (case side1 => repeat (first | (with_reducible first | exact HI0.out | apply zk.alloc | apply zk.drewN | apply zk.drew | apply zk.zan | apply zk.zam) | exact HI0.out)); (case side2 => repeat (first | (with_reducible first | exact HB.out | apply ze | apply zb | apply zf | refine zi ?_ (zk.ge HI0.out)) | exact HB.out)); rintro e w4 ⟨rfl, hi, hb, hk⟩; refine ⟨_, rfl, ?_⟩; have n0_ := za.mk (zx.trans (by repeat (first | (with_reducible first | exact HK.out | apply zx.zaT | apply zW | apply zZ | apply zX) | exact HK.out)) hk (.inl rfl)); have n1_ := za.mk (hb); have n2_ := za.mk (hi); clear HK; clear HB; clear HI0; have HK := n0_; have HB := n1_; have HI0 := n2_; clear n0_ n1_ n2_; (try clear hb); (try clear hb2); (try clear hk); (try clear hi)))
 go_ret
 exact ⟨by first | rfl | (simp [zA, zz] <;> rfl) | (simp [*, zA, zz] <;> rfl), by repeat (first | (with_reducible first | exact HI0.out | apply zk.alloc | apply zk.drewN | apply zk.drew | apply zk.zan | apply zk.zam) | exact HI0.out), by repeat (first | (with_reducible first | exact HB.out | apply ze | apply zb | apply zf | refine zi ?_ (zk.ge HI0.out)) | exact HB.out), by repeat (first | (with_reducible first | exact HK.out | apply zx.zaT | apply zW | apply zZ | apply zX) | exact HK.out)⟩
mutual
def zq.l0 : Nat → List (List ByteArray) → List ByteArray → Int → List Int → Int → Int → Option ((List (List ByteArray)) × Int × Int)
 | 0, _, _, _, _, _, _ => none
 | k + 1, x5, x6, x7, x1000, x1001, x1002 => if x7 > 0 then ((zaI.f x6).bind fun t310 => (if x5.length < 5864062014805 then ((some (x5 ++ [t310] : List (List ByteArray))).bind fun y313 => ((zaz.f x1000 x1001 x1002 4).bind fun bt316 => (if bt316.1 = true then ((zI.f k x1000 bt316.2.1 bt316.2.2 4).bind fun bt319 => (zq.j1 k y313 bt319.1 x7 x1000 bt319.2.1 bt319.2.2)) else (zq.j1 k y313 x6 x7 x1000 bt316.2.1 bt316.2.2)))) else (none))) else (some (x5, x1001, x1002))
def zq.j1 : Nat → List (List ByteArray) → List ByteArray → Int → List Int → Int → Int → Option ((List (List ByteArray)) × Int × Int)
 | 0, _, _, _, _, _, _ => none
 | k + 1, x5, x6, x7, x1000, x1001, x1002 => if (x6.length : Int) > 0 then ((zaz.f x1000 x1001 x1002 2).bind fun bt324 => (zq.j2 k x5 x6 x7 bt324.1 x1000 bt324.2.1 bt324.2.2)) else (zq.j2 k x5 x6 x7 false x1000 x1001 x1002)
def zq.j2 : Nat → List (List ByteArray) → List ByteArray → Int → Bool → List Int → Int → Int → Option ((List (List ByteArray)) × Int × Int)
 | 0, _, _, _, _, _, _, _ => none
 | k + 1, x5, x6, x7, x32, x1000, x1001, x1002 => if x32 = true then ((zaI.f x6).bind fun t327 => ((zaj.f x1000 x1001 x1002 (wrap64 ((t327.length : Int) - 1))).bind fun bt330 => ((zaE.f x1000 bt330.2.1 bt330.2.2).bind fun bt333 => (if 0 ≤ bt330.1 then (if bt330.1 < (t327.length : Int) then (zq.j3 k x5 (t327.set (bt330.1 : Int).toNat bt333.1) x7 x1000 bt333.2.1 bt333.2.2) else (none)) else (none))))) else (zq.j3 k x5 x6 x7 x1000 x1001 x1002)
def zq.j3 : Nat → List (List ByteArray) → List ByteArray → Int → List Int → Int → Int → Option ((List (List ByteArray)) × Int × Int)
 | 0, _, _, _, _, _, _ => none
 | k + 1, x5, x6, x7, x1000, x1001, x1002 => if (x6.length : Int) > 0 then ((zaz.f x1000 x1001 x1002 3).bind fun bt337 => (zq.j4 k x5 x6 x7 bt337.1 x1000 bt337.2.1 bt337.2.2)) else (zq.j4 k x5 x6 x7 false x1000 x1001 x1002)
def zq.j4 : Nat → List (List ByteArray) → List ByteArray → Int → Bool → List Int → Int → Int → Option ((List (List ByteArray)) × Int × Int)
 | 0, _, _, _, _, _, _, _ => none
 | k + 1, x5, x6, x7, x50, x1000, x1001, x1002 => if x50 = true then (if 1 ≤ (x6.length : Int) then (zq.j5 k x5 (x6.drop (1 : Int).toNat) x7 x1000 x1001 x1002) else (none)) else (zq.j5 k x5 x6 x7 x1000 x1001 x1002)
def zq.j5 : Nat → List (List ByteArray) → List ByteArray → Int → List Int → Int → Int → Option ((List (List ByteArray)) × Int × Int)
 | 0, _, _, _, _, _, _ => none
 | k + 1, x5, x6, x7, x1000, x1001, x1002 => if (x6.length : Int) < 6 then ((zaz.f x1000 x1001 x1002 3).bind fun bt343 => (zq.j6 k x5 x6 x7 bt343.1 x1000 bt343.2.1 bt343.2.2)) else (zq.j6 k x5 x6 x7 false x1000 x1001 x1002)
def zq.j6 : Nat → List (List ByteArray) → List ByteArray → Int → Bool → List Int → Int → Int → Option ((List (List ByteArray)) × Int × Int)
 | 0, _, _, _, _, _, _, _ => none
 | k + 1, x5, x6, x7, x59, x1000, x1001, x1002 => if x59 = true then ((zaI.f x6).bind fun t346 => ((zaE.f x1000 x1001 x1002).bind fun bt349 => (if t346.length < 8796093022208 then (zq.l0 k x5 (t346 ++ [bt349.1]) (wrap64 (x7 - 1)) x1000 bt349.2.1 bt349.2.2) else (none)))) else (zq.l0 k x5 x6 (wrap64 (x7 - 1)) x1000 x1001 x1002)
end
def zq.f (k : Nat) (s0_0 : List Int) (s0_1 : Int) (s0_2 : Int) (a1 : Int) : Option ((List (List ByteArray)) × Int × Int) := (zI.f k s0_0 s0_1 s0_2 4).bind fun bt302 => ((zaj.f s0_0 bt302.2.1 bt302.2.2 a1).bind fun bt307 => (zq.l0 k ([] : List (List ByteArray)) bt302.1 bt307.1 s0_0 bt307.2.1 bt307.2.2))
set_option maxHeartbeats 8000000 in
set_option maxRecDepth 100000 in
theorem zq.calls (k : Nat) (g : Nat) (s0_0 : List Int) (s0_1 : Int) (s0_2 : Int) (a1 : Int) (r1 : List (List ByteArray)) (r2 : Int) (r3 : Int) (w0 w : World) (hI : zk w0 w g s0_0 s0_1 s0_2) (hB : Below w0.heap.size w0 w) (h : zq.f k s0_0 s0_1 s0_2 a1 = some (r1, r2, r3)) :
  Calls Try.prog 33 #[.pointer (some ⟨g, 0, none⟩), .int .i64 a1] w fun e w' => ∃ v0_ : Value, e = .returned (v0_) ∧ Kd.S (Kd.slice 9 Kd.string) 22 w' w.heap.size (fun _ => True) v0_ r1 ∧ zk w0 w' g s0_0 r2 r3 ∧ Below w0.heap.size w0 w' ∧ zx w w' g none := by
 have HI0 := za.mk hI
 have HK := za.mk (zx.refl w g none)
 have HL := za.mk hB.size
 clear hI
 have HW0 := za.mk hB.size
 have HB := za.mk hB
 clear hB
 have H : ((zI.f k s0_0 s0_1 s0_2 4).bind fun bt302 => ((zaj.f s0_0 bt302.2.1 bt302.2.2 a1).bind fun bt307 => (zq.l0 k ([] : List (List ByteArray)) bt302.1 bt307.1 s0_0 bt307.2.1 bt307.2.2))) = some (r1, r2, r3) := h
 clear h
 replace H := Option.bind_eq_some_iff.mp H
 obtain ⟨⟨t302, t305, t306⟩, A30, H⟩ := H
 replace H : ((zaj.f s0_0 t305 t306 a1).bind fun bt307 => (zq.l0 k ([] : List (List ByteArray)) t302 bt307.1 s0_0 bt307.2.1 bt307.2.2)) = some (r1, r2, r3) := H
 have A3 := za.mk A30
 clear A30
 replace H := Option.bind_eq_some_iff.mp H
 obtain ⟨⟨t307, t308, t309⟩, A40, H⟩ := H
 replace H : (zq.l0 k ([] : List (List ByteArray)) t302 t307 s0_0 t308 t309) = some (r1, r2, r3) := H
 have A4 := za.mk A40
 clear A40
 have H' := za.mk H
 clear H
 go_enter Try.func33, Try.ntmps33
 go_wp2_with (first | ((with_reducible refine zD (f := 20) rfl ?_); refine zab (some 9) rfl rfl Try.func20 (by kernel_rfl) rfl #[.pointer (some ⟨g, 0, none⟩), .int .i64 4] rfl (by (try simp only [List.map_toArray, List.map_cons, List.map_nil]); first | done | rfl | (simp only [List.length_drop, List.length_take]; rfl)) ?_; (with_reducible refine (zI.calls k g s0_0 s0_1 s0_2 4 t302 t305 t306 w0 _ ?side1 ?side2 A3.out).mono ?_); (case side1 => repeat (first | (with_reducible first | exact HI0.out | apply zk.alloc | apply zk.drewN | apply zk.drew | apply zk.zan | apply zk.zam) | exact HI0.out)); (case side2 => repeat (first | (with_reducible first | exact HB.out | apply ze | apply zb | apply zf | refine zi ?_ (zk.ge HI0.out)) | exact HB.out)); rintro e w5 ⟨v303, rfl, ho0, hi, hb, hk⟩; refine ⟨_, rfl, ?_⟩; have n0_ := za.mk (Kd.zaV ho0 (zb0 (w := w) (g := g) (row := none) (by repeat (first | (with_reducible first | exact HK.out | apply zx.zaT | apply zW | apply zZ | apply zX) | exact HK.out)))); have n1_ := za.mk (zx.trans (by repeat (first | (with_reducible first | exact HK.out | apply zx.zaT | apply zW | apply zZ | apply zX) | exact HK.out)) hk (.inl rfl)); have n2_ := za.mk (hb); have n3_ := za.mk (hi); clear HK; clear HB; clear HI0; have HO304 := n0_; have HK := n1_; have HB := n2_; have HI0 := n3_; clear n0_ n1_ n2_ n3_; (try clear hb); (try clear hb2); (try clear hk); (try clear hi); (try clear ho0)) | ((with_reducible refine zD (f := 28) rfl ?_); refine zab (some 12) rfl rfl Try.func28 (by kernel_rfl) rfl #[.pointer (some ⟨g, 0, none⟩), .int .i64 a1] rfl (by (try simp only [List.map_toArray, List.map_cons, List.map_nil]); first | done | rfl | (simp only [List.length_drop, List.length_take]; rfl)) ?_; (with_reducible refine (zaj.calls g s0_0 t305 t306 a1 t307 t308 t309 w0 _ ?side1 ?side2 A4.out).mono ?_); (case side1 => repeat (first | (with_reducible first | exact HI0.out | apply zk.alloc | apply zk.drewN | apply zk.drew | apply zk.zan | apply zk.zam) | exact HI0.out)); (case side2 => repeat (first | (with_reducible first | exact HB.out | apply ze | apply zb | apply zf | refine zi ?_ (zk.ge HI0.out)) | exact HB.out)); rintro e w6 ⟨rfl, hi, hb, hk⟩; refine ⟨_, rfl, ?_⟩; have n0_ := za.mk (Kd.zau (Kd.zdB (zk.apart (show zk w0 _ g s0_0 t305 t306 from by repeat (first | (with_reducible first | exact HI0.out | apply zk.alloc | apply zk.drewN | apply zk.drew | apply zk.zan | apply zk.zam) | exact HI0.out)) (by (with_reducible repeat (first | apply Kd.zO | apply Kd.zP | apply Kd.zN)); exact HO304.out) (by decide)) hk (fun _ h => h.2)) (fun _ h => h.1)); have n1_ := za.mk (zx.trans (by repeat (first | (with_reducible first | exact HK.out | apply zx.zaT | apply zW | apply zZ | apply zX) | exact HK.out)) hk (.inl rfl)); have n2_ := za.mk (hb); have n3_ := za.mk (hi); clear HO304; clear HK; clear HB; clear HI0; have HO304 := n0_; have HK := n1_; have HB := n2_; have HI0 := n3_; clear n0_ n1_ n2_ n3_; (try clear hb); (try clear hb2); (try clear hk); (try clear hi)))
 go_loopg [5, 6, 7] k (fun kq v5 v6 v7 w' => ∃ (x5_1 : List (List ByteArray)) (x6_1 : List ByteArray) (x7_1 : Int) (x1001_1 : Int) (x1002_1 : Int), v7 = .int .i64 x7_1 ∧ za (zq.l0 kq x5_1 x6_1 x7_1 s0_0 x1001_1 x1002_1 = some (r1, r2, r3)) ∧ za (kq ≤ k) ∧ za (Kd.S (Kd.slice 9 Kd.string) 22 w' w.heap.size (fun k_ => some k_ ≠ (v6 : Value).ownBlock) v5 x5_1) ∧ za (Kd.Q Kd.string 9 w' w.heap.size (fun _ => True) v6 x6_1) ∧ za (zk w0 w' g s0_0 x1001_1 x1002_1) ∧ za (zx w w' g none) ∧ za (Below w0.heap.size w0 w'))
 case atStart => exact ⟨(([] : List (List ByteArray))), (t302), (t307), (t308), (t309), (by first | rfl | (simp; done) | (simp [*]; done)), H', ⟨Nat.le_refl _⟩, ⟨by first | exact Kd.zcJ _ _ _ _ _ | exact Kd.zcL _ _ _ _ _ | exact Kd.zcQ _ _ _ _ _ | exact Kd.zcR _ _ _ _ _ | exact Kd.zbH _ _ _ _ _⟩, ⟨Kd.zdT (by (with_reducible repeat (first | apply Kd.zO | apply Kd.zP | apply Kd.zN)); exact HO304.out)⟩, ⟨by repeat (first | (with_reducible first | exact HI0.out | apply zk.alloc | apply zk.drewN | apply zk.drew | apply zk.zan | apply zk.zam) | exact HI0.out)⟩, ⟨by repeat (first | (with_reducible first | exact HK.out | apply zx.zaT | apply zW | apply zZ | apply zX) | exact HK.out)⟩, ⟨by repeat (first | (with_reducible first | exact HB.out | apply ze | apply zb | apply zf | refine zi ?_ (zk.ge HI0.out)) | exact HB.out)⟩⟩
 case round =>
  clear H'
  try clear c2
  try clear p2
  try clear c3
  obtain ⟨x5_1, x6_1, x7_1, x1001_1, x1002_1, rfl, HA, HK1, HO_5, HO_6, HI0, HK, HB⟩ := hrel
  cases gk with
  | zero => exact absurd HA.out (by simp [zq.l0])
  | succ k1 =>
   have H := HA.out
   clear HA
   simp only [zq.l0] at H
   by_cases c7 : x7_1 > 0
   ·rw [if_pos c7] at H
    have c7b0 : decide (0 < x7_1) = true := decide_eq_true c7
    clear c7
    replace H := Option.bind_eq_some_iff.mp H
    obtain ⟨t310, A80, H⟩ := H
    replace H : (if x5_1.length < 5864062014805 then ((some (x5_1 ++ [t310] : List (List ByteArray))).bind fun y313 => ((zaz.f s0_0 x1001_1 x1002_1 4).bind fun bt316 => (if bt316.1 = true then ((zI.f k1 s0_0 bt316.2.1 bt316.2.2 4).bind fun bt319 => (zq.j1 k1 y313 bt319.1 x7_1 s0_0 bt319.2.1 bt319.2.2)) else (zq.j1 k1 y313 x6_1 x7_1 s0_0 bt316.2.1 bt316.2.2)))) else (none)) = some (r1, r2, r3) := H
    have A8 := za.mk A80
    clear A80
    by_cases c9 : x5_1.length < 5864062014805
    ·rw [if_pos c9] at H
     have LMc9 := za.mk c9
     clear c9
     obtain ⟨y313, hy313⟩ : ∃ y_ : List (List ByteArray), y_ = (x5_1 ++ [t310]) := ⟨_, rfl⟩
     replace H : ((zaz.f s0_0 x1001_1 x1002_1 4).bind fun bt316 => (if bt316.1 = true then ((zI.f k1 s0_0 bt316.2.1 bt316.2.2 4).bind fun bt319 => (zq.j1 k1 y313 bt319.1 x7_1 s0_0 bt319.2.1 bt319.2.2)) else (zq.j1 k1 y313 x6_1 x7_1 s0_0 bt316.2.1 bt316.2.2))) = some (r1, r2, r3) := by first | (rw [hy313]; with_reducible exact H) | (have H2_ := (Option.bind_some _ _).symm.trans H; rw [hy313]; with_reducible exact H2_) | (have H2_ := (Option.bind_some _ _).symm.trans H; with_reducible exact H2_) | with_reducible exact H | (rw [hy313]; exact H) | exact H
     have Ny313 := za.mk hy313
     clear hy313
     replace H := Option.bind_eq_some_iff.mp H
     obtain ⟨⟨t316, t317, t318⟩, A100, H⟩ := H
     replace H : (if t316 = true then ((zI.f k1 s0_0 t317 t318 4).bind fun bt319 => (zq.j1 k1 y313 bt319.1 x7_1 s0_0 bt319.2.1 bt319.2.2)) else (zq.j1 k1 y313 x6_1 x7_1 s0_0 t317 t318)) = some (r1, r2, r3) := H
     have A10 := za.mk A100
     clear A100
     have HC11 := za.mk H
     clear H
     obtain ⟨Ao12, co12, eo12, _⟩ := Kd.zcg HO_6.out
     subst eo12
     go_upto_if 23 with (first | ((with_reducible refine zD (f := 21) rfl ?_); refine zab (some 19) rfl rfl Try.func21 (by kernel_rfl) rfl #[.slice Ao12 x6_1.length co12] rfl (by (try simp only [List.map_toArray, List.map_cons, List.map_nil]); first | done | rfl | (simp only [List.length_drop, List.length_take]; rfl)) ?_; (with_reducible refine (zaI.calls _ _ x6_1 t310 _ ?side1 ?side2 A8.out).mono ?_); (case side1 => repeat (first | exact (Kd.zcu HO_6.out).2.2 | (with_reducible refine Kd.zad ?_ _) | (with_reducible refine Kd.zae ?_ _) | (with_reducible refine Kd.zal ?_))); (case side2 => exact (Kd.zcu HO_6.out).2.1); rintro e w13 ⟨v311, rfl, ho0, hb⟩; refine ⟨_, rfl, ?_⟩; have n0_ := za.mk (Kd.zeq (by (with_reducible repeat (first | apply Kd.zas | apply Kd.zat | apply Kd.zax)); exact HO_5.out) (Kd.zcj ho0) hb); have n1_ := za.mk (Kd.zer (by (with_reducible repeat (first | apply Kd.zaZ | apply Kd.za1 | apply Kd.za5)); exact HO_6.out) (Kd.zcj ho0) hb); have n2_ := za.mk (Kd.zaV (Kd.zdv ho0 (Kd.zeV (by (with_reducible repeat (first | apply Kd.zaZ | apply Kd.za1 | apply Kd.za5)); exact HO_6.out))) (zb0 (w := w) (g := g) (row := none) (by repeat (first | (with_reducible first | exact HK.out | apply zx.zaT | apply zW | apply zZ | apply zX) | exact HK.out)))); have n3_ := za.mk (zk.below (by repeat (first | (with_reducible first | exact HI0.out | apply zk.alloc | apply zk.drewN | apply zk.drew | apply zk.zan | apply zk.zam) | exact HI0.out)) hb); have n4_ := za.mk (zx.trans (by repeat (first | (with_reducible first | exact HK.out | apply zx.zaT | apply zW | apply zZ | apply zX) | exact HK.out)) (zx.of_below hb g none) (.inl rfl)); have n5_ := za.mk (zu (by repeat (first | (with_reducible first | exact HB.out | apply ze | apply zb | apply zf | refine zi ?_ (zk.ge HI0.out)) | exact HB.out)) hb); clear HO_5; clear HO_6; clear HI0; clear HK; clear HB; have HO_5 := n0_; have HO_6 := n1_; have HO312 := n2_; have HI0 := n3_; have HK := n4_; have HB := n5_; clear n0_ n1_ n2_ n3_ n4_ n5_; (try clear hb); (try clear hb2); (try clear hk); (try clear hi); (try clear ho0); obtain ⟨Ao15, co15, eo15⟩ := Kd.za0 HO312.out; subst eo15) | ((with_reducible refine zbm (b := .append) (xs := #[.tmp 17, .tmp 20]) rfl ?_); at_builtin; refine Kd.zhm (Kd.slice 9 Kd.string) w.heap.size rfl (.tmp 17) (.tmp 20) 29 22 (.slice none 0 0) 24 rfl Try.underlying29 zie rfl (by decide) (by omega) u5 x5_1 t310 [.slice Ao15 t310.length co15] (fun k_ => some k_ ≠ (.slice Ao12 x6_1.length co12 : Value).ownBlock) (fun k_ => some k_ = (.slice Ao15 t310.length co15 : Value).ownBlock) rfl rfl ?aP (fun k_ hk_ => ((Kd.zau (ok' := fun k_ => ((fun k_ => some k_ ≠ (.slice Ao12 x6_1.length co12 : Value).ownBlock)) k_ ∧ some k_ ≠ (u5 : Value).ownBlock) (Kd.zfO (HO312.out) (Kd.ze0 HO_5.out) (by decide)) (fun k_ hk => ⟨hk.1.2, hk.2⟩))).1 k_ hk_.symm) ?aF ?aO (Below.refl _ _) ?aS ?aL ?_; (case aP => exact Kd.ziR (Kd.zau (Kd.zgg rfl (Kd.zau (ok' := fun k_ => ((fun k_ => some k_ ≠ (.slice Ao12 x6_1.length co12 : Value).ownBlock)) k_ ∧ some k_ ≠ (u5 : Value).ownBlock) (Kd.zfO (HO312.out) (Kd.ze0 HO_5.out) (by decide)) (fun k_ hk => ⟨hk.1.2, hk.2⟩))) (fun _ h_ => h_))); (case aF => exact (fun k_ hk => Kd.fresh' (Kd.zeV (by (with_reducible repeat (first | apply Kd.zaZ | apply Kd.za1 | apply Kd.za5)); exact HO_6.out)) k_ hk)); (case aO => exact (by (with_reducible repeat (first | apply Kd.zas | apply Kd.zat | apply Kd.zax)); exact Kd.zbt HO_5.out (fun k_ hk => ⟨hk.1, fun e_ => hk.2 e_⟩))); (case aS => exact (zb0 (w := w) (g := g) (row := none) (by repeat (first | (with_reducible first | exact HK.out | apply zx.zaT | apply zW | apply zZ | apply zX) | exact HK.out)))); (case aL => have := LMc9.out; omega); intro v314 w14 ho hb hg hat; rw [← Ny313.out] at ho; have n0_ := za.mk (Kd.zhU (by (with_reducible repeat (first | apply Kd.zaZ | apply Kd.za1 | apply Kd.za5)); exact HO_6.out) (Kd.ze0 (by (with_reducible repeat (first | apply Kd.zas | apply Kd.zat | apply Kd.zax)); exact HO_5.out)) (by decide) hg); have n1_ := za.mk (zk.grown (by repeat (first | (with_reducible first | exact HI0.out | apply zk.alloc | apply zk.drewN | apply zk.drew | apply zk.zan | apply zk.zam) | exact HI0.out)) hg (zk.zh6 HI0.out HO_5.out (by decide))); have n2_ := za.mk (zbR (by repeat (first | (with_reducible first | exact HB.out | apply ze | apply zb | apply zf | refine zi ?_ (zk.ge HI0.out)) | exact HB.out)) HL.out hb); have n3_ := za.mk (zx.trans (by repeat (first | (with_reducible first | exact HK.out | apply zx.zaT | apply zW | apply zZ | apply zX) | exact HK.out)) (zx.zdh hg g) (Kd.zh8 HO_5.out)); have n4_ := za.mk (ho); clear HO_6; clear HI0; clear HB; clear HK; clear HO_5; clear HO312; have HO_6 := n0_; have HI0 := n1_; have HB := n2_; have HK := n3_; have HO315 := n4_; clear n0_ n1_ n2_ n3_ n4_; clear ho hb hg hat) | ((with_reducible refine zD (f := 49) rfl ?_); refine zab (some 23) rfl rfl Try.func49 (by kernel_rfl) rfl #[.pointer (some ⟨g, 0, none⟩), .int .i64 4] rfl (by (try simp only [List.map_toArray, List.map_cons, List.map_nil]); first | done | rfl | (simp only [List.length_drop, List.length_take]; rfl)) ?_; (with_reducible refine (zaz.calls g s0_0 x1001_1 x1002_1 4 t316 t317 t318 w0 _ ?side1 ?side2 A10.out).mono ?_); (case side1 => repeat (first | (with_reducible first | exact HI0.out | apply zk.alloc | apply zk.drewN | apply zk.drew | apply zk.zan | apply zk.zam) | exact HI0.out)); (case side2 => repeat (first | (with_reducible first | exact HB.out | apply ze | apply zb | apply zf | refine zi ?_ (zk.ge HI0.out)) | exact HB.out)); rintro e w16 ⟨rfl, hi, hb, hk⟩; refine ⟨_, rfl, ?_⟩; have n0_ := za.mk (Kd.zbM (Kd.zc1 (zk.zcV (show zk w0 _ g s0_0 x1001_1 x1002_1 from by repeat (first | (with_reducible first | exact HI0.out | apply zk.alloc | apply zk.drewN | apply zk.drew | apply zk.zan | apply zk.zam) | exact HI0.out)) (by (with_reducible repeat (first | apply Kd.zaZ | apply Kd.za1 | apply Kd.za5)); exact HO_6.out) (by decide)) hk (fun _ h => h.2)) (fun _ h => h.1)); have n1_ := za.mk (Kd.zbt (Kd.zcU (zk.zcC (show zk w0 _ g s0_0 x1001_1 x1002_1 from by repeat (first | (with_reducible first | exact HI0.out | apply zk.alloc | apply zk.drewN | apply zk.drew | apply zk.zan | apply zk.zam) | exact HI0.out)) (by (with_reducible repeat (first | apply Kd.zas | apply Kd.zat | apply Kd.zax)); exact HO315.out) (by decide)) hk (fun _ h => h.2)) (fun _ h => h.1)); have n2_ := za.mk (zx.trans (by repeat (first | (with_reducible first | exact HK.out | apply zx.zaT | apply zW | apply zZ | apply zX) | exact HK.out)) hk (.inl rfl)); have n3_ := za.mk (hb); have n4_ := za.mk (hi); clear HO_6; clear HO315; clear HK; clear HB; clear HI0; have HO_6 := n0_; have HO315 := n1_; have HK := n2_; have HB := n3_; have HI0 := n4_; clear n0_ n1_ n2_ n3_ n4_; (try clear hb); (try clear hb2); (try clear hk); (try clear hi)))
     (try simp only [Act.put, List.setIfInBounds_toArray, List.set_cons_zero, List.set_cons_succ])
     go_cut [6] (fun v6 wc => ∃ (kq : Nat) (x6_10 : List ByteArray) (x1001_10 : Int) (x1002_10 : Int), za (zq.j1 kq y313 x6_10 x7_1 s0_0 x1001_10 x1002_10 = some (r1, r2, r3)) ∧ za (kq ≤ k1) ∧ za (Kd.S (Kd.slice 9 Kd.string) 22 wc w.heap.size (fun k_ => some k_ ≠ (v6 : Value).ownBlock) v314 y313) ∧ za (Kd.Q Kd.string 9 wc w.heap.size (fun _ => True) v6 x6_10) ∧ za (zk w0 wc g s0_0 x1001_10 x1002_10) ∧ za (zx w wc g none) ∧ za (Below w0.heap.size w0 wc))
     case first =>
      have H := HC11.out
      clear HC11
      by_cases c17 : t316 = true
      ·subst c17
       have H1 : ((zI.f k1 s0_0 t317 t318 4).bind fun bt319 => (zq.j1 k1 y313 bt319.1 x7_1 s0_0 bt319.2.1 bt319.2.2)) = some (r1, r2, r3) := by rw [if_pos rfl] at H; exact H
       clear H
       have H := H1
       clear H1
       replace H := Option.bind_eq_some_iff.mp H
       obtain ⟨⟨t319, t322, t323⟩, A180, H⟩ := H
       replace H : (zq.j1 k1 y313 t319 x7_1 s0_0 t322 t323) = some (r1, r2, r3) := H
       have A18 := za.mk A180
       clear A180
       have H' := za.mk H
       clear H
       go_wp2_with (first | ((with_reducible refine zD (f := 20) rfl ?_); refine zab (some 25) rfl rfl Try.func20 (by kernel_rfl) rfl #[.pointer (some ⟨g, 0, none⟩), .int .i64 4] rfl (by (try simp only [List.map_toArray, List.map_cons, List.map_nil]); first | done | rfl | (simp only [List.length_drop, List.length_take]; rfl)) ?_; (with_reducible refine (zI.calls k1 g s0_0 t317 t318 4 t319 t322 t323 w0 _ ?side1 ?side2 A18.out).mono ?_); (case side1 => repeat (first | (with_reducible first | exact HI0.out | apply zk.alloc | apply zk.drewN | apply zk.drew | apply zk.zan | apply zk.zam) | exact HI0.out)); (case side2 => repeat (first | (with_reducible first | exact HB.out | apply ze | apply zb | apply zf | refine zi ?_ (zk.ge HI0.out)) | exact HB.out)); rintro e w19 ⟨v320, rfl, ho0, hi, hb, hk⟩; refine ⟨_, rfl, ?_⟩; have n0_ := za.mk (Kd.zbM (Kd.zif (Kd.zih (zk.zcV (show zk w0 _ g s0_0 t317 t318 from by repeat (first | (with_reducible first | exact HI0.out | apply zk.alloc | apply zk.drewN | apply zk.drew | apply zk.zan | apply zk.zam) | exact HI0.out)) (by (with_reducible repeat (first | apply Kd.zaZ | apply Kd.za1 | apply Kd.za5)); exact HO_6.out) (by decide)) hk) (Kd.zcj ho0)) (fun _ h_ => h_.1)); have n1_ := za.mk (Kd.zbt (Kd.zgN (Kd.zgR (zk.zcC (show zk w0 _ g s0_0 t317 t318 from by repeat (first | (with_reducible first | exact HI0.out | apply zk.alloc | apply zk.drewN | apply zk.drew | apply zk.zan | apply zk.zam) | exact HI0.out)) (by (with_reducible repeat (first | apply Kd.zas | apply Kd.zat | apply Kd.zax)); exact HO315.out) (by decide)) hk) (Kd.zcj ho0)) (fun _ h_ => h_.1)); have n2_ := za.mk (Kd.zaV (Kd.zdv ho0 (Kd.zeV (by (with_reducible repeat (first | apply Kd.zaZ | apply Kd.za1 | apply Kd.za5)); exact HO_6.out))) (zb0 (w := w) (g := g) (row := none) (by repeat (first | (with_reducible first | exact HK.out | apply zx.zaT | apply zW | apply zZ | apply zX) | exact HK.out)))); have n3_ := za.mk (zx.trans (by repeat (first | (with_reducible first | exact HK.out | apply zx.zaT | apply zW | apply zZ | apply zX) | exact HK.out)) hk (.inl rfl)); have n4_ := za.mk (hb); have n5_ := za.mk (hi); clear HO_6; clear HO315; clear HK; clear HB; clear HI0; have HO_6 := n0_; have HO315 := n1_; have HO321 := n2_; have HK := n3_; have HB := n4_; have HI0 := n5_; clear n0_ n1_ n2_ n3_ n4_ n5_; (try clear hb); (try clear hb2); (try clear hk); (try clear hi); (try clear ho0)))
       go_meet
       case rel => exact ⟨_, (t319), (t322), (t323), H', ⟨by have := HK1.out; first | omega | exact Nat.le_refl _⟩, ⟨by (with_reducible repeat (first | apply Kd.zas | apply Kd.zat | apply Kd.zax)); exact Kd.zbt HO315.out (fun _ hk => hk.2)⟩, ⟨Kd.zdT (by (with_reducible repeat (first | apply Kd.zO | apply Kd.zP | apply Kd.zN)); exact Kd.zau HO321.out (fun _ hk => trivial))⟩, ⟨by repeat (first | (with_reducible first | exact HI0.out | apply zk.alloc | apply zk.drewN | apply zk.drew | apply zk.zan | apply zk.zam) | exact HI0.out)⟩, ⟨by repeat (first | (with_reducible first | exact HK.out | apply zx.zaT | apply zW | apply zZ | apply zX) | exact HK.out)⟩, ⟨by repeat (first | (with_reducible first | exact HB.out | apply ze | apply zb | apply zf | refine zi ?_ (zk.ge HI0.out)) | exact HB.out)⟩⟩
      ·replace c17 := Bool.eq_false_iff.mpr c17
       subst c17
       have H1 : (zq.j1 k1 y313 x6_1 x7_1 s0_0 t317 t318) = some (r1, r2, r3) := by rw [if_neg (show ¬ (false = true) by decide)] at H; exact H
       clear H
       have H := H1
       clear H1
       have H' := za.mk H
       clear H
       go_wp2
       go_meet
       case rel => exact ⟨_, (x6_1), (t317), (t318), H', ⟨by have := HK1.out; first | omega | exact Nat.le_refl _⟩, ⟨by (with_reducible repeat (first | apply Kd.zas | apply Kd.zat | apply Kd.zax)); exact HO315.out⟩, ⟨by (with_reducible repeat (first | apply Kd.zaZ | apply Kd.za1 | apply Kd.za5)); exact Kd.zbM HO_6.out (fun _ hk => trivial)⟩, ⟨by repeat (first | (with_reducible first | exact HI0.out | apply zk.alloc | apply zk.drewN | apply zk.drew | apply zk.zan | apply zk.zam) | exact HI0.out)⟩, ⟨by repeat (first | (with_reducible first | exact HK.out | apply zx.zaT | apply zW | apply zZ | apply zX) | exact HK.out)⟩, ⟨by repeat (first | (with_reducible first | exact HB.out | apply ze | apply zb | apply zf | refine zi ?_ (zk.ge HI0.out)) | exact HB.out)⟩⟩
     case rest =>
      clear HC11
      try clear c1
      try clear c2
      try clear p2
      try clear c3
      try clear c4
      try clear c7
      try clear c7b0
      try clear c9
      try clear c17
      try clear p2
      obtain ⟨kq, x6_10, x1001_10, x1002_10, HA, HJ10, HO_5, HO_6, HI0, HK, HB⟩ := hcut
      cases kq with
      | zero => exact absurd HA.out (by simp [zq.j1])
      | succ kj10 =>
       have H := HA.out
       clear HA
       simp only [zq.j1] at H
       have HC20 := za.mk H
       clear H
       go_upto_region 9 with (fail)
       go_cut [32] (fun v32 wc => ∃ (kq : Nat) (x32_19 : Bool) (x1001_19 : Int) (x1002_19 : Int), v32 = .bool x32_19 ∧ za (zq.j2 kq y313 x6_10 x7_1 x32_19 s0_0 x1001_19 x1002_19 = some (r1, r2, r3)) ∧ za (kq ≤ kj10) ∧ za (Kd.S (Kd.slice 9 Kd.string) 22 wc w.heap.size (fun k_ => some k_ ≠ (u6 : Value).ownBlock) v314 y313) ∧ za (Kd.Q Kd.string 9 wc w.heap.size (fun _ => True) u6 x6_10) ∧ za (zk w0 wc g s0_0 x1001_19 x1002_19) ∧ za (zx w wc g none) ∧ za (Below w0.heap.size w0 wc))
       case first =>
        have H := HC20.out
        clear HC20
        by_cases c21 : (x6_10.length : Int) > 0
        ·rw [if_pos c21] at H
         have c21b0 : decide (0 < (x6_10.length : Int)) = true := decide_eq_true c21
         have c21b1 : decide (0 < x6_10.length) = true := decide_eq_true (by omega)
         clear c21
         (first | rw [c21b0] | (simp only [zw, zy]; rw [c21b0]) | skip)
         replace H := Option.bind_eq_some_iff.mp H
         obtain ⟨⟨t324, t325, t326⟩, A220, H⟩ := H
         replace H : (zq.j2 kj10 y313 x6_10 x7_1 t324 s0_0 t325 t326) = some (r1, r2, r3) := H
         have A22 := za.mk A220
         clear A220
         have H' := za.mk H
         clear H
         obtain ⟨Ao23, co23, eo23, _⟩ := Kd.zcg HO_6.out
         subst eo23
         go_wp2_with (first | (go_at_call 49; (with_reducible refine (zaz.calls g s0_0 x1001_10 x1002_10 2 t324 t325 t326 w0 _ ?side1 ?side2 A22.out).mono ?_); (case side1 => repeat (first | (with_reducible first | exact HI0.out | apply zk.alloc | apply zk.drewN | apply zk.drew | apply zk.zan | apply zk.zam) | exact HI0.out)); (case side2 => repeat (first | (with_reducible first | exact HB.out | apply ze | apply zb | apply zf | refine zi ?_ (zk.ge HI0.out)) | exact HB.out)); rintro e w24 ⟨rfl, hi, hb, hk⟩; have n0_ := za.mk (Kd.zbt (Kd.zcU (zk.zcC (show zk w0 _ g s0_0 x1001_10 x1002_10 from by repeat (first | (with_reducible first | exact HI0.out | apply zk.alloc | apply zk.drewN | apply zk.drew | apply zk.zan | apply zk.zam) | exact HI0.out)) (by (with_reducible repeat (first | apply Kd.zas | apply Kd.zat | apply Kd.zax)); exact HO_5.out) (by decide)) hk (fun _ h => h.2)) (fun _ h => h.1)); have n1_ := za.mk (Kd.zbM (Kd.zc1 (zk.zcV (show zk w0 _ g s0_0 x1001_10 x1002_10 from by repeat (first | (with_reducible first | exact HI0.out | apply zk.alloc | apply zk.drewN | apply zk.drew | apply zk.zan | apply zk.zam) | exact HI0.out)) (by (with_reducible repeat (first | apply Kd.zaZ | apply Kd.za1 | apply Kd.za5)); exact HO_6.out) (by decide)) hk (fun _ h => h.2)) (fun _ h => h.1)); have n2_ := za.mk (zx.trans (by repeat (first | (with_reducible first | exact HK.out | apply zx.zaT | apply zW | apply zZ | apply zX) | exact HK.out)) hk (.inl rfl)); have n3_ := za.mk (hb); have n4_ := za.mk (hi); clear HO_5; clear HO_6; clear HK; clear HB; clear HI0; have HO_5 := n0_; have HO_6 := n1_; have HK := n2_; have HB := n3_; have HI0 := n4_; clear n0_ n1_ n2_ n3_ n4_; (try clear hb); (try clear hb2); (try clear hk); (try clear hi)))
         go_meet
         case rel => exact ⟨_, (t324), (t325), (t326), (by first | rfl | (simp; done) | (simp [*]; done)), H', ⟨by have := HK1.out; have := HJ10.out; first | omega | exact Nat.le_refl _⟩, ⟨by (with_reducible repeat (first | apply Kd.zas | apply Kd.zat | apply Kd.zax)); exact HO_5.out⟩, ⟨by (with_reducible repeat (first | apply Kd.zaZ | apply Kd.za1 | apply Kd.za5)); exact HO_6.out⟩, ⟨by repeat (first | (with_reducible first | exact HI0.out | apply zk.alloc | apply zk.drewN | apply zk.drew | apply zk.zan | apply zk.zam) | exact HI0.out)⟩, ⟨by repeat (first | (with_reducible first | exact HK.out | apply zx.zaT | apply zW | apply zZ | apply zX) | exact HK.out)⟩, ⟨by repeat (first | (with_reducible first | exact HB.out | apply ze | apply zb | apply zf | refine zi ?_ (zk.ge HI0.out)) | exact HB.out)⟩⟩
        ·rw [if_neg c21] at H
         have c21b0 : decide (0 < (x6_10.length : Int)) = false := decide_eq_false c21
         have c21b1 : decide (0 < x6_10.length) = false := decide_eq_false (by omega)
         clear c21
         (first | rw [c21b0] | (simp only [zw, zy]; rw [c21b0]) | skip)
         have H' := za.mk H
         clear H
         obtain ⟨Ao25, co25, eo25, _⟩ := Kd.zcg HO_6.out
         subst eo25
         go_wp2
         go_meet
         case rel => exact ⟨_, (false), (x1001_10), (x1002_10), (by first | rfl | (simp; done) | (simp [*]; done)), H', ⟨by have := HK1.out; have := HJ10.out; first | omega | exact Nat.le_refl _⟩, ⟨by (with_reducible repeat (first | apply Kd.zas | apply Kd.zat | apply Kd.zax)); exact HO_5.out⟩, ⟨by (with_reducible repeat (first | apply Kd.zaZ | apply Kd.za1 | apply Kd.za5)); exact HO_6.out⟩, ⟨by repeat (first | (with_reducible first | exact HI0.out | apply zk.alloc | apply zk.drewN | apply zk.drew | apply zk.zan | apply zk.zam) | exact HI0.out)⟩, ⟨by repeat (first | (with_reducible first | exact HK.out | apply zx.zaT | apply zW | apply zZ | apply zX) | exact HK.out)⟩, ⟨by repeat (first | (with_reducible first | exact HB.out | apply ze | apply zb | apply zf | refine zi ?_ (zk.ge HI0.out)) | exact HB.out)⟩⟩
       case rest =>
        clear HC20
        try clear c1
        try clear c2
        try clear p2
        try clear c3
        try clear c4
        try clear c7
        try clear c7b0
        try clear c9
        try clear c17
        try clear c20
        try clear c21
        try clear c21b0
        try clear c21b1
        try clear p2
        obtain ⟨kq, x32_19, x1001_19, x1002_19, rfl, HA, HJ19, HO_5, HO_6, HI0, HK, HB⟩ := hcut
        cases kq with
        | zero => exact absurd HA.out (by simp [zq.j2])
        | succ kj19 =>
         have H := HA.out
         clear HA
         simp only [zq.j2] at H
         have HC26 := za.mk H
         clear H
         go_upto_if 32 with (fail)
         go_cut [6] (fun v6 wc => ∃ (kq : Nat) (x6_25 : List ByteArray) (x1001_25 : Int) (x1002_25 : Int), za (zq.j3 kq y313 x6_25 x7_1 s0_0 x1001_25 x1002_25 = some (r1, r2, r3)) ∧ za (kq ≤ kj19) ∧ za (Kd.S (Kd.slice 9 Kd.string) 22 wc w.heap.size (fun k_ => some k_ ≠ (v6 : Value).ownBlock) v314 y313) ∧ za (Kd.Q Kd.string 9 wc w.heap.size (fun _ => True) v6 x6_25) ∧ za (zk w0 wc g s0_0 x1001_25 x1002_25) ∧ za (zx w wc g none) ∧ za (Below w0.heap.size w0 wc))
         case first =>
          have H := HC26.out
          clear HC26
          by_cases c27 : x32_19 = true
          ·subst c27
           have H1 : ((zaI.f x6_10).bind fun t327 => ((zaj.f s0_0 x1001_19 x1002_19 (wrap64 ((t327.length : Int) - 1))).bind fun bt330 => ((zaE.f s0_0 bt330.2.1 bt330.2.2).bind fun bt333 => (if 0 ≤ bt330.1 then (if bt330.1 < (t327.length : Int) then (zq.j3 kj19 y313 (t327.set (bt330.1 : Int).toNat bt333.1) x7_1 s0_0 bt333.2.1 bt333.2.2) else (none)) else (none))))) = some (r1, r2, r3) := by rw [if_pos rfl] at H; exact H
           clear H
           have H := H1
           clear H1
           replace H := Option.bind_eq_some_iff.mp H
           obtain ⟨t327, A280, H⟩ := H
           replace H : ((zaj.f s0_0 x1001_19 x1002_19 (wrap64 ((t327.length : Int) - 1))).bind fun bt330 => ((zaE.f s0_0 bt330.2.1 bt330.2.2).bind fun bt333 => (if 0 ≤ bt330.1 then (if bt330.1 < (t327.length : Int) then (zq.j3 kj19 y313 (t327.set (bt330.1 : Int).toNat bt333.1) x7_1 s0_0 bt333.2.1 bt333.2.2) else (none)) else (none)))) = some (r1, r2, r3) := H
           have A28 := za.mk A280
           clear A280
           replace H := Option.bind_eq_some_iff.mp H
           obtain ⟨⟨t330, t331, t332⟩, A290, H⟩ := H
           replace H : ((zaE.f s0_0 t331 t332).bind fun bt333 => (if 0 ≤ t330 then (if t330 < (t327.length : Int) then (zq.j3 kj19 y313 (t327.set (t330 : Int).toNat bt333.1) x7_1 s0_0 bt333.2.1 bt333.2.2) else (none)) else (none))) = some (r1, r2, r3) := H
           have A29 := za.mk A290
           clear A290
           replace H := Option.bind_eq_some_iff.mp H
           obtain ⟨⟨t333, t334, t335⟩, A300, H⟩ := H
           replace H : (if 0 ≤ t330 then (if t330 < (t327.length : Int) then (zq.j3 kj19 y313 (t327.set (t330 : Int).toNat t333) x7_1 s0_0 t334 t335) else (none)) else (none)) = some (r1, r2, r3) := H
           have A30 := za.mk A300
           clear A300
           by_cases c31 : 0 ≤ t330
           ·rw [if_pos c31] at H
            have c31b0 : decide (0 ≤ t330) = true := decide_eq_true c31
            clear c31
            (first | rw [c31b0] | (simp only [zw, zy]; rw [c31b0]) | skip)
            by_cases c32 : t330 < (t327.length : Int)
            ·rw [if_pos c32] at H
             have c32b0 : decide (t330 < (t327.length : Int)) = true := decide_eq_true c32
             clear c32
             obtain ⟨y336, hy336⟩ : ∃ y_ : List ByteArray, y_ = (t327.set (t330 : Int).toNat t333) := ⟨_, rfl⟩
             replace H : (zq.j3 kj19 y313 y336 x7_1 s0_0 t334 t335) = some (r1, r2, r3) := by first | (rw [hy336]; with_reducible exact H) | (have H2_ := (Option.bind_some _ _).symm.trans H; rw [hy336]; with_reducible exact H2_) | (have H2_ := (Option.bind_some _ _).symm.trans H; with_reducible exact H2_) | with_reducible exact H | (rw [hy336]; exact H) | exact H
             have Ny336 := za.mk hy336
             clear hy336
             have H' := za.mk H
             clear H
             obtain ⟨Ao34, co34, eo34, _⟩ := Kd.zcg HO_6.out
             subst eo34
             go_wp2_with (first | ((with_reducible refine zD (f := 21) rfl ?_); refine zab (some 34) rfl rfl Try.func21 (by kernel_rfl) rfl #[.slice Ao34 x6_10.length co34] rfl (by (try simp only [List.map_toArray, List.map_cons, List.map_nil]); first | done | rfl | (simp only [List.length_drop, List.length_take]; rfl)) ?_; (with_reducible refine (zaI.calls _ _ x6_10 t327 _ ?side1 ?side2 A28.out).mono ?_); (case side1 => repeat (first | exact (Kd.zcu HO_6.out).2.2 | (with_reducible refine Kd.zad ?_ _) | (with_reducible refine Kd.zae ?_ _) | (with_reducible refine Kd.zal ?_))); (case side2 => exact (Kd.zcu HO_6.out).2.1); rintro e w35 ⟨v328, rfl, ho0, hb⟩; refine ⟨_, rfl, ?_⟩; have n0_ := za.mk (Kd.zeq (by (with_reducible repeat (first | apply Kd.zas | apply Kd.zat | apply Kd.zax)); exact HO_5.out) (Kd.zcj ho0) hb); have n1_ := za.mk (Kd.zer (by (with_reducible repeat (first | apply Kd.zaZ | apply Kd.za1 | apply Kd.za5)); exact HO_6.out) (Kd.zcj ho0) hb); have n2_ := za.mk (Kd.zaV (Kd.zdv ho0 (Kd.zeV (by (with_reducible repeat (first | apply Kd.zaZ | apply Kd.za1 | apply Kd.za5)); exact HO_6.out))) (zb0 (w := w) (g := g) (row := none) (by repeat (first | (with_reducible first | exact HK.out | apply zx.zaT | apply zW | apply zZ | apply zX) | exact HK.out)))); have n3_ := za.mk (zk.below (by repeat (first | (with_reducible first | exact HI0.out | apply zk.alloc | apply zk.drewN | apply zk.drew | apply zk.zan | apply zk.zam) | exact HI0.out)) hb); have n4_ := za.mk (zx.trans (by repeat (first | (with_reducible first | exact HK.out | apply zx.zaT | apply zW | apply zZ | apply zX) | exact HK.out)) (zx.of_below hb g none) (.inl rfl)); have n5_ := za.mk (zu (by repeat (first | (with_reducible first | exact HB.out | apply ze | apply zb | apply zf | refine zi ?_ (zk.ge HI0.out)) | exact HB.out)) hb); clear HO_5; clear HO_6; clear HI0; clear HK; clear HB; have HO_5 := n0_; have HO_6 := n1_; have HO329 := n2_; have HI0 := n3_; have HK := n4_; have HB := n5_; clear n0_ n1_ n2_ n3_ n4_ n5_; (try clear hb); (try clear hb2); (try clear hk); (try clear hi); (try clear ho0); obtain ⟨Ao36, co36, eo36⟩ := Kd.za0 HO329.out; subst eo36) | ((with_reducible refine zD (f := 28) rfl ?_); refine zab (some 40) rfl rfl Try.func28 (by kernel_rfl) rfl #[.pointer (some ⟨g, 0, none⟩), .int .i64 (wrap64 ((t327.length : Int) - 1))] rfl (by (try simp only [List.map_toArray, List.map_cons, List.map_nil]); first | done | rfl | (simp only [List.length_drop, List.length_take]; rfl)) ?_; (with_reducible refine (zaj.calls g s0_0 x1001_19 x1002_19 (wrap64 ((t327.length : Int) - 1)) t330 t331 t332 w0 _ ?side1 ?side2 A29.out).mono ?_); (case side1 => repeat (first | (with_reducible first | exact HI0.out | apply zk.alloc | apply zk.drewN | apply zk.drew | apply zk.zan | apply zk.zam) | exact HI0.out)); (case side2 => repeat (first | (with_reducible first | exact HB.out | apply ze | apply zb | apply zf | refine zi ?_ (zk.ge HI0.out)) | exact HB.out)); rintro e w37 ⟨rfl, hi, hb, hk⟩; refine ⟨_, rfl, ?_⟩; have n0_ := za.mk (Kd.zbt (Kd.zcU (zk.zcC (show zk w0 _ g s0_0 x1001_19 x1002_19 from by repeat (first | (with_reducible first | exact HI0.out | apply zk.alloc | apply zk.drewN | apply zk.drew | apply zk.zan | apply zk.zam) | exact HI0.out)) (by (with_reducible repeat (first | apply Kd.zas | apply Kd.zat | apply Kd.zax)); exact HO_5.out) (by decide)) hk (fun _ h => h.2)) (fun _ h => h.1)); have n1_ := za.mk (Kd.zbM (Kd.zc1 (zk.zcV (show zk w0 _ g s0_0 x1001_19 x1002_19 from by repeat (first | (with_reducible first | exact HI0.out | apply zk.alloc | apply zk.drewN | apply zk.drew | apply zk.zan | apply zk.zam) | exact HI0.out)) (by (with_reducible repeat (first | apply Kd.zaZ | apply Kd.za1 | apply Kd.za5)); exact HO_6.out) (by decide)) hk (fun _ h => h.2)) (fun _ h => h.1)); have n2_ := za.mk (Kd.zau (Kd.zdB (zk.apart (show zk w0 _ g s0_0 x1001_19 x1002_19 from by repeat (first | (with_reducible first | exact HI0.out | apply zk.alloc | apply zk.drewN | apply zk.drew | apply zk.zan | apply zk.zam) | exact HI0.out)) (by (with_reducible repeat (first | apply Kd.zO | apply Kd.zP | apply Kd.zN)); exact HO329.out) (by decide)) hk (fun _ h => h.2)) (fun _ h => h.1)); have n3_ := za.mk (zx.trans (by repeat (first | (with_reducible first | exact HK.out | apply zx.zaT | apply zW | apply zZ | apply zX) | exact HK.out)) hk (.inl rfl)); have n4_ := za.mk (hb); have n5_ := za.mk (hi); clear HO_5; clear HO_6; clear HO329; clear HK; clear HB; clear HI0; have HO_5 := n0_; have HO_6 := n1_; have HO329 := n2_; have HK := n3_; have HB := n4_; have HI0 := n5_; clear n0_ n1_ n2_ n3_ n4_ n5_; (try clear hb); (try clear hb2); (try clear hk); (try clear hi)) | ((with_reducible refine zD (f := 35) rfl ?_); refine zab (some 42) rfl rfl Try.func35 (by kernel_rfl) rfl #[.pointer (some ⟨g, 0, none⟩)] rfl (by (try simp only [List.map_toArray, List.map_cons, List.map_nil]); first | done | rfl | (simp only [List.length_drop, List.length_take]; rfl)) ?_; (with_reducible refine (zaE.calls g s0_0 t331 t332 t333 t334 t335 w0 _ ?side1 ?side2 A30.out).mono ?_); (case side1 => repeat (first | (with_reducible first | exact HI0.out | apply zk.alloc | apply zk.drewN | apply zk.drew | apply zk.zan | apply zk.zam) | exact HI0.out)); (case side2 => repeat (first | (with_reducible first | exact HB.out | apply ze | apply zb | apply zf | refine zi ?_ (zk.ge HI0.out)) | exact HB.out)); rintro e w38 ⟨rfl, hi, hb, hk⟩; refine ⟨_, rfl, ?_⟩; have n0_ := za.mk (Kd.zbt (Kd.zcU (zk.zcC (show zk w0 _ g s0_0 t331 t332 from by repeat (first | (with_reducible first | exact HI0.out | apply zk.alloc | apply zk.drewN | apply zk.drew | apply zk.zan | apply zk.zam) | exact HI0.out)) (by (with_reducible repeat (first | apply Kd.zas | apply Kd.zat | apply Kd.zax)); exact HO_5.out) (by decide)) hk (fun _ h => h.2)) (fun _ h => h.1)); have n1_ := za.mk (Kd.zbM (Kd.zc1 (zk.zcV (show zk w0 _ g s0_0 t331 t332 from by repeat (first | (with_reducible first | exact HI0.out | apply zk.alloc | apply zk.drewN | apply zk.drew | apply zk.zan | apply zk.zam) | exact HI0.out)) (by (with_reducible repeat (first | apply Kd.zaZ | apply Kd.za1 | apply Kd.za5)); exact HO_6.out) (by decide)) hk (fun _ h => h.2)) (fun _ h => h.1)); have n2_ := za.mk (Kd.zau (Kd.zdB (zk.apart (show zk w0 _ g s0_0 t331 t332 from by repeat (first | (with_reducible first | exact HI0.out | apply zk.alloc | apply zk.drewN | apply zk.drew | apply zk.zan | apply zk.zam) | exact HI0.out)) (by (with_reducible repeat (first | apply Kd.zO | apply Kd.zP | apply Kd.zN)); exact HO329.out) (by decide)) hk (fun _ h => h.2)) (fun _ h => h.1)); have n3_ := za.mk (zx.trans (by repeat (first | (with_reducible first | exact HK.out | apply zx.zaT | apply zW | apply zZ | apply zX) | exact HK.out)) hk (.inl rfl)); have n4_ := za.mk (hb); have n5_ := za.mk (hi); clear HO_5; clear HO_6; clear HO329; clear HK; clear HB; clear HI0; have HO_5 := n0_; have HO_6 := n1_; have HO329 := n2_; have HK := n3_; have HB := n4_; have HI0 := n5_; clear n0_ n1_ n2_ n3_ n4_ n5_; (try clear hb); (try clear hb2); (try clear hk); (try clear hi); have p33 : 0 ≤ (t330 : Int) := of_decide_eq_true (by first | (with_reducible assumption) | assumption); have q33 : (t330 : Int) < ((t327.length : Int) : Int) := of_decide_eq_true (by first | (with_reducible assumption) | assumption); obtain ⟨go33, co33, eo33, gb33, gl33, cl33, HG33⟩ := Kd.ziz HO329.out (by omega); (first | cases eo33 | (injection eo33 with ea_ en_ ec_; (first | subst ea_ | (injection ea_ with ea_; subst ea_)); subst ec_; clear en_)); have GB33 := za.mk gb33; have GG33 := za.mk HG33; clear gb33 gl33 HG33; obtain ⟨hx33_0, hf33_0⟩ := Kd.zf8 (⟨#[]⟩ : ByteArray) HO329.out (t330 : Int) p33 q33; replace p33 := eq_true p33; replace q33 := eq_true q33; have n_ := za.mk (Kd.zau (ok' := (fun k_ => some k_ ≠ (.slice Ao34 x6_10.length co34 : Value).ownBlock)) HO329.out (fun k_ hk => hk.2)); clear HO329; have HO329 := n_; clear n_; obtain ⟨hy39_, hz39_⟩ := Kd.zf8 (⟨#[]⟩ : ByteArray) HO329.out (t330 : Int) (of_decide_eq_true (by first | (with_reducible assumption) | assumption)) (of_decide_eq_true (by first | (with_reducible assumption) | assumption)); have HP39 := Kd.zim HO329.out (t330 : Int) t333) | ((with_reducible refine zgo (t := 9) (p := 43) rfl ?_); refine zfZ (t := 9) (p := 43) (v := ?vo_w40) (w1 := (w38.setCell ⟨go33, (t330 : Int).toNat, none⟩ (.string t333))) ?hg ?ho ?hn ?hr ?_; (case ho => rfl); (case hg => rfl); (case hn => rfl); (case hr => first | (go_simp; done) | (go_simp; rfl)); intro w40 hw; have hg : w38.grownBy w40 (some go33) := (by rw [hw]; exact HP39.2); have hp_ : Kd.R Kd.string 9 w40 w.heap.size (fun k_ => some k_ ≠ (.slice Ao34 x6_10.length co34 : Value).ownBlock) (.slice (some ⟨go33, 0, none⟩) t327.length co36) y336 := (by rw [hw, Ny336.out]; exact HP39.1); clear HP39; have n0_ := za.mk (Kd.zgi (v := (.slice (some ⟨go33, 0, none⟩) t327.length co36)) (v1 := (.slice (some ⟨go33, 0, none⟩) t327.length co36)) (ok := (fun k_ => some k_ ≠ (.slice Ao34 x6_10.length co34 : Value).ownBlock)) (by (with_reducible repeat (first | apply Kd.zas | apply Kd.zat | apply Kd.zax)); exact HO_5.out) hg (.inl rfl)); have n1_ := za.mk (Kd.zgc (v := (.slice (some ⟨go33, 0, none⟩) t327.length co36)) (v1 := (.slice (some ⟨go33, 0, none⟩) t327.length co36)) (ok := (fun _ => True)) (by (with_reducible repeat (first | apply Kd.zaZ | apply Kd.za1 | apply Kd.za5)); exact HO_6.out) hg (.inl rfl)); have n2_ := za.mk (zk.grown (by repeat (first | (with_reducible first | exact HI0.out | apply zk.alloc | apply zk.drewN | apply zk.drew | apply zk.zan | apply zk.zam) | exact HI0.out)) hg (zk.own_ne HI0.out HO329.out (by decide))); have n3_ := za.mk (hp_); have n4_ := za.mk ((by rw [hw]; exact zi (HB.out) (Nat.le_trans HL.out GB33.out) : Below w0.heap.size w0 w40)); have n5_ := za.mk (zx.trans (by repeat (first | (with_reducible first | exact HK.out | apply zx.zaT | apply zW | apply zZ | apply zX) | exact HK.out)) (zx.zdh hg g) (Kd.zeb HO329.out)); clear HO_5; clear HO_6; clear HI0; clear HO329; clear HB; clear HK; have HO_5 := n0_; have HO_6 := n1_; have HI0 := n2_; have HO329 := n3_; have HB := n4_; have HK := n5_; clear n0_ n1_ n2_ n3_ n4_ n5_; clear hg hw hp_))
             go_meet
             case rel => exact ⟨_, (y336), (t334), (t335), H', ⟨by have := HK1.out; have := HJ10.out; have := HJ19.out; first | omega | exact Nat.le_refl _⟩, ⟨by (with_reducible repeat (first | apply Kd.zas | apply Kd.zat | apply Kd.zax)); exact Kd.zbt HO_5.out (fun _ hk => hk.2)⟩, ⟨Kd.zdT (by (with_reducible repeat (first | apply Kd.zO | apply Kd.zP | apply Kd.zN)); exact Kd.zau HO329.out (fun _ hk => trivial))⟩, ⟨by repeat (first | (with_reducible first | exact HI0.out | apply zk.alloc | apply zk.drewN | apply zk.drew | apply zk.zan | apply zk.zam) | exact HI0.out)⟩, ⟨by repeat (first | (with_reducible first | exact HK.out | apply zx.zaT | apply zW | apply zZ | apply zX) | exact HK.out)⟩, ⟨by repeat (first | (with_reducible first | exact HB.out | apply ze | apply zb | apply zf | refine zi ?_ (zk.ge HI0.out)) | exact HB.out)⟩⟩
            ·rw [if_neg c32] at H
             exact absurd H (by simp)
           ·rw [if_neg c31] at H
            exact absurd H (by simp)
          ·replace c27 := Bool.eq_false_iff.mpr c27
           subst c27
           have H1 : (zq.j3 kj19 y313 x6_10 x7_1 s0_0 x1001_19 x1002_19) = some (r1, r2, r3) := by rw [if_neg (show ¬ (false = true) by decide)] at H; exact H
           clear H
           have H := H1
           clear H1
           have H' := za.mk H
           clear H
           go_wp2
           go_meet
           case rel => exact ⟨_, (x6_10), (x1001_19), (x1002_19), H', ⟨by have := HK1.out; have := HJ10.out; have := HJ19.out; first | omega | exact Nat.le_refl _⟩, ⟨by (with_reducible repeat (first | apply Kd.zas | apply Kd.zat | apply Kd.zax)); exact HO_5.out⟩, ⟨by (with_reducible repeat (first | apply Kd.zaZ | apply Kd.za1 | apply Kd.za5)); exact HO_6.out⟩, ⟨by repeat (first | (with_reducible first | exact HI0.out | apply zk.alloc | apply zk.drewN | apply zk.drew | apply zk.zan | apply zk.zam) | exact HI0.out)⟩, ⟨by repeat (first | (with_reducible first | exact HK.out | apply zx.zaT | apply zW | apply zZ | apply zX) | exact HK.out)⟩, ⟨by repeat (first | (with_reducible first | exact HB.out | apply ze | apply zb | apply zf | refine zi ?_ (zk.ge HI0.out)) | exact HB.out)⟩⟩
         case rest =>
          clear HC26
          try clear c1
          try clear c2
          try clear p2
          try clear c3
          try clear p3
          try clear q3
          try clear hx3
          try clear hf3
          try clear c4
          try clear p6
          try clear c7
          try clear c7b0
          try clear c9
          try clear c17
          try clear c20
          try clear c21
          try clear c21b0
          try clear c21b1
          try clear c27
          try clear c28
          try clear c31
          try clear c31b0
          try clear c32
          try clear c32b0
          try clear c33
          try clear p33
          try clear q33
          try clear hx33
          try clear hf33
          try clear c35
          try clear hx33_0
          try clear p2
          try clear p33
          try clear q33
          obtain ⟨kq, x6_25, x1001_25, x1002_25, HA, HJ25, HO_5, HO_6, HI0, HK, HB⟩ := hcut
          cases kq with
          | zero => exact absurd HA.out (by simp [zq.j3])
          | succ kj25 =>
           have H := HA.out
           clear HA
           simp only [zq.j3] at H
           have HC41 := za.mk H
           clear H
           go_upto_region 12 with (fail)
           go_cut [50] (fun v50 wc => ∃ (kq : Nat) (x50_40 : Bool) (x1001_40 : Int) (x1002_40 : Int), v50 = .bool x50_40 ∧ za (zq.j4 kq y313 x6_25 x7_1 x50_40 s0_0 x1001_40 x1002_40 = some (r1, r2, r3)) ∧ za (kq ≤ kj25) ∧ za (Kd.S (Kd.slice 9 Kd.string) 22 wc w.heap.size (fun k_ => some k_ ≠ (u6 : Value).ownBlock) v314 y313) ∧ za (Kd.Q Kd.string 9 wc w.heap.size (fun _ => True) u6 x6_25) ∧ za (zk w0 wc g s0_0 x1001_40 x1002_40) ∧ za (zx w wc g none) ∧ za (Below w0.heap.size w0 wc))
           case first =>
            have H := HC41.out
            clear HC41
            by_cases c42 : (x6_25.length : Int) > 0
            ·rw [if_pos c42] at H
             have c42b0 : decide (0 < (x6_25.length : Int)) = true := decide_eq_true c42
             have c42b1 : decide (0 < x6_25.length) = true := decide_eq_true (by omega)
             clear c42
             (first | rw [c42b0] | (simp only [zw, zy]; rw [c42b0]) | skip)
             replace H := Option.bind_eq_some_iff.mp H
             obtain ⟨⟨t337, t338, t339⟩, A430, H⟩ := H
             replace H : (zq.j4 kj25 y313 x6_25 x7_1 t337 s0_0 t338 t339) = some (r1, r2, r3) := H
             have A43 := za.mk A430
             clear A430
             have H' := za.mk H
             clear H
             obtain ⟨Ao44, co44, eo44, _⟩ := Kd.zcg HO_6.out
             subst eo44
             go_wp2_with (first | (go_at_call 49; (with_reducible refine (zaz.calls g s0_0 x1001_25 x1002_25 3 t337 t338 t339 w0 _ ?side1 ?side2 A43.out).mono ?_); (case side1 => repeat (first | (with_reducible first | exact HI0.out | apply zk.alloc | apply zk.drewN | apply zk.drew | apply zk.zan | apply zk.zam) | exact HI0.out)); (case side2 => repeat (first | (with_reducible first | exact HB.out | apply ze | apply zb | apply zf | refine zi ?_ (zk.ge HI0.out)) | exact HB.out)); rintro e w45 ⟨rfl, hi, hb, hk⟩; have n0_ := za.mk (Kd.zbt (Kd.zcU (zk.zcC (show zk w0 _ g s0_0 x1001_25 x1002_25 from by repeat (first | (with_reducible first | exact HI0.out | apply zk.alloc | apply zk.drewN | apply zk.drew | apply zk.zan | apply zk.zam) | exact HI0.out)) (by (with_reducible repeat (first | apply Kd.zas | apply Kd.zat | apply Kd.zax)); exact HO_5.out) (by decide)) hk (fun _ h => h.2)) (fun _ h => h.1)); have n1_ := za.mk (Kd.zbM (Kd.zc1 (zk.zcV (show zk w0 _ g s0_0 x1001_25 x1002_25 from by repeat (first | (with_reducible first | exact HI0.out | apply zk.alloc | apply zk.drewN | apply zk.drew | apply zk.zan | apply zk.zam) | exact HI0.out)) (by (with_reducible repeat (first | apply Kd.zaZ | apply Kd.za1 | apply Kd.za5)); exact HO_6.out) (by decide)) hk (fun _ h => h.2)) (fun _ h => h.1)); have n2_ := za.mk (zx.trans (by repeat (first | (with_reducible first | exact HK.out | apply zx.zaT | apply zW | apply zZ | apply zX) | exact HK.out)) hk (.inl rfl)); have n3_ := za.mk (hb); have n4_ := za.mk (hi); clear HO_5; clear HO_6; clear HK; clear HB; clear HI0; have HO_5 := n0_; have HO_6 := n1_; have HK := n2_; have HB := n3_; have HI0 := n4_; clear n0_ n1_ n2_ n3_ n4_; (try clear hb); (try clear hb2); (try clear hk); (try clear hi)))
             go_meet
             case rel => exact ⟨_, (t337), (t338), (t339), (by first | rfl | (simp; done) | (simp [*]; done)), H', ⟨by have := HK1.out; have := HJ10.out; have := HJ19.out; have := HJ25.out; first | omega | exact Nat.le_refl _⟩, ⟨by (with_reducible repeat (first | apply Kd.zas | apply Kd.zat | apply Kd.zax)); exact HO_5.out⟩, ⟨by (with_reducible repeat (first | apply Kd.zaZ | apply Kd.za1 | apply Kd.za5)); exact HO_6.out⟩, ⟨by repeat (first | (with_reducible first | exact HI0.out | apply zk.alloc | apply zk.drewN | apply zk.drew | apply zk.zan | apply zk.zam) | exact HI0.out)⟩, ⟨by repeat (first | (with_reducible first | exact HK.out | apply zx.zaT | apply zW | apply zZ | apply zX) | exact HK.out)⟩, ⟨by repeat (first | (with_reducible first | exact HB.out | apply ze | apply zb | apply zf | refine zi ?_ (zk.ge HI0.out)) | exact HB.out)⟩⟩
            ·rw [if_neg c42] at H
             have c42b0 : decide (0 < (x6_25.length : Int)) = false := decide_eq_false c42
             have c42b1 : decide (0 < x6_25.length) = false := decide_eq_false (by omega)
             clear c42
             (first | rw [c42b0] | (simp only [zw, zy]; rw [c42b0]) | skip)
             have H' := za.mk H
             clear H
             obtain ⟨Ao46, co46, eo46, _⟩ := Kd.zcg HO_6.out
             subst eo46
             go_wp2
             go_meet
             case rel => exact ⟨_, (false), (x1001_25), (x1002_25), (by first | rfl | (simp; done) | (simp [*]; done)), H', ⟨by have := HK1.out; have := HJ10.out; have := HJ19.out; have := HJ25.out; first | omega | exact Nat.le_refl _⟩, ⟨by (with_reducible repeat (first | apply Kd.zas | apply Kd.zat | apply Kd.zax)); exact HO_5.out⟩, ⟨by (with_reducible repeat (first | apply Kd.zaZ | apply Kd.za1 | apply Kd.za5)); exact HO_6.out⟩, ⟨by repeat (first | (with_reducible first | exact HI0.out | apply zk.alloc | apply zk.drewN | apply zk.drew | apply zk.zan | apply zk.zam) | exact HI0.out)⟩, ⟨by repeat (first | (with_reducible first | exact HK.out | apply zx.zaT | apply zW | apply zZ | apply zX) | exact HK.out)⟩, ⟨by repeat (first | (with_reducible first | exact HB.out | apply ze | apply zb | apply zf | refine zi ?_ (zk.ge HI0.out)) | exact HB.out)⟩⟩
           case rest =>
            clear HC41
            try clear c1
            try clear c2
            try clear p2
            try clear c3
            try clear p3
            try clear q3
            try clear hx3
            try clear hf3
            try clear c4
            try clear p6
            try clear c7
            try clear c7b0
            try clear c9
            try clear c17
            try clear c20
            try clear c21
            try clear c21b0
            try clear c21b1
            try clear c27
            try clear c28
            try clear c31
            try clear c31b0
            try clear c32
            try clear c32b0
            try clear c33
            try clear p33
            try clear q33
            try clear hx33
            try clear hf33
            try clear c35
            try clear c42
            try clear c42b0
            try clear c42b1
            try clear hx33_0
            try clear p2
            try clear p3
            try clear p33
            try clear p6
            try clear q3
            try clear q33
            obtain ⟨kq, x50_40, x1001_40, x1002_40, rfl, HA, HJ40, HO_5, HO_6, HI0, HK, HB⟩ := hcut
            cases kq with
            | zero => exact absurd HA.out (by simp [zq.j4])
            | succ kj40 =>
             have H := HA.out
             clear HA
             simp only [zq.j4] at H
             have HC47 := za.mk H
             clear H
             go_upto_if 50 with (fail)
             go_cut [6] (fun v6 wc => ∃ (kq : Nat) (x6_46 : List ByteArray), za (zq.j5 kq y313 x6_46 x7_1 s0_0 x1001_40 x1002_40 = some (r1, r2, r3)) ∧ za (kq ≤ kj40) ∧ za (Kd.S (Kd.slice 9 Kd.string) 22 wc w.heap.size (fun k_ => some k_ ≠ (v6 : Value).ownBlock) v314 y313) ∧ za (Kd.Q Kd.string 9 wc w.heap.size (fun _ => True) v6 x6_46) ∧ za (zk w0 wc g s0_0 x1001_40 x1002_40) ∧ za (zx w wc g none) ∧ za (Below w0.heap.size w0 wc))
             case first =>
              have H := HC47.out
              clear HC47
              by_cases c48 : x50_40 = true
              ·subst c48
               have H1 : (if 1 ≤ (x6_25.length : Int) then (zq.j5 kj40 y313 (x6_25.drop (1 : Int).toNat) x7_1 s0_0 x1001_40 x1002_40) else (none)) = some (r1, r2, r3) := by rw [if_pos rfl] at H; exact H
               clear H
               have H := H1
               clear H1
               by_cases c49 : 1 ≤ (x6_25.length : Int)
               ·rw [if_pos c49] at H
                have c49b0 := eq_true c49
                have c49b1 : decide (1 ≤ (x6_25.length : Int)) = true := decide_eq_true c49
                clear c49
                obtain ⟨y340, hy340⟩ : ∃ y_ : List ByteArray, y_ = (x6_25.drop (1 : Int).toNat) := ⟨_, rfl⟩
                replace H : (zq.j5 kj40 y313 y340 x7_1 s0_0 x1001_40 x1002_40) = some (r1, r2, r3) := by first | (rw [hy340]; with_reducible exact H) | (have H2_ := (Option.bind_some _ _).symm.trans H; rw [hy340]; with_reducible exact H2_) | (have H2_ := (Option.bind_some _ _).symm.trans H; with_reducible exact H2_) | with_reducible exact H | (rw [hy340]; exact H) | exact H
                have Ny340 := za.mk hy340
                clear hy340
                have H' := za.mk H
                clear H
                obtain ⟨Ao50, co50, eo50, _⟩ := Kd.zcg HO_6.out
                subst eo50
                have q51 : (1 : Int) ≤ ((x6_25.length : Int) : Int) := of_decide_eq_true (by first | (with_reducible assumption) | assumption)
                obtain ⟨i051, hi051, _, hsz51, _⟩ := info_parts zcK
                have hcut51 := zhx (P := Try.prog) 22 9 .i64 Try.underlying22 hi051 1 hsz51 Ao50 x6_25.length co50 1 (by omega) q51
                have hr51 := Kd.ziq (k := (1 : Int).toNat) HO_6.out (by omega)
                obtain ⟨A51, hA51⟩ : ∃ A1, A1 = (if co50 = (1 : Int).toNat then Ao50 else (Ao50 : Option Addr).map (·.add ((1 : Int).toNat * 1))) := ⟨_, rfl⟩
                obtain ⟨c51, hc51⟩ : ∃ c1, c1 = co50 - (1 : Int).toNat := ⟨_, rfl⟩
                have hy51 : y340.length = x6_25.length - (1 : Int).toNat := (by rw [Ny340.out, List.length_drop])
                rw [← Ny340.out] at hr51
                rw [← hy51, ← hA51, ← hc51] at hcut51
                replace hr51 : Kd.Q Kd.string 9 wc w.heap.size (fun _ => True) (.slice A51 y340.length c51) y340 := (by rw [hA51, hc51, hy51]; exact hr51)
                have HE51 : za ((Value.slice A51 y340.length c51).ownBlock = (.slice Ao50 x6_25.length co50 : Value).ownBlock) := ⟨by rw [hA51]; split <;> (cases (Ao50 : Option Addr) <;> rfl)⟩
                clear hy51 hi051 hsz51 HO_6 hA51 hc51
                have HO342 := za.mk hr51
                clear hr51
                replace q51 := eq_true q51
                have n_ := za.mk (Kd.zbt (ok' := fun k_ => some k_ ≠ (.slice A51 y340.length c51 : Value).ownBlock) HO_5.out (fun k_ hk => (by rw [HE51.out]; exact hk)))
                clear HO_5
                have HO_5 := n_
                clear n_
                go_wp2
                go_meet
                case rel => exact ⟨_, (y340), H', ⟨by have := HK1.out; have := HJ10.out; have := HJ19.out; have := HJ25.out; have := HJ40.out; first | omega | exact Nat.le_refl _⟩, ⟨by (with_reducible repeat (first | apply Kd.zas | apply Kd.zat | apply Kd.zax)); exact HO_5.out⟩, ⟨by (with_reducible repeat (first | apply Kd.zaZ | apply Kd.za1 | apply Kd.za5)); exact HO342.out⟩, ⟨by repeat (first | (with_reducible first | exact HI0.out | apply zk.alloc | apply zk.drewN | apply zk.drew | apply zk.zan | apply zk.zam) | exact HI0.out)⟩, ⟨by repeat (first | (with_reducible first | exact HK.out | apply zx.zaT | apply zW | apply zZ | apply zX) | exact HK.out)⟩, ⟨by repeat (first | (with_reducible first | exact HB.out | apply ze | apply zb | apply zf | refine zi ?_ (zk.ge HI0.out)) | exact HB.out)⟩⟩
               ·rw [if_neg c49] at H
                exact absurd H (by simp)
              ·replace c48 := Bool.eq_false_iff.mpr c48
               subst c48
               have H1 : (zq.j5 kj40 y313 x6_25 x7_1 s0_0 x1001_40 x1002_40) = some (r1, r2, r3) := by rw [if_neg (show ¬ (false = true) by decide)] at H; exact H
               clear H
               have H := H1
               clear H1
               have H' := za.mk H
               clear H
               go_wp2
               go_meet
               case rel => exact ⟨_, (x6_25), H', ⟨by have := HK1.out; have := HJ10.out; have := HJ19.out; have := HJ25.out; have := HJ40.out; first | omega | exact Nat.le_refl _⟩, ⟨by (with_reducible repeat (first | apply Kd.zas | apply Kd.zat | apply Kd.zax)); exact HO_5.out⟩, ⟨by (with_reducible repeat (first | apply Kd.zaZ | apply Kd.za1 | apply Kd.za5)); exact HO_6.out⟩, ⟨by repeat (first | (with_reducible first | exact HI0.out | apply zk.alloc | apply zk.drewN | apply zk.drew | apply zk.zan | apply zk.zam) | exact HI0.out)⟩, ⟨by repeat (first | (with_reducible first | exact HK.out | apply zx.zaT | apply zW | apply zZ | apply zX) | exact HK.out)⟩, ⟨by repeat (first | (with_reducible first | exact HB.out | apply ze | apply zb | apply zf | refine zi ?_ (zk.ge HI0.out)) | exact HB.out)⟩⟩
             case rest =>
              clear HC47
              try clear c1
              try clear c2
              try clear p2
              try clear c3
              try clear p3
              try clear q3
              try clear hx3
              try clear hf3
              try clear c4
              try clear c5
              try clear q5
              try clear p6
              try clear c7
              try clear c7b0
              try clear c9
              try clear c17
              try clear c20
              try clear c21
              try clear c21b0
              try clear c21b1
              try clear c27
              try clear c28
              try clear c31
              try clear c31b0
              try clear c32
              try clear c32b0
              try clear c33
              try clear p33
              try clear q33
              try clear hx33
              try clear hf33
              try clear c35
              try clear c42
              try clear c42b0
              try clear c42b1
              try clear c48
              try clear c49
              try clear c49b0
              try clear c49b1
              try clear c51
              try clear q51
              try clear hx33_0
              try clear p2
              try clear p3
              try clear p33
              try clear p6
              try clear q3
              try clear q33
              try clear q51
              obtain ⟨kq, x6_46, HA, HJ46, HO_5, HO_6, HI0, HK, HB⟩ := hcut
              cases kq with
              | zero => exact absurd HA.out (by simp [zq.j5])
              | succ kj46 =>
               have H := HA.out
               clear HA
               simp only [zq.j5] at H
               have HC52 := za.mk H
               clear H
               go_upto_region 14 with (fail)
               go_cut [59] (fun v59 wc => ∃ (kq : Nat) (x59_51 : Bool) (x1001_51 : Int) (x1002_51 : Int), v59 = .bool x59_51 ∧ za (zq.j6 kq y313 x6_46 x7_1 x59_51 s0_0 x1001_51 x1002_51 = some (r1, r2, r3)) ∧ za (kq ≤ kj46) ∧ za (Kd.S (Kd.slice 9 Kd.string) 22 wc w.heap.size (fun k_ => some k_ ≠ (u6 : Value).ownBlock) v314 y313) ∧ za (Kd.Q Kd.string 9 wc w.heap.size (fun _ => True) u6 x6_46) ∧ za (zk w0 wc g s0_0 x1001_51 x1002_51) ∧ za (zx w wc g none) ∧ za (Below w0.heap.size w0 wc))
               case first =>
                have H := HC52.out
                clear HC52
                by_cases c53 : (x6_46.length : Int) < 6
                ·rw [if_pos c53] at H
                 have c53b0 : decide ((x6_46.length : Int) < 6) = true := decide_eq_true c53
                 have c53b1 : decide (x6_46.length < 6) = true := decide_eq_true (by omega)
                 clear c53
                 (first | rw [c53b0] | (simp only [zw, zy]; rw [c53b0]) | skip)
                 replace H := Option.bind_eq_some_iff.mp H
                 obtain ⟨⟨t343, t344, t345⟩, A540, H⟩ := H
                 replace H : (zq.j6 kj46 y313 x6_46 x7_1 t343 s0_0 t344 t345) = some (r1, r2, r3) := H
                 have A54 := za.mk A540
                 clear A540
                 have H' := za.mk H
                 clear H
                 obtain ⟨Ao55, co55, eo55, _⟩ := Kd.zcg HO_6.out
                 subst eo55
                 go_wp2_with (first | (go_at_call 49; (with_reducible refine (zaz.calls g s0_0 x1001_40 x1002_40 3 t343 t344 t345 w0 _ ?side1 ?side2 A54.out).mono ?_); (case side1 => repeat (first | (with_reducible first | exact HI0.out | apply zk.alloc | apply zk.drewN | apply zk.drew | apply zk.zan | apply zk.zam) | exact HI0.out)); (case side2 => repeat (first | (with_reducible first | exact HB.out | apply ze | apply zb | apply zf | refine zi ?_ (zk.ge HI0.out)) | exact HB.out)); rintro e w56 ⟨rfl, hi, hb, hk⟩; have n0_ := za.mk (Kd.zbt (Kd.zcU (zk.zcC (show zk w0 _ g s0_0 x1001_40 x1002_40 from by repeat (first | (with_reducible first | exact HI0.out | apply zk.alloc | apply zk.drewN | apply zk.drew | apply zk.zan | apply zk.zam) | exact HI0.out)) (by (with_reducible repeat (first | apply Kd.zas | apply Kd.zat | apply Kd.zax)); exact HO_5.out) (by decide)) hk (fun _ h => h.2)) (fun _ h => h.1)); have n1_ := za.mk (Kd.zbM (Kd.zc1 (zk.zcV (show zk w0 _ g s0_0 x1001_40 x1002_40 from by repeat (first | (with_reducible first | exact HI0.out | apply zk.alloc | apply zk.drewN | apply zk.drew | apply zk.zan | apply zk.zam) | exact HI0.out)) (by (with_reducible repeat (first | apply Kd.zaZ | apply Kd.za1 | apply Kd.za5)); exact HO_6.out) (by decide)) hk (fun _ h => h.2)) (fun _ h => h.1)); have n2_ := za.mk (zx.trans (by repeat (first | (with_reducible first | exact HK.out | apply zx.zaT | apply zW | apply zZ | apply zX) | exact HK.out)) hk (.inl rfl)); have n3_ := za.mk (hb); have n4_ := za.mk (hi); clear HO_5; clear HO_6; clear HK; clear HB; clear HI0; have HO_5 := n0_; have HO_6 := n1_; have HK := n2_; have HB := n3_; have HI0 := n4_; clear n0_ n1_ n2_ n3_ n4_; (try clear hb); (try clear hb2); (try clear hk); (try clear hi)))
                 go_meet
                 case rel => exact ⟨_, (t343), (t344), (t345), (by first | rfl | (simp; done) | (simp [*]; done)), H', ⟨by have := HK1.out; have := HJ10.out; have := HJ19.out; have := HJ25.out; have := HJ40.out; have := HJ46.out; first | omega | exact Nat.le_refl _⟩, ⟨by (with_reducible repeat (first | apply Kd.zas | apply Kd.zat | apply Kd.zax)); exact HO_5.out⟩, ⟨by (with_reducible repeat (first | apply Kd.zaZ | apply Kd.za1 | apply Kd.za5)); exact HO_6.out⟩, ⟨by repeat (first | (with_reducible first | exact HI0.out | apply zk.alloc | apply zk.drewN | apply zk.drew | apply zk.zan | apply zk.zam) | exact HI0.out)⟩, ⟨by repeat (first | (with_reducible first | exact HK.out | apply zx.zaT | apply zW | apply zZ | apply zX) | exact HK.out)⟩, ⟨by repeat (first | (with_reducible first | exact HB.out | apply ze | apply zb | apply zf | refine zi ?_ (zk.ge HI0.out)) | exact HB.out)⟩⟩
                ·rw [if_neg c53] at H
                 have c53b0 : decide ((x6_46.length : Int) < 6) = false := decide_eq_false c53
                 have c53b1 : decide (x6_46.length < 6) = false := decide_eq_false (by omega)
                 clear c53
                 (first | rw [c53b0] | (simp only [zw, zy]; rw [c53b0]) | skip)
                 have H' := za.mk H
                 clear H
                 obtain ⟨Ao57, co57, eo57, _⟩ := Kd.zcg HO_6.out
                 subst eo57
                 go_wp2
                 go_meet
                 case rel => exact ⟨_, (false), (x1001_40), (x1002_40), (by first | rfl | (simp; done) | (simp [*]; done)), H', ⟨by have := HK1.out; have := HJ10.out; have := HJ19.out; have := HJ25.out; have := HJ40.out; have := HJ46.out; first | omega | exact Nat.le_refl _⟩, ⟨by (with_reducible repeat (first | apply Kd.zas | apply Kd.zat | apply Kd.zax)); exact HO_5.out⟩, ⟨by (with_reducible repeat (first | apply Kd.zaZ | apply Kd.za1 | apply Kd.za5)); exact HO_6.out⟩, ⟨by repeat (first | (with_reducible first | exact HI0.out | apply zk.alloc | apply zk.drewN | apply zk.drew | apply zk.zan | apply zk.zam) | exact HI0.out)⟩, ⟨by repeat (first | (with_reducible first | exact HK.out | apply zx.zaT | apply zW | apply zZ | apply zX) | exact HK.out)⟩, ⟨by repeat (first | (with_reducible first | exact HB.out | apply ze | apply zb | apply zf | refine zi ?_ (zk.ge HI0.out)) | exact HB.out)⟩⟩
               case rest =>
                clear HC52
                try clear c1
                try clear c2
                try clear p2
                try clear c3
                try clear p3
                try clear q3
                try clear hx3
                try clear hf3
                try clear c4
                try clear c5
                try clear q5
                try clear p6
                try clear c7
                try clear c7b0
                try clear c9
                try clear c17
                try clear c20
                try clear c21
                try clear c21b0
                try clear c21b1
                try clear c27
                try clear c28
                try clear c31
                try clear c31b0
                try clear c32
                try clear c32b0
                try clear c33
                try clear p33
                try clear q33
                try clear hx33
                try clear hf33
                try clear c35
                try clear c42
                try clear c42b0
                try clear c42b1
                try clear c48
                try clear c49
                try clear c49b0
                try clear c49b1
                try clear c51
                try clear q51
                try clear c53
                try clear c53b0
                try clear c53b1
                try clear hx33_0
                try clear p2
                try clear p3
                try clear p33
                try clear p6
                try clear q3
                try clear q33
                try clear q5
                try clear q51
                obtain ⟨kq, x59_51, x1001_51, x1002_51, rfl, HA, HJ51, HO_5, HO_6, HI0, HK, HB⟩ := hcut
                cases kq with
                | zero => exact absurd HA.out (by simp [zq.j6])
                | succ kj51 =>
                 have H := HA.out
                 clear HA
                 simp only [zq.j6] at H
                 by_cases c58 : x59_51 = true
                 ·subst c58
                  have H1 : ((zaI.f x6_46).bind fun t346 => ((zaE.f s0_0 x1001_51 x1002_51).bind fun bt349 => (if t346.length < 8796093022208 then (zq.l0 kj51 y313 (t346 ++ [bt349.1]) (wrap64 (x7_1 - 1)) s0_0 bt349.2.1 bt349.2.2) else (none)))) = some (r1, r2, r3) := by rw [if_pos rfl] at H; exact H
                  clear H
                  have H := H1
                  clear H1
                  replace H := Option.bind_eq_some_iff.mp H
                  obtain ⟨t346, A590, H⟩ := H
                  replace H : ((zaE.f s0_0 x1001_51 x1002_51).bind fun bt349 => (if t346.length < 8796093022208 then (zq.l0 kj51 y313 (t346 ++ [bt349.1]) (wrap64 (x7_1 - 1)) s0_0 bt349.2.1 bt349.2.2) else (none))) = some (r1, r2, r3) := H
                  have A59 := za.mk A590
                  clear A590
                  replace H := Option.bind_eq_some_iff.mp H
                  obtain ⟨⟨t349, t350, t351⟩, A600, H⟩ := H
                  replace H : (if t346.length < 8796093022208 then (zq.l0 kj51 y313 (t346 ++ [t349]) (wrap64 (x7_1 - 1)) s0_0 t350 t351) else (none)) = some (r1, r2, r3) := H
                  have A60 := za.mk A600
                  clear A600
                  by_cases c61 : t346.length < 8796093022208
                  ·rw [if_pos c61] at H
                   have LMc61 := za.mk c61
                   clear c61
                   obtain ⟨y352, hy352⟩ : ∃ y_ : List ByteArray, y_ = (t346 ++ [t349]) := ⟨_, rfl⟩
                   replace H : (zq.l0 kj51 y313 y352 (wrap64 (x7_1 - 1)) s0_0 t350 t351) = some (r1, r2, r3) := by first | (rw [hy352]; with_reducible exact H) | (have H2_ := (Option.bind_some _ _).symm.trans H; rw [hy352]; with_reducible exact H2_) | (have H2_ := (Option.bind_some _ _).symm.trans H; with_reducible exact H2_) | with_reducible exact H | (rw [hy352]; exact H) | exact H
                   have Ny352 := za.mk hy352
                   clear hy352
                   have H' := za.mk H
                   clear H
                   obtain ⟨Ao62, co62, eo62, _⟩ := Kd.zcg HO_6.out
                   subst eo62
                   go_wp2_with (first | ((with_reducible refine zD (f := 21) rfl ?_); refine zab (some 61) rfl rfl Try.func21 (by kernel_rfl) rfl #[.slice Ao62 x6_46.length co62] rfl (by (try simp only [List.map_toArray, List.map_cons, List.map_nil]); first | done | rfl | (simp only [List.length_drop, List.length_take]; rfl)) ?_; (with_reducible refine (zaI.calls _ _ x6_46 t346 _ ?side1 ?side2 A59.out).mono ?_); (case side1 => repeat (first | exact (Kd.zcu HO_6.out).2.2 | (with_reducible refine Kd.zad ?_ _) | (with_reducible refine Kd.zae ?_ _) | (with_reducible refine Kd.zal ?_))); (case side2 => exact (Kd.zcu HO_6.out).2.1); rintro e w63 ⟨v347, rfl, ho0, hb⟩; refine ⟨_, rfl, ?_⟩; have n0_ := za.mk (Kd.zeq (by (with_reducible repeat (first | apply Kd.zas | apply Kd.zat | apply Kd.zax)); exact HO_5.out) (Kd.zcj ho0) hb); have n1_ := za.mk (Kd.zer (by (with_reducible repeat (first | apply Kd.zaZ | apply Kd.za1 | apply Kd.za5)); exact HO_6.out) (Kd.zcj ho0) hb); have n2_ := za.mk (Kd.zaV (Kd.zdv ho0 (Kd.zeV (by (with_reducible repeat (first | apply Kd.zaZ | apply Kd.za1 | apply Kd.za5)); exact HO_6.out))) (zb0 (w := w) (g := g) (row := none) (by repeat (first | (with_reducible first | exact HK.out | apply zx.zaT | apply zW | apply zZ | apply zX) | exact HK.out)))); have n3_ := za.mk (zk.below (by repeat (first | (with_reducible first | exact HI0.out | apply zk.alloc | apply zk.drewN | apply zk.drew | apply zk.zan | apply zk.zam) | exact HI0.out)) hb); have n4_ := za.mk (zx.trans (by repeat (first | (with_reducible first | exact HK.out | apply zx.zaT | apply zW | apply zZ | apply zX) | exact HK.out)) (zx.of_below hb g none) (.inl rfl)); have n5_ := za.mk (zu (by repeat (first | (with_reducible first | exact HB.out | apply ze | apply zb | apply zf | refine zi ?_ (zk.ge HI0.out)) | exact HB.out)) hb); clear HO_5; clear HO_6; clear HI0; clear HK; clear HB; have HO_5 := n0_; have HO_6 := n1_; have HO348 := n2_; have HI0 := n3_; have HK := n4_; have HB := n5_; clear n0_ n1_ n2_ n3_ n4_ n5_; (try clear hb); (try clear hb2); (try clear hk); (try clear hi); (try clear ho0)) | ((with_reducible refine zD (f := 35) rfl ?_); refine zab (some 63) rfl rfl Try.func35 (by kernel_rfl) rfl #[.pointer (some ⟨g, 0, none⟩)] rfl (by (try simp only [List.map_toArray, List.map_cons, List.map_nil]); first | done | rfl | (simp only [List.length_drop, List.length_take]; rfl)) ?_; (with_reducible refine (zaE.calls g s0_0 x1001_51 x1002_51 t349 t350 t351 w0 _ ?side1 ?side2 A60.out).mono ?_); (case side1 => repeat (first | (with_reducible first | exact HI0.out | apply zk.alloc | apply zk.drewN | apply zk.drew | apply zk.zan | apply zk.zam) | exact HI0.out)); (case side2 => repeat (first | (with_reducible first | exact HB.out | apply ze | apply zb | apply zf | refine zi ?_ (zk.ge HI0.out)) | exact HB.out)); rintro e w64 ⟨rfl, hi, hb, hk⟩; refine ⟨_, rfl, ?_⟩; have n0_ := za.mk (Kd.zbt (Kd.zcU (zk.zcC (show zk w0 _ g s0_0 x1001_51 x1002_51 from by repeat (first | (with_reducible first | exact HI0.out | apply zk.alloc | apply zk.drewN | apply zk.drew | apply zk.zan | apply zk.zam) | exact HI0.out)) (by (with_reducible repeat (first | apply Kd.zas | apply Kd.zat | apply Kd.zax)); exact HO_5.out) (by decide)) hk (fun _ h => h.2)) (fun _ h => h.1)); have n1_ := za.mk (Kd.zbM (Kd.zc1 (zk.zcV (show zk w0 _ g s0_0 x1001_51 x1002_51 from by repeat (first | (with_reducible first | exact HI0.out | apply zk.alloc | apply zk.drewN | apply zk.drew | apply zk.zan | apply zk.zam) | exact HI0.out)) (by (with_reducible repeat (first | apply Kd.zaZ | apply Kd.za1 | apply Kd.za5)); exact HO_6.out) (by decide)) hk (fun _ h => h.2)) (fun _ h => h.1)); have n2_ := za.mk (Kd.zau (Kd.zdB (zk.apart (show zk w0 _ g s0_0 x1001_51 x1002_51 from by repeat (first | (with_reducible first | exact HI0.out | apply zk.alloc | apply zk.drewN | apply zk.drew | apply zk.zan | apply zk.zam) | exact HI0.out)) (by (with_reducible repeat (first | apply Kd.zO | apply Kd.zP | apply Kd.zN)); exact HO348.out) (by decide)) hk (fun _ h => h.2)) (fun _ h => h.1)); have n3_ := za.mk (zx.trans (by repeat (first | (with_reducible first | exact HK.out | apply zx.zaT | apply zW | apply zZ | apply zX) | exact HK.out)) hk (.inl rfl)); have n4_ := za.mk (hb); have n5_ := za.mk (hi); clear HO_5; clear HO_6; clear HO348; clear HK; clear HB; clear HI0; have HO_5 := n0_; have HO_6 := n1_; have HO348 := n2_; have HK := n3_; have HB := n4_; have HI0 := n5_; clear n0_ n1_ n2_ n3_ n4_ n5_; (try clear hb); (try clear hb2); (try clear hk); (try clear hi)) | ((with_reducible refine zbm (b := .append) (xs := #[.tmp 61, .tmp 64]) rfl ?_); at_builtin; refine Kd.zcb Kd.string w.heap.size rfl (.tmp 61) (.tmp 64) 22 9 (.string ⟨#[]⟩) 16 rfl Try.underlying22 zcK rfl (by decide) (by omega) v347 t346 t349 [.string t349] (fun k_ => some k_ ≠ (.slice Ao62 x6_46.length co62 : Value).ownBlock) (fun _ => False) rfl rfl ?aP (fun _ hk => hk.elim) ?aF ?aO (Below.refl _ _) ?aS ?aL ?_; (case aP => exact rfl); (case aF => exact (fun k_ hk => Kd.fresh' (Kd.zeV (by (with_reducible repeat (first | apply Kd.zaZ | apply Kd.za1 | apply Kd.za5)); exact HO_6.out)) k_ hk)); (case aO => exact (by (with_reducible repeat (first | apply Kd.zO | apply Kd.zP | apply Kd.zN)); exact Kd.zau HO348.out (fun _ hk => hk.2))); (case aS => exact (zb0 (w := w) (g := g) (row := none) (by repeat (first | (with_reducible first | exact HK.out | apply zx.zaT | apply zW | apply zZ | apply zX) | exact HK.out)))); (case aL => have := LMc61.out; omega); intro v353 w65 ho hb hg hat; rw [← Ny352.out] at ho; have n0_ := za.mk (Kd.zgi (ok := (fun k_ => some k_ ≠ (.slice Ao62 x6_46.length co62 : Value).ownBlock)) (by (with_reducible repeat (first | apply Kd.zas | apply Kd.zat | apply Kd.zax)); exact HO_5.out) hg hat); have n1_ := za.mk (Kd.zgc (ok := (fun _ => True)) (by (with_reducible repeat (first | apply Kd.zaZ | apply Kd.za1 | apply Kd.za5)); exact HO_6.out) hg hat); have n2_ := za.mk (zk.grown (by repeat (first | (with_reducible first | exact HI0.out | apply zk.alloc | apply zk.drewN | apply zk.drew | apply zk.zan | apply zk.zam) | exact HI0.out)) hg (zk.own_ne HI0.out HO348.out (by decide))); have n3_ := za.mk (zbR (by repeat (first | (with_reducible first | exact HB.out | apply ze | apply zb | apply zf | refine zi ?_ (zk.ge HI0.out)) | exact HB.out)) HL.out hb); have n4_ := za.mk (zx.trans (by repeat (first | (with_reducible first | exact HK.out | apply zx.zaT | apply zW | apply zZ | apply zX) | exact HK.out)) (zx.zdh hg g) (Kd.zeb HO348.out)); have n5_ := za.mk (ho); clear HO_5; clear HO_6; clear HI0; clear HB; clear HK; clear HO348; have HO_5 := n0_; have HO_6 := n1_; have HI0 := n2_; have HB := n3_; have HK := n4_; have HO354 := n5_; clear n0_ n1_ n2_ n3_ n4_ n5_; clear ho hb hg hat))
                   go_roundg kj51
                   case measure => have := HK1.out; have := HJ10.out; have := HJ19.out; have := HJ25.out; have := HJ40.out; have := HJ46.out; have := HJ51.out; omega
                   case rel => exact ⟨(y313), (y352), (wrap64 (x7_1 - 1)), (t350), (t351), (by first | rfl | (simp; done) | (simp [*]; done)), H', ⟨by have := HK1.out; have := HJ10.out; have := HJ19.out; have := HJ25.out; have := HJ40.out; have := HJ46.out; have := HJ51.out; omega⟩, ⟨by (with_reducible repeat (first | apply Kd.zas | apply Kd.zat | apply Kd.zax)); exact Kd.zbt HO_5.out (fun _ hk => hk.2)⟩, ⟨Kd.zdT (by (with_reducible repeat (first | apply Kd.zO | apply Kd.zP | apply Kd.zN)); exact Kd.zau HO354.out (fun _ hk => trivial))⟩, ⟨by repeat (first | (with_reducible first | exact HI0.out | apply zk.alloc | apply zk.drewN | apply zk.drew | apply zk.zan | apply zk.zam) | exact HI0.out)⟩, ⟨by repeat (first | (with_reducible first | exact HK.out | apply zx.zaT | apply zW | apply zZ | apply zX) | exact HK.out)⟩, ⟨by repeat (first | (with_reducible first | exact HB.out | apply ze | apply zb | apply zf | refine zi ?_ (zk.ge HI0.out)) | exact HB.out)⟩⟩
                  ·rw [if_neg c61] at H
                   exact absurd H (by simp)
                 ·replace c58 := Bool.eq_false_iff.mpr c58
                  subst c58
                  have H1 : (zq.l0 kj51 y313 x6_46 (wrap64 (x7_1 - 1)) s0_0 x1001_51 x1002_51) = some (r1, r2, r3) := by rw [if_neg (show ¬ (false = true) by decide)] at H; exact H
                  clear H
                  have H := H1
                  clear H1
                  have H' := za.mk H
                  clear H
                  go_wp2
                  go_roundg kj51
                  case measure => have := HK1.out; have := HJ10.out; have := HJ19.out; have := HJ25.out; have := HJ40.out; have := HJ46.out; have := HJ51.out; omega
                  case rel => exact ⟨(y313), (x6_46), (wrap64 (x7_1 - 1)), (x1001_51), (x1002_51), (by first | rfl | (simp; done) | (simp [*]; done)), H', ⟨by have := HK1.out; have := HJ10.out; have := HJ19.out; have := HJ25.out; have := HJ40.out; have := HJ46.out; have := HJ51.out; omega⟩, ⟨by (with_reducible repeat (first | apply Kd.zas | apply Kd.zat | apply Kd.zax)); exact HO_5.out⟩, ⟨by (with_reducible repeat (first | apply Kd.zaZ | apply Kd.za1 | apply Kd.za5)); exact HO_6.out⟩, ⟨by repeat (first | (with_reducible first | exact HI0.out | apply zk.alloc | apply zk.drewN | apply zk.drew | apply zk.zan | apply zk.zam) | exact HI0.out)⟩, ⟨by repeat (first | (with_reducible first | exact HK.out | apply zx.zaT | apply zW | apply zZ | apply zX) | exact HK.out)⟩, ⟨by repeat (first | (with_reducible first | exact HB.out | apply ze | apply zb | apply zf | refine zi ?_ (zk.ge HI0.out)) | exact HB.out)⟩⟩
    ·rw [if_neg c9] at H
     exact absurd H (by simp)
   ·rw [if_neg c7] at H
    have c7b0 : decide (0 < x7_1) = false := decide_eq_false c7
    clear c7
    simp only [Option.some.injEq, Prod.mk.injEq] at H
    obtain ⟨rfl, rfl, rfl⟩ := H
    go_wp2
    go_ret
    exact ⟨_, by first | rfl | (simp [zA, zz] <;> rfl) | (simp [*, zA, zz] <;> rfl), by (with_reducible repeat (first | apply Kd.zas | apply Kd.zat | apply Kd.zax)); exact Kd.zbt HO_5.out (fun _ hk => trivial), by repeat (first | (with_reducible first | exact HI0.out | apply zk.alloc | apply zk.drewN | apply zk.drew | apply zk.zan | apply zk.zam) | exact HI0.out), by repeat (first | (with_reducible first | exact HB.out | apply ze | apply zb | apply zf | refine zi ?_ (zk.ge HI0.out)) | exact HB.out), by repeat (first | (with_reducible first | exact HK.out | apply zx.zaT | apply zW | apply zZ | apply zX) | exact HK.out)⟩
def zav.l0 : Nat → List ByteArray → ByteArray → Int → Option (Bool)
 | 0, _, _, _ => none
 | k + 1, x0, x1, x5 => if x5 < (x0.length : Int) then (if 0 ≤ x5 then (if (zaJ ByteArray.empty x0 x5).toList = x1.toList then (some true) else (zav.l0 k x0 x1 (wrap64 (x5 + 1)))) else (none)) else (some false)
def zav.f (k : Nat) (l0 : List ByteArray) (a1 : ByteArray) : Option (Bool) := zav.l0 k l0 a1 0
set_option maxHeartbeats 8000000 in
set_option maxRecDepth 100000 in
theorem zav.calls (k : Nat) (A0 : Option Addr) (c0 : Nat) (l0 : List ByteArray) (a1 : ByteArray) (r : Bool) (w : World) (hr0 : Kd.C Kd.string w A0 l0.length l0) (hc0 : l0.length ≤ c0) (h : zav.f k l0 a1 = some r) :
  Calls Try.prog 42 #[.slice A0 l0.length c0, .string a1] w fun e w' => e = .returned (.bool r) ∧ zH w w' := by
 have HR0 := za.mk hr0
 have HC0 := za.mk hc0
 clear hr0 hc0
 have H : (zav.l0 k l0 a1 0) = some r := h
 clear h
 have H' := za.mk H
 clear H
 go_enter Try.func42, Try.ntmps42
 go_wp2
 go_loopg [5] k (fun kq v5 w' => ∃ (x5_1 : Int), v5 = .int .i64 x5_1 ∧ za (zav.l0 kq l0 a1 x5_1 = some r) ∧ za (kq ≤ k) ∧ zH w w')
 case atStart => exact ⟨(0), (by first | rfl | (simp; done) | (simp [*]; done)), H', ⟨Nat.le_refl _⟩, by repeat (first | exact zH.refl _ | apply zH.step)⟩
 case round =>
  clear H'
  try clear p2
  obtain ⟨x5_1, rfl, HA, HK1, ⟨m1, rfl⟩⟩ := hrel
  cases gk with
  | zero => exact absurd HA.out (by simp [zav.l0])
  | succ k1 =>
   have H := HA.out
   clear HA
   simp only [zav.l0] at H
   by_cases c3 : x5_1 < (l0.length : Int)
   ·rw [if_pos c3] at H
    have c3b0 : decide (x5_1 < (l0.length : Int)) = true := decide_eq_true c3
    clear c3
    by_cases c4 : 0 ≤ x5_1
    ·rw [if_pos c4] at H
     have c4b0 : decide (0 ≤ x5_1) = true := decide_eq_true c4
     clear c4
     by_cases c5 : (zaJ ByteArray.empty l0 x5_1).toList = a1.toList
     ·rw [if_pos c5] at H
      have c5b0 : ((zaJ ByteArray.empty l0 x5_1).toList == a1.toList) = true := beq_iff_eq.mpr c5
      have c5b1 : ((zaJ ByteArray.empty l0 x5_1).toList != a1.toList) = false := bne_eq_false_iff_eq.mpr c5
      clear c5
      obtain rfl := Option.some.inj H
      have p533 : 0 ≤ (x5_1 : Int) := of_decide_eq_true (by first | (with_reducible assumption) | assumption)
      have q533 : x5_1 < (l0.length : Int) := of_decide_eq_true (by first | (with_reducible assumption) | assumption)
      obtain ⟨ad533, e533, hx533_0⟩ := Kd.zbe HR0.out x5_1 p533 q533
      cases e533
      replace p533 := eq_true p533
      replace q533 := eq_true q533
      go_wp2
      go_ret
      exact ⟨by first | rfl | (simp; done) | (simp [*]; done), by repeat (first | exact zH.refl _ | apply zH.step)⟩
     ·rw [if_neg c5] at H
      have c5b0 : ((zaJ ByteArray.empty l0 x5_1).toList == a1.toList) = false := beq_eq_false_iff_ne.mpr c5
      have c5b1 : ((zaJ ByteArray.empty l0 x5_1).toList != a1.toList) = true := bne_iff_ne.mpr c5
      have H' := za.mk H
      clear H
      have p533 : 0 ≤ (x5_1 : Int) := of_decide_eq_true (by first | (with_reducible assumption) | assumption)
      have q533 : x5_1 < (l0.length : Int) := of_decide_eq_true (by first | (with_reducible assumption) | assumption)
      obtain ⟨ad533, e533, hx533_0⟩ := Kd.zbe HR0.out x5_1 p533 q533
      cases e533
      replace p533 := eq_true p533
      replace q533 := eq_true q533
      go_wp2
      go_roundg k1
      case measure => have := HK1.out; omega
      case rel => exact ⟨(wrap64 (x5_1 + 1)), (by first | rfl | (simp; done) | (simp [*]; done)), H', ⟨by have := HK1.out; omega⟩, by repeat (first | exact zH.refl _ | apply zH.step)⟩
    ·rw [if_neg c4] at H
     exact absurd H (by simp)
   ·rw [if_neg c3] at H
    have c3b0 : decide (x5_1 < (l0.length : Int)) = false := decide_eq_false c3
    clear c3
    obtain rfl := Option.some.inj H
    go_wp2
    go_ret
    exact ⟨by first | rfl | (simp; done) | (simp [*]; done), by repeat (first | exact zH.refl _ | apply zH.step)⟩
theorem zdq (op : BinOp) (x y : Int) : 0 ≤ bits op .u64 x y := by
 have h : ∀ n : Int, 0 ≤ IntKind.u64.wrap n := fun n => by
  simp only [IntKind.wrap, IntKind.bits, IntKind.signed, Bool.false_and]
  simp only [Bool.false_eq_true, if_false]
  omega
 unfold bits
 split <;> first | exact h _ | exact Int.le_refl _ | omega
theorem ziv (l : List Int) (s1 s2 : Int) (h1 : 0 ≤ s1) (hl : l.length ≤ 17592186044416) : ∃ r t1 t2, za9.f l s1 s2 = some (r, t1, t2) ∧ 0 ≤ r ∧ 0 ≤ t1 := by
 unfold za9.f
 rw [if_pos ⟨h1, hl⟩]
 split
 ·exact ⟨_, _, _, rfl, zdq _ _ _, by omega⟩
 ·exact ⟨_, _, _, rfl, zdq _ _ _, h1⟩
theorem zeL (l : List Int) (s1 s2 : Int) (h1 : 0 ≤ s1) (hl : l.length ≤ 17592186044416) (n : Int) (h0 : 0 ≤ n) (hn : n ≤ 1000) : ∃ r t1 t2, zaj.f l s1 s2 n = some (r, t1, t2) ∧ 0 ≤ r ∧ r ≤ n ∧ 0 ≤ t1 := by
 unfold zaj.f
 by_cases hc : n < 1
 ·rw [if_pos hc]; exact ⟨0, s1, s2, rfl, Int.le_refl _, h0, h1⟩
 ·rw [if_neg hc]
  obtain ⟨r, t1, t2, hr, hr0, ht⟩ := ziv l s1 s2 h1 hl
  have hw : IntKind.u64.wrap (wrap64 (n + 1)) = n + 1 := by
   have : wrap64 (n + 1) = n + 1 := by unfold wrap64; omega
   rw [this]
   simp only [IntKind.wrap, IntKind.bits, IntKind.signed, Bool.false_and]
   simp only [Bool.false_eq_true, if_false]
   omega
  rw [hr, Option.bind_some, hw, if_neg (by omega)]
  have hq : 0 ≤ r / 65536 := by omega
  have hm : Int.tmod (r / 65536) (n + 1) = (r / 65536) % (n + 1) := Int.tmod_eq_emod_of_nonneg hq
  have h2 := Int.emod_nonneg (r / 65536) (show n + 1 ≠ 0 by omega)
  have h3 := Int.emod_lt_of_pos (r / 65536) (show 0 < n + 1 by omega)
  refine ⟨_, t1, t2, rfl, ?_, ?_, ht⟩
  ·rw [hm]; unfold wrap64; omega
  ·rw [hm]; unfold wrap64; omega
theorem zhL (l : List Int) (s1 s2 : Int) (h1 : 0 ≤ s1) (hl : l.length ≤ 17592186044416) (ws : List ByteArray) (hw : 0 < ws.length) (hw1 : ws.length ≤ 1000) : ∃ x t1 t2, za4.f l s1 s2 ws = some (x, t1, t2) ∧ x ∈ ws ∧ 0 ≤ t1 := by
 unfold za4.f
 have e : wrap64 ((ws.length : Int) - 1) = (ws.length : Int) - 1 := by unfold wrap64; omega
 obtain ⟨r, t1, t2, hr, h2, h3, h4⟩ := zeL l s1 s2 h1 hl ((ws.length : Int) - 1) (by omega) (by omega)
 rw [e, hr, Option.bind_some, if_pos h2, if_pos (by dsimp only; omega)]
 refine ⟨_, t1, t2, rfl, ?_, h4⟩
 have hlt : r.toNat < ws.length := by omega
 dsimp only
 simp only [zaJ, List.getD_eq_getElem?_getD, List.getElem?_eq_getElem hlt, Option.getD_some]
 exact List.getElem_mem _
def zcW : List ByteArray := [(⟨#[97]⟩ : ByteArray), (⟨#[98]⟩ : ByteArray), (⟨#[99]⟩ : ByteArray), (⟨#[97, 110, 32, 49]⟩ : ByteArray), (⟨#[98, 101, 110]⟩ : ByteArray), (⟨#[99, 121, 100, 32, 49, 50]⟩ : ByteArray)]
theorem ze8 (l : List Int) (s1 s2 : Int) (h1 : 0 ≤ s1) (hl : l.length ≤ 17592186044416) : ∃ x t1 t2, zaE.f l s1 s2 = some (x, t1, t2) ∧ x ∈ zcW ∧ 0 ≤ t1 := by
 obtain ⟨x, t1, t2, h, hx, ht⟩ := zhL l s1 s2 h1 hl zcW (by decide) (by decide)
 unfold zaE.f
 refine ⟨x, t1, t2, ?_, hx, ht⟩
 exact (congrArg (fun o : Option (ByteArray × Int × Int) => o.bind fun bt198 => some (bt198.1, bt198.2.1, bt198.2.2)) h)
theorem zej (l : List Int) (hl : l.length ≤ 17592186044416) : ∀ (m k : Nat) (p : List ByteArray) (s1 s2 : Int), m < k → 0 ≤ s1 → p.length + m ≤ 1000 → (∀ x ∈ p, x ∈ zcW) →
  ∃ q t1 t2, zI.l0 k p (m : Int) l s1 s2 = some (q, t1, t2) ∧ q.length = p.length + m ∧ (∀ x ∈ q, x ∈ zcW) ∧ 0 ≤ t1
 | 0, k, p, s1, s2, hk, h1, hp, hw => by
  obtain ⟨k', rfl⟩ : ∃ k', k = k' + 1 := ⟨k - 1, by omega⟩
  rw [zI.l0, if_neg (by omega)]
  exact ⟨p, s1, s2, rfl, rfl, hw, h1⟩
 | m + 1, k, p, s1, s2, hk, h1, hp, hw => by
  obtain ⟨k', rfl⟩ : ∃ k', k = k' + 1 := ⟨k - 1, by omega⟩
  obtain ⟨x, t1, t2, hx, hxw, ht⟩ := ze8 l s1 s2 h1 hl
  have e : wrap64 (((m + 1 : Nat) : Int) - 1) = (m : Int) := by unfold wrap64; omega
  rw [zI.l0, if_pos (by omega), hx, Option.bind_some, if_pos (by omega), e]
  obtain ⟨q, u1, u2, h2, h3, h4, h5⟩ := zej l hl m k' (p ++ [x]) t1 t2 (by omega) ht (by rw [List.length_append, List.length_singleton]; omega) (fun y hy => by
   rcases List.mem_append.1 hy with hy | hy
   ·exact hw y hy
   ·rw [List.mem_singleton.1 hy]; exact hxw)
  exact ⟨q, u1, u2, h2, by rw [h3, List.length_append, List.length_singleton]; omega, h4, h5⟩
theorem zeW (l : List Int) (s1 s2 : Int) (h1 : 0 ≤ s1) (hl : l.length ≤ 17592186044416) (n : Nat) (hn : n ≤ 100) (k : Nat) (hk : 200 ≤ k) : ∃ q t1 t2, zI.f k l s1 s2 (n : Int) = some (q, t1, t2) ∧ q.length ≤ n ∧ (∀ x ∈ q, x ∈ zcW) ∧ 0 ≤ t1 := by
 obtain ⟨r, t1, t2, hr, h2, h3, h4⟩ := zeL l s1 s2 h1 hl n (by omega) (by omega)
 obtain ⟨m, rfl⟩ := Int.eq_ofNat_of_zero_le h2
 obtain ⟨q, u1, u2, h5, h6, h7, h8⟩ := zej l hl m k [] t1 t2 (by omega) h4 (by simp; omega) (by simp)
 unfold zI.f
 rw [hr, Option.bind_some]
 exact ⟨q, u1, u2, h5, by rw [h6]; simp; omega, h7, h8⟩
end Go.Proofs.Ytgmbbfmbimofoaa.P
