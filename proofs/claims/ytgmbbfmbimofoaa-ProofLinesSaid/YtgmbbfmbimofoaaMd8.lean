-- MERGED BY A PROGRAM out of texts of this claim: hand work, and what a (turned) print of the kit has written for it
import Derived.Test.YtgmbbfmbimofoaaMd5
namespace Go.Proofs.Ytgmbbfmbimofoaa.P
open Go.RowKit Go.Proofs.YtgmbbfmbimofoaaW.PrintWords Go.Proofs.YtgmbbfmbimofoaaW.PrintLast Go.Proofs.YtgmbbfmbimofoaaW.PrintMore
attribute [local go_sem] zR zO zT zU zM zK zQ zP
set_option linter.unusedVariables false
set_option linter.unusedSimpArgs false
def zaV.f (s0_0 : List Int) (s0_1 : Int) (s0_2 : Int) (a1 : Int) : Option (Bool × Int × Int) := (zai.f s0_0 s0_1 s0_2 (wrap64 (a1 - 1))).bind fun bt248 => (some ((bt248.1 == 0), bt248.2.1, bt248.2.2))
set_option maxHeartbeats 8000000 in
set_option maxRecDepth 100000 in
theorem zaV.calls (g : Nat) (s0_0 : List Int) (s0_1 : Int) (s0_2 : Int) (a1 : Int) (r1 : Bool) (r2 : Int) (r3 : Int) (w0 w : World) (hI : zn w0 w g s0_0 s0_1 s0_2) (hB : Below w0.heap.size w0 w) (h : zaV.f s0_0 s0_1 s0_2 a1 = some (r1, r2, r3)) :
  Calls Try.prog 49 #[.pointer (some ⟨g, 0, none⟩), .int .i64 a1] w fun e w' => e = .returned (.bool r1) ∧ zn w0 w' g s0_0 r2 r3 ∧ Below w0.heap.size w0 w' ∧ zz w w' g none := by
 have HI0 := za.mk hI
 have HK := za.mk (zz.refl w g none)
 have HL := za.mk hB.size
 clear hI
 have HW0 := za.mk hB.size
 have HB := za.mk hB
 clear hB
 have H : ((zai.f s0_0 s0_1 s0_2 (wrap64 (a1 - 1))).bind fun bt248 => (some ((bt248.1 == 0), bt248.2.1, bt248.2.2))) = some (r1, r2, r3) := h
 clear h
 replace H := Option.bind_eq_some_iff.mp H
 obtain ⟨⟨t248, t249, t250⟩, A30, H⟩ := H
 replace H : (some ((t248 == 0), t249, t250)) = some (r1, r2, r3) := H
 have A3 := za.mk A30
 clear A30
 simp only [Option.some.injEq, Prod.mk.injEq] at H
 obtain ⟨rfl, rfl, rfl⟩ := H
 go_enter Try.func49, Try.ntmps49
 go_wp2_with (first | ((with_reducible refine zD (f := 28) rfl ?_); refine zW (some 8) rfl rfl Try.func28 (by kernel_rfl) rfl #[.pointer (some ⟨g, 0, none⟩), .int .i64 (wrap64 (a1 - 1))] rfl (by (try simp only [List.map_toArray, List.map_cons, List.map_nil]); first | done | rfl | (simp only [List.length_drop, List.length_take]; rfl)) ?_; (with_reducible refine (zai.calls g s0_0 s0_1 s0_2 (wrap64 (a1 - 1)) t248 t249 t250 w0 _ ?side1 ?side2 A3.out).mono ?_); (case side1 => repeat (first | (with_reducible first | exact HI0.out | apply zn.alloc | apply zn.drewN | apply zn.drew | apply zn.zaD | apply zn.zaF) | exact HI0.out)); (case side2 => repeat (first | (with_reducible first | exact HB.out | apply ze | apply zb | apply zf | refine zh ?_ (zn.ge HI0.out)) | exact HB.out)); rintro e w4 ⟨rfl, hi, hb, hk⟩; refine ⟨_, rfl, ?_⟩; have n0_ := za.mk (zz.trans (by repeat (first | (with_reducible first | exact HK.out | apply zz.zaS | apply zZ | apply zad | apply z8) | exact HK.out)) hk (.inl rfl)); have n1_ := za.mk (hb); have n2_ := za.mk (hi); clear HK; clear HB; clear HI0; have HK := n0_; have HB := n1_; have HI0 := n2_; clear n0_ n1_ n2_; (try clear hb); (try clear hb2); (try clear hk); (try clear hi)))
 go_ret
 exact ⟨by first | rfl | (simp [zx, zw] <;> rfl) | (simp [*, zx, zw] <;> rfl), by repeat (first | (with_reducible first | exact HI0.out | apply zn.alloc | apply zn.drewN | apply zn.drew | apply zn.zaD | apply zn.zaF) | exact HI0.out), by repeat (first | (with_reducible first | exact HB.out | apply ze | apply zb | apply zf | refine zh ?_ (zn.ge HI0.out)) | exact HB.out), by repeat (first | (with_reducible first | exact HK.out | apply zz.zaS | apply zZ | apply zad | apply z8) | exact HK.out)⟩
mutual
def zt.l0 : Nat → Int → Int → List (S63) → Int → List Int → Int → Int → Option ((List (S63)) × Int × Int)
 | 0, _, _, _, _, _, _, _ => none
 | k + 1, x1, x2, x7, x8, x1000, x1001, x1002 => if x8 ≤ x1 then (zt.l1 k x1 x2 x7 x8 x1000 x1001 x1002) else (some (x7, x1001, x1002))
def zt.j2 : Nat → Int → Int → List (S63) → Int → List Int → Int → Int → Option ((List (S63)) × Int × Int)
 | 0, _, _, _, _, _, _, _ => none
 | k + 1, x1, x2, x7, x8, x1000, x1001, x1002 => if x8 = x1 then (zt.j3 k x1 x2 x7 x8 true x1000 x1001 x1002) else (zt.j3 k x1 x2 x7 x8 ((x7.length : Int) == x2) x1000 x1001 x1002)
def zt.j3 : Nat → Int → Int → List (S63) → Int → Bool → List Int → Int → Int → Option ((List (S63)) × Int × Int)
 | 0, _, _, _, _, _, _, _, _ => none
 | k + 1, x1, x2, x7, x8, x37, x1000, x1001, x1002 => if x37 = true then (zt.l0 k x1 x2 x7 (wrap64 (x8 + 1)) x1000 x1001 x1002) else ((zai.f x1000 x1001 x1002 4).bind fun bt260 => (if bt260.1 = 0 then ((zaw.f x1000 bt260.2.1 bt260.2.2).bind fun bt263 => (if x7.length < 4398046511104 then (zt.l0 k x1 x2 (x7 ++ [(⟨2, x8, bt263.1⟩ : S63)]) (wrap64 (x8 + 1)) x1000 bt263.2.1 bt263.2.2) else (none))) else (if bt260.1 = 1 then (if x7.length < 4398046511104 then (zt.l0 k x1 x2 (x7 ++ [(⟨3, x8, (⟨#[]⟩ : ByteArray)⟩ : S63)]) (wrap64 (x8 + 1)) x1000 bt260.2.1 bt260.2.2) else (none)) else (zt.l0 k x1 x2 x7 (wrap64 (x8 + 1)) x1000 bt260.2.1 bt260.2.2))))
def zt.l1 : Nat → Int → Int → List (S63) → Int → List Int → Int → Int → Option ((List (S63)) × Int × Int)
 | 0, _, _, _, _, _, _, _ => none
 | k + 1, x1, x2, x7, x8, x1000, x1001, x1002 => (zaV.f x1000 x1001 x1002 4).bind fun bt251 => (if bt251.1 = true then (if (x7.length : Int) < x2 then ((zaw.f x1000 bt251.2.1 bt251.2.2).bind fun bt254 => (if x7.length < 4398046511104 then (zt.l1 k x1 x2 (x7 ++ [(⟨1, x8, bt254.1⟩ : S63)]) x8 x1000 bt254.2.1 bt254.2.2) else (none))) else (zt.j2 k x1 x2 x7 x8 x1000 bt251.2.1 bt251.2.2)) else (zt.j2 k x1 x2 x7 x8 x1000 bt251.2.1 bt251.2.2))
end
def zt.f (k : Nat) (s0_0 : List Int) (s0_1 : Int) (s0_2 : Int) (a1 : Int) (a2 : Int) : Option ((List (S63)) × Int × Int) := zt.l0 k a1 a2 ([] : List (S63)) 0 s0_0 s0_1 s0_2
set_option maxHeartbeats 8000000 in
set_option maxRecDepth 100000 in
theorem zt.calls (k : Nat) (g : Nat) (s0_0 : List Int) (s0_1 : Int) (s0_2 : Int) (a1 : Int) (a2 : Int) (r1 : List (S63)) (r2 : Int) (r3 : Int) (w0 w : World) (hI : zn w0 w g s0_0 s0_1 s0_2) (hB : Below w0.heap.size w0 w) (h : zt.f k s0_0 s0_1 s0_2 a1 a2 = some (r1, r2, r3)) :
  Calls Try.prog 27 #[.pointer (some ⟨g, 0, none⟩), .int .i64 a1, .int .i64 a2] w fun e w' => ∃ v0_ : Value, e = .returned (v0_) ∧ Kd.R k63 63 w' w.heap.size (fun _ => True) v0_ r1 ∧ zn w0 w' g s0_0 r2 r3 ∧ Below w0.heap.size w0 w' ∧ zz w w' g none := by
 have hu63 := Try.underlying63
 have HI0 := za.mk hI
 have HK := za.mk (zz.refl w g none)
 have HL := za.mk hB.size
 clear hI
 have HW0 := za.mk hB.size
 have HB := za.mk hB
 clear hB
 have H : (zt.l0 k a1 a2 ([] : List (S63)) 0 s0_0 s0_1 s0_2) = some (r1, r2, r3) := h
 clear h
 have H' := za.mk H
 clear H
 go_enter Try.func27, Try.ntmps27
 go_wp2
 go_loopg [7, 8] k (fun kq v7 v8 w' => ∃ (x7_1 : List (S63)) (x8_1 : Int) (x1001_1 : Int) (x1002_1 : Int), v8 = .int .i64 x8_1 ∧ za (zt.l0 kq a1 a2 x7_1 x8_1 s0_0 x1001_1 x1002_1 = some (r1, r2, r3)) ∧ za (kq ≤ k) ∧ za (Kd.R k63 63 w' w.heap.size (fun _ => True) v7 x7_1) ∧ za (zn w0 w' g s0_0 x1001_1 x1002_1) ∧ za (zz w w' g none) ∧ za (Below w0.heap.size w0 w'))
 case atStart => exact ⟨(([] : List (S63))), (0), (s0_1), (s0_2), (by first | rfl | (simp; done) | (simp [*]; done)), H', ⟨Nat.le_refl _⟩, ⟨by first | exact Kd.zbF _ _ _ _ _ | exact Kd.zc5 _ _ _ _ _ | exact Kd.zc9 _ _ _ _ _ | exact Kd.zc7 _ _ _ _ _ | exact Kd.zc4 _ _ _ _ _⟩, ⟨by repeat (first | (with_reducible first | exact HI0.out | apply zn.alloc | apply zn.drewN | apply zn.drew | apply zn.zaD | apply zn.zaF) | exact HI0.out)⟩, ⟨by repeat (first | (with_reducible first | exact HK.out | apply zz.zaS | apply zZ | apply zad | apply z8) | exact HK.out)⟩, ⟨by repeat (first | (with_reducible first | exact HB.out | apply ze | apply zb | apply zf | refine zh ?_ (zn.ge HI0.out)) | exact HB.out)⟩⟩
 case round =>
  clear H'
  try clear c2
  try clear p2
  obtain ⟨x7_1, x8_1, x1001_1, x1002_1, rfl, HA, HK1, HO_7, HI0, HK, HB⟩ := hrel
  cases gk with
  | zero => exact absurd HA.out (by simp [zt.l0])
  | succ k1 =>
   have H := HA.out
   clear HA
   simp only [zt.l0] at H
   by_cases c4 : x8_1 ≤ a1
   ·rw [if_pos c4] at H
    have c4b0 : decide (x8_1 ≤ a1) = true := decide_eq_true c4
    clear c4
    have HC5 := za.mk H
    clear H
    go_upto_block 2 with (fail)
    go_cut [7] (fun v7 wc => ∃ (kq : Nat) (x7_4 : List (S63)) (x1001_4 : Int) (x1002_4 : Int), za (zt.j2 kq a1 a2 x7_4 x8_1 s0_0 x1001_4 x1002_4 = some (r1, r2, r3)) ∧ za (kq ≤ k1) ∧ za (Kd.R k63 63 wc w.heap.size (fun _ => True) v7 x7_4) ∧ za (zn w0 wc g s0_0 x1001_4 x1002_4) ∧ za (zz w wc g none) ∧ za (Below w0.heap.size w0 wc))
    case first =>
     have H := HC5.out
     clear HC5
     have H' := za.mk H
     clear H
     go_wp2
     go_loopg [7] k1 (fun kq v7 w' => ∃ (x7_2 : List (S63)) (x1001_2 : Int) (x1002_2 : Int), za (zt.l1 kq a1 a2 x7_2 x8_1 s0_0 x1001_2 x1002_2 = some (r1, r2, r3)) ∧ za (kq ≤ k1) ∧ za (Kd.R k63 63 w' w.heap.size (fun _ => True) v7 x7_2) ∧ za (zn w0 w' g s0_0 x1001_2 x1002_2) ∧ za (zz w w' g none) ∧ za (Below w0.heap.size w0 w'))
     case atStart => exact ⟨(x7_1), (x1001_1), (x1002_1), H', ⟨Nat.le_refl _⟩, ⟨by (with_reducible repeat (first | apply Kd.zG | apply Kd.zC | apply Kd.zJ)); exact HO_7.out⟩, ⟨by repeat (first | (with_reducible first | exact HI0.out | apply zn.alloc | apply zn.drewN | apply zn.drew | apply zn.zaD | apply zn.zaF) | exact HI0.out)⟩, ⟨by repeat (first | (with_reducible first | exact HK.out | apply zz.zaS | apply zZ | apply zad | apply z8) | exact HK.out)⟩, ⟨by repeat (first | (with_reducible first | exact HB.out | apply ze | apply zb | apply zf | refine zh ?_ (zn.ge HI0.out)) | exact HB.out)⟩⟩
     case round =>
      clear H'
      try clear c2
      try clear p2
      try clear c4
      try clear c4b0
      try clear p2
      obtain ⟨x7_2, x1001_2, x1002_2, HA, HK2, HO_7, HI0, HK, HB⟩ := hrel
      cases gk with
      | zero => exact absurd HA.out (by simp [zt.l1])
      | succ k2 =>
       have H := HA.out
       clear HA
       simp only [zt.l1] at H
       replace H := Option.bind_eq_some_iff.mp H
       obtain ⟨⟨t251, t252, t253⟩, A60, H⟩ := H
       replace H : (if t251 = true then (if (x7_2.length : Int) < a2 then ((zaw.f s0_0 t252 t253).bind fun bt254 => (if x7_2.length < 4398046511104 then (zt.l1 k2 a1 a2 (x7_2 ++ [(⟨1, x8_1, bt254.1⟩ : S63)]) x8_1 s0_0 bt254.2.1 bt254.2.2) else (none))) else (zt.j2 k2 a1 a2 x7_2 x8_1 s0_0 t252 t253)) else (zt.j2 k2 a1 a2 x7_2 x8_1 s0_0 t252 t253)) = some (r1, r2, r3) := H
       have A6 := za.mk A60
       clear A60
       by_cases c7 : t251 = true
       ·subst c7
        have H1 : (if (x7_2.length : Int) < a2 then ((zaw.f s0_0 t252 t253).bind fun bt254 => (if x7_2.length < 4398046511104 then (zt.l1 k2 a1 a2 (x7_2 ++ [(⟨1, x8_1, bt254.1⟩ : S63)]) x8_1 s0_0 bt254.2.1 bt254.2.2) else (none))) else (zt.j2 k2 a1 a2 x7_2 x8_1 s0_0 t252 t253)) = some (r1, r2, r3) := by rw [if_pos rfl] at H; exact H
        clear H
        have H := H1
        clear H1
        by_cases c8 : (x7_2.length : Int) < a2
        ·rw [if_pos c8] at H
         have c8b0 : decide ((x7_2.length : Int) < a2) = true := decide_eq_true c8
         clear c8
         (first | rw [c8b0] | (simp only [zY, zah]; rw [c8b0]) | skip)
         replace H := Option.bind_eq_some_iff.mp H
         obtain ⟨⟨t254, t255, t256⟩, A90, H⟩ := H
         replace H : (if x7_2.length < 4398046511104 then (zt.l1 k2 a1 a2 (x7_2 ++ [(⟨1, x8_1, t254⟩ : S63)]) x8_1 s0_0 t255 t256) else (none)) = some (r1, r2, r3) := H
         have A9 := za.mk A90
         clear A90
         by_cases c10 : x7_2.length < 4398046511104
         ·rw [if_pos c10] at H
          have LMc10 := za.mk c10
          clear c10
          obtain ⟨y257, hy257⟩ : ∃ y_ : List (S63), y_ = (x7_2 ++ [(⟨1, x8_1, t254⟩ : S63)]) := ⟨_, rfl⟩
          replace H : (zt.l1 k2 a1 a2 y257 x8_1 s0_0 t255 t256) = some (r1, r2, r3) := by first | (rw [hy257]; with_reducible exact H) | (have H2_ := (Option.bind_some _ _).symm.trans H; rw [hy257]; with_reducible exact H2_) | (have H2_ := (Option.bind_some _ _).symm.trans H; with_reducible exact H2_) | with_reducible exact H | (rw [hy257]; exact H) | exact H
          have Ny257 := za.mk hy257
          clear hy257
          have H' := za.mk H
          clear H
          go_wp2_with (first | ((with_reducible refine zD (f := 49) rfl ?_); refine zW (some 15) rfl rfl Try.func49 (by kernel_rfl) rfl #[.pointer (some ⟨g, 0, none⟩), .int .i64 4] rfl (by (try simp only [List.map_toArray, List.map_cons, List.map_nil]); first | done | rfl | (simp only [List.length_drop, List.length_take]; rfl)) ?_; (with_reducible refine (zaV.calls g s0_0 x1001_2 x1002_2 4 true t252 t253 w0 _ ?side1 ?side2 A6.out).mono ?_); (case side1 => repeat (first | (with_reducible first | exact HI0.out | apply zn.alloc | apply zn.drewN | apply zn.drew | apply zn.zaD | apply zn.zaF) | exact HI0.out)); (case side2 => repeat (first | (with_reducible first | exact HB.out | apply ze | apply zb | apply zf | refine zh ?_ (zn.ge HI0.out)) | exact HB.out)); rintro e w11 ⟨rfl, hi, hb, hk⟩; refine ⟨_, rfl, ?_⟩; have n0_ := za.mk (Kd.zat (Kd.zcj (zn.apart (show zn w0 _ g s0_0 x1001_2 x1002_2 from by repeat (first | (with_reducible first | exact HI0.out | apply zn.alloc | apply zn.drewN | apply zn.drew | apply zn.zaD | apply zn.zaF) | exact HI0.out)) (by (with_reducible repeat (first | apply Kd.zG | apply Kd.zC | apply Kd.zJ)); exact HO_7.out) (by decide)) hk (fun _ h => h.2)) (fun _ h => h.1)); have n1_ := za.mk (zz.trans (by repeat (first | (with_reducible first | exact HK.out | apply zz.zaS | apply zZ | apply zad | apply z8) | exact HK.out)) hk (.inl rfl)); have n2_ := za.mk (hb); have n3_ := za.mk (hi); clear HO_7; clear HK; clear HB; clear HI0; have HO_7 := n0_; have HK := n1_; have HB := n2_; have HI0 := n3_; clear n0_ n1_ n2_ n3_; (try clear hb); (try clear hb2); (try clear hk); (try clear hi); obtain ⟨Ao12, co12, eo12⟩ := Kd.zaI HO_7.out; subst eo12) | ((with_reducible refine zD (f := 35) rfl ?_); refine zW (some 25) rfl rfl Try.func35 (by kernel_rfl) rfl #[.pointer (some ⟨g, 0, none⟩)] rfl (by (try simp only [List.map_toArray, List.map_cons, List.map_nil]); first | done | rfl | (simp only [List.length_drop, List.length_take]; rfl)) ?_; (with_reducible refine (zaw.calls g s0_0 t252 t253 t254 t255 t256 w0 _ ?side1 ?side2 A9.out).mono ?_); (case side1 => repeat (first | (with_reducible first | exact HI0.out | apply zn.alloc | apply zn.drewN | apply zn.drew | apply zn.zaD | apply zn.zaF) | exact HI0.out)); (case side2 => repeat (first | (with_reducible first | exact HB.out | apply ze | apply zb | apply zf | refine zh ?_ (zn.ge HI0.out)) | exact HB.out)); rintro e w13 ⟨rfl, hi, hb, hk⟩; refine ⟨_, rfl, ?_⟩; have n0_ := za.mk (Kd.zat (Kd.zcj (zn.apart (show zn w0 _ g s0_0 t252 t253 from by repeat (first | (with_reducible first | exact HI0.out | apply zn.alloc | apply zn.drewN | apply zn.drew | apply zn.zaD | apply zn.zaF) | exact HI0.out)) (by (with_reducible repeat (first | apply Kd.zG | apply Kd.zC | apply Kd.zJ)); exact HO_7.out) (by decide)) hk (fun _ h => h.2)) (fun _ h => h.1)); have n1_ := za.mk (zz.trans (by repeat (first | (with_reducible first | exact HK.out | apply zz.zaS | apply zZ | apply zad | apply z8) | exact HK.out)) hk (.inl rfl)); have n2_ := za.mk (hb); have n3_ := za.mk (hi); clear HO_7; clear HK; clear HB; clear HI0; have HO_7 := n0_; have HK := n1_; have HB := n2_; have HI0 := n3_; clear n0_ n1_ n2_ n3_; (try clear hb); (try clear hb2); (try clear hk); (try clear hi)) | ((with_reducible refine zbd (b := .append) (xs := #[.tmp 22, .tmp 27]) rfl ?_); (try (refine zc2 (by rfl) ?_; dsimp only)); at_builtin; refine Kd.zbX k63 w.heap.size rfl (.tmp 22) (.tmp 27) 31 63 (.agg #[(.int .i64 0), (.int .i64 0), (.string ⟨#[]⟩)]) 32 rfl Try.underlying31 zcD rfl (by decide) (by omega) (.slice Ao12 x7_2.length co12) x7_2 (⟨1, x8_1, t254⟩ : S63) [.int .i64 1, .int .i64 x8_1, .string t254] (fun _ => True) (fun _ => False) rfl rfl ?aP (fun _ hk => hk.elim) ?aF ?aO (Below.refl _ _) ?aS ?aL ?_; (case aP => exact zcm _ _ _ (⟨1, x8_1, t254⟩ : S63)); (case aF => exact (fun _ _ => trivial)); (case aO => exact (by (with_reducible repeat (first | apply Kd.zG | apply Kd.zC | apply Kd.zJ)); exact HO_7.out)); (case aS => exact (zcS (w := w) (g := g) (row := none) (by repeat (first | (with_reducible first | exact HK.out | apply zz.zaS | apply zZ | apply zad | apply z8) | exact HK.out)))); (case aL => have := LMc10.out; omega); intro v258 w14 ho hb hg hat; rw [← Ny257.out] at ho; have n0_ := za.mk (zn.grown (by repeat (first | (with_reducible first | exact HI0.out | apply zn.alloc | apply zn.drewN | apply zn.drew | apply zn.zaD | apply zn.zaF) | exact HI0.out)) hg (zn.own_ne HI0.out HO_7.out (by decide))); have n1_ := za.mk (zbG (by repeat (first | (with_reducible first | exact HB.out | apply ze | apply zb | apply zf | refine zh ?_ (zn.ge HI0.out)) | exact HB.out)) HL.out hb); have n2_ := za.mk (zz.trans (by repeat (first | (with_reducible first | exact HK.out | apply zz.zaS | apply zZ | apply zad | apply z8) | exact HK.out)) (zz.zdg hg g) (Kd.zd9 HO_7.out)); have n3_ := za.mk (ho); clear HI0; clear HB; clear HK; clear HO_7; have HI0 := n0_; have HB := n1_; have HK := n2_; have HO259 := n3_; clear n0_ n1_ n2_ n3_; clear ho hb hg hat))
          go_roundg k2
          case measure => have := HK1.out; have := HK2.out; omega
          case rel => exact ⟨(y257), (t255), (t256), H', ⟨by have := HK1.out; have := HK2.out; omega⟩, ⟨by (with_reducible repeat (first | apply Kd.zG | apply Kd.zC | apply Kd.zJ)); exact HO259.out⟩, ⟨by repeat (first | (with_reducible first | exact HI0.out | apply zn.alloc | apply zn.drewN | apply zn.drew | apply zn.zaD | apply zn.zaF) | exact HI0.out)⟩, ⟨by repeat (first | (with_reducible first | exact HK.out | apply zz.zaS | apply zZ | apply zad | apply z8) | exact HK.out)⟩, ⟨by repeat (first | (with_reducible first | exact HB.out | apply ze | apply zb | apply zf | refine zh ?_ (zn.ge HI0.out)) | exact HB.out)⟩⟩
         ·rw [if_neg c10] at H
          exact absurd H (by simp)
        ·rw [if_neg c8] at H
         have c8b0 : decide ((x7_2.length : Int) < a2) = false := decide_eq_false c8
         clear c8
         (first | rw [c8b0] | (simp only [zY, zah]; rw [c8b0]) | skip)
         have H' := za.mk H
         clear H
         go_wp2_with (first | ((with_reducible refine zD (f := 49) rfl ?_); refine zW (some 15) rfl rfl Try.func49 (by kernel_rfl) rfl #[.pointer (some ⟨g, 0, none⟩), .int .i64 4] rfl (by (try simp only [List.map_toArray, List.map_cons, List.map_nil]); first | done | rfl | (simp only [List.length_drop, List.length_take]; rfl)) ?_; (with_reducible refine (zaV.calls g s0_0 x1001_2 x1002_2 4 true t252 t253 w0 _ ?side1 ?side2 A6.out).mono ?_); (case side1 => repeat (first | (with_reducible first | exact HI0.out | apply zn.alloc | apply zn.drewN | apply zn.drew | apply zn.zaD | apply zn.zaF) | exact HI0.out)); (case side2 => repeat (first | (with_reducible first | exact HB.out | apply ze | apply zb | apply zf | refine zh ?_ (zn.ge HI0.out)) | exact HB.out)); rintro e w15 ⟨rfl, hi, hb, hk⟩; refine ⟨_, rfl, ?_⟩; have n0_ := za.mk (Kd.zat (Kd.zcj (zn.apart (show zn w0 _ g s0_0 x1001_2 x1002_2 from by repeat (first | (with_reducible first | exact HI0.out | apply zn.alloc | apply zn.drewN | apply zn.drew | apply zn.zaD | apply zn.zaF) | exact HI0.out)) (by (with_reducible repeat (first | apply Kd.zG | apply Kd.zC | apply Kd.zJ)); exact HO_7.out) (by decide)) hk (fun _ h => h.2)) (fun _ h => h.1)); have n1_ := za.mk (zz.trans (by repeat (first | (with_reducible first | exact HK.out | apply zz.zaS | apply zZ | apply zad | apply z8) | exact HK.out)) hk (.inl rfl)); have n2_ := za.mk (hb); have n3_ := za.mk (hi); clear HO_7; clear HK; clear HB; clear HI0; have HO_7 := n0_; have HK := n1_; have HB := n2_; have HI0 := n3_; clear n0_ n1_ n2_ n3_; (try clear hb); (try clear hb2); (try clear hk); (try clear hi); obtain ⟨Ao16, co16, eo16⟩ := Kd.zaI HO_7.out; subst eo16))
         go_meet
         case rel => exact ⟨_, (x7_2), (t252), (t253), H', ⟨by have := HK1.out; have := HK2.out; first | omega | exact Nat.le_refl _⟩, ⟨by (with_reducible repeat (first | apply Kd.zG | apply Kd.zC | apply Kd.zJ)); exact HO_7.out⟩, ⟨by repeat (first | (with_reducible first | exact HI0.out | apply zn.alloc | apply zn.drewN | apply zn.drew | apply zn.zaD | apply zn.zaF) | exact HI0.out)⟩, ⟨by repeat (first | (with_reducible first | exact HK.out | apply zz.zaS | apply zZ | apply zad | apply z8) | exact HK.out)⟩, ⟨by repeat (first | (with_reducible first | exact HB.out | apply ze | apply zb | apply zf | refine zh ?_ (zn.ge HI0.out)) | exact HB.out)⟩⟩
       ·replace c7 := Bool.eq_false_iff.mpr c7
        subst c7
        have H1 : (zt.j2 k2 a1 a2 x7_2 x8_1 s0_0 t252 t253) = some (r1, r2, r3) := by rw [if_neg (show ¬ (false = true) by decide)] at H; exact H
        clear H
        have H := H1
        clear H1
        have H' := za.mk H
        clear H
        go_wp2_with (first | ((with_reducible refine zD (f := 49) rfl ?_); refine zW (some 15) rfl rfl Try.func49 (by kernel_rfl) rfl #[.pointer (some ⟨g, 0, none⟩), .int .i64 4] rfl (by (try simp only [List.map_toArray, List.map_cons, List.map_nil]); first | done | rfl | (simp only [List.length_drop, List.length_take]; rfl)) ?_; (with_reducible refine (zaV.calls g s0_0 x1001_2 x1002_2 4 false t252 t253 w0 _ ?side1 ?side2 A6.out).mono ?_); (case side1 => repeat (first | (with_reducible first | exact HI0.out | apply zn.alloc | apply zn.drewN | apply zn.drew | apply zn.zaD | apply zn.zaF) | exact HI0.out)); (case side2 => repeat (first | (with_reducible first | exact HB.out | apply ze | apply zb | apply zf | refine zh ?_ (zn.ge HI0.out)) | exact HB.out)); rintro e w17 ⟨rfl, hi, hb, hk⟩; refine ⟨_, rfl, ?_⟩; have n0_ := za.mk (Kd.zat (Kd.zcj (zn.apart (show zn w0 _ g s0_0 x1001_2 x1002_2 from by repeat (first | (with_reducible first | exact HI0.out | apply zn.alloc | apply zn.drewN | apply zn.drew | apply zn.zaD | apply zn.zaF) | exact HI0.out)) (by (with_reducible repeat (first | apply Kd.zG | apply Kd.zC | apply Kd.zJ)); exact HO_7.out) (by decide)) hk (fun _ h => h.2)) (fun _ h => h.1)); have n1_ := za.mk (zz.trans (by repeat (first | (with_reducible first | exact HK.out | apply zz.zaS | apply zZ | apply zad | apply z8) | exact HK.out)) hk (.inl rfl)); have n2_ := za.mk (hb); have n3_ := za.mk (hi); clear HO_7; clear HK; clear HB; clear HI0; have HO_7 := n0_; have HK := n1_; have HB := n2_; have HI0 := n3_; clear n0_ n1_ n2_ n3_; (try clear hb); (try clear hb2); (try clear hk); (try clear hi)))
        go_meet
        case rel => exact ⟨_, (x7_2), (t252), (t253), H', ⟨by have := HK1.out; have := HK2.out; first | omega | exact Nat.le_refl _⟩, ⟨by (with_reducible repeat (first | apply Kd.zG | apply Kd.zC | apply Kd.zJ)); exact HO_7.out⟩, ⟨by repeat (first | (with_reducible first | exact HI0.out | apply zn.alloc | apply zn.drewN | apply zn.drew | apply zn.zaD | apply zn.zaF) | exact HI0.out)⟩, ⟨by repeat (first | (with_reducible first | exact HK.out | apply zz.zaS | apply zZ | apply zad | apply z8) | exact HK.out)⟩, ⟨by repeat (first | (with_reducible first | exact HB.out | apply ze | apply zb | apply zf | refine zh ?_ (zn.ge HI0.out)) | exact HB.out)⟩⟩
    case rest =>
     clear HC5
     try clear c1
     try clear c2
     try clear p2
     try clear c3
     try clear c4
     try clear c4b0
     try clear c7
     try clear c8
     try clear c8b0
     try clear c10
     try clear p2
     obtain ⟨kq, x7_4, x1001_4, x1002_4, HA, HJ4, HO_7, HI0, HK, HB⟩ := hcut
     cases kq with
     | zero => exact absurd HA.out (by simp [zt.j2])
     | succ kj4 =>
      have H := HA.out
      clear HA
      simp only [zt.j2] at H
      have HC18 := za.mk H
      clear H
      go_upto_region 7 with (fail)
      go_cut [37] (fun v37 wc => ∃ (kq : Nat) (x37_17 : Bool), v37 = .bool x37_17 ∧ za (zt.j3 kq a1 a2 x7_4 x8_1 x37_17 s0_0 x1001_4 x1002_4 = some (r1, r2, r3)) ∧ za (kq ≤ kj4) ∧ za (Kd.R k63 63 wc w.heap.size (fun _ => True) u7 x7_4) ∧ za (zn w0 wc g s0_0 x1001_4 x1002_4) ∧ za (zz w wc g none) ∧ za (Below w0.heap.size w0 wc))
      case first =>
       have H := HC18.out
       clear HC18
       by_cases c19 : x8_1 = a1
       ·rw [if_pos c19] at H
        have c19b0 : (x8_1 == a1) = true := beq_iff_eq.mpr c19
        have c19b1 : (x8_1 != a1) = false := bne_eq_false_iff_eq.mpr c19
        clear c19
        (first | rw [c19b0] | (simp only [zY, zah]; rw [c19b0]) | skip)
        have H' := za.mk H
        clear H
        go_wp2
        go_meet
        case rel => exact ⟨_, (true), (by first | rfl | (simp; done) | (simp [*]; done)), H', ⟨by have := HK1.out; have := HJ4.out; first | omega | exact Nat.le_refl _⟩, ⟨by (with_reducible repeat (first | apply Kd.zG | apply Kd.zC | apply Kd.zJ)); exact HO_7.out⟩, ⟨by repeat (first | (with_reducible first | exact HI0.out | apply zn.alloc | apply zn.drewN | apply zn.drew | apply zn.zaD | apply zn.zaF) | exact HI0.out)⟩, ⟨by repeat (first | (with_reducible first | exact HK.out | apply zz.zaS | apply zZ | apply zad | apply z8) | exact HK.out)⟩, ⟨by repeat (first | (with_reducible first | exact HB.out | apply ze | apply zb | apply zf | refine zh ?_ (zn.ge HI0.out)) | exact HB.out)⟩⟩
       ·rw [if_neg c19] at H
        have c19b0 : (x8_1 == a1) = false := beq_eq_false_iff_ne.mpr c19
        have c19b1 : (x8_1 != a1) = true := bne_iff_ne.mpr c19
        (first | rw [c19b0] | (simp only [zY, zah]; rw [c19b0]) | skip)
        have H' := za.mk H
        clear H
        obtain ⟨Ao20, co20, eo20⟩ := Kd.zaI HO_7.out
        subst eo20
        go_wp2
        go_meet
        case rel => exact ⟨_, (((x7_4.length : Int) == a2)), (by first | rfl | (simp; done) | (simp [*]; done)), H', ⟨by have := HK1.out; have := HJ4.out; first | omega | exact Nat.le_refl _⟩, ⟨by (with_reducible repeat (first | apply Kd.zG | apply Kd.zC | apply Kd.zJ)); exact HO_7.out⟩, ⟨by repeat (first | (with_reducible first | exact HI0.out | apply zn.alloc | apply zn.drewN | apply zn.drew | apply zn.zaD | apply zn.zaF) | exact HI0.out)⟩, ⟨by repeat (first | (with_reducible first | exact HK.out | apply zz.zaS | apply zZ | apply zad | apply z8) | exact HK.out)⟩, ⟨by repeat (first | (with_reducible first | exact HB.out | apply ze | apply zb | apply zf | refine zh ?_ (zn.ge HI0.out)) | exact HB.out)⟩⟩
      case rest =>
       clear HC18
       try clear c1
       try clear c2
       try clear p2
       try clear c3
       try clear c4
       try clear c4b0
       try clear c7
       try clear c8
       try clear c8b0
       try clear c10
       try clear c19
       try clear c19b0
       try clear c19b1
       try clear p2
       obtain ⟨kq, x37_17, rfl, HA, HJ17, HO_7, HI0, HK, HB⟩ := hcut
       cases kq with
       | zero => exact absurd HA.out (by simp [zt.j3])
       | succ kj17 =>
        have H := HA.out
        clear HA
        simp only [zt.j3] at H
        by_cases c21 : x37_17 = true
        ·subst c21
         have H1 : (zt.l0 kj17 a1 a2 x7_4 (wrap64 (x8_1 + 1)) s0_0 x1001_4 x1002_4) = some (r1, r2, r3) := by rw [if_pos rfl] at H; exact H
         clear H
         have H := H1
         clear H1
         have H' := za.mk H
         clear H
         go_wp2
         go_roundg kj17
         case measure => have := HK1.out; have := HJ4.out; have := HJ17.out; omega
         case rel => exact ⟨(x7_4), (wrap64 (x8_1 + 1)), (x1001_4), (x1002_4), (by first | rfl | (simp; done) | (simp [*]; done)), H', ⟨by have := HK1.out; have := HJ4.out; have := HJ17.out; omega⟩, ⟨by (with_reducible repeat (first | apply Kd.zG | apply Kd.zC | apply Kd.zJ)); exact HO_7.out⟩, ⟨by repeat (first | (with_reducible first | exact HI0.out | apply zn.alloc | apply zn.drewN | apply zn.drew | apply zn.zaD | apply zn.zaF) | exact HI0.out)⟩, ⟨by repeat (first | (with_reducible first | exact HK.out | apply zz.zaS | apply zZ | apply zad | apply z8) | exact HK.out)⟩, ⟨by repeat (first | (with_reducible first | exact HB.out | apply ze | apply zb | apply zf | refine zh ?_ (zn.ge HI0.out)) | exact HB.out)⟩⟩
        ·replace c21 := Bool.eq_false_iff.mpr c21
         subst c21
         have H1 : ((zai.f s0_0 x1001_4 x1002_4 4).bind fun bt260 => (if bt260.1 = 0 then ((zaw.f s0_0 bt260.2.1 bt260.2.2).bind fun bt263 => (if x7_4.length < 4398046511104 then (zt.l0 kj17 a1 a2 (x7_4 ++ [(⟨2, x8_1, bt263.1⟩ : S63)]) (wrap64 (x8_1 + 1)) s0_0 bt263.2.1 bt263.2.2) else (none))) else (if bt260.1 = 1 then (if x7_4.length < 4398046511104 then (zt.l0 kj17 a1 a2 (x7_4 ++ [(⟨3, x8_1, (⟨#[]⟩ : ByteArray)⟩ : S63)]) (wrap64 (x8_1 + 1)) s0_0 bt260.2.1 bt260.2.2) else (none)) else (zt.l0 kj17 a1 a2 x7_4 (wrap64 (x8_1 + 1)) s0_0 bt260.2.1 bt260.2.2)))) = some (r1, r2, r3) := by rw [if_neg (show ¬ (false = true) by decide)] at H; exact H
         clear H
         have H := H1
         clear H1
         replace H := Option.bind_eq_some_iff.mp H
         obtain ⟨⟨t260, t261, t262⟩, A220, H⟩ := H
         replace H : (if t260 = 0 then ((zaw.f s0_0 t261 t262).bind fun bt263 => (if x7_4.length < 4398046511104 then (zt.l0 kj17 a1 a2 (x7_4 ++ [(⟨2, x8_1, bt263.1⟩ : S63)]) (wrap64 (x8_1 + 1)) s0_0 bt263.2.1 bt263.2.2) else (none))) else (if t260 = 1 then (if x7_4.length < 4398046511104 then (zt.l0 kj17 a1 a2 (x7_4 ++ [(⟨3, x8_1, (⟨#[]⟩ : ByteArray)⟩ : S63)]) (wrap64 (x8_1 + 1)) s0_0 t261 t262) else (none)) else (zt.l0 kj17 a1 a2 x7_4 (wrap64 (x8_1 + 1)) s0_0 t261 t262))) = some (r1, r2, r3) := H
         have A22 := za.mk A220
         clear A220
         by_cases c23 : t260 = 0
         ·rw [if_pos c23] at H
          have c23b0 : (t260 == 0) = true := beq_iff_eq.mpr c23
          have c23b1 : (t260 != 0) = false := bne_eq_false_iff_eq.mpr c23
          clear c23
          replace H := Option.bind_eq_some_iff.mp H
          obtain ⟨⟨t263, t264, t265⟩, A240, H⟩ := H
          replace H : (if x7_4.length < 4398046511104 then (zt.l0 kj17 a1 a2 (x7_4 ++ [(⟨2, x8_1, t263⟩ : S63)]) (wrap64 (x8_1 + 1)) s0_0 t264 t265) else (none)) = some (r1, r2, r3) := H
          have A24 := za.mk A240
          clear A240
          by_cases c25 : x7_4.length < 4398046511104
          ·rw [if_pos c25] at H
           have LMc25 := za.mk c25
           clear c25
           obtain ⟨y266, hy266⟩ : ∃ y_ : List (S63), y_ = (x7_4 ++ [(⟨2, x8_1, t263⟩ : S63)]) := ⟨_, rfl⟩
           replace H : (zt.l0 kj17 a1 a2 y266 (wrap64 (x8_1 + 1)) s0_0 t264 t265) = some (r1, r2, r3) := by first | (rw [hy266]; with_reducible exact H) | (have H2_ := (Option.bind_some _ _).symm.trans H; rw [hy266]; with_reducible exact H2_) | (have H2_ := (Option.bind_some _ _).symm.trans H; with_reducible exact H2_) | with_reducible exact H | (rw [hy266]; exact H) | exact H
           have Ny266 := za.mk hy266
           clear hy266
           have H' := za.mk H
           clear H
           go_wp2_with (first | ((with_reducible refine zD (f := 28) rfl ?_); refine zW (some 39) rfl rfl Try.func28 (by kernel_rfl) rfl #[.pointer (some ⟨g, 0, none⟩), .int .i64 4] rfl (by (try simp only [List.map_toArray, List.map_cons, List.map_nil]); first | done | rfl | (simp only [List.length_drop, List.length_take]; rfl)) ?_; (with_reducible refine (zai.calls g s0_0 x1001_4 x1002_4 4 t260 t261 t262 w0 _ ?side1 ?side2 A22.out).mono ?_); (case side1 => repeat (first | (with_reducible first | exact HI0.out | apply zn.alloc | apply zn.drewN | apply zn.drew | apply zn.zaD | apply zn.zaF) | exact HI0.out)); (case side2 => repeat (first | (with_reducible first | exact HB.out | apply ze | apply zb | apply zf | refine zh ?_ (zn.ge HI0.out)) | exact HB.out)); rintro e w26 ⟨rfl, hi, hb, hk⟩; refine ⟨_, rfl, ?_⟩; have n0_ := za.mk (Kd.zat (Kd.zcj (zn.apart (show zn w0 _ g s0_0 x1001_4 x1002_4 from by repeat (first | (with_reducible first | exact HI0.out | apply zn.alloc | apply zn.drewN | apply zn.drew | apply zn.zaD | apply zn.zaF) | exact HI0.out)) (by (with_reducible repeat (first | apply Kd.zG | apply Kd.zC | apply Kd.zJ)); exact HO_7.out) (by decide)) hk (fun _ h => h.2)) (fun _ h => h.1)); have n1_ := za.mk (zz.trans (by repeat (first | (with_reducible first | exact HK.out | apply zz.zaS | apply zZ | apply zad | apply z8) | exact HK.out)) hk (.inl rfl)); have n2_ := za.mk (hb); have n3_ := za.mk (hi); clear HO_7; clear HK; clear HB; clear HI0; have HO_7 := n0_; have HK := n1_; have HB := n2_; have HI0 := n3_; clear n0_ n1_ n2_ n3_; (try clear hb); (try clear hb2); (try clear hk); (try clear hi)) | ((with_reducible refine zD (f := 35) rfl ?_); refine zW (some 45) rfl rfl Try.func35 (by kernel_rfl) rfl #[.pointer (some ⟨g, 0, none⟩)] rfl (by (try simp only [List.map_toArray, List.map_cons, List.map_nil]); first | done | rfl | (simp only [List.length_drop, List.length_take]; rfl)) ?_; (with_reducible refine (zaw.calls g s0_0 t261 t262 t263 t264 t265 w0 _ ?side1 ?side2 A24.out).mono ?_); (case side1 => repeat (first | (with_reducible first | exact HI0.out | apply zn.alloc | apply zn.drewN | apply zn.drew | apply zn.zaD | apply zn.zaF) | exact HI0.out)); (case side2 => repeat (first | (with_reducible first | exact HB.out | apply ze | apply zb | apply zf | refine zh ?_ (zn.ge HI0.out)) | exact HB.out)); rintro e w27 ⟨rfl, hi, hb, hk⟩; refine ⟨_, rfl, ?_⟩; have n0_ := za.mk (Kd.zat (Kd.zcj (zn.apart (show zn w0 _ g s0_0 t261 t262 from by repeat (first | (with_reducible first | exact HI0.out | apply zn.alloc | apply zn.drewN | apply zn.drew | apply zn.zaD | apply zn.zaF) | exact HI0.out)) (by (with_reducible repeat (first | apply Kd.zG | apply Kd.zC | apply Kd.zJ)); exact HO_7.out) (by decide)) hk (fun _ h => h.2)) (fun _ h => h.1)); have n1_ := za.mk (zz.trans (by repeat (first | (with_reducible first | exact HK.out | apply zz.zaS | apply zZ | apply zad | apply z8) | exact HK.out)) hk (.inl rfl)); have n2_ := za.mk (hb); have n3_ := za.mk (hi); clear HO_7; clear HK; clear HB; clear HI0; have HO_7 := n0_; have HK := n1_; have HB := n2_; have HI0 := n3_; clear n0_ n1_ n2_ n3_; (try clear hb); (try clear hb2); (try clear hk); (try clear hi)) | ((with_reducible refine zbd (b := .append) (xs := #[.tmp 42, .tmp 47]) rfl ?_); (try (refine zc2 (by rfl) ?_; dsimp only)); at_builtin; refine Kd.zbX k63 w.heap.size rfl (.tmp 42) (.tmp 47) 31 63 (.agg #[(.int .i64 0), (.int .i64 0), (.string ⟨#[]⟩)]) 32 rfl Try.underlying31 zcD rfl (by decide) (by omega) u7 x7_4 (⟨2, x8_1, t263⟩ : S63) [.int .i64 2, .int .i64 x8_1, .string t263] (fun _ => True) (fun _ => False) rfl rfl ?aP (fun _ hk => hk.elim) ?aF ?aO (Below.refl _ _) ?aS ?aL ?_; (case aP => exact zcm _ _ _ (⟨2, x8_1, t263⟩ : S63)); (case aF => exact (fun _ _ => trivial)); (case aO => exact (by (with_reducible repeat (first | apply Kd.zG | apply Kd.zC | apply Kd.zJ)); exact HO_7.out)); (case aS => exact (zcS (w := w) (g := g) (row := none) (by repeat (first | (with_reducible first | exact HK.out | apply zz.zaS | apply zZ | apply zad | apply z8) | exact HK.out)))); (case aL => have := LMc25.out; omega); intro v267 w28 ho hb hg hat; rw [← Ny266.out] at ho; have n0_ := za.mk (zn.grown (by repeat (first | (with_reducible first | exact HI0.out | apply zn.alloc | apply zn.drewN | apply zn.drew | apply zn.zaD | apply zn.zaF) | exact HI0.out)) hg (zn.own_ne HI0.out HO_7.out (by decide))); have n1_ := za.mk (zbG (by repeat (first | (with_reducible first | exact HB.out | apply ze | apply zb | apply zf | refine zh ?_ (zn.ge HI0.out)) | exact HB.out)) HL.out hb); have n2_ := za.mk (zz.trans (by repeat (first | (with_reducible first | exact HK.out | apply zz.zaS | apply zZ | apply zad | apply z8) | exact HK.out)) (zz.zdg hg g) (Kd.zd9 HO_7.out)); have n3_ := za.mk (ho); clear HI0; clear HB; clear HK; clear HO_7; have HI0 := n0_; have HB := n1_; have HK := n2_; have HO268 := n3_; clear n0_ n1_ n2_ n3_; clear ho hb hg hat))
           go_roundg kj17
           case measure => have := HK1.out; have := HJ4.out; have := HJ17.out; omega
           case rel => exact ⟨(y266), (wrap64 (x8_1 + 1)), (t264), (t265), (by first | rfl | (simp; done) | (simp [*]; done)), H', ⟨by have := HK1.out; have := HJ4.out; have := HJ17.out; omega⟩, ⟨by (with_reducible repeat (first | apply Kd.zG | apply Kd.zC | apply Kd.zJ)); exact HO268.out⟩, ⟨by repeat (first | (with_reducible first | exact HI0.out | apply zn.alloc | apply zn.drewN | apply zn.drew | apply zn.zaD | apply zn.zaF) | exact HI0.out)⟩, ⟨by repeat (first | (with_reducible first | exact HK.out | apply zz.zaS | apply zZ | apply zad | apply z8) | exact HK.out)⟩, ⟨by repeat (first | (with_reducible first | exact HB.out | apply ze | apply zb | apply zf | refine zh ?_ (zn.ge HI0.out)) | exact HB.out)⟩⟩
          ·rw [if_neg c25] at H
           exact absurd H (by simp)
         ·rw [if_neg c23] at H
          have c23b0 : (t260 == 0) = false := beq_eq_false_iff_ne.mpr c23
          have c23b1 : (t260 != 0) = true := bne_iff_ne.mpr c23
          by_cases c29 : t260 = 1
          ·rw [if_pos c29] at H
           have c29b0 : (t260 == 1) = true := beq_iff_eq.mpr c29
           have c29b1 : (t260 != 1) = false := bne_eq_false_iff_eq.mpr c29
           clear c29
           by_cases c30 : x7_4.length < 4398046511104
           ·rw [if_pos c30] at H
            have LMc30 := za.mk c30
            clear c30
            obtain ⟨y269, hy269⟩ : ∃ y_ : List (S63), y_ = (x7_4 ++ [(⟨3, x8_1, (⟨#[]⟩ : ByteArray)⟩ : S63)]) := ⟨_, rfl⟩
            replace H : (zt.l0 kj17 a1 a2 y269 (wrap64 (x8_1 + 1)) s0_0 t261 t262) = some (r1, r2, r3) := by first | (rw [hy269]; with_reducible exact H) | (have H2_ := (Option.bind_some _ _).symm.trans H; rw [hy269]; with_reducible exact H2_) | (have H2_ := (Option.bind_some _ _).symm.trans H; with_reducible exact H2_) | with_reducible exact H | (rw [hy269]; exact H) | exact H
            have Ny269 := za.mk hy269
            clear hy269
            have H' := za.mk H
            clear H
            go_wp2_with (first | ((with_reducible refine zD (f := 28) rfl ?_); refine zW (some 39) rfl rfl Try.func28 (by kernel_rfl) rfl #[.pointer (some ⟨g, 0, none⟩), .int .i64 4] rfl (by (try simp only [List.map_toArray, List.map_cons, List.map_nil]); first | done | rfl | (simp only [List.length_drop, List.length_take]; rfl)) ?_; (with_reducible refine (zai.calls g s0_0 x1001_4 x1002_4 4 t260 t261 t262 w0 _ ?side1 ?side2 A22.out).mono ?_); (case side1 => repeat (first | (with_reducible first | exact HI0.out | apply zn.alloc | apply zn.drewN | apply zn.drew | apply zn.zaD | apply zn.zaF) | exact HI0.out)); (case side2 => repeat (first | (with_reducible first | exact HB.out | apply ze | apply zb | apply zf | refine zh ?_ (zn.ge HI0.out)) | exact HB.out)); rintro e w31 ⟨rfl, hi, hb, hk⟩; refine ⟨_, rfl, ?_⟩; have n0_ := za.mk (Kd.zat (Kd.zcj (zn.apart (show zn w0 _ g s0_0 x1001_4 x1002_4 from by repeat (first | (with_reducible first | exact HI0.out | apply zn.alloc | apply zn.drewN | apply zn.drew | apply zn.zaD | apply zn.zaF) | exact HI0.out)) (by (with_reducible repeat (first | apply Kd.zG | apply Kd.zC | apply Kd.zJ)); exact HO_7.out) (by decide)) hk (fun _ h => h.2)) (fun _ h => h.1)); have n1_ := za.mk (zz.trans (by repeat (first | (with_reducible first | exact HK.out | apply zz.zaS | apply zZ | apply zad | apply z8) | exact HK.out)) hk (.inl rfl)); have n2_ := za.mk (hb); have n3_ := za.mk (hi); clear HO_7; clear HK; clear HB; clear HI0; have HO_7 := n0_; have HK := n1_; have HB := n2_; have HI0 := n3_; clear n0_ n1_ n2_ n3_; (try clear hb); (try clear hb2); (try clear hk); (try clear hi)) | ((with_reducible refine zbd (b := .append) (xs := #[.tmp 51, .tmp 54]) rfl ?_); (try (refine zc2 (by rfl) ?_; dsimp only)); at_builtin; refine Kd.zbX k63 w.heap.size rfl (.tmp 51) (.tmp 54) 31 63 (.agg #[(.int .i64 0), (.int .i64 0), (.string ⟨#[]⟩)]) 32 rfl Try.underlying31 zcD rfl (by decide) (by omega) u7 x7_4 (⟨3, x8_1, (⟨#[]⟩ : ByteArray)⟩ : S63) [.int .i64 3, .int .i64 x8_1, .string (⟨#[]⟩ : ByteArray)] (fun _ => True) (fun _ => False) rfl rfl ?aP (fun _ hk => hk.elim) ?aF ?aO (Below.refl _ _) ?aS ?aL ?_; (case aP => exact zcm _ _ _ (⟨3, x8_1, (⟨#[]⟩ : ByteArray)⟩ : S63)); (case aF => exact (fun _ _ => trivial)); (case aO => exact (by (with_reducible repeat (first | apply Kd.zG | apply Kd.zC | apply Kd.zJ)); exact HO_7.out)); (case aS => exact (zcS (w := w) (g := g) (row := none) (by repeat (first | (with_reducible first | exact HK.out | apply zz.zaS | apply zZ | apply zad | apply z8) | exact HK.out)))); (case aL => have := LMc30.out; omega); intro v270 w32 ho hb hg hat; rw [← Ny269.out] at ho; have n0_ := za.mk (zn.grown (by repeat (first | (with_reducible first | exact HI0.out | apply zn.alloc | apply zn.drewN | apply zn.drew | apply zn.zaD | apply zn.zaF) | exact HI0.out)) hg (zn.own_ne HI0.out HO_7.out (by decide))); have n1_ := za.mk (zbG (by repeat (first | (with_reducible first | exact HB.out | apply ze | apply zb | apply zf | refine zh ?_ (zn.ge HI0.out)) | exact HB.out)) HL.out hb); have n2_ := za.mk (zz.trans (by repeat (first | (with_reducible first | exact HK.out | apply zz.zaS | apply zZ | apply zad | apply z8) | exact HK.out)) (zz.zdg hg g) (Kd.zd9 HO_7.out)); have n3_ := za.mk (ho); clear HI0; clear HB; clear HK; clear HO_7; have HI0 := n0_; have HB := n1_; have HK := n2_; have HO271 := n3_; clear n0_ n1_ n2_ n3_; clear ho hb hg hat))
            go_roundg kj17
            case measure => have := HK1.out; have := HJ4.out; have := HJ17.out; omega
            case rel => exact ⟨(y269), (wrap64 (x8_1 + 1)), (t261), (t262), (by first | rfl | (simp; done) | (simp [*]; done)), H', ⟨by have := HK1.out; have := HJ4.out; have := HJ17.out; omega⟩, ⟨by (with_reducible repeat (first | apply Kd.zG | apply Kd.zC | apply Kd.zJ)); exact HO271.out⟩, ⟨by repeat (first | (with_reducible first | exact HI0.out | apply zn.alloc | apply zn.drewN | apply zn.drew | apply zn.zaD | apply zn.zaF) | exact HI0.out)⟩, ⟨by repeat (first | (with_reducible first | exact HK.out | apply zz.zaS | apply zZ | apply zad | apply z8) | exact HK.out)⟩, ⟨by repeat (first | (with_reducible first | exact HB.out | apply ze | apply zb | apply zf | refine zh ?_ (zn.ge HI0.out)) | exact HB.out)⟩⟩
           ·rw [if_neg c30] at H
            exact absurd H (by simp)
          ·rw [if_neg c29] at H
           have c29b0 : (t260 == 1) = false := beq_eq_false_iff_ne.mpr c29
           have c29b1 : (t260 != 1) = true := bne_iff_ne.mpr c29
           have H' := za.mk H
           clear H
           go_wp2_with (first | ((with_reducible refine zD (f := 28) rfl ?_); refine zW (some 39) rfl rfl Try.func28 (by kernel_rfl) rfl #[.pointer (some ⟨g, 0, none⟩), .int .i64 4] rfl (by (try simp only [List.map_toArray, List.map_cons, List.map_nil]); first | done | rfl | (simp only [List.length_drop, List.length_take]; rfl)) ?_; (with_reducible refine (zai.calls g s0_0 x1001_4 x1002_4 4 t260 t261 t262 w0 _ ?side1 ?side2 A22.out).mono ?_); (case side1 => repeat (first | (with_reducible first | exact HI0.out | apply zn.alloc | apply zn.drewN | apply zn.drew | apply zn.zaD | apply zn.zaF) | exact HI0.out)); (case side2 => repeat (first | (with_reducible first | exact HB.out | apply ze | apply zb | apply zf | refine zh ?_ (zn.ge HI0.out)) | exact HB.out)); rintro e w33 ⟨rfl, hi, hb, hk⟩; refine ⟨_, rfl, ?_⟩; have n0_ := za.mk (Kd.zat (Kd.zcj (zn.apart (show zn w0 _ g s0_0 x1001_4 x1002_4 from by repeat (first | (with_reducible first | exact HI0.out | apply zn.alloc | apply zn.drewN | apply zn.drew | apply zn.zaD | apply zn.zaF) | exact HI0.out)) (by (with_reducible repeat (first | apply Kd.zG | apply Kd.zC | apply Kd.zJ)); exact HO_7.out) (by decide)) hk (fun _ h => h.2)) (fun _ h => h.1)); have n1_ := za.mk (zz.trans (by repeat (first | (with_reducible first | exact HK.out | apply zz.zaS | apply zZ | apply zad | apply z8) | exact HK.out)) hk (.inl rfl)); have n2_ := za.mk (hb); have n3_ := za.mk (hi); clear HO_7; clear HK; clear HB; clear HI0; have HO_7 := n0_; have HK := n1_; have HB := n2_; have HI0 := n3_; clear n0_ n1_ n2_ n3_; (try clear hb); (try clear hb2); (try clear hk); (try clear hi)))
           go_roundg kj17
           case measure => have := HK1.out; have := HJ4.out; have := HJ17.out; omega
           case rel => exact ⟨(x7_4), (wrap64 (x8_1 + 1)), (t261), (t262), (by first | rfl | (simp; done) | (simp [*]; done)), H', ⟨by have := HK1.out; have := HJ4.out; have := HJ17.out; omega⟩, ⟨by (with_reducible repeat (first | apply Kd.zG | apply Kd.zC | apply Kd.zJ)); exact HO_7.out⟩, ⟨by repeat (first | (with_reducible first | exact HI0.out | apply zn.alloc | apply zn.drewN | apply zn.drew | apply zn.zaD | apply zn.zaF) | exact HI0.out)⟩, ⟨by repeat (first | (with_reducible first | exact HK.out | apply zz.zaS | apply zZ | apply zad | apply z8) | exact HK.out)⟩, ⟨by repeat (first | (with_reducible first | exact HB.out | apply ze | apply zb | apply zf | refine zh ?_ (zn.ge HI0.out)) | exact HB.out)⟩⟩
   ·rw [if_neg c4] at H
    have c4b0 : decide (x8_1 ≤ a1) = false := decide_eq_false c4
    clear c4
    simp only [Option.some.injEq, Prod.mk.injEq] at H
    obtain ⟨rfl, rfl, rfl⟩ := H
    go_wp2
    go_ret
    exact ⟨_, by first | rfl | (simp [zx, zw] <;> rfl) | (simp [*, zx, zw] <;> rfl), by (with_reducible repeat (first | apply Kd.zG | apply Kd.zC | apply Kd.zJ)); exact HO_7.out, by repeat (first | (with_reducible first | exact HI0.out | apply zn.alloc | apply zn.drewN | apply zn.drew | apply zn.zaD | apply zn.zaF) | exact HI0.out), by repeat (first | (with_reducible first | exact HB.out | apply ze | apply zb | apply zf | refine zh ?_ (zn.ge HI0.out)) | exact HB.out), by repeat (first | (with_reducible first | exact HK.out | apply zz.zaS | apply zZ | apply zad | apply z8) | exact HK.out)⟩
mutual
def zN.l0 : Nat → List ByteArray → List ByteArray → List Int → Int → Option (Int)
 | 0, _, _, _, _ => none
 | k + 1, x0, x1, x5, x6 => if x6 < (x0.length : Int) then (zN.l1 k x0 x1 x5 x6 0 0) else (if 0 ≤ (x1.length : Int) then (if (x1.length : Int) < (x5.length : Int) then (some (rd x5 (x1.length : Int))) else (none)) else (none))
def zN.l1 : Nat → List ByteArray → List ByteArray → List Int → Int → Int → Int → Option (Int)
 | 0, _, _, _, _, _, _ => none
 | k + 1, x0, x1, x5, x6, x7, x8 => if x8 < (x1.length : Int) then (if 0 ≤ (wrap64 (x8 + 1)) then (if (wrap64 (x8 + 1)) < (x5.length : Int) then (if 0 ≤ x6 then (if x6 < (x0.length : Int) then (if 0 ≤ x8 then (if (zaJ ByteArray.empty x0 x6).toList = (zaJ ByteArray.empty x1 x8).toList then (zN.l1 k x0 x1 (x5.set ((wrap64 (x8 + 1)) : Int).toNat (wrap64 (x7 + 1))) x6 (rd x5 (wrap64 (x8 + 1))) (wrap64 (x8 + 1))) else (if x8 < (x5.length : Int) then (zN.l1 k x0 x1 (x5.set ((wrap64 (x8 + 1)) : Int).toNat (mx (rd x5 (wrap64 (x8 + 1))) (rd x5 x8))) x6 (rd x5 (wrap64 (x8 + 1))) (wrap64 (x8 + 1))) else (none))) else (none)) else (none)) else (none)) else (none)) else (none)) else (zN.l0 k x0 x1 x5 (wrap64 (x6 + 1)))
end
def zN.f (k : Nat) (l0 : List ByteArray) (l1 : List ByteArray) : Option (Int) := if 0 ≤ (wrap64 ((l1.length : Int) + 1)) then (if (wrap64 ((l1.length : Int) + 1) : Int).toNat ≤ 35184372088832 then (zN.l0 k l0 l1 (List.replicate (wrap64 ((l1.length : Int) + 1) : Int).toNat 0) 0) else (none)) else (none)
set_option maxHeartbeats 8000000 in
set_option maxRecDepth 100000 in
theorem zN.calls (k : Nat) (A0 : Option Addr) (c0 : Nat) (l0 : List ByteArray) (A1 : Option Addr) (c1 : Nat) (l1 : List ByteArray) (r : Int) (w : World) (hr0 : Kd.C Kd.string w A0 l0.length l0) (hc0 : l0.length ≤ c0) (hr1 : Kd.C Kd.string w A1 l1.length l1) (hc1 : l1.length ≤ c1) (h : zN.f k l0 l1 = some r) :
  Calls Try.prog 43 #[.slice A0 l0.length c0, .slice A1 l1.length c1] w fun e w' => e = .returned (.int .i64 r) ∧ Below w.heap.size w w' := by
 have HR0 := za.mk hr0
 have HC0 := za.mk hc0
 clear hr0 hc0
 have HR1 := za.mk hr1
 have HC1 := za.mk hc1
 clear hr1 hc1
 have HB := za.mk (Below.refl w.heap.size w)
 have H : (if 0 ≤ (wrap64 ((l1.length : Int) + 1)) then (if (wrap64 ((l1.length : Int) + 1) : Int).toNat ≤ 35184372088832 then (zN.l0 k l0 l1 (List.replicate (wrap64 ((l1.length : Int) + 1) : Int).toNat 0) 0) else (none)) else (none)) = some r := h
 clear h
 obtain ⟨ji3, hji3⟩ : ∃ j_ : Int, (wrap64 ((l1.length : Int) + 1)) = j_ := ⟨_, rfl⟩
 replace H : (if 0 ≤ (ji3) then (if (ji3 : Int).toNat ≤ 35184372088832 then (zN.l0 k l0 l1 (List.replicate (ji3 : Int).toNat 0) 0) else (none)) else (none)) = some r := by first | (rw [hji3] at H; exact H) | (simp only [hji3] at H ⊢; exact H)
 have hji3w : (IntKind.i64.wrap ((l1.length : Int) + 1)) = ji3 := (zY _).trans hji3
 by_cases c4 : 0 ≤ (ji3)
 ·rw [if_pos c4] at H
  have c4b0 := eq_true c4
  have c4b1 : decide (0 ≤ (ji3)) = true := decide_eq_true c4
  clear c4
  by_cases c5 : (ji3 : Int).toNat ≤ 35184372088832
  ·rw [if_pos c5] at H
   have c5b0 := eq_true c5
   have c5b1 : decide ((ji3 : Int).toNat ≤ 35184372088832) = true := decide_eq_true c5
   clear c5
   obtain ⟨y534, hy534⟩ : ∃ y_ : List Int, y_ = (List.replicate (ji3 : Int).toNat 0) := ⟨_, rfl⟩
   replace H : (zN.l0 k l0 l1 y534 0) = some r := by first | (rw [hy534]; with_reducible exact H) | (have H2_ := (Option.bind_some _ _).symm.trans H; rw [hy534]; with_reducible exact H2_) | (have H2_ := (Option.bind_some _ _).symm.trans H; with_reducible exact H2_) | with_reducible exact H | (rw [hy534]; exact H) | exact H
   have Ny534 := za.mk hy534
   clear hy534
   have H' := za.mk H
   clear H
   go_enter Try.func43, Try.ntmps43
   go_wp2_with (first | ((with_reducible refine zaq (N := 13) rfl ?_); refine Kd.zfA (Kd.int .i64) _ 3 rfl (N := 13) rfl 23 _ _ rfl ji3 rfl rfl Try.underlying23 (.int .i64 0) 8 info3 rfl (by decide) (by omega) 0 (ok := fun _ => True) (okp := fun _ => True) rfl (fun _ hk => hk) trivial (of_decide_eq_true (by first | (with_reducible assumption) | assumption)) (Nat.le_trans (Nat.mul_le_mul_right _ (of_decide_eq_true (by first | (with_reducible assumption) | assumption) : ji3.toNat ≤ 35184372088832)) (by omega)) (Below.refl _ _) (Nat.le_refl _) ?_; intro v535 w6 ho7 hb hg_ hnew_; clear hg_ hnew_; (first | rw [← Ny534.out] at ho7 | (simp only [Int.reduceToNat] at ho7; rw [← Ny534.out] at ho7)); have n0_ := za.mk (Kd.zaP ho7 (zB (by repeat (first | (with_reducible first | exact HB.out | apply ze | apply zb | apply zf) | exact HB.out)))); have n1_ := za.mk (zu (by repeat (first | (with_reducible first | exact HB.out | apply ze | apply zb | apply zf) | exact HB.out)) hb); clear HB; have HO536 := n0_; have HB := n1_; clear n0_ n1_; clear hb ho7))
   repeat (go_quiet (first | ((with_reducible refine zaq (N := 13) rfl ?_); refine Kd.zfA (Kd.int .i64) _ 3 rfl (N := 13) rfl 23 _ _ rfl ji3 rfl rfl Try.underlying23 (.int .i64 0) 8 info3 rfl (by decide) (by omega) 0 (ok := fun _ => True) (okp := fun _ => True) rfl (fun _ hk => hk) trivial (of_decide_eq_true (by first | (with_reducible assumption) | assumption)) (Nat.le_trans (Nat.mul_le_mul_right _ (of_decide_eq_true (by first | (with_reducible assumption) | assumption) : ji3.toNat ≤ 35184372088832)) (by omega)) (Below.refl _ _) (Nat.le_refl _) ?_; intro v535 w6 ho7 hb hg_ hnew_; clear hg_ hnew_; (first | rw [← Ny534.out] at ho7 | (simp only [Int.reduceToNat] at ho7; rw [← Ny534.out] at ho7)); have n0_ := za.mk (Kd.zaP ho7 (zB (by repeat (first | (with_reducible first | exact HB.out | apply ze | apply zb | apply zf) | exact HB.out)))); have n1_ := za.mk (zu (by repeat (first | (with_reducible first | exact HB.out | apply ze | apply zb | apply zf) | exact HB.out)) hb); clear HB; have HO536 := n0_; have HB := n1_; clear n0_ n1_; clear hb ho7)); try go_wp2_with (first | ((with_reducible refine zaq (N := 13) rfl ?_); refine Kd.zfA (Kd.int .i64) _ 3 rfl (N := 13) rfl 23 _ _ rfl ji3 rfl rfl Try.underlying23 (.int .i64 0) 8 info3 rfl (by decide) (by omega) 0 (ok := fun _ => True) (okp := fun _ => True) rfl (fun _ hk => hk) trivial (of_decide_eq_true (by first | (with_reducible assumption) | assumption)) (Nat.le_trans (Nat.mul_le_mul_right _ (of_decide_eq_true (by first | (with_reducible assumption) | assumption) : ji3.toNat ≤ 35184372088832)) (by omega)) (Below.refl _ _) (Nat.le_refl _) ?_; intro v535 w6 ho7 hb hg_ hnew_; clear hg_ hnew_; (first | rw [← Ny534.out] at ho7 | (simp only [Int.reduceToNat] at ho7; rw [← Ny534.out] at ho7)); have n0_ := za.mk (Kd.zaP ho7 (zB (by repeat (first | (with_reducible first | exact HB.out | apply ze | apply zb | apply zf) | exact HB.out)))); have n1_ := za.mk (zu (by repeat (first | (with_reducible first | exact HB.out | apply ze | apply zb | apply zf) | exact HB.out)) hb); clear HB; have HO536 := n0_; have HB := n1_; clear n0_ n1_; clear hb ho7)))
   go_loopg [6] k (fun kq v6 w' => ∃ (x5_1 : List Int) (x6_1 : Int), v6 = .int .i64 x6_1 ∧ za (zN.l0 kq l0 l1 x5_1 x6_1 = some r) ∧ za (kq ≤ k) ∧ za (Kd.R (Kd.int .i64) 3 w' w.heap.size (fun _ => True) v535 x5_1) ∧ za (Below w.heap.size w w'))
   case atStart => exact ⟨(y534), (0), (by first | rfl | (simp; done) | (simp [*]; done)), H', ⟨Nat.le_refl _⟩, ⟨by (with_reducible repeat (first | apply Kd.zG | apply Kd.zC | apply Kd.zJ)); exact HO536.out⟩, ⟨by repeat (first | (with_reducible first | exact HB.out | apply ze | apply zb | apply zf) | exact HB.out)⟩⟩
   case round =>
    clear H'
    try clear c1
    try clear p2
    try clear c4
    try clear c4b0
    try clear c4b1
    try clear c5
    try clear c5b0
    try clear c5b1
    try clear p6
    obtain ⟨x5_1, x6_1, rfl, HA, HK1, HO_5, HB⟩ := hrel
    cases gk with
    | zero => exact absurd HA.out (by simp [zN.l0])
    | succ k1 =>
     have H := HA.out
     clear HA
     simp only [zN.l0] at H
     by_cases c8 : x6_1 < (l0.length : Int)
     ·rw [if_pos c8] at H
      have c8b0 : decide (x6_1 < (l0.length : Int)) = true := decide_eq_true c8
      clear c8
      have H' := za.mk H
      clear H
      go_wp2
      repeat (go_quiet (fail); try go_wp2)
      go_loopg [7, 8] k1 (fun kq v7 v8 w' => ∃ (x5_2 : List Int) (x7_2 : Int) (x8_2 : Int), v7 = .int .i64 x7_2 ∧ v8 = .int .i64 x8_2 ∧ za (zN.l1 kq l0 l1 x5_2 x6_1 x7_2 x8_2 = some r) ∧ za (kq ≤ k1) ∧ za (Kd.R (Kd.int .i64) 3 w' w.heap.size (fun _ => True) v535 x5_2) ∧ za (Below w.heap.size w w'))
      case atStart => exact ⟨(x5_1), (0), (0), (by first | rfl | (simp; done) | (simp [*]; done)), (by first | rfl | (simp; done) | (simp [*]; done)), H', ⟨Nat.le_refl _⟩, ⟨by (with_reducible repeat (first | apply Kd.zG | apply Kd.zC | apply Kd.zJ)); exact HO_5.out⟩, ⟨by repeat (first | (with_reducible first | exact HB.out | apply ze | apply zb | apply zf) | exact HB.out)⟩⟩
      case round =>
       clear H'
       try clear c1
       try clear p2
       try clear c4
       try clear c4b0
       try clear c4b1
       try clear c5
       try clear c5b0
       try clear c5b1
       try clear p6
       try clear c8
       try clear c8b0
       try clear p2
       try clear p6
       obtain ⟨x5_2, x7_2, x8_2, rfl, rfl, HA, HK2, HO_5, HB⟩ := hrel
       cases gk with
       | zero => exact absurd HA.out (by simp [zN.l1])
       | succ k2 =>
        have H := HA.out
        clear HA
        simp only [zN.l1] at H
        by_cases c9 : x8_2 < (l1.length : Int)
        ·rw [if_pos c9] at H
         have c9b0 : decide (x8_2 < (l1.length : Int)) = true := decide_eq_true c9
         clear c9
         obtain ⟨ji10, hji10⟩ : ∃ j_ : Int, (wrap64 (x8_2 + 1)) = j_ := ⟨_, rfl⟩
         replace H : (if 0 ≤ (ji10) then (if (ji10) < (x5_2.length : Int) then (if 0 ≤ x6_1 then (if x6_1 < (l0.length : Int) then (if 0 ≤ x8_2 then (if (zaJ ByteArray.empty l0 x6_1).toList = (zaJ ByteArray.empty l1 x8_2).toList then (zN.l1 k2 l0 l1 (x5_2.set ((ji10) : Int).toNat (wrap64 (x7_2 + 1))) x6_1 (rd x5_2 (ji10)) ji10) else (if x8_2 < (x5_2.length : Int) then (zN.l1 k2 l0 l1 (x5_2.set ((ji10) : Int).toNat (mx (rd x5_2 (ji10)) (rd x5_2 x8_2))) x6_1 (rd x5_2 (ji10)) ji10) else (none))) else (none)) else (none)) else (none)) else (none)) else (none)) = some r := by first | (rw [hji10] at H; exact H) | (simp only [hji10] at H ⊢; exact H)
         have hji10w : (IntKind.i64.wrap (x8_2 + 1)) = ji10 := (zY _).trans hji10
         by_cases c11 : 0 ≤ (ji10)
         ·rw [if_pos c11] at H
          have c11b0 : decide (0 ≤ (ji10)) = true := decide_eq_true c11
          clear c11
          by_cases c12 : (ji10) < (x5_2.length : Int)
          ·rw [if_pos c12] at H
           have c12b0 : decide ((ji10) < (x5_2.length : Int)) = true := decide_eq_true c12
           clear c12
           by_cases c13 : 0 ≤ x6_1
           ·rw [if_pos c13] at H
            have c13b0 : decide (0 ≤ x6_1) = true := decide_eq_true c13
            clear c13
            by_cases c14 : x6_1 < (l0.length : Int)
            ·rw [if_pos c14] at H
             have c14b0 : decide (x6_1 < (l0.length : Int)) = true := decide_eq_true c14
             clear c14
             by_cases c15 : 0 ≤ x8_2
             ·rw [if_pos c15] at H
              have c15b0 : decide (0 ≤ x8_2) = true := decide_eq_true c15
              clear c15
              by_cases c16 : (zaJ ByteArray.empty l0 x6_1).toList = (zaJ ByteArray.empty l1 x8_2).toList
              ·rw [if_pos c16] at H
               have c16b0 : ((zaJ ByteArray.empty l0 x6_1).toList == (zaJ ByteArray.empty l1 x8_2).toList) = true := beq_iff_eq.mpr c16
               have c16b1 : ((zaJ ByteArray.empty l0 x6_1).toList != (zaJ ByteArray.empty l1 x8_2).toList) = false := bne_eq_false_iff_eq.mpr c16
               clear c16
               obtain ⟨y541, hy541⟩ : ∃ y_ : List Int, y_ = (x5_2.set ((ji10) : Int).toNat (wrap64 (x7_2 + 1))) := ⟨_, rfl⟩
               replace H : (zN.l1 k2 l0 l1 y541 x6_1 (rd x5_2 (ji10)) ji10) = some r := by first | (rw [hy541]; with_reducible exact H) | (have H2_ := (Option.bind_some _ _).symm.trans H; rw [hy541]; with_reducible exact H2_) | (have H2_ := (Option.bind_some _ _).symm.trans H; with_reducible exact H2_) | with_reducible exact H | (rw [hy541]; exact H) | exact H
               have Ny541 := za.mk hy541
               clear hy541
               have H' := za.mk H
               clear H
               obtain ⟨Ao18, co18, eo18⟩ := Kd.zaI HO_5.out
               subst eo18
               have p538 : 0 ≤ ((ji10) : Int) := of_decide_eq_true (by first | (with_reducible assumption) | assumption)
               have q538 : (ji10) < (x5_2.length : Int) := of_decide_eq_true (by first | (with_reducible assumption) | assumption)
               obtain ⟨ad538, e538, hx538_0⟩ := Kd.zb8 (Kd.zam HO_5.out).2.2 (ji10) p538 q538
               cases e538
               replace p538 := eq_true p538
               replace q538 := eq_true q538
               have p539 : 0 ≤ (x6_1 : Int) := of_decide_eq_true (by first | (with_reducible assumption) | assumption)
               have q539 : x6_1 < (l0.length : Int) := of_decide_eq_true (by first | (with_reducible assumption) | assumption)
               obtain ⟨ad539, e539, hx539_0⟩ := Kd.zbf HR0.out x6_1 p539 q539
               cases e539
               replace hx539_0 := (HB.out.cell (World.block_lt_of_cell? w _ hx539_0)).trans hx539_0
               replace p539 := eq_true p539
               replace q539 := eq_true q539
               have p540 : 0 ≤ (x8_2 : Int) := of_decide_eq_true (by first | (with_reducible assumption) | assumption)
               have q540 : x8_2 < (l1.length : Int) := of_decide_eq_true (by first | (with_reducible assumption) | assumption)
               obtain ⟨ad540, e540, hx540_0⟩ := Kd.zbf HR1.out x8_2 p540 q540
               cases e540
               replace hx540_0 := (HB.out.cell (World.block_lt_of_cell? w _ hx540_0)).trans hx540_0
               replace p540 := eq_true p540
               replace q540 := eq_true q540
               have p17 : 0 ≤ ((ji10) : Int) := of_decide_eq_true (by first | (with_reducible assumption) | assumption)
               have q17 : ((ji10) : Int) < ((x5_2.length : Int) : Int) := of_decide_eq_true (by first | (with_reducible assumption) | assumption)
               obtain ⟨go17, co17, eo17, gb17, gl17, cl17, HG17⟩ := Kd.zgX HO_5.out (by omega)
               (first | cases eo17 | (injection eo17 with ea_ en_ ec_; (first | subst ea_ | (injection ea_ with ea_; subst ea_)); subst ec_; clear en_))
               have GB17 := za.mk gb17
               have GG17 := za.mk HG17
               clear gb17 gl17 HG17
               (first | simp only [add_plain] at hx538_0 | skip)
               obtain ⟨hx17_0, hf17_0⟩ := Kd.zfX 0 HO_5.out ((ji10) : Int) p17 q17
               replace p17 := eq_true p17
               replace q17 := eq_true q17
               have HP19 := Kd.zca HO_5.out ((ji10) : Int) (wrap64 (x7_2 + 1))
               go_wp2_with (first | ((with_reducible refine zcq (t := 3) (p := 45) rfl ?_); (try (rw [zcr wr]; generalize hq_ : World.drewN wr _ = wr; have n0_ := za.mk (Kd.ze0 hq_ HO_5.out); have n1_ := za.mk (zcJ hq_ HB.out); clear hq_ HO_5 HB; have HO_5 := n0_; have HB := n1_; clear n0_ n1_; (try (have HP19 := Kd.zca HO_5.out ((ji10) : Int) (wrap64 (x7_2 + 1)))))); refine zcc (t := 3) (p := 45) (v := ?vo_w20) (w1 := (wr.setCell ⟨go17, ((ji10) : Int).toNat, none⟩ (.int .i64 (wrap64 (x7_2 + 1))))) ?hg ?ho ?hn ?hr ?_; (case ho => rfl); (case hg => rfl); (case hn => rfl); (case hr => first | (go_simp; done) | (go_simp; rfl)); intro w20 hw; have hg : wr.grownBy w20 (some go17) := (by rw [hw]; exact HP19.2); have hp_ : Kd.R (Kd.int .i64) 3 w20 w.heap.size (fun _ => True) (.slice (some ⟨go17, 0, none⟩) x5_2.length co18) y541 := (by rw [hw, Ny541.out]; exact HP19.1); clear HP19; have n0_ := za.mk (hp_); have n1_ := za.mk ((by rw [hw]; exact zh (HB.out) GB17.out : Below w.heap.size w w20)); clear HO_5; clear HB; have HO_5 := n0_; have HB := n1_; clear n0_ n1_; clear hg hw hp_))
               repeat (go_quiet (first | ((with_reducible refine zcq (t := 3) (p := 45) rfl ?_); (try (rw [zcr wr]; generalize hq_ : World.drewN wr _ = wr; have n0_ := za.mk (Kd.ze0 hq_ HO_5.out); have n1_ := za.mk (zcJ hq_ HB.out); clear hq_ HO_5 HB; have HO_5 := n0_; have HB := n1_; clear n0_ n1_; (try (have HP19 := Kd.zca HO_5.out ((ji10) : Int) (wrap64 (x7_2 + 1)))))); refine zcc (t := 3) (p := 45) (v := ?vo_w20) (w1 := (wr.setCell ⟨go17, ((ji10) : Int).toNat, none⟩ (.int .i64 (wrap64 (x7_2 + 1))))) ?hg ?ho ?hn ?hr ?_; (case ho => rfl); (case hg => rfl); (case hn => rfl); (case hr => first | (go_simp; done) | (go_simp; rfl)); intro w20 hw; have hg : wr.grownBy w20 (some go17) := (by rw [hw]; exact HP19.2); have hp_ : Kd.R (Kd.int .i64) 3 w20 w.heap.size (fun _ => True) (.slice (some ⟨go17, 0, none⟩) x5_2.length co18) y541 := (by rw [hw, Ny541.out]; exact HP19.1); clear HP19; have n0_ := za.mk (hp_); have n1_ := za.mk ((by rw [hw]; exact zh (HB.out) GB17.out : Below w.heap.size w w20)); clear HO_5; clear HB; have HO_5 := n0_; have HB := n1_; clear n0_ n1_; clear hg hw hp_)); try go_wp2_with (first | ((with_reducible refine zcq (t := 3) (p := 45) rfl ?_); (try (rw [zcr wr]; generalize hq_ : World.drewN wr _ = wr; have n0_ := za.mk (Kd.ze0 hq_ HO_5.out); have n1_ := za.mk (zcJ hq_ HB.out); clear hq_ HO_5 HB; have HO_5 := n0_; have HB := n1_; clear n0_ n1_; (try (have HP19 := Kd.zca HO_5.out ((ji10) : Int) (wrap64 (x7_2 + 1)))))); refine zcc (t := 3) (p := 45) (v := ?vo_w20) (w1 := (wr.setCell ⟨go17, ((ji10) : Int).toNat, none⟩ (.int .i64 (wrap64 (x7_2 + 1))))) ?hg ?ho ?hn ?hr ?_; (case ho => rfl); (case hg => rfl); (case hn => rfl); (case hr => first | (go_simp; done) | (go_simp; rfl)); intro w20 hw; have hg : wr.grownBy w20 (some go17) := (by rw [hw]; exact HP19.2); have hp_ : Kd.R (Kd.int .i64) 3 w20 w.heap.size (fun _ => True) (.slice (some ⟨go17, 0, none⟩) x5_2.length co18) y541 := (by rw [hw, Ny541.out]; exact HP19.1); clear HP19; have n0_ := za.mk (hp_); have n1_ := za.mk ((by rw [hw]; exact zh (HB.out) GB17.out : Below w.heap.size w w20)); clear HO_5; clear HB; have HO_5 := n0_; have HB := n1_; clear n0_ n1_; clear hg hw hp_)))
               go_roundg k2
               case measure => have := HK1.out; have := HK2.out; omega
               case rel => exact ⟨(y541), (rd x5_2 (ji10)), (ji10), (by first | rfl | (simp; done) | (simp only [← hji10] <;> (first | rfl | simp)) | (simp [*]; done)), (by first | rfl | (simp; done) | (simp only [← hji10] <;> (first | rfl | simp)) | (simp [*]; done)), H', ⟨by have := HK1.out; have := HK2.out; omega⟩, ⟨by first | exact HO_5.out | (rw [Ny541.out]; exact (Kd.zca (Kd.zC HO_5.out _) ((ji10) : Int) (wrap64 (x7_2 + 1))).1) | (rw [Ny541.out]; exact (Kd.zca HO_5.out ((ji10) : Int) (wrap64 (x7_2 + 1))).1)⟩, ⟨by first | exact HB.out | exact zh (zb HB.out _) GB17.out | exact zh HB.out GB17.out⟩⟩
              ·rw [if_neg c16] at H
               have c16b0 : ((zaJ ByteArray.empty l0 x6_1).toList == (zaJ ByteArray.empty l1 x8_2).toList) = false := beq_eq_false_iff_ne.mpr c16
               have c16b1 : ((zaJ ByteArray.empty l0 x6_1).toList != (zaJ ByteArray.empty l1 x8_2).toList) = true := bne_iff_ne.mpr c16
               by_cases c21 : x8_2 < (x5_2.length : Int)
               ·rw [if_pos c21] at H
                have c21b0 : decide (x8_2 < (x5_2.length : Int)) = true := decide_eq_true c21
                clear c21
                obtain ⟨ji22, hji22⟩ : ∃ j_ : Int, (mx (rd x5_2 (ji10)) (rd x5_2 x8_2)) = j_ := ⟨_, rfl⟩
                replace H : (zN.l1 k2 l0 l1 (x5_2.set ((ji10) : Int).toNat (ji22)) x6_1 (rd x5_2 (ji10)) ji10) = some r := by first | (rw [hji22] at H; exact H) | (simp only [hji22] at H ⊢; exact H)
                have hji22_ : (if (rd x5_2 (ji10)) < (rd x5_2 x8_2) then (rd x5_2 x8_2) else (rd x5_2 (ji10))) = ji22 := hji22
                obtain ⟨y543, hy543⟩ : ∃ y_ : List Int, y_ = (x5_2.set ((ji10) : Int).toNat (ji22)) := ⟨_, rfl⟩
                replace H : (zN.l1 k2 l0 l1 y543 x6_1 (rd x5_2 (ji10)) ji10) = some r := by first | (rw [hy543]; with_reducible exact H) | (have H2_ := (Option.bind_some _ _).symm.trans H; rw [hy543]; with_reducible exact H2_) | (have H2_ := (Option.bind_some _ _).symm.trans H; with_reducible exact H2_) | with_reducible exact H | (rw [hy543]; exact H) | exact H
                have Ny543 := za.mk hy543
                clear hy543
                have H' := za.mk H
                clear H
                obtain ⟨Ao24, co24, eo24⟩ := Kd.zaI HO_5.out
                subst eo24
                have p538 : 0 ≤ ((ji10) : Int) := of_decide_eq_true (by first | (with_reducible assumption) | assumption)
                have q538 : (ji10) < (x5_2.length : Int) := of_decide_eq_true (by first | (with_reducible assumption) | assumption)
                obtain ⟨ad538, e538, hx538_0⟩ := Kd.zb8 (Kd.zam HO_5.out).2.2 (ji10) p538 q538
                cases e538
                replace p538 := eq_true p538
                replace q538 := eq_true q538
                have p539 : 0 ≤ (x6_1 : Int) := of_decide_eq_true (by first | (with_reducible assumption) | assumption)
                have q539 : x6_1 < (l0.length : Int) := of_decide_eq_true (by first | (with_reducible assumption) | assumption)
                obtain ⟨ad539, e539, hx539_0⟩ := Kd.zbf HR0.out x6_1 p539 q539
                cases e539
                replace hx539_0 := (HB.out.cell (World.block_lt_of_cell? w _ hx539_0)).trans hx539_0
                replace p539 := eq_true p539
                replace q539 := eq_true q539
                have p540 : 0 ≤ (x8_2 : Int) := of_decide_eq_true (by first | (with_reducible assumption) | assumption)
                have q540 : x8_2 < (l1.length : Int) := of_decide_eq_true (by first | (with_reducible assumption) | assumption)
                obtain ⟨ad540, e540, hx540_0⟩ := Kd.zbf HR1.out x8_2 p540 q540
                cases e540
                replace hx540_0 := (HB.out.cell (World.block_lt_of_cell? w _ hx540_0)).trans hx540_0
                replace p540 := eq_true p540
                replace q540 := eq_true q540
                have p542 : 0 ≤ (x8_2 : Int) := of_decide_eq_true (by first | (with_reducible assumption) | assumption)
                have q542 : x8_2 < (x5_2.length : Int) := of_decide_eq_true (by first | (with_reducible assumption) | assumption)
                obtain ⟨ad542, e542, hx542_0⟩ := Kd.zb8 (Kd.zam HO_5.out).2.2 x8_2 p542 q542
                obtain rfl : ad538 = ad542 := (by injection e542)
                replace p542 := eq_true p542
                replace q542 := eq_true q542
                have p23 : 0 ≤ ((ji10) : Int) := of_decide_eq_true (by first | (with_reducible assumption) | assumption)
                have q23 : ((ji10) : Int) < ((x5_2.length : Int) : Int) := of_decide_eq_true (by first | (with_reducible assumption) | assumption)
                obtain ⟨go23, co23, eo23, gb23, gl23, cl23, HG23⟩ := Kd.zgX HO_5.out (by omega)
                (first | cases eo23 | (injection eo23 with ea_ en_ ec_; (first | subst ea_ | (injection ea_ with ea_; subst ea_)); subst ec_; clear en_))
                have GB23 := za.mk gb23
                have GG23 := za.mk HG23
                clear gb23 gl23 HG23
                (first | simp only [add_plain] at hx538_0 | skip)
                (first | simp only [add_plain] at hx542_0 | skip)
                obtain ⟨hx23_0, hf23_0⟩ := Kd.zfX 0 HO_5.out ((ji10) : Int) p23 q23
                replace p23 := eq_true p23
                replace q23 := eq_true q23
                have HP25 := Kd.zca HO_5.out ((ji10) : Int) ji22
                go_wp2_with (first | ((with_reducible refine zcq (t := 3) (p := 55) rfl ?_); (try (rw [zcr wr]; generalize hq_ : World.drewN wr _ = wr; have n0_ := za.mk (Kd.ze0 hq_ HO_5.out); have n1_ := za.mk (zcJ hq_ HB.out); clear hq_ HO_5 HB; have HO_5 := n0_; have HB := n1_; clear n0_ n1_; (try (have HP25 := Kd.zca HO_5.out ((ji10) : Int) ji22)))); refine zcc (t := 3) (p := 55) (v := ?vo_w26) (w1 := (wr.setCell ⟨go23, ((ji10) : Int).toNat, none⟩ (.int .i64 ji22))) ?hg ?ho ?hn ?hr ?_; (case ho => rfl); (case hg => rfl); (case hn => rfl); (case hr => first | (go_simp; done) | (go_simp; rfl)); intro w26 hw; have hg : wr.grownBy w26 (some go23) := (by rw [hw]; exact HP25.2); have hp_ : Kd.R (Kd.int .i64) 3 w26 w.heap.size (fun _ => True) (.slice (some ⟨go23, 0, none⟩) x5_2.length co24) y543 := (by rw [hw, Ny543.out]; exact HP25.1); clear HP25; have n0_ := za.mk (hp_); have n1_ := za.mk ((by rw [hw]; exact zh (HB.out) GB23.out : Below w.heap.size w w26)); clear HO_5; clear HB; have HO_5 := n0_; have HB := n1_; clear n0_ n1_; clear hg hw hp_))
                repeat (go_quiet (first | ((with_reducible refine zcq (t := 3) (p := 55) rfl ?_); (try (rw [zcr wr]; generalize hq_ : World.drewN wr _ = wr; have n0_ := za.mk (Kd.ze0 hq_ HO_5.out); have n1_ := za.mk (zcJ hq_ HB.out); clear hq_ HO_5 HB; have HO_5 := n0_; have HB := n1_; clear n0_ n1_; (try (have HP25 := Kd.zca HO_5.out ((ji10) : Int) ji22)))); refine zcc (t := 3) (p := 55) (v := ?vo_w26) (w1 := (wr.setCell ⟨go23, ((ji10) : Int).toNat, none⟩ (.int .i64 ji22))) ?hg ?ho ?hn ?hr ?_; (case ho => rfl); (case hg => rfl); (case hn => rfl); (case hr => first | (go_simp; done) | (go_simp; rfl)); intro w26 hw; have hg : wr.grownBy w26 (some go23) := (by rw [hw]; exact HP25.2); have hp_ : Kd.R (Kd.int .i64) 3 w26 w.heap.size (fun _ => True) (.slice (some ⟨go23, 0, none⟩) x5_2.length co24) y543 := (by rw [hw, Ny543.out]; exact HP25.1); clear HP25; have n0_ := za.mk (hp_); have n1_ := za.mk ((by rw [hw]; exact zh (HB.out) GB23.out : Below w.heap.size w w26)); clear HO_5; clear HB; have HO_5 := n0_; have HB := n1_; clear n0_ n1_; clear hg hw hp_)); try go_wp2_with (first | ((with_reducible refine zcq (t := 3) (p := 55) rfl ?_); (try (rw [zcr wr]; generalize hq_ : World.drewN wr _ = wr; have n0_ := za.mk (Kd.ze0 hq_ HO_5.out); have n1_ := za.mk (zcJ hq_ HB.out); clear hq_ HO_5 HB; have HO_5 := n0_; have HB := n1_; clear n0_ n1_; (try (have HP25 := Kd.zca HO_5.out ((ji10) : Int) ji22)))); refine zcc (t := 3) (p := 55) (v := ?vo_w26) (w1 := (wr.setCell ⟨go23, ((ji10) : Int).toNat, none⟩ (.int .i64 ji22))) ?hg ?ho ?hn ?hr ?_; (case ho => rfl); (case hg => rfl); (case hn => rfl); (case hr => first | (go_simp; done) | (go_simp; rfl)); intro w26 hw; have hg : wr.grownBy w26 (some go23) := (by rw [hw]; exact HP25.2); have hp_ : Kd.R (Kd.int .i64) 3 w26 w.heap.size (fun _ => True) (.slice (some ⟨go23, 0, none⟩) x5_2.length co24) y543 := (by rw [hw, Ny543.out]; exact HP25.1); clear HP25; have n0_ := za.mk (hp_); have n1_ := za.mk ((by rw [hw]; exact zh (HB.out) GB23.out : Below w.heap.size w w26)); clear HO_5; clear HB; have HO_5 := n0_; have HB := n1_; clear n0_ n1_; clear hg hw hp_)))
                go_roundg k2
                case measure => have := HK1.out; have := HK2.out; omega
                case rel => exact ⟨(y543), (rd x5_2 (ji10)), (ji10), (by first | rfl | (simp; done) | (simp only [← hji10] <;> (first | rfl | simp)) | (simp [*]; done)), (by first | rfl | (simp; done) | (simp only [← hji10] <;> (first | rfl | simp)) | (simp [*]; done)), H', ⟨by have := HK1.out; have := HK2.out; omega⟩, ⟨by first | exact HO_5.out | (rw [Ny543.out]; exact (Kd.zca (Kd.zC HO_5.out _) ((ji10) : Int) ji22).1) | (rw [Ny543.out]; exact (Kd.zca HO_5.out ((ji10) : Int) ji22).1)⟩, ⟨by first | exact HB.out | exact zh (zb HB.out _) GB23.out | exact zh HB.out GB23.out⟩⟩
               ·rw [if_neg c21] at H
                exact absurd H (by simp)
             ·rw [if_neg c15] at H
              exact absurd H (by simp)
            ·rw [if_neg c14] at H
             exact absurd H (by simp)
           ·rw [if_neg c13] at H
            exact absurd H (by simp)
          ·rw [if_neg c12] at H
           exact absurd H (by simp)
         ·rw [if_neg c11] at H
          exact absurd H (by simp)
        ·rw [if_neg c9] at H
         have c9b0 : decide (x8_2 < (l1.length : Int)) = false := decide_eq_false c9
         clear c9
         have H' := za.mk H
         clear H
         go_wp2
         repeat (go_quiet (fail); try go_wp2)
         go_roundg k2
         case measure => have := HK1.out; have := HK2.out; omega
         case rel => exact ⟨(x5_2), (wrap64 (x6_1 + 1)), (by first | rfl | (simp; done) | (simp [*]; done)), H', ⟨by have := HK1.out; have := HK2.out; omega⟩, ⟨by (with_reducible repeat (first | apply Kd.zG | apply Kd.zC | apply Kd.zJ)); exact HO_5.out⟩, ⟨by repeat (first | (with_reducible first | exact HB.out | apply ze | apply zb | apply zf) | exact HB.out)⟩⟩
     ·rw [if_neg c8] at H
      have c8b0 : decide (x6_1 < (l0.length : Int)) = false := decide_eq_false c8
      clear c8
      by_cases c27 : 0 ≤ (l1.length : Int)
      ·rw [if_pos c27] at H
       have c27b0 : decide (0 ≤ (l1.length : Int)) = true := decide_eq_true c27
       have c27b1 : decide (0 ≤ l1.length) = true := decide_eq_true (by omega)
       clear c27
       by_cases c28 : (l1.length : Int) < (x5_1.length : Int)
       ·rw [if_pos c28] at H
        have c28b0 : decide ((l1.length : Int) < (x5_1.length : Int)) = true := decide_eq_true c28
        have c28b1 : decide (l1.length < x5_1.length) = true := decide_eq_true (Int.ofNat_lt.mp c28)
        clear c28
        obtain rfl := Option.some.inj H
        obtain ⟨Ao29, co29, eo29⟩ := Kd.zaI HO_5.out
        subst eo29
        have p537 : 0 ≤ ((l1.length : Int) : Int) := of_decide_eq_true (by first | (with_reducible assumption) | assumption)
        have q537 : (l1.length : Int) < (x5_1.length : Int) := of_decide_eq_true (by first | (with_reducible assumption) | assumption)
        obtain ⟨ad537, e537, hx537_0⟩ := Kd.zb8 (Kd.zam HO_5.out).2.2 (l1.length : Int) p537 q537
        cases e537
        (try simp only [Go.IntWalk.toNatUp] at hx537_0)
        replace p537 := eq_true p537
        replace q537 := eq_true q537
        go_wp2
        repeat (go_quiet (fail); try go_wp2)
        go_ret
        exact ⟨by first | rfl | (simp [zx, zw] <;> rfl) | (simp only [← hji3]; first | rfl | (simp [zx, zw] <;> rfl)) | (simp [*, zx, zw] <;> rfl), by repeat (first | (with_reducible first | exact HB.out | apply ze | apply zb | apply zf) | exact HB.out)⟩
       ·rw [if_neg c28] at H
        exact absurd H (by simp)
      ·rw [if_neg c27] at H
       exact absurd H (by simp)
  ·rw [if_neg c5] at H
   exact absurd H (by simp)
 ·rw [if_neg c4] at H
  exact absurd H (by simp)
def zaY.f (k : Nat) (l0 : List ByteArray) (l1 : List ByteArray) : Option (Bool) := (zN.f k l0 l1).bind fun t637 => (some (t637 == (l0.length : Int)))
set_option maxHeartbeats 8000000 in
set_option maxRecDepth 100000 in
theorem zaY.calls (k : Nat) (A0 : Option Addr) (c0 : Nat) (l0 : List ByteArray) (A1 : Option Addr) (c1 : Nat) (l1 : List ByteArray) (r : Bool) (w : World) (hr0 : Kd.C Kd.string w A0 l0.length l0) (hc0 : l0.length ≤ c0) (hr1 : Kd.C Kd.string w A1 l1.length l1) (hc1 : l1.length ≤ c1) (h : zaY.f k l0 l1 = some r) :
  Calls Try.prog 51 #[.slice A0 l0.length c0, .slice A1 l1.length c1] w fun e w' => e = .returned (.bool r) ∧ Below w.heap.size w w' := by
 have HR0 := za.mk hr0
 have HC0 := za.mk hc0
 clear hr0 hc0
 have HR1 := za.mk hr1
 have HC1 := za.mk hc1
 clear hr1 hc1
 have HB := za.mk (Below.refl w.heap.size w)
 have H : ((zN.f k l0 l1).bind fun t637 => (some (t637 == (l0.length : Int)))) = some r := h
 clear h
 replace H := Option.bind_eq_some_iff.mp H
 obtain ⟨t637, A30, H⟩ := H
 replace H : (some (t637 == (l0.length : Int))) = some r := H
 have A3 := za.mk A30
 clear A30
 obtain rfl := Option.some.inj H
 go_enter Try.func51, Try.ntmps51
 go_wp2_with (first | ((with_reducible refine zD (f := 43) rfl ?_); refine zW (some 7) rfl rfl Try.func43 (by kernel_rfl) rfl #[.slice A0 l0.length c0, .slice A1 l1.length c1] rfl (by (try simp only [List.map_toArray, List.map_cons, List.map_nil]); first | done | rfl | (simp only [List.length_drop, List.length_take]; rfl)) ?_; (with_reducible refine (zN.calls k _ _ l0 _ _ l1 t637 _ ?side1 ?side2 ?side3 ?side4 A3.out).mono ?_); (case side1 => repeat (first | exact HR0.out | (with_reducible refine Kd.zab ?_ _) | (with_reducible refine Kd.zaa ?_ _) | (with_reducible refine Kd.zaj ?_))); (case side2 => exact HC0.out); (case side3 => repeat (first | exact HR1.out | (with_reducible refine Kd.zab ?_ _) | (with_reducible refine Kd.zaa ?_ _) | (with_reducible refine Kd.zaj ?_))); (case side4 => exact HC1.out); rintro e w4 ⟨rfl, hb⟩; refine ⟨_, rfl, ?_⟩; have n0_ := za.mk (zu (by repeat (first | (with_reducible first | exact HB.out | apply ze | apply zb | apply zf) | exact HB.out)) hb); clear HB; have HB := n0_; clear n0_; (try clear hb); (try clear hb2); (try clear hk); (try clear hi)))
 go_ret
 exact ⟨by first | rfl | (simp [zx, zw] <;> rfl) | (simp [*, zx, zw] <;> rfl), by repeat (first | (with_reducible first | exact HB.out | apply ze | apply zb | apply zf) | exact HB.out)⟩
theorem zdm (op : BinOp) (x y : Int) : 0 ≤ bits op .u64 x y := by
 have h : ∀ n : Int, 0 ≤ IntKind.u64.wrap n := fun n => by
  simp only [IntKind.wrap, IntKind.bits, IntKind.signed, Bool.false_and]
  simp only [Bool.false_eq_true, if_false]
  omega
 unfold bits
 split <;> first | exact h _ | exact Int.le_refl _ | omega
theorem zif (l : List Int) (s1 s2 : Int) (h1 : 0 ≤ s1) (hl : l.length ≤ 17592186044416) : ∃ r t1 t2, zaX.f l s1 s2 = some (r, t1, t2) ∧ 0 ≤ r ∧ 0 ≤ t1 := by
 unfold zaX.f
 rw [if_pos ⟨h1, hl⟩]
 split
 ·exact ⟨_, _, _, rfl, zdm _ _ _, by omega⟩
 ·exact ⟨_, _, _, rfl, zdm _ _ _, h1⟩
theorem zfh (l : List Int) (s1 s2 : Int) (h1 : 0 ≤ s1) (hl : l.length ≤ 17592186044416) (n : Int) (h0 : 0 ≤ n) (hn : n ≤ 1000) : ∃ r t1 t2, zai.f l s1 s2 n = some (r, t1, t2) ∧ 0 ≤ r ∧ r ≤ n ∧ 0 ≤ t1 := by
 unfold zai.f
 by_cases hc : n < 1
 ·rw [if_pos hc]; exact ⟨0, s1, s2, rfl, Int.le_refl _, h0, h1⟩
 ·rw [if_neg hc]
  obtain ⟨r, t1, t2, hr, hr0, ht⟩ := zif l s1 s2 h1 hl
  have hw : IntKind.u64.wrap (wrap64 (n + 1)) = n + 1 := by
   have : wrap64 (n + 1) = n + 1 := by unfold wrap64; omega
   rw [this]
   simp only [IntKind.wrap, IntKind.bits, IntKind.signed, Bool.false_and]
   simp only [Bool.false_eq_true, if_false]
   omega
  rw [hr, Option.bind_some, hw, if_neg (by omega)]
  have hq : 0 ≤ r / 65536 := by omega
  have hm : Int.tmod (r / 65536) (n + 1) = (r / 65536) % (n + 1) := Int.tmod_eq_emod_of_nonneg hq
  have h2 := Int.emod_nonneg (r / 65536) (show n + 1 ≠ 0 by omega)
  have h3 := Int.emod_lt_of_pos (r / 65536) (show 0 < n + 1 by omega)
  refine ⟨_, t1, t2, rfl, ?_, ?_, ht⟩
  ·rw [hm]; unfold wrap64; omega
  ·rw [hm]; unfold wrap64; omega
theorem zhN (l : List Int) (s1 s2 : Int) (h1 : 0 ≤ s1) (hl : l.length ≤ 17592186044416) (ws : List ByteArray) (hw : 0 < ws.length) (hw1 : ws.length ≤ 1000) : ∃ x t1 t2, zaU.f l s1 s2 ws = some (x, t1, t2) ∧ x ∈ ws ∧ 0 ≤ t1 := by
 unfold zaU.f
 have e : wrap64 ((ws.length : Int) - 1) = (ws.length : Int) - 1 := by unfold wrap64; omega
 obtain ⟨r, t1, t2, hr, h2, h3, h4⟩ := zfh l s1 s2 h1 hl ((ws.length : Int) - 1) (by omega) (by omega)
 rw [e, hr, Option.bind_some, if_pos h2, if_pos (by dsimp only; omega)]
 refine ⟨_, t1, t2, rfl, ?_, h4⟩
 have hlt : r.toNat < ws.length := by omega
 dsimp only
 simp only [zaJ, List.getD_eq_getElem?_getD, List.getElem?_eq_getElem hlt, Option.getD_some]
 exact List.getElem_mem _
def zck : List ByteArray := [(⟨#[97]⟩ : ByteArray), (⟨#[98]⟩ : ByteArray), (⟨#[99]⟩ : ByteArray), (⟨#[97, 110, 32, 49]⟩ : ByteArray), (⟨#[98, 101, 110]⟩ : ByteArray), (⟨#[99, 121, 100, 32, 49, 50]⟩ : ByteArray)]
theorem zeQ (l : List Int) (s1 s2 : Int) (h1 : 0 ≤ s1) (hl : l.length ≤ 17592186044416) : ∃ x t1 t2, zaw.f l s1 s2 = some (x, t1, t2) ∧ x ∈ zck ∧ 0 ≤ t1 := by
 obtain ⟨x, t1, t2, h, hx, ht⟩ := zhN l s1 s2 h1 hl zck (by decide) (by decide)
 unfold zaw.f
 refine ⟨x, t1, t2, ?_, hx, ht⟩
 exact (congrArg (fun o : Option (ByteArray × Int × Int) => o.bind fun bt198 => some (bt198.1, bt198.2.1, bt198.2.2)) h)
theorem zeg (l : List Int) (hl : l.length ≤ 17592186044416) : ∀ (m k : Nat) (p : List ByteArray) (s1 s2 : Int), m < k → 0 ≤ s1 → p.length + m ≤ 1000 → (∀ x ∈ p, x ∈ zck) →
  ∃ q t1 t2, zS.l0 k p (m : Int) l s1 s2 = some (q, t1, t2) ∧ q.length = p.length + m ∧ (∀ x ∈ q, x ∈ zck) ∧ 0 ≤ t1
 | 0, k, p, s1, s2, hk, h1, hp, hw => by
  obtain ⟨k', rfl⟩ : ∃ k', k = k' + 1 := ⟨k - 1, by omega⟩
  rw [zS.l0, if_neg (by omega)]
  exact ⟨p, s1, s2, rfl, rfl, hw, h1⟩
 | m + 1, k, p, s1, s2, hk, h1, hp, hw => by
  obtain ⟨k', rfl⟩ : ∃ k', k = k' + 1 := ⟨k - 1, by omega⟩
  obtain ⟨x, t1, t2, hx, hxw, ht⟩ := zeQ l s1 s2 h1 hl
  have e : wrap64 (((m + 1 : Nat) : Int) - 1) = (m : Int) := by unfold wrap64; omega
  rw [zS.l0, if_pos (by omega), hx, Option.bind_some, if_pos (by omega), e]
  obtain ⟨q, u1, u2, h2, h3, h4, h5⟩ := zeg l hl m k' (p ++ [x]) t1 t2 (by omega) ht (by rw [List.length_append, List.length_singleton]; omega) (fun y hy => by
   rcases List.mem_append.1 hy with hy | hy
   ·exact hw y hy
   ·rw [List.mem_singleton.1 hy]; exact hxw)
  exact ⟨q, u1, u2, h2, by rw [h3, List.length_append, List.length_singleton]; omega, h4, h5⟩
theorem zhZ (l : List Int) (s1 s2 : Int) (h1 : 0 ≤ s1) (hl : l.length ≤ 17592186044416) (n : Nat) (hn : n ≤ 100) (k : Nat) (hk : 200 ≤ k) : ∃ q t1 t2, zS.f k l s1 s2 (n : Int) = some (q, t1, t2) ∧ q.length ≤ n ∧ (∀ x ∈ q, x ∈ zck) ∧ 0 ≤ t1 := by
 obtain ⟨r, t1, t2, hr, h2, h3, h4⟩ := zfh l s1 s2 h1 hl n (by omega) (by omega)
 obtain ⟨m, rfl⟩ := Int.eq_ofNat_of_zero_le h2
 obtain ⟨q, u1, u2, h5, h6, h7, h8⟩ := zeg l hl m k [] t1 t2 (by omega) h4 (by simp; omega) (by simp)
 unfold zS.f
 rw [hr, Option.bind_some]
 exact ⟨q, u1, u2, h5, by rw [h6]; simp; omega, h7, h8⟩
end Go.Proofs.Ytgmbbfmbimofoaa.P
