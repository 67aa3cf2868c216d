-- MERGED BY A PROGRAM out of texts of this claim: hand work, and what a (turned) print of the kit has written for it
import Derived.Test.YtgmbbfmbimofoaaMc5
namespace Go.Proofs.Ytgmbbfmbimofoaa.P
open Go.RowKit Go.Proofs.YtgmbbfmbimofoaaW.PrintWords Go.Proofs.YtgmbbfmbimofoaaW.PrintLast Go.Proofs.YtgmbbfmbimofoaaW.PrintMore
attribute [local go_sem] zR zQ zV zU zK zM zP zO
set_option linter.unusedVariables false
set_option linter.unusedSimpArgs false
def zaV.f (s0_0 : List Int) (s0_1 : Int) (s0_2 : Int) (a1 : Int) : Option (Bool × Int × Int) := (zX.f s0_0 s0_1 s0_2 (wrap64 (a1 - 1))).bind fun bt248 => (some ((bt248.1 == 0), bt248.2.1, bt248.2.2))
set_option maxHeartbeats 8000000 in
set_option maxRecDepth 100000 in
theorem zaV.calls (g : Nat) (s0_0 : List Int) (s0_1 : Int) (s0_2 : Int) (a1 : Int) (r1 : Bool) (r2 : Int) (r3 : Int) (w0 w : World) (hI : zn w0 w g s0_0 s0_1 s0_2) (hB : Below w0.heap.size w0 w) (h : zaV.f s0_0 s0_1 s0_2 a1 = some (r1, r2, r3)) :
  Calls Try.prog 49 #[.pointer (some ⟨g, 0, none⟩), .int .i64 a1] w fun e w' => e = .returned (.bool r1) ∧ zn w0 w' g s0_0 r2 r3 ∧ Below w0.heap.size w0 w' ∧ zz w w' g none := by
 have HI0 := za.mk hI
 have HK := za.mk (zz.refl w g none)
 have HL := za.mk hB.size
 clear hI
 have HW0 := za.mk hB.size
 have HB := za.mk hB
 clear hB
 have H : ((zX.f s0_0 s0_1 s0_2 (wrap64 (a1 - 1))).bind fun bt248 => (some ((bt248.1 == 0), bt248.2.1, bt248.2.2))) = some (r1, r2, r3) := h
 clear h
 replace H := Option.bind_eq_some_iff.mp H
 obtain ⟨⟨t248, t249, t250⟩, A30, H⟩ := H
 replace H : (some ((t248 == 0), t249, t250)) = some (r1, r2, r3) := H
 have A3 := za.mk A30
 clear A30
 simp only [Option.some.injEq, Prod.mk.injEq] at H
 obtain ⟨rfl, rfl, rfl⟩ := H
 go_enter Try.func49, Try.ntmps49
 go_wp2_with (first | ((with_reducible refine zC (f := 28) rfl ?_); refine zW (some 8) rfl rfl Try.func28 (by kernel_rfl) rfl #[.pointer (some ⟨g, 0, none⟩), .int .i64 (wrap64 (a1 - 1))] rfl (by (try simp only [List.map_toArray, List.map_cons, List.map_nil]); first | done | rfl | (simp only [List.length_drop, List.length_take]; rfl)) ?_; (with_reducible refine (zX.calls g s0_0 s0_1 s0_2 (wrap64 (a1 - 1)) t248 t249 t250 w0 _ ?side1 ?side2 A3.out).mono ?_); (case side1 => repeat (first | (with_reducible first | exact HI0.out | apply zn.alloc | apply zn.drewN | apply zn.drew | apply zn.zay | apply zn.zaz) | exact HI0.out)); (case side2 => repeat (first | (with_reducible first | exact HB.out | apply ze | apply zb | apply zf | refine zh ?_ (zn.ge HI0.out)) | exact HB.out)); rintro e w4 ⟨rfl, hi, hb, hk⟩; refine ⟨_, rfl, ?_⟩; have n0_ := za.mk (zz.trans (by repeat (first | (with_reducible first | exact HK.out | apply zz.zaU | apply zab | apply zaf | apply zac) | exact HK.out)) hk (.inl rfl)); have n1_ := za.mk (hb); have n2_ := za.mk (hi); clear HK; clear HB; clear HI0; have HK := n0_; have HB := n1_; have HI0 := n2_; clear n0_ n1_ n2_; (try clear hb); (try clear hb2); (try clear hk); (try clear hi)))
 go_ret
 exact ⟨by first | rfl | (simp [zx, zy] <;> rfl) | (simp [*, zx, zy] <;> rfl), by repeat (first | (with_reducible first | exact HI0.out | apply zn.alloc | apply zn.drewN | apply zn.drew | apply zn.zay | apply zn.zaz) | exact HI0.out), by repeat (first | (with_reducible first | exact HB.out | apply ze | apply zb | apply zf | refine zh ?_ (zn.ge HI0.out)) | exact HB.out), by repeat (first | (with_reducible first | exact HK.out | apply zz.zaU | apply zab | apply zaf | apply zac) | exact HK.out)⟩
mutual
def zq.l0 : Nat → Int → Int → List (S63) → Int → List Int → Int → Int → Option ((List (S63)) × Int × Int)
 | 0, _, _, _, _, _, _, _ => none
 | k + 1, x1, x2, x7, x8, x1000, x1001, x1002 => if x8 ≤ x1 then (zq.l1 k x1 x2 x7 x8 x1000 x1001 x1002) else (some (x7, x1001, x1002))
def zq.j2 : Nat → Int → Int → List (S63) → Int → List Int → Int → Int → Option ((List (S63)) × Int × Int)
 | 0, _, _, _, _, _, _, _ => none
 | k + 1, x1, x2, x7, x8, x1000, x1001, x1002 => if x8 = x1 then (zq.j3 k x1 x2 x7 x8 true x1000 x1001 x1002) else (zq.j3 k x1 x2 x7 x8 ((x7.length : Int) == x2) x1000 x1001 x1002)
def zq.j3 : Nat → Int → Int → List (S63) → Int → Bool → List Int → Int → Int → Option ((List (S63)) × Int × Int)
 | 0, _, _, _, _, _, _, _, _ => none
 | k + 1, x1, x2, x7, x8, x37, x1000, x1001, x1002 => if x37 = true then (zq.l0 k x1 x2 x7 (wrap64 (x8 + 1)) x1000 x1001 x1002) else ((zX.f x1000 x1001 x1002 4).bind fun bt260 => (if bt260.1 = 0 then ((zaC.f x1000 bt260.2.1 bt260.2.2).bind fun bt263 => (if x7.length < 4398046511104 then (zq.l0 k x1 x2 (x7 ++ [(⟨2, x8, bt263.1⟩ : S63)]) (wrap64 (x8 + 1)) x1000 bt263.2.1 bt263.2.2) else (none))) else (if bt260.1 = 1 then (if x7.length < 4398046511104 then (zq.l0 k x1 x2 (x7 ++ [(⟨3, x8, (⟨#[]⟩ : ByteArray)⟩ : S63)]) (wrap64 (x8 + 1)) x1000 bt260.2.1 bt260.2.2) else (none)) else (zq.l0 k x1 x2 x7 (wrap64 (x8 + 1)) x1000 bt260.2.1 bt260.2.2))))
def zq.l1 : Nat → Int → Int → List (S63) → Int → List Int → Int → Int → Option ((List (S63)) × Int × Int)
 | 0, _, _, _, _, _, _, _ => none
 | k + 1, x1, x2, x7, x8, x1000, x1001, x1002 => (zaV.f x1000 x1001 x1002 4).bind fun bt251 => (if bt251.1 = true then (if (x7.length : Int) < x2 then ((zaC.f x1000 bt251.2.1 bt251.2.2).bind fun bt254 => (if x7.length < 4398046511104 then (zq.l1 k x1 x2 (x7 ++ [(⟨1, x8, bt254.1⟩ : S63)]) x8 x1000 bt254.2.1 bt254.2.2) else (none))) else (zq.j2 k x1 x2 x7 x8 x1000 bt251.2.1 bt251.2.2)) else (zq.j2 k x1 x2 x7 x8 x1000 bt251.2.1 bt251.2.2))
end
def zq.f (k : Nat) (s0_0 : List Int) (s0_1 : Int) (s0_2 : Int) (a1 : Int) (a2 : Int) : Option ((List (S63)) × Int × Int) := zq.l0 k a1 a2 ([] : List (S63)) 0 s0_0 s0_1 s0_2
set_option maxHeartbeats 8000000 in
set_option maxRecDepth 100000 in
theorem zq.calls (k : Nat) (g : Nat) (s0_0 : List Int) (s0_1 : Int) (s0_2 : Int) (a1 : Int) (a2 : Int) (r1 : List (S63)) (r2 : Int) (r3 : Int) (w0 w : World) (hI : zn w0 w g s0_0 s0_1 s0_2) (hB : Below w0.heap.size w0 w) (h : zq.f k s0_0 s0_1 s0_2 a1 a2 = some (r1, r2, r3)) :
  Calls Try.prog 27 #[.pointer (some ⟨g, 0, none⟩), .int .i64 a1, .int .i64 a2] w fun e w' => ∃ v0_ : Value, e = .returned (v0_) ∧ Kd.R k63 63 w' w.heap.size (fun _ => True) v0_ r1 ∧ zn w0 w' g s0_0 r2 r3 ∧ Below w0.heap.size w0 w' ∧ zz w w' g none := by
 have hu63 := Try.underlying63
 have HI0 := za.mk hI
 have HK := za.mk (zz.refl w g none)
 have HL := za.mk hB.size
 clear hI
 have HW0 := za.mk hB.size
 have HB := za.mk hB
 clear hB
 have H : (zq.l0 k a1 a2 ([] : List (S63)) 0 s0_0 s0_1 s0_2) = some (r1, r2, r3) := h
 clear h
 have H' := za.mk H
 clear H
 go_enter Try.func27, Try.ntmps27
 go_wp2
 go_loopg [7, 8] k (fun kq v7 v8 w' => ∃ (x7_1 : List (S63)) (x8_1 : Int) (x1001_1 : Int) (x1002_1 : Int), v8 = .int .i64 x8_1 ∧ za (zq.l0 kq a1 a2 x7_1 x8_1 s0_0 x1001_1 x1002_1 = some (r1, r2, r3)) ∧ za (kq ≤ k) ∧ za (Kd.R k63 63 w' w.heap.size (fun _ => True) v7 x7_1) ∧ za (zn w0 w' g s0_0 x1001_1 x1002_1) ∧ za (zz w w' g none) ∧ za (Below w0.heap.size w0 w'))
 case atStart => exact ⟨(([] : List (S63))), (0), (s0_1), (s0_2), (by first | rfl | (simp; done) | (simp [*]; done)), H', ⟨Nat.le_refl _⟩, ⟨by first | exact Kd.zbE _ _ _ _ _ | exact Kd.zda _ _ _ _ _ | exact Kd.zcR _ _ _ _ _ | exact Kd.zc4 _ _ _ _ _ | exact Kd.zc6 _ _ _ _ _⟩, ⟨by repeat (first | (with_reducible first | exact HI0.out | apply zn.alloc | apply zn.drewN | apply zn.drew | apply zn.zay | apply zn.zaz) | exact HI0.out)⟩, ⟨by repeat (first | (with_reducible first | exact HK.out | apply zz.zaU | apply zab | apply zaf | apply zac) | exact HK.out)⟩, ⟨by repeat (first | (with_reducible first | exact HB.out | apply ze | apply zb | apply zf | refine zh ?_ (zn.ge HI0.out)) | exact HB.out)⟩⟩
 case round =>
  clear H'
  try clear c2
  try clear p2
  obtain ⟨x7_1, x8_1, x1001_1, x1002_1, rfl, HA, HK1, HO_7, HI0, HK, HB⟩ := hrel
  cases gk with
  | zero => exact absurd HA.out (by simp [zq.l0])
  | succ k1 =>
   have H := HA.out
   clear HA
   simp only [zq.l0] at H
   by_cases c4 : x8_1 ≤ a1
   ·rw [if_pos c4] at H
    have c4b0 : decide (x8_1 ≤ a1) = true := decide_eq_true c4
    clear c4
    have HC5 := za.mk H
    clear H
    go_upto_block 2 with (fail)
    go_cut [7] (fun v7 wc => ∃ (kq : Nat) (x7_4 : List (S63)) (x1001_4 : Int) (x1002_4 : Int), za (zq.j2 kq a1 a2 x7_4 x8_1 s0_0 x1001_4 x1002_4 = some (r1, r2, r3)) ∧ za (kq ≤ k1) ∧ za (Kd.R k63 63 wc w.heap.size (fun _ => True) v7 x7_4) ∧ za (zn w0 wc g s0_0 x1001_4 x1002_4) ∧ za (zz w wc g none) ∧ za (Below w0.heap.size w0 wc))
    case first =>
     have H := HC5.out
     clear HC5
     have H' := za.mk H
     clear H
     go_wp2
     go_loopg [7] k1 (fun kq v7 w' => ∃ (x7_2 : List (S63)) (x1001_2 : Int) (x1002_2 : Int), za (zq.l1 kq a1 a2 x7_2 x8_1 s0_0 x1001_2 x1002_2 = some (r1, r2, r3)) ∧ za (kq ≤ k1) ∧ za (Kd.R k63 63 w' w.heap.size (fun _ => True) v7 x7_2) ∧ za (zn w0 w' g s0_0 x1001_2 x1002_2) ∧ za (zz w w' g none) ∧ za (Below w0.heap.size w0 w'))
     case atStart => exact ⟨(x7_1), (x1001_1), (x1002_1), H', ⟨Nat.le_refl _⟩, ⟨by (with_reducible repeat (first | apply Kd.zJ | apply Kd.zI | apply Kd.zS)); exact HO_7.out⟩, ⟨by repeat (first | (with_reducible first | exact HI0.out | apply zn.alloc | apply zn.drewN | apply zn.drew | apply zn.zay | apply zn.zaz) | exact HI0.out)⟩, ⟨by repeat (first | (with_reducible first | exact HK.out | apply zz.zaU | apply zab | apply zaf | apply zac) | exact HK.out)⟩, ⟨by repeat (first | (with_reducible first | exact HB.out | apply ze | apply zb | apply zf | refine zh ?_ (zn.ge HI0.out)) | exact HB.out)⟩⟩
     case round =>
      clear H'
      try clear c2
      try clear p2
      try clear c4
      try clear c4b0
      try clear p2
      obtain ⟨x7_2, x1001_2, x1002_2, HA, HK2, HO_7, HI0, HK, HB⟩ := hrel
      cases gk with
      | zero => exact absurd HA.out (by simp [zq.l1])
      | succ k2 =>
       have H := HA.out
       clear HA
       simp only [zq.l1] at H
       replace H := Option.bind_eq_some_iff.mp H
       obtain ⟨⟨t251, t252, t253⟩, A60, H⟩ := H
       replace H : (if t251 = true then (if (x7_2.length : Int) < a2 then ((zaC.f s0_0 t252 t253).bind fun bt254 => (if x7_2.length < 4398046511104 then (zq.l1 k2 a1 a2 (x7_2 ++ [(⟨1, x8_1, bt254.1⟩ : S63)]) x8_1 s0_0 bt254.2.1 bt254.2.2) else (none))) else (zq.j2 k2 a1 a2 x7_2 x8_1 s0_0 t252 t253)) else (zq.j2 k2 a1 a2 x7_2 x8_1 s0_0 t252 t253)) = some (r1, r2, r3) := H
       have A6 := za.mk A60
       clear A60
       by_cases c7 : t251 = true
       ·subst c7
        have H1 : (if (x7_2.length : Int) < a2 then ((zaC.f s0_0 t252 t253).bind fun bt254 => (if x7_2.length < 4398046511104 then (zq.l1 k2 a1 a2 (x7_2 ++ [(⟨1, x8_1, bt254.1⟩ : S63)]) x8_1 s0_0 bt254.2.1 bt254.2.2) else (none))) else (zq.j2 k2 a1 a2 x7_2 x8_1 s0_0 t252 t253)) = some (r1, r2, r3) := by rw [if_pos rfl] at H; exact H
        clear H
        have H := H1
        clear H1
        by_cases c8 : (x7_2.length : Int) < a2
        ·rw [if_pos c8] at H
         have c8b0 : decide ((x7_2.length : Int) < a2) = true := decide_eq_true c8
         clear c8
         (first | rw [c8b0] | (simp only [zah, zaj]; rw [c8b0]) | skip)
         replace H := Option.bind_eq_some_iff.mp H
         obtain ⟨⟨t254, t255, t256⟩, A90, H⟩ := H
         replace H : (if x7_2.length < 4398046511104 then (zq.l1 k2 a1 a2 (x7_2 ++ [(⟨1, x8_1, t254⟩ : S63)]) x8_1 s0_0 t255 t256) else (none)) = some (r1, r2, r3) := H
         have A9 := za.mk A90
         clear A90
         by_cases c10 : x7_2.length < 4398046511104
         ·rw [if_pos c10] at H
          have LMc10 := za.mk c10
          clear c10
          obtain ⟨y257, hy257⟩ : ∃ y_ : List (S63), y_ = (x7_2 ++ [(⟨1, x8_1, t254⟩ : S63)]) := ⟨_, rfl⟩
          replace H : (zq.l1 k2 a1 a2 y257 x8_1 s0_0 t255 t256) = some (r1, r2, r3) := by first | (rw [hy257]; with_reducible exact H) | (have H2_ := (Option.bind_some _ _).symm.trans H; rw [hy257]; with_reducible exact H2_) | (have H2_ := (Option.bind_some _ _).symm.trans H; with_reducible exact H2_) | with_reducible exact H | (rw [hy257]; exact H) | exact H
          have Ny257 := za.mk hy257
          clear hy257
          have H' := za.mk H
          clear H
          go_wp2_with (first | ((with_reducible refine zC (f := 49) rfl ?_); refine zW (some 15) rfl rfl Try.func49 (by kernel_rfl) rfl #[.pointer (some ⟨g, 0, none⟩), .int .i64 4] rfl (by (try simp only [List.map_toArray, List.map_cons, List.map_nil]); first | done | rfl | (simp only [List.length_drop, List.length_take]; rfl)) ?_; (with_reducible refine (zaV.calls g s0_0 x1001_2 x1002_2 4 true t252 t253 w0 _ ?side1 ?side2 A6.out).mono ?_); (case side1 => repeat (first | (with_reducible first | exact HI0.out | apply zn.alloc | apply zn.drewN | apply zn.drew | apply zn.zay | apply zn.zaz) | exact HI0.out)); (case side2 => repeat (first | (with_reducible first | exact HB.out | apply ze | apply zb | apply zf | refine zh ?_ (zn.ge HI0.out)) | exact HB.out)); rintro e w11 ⟨rfl, hi, hb, hk⟩; refine ⟨_, rfl, ?_⟩; have n0_ := za.mk (Kd.zaB (Kd.zb5 (zn.apart (show zn w0 _ g s0_0 x1001_2 x1002_2 from by repeat (first | (with_reducible first | exact HI0.out | apply zn.alloc | apply zn.drewN | apply zn.drew | apply zn.zay | apply zn.zaz) | exact HI0.out)) (by (with_reducible repeat (first | apply Kd.zJ | apply Kd.zI | apply Kd.zS)); exact HO_7.out) (by decide)) hk (fun _ h => h.2)) (fun _ h => h.1)); have n1_ := za.mk (zz.trans (by repeat (first | (with_reducible first | exact HK.out | apply zz.zaU | apply zab | apply zaf | apply zac) | exact HK.out)) hk (.inl rfl)); have n2_ := za.mk (hb); have n3_ := za.mk (hi); clear HO_7; clear HK; clear HB; clear HI0; have HO_7 := n0_; have HK := n1_; have HB := n2_; have HI0 := n3_; clear n0_ n1_ n2_ n3_; (try clear hb); (try clear hb2); (try clear hk); (try clear hi); obtain ⟨Ao12, co12, eo12⟩ := Kd.zaX HO_7.out; subst eo12) | ((with_reducible refine zC (f := 35) rfl ?_); refine zW (some 25) rfl rfl Try.func35 (by kernel_rfl) rfl #[.pointer (some ⟨g, 0, none⟩)] rfl (by (try simp only [List.map_toArray, List.map_cons, List.map_nil]); first | done | rfl | (simp only [List.length_drop, List.length_take]; rfl)) ?_; (with_reducible refine (zaC.calls g s0_0 t252 t253 t254 t255 t256 w0 _ ?side1 ?side2 A9.out).mono ?_); (case side1 => repeat (first | (with_reducible first | exact HI0.out | apply zn.alloc | apply zn.drewN | apply zn.drew | apply zn.zay | apply zn.zaz) | exact HI0.out)); (case side2 => repeat (first | (with_reducible first | exact HB.out | apply ze | apply zb | apply zf | refine zh ?_ (zn.ge HI0.out)) | exact HB.out)); rintro e w13 ⟨rfl, hi, hb, hk⟩; refine ⟨_, rfl, ?_⟩; have n0_ := za.mk (Kd.zaB (Kd.zb5 (zn.apart (show zn w0 _ g s0_0 t252 t253 from by repeat (first | (with_reducible first | exact HI0.out | apply zn.alloc | apply zn.drewN | apply zn.drew | apply zn.zay | apply zn.zaz) | exact HI0.out)) (by (with_reducible repeat (first | apply Kd.zJ | apply Kd.zI | apply Kd.zS)); exact HO_7.out) (by decide)) hk (fun _ h => h.2)) (fun _ h => h.1)); have n1_ := za.mk (zz.trans (by repeat (first | (with_reducible first | exact HK.out | apply zz.zaU | apply zab | apply zaf | apply zac) | exact HK.out)) hk (.inl rfl)); have n2_ := za.mk (hb); have n3_ := za.mk (hi); clear HO_7; clear HK; clear HB; clear HI0; have HO_7 := n0_; have HK := n1_; have HB := n2_; have HI0 := n3_; clear n0_ n1_ n2_ n3_; (try clear hb); (try clear hb2); (try clear hk); (try clear hi)) | ((with_reducible refine zba (b := .append) (xs := #[.tmp 22, .tmp 27]) rfl ?_); (try (refine zdR (by rfl) ?_; dsimp only)); at_builtin; refine Kd.zb1 k63 w.heap.size rfl (.tmp 22) (.tmp 27) 31 63 (.agg #[(.int .i64 0), (.int .i64 0), (.string ⟨#[]⟩)]) 32 rfl Try.underlying31 zcw rfl (by decide) (by omega) (.slice Ao12 x7_2.length co12) x7_2 (⟨1, x8_1, t254⟩ : S63) [.int .i64 1, .int .i64 x8_1, .string t254] (fun _ => True) (fun _ => False) rfl rfl ?aP (fun _ hk => hk.elim) ?aF ?aO (Below.refl _ _) ?aS ?aL ?_; (case aP => exact zcp _ _ _ (⟨1, x8_1, t254⟩ : S63)); (case aF => exact (fun _ _ => trivial)); (case aO => exact (by (with_reducible repeat (first | apply Kd.zJ | apply Kd.zI | apply Kd.zS)); exact HO_7.out)); (case aS => exact (zcY (w := w) (g := g) (row := none) (by repeat (first | (with_reducible first | exact HK.out | apply zz.zaU | apply zab | apply zaf | apply zac) | exact HK.out)))); (case aL => have := LMc10.out; omega); intro v258 w14 ho hb hg hat; rw [← Ny257.out] at ho; have n0_ := za.mk (zn.grown (by repeat (first | (with_reducible first | exact HI0.out | apply zn.alloc | apply zn.drewN | apply zn.drew | apply zn.zay | apply zn.zaz) | exact HI0.out)) hg (zn.own_ne HI0.out HO_7.out (by decide))); have n1_ := za.mk (zbG (by repeat (first | (with_reducible first | exact HB.out | apply ze | apply zb | apply zf | refine zh ?_ (zn.ge HI0.out)) | exact HB.out)) HL.out hb); have n2_ := za.mk (zz.trans (by repeat (first | (with_reducible first | exact HK.out | apply zz.zaU | apply zab | apply zaf | apply zac) | exact HK.out)) (zz.zdj hg g) (Kd.zeh HO_7.out)); have n3_ := za.mk (ho); clear HI0; clear HB; clear HK; clear HO_7; have HI0 := n0_; have HB := n1_; have HK := n2_; have HO259 := n3_; clear n0_ n1_ n2_ n3_; clear ho hb hg hat))
          go_roundg k2
          case measure => have := HK1.out; have := HK2.out; omega
          case rel => exact ⟨(y257), (t255), (t256), H', ⟨by have := HK1.out; have := HK2.out; omega⟩, ⟨by (with_reducible repeat (first | apply Kd.zJ | apply Kd.zI | apply Kd.zS)); exact HO259.out⟩, ⟨by repeat (first | (with_reducible first | exact HI0.out | apply zn.alloc | apply zn.drewN | apply zn.drew | apply zn.zay | apply zn.zaz) | exact HI0.out)⟩, ⟨by repeat (first | (with_reducible first | exact HK.out | apply zz.zaU | apply zab | apply zaf | apply zac) | exact HK.out)⟩, ⟨by repeat (first | (with_reducible first | exact HB.out | apply ze | apply zb | apply zf | refine zh ?_ (zn.ge HI0.out)) | exact HB.out)⟩⟩
         ·rw [if_neg c10] at H
          exact absurd H (by simp)
        ·rw [if_neg c8] at H
         have c8b0 : decide ((x7_2.length : Int) < a2) = false := decide_eq_false c8
         clear c8
         (first | rw [c8b0] | (simp only [zah, zaj]; rw [c8b0]) | skip)
         have H' := za.mk H
         clear H
         go_wp2_with (first | ((with_reducible refine zC (f := 49) rfl ?_); refine zW (some 15) rfl rfl Try.func49 (by kernel_rfl) rfl #[.pointer (some ⟨g, 0, none⟩), .int .i64 4] rfl (by (try simp only [List.map_toArray, List.map_cons, List.map_nil]); first | done | rfl | (simp only [List.length_drop, List.length_take]; rfl)) ?_; (with_reducible refine (zaV.calls g s0_0 x1001_2 x1002_2 4 true t252 t253 w0 _ ?side1 ?side2 A6.out).mono ?_); (case side1 => repeat (first | (with_reducible first | exact HI0.out | apply zn.alloc | apply zn.drewN | apply zn.drew | apply zn.zay | apply zn.zaz) | exact HI0.out)); (case side2 => repeat (first | (with_reducible first | exact HB.out | apply ze | apply zb | apply zf | refine zh ?_ (zn.ge HI0.out)) | exact HB.out)); rintro e w15 ⟨rfl, hi, hb, hk⟩; refine ⟨_, rfl, ?_⟩; have n0_ := za.mk (Kd.zaB (Kd.zb5 (zn.apart (show zn w0 _ g s0_0 x1001_2 x1002_2 from by repeat (first | (with_reducible first | exact HI0.out | apply zn.alloc | apply zn.drewN | apply zn.drew | apply zn.zay | apply zn.zaz) | exact HI0.out)) (by (with_reducible repeat (first | apply Kd.zJ | apply Kd.zI | apply Kd.zS)); exact HO_7.out) (by decide)) hk (fun _ h => h.2)) (fun _ h => h.1)); have n1_ := za.mk (zz.trans (by repeat (first | (with_reducible first | exact HK.out | apply zz.zaU | apply zab | apply zaf | apply zac) | exact HK.out)) hk (.inl rfl)); have n2_ := za.mk (hb); have n3_ := za.mk (hi); clear HO_7; clear HK; clear HB; clear HI0; have HO_7 := n0_; have HK := n1_; have HB := n2_; have HI0 := n3_; clear n0_ n1_ n2_ n3_; (try clear hb); (try clear hb2); (try clear hk); (try clear hi); obtain ⟨Ao16, co16, eo16⟩ := Kd.zaX HO_7.out; subst eo16))
         go_meet
         case rel => exact ⟨_, (x7_2), (t252), (t253), H', ⟨by have := HK1.out; have := HK2.out; first | omega | exact Nat.le_refl _⟩, ⟨by (with_reducible repeat (first | apply Kd.zJ | apply Kd.zI | apply Kd.zS)); exact HO_7.out⟩, ⟨by repeat (first | (with_reducible first | exact HI0.out | apply zn.alloc | apply zn.drewN | apply zn.drew | apply zn.zay | apply zn.zaz) | exact HI0.out)⟩, ⟨by repeat (first | (with_reducible first | exact HK.out | apply zz.zaU | apply zab | apply zaf | apply zac) | exact HK.out)⟩, ⟨by repeat (first | (with_reducible first | exact HB.out | apply ze | apply zb | apply zf | refine zh ?_ (zn.ge HI0.out)) | exact HB.out)⟩⟩
       ·replace c7 := Bool.eq_false_iff.mpr c7
        subst c7
        have H1 : (zq.j2 k2 a1 a2 x7_2 x8_1 s0_0 t252 t253) = some (r1, r2, r3) := by rw [if_neg (show ¬ (false = true) by decide)] at H; exact H
        clear H
        have H := H1
        clear H1
        have H' := za.mk H
        clear H
        go_wp2_with (first | ((with_reducible refine zC (f := 49) rfl ?_); refine zW (some 15) rfl rfl Try.func49 (by kernel_rfl) rfl #[.pointer (some ⟨g, 0, none⟩), .int .i64 4] rfl (by (try simp only [List.map_toArray, List.map_cons, List.map_nil]); first | done | rfl | (simp only [List.length_drop, List.length_take]; rfl)) ?_; (with_reducible refine (zaV.calls g s0_0 x1001_2 x1002_2 4 false t252 t253 w0 _ ?side1 ?side2 A6.out).mono ?_); (case side1 => repeat (first | (with_reducible first | exact HI0.out | apply zn.alloc | apply zn.drewN | apply zn.drew | apply zn.zay | apply zn.zaz) | exact HI0.out)); (case side2 => repeat (first | (with_reducible first | exact HB.out | apply ze | apply zb | apply zf | refine zh ?_ (zn.ge HI0.out)) | exact HB.out)); rintro e w17 ⟨rfl, hi, hb, hk⟩; refine ⟨_, rfl, ?_⟩; have n0_ := za.mk (Kd.zaB (Kd.zb5 (zn.apart (show zn w0 _ g s0_0 x1001_2 x1002_2 from by repeat (first | (with_reducible first | exact HI0.out | apply zn.alloc | apply zn.drewN | apply zn.drew | apply zn.zay | apply zn.zaz) | exact HI0.out)) (by (with_reducible repeat (first | apply Kd.zJ | apply Kd.zI | apply Kd.zS)); exact HO_7.out) (by decide)) hk (fun _ h => h.2)) (fun _ h => h.1)); have n1_ := za.mk (zz.trans (by repeat (first | (with_reducible first | exact HK.out | apply zz.zaU | apply zab | apply zaf | apply zac) | exact HK.out)) hk (.inl rfl)); have n2_ := za.mk (hb); have n3_ := za.mk (hi); clear HO_7; clear HK; clear HB; clear HI0; have HO_7 := n0_; have HK := n1_; have HB := n2_; have HI0 := n3_; clear n0_ n1_ n2_ n3_; (try clear hb); (try clear hb2); (try clear hk); (try clear hi)))
        go_meet
        case rel => exact ⟨_, (x7_2), (t252), (t253), H', ⟨by have := HK1.out; have := HK2.out; first | omega | exact Nat.le_refl _⟩, ⟨by (with_reducible repeat (first | apply Kd.zJ | apply Kd.zI | apply Kd.zS)); exact HO_7.out⟩, ⟨by repeat (first | (with_reducible first | exact HI0.out | apply zn.alloc | apply zn.drewN | apply zn.drew | apply zn.zay | apply zn.zaz) | exact HI0.out)⟩, ⟨by repeat (first | (with_reducible first | exact HK.out | apply zz.zaU | apply zab | apply zaf | apply zac) | exact HK.out)⟩, ⟨by repeat (first | (with_reducible first | exact HB.out | apply ze | apply zb | apply zf | refine zh ?_ (zn.ge HI0.out)) | exact HB.out)⟩⟩
    case rest =>
     clear HC5
     try clear c1
     try clear c2
     try clear p2
     try clear c3
     try clear c4
     try clear c4b0
     try clear c7
     try clear c8
     try clear c8b0
     try clear c10
     try clear p2
     obtain ⟨kq, x7_4, x1001_4, x1002_4, HA, HJ4, HO_7, HI0, HK, HB⟩ := hcut
     cases kq with
     | zero => exact absurd HA.out (by simp [zq.j2])
     | succ kj4 =>
      have H := HA.out
      clear HA
      simp only [zq.j2] at H
      have HC18 := za.mk H
      clear H
      go_upto_region 7 with (fail)
      go_cut [37] (fun v37 wc => ∃ (kq : Nat) (x37_17 : Bool), v37 = .bool x37_17 ∧ za (zq.j3 kq a1 a2 x7_4 x8_1 x37_17 s0_0 x1001_4 x1002_4 = some (r1, r2, r3)) ∧ za (kq ≤ kj4) ∧ za (Kd.R k63 63 wc w.heap.size (fun _ => True) u7 x7_4) ∧ za (zn w0 wc g s0_0 x1001_4 x1002_4) ∧ za (zz w wc g none) ∧ za (Below w0.heap.size w0 wc))
      case first =>
       have H := HC18.out
       clear HC18
       by_cases c19 : x8_1 = a1
       ·rw [if_pos c19] at H
        have c19b0 : (x8_1 == a1) = true := beq_iff_eq.mpr c19
        have c19b1 : (x8_1 != a1) = false := bne_eq_false_iff_eq.mpr c19
        clear c19
        (first | rw [c19b0] | (simp only [zah, zaj]; rw [c19b0]) | skip)
        have H' := za.mk H
        clear H
        go_wp2
        go_meet
        case rel => exact ⟨_, (true), (by first | rfl | (simp; done) | (simp [*]; done)), H', ⟨by have := HK1.out; have := HJ4.out; first | omega | exact Nat.le_refl _⟩, ⟨by (with_reducible repeat (first | apply Kd.zJ | apply Kd.zI | apply Kd.zS)); exact HO_7.out⟩, ⟨by repeat (first | (with_reducible first | exact HI0.out | apply zn.alloc | apply zn.drewN | apply zn.drew | apply zn.zay | apply zn.zaz) | exact HI0.out)⟩, ⟨by repeat (first | (with_reducible first | exact HK.out | apply zz.zaU | apply zab | apply zaf | apply zac) | exact HK.out)⟩, ⟨by repeat (first | (with_reducible first | exact HB.out | apply ze | apply zb | apply zf | refine zh ?_ (zn.ge HI0.out)) | exact HB.out)⟩⟩
       ·rw [if_neg c19] at H
        have c19b0 : (x8_1 == a1) = false := beq_eq_false_iff_ne.mpr c19
        have c19b1 : (x8_1 != a1) = true := bne_iff_ne.mpr c19
        (first | rw [c19b0] | (simp only [zah, zaj]; rw [c19b0]) | skip)
        have H' := za.mk H
        clear H
        obtain ⟨Ao20, co20, eo20⟩ := Kd.zaX HO_7.out
        subst eo20
        go_wp2
        go_meet
        case rel => exact ⟨_, (((x7_4.length : Int) == a2)), (by first | rfl | (simp; done) | (simp [*]; done)), H', ⟨by have := HK1.out; have := HJ4.out; first | omega | exact Nat.le_refl _⟩, ⟨by (with_reducible repeat (first | apply Kd.zJ | apply Kd.zI | apply Kd.zS)); exact HO_7.out⟩, ⟨by repeat (first | (with_reducible first | exact HI0.out | apply zn.alloc | apply zn.drewN | apply zn.drew | apply zn.zay | apply zn.zaz) | exact HI0.out)⟩, ⟨by repeat (first | (with_reducible first | exact HK.out | apply zz.zaU | apply zab | apply zaf | apply zac) | exact HK.out)⟩, ⟨by repeat (first | (with_reducible first | exact HB.out | apply ze | apply zb | apply zf | refine zh ?_ (zn.ge HI0.out)) | exact HB.out)⟩⟩
      case rest =>
       clear HC18
       try clear c1
       try clear c2
       try clear p2
       try clear c3
       try clear c4
       try clear c4b0
       try clear c7
       try clear c8
       try clear c8b0
       try clear c10
       try clear c19
       try clear c19b0
       try clear c19b1
       try clear p2
       obtain ⟨kq, x37_17, rfl, HA, HJ17, HO_7, HI0, HK, HB⟩ := hcut
       cases kq with
       | zero => exact absurd HA.out (by simp [zq.j3])
       | succ kj17 =>
        have H := HA.out
        clear HA
        simp only [zq.j3] at H
        by_cases c21 : x37_17 = true
        ·subst c21
         have H1 : (zq.l0 kj17 a1 a2 x7_4 (wrap64 (x8_1 + 1)) s0_0 x1001_4 x1002_4) = some (r1, r2, r3) := by rw [if_pos rfl] at H; exact H
         clear H
         have H := H1
         clear H1
         have H' := za.mk H
         clear H
         go_wp2
         go_roundg kj17
         case measure => have := HK1.out; have := HJ4.out; have := HJ17.out; omega
         case rel => exact ⟨(x7_4), (wrap64 (x8_1 + 1)), (x1001_4), (x1002_4), (by first | rfl | (simp; done) | (simp [*]; done)), H', ⟨by have := HK1.out; have := HJ4.out; have := HJ17.out; omega⟩, ⟨by (with_reducible repeat (first | apply Kd.zJ | apply Kd.zI | apply Kd.zS)); exact HO_7.out⟩, ⟨by repeat (first | (with_reducible first | exact HI0.out | apply zn.alloc | apply zn.drewN | apply zn.drew | apply zn.zay | apply zn.zaz) | exact HI0.out)⟩, ⟨by repeat (first | (with_reducible first | exact HK.out | apply zz.zaU | apply zab | apply zaf | apply zac) | exact HK.out)⟩, ⟨by repeat (first | (with_reducible first | exact HB.out | apply ze | apply zb | apply zf | refine zh ?_ (zn.ge HI0.out)) | exact HB.out)⟩⟩
        ·replace c21 := Bool.eq_false_iff.mpr c21
         subst c21
         have H1 : ((zX.f s0_0 x1001_4 x1002_4 4).bind fun bt260 => (if bt260.1 = 0 then ((zaC.f s0_0 bt260.2.1 bt260.2.2).bind fun bt263 => (if x7_4.length < 4398046511104 then (zq.l0 kj17 a1 a2 (x7_4 ++ [(⟨2, x8_1, bt263.1⟩ : S63)]) (wrap64 (x8_1 + 1)) s0_0 bt263.2.1 bt263.2.2) else (none))) else (if bt260.1 = 1 then (if x7_4.length < 4398046511104 then (zq.l0 kj17 a1 a2 (x7_4 ++ [(⟨3, x8_1, (⟨#[]⟩ : ByteArray)⟩ : S63)]) (wrap64 (x8_1 + 1)) s0_0 bt260.2.1 bt260.2.2) else (none)) else (zq.l0 kj17 a1 a2 x7_4 (wrap64 (x8_1 + 1)) s0_0 bt260.2.1 bt260.2.2)))) = some (r1, r2, r3) := by rw [if_neg (show ¬ (false = true) by decide)] at H; exact H
         clear H
         have H := H1
         clear H1
         replace H := Option.bind_eq_some_iff.mp H
         obtain ⟨⟨t260, t261, t262⟩, A220, H⟩ := H
         replace H : (if t260 = 0 then ((zaC.f s0_0 t261 t262).bind fun bt263 => (if x7_4.length < 4398046511104 then (zq.l0 kj17 a1 a2 (x7_4 ++ [(⟨2, x8_1, bt263.1⟩ : S63)]) (wrap64 (x8_1 + 1)) s0_0 bt263.2.1 bt263.2.2) else (none))) else (if t260 = 1 then (if x7_4.length < 4398046511104 then (zq.l0 kj17 a1 a2 (x7_4 ++ [(⟨3, x8_1, (⟨#[]⟩ : ByteArray)⟩ : S63)]) (wrap64 (x8_1 + 1)) s0_0 t261 t262) else (none)) else (zq.l0 kj17 a1 a2 x7_4 (wrap64 (x8_1 + 1)) s0_0 t261 t262))) = some (r1, r2, r3) := H
         have A22 := za.mk A220
         clear A220
         by_cases c23 : t260 = 0
         ·rw [if_pos c23] at H
          have c23b0 : (t260 == 0) = true := beq_iff_eq.mpr c23
          have c23b1 : (t260 != 0) = false := bne_eq_false_iff_eq.mpr c23
          clear c23
          replace H := Option.bind_eq_some_iff.mp H
          obtain ⟨⟨t263, t264, t265⟩, A240, H⟩ := H
          replace H : (if x7_4.length < 4398046511104 then (zq.l0 kj17 a1 a2 (x7_4 ++ [(⟨2, x8_1, t263⟩ : S63)]) (wrap64 (x8_1 + 1)) s0_0 t264 t265) else (none)) = some (r1, r2, r3) := H
          have A24 := za.mk A240
          clear A240
          by_cases c25 : x7_4.length < 4398046511104
          ·rw [if_pos c25] at H
           have LMc25 := za.mk c25
           clear c25
           obtain ⟨y266, hy266⟩ : ∃ y_ : List (S63), y_ = (x7_4 ++ [(⟨2, x8_1, t263⟩ : S63)]) := ⟨_, rfl⟩
           replace H : (zq.l0 kj17 a1 a2 y266 (wrap64 (x8_1 + 1)) s0_0 t264 t265) = some (r1, r2, r3) := by first | (rw [hy266]; with_reducible exact H) | (have H2_ := (Option.bind_some _ _).symm.trans H; rw [hy266]; with_reducible exact H2_) | (have H2_ := (Option.bind_some _ _).symm.trans H; with_reducible exact H2_) | with_reducible exact H | (rw [hy266]; exact H) | exact H
           have Ny266 := za.mk hy266
           clear hy266
           have H' := za.mk H
           clear H
           go_wp2_with (first | ((with_reducible refine zC (f := 28) rfl ?_); refine zW (some 39) rfl rfl Try.func28 (by kernel_rfl) rfl #[.pointer (some ⟨g, 0, none⟩), .int .i64 4] rfl (by (try simp only [List.map_toArray, List.map_cons, List.map_nil]); first | done | rfl | (simp only [List.length_drop, List.length_take]; rfl)) ?_; (with_reducible refine (zX.calls g s0_0 x1001_4 x1002_4 4 t260 t261 t262 w0 _ ?side1 ?side2 A22.out).mono ?_); (case side1 => repeat (first | (with_reducible first | exact HI0.out | apply zn.alloc | apply zn.drewN | apply zn.drew | apply zn.zay | apply zn.zaz) | exact HI0.out)); (case side2 => repeat (first | (with_reducible first | exact HB.out | apply ze | apply zb | apply zf | refine zh ?_ (zn.ge HI0.out)) | exact HB.out)); rintro e w26 ⟨rfl, hi, hb, hk⟩; refine ⟨_, rfl, ?_⟩; have n0_ := za.mk (Kd.zaB (Kd.zb5 (zn.apart (show zn w0 _ g s0_0 x1001_4 x1002_4 from by repeat (first | (with_reducible first | exact HI0.out | apply zn.alloc | apply zn.drewN | apply zn.drew | apply zn.zay | apply zn.zaz) | exact HI0.out)) (by (with_reducible repeat (first | apply Kd.zJ | apply Kd.zI | apply Kd.zS)); exact HO_7.out) (by decide)) hk (fun _ h => h.2)) (fun _ h => h.1)); have n1_ := za.mk (zz.trans (by repeat (first | (with_reducible first | exact HK.out | apply zz.zaU | apply zab | apply zaf | apply zac) | exact HK.out)) hk (.inl rfl)); have n2_ := za.mk (hb); have n3_ := za.mk (hi); clear HO_7; clear HK; clear HB; clear HI0; have HO_7 := n0_; have HK := n1_; have HB := n2_; have HI0 := n3_; clear n0_ n1_ n2_ n3_; (try clear hb); (try clear hb2); (try clear hk); (try clear hi)) | ((with_reducible refine zC (f := 35) rfl ?_); refine zW (some 45) rfl rfl Try.func35 (by kernel_rfl) rfl #[.pointer (some ⟨g, 0, none⟩)] rfl (by (try simp only [List.map_toArray, List.map_cons, List.map_nil]); first | done | rfl | (simp only [List.length_drop, List.length_take]; rfl)) ?_; (with_reducible refine (zaC.calls g s0_0 t261 t262 t263 t264 t265 w0 _ ?side1 ?side2 A24.out).mono ?_); (case side1 => repeat (first | (with_reducible first | exact HI0.out | apply zn.alloc | apply zn.drewN | apply zn.drew | apply zn.zay | apply zn.zaz) | exact HI0.out)); (case side2 => repeat (first | (with_reducible first | exact HB.out | apply ze | apply zb | apply zf | refine zh ?_ (zn.ge HI0.out)) | exact HB.out)); rintro e w27 ⟨rfl, hi, hb, hk⟩; refine ⟨_, rfl, ?_⟩; have n0_ := za.mk (Kd.zaB (Kd.zb5 (zn.apart (show zn w0 _ g s0_0 t261 t262 from by repeat (first | (with_reducible first | exact HI0.out | apply zn.alloc | apply zn.drewN | apply zn.drew | apply zn.zay | apply zn.zaz) | exact HI0.out)) (by (with_reducible repeat (first | apply Kd.zJ | apply Kd.zI | apply Kd.zS)); exact HO_7.out) (by decide)) hk (fun _ h => h.2)) (fun _ h => h.1)); have n1_ := za.mk (zz.trans (by repeat (first | (with_reducible first | exact HK.out | apply zz.zaU | apply zab | apply zaf | apply zac) | exact HK.out)) hk (.inl rfl)); have n2_ := za.mk (hb); have n3_ := za.mk (hi); clear HO_7; clear HK; clear HB; clear HI0; have HO_7 := n0_; have HK := n1_; have HB := n2_; have HI0 := n3_; clear n0_ n1_ n2_ n3_; (try clear hb); (try clear hb2); (try clear hk); (try clear hi)) | ((with_reducible refine zba (b := .append) (xs := #[.tmp 42, .tmp 47]) rfl ?_); (try (refine zdR (by rfl) ?_; dsimp only)); at_builtin; refine Kd.zb1 k63 w.heap.size rfl (.tmp 42) (.tmp 47) 31 63 (.agg #[(.int .i64 0), (.int .i64 0), (.string ⟨#[]⟩)]) 32 rfl Try.underlying31 zcw rfl (by decide) (by omega) u7 x7_4 (⟨2, x8_1, t263⟩ : S63) [.int .i64 2, .int .i64 x8_1, .string t263] (fun _ => True) (fun _ => False) rfl rfl ?aP (fun _ hk => hk.elim) ?aF ?aO (Below.refl _ _) ?aS ?aL ?_; (case aP => exact zcp _ _ _ (⟨2, x8_1, t263⟩ : S63)); (case aF => exact (fun _ _ => trivial)); (case aO => exact (by (with_reducible repeat (first | apply Kd.zJ | apply Kd.zI | apply Kd.zS)); exact HO_7.out)); (case aS => exact (zcY (w := w) (g := g) (row := none) (by repeat (first | (with_reducible first | exact HK.out | apply zz.zaU | apply zab | apply zaf | apply zac) | exact HK.out)))); (case aL => have := LMc25.out; omega); intro v267 w28 ho hb hg hat; rw [← Ny266.out] at ho; have n0_ := za.mk (zn.grown (by repeat (first | (with_reducible first | exact HI0.out | apply zn.alloc | apply zn.drewN | apply zn.drew | apply zn.zay | apply zn.zaz) | exact HI0.out)) hg (zn.own_ne HI0.out HO_7.out (by decide))); have n1_ := za.mk (zbG (by repeat (first | (with_reducible first | exact HB.out | apply ze | apply zb | apply zf | refine zh ?_ (zn.ge HI0.out)) | exact HB.out)) HL.out hb); have n2_ := za.mk (zz.trans (by repeat (first | (with_reducible first | exact HK.out | apply zz.zaU | apply zab | apply zaf | apply zac) | exact HK.out)) (zz.zdj hg g) (Kd.zeh HO_7.out)); have n3_ := za.mk (ho); clear HI0; clear HB; clear HK; clear HO_7; have HI0 := n0_; have HB := n1_; have HK := n2_; have HO268 := n3_; clear n0_ n1_ n2_ n3_; clear ho hb hg hat))
           go_roundg kj17
           case measure => have := HK1.out; have := HJ4.out; have := HJ17.out; omega
           case rel => exact ⟨(y266), (wrap64 (x8_1 + 1)), (t264), (t265), (by first | rfl | (simp; done) | (simp [*]; done)), H', ⟨by have := HK1.out; have := HJ4.out; have := HJ17.out; omega⟩, ⟨by (with_reducible repeat (first | apply Kd.zJ | apply Kd.zI | apply Kd.zS)); exact HO268.out⟩, ⟨by repeat (first | (with_reducible first | exact HI0.out | apply zn.alloc | apply zn.drewN | apply zn.drew | apply zn.zay | apply zn.zaz) | exact HI0.out)⟩, ⟨by repeat (first | (with_reducible first | exact HK.out | apply zz.zaU | apply zab | apply zaf | apply zac) | exact HK.out)⟩, ⟨by repeat (first | (with_reducible first | exact HB.out | apply ze | apply zb | apply zf | refine zh ?_ (zn.ge HI0.out)) | exact HB.out)⟩⟩
          ·rw [if_neg c25] at H
           exact absurd H (by simp)
         ·rw [if_neg c23] at H
          have c23b0 : (t260 == 0) = false := beq_eq_false_iff_ne.mpr c23
          have c23b1 : (t260 != 0) = true := bne_iff_ne.mpr c23
          by_cases c29 : t260 = 1
          ·rw [if_pos c29] at H
           have c29b0 : (t260 == 1) = true := beq_iff_eq.mpr c29
           have c29b1 : (t260 != 1) = false := bne_eq_false_iff_eq.mpr c29
           clear c29
           by_cases c30 : x7_4.length < 4398046511104
           ·rw [if_pos c30] at H
            have LMc30 := za.mk c30
            clear c30
            obtain ⟨y269, hy269⟩ : ∃ y_ : List (S63), y_ = (x7_4 ++ [(⟨3, x8_1, (⟨#[]⟩ : ByteArray)⟩ : S63)]) := ⟨_, rfl⟩
            replace H : (zq.l0 kj17 a1 a2 y269 (wrap64 (x8_1 + 1)) s0_0 t261 t262) = some (r1, r2, r3) := by first | (rw [hy269]; with_reducible exact H) | (have H2_ := (Option.bind_some _ _).symm.trans H; rw [hy269]; with_reducible exact H2_) | (have H2_ := (Option.bind_some _ _).symm.trans H; with_reducible exact H2_) | with_reducible exact H | (rw [hy269]; exact H) | exact H
            have Ny269 := za.mk hy269
            clear hy269
            have H' := za.mk H
            clear H
            go_wp2_with (first | ((with_reducible refine zC (f := 28) rfl ?_); refine zW (some 39) rfl rfl Try.func28 (by kernel_rfl) rfl #[.pointer (some ⟨g, 0, none⟩), .int .i64 4] rfl (by (try simp only [List.map_toArray, List.map_cons, List.map_nil]); first | done | rfl | (simp only [List.length_drop, List.length_take]; rfl)) ?_; (with_reducible refine (zX.calls g s0_0 x1001_4 x1002_4 4 t260 t261 t262 w0 _ ?side1 ?side2 A22.out).mono ?_); (case side1 => repeat (first | (with_reducible first | exact HI0.out | apply zn.alloc | apply zn.drewN | apply zn.drew | apply zn.zay | apply zn.zaz) | exact HI0.out)); (case side2 => repeat (first | (with_reducible first | exact HB.out | apply ze | apply zb | apply zf | refine zh ?_ (zn.ge HI0.out)) | exact HB.out)); rintro e w31 ⟨rfl, hi, hb, hk⟩; refine ⟨_, rfl, ?_⟩; have n0_ := za.mk (Kd.zaB (Kd.zb5 (zn.apart (show zn w0 _ g s0_0 x1001_4 x1002_4 from by repeat (first | (with_reducible first | exact HI0.out | apply zn.alloc | apply zn.drewN | apply zn.drew | apply zn.zay | apply zn.zaz) | exact HI0.out)) (by (with_reducible repeat (first | apply Kd.zJ | apply Kd.zI | apply Kd.zS)); exact HO_7.out) (by decide)) hk (fun _ h => h.2)) (fun _ h => h.1)); have n1_ := za.mk (zz.trans (by repeat (first | (with_reducible first | exact HK.out | apply zz.zaU | apply zab | apply zaf | apply zac) | exact HK.out)) hk (.inl rfl)); have n2_ := za.mk (hb); have n3_ := za.mk (hi); clear HO_7; clear HK; clear HB; clear HI0; have HO_7 := n0_; have HK := n1_; have HB := n2_; have HI0 := n3_; clear n0_ n1_ n2_ n3_; (try clear hb); (try clear hb2); (try clear hk); (try clear hi)) | ((with_reducible refine zba (b := .append) (xs := #[.tmp 51, .tmp 54]) rfl ?_); (try (refine zdR (by rfl) ?_; dsimp only)); at_builtin; refine Kd.zb1 k63 w.heap.size rfl (.tmp 51) (.tmp 54) 31 63 (.agg #[(.int .i64 0), (.int .i64 0), (.string ⟨#[]⟩)]) 32 rfl Try.underlying31 zcw rfl (by decide) (by omega) u7 x7_4 (⟨3, x8_1, (⟨#[]⟩ : ByteArray)⟩ : S63) [.int .i64 3, .int .i64 x8_1, .string (⟨#[]⟩ : ByteArray)] (fun _ => True) (fun _ => False) rfl rfl ?aP (fun _ hk => hk.elim) ?aF ?aO (Below.refl _ _) ?aS ?aL ?_; (case aP => exact zcp _ _ _ (⟨3, x8_1, (⟨#[]⟩ : ByteArray)⟩ : S63)); (case aF => exact (fun _ _ => trivial)); (case aO => exact (by (with_reducible repeat (first | apply Kd.zJ | apply Kd.zI | apply Kd.zS)); exact HO_7.out)); (case aS => exact (zcY (w := w) (g := g) (row := none) (by repeat (first | (with_reducible first | exact HK.out | apply zz.zaU | apply zab | apply zaf | apply zac) | exact HK.out)))); (case aL => have := LMc30.out; omega); intro v270 w32 ho hb hg hat; rw [← Ny269.out] at ho; have n0_ := za.mk (zn.grown (by repeat (first | (with_reducible first | exact HI0.out | apply zn.alloc | apply zn.drewN | apply zn.drew | apply zn.zay | apply zn.zaz) | exact HI0.out)) hg (zn.own_ne HI0.out HO_7.out (by decide))); have n1_ := za.mk (zbG (by repeat (first | (with_reducible first | exact HB.out | apply ze | apply zb | apply zf | refine zh ?_ (zn.ge HI0.out)) | exact HB.out)) HL.out hb); have n2_ := za.mk (zz.trans (by repeat (first | (with_reducible first | exact HK.out | apply zz.zaU | apply zab | apply zaf | apply zac) | exact HK.out)) (zz.zdj hg g) (Kd.zeh HO_7.out)); have n3_ := za.mk (ho); clear HI0; clear HB; clear HK; clear HO_7; have HI0 := n0_; have HB := n1_; have HK := n2_; have HO271 := n3_; clear n0_ n1_ n2_ n3_; clear ho hb hg hat))
            go_roundg kj17
            case measure => have := HK1.out; have := HJ4.out; have := HJ17.out; omega
            case rel => exact ⟨(y269), (wrap64 (x8_1 + 1)), (t261), (t262), (by first | rfl | (simp; done) | (simp [*]; done)), H', ⟨by have := HK1.out; have := HJ4.out; have := HJ17.out; omega⟩, ⟨by (with_reducible repeat (first | apply Kd.zJ | apply Kd.zI | apply Kd.zS)); exact HO271.out⟩, ⟨by repeat (first | (with_reducible first | exact HI0.out | apply zn.alloc | apply zn.drewN | apply zn.drew | apply zn.zay | apply zn.zaz) | exact HI0.out)⟩, ⟨by repeat (first | (with_reducible first | exact HK.out | apply zz.zaU | apply zab | apply zaf | apply zac) | exact HK.out)⟩, ⟨by repeat (first | (with_reducible first | exact HB.out | apply ze | apply zb | apply zf | refine zh ?_ (zn.ge HI0.out)) | exact HB.out)⟩⟩
           ·rw [if_neg c30] at H
            exact absurd H (by simp)
          ·rw [if_neg c29] at H
           have c29b0 : (t260 == 1) = false := beq_eq_false_iff_ne.mpr c29
           have c29b1 : (t260 != 1) = true := bne_iff_ne.mpr c29
           have H' := za.mk H
           clear H
           go_wp2_with (first | ((with_reducible refine zC (f := 28) rfl ?_); refine zW (some 39) rfl rfl Try.func28 (by kernel_rfl) rfl #[.pointer (some ⟨g, 0, none⟩), .int .i64 4] rfl (by (try simp only [List.map_toArray, List.map_cons, List.map_nil]); first | done | rfl | (simp only [List.length_drop, List.length_take]; rfl)) ?_; (with_reducible refine (zX.calls g s0_0 x1001_4 x1002_4 4 t260 t261 t262 w0 _ ?side1 ?side2 A22.out).mono ?_); (case side1 => repeat (first | (with_reducible first | exact HI0.out | apply zn.alloc | apply zn.drewN | apply zn.drew | apply zn.zay | apply zn.zaz) | exact HI0.out)); (case side2 => repeat (first | (with_reducible first | exact HB.out | apply ze | apply zb | apply zf | refine zh ?_ (zn.ge HI0.out)) | exact HB.out)); rintro e w33 ⟨rfl, hi, hb, hk⟩; refine ⟨_, rfl, ?_⟩; have n0_ := za.mk (Kd.zaB (Kd.zb5 (zn.apart (show zn w0 _ g s0_0 x1001_4 x1002_4 from by repeat (first | (with_reducible first | exact HI0.out | apply zn.alloc | apply zn.drewN | apply zn.drew | apply zn.zay | apply zn.zaz) | exact HI0.out)) (by (with_reducible repeat (first | apply Kd.zJ | apply Kd.zI | apply Kd.zS)); exact HO_7.out) (by decide)) hk (fun _ h => h.2)) (fun _ h => h.1)); have n1_ := za.mk (zz.trans (by repeat (first | (with_reducible first | exact HK.out | apply zz.zaU | apply zab | apply zaf | apply zac) | exact HK.out)) hk (.inl rfl)); have n2_ := za.mk (hb); have n3_ := za.mk (hi); clear HO_7; clear HK; clear HB; clear HI0; have HO_7 := n0_; have HK := n1_; have HB := n2_; have HI0 := n3_; clear n0_ n1_ n2_ n3_; (try clear hb); (try clear hb2); (try clear hk); (try clear hi)))
           go_roundg kj17
           case measure => have := HK1.out; have := HJ4.out; have := HJ17.out; omega
           case rel => exact ⟨(x7_4), (wrap64 (x8_1 + 1)), (t261), (t262), (by first | rfl | (simp; done) | (simp [*]; done)), H', ⟨by have := HK1.out; have := HJ4.out; have := HJ17.out; omega⟩, ⟨by (with_reducible repeat (first | apply Kd.zJ | apply Kd.zI | apply Kd.zS)); exact HO_7.out⟩, ⟨by repeat (first | (with_reducible first | exact HI0.out | apply zn.alloc | apply zn.drewN | apply zn.drew | apply zn.zay | apply zn.zaz) | exact HI0.out)⟩, ⟨by repeat (first | (with_reducible first | exact HK.out | apply zz.zaU | apply zab | apply zaf | apply zac) | exact HK.out)⟩, ⟨by repeat (first | (with_reducible first | exact HB.out | apply ze | apply zb | apply zf | refine zh ?_ (zn.ge HI0.out)) | exact HB.out)⟩⟩
   ·rw [if_neg c4] at H
    have c4b0 : decide (x8_1 ≤ a1) = false := decide_eq_false c4
    clear c4
    simp only [Option.some.injEq, Prod.mk.injEq] at H
    obtain ⟨rfl, rfl, rfl⟩ := H
    go_wp2
    go_ret
    exact ⟨_, by first | rfl | (simp [zx, zy] <;> rfl) | (simp [*, zx, zy] <;> rfl), by (with_reducible repeat (first | apply Kd.zJ | apply Kd.zI | apply Kd.zS)); exact HO_7.out, by repeat (first | (with_reducible first | exact HI0.out | apply zn.alloc | apply zn.drewN | apply zn.drew | apply zn.zay | apply zn.zaz) | exact HI0.out), by repeat (first | (with_reducible first | exact HB.out | apply ze | apply zb | apply zf | refine zh ?_ (zn.ge HI0.out)) | exact HB.out), by repeat (first | (with_reducible first | exact HK.out | apply zz.zaU | apply zab | apply zaf | apply zac) | exact HK.out)⟩
def zat.l0 : Nat → List Int → Int → Int → Option (Int)
 | 0, _, _, _ => none
 | k + 1, x0, x1, x5 => if x5 < (x0.length : Int) then (if 0 ≤ x5 then (if (rd x0 x5) = x1 then (some x5) else (zat.l0 k x0 x1 (wrap64 (x5 + 1)))) else (none)) else (some (-1))
def zat.f (k : Nat) (l0 : List Int) (a1 : Int) : Option (Int) := zat.l0 k l0 a1 0
set_option maxHeartbeats 8000000 in
set_option maxRecDepth 100000 in
theorem zat.calls (k : Nat) (A0 : Option Addr) (c0 : Nat) (l0 : List Int) (a1 : Int) (r : Int) (w : World) (hr0 : Kd.C (Kd.int .i64) w A0 l0.length l0) (hc0 : l0.length ≤ c0) (h : zat.f k l0 a1 = some r) :
  Calls Try.prog 80 #[.slice A0 l0.length c0, .int .i64 a1] w fun e w' => e = .returned (.int .i64 r) ∧ zF w w' := by
 have HR0 := za.mk hr0
 have HC0 := za.mk hc0
 clear hr0 hc0
 have H : (zat.l0 k l0 a1 0) = some r := h
 clear h
 have H' := za.mk H
 clear H
 go_enter Try.func80, Try.ntmps80
 go_wp2
 go_loopg [5] k (fun kq v5 w' => ∃ (x5_1 : Int), v5 = .int .i64 x5_1 ∧ za (zat.l0 kq l0 a1 x5_1 = some r) ∧ za (kq ≤ k) ∧ zF w w')
 case atStart => exact ⟨(0), (by first | rfl | (simp; done) | (simp [*]; done)), H', ⟨Nat.le_refl _⟩, by repeat (first | exact zF.refl _ | apply zF.step)⟩
 case round =>
  clear H'
  try clear p2
  obtain ⟨x5_1, rfl, HA, HK1, ⟨m1, rfl⟩⟩ := hrel
  cases gk with
  | zero => exact absurd HA.out (by simp [zat.l0])
  | succ k1 =>
   have H := HA.out
   clear HA
   simp only [zat.l0] at H
   by_cases c3 : x5_1 < (l0.length : Int)
   ·rw [if_pos c3] at H
    have c3b0 : decide (x5_1 < (l0.length : Int)) = true := decide_eq_true c3
    clear c3
    by_cases c4 : 0 ≤ x5_1
    ·rw [if_pos c4] at H
     have c4b0 : decide (0 ≤ x5_1) = true := decide_eq_true c4
     clear c4
     by_cases c5 : (rd l0 x5_1) = a1
     ·rw [if_pos c5] at H
      have c5b0 : ((rd l0 x5_1) == a1) = true := beq_iff_eq.mpr c5
      have c5b1 : ((rd l0 x5_1) != a1) = false := bne_eq_false_iff_eq.mpr c5
      clear c5
      obtain rfl := Option.some.inj H
      have p481 : 0 ≤ (x5_1 : Int) := of_decide_eq_true (by first | (with_reducible assumption) | assumption)
      have q481 : x5_1 < (l0.length : Int) := of_decide_eq_true (by first | (with_reducible assumption) | assumption)
      obtain ⟨ad481, e481, hx481_0⟩ := Kd.zbJ HR0.out x5_1 p481 q481
      cases e481
      replace p481 := eq_true p481
      replace q481 := eq_true q481
      go_wp2
      go_ret
      exact ⟨by first | rfl | (simp; done) | (simp [*]; done), by repeat (first | exact zF.refl _ | apply zF.step)⟩
     ·rw [if_neg c5] at H
      have c5b0 : ((rd l0 x5_1) == a1) = false := beq_eq_false_iff_ne.mpr c5
      have c5b1 : ((rd l0 x5_1) != a1) = true := bne_iff_ne.mpr c5
      have H' := za.mk H
      clear H
      have p481 : 0 ≤ (x5_1 : Int) := of_decide_eq_true (by first | (with_reducible assumption) | assumption)
      have q481 : x5_1 < (l0.length : Int) := of_decide_eq_true (by first | (with_reducible assumption) | assumption)
      obtain ⟨ad481, e481, hx481_0⟩ := Kd.zbJ HR0.out x5_1 p481 q481
      cases e481
      replace p481 := eq_true p481
      replace q481 := eq_true q481
      go_wp2
      go_roundg k1
      case measure => have := HK1.out; omega
      case rel => exact ⟨(wrap64 (x5_1 + 1)), (by first | rfl | (simp; done) | (simp [*]; done)), H', ⟨by have := HK1.out; omega⟩, by repeat (first | exact zF.refl _ | apply zF.step)⟩
    ·rw [if_neg c4] at H
     exact absurd H (by simp)
   ·rw [if_neg c3] at H
    have c3b0 : decide (x5_1 < (l0.length : Int)) = false := decide_eq_false c3
    clear c3
    obtain rfl := Option.some.inj H
    go_wp2
    go_ret
    exact ⟨by first | rfl | (simp; done) | (simp [*]; done), by repeat (first | exact zF.refl _ | apply zF.step)⟩
mutual
def zG.l0 : Nat → Int → List Int → List (List Int) → Int → Option ((List (List Int)))
 | 0, _, _, _, _ => none
 | k + 1, x0, x1, x5, x6 => if x6 < x0 then ((zat.f k x1 x6).bind fun t485 => (if t485 < 0 then ((some (([] : List Int) : List Int)).bind fun y486 => (if y486.length + x1.length < 17592186044416 then ((some (y486 ++ x1 : List Int)).bind fun y489 => (if y489.length < 17592186044416 then ((zG.f k x0 (y489 ++ [x6])).bind fun t495 => (if x5.length + t495.length < 5864062014805 then (zG.l0 k x0 x1 (x5 ++ t495) (wrap64 (x6 + 1))) else (none))) else (none))) else (none))) else (zG.l0 k x0 x1 x5 (wrap64 (x6 + 1))))) else (some x5)
def zG.f : Nat → Int → List Int → Option ((List (List Int)))
 | 0, _, _ => none
 | k + 1, a0, l1 => if (l1.length : Int) = a0 then (some (([l1] : List (List Int)))) else (zG.l0 k a0 l1 ([] : List (List Int)) 0)
end
set_option maxHeartbeats 8000000 in
set_option maxRecDepth 100000 in
theorem zG.calls (k : Nat) : ∀ (a0 : Int) (P1_ : Nat → Prop) (A1 : Option Addr) (c1 : Nat) (l1 : List Int) (r : List (List Int)) (w : World) (hs1 : Kd.V (Kd.int .i64) 3 w w.heap.size (fun k_ => P1_ k_) (.slice A1 l1.length c1) l1) (h : zG.f k a0 l1 = some r),
  Calls Try.prog 41 #[.int .i64 a0, .slice A1 l1.length c1] w fun e w' => ∃ v0_ : Value, e = .returned (v0_) ∧ Kd.N (Kd.slice 3 (Kd.int .i64)) 23 w' w.heap.size (fun k_ => (P1_ k_ ∨ w.heap.size ≤ k_)) v0_ r ∧ Below w.heap.size w w' := by
 induction k using Nat.strongRecOn with
 | _ k ih =>
 intro a0 P1_ A1 c1 l1 r w hs1 h
 cases k with
 | zero => exact absurd h (by simp [zG.f])
 | succ k =>
 simp only [zG.f] at h
 have HO1 := za.mk (show Kd.V (Kd.int .i64) 3 w w.heap.size (fun k_ => (P1_ k_ ∨ w.heap.size ≤ k_)) (.slice A1 l1.length c1) l1 from Kd.zdA hs1 (fun k_ hk => .inl hk))
 have HB := za.mk (Below.refl w.heap.size w)
 have H : (if (l1.length : Int) = a0 then (some (([l1] : List (List Int)))) else (zG.l0 k a0 l1 ([] : List (List Int)) 0)) = some r := h
 clear h
 by_cases c3 : (l1.length : Int) = a0
 ·rw [if_pos c3] at H
  have c3b0 : ((l1.length : Int) == a0) = true := beq_iff_eq.mpr c3
  have c3b1 : ((l1.length : Int) != a0) = false := bne_eq_false_iff_eq.mpr c3
  clear c3
  obtain ⟨y482, hy482⟩ : ∃ y_ : List (List Int), y_ = (([l1] : List (List Int))) := ⟨_, rfl⟩
  replace H : (some y482) = some r := by first | (rw [hy482]; with_reducible exact H) | (have H2_ := (Option.bind_some _ _).symm.trans H; rw [hy482]; with_reducible exact H2_) | (have H2_ := (Option.bind_some _ _).symm.trans H; with_reducible exact H2_) | with_reducible exact H | (rw [hy482]; exact H) | exact H
  have Ny482 := za.mk hy482
  clear hy482
  obtain rfl := Option.some.inj H
  go_enter Try.func41, Try.ntmps41
  go_wp2_with (first | ((with_reducible refine zav (N := 12) rfl ?_); refine Kd.zhy (Kd.slice 3 (Kd.int .i64)) _ 23 ?hg (N' := 12) ?hd (xs := ([l1] : List (List Int))) (inner := [.slice A1 l1.length c1]) (ok := (fun k_ => (P1_ k_ ∨ w.heap.size ≤ k_))) (okp := (fun k_ => (P1_ k_ ∨ w.heap.size ≤ k_))) ?hr ?hp (fun _ hk => hk) ((show ∀ k_, w.heap.size ≤ k_ → (fun k_ => (P1_ k_ ∨ w.heap.size ≤ k_)) k_ from fun k_ hk => (.inr (Nat.le_trans (zB (by repeat (first | (with_reducible first | exact HB.out | apply ze | apply zb | apply zf) | exact HB.out))) hk))) _ (Nat.le_refl _)) (Below.refl _ _) (Nat.le_refl _) (by simp) ?_; (case hd => rfl); (case hg => rfl); (case hr => first | (go_simp; done) | (go_simp; rfl)); (case hp => exact (zad.one (show Kd.FK (Kd.slice 3 (Kd.int .i64)) _ _ l1 [.slice A1 l1.length c1] from (Kd.zdv (Kd.zcI (Kd.zdA (ok' := (fun k_ => (P1_ k_ ∨ w.heap.size ≤ k_))) (HO1.out) (fun k_ hk => hk))).2.1 (Kd.V_F (Kd.zdA (ok' := (fun k_ => (P1_ k_ ∨ w.heap.size ≤ k_))) (HO1.out) (fun k_ hk => hk))))) (zad.none _ _))); intro v483 w4 ho5 hb hg_ hnew_; clear hg_ hnew_; (first | rw [← Ny482.out] at ho5 | (simp only [Int.reduceToNat] at ho5; rw [← Ny482.out] at ho5)); have n0_ := za.mk (Kd.zev (by (with_reducible repeat (first | apply Kd.zb8 | apply Kd.zb7 | apply Kd.zcm)); exact HO1.out) (Kd.zf1 ho5) hb); have n1_ := za.mk (Kd.zd8 ho5 (zB (by repeat (first | (with_reducible first | exact HB.out | apply ze | apply zb | apply zf) | exact HB.out)))); have n2_ := za.mk (zu (by repeat (first | (with_reducible first | exact HB.out | apply ze | apply zb | apply zf) | exact HB.out)) hb); clear HO1; clear HB; have HO1 := n0_; have HO484 := n1_; have HB := n2_; clear n0_ n1_ n2_; clear hb ho5))
  go_ret
  exact ⟨_, by first | rfl | (simp [zx, zy] <;> rfl) | (simp [*, zx, zy] <;> rfl), by (with_reducible repeat (first | apply Kd.za8 | apply Kd.za7 | apply Kd.zbk)); exact HO484.out, by repeat (first | (with_reducible first | exact HB.out | apply ze | apply zb | apply zf) | exact HB.out)⟩
 ·rw [if_neg c3] at H
  have c3b0 : ((l1.length : Int) == a0) = false := beq_eq_false_iff_ne.mpr c3
  have c3b1 : ((l1.length : Int) != a0) = true := bne_iff_ne.mpr c3
  have H' := za.mk H
  clear H
  go_enter Try.func41, Try.ntmps41
  go_wp2
  go_loopg [5, 6] k (fun kq v5 v6 w' => ∃ (x5_1 : List (List Int)) (x6_1 : Int), v6 = .int .i64 x6_1 ∧ za (zG.l0 kq a0 l1 x5_1 x6_1 = some r) ∧ za (kq ≤ k) ∧ za (Kd.V (Kd.int .i64) 3 w' w.heap.size (fun k_ => (P1_ k_ ∨ w.heap.size ≤ k_) ∧ some k_ ≠ (v5 : Value).ownBlock) (.slice A1 l1.length c1) l1) ∧ za (Kd.N (Kd.slice 3 (Kd.int .i64)) 23 w' w.heap.size (fun k_ => (P1_ k_ ∨ w.heap.size ≤ k_)) v5 x5_1) ∧ za (Below w.heap.size w w'))
  case atStart => exact ⟨(([] : List (List Int))), (0), (by first | rfl | (simp; done) | (simp [*]; done)), H', ⟨Nat.le_refl _⟩, ⟨by (with_reducible repeat (first | apply Kd.zb8 | apply Kd.zb7 | apply Kd.zcm)); exact Kd.zdA HO1.out (fun _ hk => ⟨hk, (by simp [Value.ownBlock])⟩)⟩, ⟨by first | exact Kd.zc6 _ _ _ _ _ | exact Kd.zda _ _ _ _ _ | exact Kd.zcR _ _ _ _ _ | exact Kd.zc4 _ _ _ _ _ | exact Kd.zbE _ _ _ _ _⟩, ⟨by repeat (first | (with_reducible first | exact HB.out | apply ze | apply zb | apply zf) | exact HB.out)⟩⟩
  case round =>
   clear H'
   try clear c1
   try clear p2
   try clear c3
   try clear c3b0
   try clear c3b1
   try clear c4
   obtain ⟨x5_1, x6_1, rfl, HA, HK1, HO_1, HO_5, HB⟩ := hrel
   cases gk with
   | zero => exact absurd HA.out (by simp [zG.l0])
   | succ k1 =>
    have H := HA.out
    clear HA
    simp only [zG.l0] at H
    by_cases c6 : x6_1 < a0
    ·rw [if_pos c6] at H
     have c6b0 : decide (x6_1 < a0) = true := decide_eq_true c6
     clear c6
     replace H := Option.bind_eq_some_iff.mp H
     obtain ⟨t485, A70, H⟩ := H
     replace H : (if t485 < 0 then ((some (([] : List Int) : List Int)).bind fun y486 => (if y486.length + l1.length < 17592186044416 then ((some (y486 ++ l1 : List Int)).bind fun y489 => (if y489.length < 17592186044416 then ((zG.f k1 a0 (y489 ++ [x6_1])).bind fun t495 => (if x5_1.length + t495.length < 5864062014805 then (zG.l0 k1 a0 l1 (x5_1 ++ t495) (wrap64 (x6_1 + 1))) else (none))) else (none))) else (none))) else (zG.l0 k1 a0 l1 x5_1 (wrap64 (x6_1 + 1)))) = some r := H
     have A7 := za.mk A70
     clear A70
     by_cases c8 : t485 < 0
     ·rw [if_pos c8] at H
      have c8b0 : decide (t485 < 0) = true := decide_eq_true c8
      clear c8
      obtain ⟨y486, hy486⟩ : ∃ y_ : List Int, y_ = (([] : List Int)) := ⟨_, rfl⟩
      replace H : (if y486.length + l1.length < 17592186044416 then ((some (y486 ++ l1 : List Int)).bind fun y489 => (if y489.length < 17592186044416 then ((zG.f k1 a0 (y489 ++ [x6_1])).bind fun t495 => (if x5_1.length + t495.length < 5864062014805 then (zG.l0 k1 a0 l1 (x5_1 ++ t495) (wrap64 (x6_1 + 1))) else (none))) else (none))) else (none)) = some r := by first | (rw [hy486]; with_reducible exact H) | (have H2_ := (Option.bind_some _ _).symm.trans H; rw [hy486]; with_reducible exact H2_) | (have H2_ := (Option.bind_some _ _).symm.trans H; with_reducible exact H2_) | with_reducible exact H | (rw [hy486]; exact H) | exact H
      have Ny486 := za.mk hy486
      clear hy486
      by_cases c9 : y486.length + l1.length < 17592186044416
      ·rw [if_pos c9] at H
       have LMc9 := za.mk c9
       clear c9
       obtain ⟨y489, hy489⟩ : ∃ y_ : List Int, y_ = (y486 ++ l1) := ⟨_, rfl⟩
       replace H : (if y489.length < 17592186044416 then ((zG.f k1 a0 (y489 ++ [x6_1])).bind fun t495 => (if x5_1.length + t495.length < 5864062014805 then (zG.l0 k1 a0 l1 (x5_1 ++ t495) (wrap64 (x6_1 + 1))) else (none))) else (none)) = some r := by first | (rw [hy489]; with_reducible exact H) | (have H2_ := (Option.bind_some _ _).symm.trans H; rw [hy489]; with_reducible exact H2_) | (have H2_ := (Option.bind_some _ _).symm.trans H; with_reducible exact H2_) | with_reducible exact H | (rw [hy489]; exact H) | exact H
       have Ny489 := za.mk hy489
       clear hy489
       by_cases c10 : y489.length < 17592186044416
       ·rw [if_pos c10] at H
        have LMc10 := za.mk c10
        clear c10
        obtain ⟨y492, hy492⟩ : ∃ y_ : List Int, y_ = (y489 ++ [x6_1]) := ⟨_, rfl⟩
        replace H : ((zG.f k1 a0 y492).bind fun t495 => (if x5_1.length + t495.length < 5864062014805 then (zG.l0 k1 a0 l1 (x5_1 ++ t495) (wrap64 (x6_1 + 1))) else (none))) = some r := by first | (rw [hy492]; with_reducible exact H) | (have H2_ := (Option.bind_some _ _).symm.trans H; rw [hy492]; with_reducible exact H2_) | (have H2_ := (Option.bind_some _ _).symm.trans H; with_reducible exact H2_) | with_reducible exact H | (rw [hy492]; exact H) | exact H
        have Ny492 := za.mk hy492
        clear hy492
        replace H := Option.bind_eq_some_iff.mp H
        obtain ⟨t495, A110, H⟩ := H
        replace H : (if x5_1.length + t495.length < 5864062014805 then (zG.l0 k1 a0 l1 (x5_1 ++ t495) (wrap64 (x6_1 + 1))) else (none)) = some r := H
        have A11 := za.mk A110
        clear A110
        by_cases c12 : x5_1.length + t495.length < 5864062014805
        ·rw [if_pos c12] at H
         have LMc12 := za.mk c12
         clear c12
         obtain ⟨y498, hy498⟩ : ∃ y_ : List (List Int), y_ = (x5_1 ++ t495) := ⟨_, rfl⟩
         replace H : (zG.l0 k1 a0 l1 y498 (wrap64 (x6_1 + 1))) = some r := by first | (rw [hy498]; with_reducible exact H) | (have H2_ := (Option.bind_some _ _).symm.trans H; rw [hy498]; with_reducible exact H2_) | (have H2_ := (Option.bind_some _ _).symm.trans H; with_reducible exact H2_) | with_reducible exact H | (rw [hy498]; exact H) | exact H
         have Ny498 := za.mk hy498
         clear hy498
         have H' := za.mk H
         clear H
         go_wp2_with (first | ((with_reducible refine zC (f := 80) rfl ?_); refine zW (some 20) rfl rfl Try.func80 (by kernel_rfl) rfl #[.slice A1 l1.length c1, .int .i64 x6_1] rfl (by (try simp only [List.map_toArray, List.map_cons, List.map_nil]); first | done | rfl | (simp only [List.length_drop, List.length_take]; rfl)) ?_; (with_reducible refine (zat.calls k1 _ _ l1 x6_1 t485 _ ?side1 ?side2 A7.out).mono ?_); (case side1 => repeat (first | exact (Kd.zcI HO_1.out).2.2 | (with_reducible refine Kd.zZ ?_ _) | (with_reducible refine Kd.z8 ?_ _) | (with_reducible refine Kd.zal ?_))); (case side2 => exact (Kd.zcI HO_1.out).2.1); rintro e w' ⟨rfl, ⟨nd, rfl⟩⟩; refine ⟨_, rfl, ?_⟩) | ((with_reducible refine zav (N := 24) rfl ?_); refine Kd.zdJ (Kd.int .i64) _ 3 ?hg (N := 24) ?hd (xs := ([] : List Int)) (inner := []) (ok := fun _ => True) (okp := fun _ => True) ?hr ?hp (fun _ hk => hk) trivial (Below.refl _ _) (Nat.le_refl _) (by simp) ?_; (case hd => rfl); (case hg => rfl); (case hr => first | (go_simp; done) | (go_simp; rfl)); (case hp => exact (zad.none _ _)); intro v487 w13 ho14 hb hg_ hnew_; clear hg_ hnew_; (first | rw [← Ny486.out] at ho14 | (simp only [Int.reduceToNat] at ho14; rw [← Ny486.out] at ho14)); have n0_ := za.mk (Kd.zev (by (with_reducible repeat (first | apply Kd.zb8 | apply Kd.zb7 | apply Kd.zcm)); exact HO_1.out) (Kd.zeU ho14) hb); have n1_ := za.mk (Kd.zfN (by (with_reducible repeat (first | apply Kd.za8 | apply Kd.za7 | apply Kd.zbk)); exact HO_5.out) (Kd.zeU ho14) hb); have n2_ := za.mk (Kd.zaT (Kd.zfW (M := fun k_ => (w.heap.size ≤ k_)) ho14 (zB (by repeat (first | (with_reducible first | exact HB.out | apply ze | apply zb | apply zf) | exact HB.out))) (fun k_ h_ => h_)) (zB (by repeat (first | (with_reducible first | exact HB.out | apply ze | apply zb | apply zf) | exact HB.out)))); have n3_ := za.mk (zu (by repeat (first | (with_reducible first | exact HB.out | apply ze | apply zb | apply zf) | exact HB.out)) hb); clear HO_1; clear HO_5; clear HB; have HO_1 := n0_; have HO_5 := n1_; have HO488 := n2_; have HB := n3_; clear n0_ n1_ n2_ n3_; clear hb ho14) | ((with_reducible refine zba (b := .append) (xs := #[.tmp 24, .tmp 25]) rfl ?_); at_builtin; refine Kd.zc0 (Kd.int .i64) (w0 := w) w.heap.size rfl (.tmp 24) (.tmp 25) 23 3 (.int .i64 0) 8 rfl Try.underlying23 info3 rfl (by decide) (by omega) v487 y486 l1 _ _ _ (fun k_ => (w.heap.size ≤ k_)) (fun _ => False) rfl rfl ?aO ?aR (fun _ _ h => h) (fun _ h => h.elim) ?aF ?aB ?aS ?aL ?_; (case aR => repeat (first | exact (Kd.zcI HO_1.out).2.2 | (with_reducible refine Kd.zZ ?_ _) | (with_reducible refine Kd.z8 ?_ _) | (with_reducible refine Kd.zal ?_))); (case aB => exact (by repeat (first | (with_reducible first | exact HB.out | apply ze | apply zb | apply zf) | exact HB.out))); (case aF => exact (fun k_ hk => (Nat.le_trans (zB (by repeat (first | (with_reducible first | exact HB.out | apply ze | apply zb | apply zf) | exact HB.out))) hk))); (case aO => exact (by (with_reducible repeat (first | apply Kd.zJ | apply Kd.zI | apply Kd.zS)); exact Kd.zaB HO488.out (fun _ hk => hk.1))); (case aS => exact (zB (by repeat (first | (with_reducible first | exact HB.out | apply ze | apply zb | apply zf) | exact HB.out)))); (case aL => have := LMc9.out; omega); intro v490 w15 ho hb hg hat; rw [← Ny489.out] at ho; have n0_ := za.mk (Kd.zez (ok := (fun k_ => (P1_ k_ ∨ w.heap.size ≤ k_) ∧ some k_ ≠ (u5 : Value).ownBlock)) (by (with_reducible repeat (first | apply Kd.zb8 | apply Kd.zb7 | apply Kd.zcm)); exact HO_1.out) hg hat); have n1_ := za.mk (Kd.zeA (ok := (fun k_ => (P1_ k_ ∨ w.heap.size ≤ k_))) (by (with_reducible repeat (first | apply Kd.za8 | apply Kd.za7 | apply Kd.zbk)); exact HO_5.out) hg hat); have n2_ := za.mk (hb); have n3_ := za.mk (ho); clear HO_1; clear HO_5; clear HB; clear HO488; have HO_1 := n0_; have HO_5 := n1_; have HB := n2_; have HO491 := n3_; clear n0_ n1_ n2_ n3_; clear ho hb hg hat) | ((with_reducible refine zba (b := .append) (xs := #[.tmp 26, .tmp 28]) rfl ?_); at_builtin; refine Kd.zb1 (Kd.int .i64) (w0 := w) w.heap.size rfl (.tmp 26) (.tmp 28) 23 3 (.int .i64 0) 8 rfl Try.underlying23 info3 rfl (by decide) (by omega) v490 y489 x6_1 [.int .i64 x6_1] (fun k_ => (w.heap.size ≤ k_)) (fun _ => False) rfl rfl ?aP (fun _ hk => hk.elim) ?aF ?aO ?aB ?aS ?aL ?_; (case aP => exact rfl); (case aB => exact (by repeat (first | (with_reducible first | exact HB.out | apply ze | apply zb | apply zf) | exact HB.out))); (case aF => exact (fun k_ hk => (Nat.le_trans (zB (by repeat (first | (with_reducible first | exact HB.out | apply ze | apply zb | apply zf) | exact HB.out))) hk))); (case aO => exact (by (with_reducible repeat (first | apply Kd.zJ | apply Kd.zI | apply Kd.zS)); exact HO491.out)); (case aS => exact (zB (by repeat (first | (with_reducible first | exact HB.out | apply ze | apply zb | apply zf) | exact HB.out)))); (case aL => have := LMc10.out; omega); intro v493 w16 ho hb hg hat; rw [← Ny492.out] at ho; have n0_ := za.mk (Kd.zez (ok := (fun k_ => (P1_ k_ ∨ w.heap.size ≤ k_) ∧ some k_ ≠ (u5 : Value).ownBlock)) (by (with_reducible repeat (first | apply Kd.zb8 | apply Kd.zb7 | apply Kd.zcm)); exact HO_1.out) hg hat); have n1_ := za.mk (Kd.zeA (ok := (fun k_ => (P1_ k_ ∨ w.heap.size ≤ k_))) (by (with_reducible repeat (first | apply Kd.za8 | apply Kd.za7 | apply Kd.zbk)); exact HO_5.out) hg hat); have n2_ := za.mk (hb); have n3_ := za.mk (ho); clear HO_1; clear HO_5; clear HB; clear HO491; have HO_1 := n0_; have HO_5 := n1_; have HB := n2_; have HO494 := n3_; clear n0_ n1_ n2_ n3_; clear ho hb hg hat; obtain ⟨Ao17, co17, eo17⟩ := Kd.zaX HO494.out; subst eo17) | ((with_reducible refine zC (f := 41) rfl ?_); refine zW (some 30) rfl rfl Try.func41 (by kernel_rfl) rfl #[.int .i64 a0, .slice Ao17 y492.length co17] rfl (by (try simp only [List.map_toArray, List.map_cons, List.map_nil]); first | done | rfl | (simp only [List.length_drop, List.length_take]; rfl)) ?_; (with_reducible refine (ih k1 (by have := HK1.out; omega) a0 (fun k_ => some k_ = (.slice Ao17 y492.length co17 : Value).ownBlock) _ _ y492 t495 _ ?side1 A11.out).mono ?_); (case side1 => exact Kd.R_V (Kd.zgh rfl (Kd.zex (HO494.out) (Kd.zea HO_5.out) (by decide)))); rintro e w18 ⟨v496, rfl, ho0, hb⟩; refine ⟨_, rfl, ?_⟩; have n0_ := za.mk (Kd.zev (by (with_reducible repeat (first | apply Kd.zb8 | apply Kd.zb7 | apply Kd.zcm)); exact HO_1.out) (Kd.zf1 ho0) hb); have n1_ := za.mk (Kd.zfN (by (with_reducible repeat (first | apply Kd.za8 | apply Kd.za7 | apply Kd.zbk)); exact HO_5.out) (Kd.zf1 ho0) hb); have n2_ := za.mk (Kd.zH (by (with_reducible repeat (first | apply Kd.zJ | apply Kd.zI | apply Kd.zS)); exact HO494.out) hb); have n3_ := za.mk (Kd.zd8 (Kd.zdi (ok' := fun k_ => (P1_ k_ ∨ w.heap.size ≤ k_) ∧ some k_ ≠ (u5 : Value).ownBlock) ho0 (fun k_ hk_ => ⟨Or.elim hk_ (fun hs_ => (.inr (((Kd.zex (HO494.out) (Kd.zea HO_5.out) (by decide)).1 k_ hs_.symm).1))) (fun hn_ => (.inr (Nat.le_trans (zB (by repeat (first | (with_reducible first | exact HB.out | apply ze | apply zb | apply zf) | exact HB.out))) hn_))), Or.elim hk_ (fun hs_ => ((Kd.zex (HO494.out) (Kd.zea HO_5.out) (by decide)).1 k_ hs_.symm).2) (fun hn_ => (Kd.fresh' (Kd.zik (by (with_reducible repeat (first | apply Kd.za8 | apply Kd.za7 | apply Kd.zbk)); exact HO_5.out)) k_ hn_))⟩)) (zB (by repeat (first | (with_reducible first | exact HB.out | apply ze | apply zb | apply zf) | exact HB.out)))); have n4_ := za.mk (zu (by repeat (first | (with_reducible first | exact HB.out | apply ze | apply zb | apply zf) | exact HB.out)) hb); clear HO_1; clear HO_5; clear HO494; clear HB; have HO_1 := n0_; have HO_5 := n1_; have HO494 := n2_; have HO497 := n3_; have HB := n4_; clear n0_ n1_ n2_ n3_ n4_; (try clear hb); (try clear hb2); (try clear hk); (try clear hi); (try clear ho0); obtain ⟨Ao20, co20, eo20⟩ := Kd.zde HO497.out; subst eo20) | ((with_reducible refine zba (b := .append) (xs := #[.tmp 22, .tmp 30]) rfl ?_); at_builtin; refine Kd.zfo (Kd.slice 3 (Kd.int .i64)) (w0 := w) w.heap.size rfl (.tmp 22) (.tmp 30) 60 23 (.slice none 0 0) 24 rfl Try.underlying60 zh1 rfl (by decide) (by omega) u5 x5_1 t495 _ _ _ (fun k_ => (P1_ k_ ∨ w.heap.size ≤ k_)) (fun k_ => ((fun k_ => (P1_ k_ ∨ w.heap.size ≤ k_))) k_ ∧ some k_ ≠ (u5 : Value).ownBlock) rfl rfl ?aO ?aR (fun _ hk => hk) ?aF ?aB ?aS ?aL ?_; (case aR => exact (by skip; exact Kd.N_F (Kd.zdi (ok' := (fun k_ => ((fun k_ => (P1_ k_ ∨ w.heap.size ≤ k_))) k_ ∧ some k_ ≠ (u5 : Value).ownBlock)) (HO497.out) (fun k_ hk => ⟨hk.1, hk.2⟩)))); (case aB => exact (by repeat (first | (with_reducible first | exact HB.out | apply ze | apply zb | apply zf) | exact HB.out))); (case aF => exact (fun k_ hk => (.inr (Nat.le_trans (zB (by repeat (first | (with_reducible first | exact HB.out | apply ze | apply zb | apply zf) | exact HB.out))) hk)))); (case aO => exact (by (with_reducible repeat (first | apply Kd.za8 | apply Kd.za7 | apply Kd.zbk)); exact Kd.zdi HO_5.out (fun _ hk => hk.1.1))); (case aS => exact (zB (by repeat (first | (with_reducible first | exact HB.out | apply ze | apply zb | apply zf) | exact HB.out)))); (case aL => have := LMc12.out; omega); intro v499 w19 ho hb hg hat; rw [← Ny498.out] at ho; have n0_ := za.mk (Kd.zez (ok := (fun k_ => (P1_ k_ ∨ w.heap.size ≤ k_) ∧ some k_ ≠ (.slice Ao17 y492.length co17 : Value).ownBlock ∧ some k_ ≠ (.slice Ao20 t495.length co20 : Value).ownBlock)) (by (with_reducible repeat (first | apply Kd.zb8 | apply Kd.zb7 | apply Kd.zcm)); exact Kd.zdA HO_1.out (fun _ hk => ⟨⟨hk.1.1.1, ⟨hk.1.2, hk.2⟩⟩, hk.1.1.2⟩)) hg hat); have n1_ := za.mk (Kd.zhW (by (with_reducible repeat (first | apply Kd.zJ | apply Kd.zI | apply Kd.zS)); exact HO494.out) (Kd.zea (by (with_reducible repeat (first | apply Kd.za8 | apply Kd.za7 | apply Kd.zbk)); exact HO_5.out)) (by decide) hg); have n2_ := za.mk (Kd.zeA (ok := (fun k_ => (P1_ k_ ∨ w.heap.size ≤ k_))) (by (with_reducible repeat (first | apply Kd.za8 | apply Kd.za7 | apply Kd.zbk)); exact HO497.out) hg hat); have n3_ := za.mk (hb); have n4_ := za.mk (ho); clear HO_1; clear HO494; clear HO497; clear HB; clear HO_5; have HO_1 := n0_; have HO494 := n1_; have HO497 := n2_; have HB := n3_; have HO500 := n4_; clear n0_ n1_ n2_ n3_ n4_; clear ho hb hg hat))
         go_roundg k1
         case measure => have := HK1.out; omega
         case rel => exact ⟨(y498), (wrap64 (x6_1 + 1)), (by first | rfl | (simp; done) | (simp [*]; done)), H', ⟨by have := HK1.out; omega⟩, ⟨by (with_reducible repeat (first | apply Kd.zb8 | apply Kd.zb7 | apply Kd.zcm)); exact Kd.zdA HO_1.out (fun _ hk => ⟨hk.1.1, hk.2⟩)⟩, ⟨by (with_reducible repeat (first | apply Kd.za8 | apply Kd.za7 | apply Kd.zbk)); exact HO500.out⟩, ⟨by repeat (first | (with_reducible first | exact HB.out | apply ze | apply zb | apply zf) | exact HB.out)⟩⟩
        ·rw [if_neg c12] at H
         exact absurd H (by simp)
       ·rw [if_neg c10] at H
        exact absurd H (by simp)
      ·rw [if_neg c9] at H
       exact absurd H (by simp)
     ·rw [if_neg c8] at H
      have c8b0 : decide (t485 < 0) = false := decide_eq_false c8
      clear c8
      have H' := za.mk H
      clear H
      go_wp2_with (first | ((with_reducible refine zC (f := 80) rfl ?_); refine zW (some 20) rfl rfl Try.func80 (by kernel_rfl) rfl #[.slice A1 l1.length c1, .int .i64 x6_1] rfl (by (try simp only [List.map_toArray, List.map_cons, List.map_nil]); first | done | rfl | (simp only [List.length_drop, List.length_take]; rfl)) ?_; (with_reducible refine (zat.calls k1 _ _ l1 x6_1 t485 _ ?side1 ?side2 A7.out).mono ?_); (case side1 => repeat (first | exact (Kd.zcI HO_1.out).2.2 | (with_reducible refine Kd.zZ ?_ _) | (with_reducible refine Kd.z8 ?_ _) | (with_reducible refine Kd.zal ?_))); (case side2 => exact (Kd.zcI HO_1.out).2.1); rintro e w' ⟨rfl, ⟨nd, rfl⟩⟩; refine ⟨_, rfl, ?_⟩))
      go_roundg k1
      case measure => have := HK1.out; omega
      case rel => exact ⟨(x5_1), (wrap64 (x6_1 + 1)), (by first | rfl | (simp; done) | (simp [*]; done)), H', ⟨by have := HK1.out; omega⟩, ⟨by (with_reducible repeat (first | apply Kd.zb8 | apply Kd.zb7 | apply Kd.zcm)); exact HO_1.out⟩, ⟨by (with_reducible repeat (first | apply Kd.za8 | apply Kd.za7 | apply Kd.zbk)); exact HO_5.out⟩, ⟨by repeat (first | (with_reducible first | exact HB.out | apply ze | apply zb | apply zf) | exact HB.out)⟩⟩
    ·rw [if_neg c6] at H
     have c6b0 : decide (x6_1 < a0) = false := decide_eq_false c6
     clear c6
     obtain rfl := Option.some.inj H
     go_wp2
     go_ret
     exact ⟨_, by first | rfl | (simp [zx, zy] <;> rfl) | (simp [*, zx, zy] <;> rfl), by (with_reducible repeat (first | apply Kd.za8 | apply Kd.za7 | apply Kd.zbk)); exact HO_5.out, by repeat (first | (with_reducible first | exact HB.out | apply ze | apply zb | apply zf) | exact HB.out)⟩
theorem zdq (op : BinOp) (x y : Int) : 0 ≤ bits op .u64 x y := by
 have h : ∀ n : Int, 0 ≤ IntKind.u64.wrap n := fun n => by
  simp only [IntKind.wrap, IntKind.bits, IntKind.signed, Bool.false_and]
  simp only [Bool.false_eq_true, if_false]
  omega
 unfold bits
 split <;> first | exact h _ | exact Int.le_refl _ | omega
theorem zim (l : List Int) (s1 s2 : Int) (h1 : 0 ≤ s1) (hl : l.length ≤ 17592186044416) : ∃ r t1 t2, zaZ.f l s1 s2 = some (r, t1, t2) ∧ 0 ≤ r ∧ 0 ≤ t1 := by
 unfold zaZ.f
 rw [if_pos ⟨h1, hl⟩]
 split
 ·exact ⟨_, _, _, rfl, zdq _ _ _, by omega⟩
 ·exact ⟨_, _, _, rfl, zdq _ _ _, h1⟩
theorem zeB (l : List Int) (s1 s2 : Int) (h1 : 0 ≤ s1) (hl : l.length ≤ 17592186044416) (n : Int) (h0 : 0 ≤ n) (hn : n ≤ 1000) : ∃ r t1 t2, zX.f l s1 s2 n = some (r, t1, t2) ∧ 0 ≤ r ∧ r ≤ n ∧ 0 ≤ t1 := by
 unfold zX.f
 by_cases hc : n < 1
 ·rw [if_pos hc]; exact ⟨0, s1, s2, rfl, Int.le_refl _, h0, h1⟩
 ·rw [if_neg hc]
  obtain ⟨r, t1, t2, hr, hr0, ht⟩ := zim l s1 s2 h1 hl
  have hw : IntKind.u64.wrap (wrap64 (n + 1)) = n + 1 := by
   have : wrap64 (n + 1) = n + 1 := by unfold wrap64; omega
   rw [this]
   simp only [IntKind.wrap, IntKind.bits, IntKind.signed, Bool.false_and]
   simp only [Bool.false_eq_true, if_false]
   omega
  rw [hr, Option.bind_some, hw, if_neg (by omega)]
  have hq : 0 ≤ r / 65536 := by omega
  have hm : Int.tmod (r / 65536) (n + 1) = (r / 65536) % (n + 1) := Int.tmod_eq_emod_of_nonneg hq
  have h2 := Int.emod_nonneg (r / 65536) (show n + 1 ≠ 0 by omega)
  have h3 := Int.emod_lt_of_pos (r / 65536) (show 0 < n + 1 by omega)
  refine ⟨_, t1, t2, rfl, ?_, ?_, ht⟩
  ·rw [hm]; unfold wrap64; omega
  ·rw [hm]; unfold wrap64; omega
theorem zh0 (l : List Int) (s1 s2 : Int) (h1 : 0 ≤ s1) (hl : l.length ≤ 17592186044416) (ws : List ByteArray) (hw : 0 < ws.length) (hw1 : ws.length ≤ 1000) : ∃ x t1 t2, zaW.f l s1 s2 ws = some (x, t1, t2) ∧ x ∈ ws ∧ 0 ≤ t1 := by
 unfold zaW.f
 have e : wrap64 ((ws.length : Int) - 1) = (ws.length : Int) - 1 := by unfold wrap64; omega
 obtain ⟨r, t1, t2, hr, h2, h3, h4⟩ := zeB l s1 s2 h1 hl ((ws.length : Int) - 1) (by omega) (by omega)
 rw [e, hr, Option.bind_some, if_pos h2, if_pos (by dsimp only; omega)]
 refine ⟨_, t1, t2, rfl, ?_, h4⟩
 have hlt : r.toNat < ws.length := by omega
 dsimp only
 simp only [zbn, List.getD_eq_getElem?_getD, List.getElem?_eq_getElem hlt, Option.getD_some]
 exact List.getElem_mem _
def zco : List ByteArray := [(⟨#[97]⟩ : ByteArray), (⟨#[98]⟩ : ByteArray), (⟨#[99]⟩ : ByteArray), (⟨#[97, 110, 32, 49]⟩ : ByteArray), (⟨#[98, 101, 110]⟩ : ByteArray), (⟨#[99, 121, 100, 32, 49, 50]⟩ : ByteArray)]
theorem ze2 (l : List Int) (s1 s2 : Int) (h1 : 0 ≤ s1) (hl : l.length ≤ 17592186044416) : ∃ x t1 t2, zaC.f l s1 s2 = some (x, t1, t2) ∧ x ∈ zco ∧ 0 ≤ t1 := by
 obtain ⟨x, t1, t2, h, hx, ht⟩ := zh0 l s1 s2 h1 hl zco (by decide) (by decide)
 unfold zaC.f
 refine ⟨x, t1, t2, ?_, hx, ht⟩
 exact (congrArg (fun o : Option (ByteArray × Int × Int) => o.bind fun bt198 => some (bt198.1, bt198.2.1, bt198.2.2)) h)
theorem zer (l : List Int) (hl : l.length ≤ 17592186044416) : ∀ (m k : Nat) (p : List ByteArray) (s1 s2 : Int), m < k → 0 ≤ s1 → p.length + m ≤ 1000 → (∀ x ∈ p, x ∈ zco) →
  ∃ q t1 t2, zN.l0 k p (m : Int) l s1 s2 = some (q, t1, t2) ∧ q.length = p.length + m ∧ (∀ x ∈ q, x ∈ zco) ∧ 0 ≤ t1
 | 0, k, p, s1, s2, hk, h1, hp, hw => by
  obtain ⟨k', rfl⟩ : ∃ k', k = k' + 1 := ⟨k - 1, by omega⟩
  rw [zN.l0, if_neg (by omega)]
  exact ⟨p, s1, s2, rfl, rfl, hw, h1⟩
 | m + 1, k, p, s1, s2, hk, h1, hp, hw => by
  obtain ⟨k', rfl⟩ : ∃ k', k = k' + 1 := ⟨k - 1, by omega⟩
  obtain ⟨x, t1, t2, hx, hxw, ht⟩ := ze2 l s1 s2 h1 hl
  have e : wrap64 (((m + 1 : Nat) : Int) - 1) = (m : Int) := by unfold wrap64; omega
  rw [zN.l0, if_pos (by omega), hx, Option.bind_some, if_pos (by omega), e]
  obtain ⟨q, u1, u2, h2, h3, h4, h5⟩ := zer l hl m k' (p ++ [x]) t1 t2 (by omega) ht (by rw [List.length_append, List.length_singleton]; omega) (fun y hy => by
   rcases List.mem_append.1 hy with hy | hy
   ·exact hw y hy
   ·rw [List.mem_singleton.1 hy]; exact hxw)
  exact ⟨q, u1, u2, h2, by rw [h3, List.length_append, List.length_singleton]; omega, h4, h5⟩
theorem zhJ (l : List Int) (s1 s2 : Int) (h1 : 0 ≤ s1) (hl : l.length ≤ 17592186044416) (n : Nat) (hn : n ≤ 100) (k : Nat) (hk : 200 ≤ k) : ∃ q t1 t2, zN.f k l s1 s2 (n : Int) = some (q, t1, t2) ∧ q.length ≤ n ∧ (∀ x ∈ q, x ∈ zco) ∧ 0 ≤ t1 := by
 obtain ⟨r, t1, t2, hr, h2, h3, h4⟩ := zeB l s1 s2 h1 hl n (by omega) (by omega)
 obtain ⟨m, rfl⟩ := Int.eq_ofNat_of_zero_le h2
 obtain ⟨q, u1, u2, h5, h6, h7, h8⟩ := zer l hl m k [] t1 t2 (by omega) h4 (by simp; omega) (by simp)
 unfold zN.f
 rw [hr, Option.bind_some]
 exact ⟨q, u1, u2, h5, by rw [h6]; simp; omega, h7, h8⟩
end Go.Proofs.Ytgmbbfmbimofoaa.P
