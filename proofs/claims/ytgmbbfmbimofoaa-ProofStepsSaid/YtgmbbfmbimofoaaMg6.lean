-- MERGED BY A PROGRAM out of texts of this claim: hand work, and what a (turned) print of the kit has written for it
import Derived.Test.YtgmbbfmbimofoaaMg5
namespace Go.Proofs.Ytgmbbfmbimofoaa.P
open Go.RowKit Go.Proofs.YtgmbbfmbimofoaaW.PrintWords Go.Proofs.YtgmbbfmbimofoaaW.PrintLast Go.Proofs.YtgmbbfmbimofoaaW.PrintMore
attribute [local go_sem] zI zJ zP zO zH zG zM zK
set_option linter.unusedVariables false
set_option linter.unusedSimpArgs false
mutual
def zw.l0 : Nat → Int → Int → List (S63) → Int → List Int → Int → Int → Option ((List (S63)) × Int × Int)
 | 0, _, _, _, _, _, _, _ => none
 | k + 1, x1, x2, x7, x8, x1000, x1001, x1002 => if x8 ≤ x1 then (zw.l1 k x1 x2 x7 x8 x1000 x1001 x1002) else (some (x7, x1001, x1002))
def zw.j2 : Nat → Int → Int → List (S63) → Int → List Int → Int → Int → Option ((List (S63)) × Int × Int)
 | 0, _, _, _, _, _, _, _ => none
 | k + 1, x1, x2, x7, x8, x1000, x1001, x1002 => if x8 = x1 then (zw.j3 k x1 x2 x7 x8 true x1000 x1001 x1002) else (zw.j3 k x1 x2 x7 x8 ((x7.length : Int) == x2) x1000 x1001 x1002)
def zw.j3 : Nat → Int → Int → List (S63) → Int → Bool → List Int → Int → Int → Option ((List (S63)) × Int × Int)
 | 0, _, _, _, _, _, _, _, _ => none
 | k + 1, x1, x2, x7, x8, x37, x1000, x1001, x1002 => if x37 = true then (zw.l0 k x1 x2 x7 (wrap64 (x8 + 1)) x1000 x1001 x1002) else ((zak.f x1000 x1001 x1002 4).bind fun bt260 => (if bt260.1 = 0 then ((zaG.f x1000 bt260.2.1 bt260.2.2).bind fun bt263 => (if x7.length < 4398046511104 then (zw.l0 k x1 x2 (x7 ++ [(⟨2, x8, bt263.1⟩ : S63)]) (wrap64 (x8 + 1)) x1000 bt263.2.1 bt263.2.2) else (none))) else (if bt260.1 = 1 then (if x7.length < 4398046511104 then (zw.l0 k x1 x2 (x7 ++ [(⟨3, x8, (⟨#[]⟩ : ByteArray)⟩ : S63)]) (wrap64 (x8 + 1)) x1000 bt260.2.1 bt260.2.2) else (none)) else (zw.l0 k x1 x2 x7 (wrap64 (x8 + 1)) x1000 bt260.2.1 bt260.2.2))))
def zw.l1 : Nat → Int → Int → List (S63) → Int → List Int → Int → Int → Option ((List (S63)) × Int × Int)
 | 0, _, _, _, _, _, _, _ => none
 | k + 1, x1, x2, x7, x8, x1000, x1001, x1002 => (zaX.f x1000 x1001 x1002 4).bind fun bt251 => (if bt251.1 = true then (if (x7.length : Int) < x2 then ((zaG.f x1000 bt251.2.1 bt251.2.2).bind fun bt254 => (if x7.length < 4398046511104 then (zw.l1 k x1 x2 (x7 ++ [(⟨1, x8, bt254.1⟩ : S63)]) x8 x1000 bt254.2.1 bt254.2.2) else (none))) else (zw.j2 k x1 x2 x7 x8 x1000 bt251.2.1 bt251.2.2)) else (zw.j2 k x1 x2 x7 x8 x1000 bt251.2.1 bt251.2.2))
end
def zw.f (k : Nat) (s0_0 : List Int) (s0_1 : Int) (s0_2 : Int) (a1 : Int) (a2 : Int) : Option ((List (S63)) × Int × Int) := zw.l0 k a1 a2 ([] : List (S63)) 0 s0_0 s0_1 s0_2
set_option maxHeartbeats 8000000 in
set_option maxRecDepth 100000 in
theorem zw.calls (k : Nat) (g : Nat) (s0_0 : List Int) (s0_1 : Int) (s0_2 : Int) (a1 : Int) (a2 : Int) (r1 : List (S63)) (r2 : Int) (r3 : Int) (w0 w : World) (hI : zq w0 w g s0_0 s0_1 s0_2) (hB : Below w0.heap.size w0 w) (h : zw.f k s0_0 s0_1 s0_2 a1 a2 = some (r1, r2, r3)) :
  Calls Try.prog 27 #[.pointer (some ⟨g, 0, none⟩), .int .i64 a1, .int .i64 a2] w fun e w' => ∃ v0_ : Value, e = .returned (v0_) ∧ Kd.R k63 63 w' w.heap.size (fun _ => True) v0_ r1 ∧ zq w0 w' g s0_0 r2 r3 ∧ Below w0.heap.size w0 w' ∧ zz w w' g none := by
 have hu63 := Try.underlying63
 have HI0 := za.mk hI
 have HK := za.mk (zz.refl w g none)
 have HL := za.mk hB.size
 clear hI
 have HW0 := za.mk hB.size
 have HB := za.mk hB
 clear hB
 have H : (zw.l0 k a1 a2 ([] : List (S63)) 0 s0_0 s0_1 s0_2) = some (r1, r2, r3) := h
 clear h
 have H' := za.mk H
 clear H
 go_enter Try.func27, Try.ntmps27
 go_wp2
 go_loopg [7, 8] k (fun kq v7 v8 w' => ∃ (x7_1 : List (S63)) (x8_1 : Int) (x1001_1 : Int) (x1002_1 : Int), v8 = .int .i64 x8_1 ∧ za (zw.l0 kq a1 a2 x7_1 x8_1 s0_0 x1001_1 x1002_1 = some (r1, r2, r3)) ∧ za (kq ≤ k) ∧ za (Kd.R k63 63 w' w.heap.size (fun _ => True) v7 x7_1) ∧ za (zq w0 w' g s0_0 x1001_1 x1002_1) ∧ za (zz w w' g none) ∧ za (Below w0.heap.size w0 w'))
 case atStart => exact ⟨(([] : List (S63))), (0), (s0_1), (s0_2), (by first | rfl | (simp; done) | (simp [*]; done)), H', ⟨Nat.le_refl _⟩, ⟨by first | exact Kd.zbp _ _ _ _ _ | exact Kd.zcD _ _ _ _ _ | exact Kd.zcC _ _ _ _ _ | exact Kd.zcB _ _ _ _ _ | exact Kd.zcE _ _ _ _ _⟩, ⟨by repeat (first | (with_reducible first | exact HI0.out | apply zq.alloc | apply zq.drewN | apply zq.drew | apply zq.zaN | apply zq.zaO) | exact HI0.out)⟩, ⟨by repeat (first | (with_reducible first | exact HK.out | apply zz.zaW | apply zaa | apply zac | apply z8) | exact HK.out)⟩, ⟨by repeat (first | (with_reducible first | exact HB.out | apply ze | apply zb | apply zf | refine zi ?_ (zq.ge HI0.out)) | exact HB.out)⟩⟩
 case round =>
  clear H'
  try clear c2
  try clear p2
  obtain ⟨x7_1, x8_1, x1001_1, x1002_1, rfl, HA, HK1, HO_7, HI0, HK, HB⟩ := hrel
  cases gk with
  | zero => exact absurd HA.out (by simp [zw.l0])
  | succ k1 =>
   have H := HA.out
   clear HA
   simp only [zw.l0] at H
   by_cases c4 : x8_1 ≤ a1
   ·rw [if_pos c4] at H
    have c4b0 : decide (x8_1 ≤ a1) = true := decide_eq_true c4
    clear c4
    have HC5 := za.mk H
    clear H
    go_upto_block 2 with (fail)
    go_cut [7] (fun v7 wc => ∃ (kq : Nat) (x7_4 : List (S63)) (x1001_4 : Int) (x1002_4 : Int), za (zw.j2 kq a1 a2 x7_4 x8_1 s0_0 x1001_4 x1002_4 = some (r1, r2, r3)) ∧ za (kq ≤ k1) ∧ za (Kd.R k63 63 wc w.heap.size (fun _ => True) v7 x7_4) ∧ za (zq w0 wc g s0_0 x1001_4 x1002_4) ∧ za (zz w wc g none) ∧ za (Below w0.heap.size w0 wc))
    case first =>
     have H := HC5.out
     clear HC5
     have H' := za.mk H
     clear H
     go_wp2
     go_loopg [7] k1 (fun kq v7 w' => ∃ (x7_2 : List (S63)) (x1001_2 : Int) (x1002_2 : Int), za (zw.l1 kq a1 a2 x7_2 x8_1 s0_0 x1001_2 x1002_2 = some (r1, r2, r3)) ∧ za (kq ≤ k1) ∧ za (Kd.R k63 63 w' w.heap.size (fun _ => True) v7 x7_2) ∧ za (zq w0 w' g s0_0 x1001_2 x1002_2) ∧ za (zz w w' g none) ∧ za (Below w0.heap.size w0 w'))
     case atStart => exact ⟨(x7_1), (x1001_1), (x1002_1), H', ⟨Nat.le_refl _⟩, ⟨by (with_reducible repeat (first | apply Kd.zah | apply Kd.zaf | apply Kd.zau)); exact HO_7.out⟩, ⟨by repeat (first | (with_reducible first | exact HI0.out | apply zq.alloc | apply zq.drewN | apply zq.drew | apply zq.zaN | apply zq.zaO) | exact HI0.out)⟩, ⟨by repeat (first | (with_reducible first | exact HK.out | apply zz.zaW | apply zaa | apply zac | apply z8) | exact HK.out)⟩, ⟨by repeat (first | (with_reducible first | exact HB.out | apply ze | apply zb | apply zf | refine zi ?_ (zq.ge HI0.out)) | exact HB.out)⟩⟩
     case round =>
      clear H'
      try clear c2
      try clear p2
      try clear c4
      try clear c4b0
      try clear p2
      obtain ⟨x7_2, x1001_2, x1002_2, HA, HK2, HO_7, HI0, HK, HB⟩ := hrel
      cases gk with
      | zero => exact absurd HA.out (by simp [zw.l1])
      | succ k2 =>
       have H := HA.out
       clear HA
       simp only [zw.l1] at H
       replace H := Option.bind_eq_some_iff.mp H
       obtain ⟨⟨t251, t252, t253⟩, A60, H⟩ := H
       replace H : (if t251 = true then (if (x7_2.length : Int) < a2 then ((zaG.f s0_0 t252 t253).bind fun bt254 => (if x7_2.length < 4398046511104 then (zw.l1 k2 a1 a2 (x7_2 ++ [(⟨1, x8_1, bt254.1⟩ : S63)]) x8_1 s0_0 bt254.2.1 bt254.2.2) else (none))) else (zw.j2 k2 a1 a2 x7_2 x8_1 s0_0 t252 t253)) else (zw.j2 k2 a1 a2 x7_2 x8_1 s0_0 t252 t253)) = some (r1, r2, r3) := H
       have A6 := za.mk A60
       clear A60
       by_cases c7 : t251 = true
       ·subst c7
        have H1 : (if (x7_2.length : Int) < a2 then ((zaG.f s0_0 t252 t253).bind fun bt254 => (if x7_2.length < 4398046511104 then (zw.l1 k2 a1 a2 (x7_2 ++ [(⟨1, x8_1, bt254.1⟩ : S63)]) x8_1 s0_0 bt254.2.1 bt254.2.2) else (none))) else (zw.j2 k2 a1 a2 x7_2 x8_1 s0_0 t252 t253)) = some (r1, r2, r3) := by rw [if_pos rfl] at H; exact H
        clear H
        have H := H1
        clear H1
        by_cases c8 : (x7_2.length : Int) < a2
        ·rw [if_pos c8] at H
         have c8b0 : decide ((x7_2.length : Int) < a2) = true := decide_eq_true c8
         clear c8
         (first | rw [c8b0] | (simp only [zW, zab]; rw [c8b0]) | skip)
         replace H := Option.bind_eq_some_iff.mp H
         obtain ⟨⟨t254, t255, t256⟩, A90, H⟩ := H
         replace H : (if x7_2.length < 4398046511104 then (zw.l1 k2 a1 a2 (x7_2 ++ [(⟨1, x8_1, t254⟩ : S63)]) x8_1 s0_0 t255 t256) else (none)) = some (r1, r2, r3) := H
         have A9 := za.mk A90
         clear A90
         by_cases c10 : x7_2.length < 4398046511104
         ·rw [if_pos c10] at H
          have LMc10 := za.mk c10
          clear c10
          obtain ⟨y257, hy257⟩ : ∃ y_ : List (S63), y_ = (x7_2 ++ [(⟨1, x8_1, t254⟩ : S63)]) := ⟨_, rfl⟩
          replace H : (zw.l1 k2 a1 a2 y257 x8_1 s0_0 t255 t256) = some (r1, r2, r3) := by first | (rw [hy257]; with_reducible exact H) | (have H2_ := (Option.bind_some _ _).symm.trans H; rw [hy257]; with_reducible exact H2_) | (have H2_ := (Option.bind_some _ _).symm.trans H; with_reducible exact H2_) | with_reducible exact H | (rw [hy257]; exact H) | exact H
          have Ny257 := za.mk hy257
          clear hy257
          have H' := za.mk H
          clear H
          go_wp2_with (first | ((with_reducible refine zB (f := 49) rfl ?_); refine zS (some 15) rfl rfl Try.func49 (by kernel_rfl) rfl #[.pointer (some ⟨g, 0, none⟩), .int .i64 4] rfl (by (try simp only [List.map_toArray, List.map_cons, List.map_nil]); first | done | rfl | (simp only [List.length_drop, List.length_take]; rfl)) ?_; (with_reducible refine (zaX.calls g s0_0 x1001_2 x1002_2 4 true t252 t253 w0 _ ?side1 ?side2 A6.out).mono ?_); (case side1 => repeat (first | (with_reducible first | exact HI0.out | apply zq.alloc | apply zq.drewN | apply zq.drew | apply zq.zaN | apply zq.zaO) | exact HI0.out)); (case side2 => repeat (first | (with_reducible first | exact HB.out | apply ze | apply zb | apply zf | refine zi ?_ (zq.ge HI0.out)) | exact HB.out)); rintro e w11 ⟨rfl, hi, hb, hk⟩; refine ⟨_, rfl, ?_⟩; have n0_ := za.mk (Kd.zaP (Kd.zcx (zq.apart (show zq w0 _ g s0_0 x1001_2 x1002_2 from by repeat (first | (with_reducible first | exact HI0.out | apply zq.alloc | apply zq.drewN | apply zq.drew | apply zq.zaN | apply zq.zaO) | exact HI0.out)) (by (with_reducible repeat (first | apply Kd.zah | apply Kd.zaf | apply Kd.zau)); exact HO_7.out) (by decide)) hk (fun _ h => h.2)) (fun _ h => h.1)); have n1_ := za.mk (zz.trans (by repeat (first | (with_reducible first | exact HK.out | apply zz.zaW | apply zaa | apply zac | apply z8) | exact HK.out)) hk (.inl rfl)); have n2_ := za.mk (hb); have n3_ := za.mk (hi); clear HO_7; clear HK; clear HB; clear HI0; have HO_7 := n0_; have HK := n1_; have HB := n2_; have HI0 := n3_; clear n0_ n1_ n2_ n3_; (try clear hb); (try clear hb2); (try clear hk); (try clear hi); obtain ⟨Ao12, co12, eo12⟩ := Kd.zbq HO_7.out; subst eo12) | ((with_reducible refine zB (f := 35) rfl ?_); refine zS (some 25) rfl rfl Try.func35 (by kernel_rfl) rfl #[.pointer (some ⟨g, 0, none⟩)] rfl (by (try simp only [List.map_toArray, List.map_cons, List.map_nil]); first | done | rfl | (simp only [List.length_drop, List.length_take]; rfl)) ?_; (with_reducible refine (zaG.calls g s0_0 t252 t253 t254 t255 t256 w0 _ ?side1 ?side2 A9.out).mono ?_); (case side1 => repeat (first | (with_reducible first | exact HI0.out | apply zq.alloc | apply zq.drewN | apply zq.drew | apply zq.zaN | apply zq.zaO) | exact HI0.out)); (case side2 => repeat (first | (with_reducible first | exact HB.out | apply ze | apply zb | apply zf | refine zi ?_ (zq.ge HI0.out)) | exact HB.out)); rintro e w13 ⟨rfl, hi, hb, hk⟩; refine ⟨_, rfl, ?_⟩; have n0_ := za.mk (Kd.zaP (Kd.zcx (zq.apart (show zq w0 _ g s0_0 t252 t253 from by repeat (first | (with_reducible first | exact HI0.out | apply zq.alloc | apply zq.drewN | apply zq.drew | apply zq.zaN | apply zq.zaO) | exact HI0.out)) (by (with_reducible repeat (first | apply Kd.zah | apply Kd.zaf | apply Kd.zau)); exact HO_7.out) (by decide)) hk (fun _ h => h.2)) (fun _ h => h.1)); have n1_ := za.mk (zz.trans (by repeat (first | (with_reducible first | exact HK.out | apply zz.zaW | apply zaa | apply zac | apply z8) | exact HK.out)) hk (.inl rfl)); have n2_ := za.mk (hb); have n3_ := za.mk (hi); clear HO_7; clear HK; clear HB; clear HI0; have HO_7 := n0_; have HK := n1_; have HB := n2_; have HI0 := n3_; clear n0_ n1_ n2_ n3_; (try clear hb); (try clear hb2); (try clear hk); (try clear hi)) | ((with_reducible refine zbo (b := .append) (xs := #[.tmp 22, .tmp 27]) rfl ?_); (try (refine zdS (by rfl) ?_; dsimp only)); at_builtin; refine Kd.zch k63 w.heap.size rfl (.tmp 22) (.tmp 27) 31 63 (.agg #[(.int .i64 0), (.int .i64 0), (.string ⟨#[]⟩)]) 32 rfl Try.underlying31 zcy rfl (by decide) (by omega) (.slice Ao12 x7_2.length co12) x7_2 (⟨1, x8_1, t254⟩ : S63) [.int .i64 1, .int .i64 x8_1, .string t254] (fun _ => True) (fun _ => False) rfl rfl ?aP (fun _ hk => hk.elim) ?aF ?aO (Below.refl _ _) ?aS ?aL ?_; (case aP => exact zcb _ _ _ (⟨1, x8_1, t254⟩ : S63)); (case aF => exact (fun _ _ => trivial)); (case aO => exact (by (with_reducible repeat (first | apply Kd.zah | apply Kd.zaf | apply Kd.zau)); exact HO_7.out)); (case aS => exact (zc6 (w := w) (g := g) (row := none) (by repeat (first | (with_reducible first | exact HK.out | apply zz.zaW | apply zaa | apply zac | apply z8) | exact HK.out)))); (case aL => have := LMc10.out; omega); intro v258 w14 ho hb hg hat; rw [← Ny257.out] at ho; have n0_ := za.mk (zq.grown (by repeat (first | (with_reducible first | exact HI0.out | apply zq.alloc | apply zq.drewN | apply zq.drew | apply zq.zaN | apply zq.zaO) | exact HI0.out)) hg (zq.own_ne HI0.out HO_7.out (by decide))); have n1_ := za.mk (zbM (by repeat (first | (with_reducible first | exact HB.out | apply ze | apply zb | apply zf | refine zi ?_ (zq.ge HI0.out)) | exact HB.out)) HL.out hb); have n2_ := za.mk (zz.trans (by repeat (first | (with_reducible first | exact HK.out | apply zz.zaW | apply zaa | apply zac | apply z8) | exact HK.out)) (zz.zdp hg g) (Kd.zef HO_7.out)); have n3_ := za.mk (ho); clear HI0; clear HB; clear HK; clear HO_7; have HI0 := n0_; have HB := n1_; have HK := n2_; have HO259 := n3_; clear n0_ n1_ n2_ n3_; clear ho hb hg hat))
          go_roundg k2
          case measure => have := HK1.out; have := HK2.out; omega
          case rel => exact ⟨(y257), (t255), (t256), H', ⟨by have := HK1.out; have := HK2.out; omega⟩, ⟨by (with_reducible repeat (first | apply Kd.zah | apply Kd.zaf | apply Kd.zau)); exact HO259.out⟩, ⟨by repeat (first | (with_reducible first | exact HI0.out | apply zq.alloc | apply zq.drewN | apply zq.drew | apply zq.zaN | apply zq.zaO) | exact HI0.out)⟩, ⟨by repeat (first | (with_reducible first | exact HK.out | apply zz.zaW | apply zaa | apply zac | apply z8) | exact HK.out)⟩, ⟨by repeat (first | (with_reducible first | exact HB.out | apply ze | apply zb | apply zf | refine zi ?_ (zq.ge HI0.out)) | exact HB.out)⟩⟩
         ·rw [if_neg c10] at H
          exact absurd H (by simp)
        ·rw [if_neg c8] at H
         have c8b0 : decide ((x7_2.length : Int) < a2) = false := decide_eq_false c8
         clear c8
         (first | rw [c8b0] | (simp only [zW, zab]; rw [c8b0]) | skip)
         have H' := za.mk H
         clear H
         go_wp2_with (first | ((with_reducible refine zB (f := 49) rfl ?_); refine zS (some 15) rfl rfl Try.func49 (by kernel_rfl) rfl #[.pointer (some ⟨g, 0, none⟩), .int .i64 4] rfl (by (try simp only [List.map_toArray, List.map_cons, List.map_nil]); first | done | rfl | (simp only [List.length_drop, List.length_take]; rfl)) ?_; (with_reducible refine (zaX.calls g s0_0 x1001_2 x1002_2 4 true t252 t253 w0 _ ?side1 ?side2 A6.out).mono ?_); (case side1 => repeat (first | (with_reducible first | exact HI0.out | apply zq.alloc | apply zq.drewN | apply zq.drew | apply zq.zaN | apply zq.zaO) | exact HI0.out)); (case side2 => repeat (first | (with_reducible first | exact HB.out | apply ze | apply zb | apply zf | refine zi ?_ (zq.ge HI0.out)) | exact HB.out)); rintro e w15 ⟨rfl, hi, hb, hk⟩; refine ⟨_, rfl, ?_⟩; have n0_ := za.mk (Kd.zaP (Kd.zcx (zq.apart (show zq w0 _ g s0_0 x1001_2 x1002_2 from by repeat (first | (with_reducible first | exact HI0.out | apply zq.alloc | apply zq.drewN | apply zq.drew | apply zq.zaN | apply zq.zaO) | exact HI0.out)) (by (with_reducible repeat (first | apply Kd.zah | apply Kd.zaf | apply Kd.zau)); exact HO_7.out) (by decide)) hk (fun _ h => h.2)) (fun _ h => h.1)); have n1_ := za.mk (zz.trans (by repeat (first | (with_reducible first | exact HK.out | apply zz.zaW | apply zaa | apply zac | apply z8) | exact HK.out)) hk (.inl rfl)); have n2_ := za.mk (hb); have n3_ := za.mk (hi); clear HO_7; clear HK; clear HB; clear HI0; have HO_7 := n0_; have HK := n1_; have HB := n2_; have HI0 := n3_; clear n0_ n1_ n2_ n3_; (try clear hb); (try clear hb2); (try clear hk); (try clear hi); obtain ⟨Ao16, co16, eo16⟩ := Kd.zbq HO_7.out; subst eo16))
         go_meet
         case rel => exact ⟨_, (x7_2), (t252), (t253), H', ⟨by have := HK1.out; have := HK2.out; first | omega | exact Nat.le_refl _⟩, ⟨by (with_reducible repeat (first | apply Kd.zah | apply Kd.zaf | apply Kd.zau)); exact HO_7.out⟩, ⟨by repeat (first | (with_reducible first | exact HI0.out | apply zq.alloc | apply zq.drewN | apply zq.drew | apply zq.zaN | apply zq.zaO) | exact HI0.out)⟩, ⟨by repeat (first | (with_reducible first | exact HK.out | apply zz.zaW | apply zaa | apply zac | apply z8) | exact HK.out)⟩, ⟨by repeat (first | (with_reducible first | exact HB.out | apply ze | apply zb | apply zf | refine zi ?_ (zq.ge HI0.out)) | exact HB.out)⟩⟩
       ·replace c7 := Bool.eq_false_iff.mpr c7
        subst c7
        have H1 : (zw.j2 k2 a1 a2 x7_2 x8_1 s0_0 t252 t253) = some (r1, r2, r3) := by rw [if_neg (show ¬ (false = true) by decide)] at H; exact H
        clear H
        have H := H1
        clear H1
        have H' := za.mk H
        clear H
        go_wp2_with (first | ((with_reducible refine zB (f := 49) rfl ?_); refine zS (some 15) rfl rfl Try.func49 (by kernel_rfl) rfl #[.pointer (some ⟨g, 0, none⟩), .int .i64 4] rfl (by (try simp only [List.map_toArray, List.map_cons, List.map_nil]); first | done | rfl | (simp only [List.length_drop, List.length_take]; rfl)) ?_; (with_reducible refine (zaX.calls g s0_0 x1001_2 x1002_2 4 false t252 t253 w0 _ ?side1 ?side2 A6.out).mono ?_); (case side1 => repeat (first | (with_reducible first | exact HI0.out | apply zq.alloc | apply zq.drewN | apply zq.drew | apply zq.zaN | apply zq.zaO) | exact HI0.out)); (case side2 => repeat (first | (with_reducible first | exact HB.out | apply ze | apply zb | apply zf | refine zi ?_ (zq.ge HI0.out)) | exact HB.out)); rintro e w17 ⟨rfl, hi, hb, hk⟩; refine ⟨_, rfl, ?_⟩; have n0_ := za.mk (Kd.zaP (Kd.zcx (zq.apart (show zq w0 _ g s0_0 x1001_2 x1002_2 from by repeat (first | (with_reducible first | exact HI0.out | apply zq.alloc | apply zq.drewN | apply zq.drew | apply zq.zaN | apply zq.zaO) | exact HI0.out)) (by (with_reducible repeat (first | apply Kd.zah | apply Kd.zaf | apply Kd.zau)); exact HO_7.out) (by decide)) hk (fun _ h => h.2)) (fun _ h => h.1)); have n1_ := za.mk (zz.trans (by repeat (first | (with_reducible first | exact HK.out | apply zz.zaW | apply zaa | apply zac | apply z8) | exact HK.out)) hk (.inl rfl)); have n2_ := za.mk (hb); have n3_ := za.mk (hi); clear HO_7; clear HK; clear HB; clear HI0; have HO_7 := n0_; have HK := n1_; have HB := n2_; have HI0 := n3_; clear n0_ n1_ n2_ n3_; (try clear hb); (try clear hb2); (try clear hk); (try clear hi)))
        go_meet
        case rel => exact ⟨_, (x7_2), (t252), (t253), H', ⟨by have := HK1.out; have := HK2.out; first | omega | exact Nat.le_refl _⟩, ⟨by (with_reducible repeat (first | apply Kd.zah | apply Kd.zaf | apply Kd.zau)); exact HO_7.out⟩, ⟨by repeat (first | (with_reducible first | exact HI0.out | apply zq.alloc | apply zq.drewN | apply zq.drew | apply zq.zaN | apply zq.zaO) | exact HI0.out)⟩, ⟨by repeat (first | (with_reducible first | exact HK.out | apply zz.zaW | apply zaa | apply zac | apply z8) | exact HK.out)⟩, ⟨by repeat (first | (with_reducible first | exact HB.out | apply ze | apply zb | apply zf | refine zi ?_ (zq.ge HI0.out)) | exact HB.out)⟩⟩
    case rest =>
     clear HC5
     try clear c1
     try clear c2
     try clear p2
     try clear c3
     try clear c4
     try clear c4b0
     try clear c7
     try clear c8
     try clear c8b0
     try clear c10
     try clear p2
     obtain ⟨kq, x7_4, x1001_4, x1002_4, HA, HJ4, HO_7, HI0, HK, HB⟩ := hcut
     cases kq with
     | zero => exact absurd HA.out (by simp [zw.j2])
     | succ kj4 =>
      have H := HA.out
      clear HA
      simp only [zw.j2] at H
      have HC18 := za.mk H
      clear H
      go_upto_region 7 with (fail)
      go_cut [37] (fun v37 wc => ∃ (kq : Nat) (x37_17 : Bool), v37 = .bool x37_17 ∧ za (zw.j3 kq a1 a2 x7_4 x8_1 x37_17 s0_0 x1001_4 x1002_4 = some (r1, r2, r3)) ∧ za (kq ≤ kj4) ∧ za (Kd.R k63 63 wc w.heap.size (fun _ => True) u7 x7_4) ∧ za (zq w0 wc g s0_0 x1001_4 x1002_4) ∧ za (zz w wc g none) ∧ za (Below w0.heap.size w0 wc))
      case first =>
       have H := HC18.out
       clear HC18
       by_cases c19 : x8_1 = a1
       ·rw [if_pos c19] at H
        have c19b0 : (x8_1 == a1) = true := beq_iff_eq.mpr c19
        have c19b1 : (x8_1 != a1) = false := bne_eq_false_iff_eq.mpr c19
        clear c19
        (first | rw [c19b0] | (simp only [zW, zab]; rw [c19b0]) | skip)
        have H' := za.mk H
        clear H
        go_wp2
        go_meet
        case rel => exact ⟨_, (true), (by first | rfl | (simp; done) | (simp [*]; done)), H', ⟨by have := HK1.out; have := HJ4.out; first | omega | exact Nat.le_refl _⟩, ⟨by (with_reducible repeat (first | apply Kd.zah | apply Kd.zaf | apply Kd.zau)); exact HO_7.out⟩, ⟨by repeat (first | (with_reducible first | exact HI0.out | apply zq.alloc | apply zq.drewN | apply zq.drew | apply zq.zaN | apply zq.zaO) | exact HI0.out)⟩, ⟨by repeat (first | (with_reducible first | exact HK.out | apply zz.zaW | apply zaa | apply zac | apply z8) | exact HK.out)⟩, ⟨by repeat (first | (with_reducible first | exact HB.out | apply ze | apply zb | apply zf | refine zi ?_ (zq.ge HI0.out)) | exact HB.out)⟩⟩
       ·rw [if_neg c19] at H
        have c19b0 : (x8_1 == a1) = false := beq_eq_false_iff_ne.mpr c19
        have c19b1 : (x8_1 != a1) = true := bne_iff_ne.mpr c19
        (first | rw [c19b0] | (simp only [zW, zab]; rw [c19b0]) | skip)
        have H' := za.mk H
        clear H
        obtain ⟨Ao20, co20, eo20⟩ := Kd.zbq HO_7.out
        subst eo20
        go_wp2
        go_meet
        case rel => exact ⟨_, (((x7_4.length : Int) == a2)), (by first | rfl | (simp; done) | (simp [*]; done)), H', ⟨by have := HK1.out; have := HJ4.out; first | omega | exact Nat.le_refl _⟩, ⟨by (with_reducible repeat (first | apply Kd.zah | apply Kd.zaf | apply Kd.zau)); exact HO_7.out⟩, ⟨by repeat (first | (with_reducible first | exact HI0.out | apply zq.alloc | apply zq.drewN | apply zq.drew | apply zq.zaN | apply zq.zaO) | exact HI0.out)⟩, ⟨by repeat (first | (with_reducible first | exact HK.out | apply zz.zaW | apply zaa | apply zac | apply z8) | exact HK.out)⟩, ⟨by repeat (first | (with_reducible first | exact HB.out | apply ze | apply zb | apply zf | refine zi ?_ (zq.ge HI0.out)) | exact HB.out)⟩⟩
      case rest =>
       clear HC18
       try clear c1
       try clear c2
       try clear p2
       try clear c3
       try clear c4
       try clear c4b0
       try clear c7
       try clear c8
       try clear c8b0
       try clear c10
       try clear c19
       try clear c19b0
       try clear c19b1
       try clear p2
       obtain ⟨kq, x37_17, rfl, HA, HJ17, HO_7, HI0, HK, HB⟩ := hcut
       cases kq with
       | zero => exact absurd HA.out (by simp [zw.j3])
       | succ kj17 =>
        have H := HA.out
        clear HA
        simp only [zw.j3] at H
        by_cases c21 : x37_17 = true
        ·subst c21
         have H1 : (zw.l0 kj17 a1 a2 x7_4 (wrap64 (x8_1 + 1)) s0_0 x1001_4 x1002_4) = some (r1, r2, r3) := by rw [if_pos rfl] at H; exact H
         clear H
         have H := H1
         clear H1
         have H' := za.mk H
         clear H
         go_wp2
         go_roundg kj17
         case measure => have := HK1.out; have := HJ4.out; have := HJ17.out; omega
         case rel => exact ⟨(x7_4), (wrap64 (x8_1 + 1)), (x1001_4), (x1002_4), (by first | rfl | (simp; done) | (simp [*]; done)), H', ⟨by have := HK1.out; have := HJ4.out; have := HJ17.out; omega⟩, ⟨by (with_reducible repeat (first | apply Kd.zah | apply Kd.zaf | apply Kd.zau)); exact HO_7.out⟩, ⟨by repeat (first | (with_reducible first | exact HI0.out | apply zq.alloc | apply zq.drewN | apply zq.drew | apply zq.zaN | apply zq.zaO) | exact HI0.out)⟩, ⟨by repeat (first | (with_reducible first | exact HK.out | apply zz.zaW | apply zaa | apply zac | apply z8) | exact HK.out)⟩, ⟨by repeat (first | (with_reducible first | exact HB.out | apply ze | apply zb | apply zf | refine zi ?_ (zq.ge HI0.out)) | exact HB.out)⟩⟩
        ·replace c21 := Bool.eq_false_iff.mpr c21
         subst c21
         have H1 : ((zak.f s0_0 x1001_4 x1002_4 4).bind fun bt260 => (if bt260.1 = 0 then ((zaG.f s0_0 bt260.2.1 bt260.2.2).bind fun bt263 => (if x7_4.length < 4398046511104 then (zw.l0 kj17 a1 a2 (x7_4 ++ [(⟨2, x8_1, bt263.1⟩ : S63)]) (wrap64 (x8_1 + 1)) s0_0 bt263.2.1 bt263.2.2) else (none))) else (if bt260.1 = 1 then (if x7_4.length < 4398046511104 then (zw.l0 kj17 a1 a2 (x7_4 ++ [(⟨3, x8_1, (⟨#[]⟩ : ByteArray)⟩ : S63)]) (wrap64 (x8_1 + 1)) s0_0 bt260.2.1 bt260.2.2) else (none)) else (zw.l0 kj17 a1 a2 x7_4 (wrap64 (x8_1 + 1)) s0_0 bt260.2.1 bt260.2.2)))) = some (r1, r2, r3) := by rw [if_neg (show ¬ (false = true) by decide)] at H; exact H
         clear H
         have H := H1
         clear H1
         replace H := Option.bind_eq_some_iff.mp H
         obtain ⟨⟨t260, t261, t262⟩, A220, H⟩ := H
         replace H : (if t260 = 0 then ((zaG.f s0_0 t261 t262).bind fun bt263 => (if x7_4.length < 4398046511104 then (zw.l0 kj17 a1 a2 (x7_4 ++ [(⟨2, x8_1, bt263.1⟩ : S63)]) (wrap64 (x8_1 + 1)) s0_0 bt263.2.1 bt263.2.2) else (none))) else (if t260 = 1 then (if x7_4.length < 4398046511104 then (zw.l0 kj17 a1 a2 (x7_4 ++ [(⟨3, x8_1, (⟨#[]⟩ : ByteArray)⟩ : S63)]) (wrap64 (x8_1 + 1)) s0_0 t261 t262) else (none)) else (zw.l0 kj17 a1 a2 x7_4 (wrap64 (x8_1 + 1)) s0_0 t261 t262))) = some (r1, r2, r3) := H
         have A22 := za.mk A220
         clear A220
         by_cases c23 : t260 = 0
         ·rw [if_pos c23] at H
          have c23b0 : (t260 == 0) = true := beq_iff_eq.mpr c23
          have c23b1 : (t260 != 0) = false := bne_eq_false_iff_eq.mpr c23
          clear c23
          replace H := Option.bind_eq_some_iff.mp H
          obtain ⟨⟨t263, t264, t265⟩, A240, H⟩ := H
          replace H : (if x7_4.length < 4398046511104 then (zw.l0 kj17 a1 a2 (x7_4 ++ [(⟨2, x8_1, t263⟩ : S63)]) (wrap64 (x8_1 + 1)) s0_0 t264 t265) else (none)) = some (r1, r2, r3) := H
          have A24 := za.mk A240
          clear A240
          by_cases c25 : x7_4.length < 4398046511104
          ·rw [if_pos c25] at H
           have LMc25 := za.mk c25
           clear c25
           obtain ⟨y266, hy266⟩ : ∃ y_ : List (S63), y_ = (x7_4 ++ [(⟨2, x8_1, t263⟩ : S63)]) := ⟨_, rfl⟩
           replace H : (zw.l0 kj17 a1 a2 y266 (wrap64 (x8_1 + 1)) s0_0 t264 t265) = some (r1, r2, r3) := by first | (rw [hy266]; with_reducible exact H) | (have H2_ := (Option.bind_some _ _).symm.trans H; rw [hy266]; with_reducible exact H2_) | (have H2_ := (Option.bind_some _ _).symm.trans H; with_reducible exact H2_) | with_reducible exact H | (rw [hy266]; exact H) | exact H
           have Ny266 := za.mk hy266
           clear hy266
           have H' := za.mk H
           clear H
           go_wp2_with (first | ((with_reducible refine zB (f := 28) rfl ?_); refine zS (some 39) rfl rfl Try.func28 (by kernel_rfl) rfl #[.pointer (some ⟨g, 0, none⟩), .int .i64 4] rfl (by (try simp only [List.map_toArray, List.map_cons, List.map_nil]); first | done | rfl | (simp only [List.length_drop, List.length_take]; rfl)) ?_; (with_reducible refine (zak.calls g s0_0 x1001_4 x1002_4 4 t260 t261 t262 w0 _ ?side1 ?side2 A22.out).mono ?_); (case side1 => repeat (first | (with_reducible first | exact HI0.out | apply zq.alloc | apply zq.drewN | apply zq.drew | apply zq.zaN | apply zq.zaO) | exact HI0.out)); (case side2 => repeat (first | (with_reducible first | exact HB.out | apply ze | apply zb | apply zf | refine zi ?_ (zq.ge HI0.out)) | exact HB.out)); rintro e w26 ⟨rfl, hi, hb, hk⟩; refine ⟨_, rfl, ?_⟩; have n0_ := za.mk (Kd.zaP (Kd.zcx (zq.apart (show zq w0 _ g s0_0 x1001_4 x1002_4 from by repeat (first | (with_reducible first | exact HI0.out | apply zq.alloc | apply zq.drewN | apply zq.drew | apply zq.zaN | apply zq.zaO) | exact HI0.out)) (by (with_reducible repeat (first | apply Kd.zah | apply Kd.zaf | apply Kd.zau)); exact HO_7.out) (by decide)) hk (fun _ h => h.2)) (fun _ h => h.1)); have n1_ := za.mk (zz.trans (by repeat (first | (with_reducible first | exact HK.out | apply zz.zaW | apply zaa | apply zac | apply z8) | exact HK.out)) hk (.inl rfl)); have n2_ := za.mk (hb); have n3_ := za.mk (hi); clear HO_7; clear HK; clear HB; clear HI0; have HO_7 := n0_; have HK := n1_; have HB := n2_; have HI0 := n3_; clear n0_ n1_ n2_ n3_; (try clear hb); (try clear hb2); (try clear hk); (try clear hi)) | ((with_reducible refine zB (f := 35) rfl ?_); refine zS (some 45) rfl rfl Try.func35 (by kernel_rfl) rfl #[.pointer (some ⟨g, 0, none⟩)] rfl (by (try simp only [List.map_toArray, List.map_cons, List.map_nil]); first | done | rfl | (simp only [List.length_drop, List.length_take]; rfl)) ?_; (with_reducible refine (zaG.calls g s0_0 t261 t262 t263 t264 t265 w0 _ ?side1 ?side2 A24.out).mono ?_); (case side1 => repeat (first | (with_reducible first | exact HI0.out | apply zq.alloc | apply zq.drewN | apply zq.drew | apply zq.zaN | apply zq.zaO) | exact HI0.out)); (case side2 => repeat (first | (with_reducible first | exact HB.out | apply ze | apply zb | apply zf | refine zi ?_ (zq.ge HI0.out)) | exact HB.out)); rintro e w27 ⟨rfl, hi, hb, hk⟩; refine ⟨_, rfl, ?_⟩; have n0_ := za.mk (Kd.zaP (Kd.zcx (zq.apart (show zq w0 _ g s0_0 t261 t262 from by repeat (first | (with_reducible first | exact HI0.out | apply zq.alloc | apply zq.drewN | apply zq.drew | apply zq.zaN | apply zq.zaO) | exact HI0.out)) (by (with_reducible repeat (first | apply Kd.zah | apply Kd.zaf | apply Kd.zau)); exact HO_7.out) (by decide)) hk (fun _ h => h.2)) (fun _ h => h.1)); have n1_ := za.mk (zz.trans (by repeat (first | (with_reducible first | exact HK.out | apply zz.zaW | apply zaa | apply zac | apply z8) | exact HK.out)) hk (.inl rfl)); have n2_ := za.mk (hb); have n3_ := za.mk (hi); clear HO_7; clear HK; clear HB; clear HI0; have HO_7 := n0_; have HK := n1_; have HB := n2_; have HI0 := n3_; clear n0_ n1_ n2_ n3_; (try clear hb); (try clear hb2); (try clear hk); (try clear hi)) | ((with_reducible refine zbo (b := .append) (xs := #[.tmp 42, .tmp 47]) rfl ?_); (try (refine zdS (by rfl) ?_; dsimp only)); at_builtin; refine Kd.zch k63 w.heap.size rfl (.tmp 42) (.tmp 47) 31 63 (.agg #[(.int .i64 0), (.int .i64 0), (.string ⟨#[]⟩)]) 32 rfl Try.underlying31 zcy rfl (by decide) (by omega) u7 x7_4 (⟨2, x8_1, t263⟩ : S63) [.int .i64 2, .int .i64 x8_1, .string t263] (fun _ => True) (fun _ => False) rfl rfl ?aP (fun _ hk => hk.elim) ?aF ?aO (Below.refl _ _) ?aS ?aL ?_; (case aP => exact zcb _ _ _ (⟨2, x8_1, t263⟩ : S63)); (case aF => exact (fun _ _ => trivial)); (case aO => exact (by (with_reducible repeat (first | apply Kd.zah | apply Kd.zaf | apply Kd.zau)); exact HO_7.out)); (case aS => exact (zc6 (w := w) (g := g) (row := none) (by repeat (first | (with_reducible first | exact HK.out | apply zz.zaW | apply zaa | apply zac | apply z8) | exact HK.out)))); (case aL => have := LMc25.out; omega); intro v267 w28 ho hb hg hat; rw [← Ny266.out] at ho; have n0_ := za.mk (zq.grown (by repeat (first | (with_reducible first | exact HI0.out | apply zq.alloc | apply zq.drewN | apply zq.drew | apply zq.zaN | apply zq.zaO) | exact HI0.out)) hg (zq.own_ne HI0.out HO_7.out (by decide))); have n1_ := za.mk (zbM (by repeat (first | (with_reducible first | exact HB.out | apply ze | apply zb | apply zf | refine zi ?_ (zq.ge HI0.out)) | exact HB.out)) HL.out hb); have n2_ := za.mk (zz.trans (by repeat (first | (with_reducible first | exact HK.out | apply zz.zaW | apply zaa | apply zac | apply z8) | exact HK.out)) (zz.zdp hg g) (Kd.zef HO_7.out)); have n3_ := za.mk (ho); clear HI0; clear HB; clear HK; clear HO_7; have HI0 := n0_; have HB := n1_; have HK := n2_; have HO268 := n3_; clear n0_ n1_ n2_ n3_; clear ho hb hg hat))
           go_roundg kj17
           case measure => have := HK1.out; have := HJ4.out; have := HJ17.out; omega
           case rel => exact ⟨(y266), (wrap64 (x8_1 + 1)), (t264), (t265), (by first | rfl | (simp; done) | (simp [*]; done)), H', ⟨by have := HK1.out; have := HJ4.out; have := HJ17.out; omega⟩, ⟨by (with_reducible repeat (first | apply Kd.zah | apply Kd.zaf | apply Kd.zau)); exact HO268.out⟩, ⟨by repeat (first | (with_reducible first | exact HI0.out | apply zq.alloc | apply zq.drewN | apply zq.drew | apply zq.zaN | apply zq.zaO) | exact HI0.out)⟩, ⟨by repeat (first | (with_reducible first | exact HK.out | apply zz.zaW | apply zaa | apply zac | apply z8) | exact HK.out)⟩, ⟨by repeat (first | (with_reducible first | exact HB.out | apply ze | apply zb | apply zf | refine zi ?_ (zq.ge HI0.out)) | exact HB.out)⟩⟩
          ·rw [if_neg c25] at H
           exact absurd H (by simp)
         ·rw [if_neg c23] at H
          have c23b0 : (t260 == 0) = false := beq_eq_false_iff_ne.mpr c23
          have c23b1 : (t260 != 0) = true := bne_iff_ne.mpr c23
          by_cases c29 : t260 = 1
          ·rw [if_pos c29] at H
           have c29b0 : (t260 == 1) = true := beq_iff_eq.mpr c29
           have c29b1 : (t260 != 1) = false := bne_eq_false_iff_eq.mpr c29
           clear c29
           by_cases c30 : x7_4.length < 4398046511104
           ·rw [if_pos c30] at H
            have LMc30 := za.mk c30
            clear c30
            obtain ⟨y269, hy269⟩ : ∃ y_ : List (S63), y_ = (x7_4 ++ [(⟨3, x8_1, (⟨#[]⟩ : ByteArray)⟩ : S63)]) := ⟨_, rfl⟩
            replace H : (zw.l0 kj17 a1 a2 y269 (wrap64 (x8_1 + 1)) s0_0 t261 t262) = some (r1, r2, r3) := by first | (rw [hy269]; with_reducible exact H) | (have H2_ := (Option.bind_some _ _).symm.trans H; rw [hy269]; with_reducible exact H2_) | (have H2_ := (Option.bind_some _ _).symm.trans H; with_reducible exact H2_) | with_reducible exact H | (rw [hy269]; exact H) | exact H
            have Ny269 := za.mk hy269
            clear hy269
            have H' := za.mk H
            clear H
            go_wp2_with (first | ((with_reducible refine zB (f := 28) rfl ?_); refine zS (some 39) rfl rfl Try.func28 (by kernel_rfl) rfl #[.pointer (some ⟨g, 0, none⟩), .int .i64 4] rfl (by (try simp only [List.map_toArray, List.map_cons, List.map_nil]); first | done | rfl | (simp only [List.length_drop, List.length_take]; rfl)) ?_; (with_reducible refine (zak.calls g s0_0 x1001_4 x1002_4 4 t260 t261 t262 w0 _ ?side1 ?side2 A22.out).mono ?_); (case side1 => repeat (first | (with_reducible first | exact HI0.out | apply zq.alloc | apply zq.drewN | apply zq.drew | apply zq.zaN | apply zq.zaO) | exact HI0.out)); (case side2 => repeat (first | (with_reducible first | exact HB.out | apply ze | apply zb | apply zf | refine zi ?_ (zq.ge HI0.out)) | exact HB.out)); rintro e w31 ⟨rfl, hi, hb, hk⟩; refine ⟨_, rfl, ?_⟩; have n0_ := za.mk (Kd.zaP (Kd.zcx (zq.apart (show zq w0 _ g s0_0 x1001_4 x1002_4 from by repeat (first | (with_reducible first | exact HI0.out | apply zq.alloc | apply zq.drewN | apply zq.drew | apply zq.zaN | apply zq.zaO) | exact HI0.out)) (by (with_reducible repeat (first | apply Kd.zah | apply Kd.zaf | apply Kd.zau)); exact HO_7.out) (by decide)) hk (fun _ h => h.2)) (fun _ h => h.1)); have n1_ := za.mk (zz.trans (by repeat (first | (with_reducible first | exact HK.out | apply zz.zaW | apply zaa | apply zac | apply z8) | exact HK.out)) hk (.inl rfl)); have n2_ := za.mk (hb); have n3_ := za.mk (hi); clear HO_7; clear HK; clear HB; clear HI0; have HO_7 := n0_; have HK := n1_; have HB := n2_; have HI0 := n3_; clear n0_ n1_ n2_ n3_; (try clear hb); (try clear hb2); (try clear hk); (try clear hi)) | ((with_reducible refine zbo (b := .append) (xs := #[.tmp 51, .tmp 54]) rfl ?_); (try (refine zdS (by rfl) ?_; dsimp only)); at_builtin; refine Kd.zch k63 w.heap.size rfl (.tmp 51) (.tmp 54) 31 63 (.agg #[(.int .i64 0), (.int .i64 0), (.string ⟨#[]⟩)]) 32 rfl Try.underlying31 zcy rfl (by decide) (by omega) u7 x7_4 (⟨3, x8_1, (⟨#[]⟩ : ByteArray)⟩ : S63) [.int .i64 3, .int .i64 x8_1, .string (⟨#[]⟩ : ByteArray)] (fun _ => True) (fun _ => False) rfl rfl ?aP (fun _ hk => hk.elim) ?aF ?aO (Below.refl _ _) ?aS ?aL ?_; (case aP => exact zcb _ _ _ (⟨3, x8_1, (⟨#[]⟩ : ByteArray)⟩ : S63)); (case aF => exact (fun _ _ => trivial)); (case aO => exact (by (with_reducible repeat (first | apply Kd.zah | apply Kd.zaf | apply Kd.zau)); exact HO_7.out)); (case aS => exact (zc6 (w := w) (g := g) (row := none) (by repeat (first | (with_reducible first | exact HK.out | apply zz.zaW | apply zaa | apply zac | apply z8) | exact HK.out)))); (case aL => have := LMc30.out; omega); intro v270 w32 ho hb hg hat; rw [← Ny269.out] at ho; have n0_ := za.mk (zq.grown (by repeat (first | (with_reducible first | exact HI0.out | apply zq.alloc | apply zq.drewN | apply zq.drew | apply zq.zaN | apply zq.zaO) | exact HI0.out)) hg (zq.own_ne HI0.out HO_7.out (by decide))); have n1_ := za.mk (zbM (by repeat (first | (with_reducible first | exact HB.out | apply ze | apply zb | apply zf | refine zi ?_ (zq.ge HI0.out)) | exact HB.out)) HL.out hb); have n2_ := za.mk (zz.trans (by repeat (first | (with_reducible first | exact HK.out | apply zz.zaW | apply zaa | apply zac | apply z8) | exact HK.out)) (zz.zdp hg g) (Kd.zef HO_7.out)); have n3_ := za.mk (ho); clear HI0; clear HB; clear HK; clear HO_7; have HI0 := n0_; have HB := n1_; have HK := n2_; have HO271 := n3_; clear n0_ n1_ n2_ n3_; clear ho hb hg hat))
            go_roundg kj17
            case measure => have := HK1.out; have := HJ4.out; have := HJ17.out; omega
            case rel => exact ⟨(y269), (wrap64 (x8_1 + 1)), (t261), (t262), (by first | rfl | (simp; done) | (simp [*]; done)), H', ⟨by have := HK1.out; have := HJ4.out; have := HJ17.out; omega⟩, ⟨by (with_reducible repeat (first | apply Kd.zah | apply Kd.zaf | apply Kd.zau)); exact HO271.out⟩, ⟨by repeat (first | (with_reducible first | exact HI0.out | apply zq.alloc | apply zq.drewN | apply zq.drew | apply zq.zaN | apply zq.zaO) | exact HI0.out)⟩, ⟨by repeat (first | (with_reducible first | exact HK.out | apply zz.zaW | apply zaa | apply zac | apply z8) | exact HK.out)⟩, ⟨by repeat (first | (with_reducible first | exact HB.out | apply ze | apply zb | apply zf | refine zi ?_ (zq.ge HI0.out)) | exact HB.out)⟩⟩
           ·rw [if_neg c30] at H
            exact absurd H (by simp)
          ·rw [if_neg c29] at H
           have c29b0 : (t260 == 1) = false := beq_eq_false_iff_ne.mpr c29
           have c29b1 : (t260 != 1) = true := bne_iff_ne.mpr c29
           have H' := za.mk H
           clear H
           go_wp2_with (first | ((with_reducible refine zB (f := 28) rfl ?_); refine zS (some 39) rfl rfl Try.func28 (by kernel_rfl) rfl #[.pointer (some ⟨g, 0, none⟩), .int .i64 4] rfl (by (try simp only [List.map_toArray, List.map_cons, List.map_nil]); first | done | rfl | (simp only [List.length_drop, List.length_take]; rfl)) ?_; (with_reducible refine (zak.calls g s0_0 x1001_4 x1002_4 4 t260 t261 t262 w0 _ ?side1 ?side2 A22.out).mono ?_); (case side1 => repeat (first | (with_reducible first | exact HI0.out | apply zq.alloc | apply zq.drewN | apply zq.drew | apply zq.zaN | apply zq.zaO) | exact HI0.out)); (case side2 => repeat (first | (with_reducible first | exact HB.out | apply ze | apply zb | apply zf | refine zi ?_ (zq.ge HI0.out)) | exact HB.out)); rintro e w33 ⟨rfl, hi, hb, hk⟩; refine ⟨_, rfl, ?_⟩; have n0_ := za.mk (Kd.zaP (Kd.zcx (zq.apart (show zq w0 _ g s0_0 x1001_4 x1002_4 from by repeat (first | (with_reducible first | exact HI0.out | apply zq.alloc | apply zq.drewN | apply zq.drew | apply zq.zaN | apply zq.zaO) | exact HI0.out)) (by (with_reducible repeat (first | apply Kd.zah | apply Kd.zaf | apply Kd.zau)); exact HO_7.out) (by decide)) hk (fun _ h => h.2)) (fun _ h => h.1)); have n1_ := za.mk (zz.trans (by repeat (first | (with_reducible first | exact HK.out | apply zz.zaW | apply zaa | apply zac | apply z8) | exact HK.out)) hk (.inl rfl)); have n2_ := za.mk (hb); have n3_ := za.mk (hi); clear HO_7; clear HK; clear HB; clear HI0; have HO_7 := n0_; have HK := n1_; have HB := n2_; have HI0 := n3_; clear n0_ n1_ n2_ n3_; (try clear hb); (try clear hb2); (try clear hk); (try clear hi)))
           go_roundg kj17
           case measure => have := HK1.out; have := HJ4.out; have := HJ17.out; omega
           case rel => exact ⟨(x7_4), (wrap64 (x8_1 + 1)), (t261), (t262), (by first | rfl | (simp; done) | (simp [*]; done)), H', ⟨by have := HK1.out; have := HJ4.out; have := HJ17.out; omega⟩, ⟨by (with_reducible repeat (first | apply Kd.zah | apply Kd.zaf | apply Kd.zau)); exact HO_7.out⟩, ⟨by repeat (first | (with_reducible first | exact HI0.out | apply zq.alloc | apply zq.drewN | apply zq.drew | apply zq.zaN | apply zq.zaO) | exact HI0.out)⟩, ⟨by repeat (first | (with_reducible first | exact HK.out | apply zz.zaW | apply zaa | apply zac | apply z8) | exact HK.out)⟩, ⟨by repeat (first | (with_reducible first | exact HB.out | apply ze | apply zb | apply zf | refine zi ?_ (zq.ge HI0.out)) | exact HB.out)⟩⟩
   ·rw [if_neg c4] at H
    have c4b0 : decide (x8_1 ≤ a1) = false := decide_eq_false c4
    clear c4
    simp only [Option.some.injEq, Prod.mk.injEq] at H
    obtain ⟨rfl, rfl, rfl⟩ := H
    go_wp2
    go_ret
    exact ⟨_, by first | rfl | (simp [zu, zt] <;> rfl) | (simp [*, zu, zt] <;> rfl), by (with_reducible repeat (first | apply Kd.zah | apply Kd.zaf | apply Kd.zau)); exact HO_7.out, by repeat (first | (with_reducible first | exact HI0.out | apply zq.alloc | apply zq.drewN | apply zq.drew | apply zq.zaN | apply zq.zaO) | exact HI0.out), by repeat (first | (with_reducible first | exact HB.out | apply ze | apply zb | apply zf | refine zi ?_ (zq.ge HI0.out)) | exact HB.out), by repeat (first | (with_reducible first | exact HK.out | apply zz.zaW | apply zaa | apply zac | apply z8) | exact HK.out)⟩
theorem flat_get {α : Type} (sz : Nat) (chunk : α → List Value) : ∀ (xs : List α), (∀ x ∈ xs, (chunk x).length = sz) → ∀ (j : Nat) (p : α), xs[j]? = some p → ∀ (i : Nat) (u : Value), (chunk p)[i]? = some u → (xs.flatMap chunk)[j * sz + i]? = some u
 | [], _, j, p, hj, _, _, _ => by simp at hj
 | x :: xs, hl, 0, p, hj, i, u, hi => by
  simp only [List.getElem?_cons_zero, Option.some.injEq] at hj
  subst hj
  rw [List.flatMap_cons, Nat.zero_mul, Nat.zero_add, List.getElem?_append_left]
  ·exact hi
  ·exact (List.getElem?_eq_some_iff.1 hi).1
 | x :: xs, hl, j + 1, p, hj, i, u, hi => by
  rw [List.getElem?_cons_succ] at hj
  have hx := hl x List.mem_cons_self
  rw [List.flatMap_cons, List.getElem?_append_right (by rw [hx, Nat.succ_mul]; omega), hx]
  have e : (j + 1) * sz + i - sz = j * sz + i := by rw [Nat.succ_mul]; omega
  rw [e]
  exact flat_get sz chunk xs (fun y hy => hl y (List.mem_cons_of_mem _ hy)) j p hj i u hi
theorem zdQ {α : Type} (d : Kd α) {W : World} {g e : Nat} {cs : Array Value} {xs : List α} (hb : W.heap[g]? = some (.cells cs e (0, 0))) (chunk : α → List Value) (hK : ∀ x ∈ xs, d.K W x (chunk x)) (hcs : cs.toList = xs.flatMap chunk) (hmax : xs.length ≤ maxLen) : d.C W (some ⟨g, 0, none⟩) xs.length xs := by
 refine ⟨rfl, hmax, fun _ => ⟨⟨g, 0, none⟩, rfl, fun j p hj => ?_⟩⟩
 have hp := List.mem_of_getElem? hj
 refine ⟨chunk p, d.K_len (hK p hp), hK p hp, fun i u hi => ?_⟩
 have h1 := flat_get d.sz chunk xs (fun x hx => d.K_len (hK x hx)) j p hj i u hi
 rw [← hcs] at h1
 have h2 := World.news_of_block hb (j * d.sz + i) u h1
 exact h2
theorem zeH {W : World} {g : Nat} {xs : List ByteArray} {cs : Array Value} (hb : W.heap[g]? = some (.cells cs 9 (0, 0))) (hcs : cs.toList = xs.flatMap fun x => [Value.string x]) (hmax : xs.length ≤ maxLen) : Kd.string.C W (some ⟨g, 0, none⟩) xs.length xs :=
 zdQ Kd.string hb (fun x => [Value.string x]) (fun _ _ => rfl) hcs hmax
theorem zd9 {W : World} {g : Nat} {xs : List Int} {cs : Array Value} (hb : W.heap[g]? = some (.cells cs 3 (0, 0))) (hcs : cs.toList = xs.flatMap fun x => [Value.int .i64 x]) (hmax : xs.length ≤ maxLen) : (Kd.int .i64).C W (some ⟨g, 0, none⟩) xs.length xs :=
 zdQ (Kd.int .i64) hb (fun x => [Value.int .i64 x]) (fun _ _ => rfl) hcs hmax
theorem zgd {W : World} {g : Nat} {xs : List S63} {cs : Array Value} (hb : W.heap[g]? = some (.cells cs 63 (0, 0))) (hcs : cs.toList = xs.flatMap fun x => [Value.int .i64 x.f0, .int .i64 x.f1, .string x.f2]) (hmax : xs.length ≤ maxLen) : k63.C W (some ⟨g, 0, none⟩) xs.length xs :=
 zdQ k63 hb (fun x => [Value.int .i64 x.f0, .int .i64 x.f1, .string x.f2]) (fun x _ => zg8 W x) hcs hmax
theorem zaS {α : Type} {d : Kd α} {e : Nat} {w : World} {base : Nat} {ok : Nat → Prop} {A : Option Addr} {n c : Nat} {xs : List α} (h : d.R e w base ok (.slice A n c) xs) : d.C w A xs.length xs ∧ xs.length ≤ c := by
 obtain ⟨A', c', e1, hl, hC⟩ := Kd.zan h
 injection e1 with h1 _ h3
 subst h1; subst h3
 exact ⟨hC, hl⟩
def zbH.f  : Option (List ByteArray) := some (([(⟨#[97, 110, 110, 97]⟩ : ByteArray), (⟨#[98, 101, 110]⟩ : ByteArray), (⟨#[99, 121, 100]⟩ : ByteArray)] : List ByteArray))
set_option maxHeartbeats 8000000 in
set_option maxRecDepth 100000 in
theorem zbH.calls  (r : List ByteArray) (w : World) (h : zbH.f  = some r) :
  Calls Try.prog 59 #[] w fun e w' => ∃ v0_ : Value, e = .returned (v0_) ∧ Kd.R Kd.string 9 w' w.heap.size (fun _ => True) v0_ r ∧ Below w.heap.size w w' := by
 have HB := za.mk (Below.refl w.heap.size w)
 have H : (some (([(⟨#[97, 110, 110, 97]⟩ : ByteArray), (⟨#[98, 101, 110]⟩ : ByteArray), (⟨#[99, 121, 100]⟩ : ByteArray)] : List ByteArray))) = some r := h
 clear h
 obtain ⟨y163, hy163⟩ : ∃ y_ : List ByteArray, y_ = (([(⟨#[97, 110, 110, 97]⟩ : ByteArray), (⟨#[98, 101, 110]⟩ : ByteArray), (⟨#[99, 121, 100]⟩ : ByteArray)] : List ByteArray)) := ⟨_, rfl⟩
 replace H : (some y163) = some r := by first | (rw [hy163]; with_reducible exact H) | (have H2_ := (Option.bind_some _ _).symm.trans H; rw [hy163]; with_reducible exact H2_) | (have H2_ := (Option.bind_some _ _).symm.trans H; with_reducible exact H2_) | with_reducible exact H | (rw [hy163]; exact H) | exact H
 have Ny163 := za.mk hy163
 clear hy163
 obtain rfl := Option.some.inj H
 go_enter Try.func59, Try.ntmps59
 go_wp2_with (first | ((with_reducible refine zar (N := 1) rfl ?_); refine Kd.zdV Kd.string _ 9 ?hg (N := 1) ?hd (xs := ([(⟨#[97, 110, 110, 97]⟩ : ByteArray), (⟨#[98, 101, 110]⟩ : ByteArray), (⟨#[99, 121, 100]⟩ : ByteArray)] : List ByteArray)) (inner := [.string (⟨#[97, 110, 110, 97]⟩ : ByteArray), .string (⟨#[98, 101, 110]⟩ : ByteArray), .string (⟨#[99, 121, 100]⟩ : ByteArray)]) (ok := fun _ => True) (okp := fun _ => True) ?hr ?hp (fun _ hk => hk) trivial (Below.refl _ _) (Nat.le_refl _) (by simp) ?_; (case hd => rfl); (case hg => rfl); (case hr => first | (go_simp; done) | (go_simp; rfl)); (case hp => exact (zZ.one (show Kd.M Kd.string _ _ _ (⟨#[97, 110, 110, 97]⟩ : ByteArray) [.string (⟨#[97, 110, 110, 97]⟩ : ByteArray)] from rfl) (zZ.one (show Kd.M Kd.string _ _ _ (⟨#[98, 101, 110]⟩ : ByteArray) [.string (⟨#[98, 101, 110]⟩ : ByteArray)] from rfl) (zZ.one (show Kd.M Kd.string _ _ _ (⟨#[99, 121, 100]⟩ : ByteArray) [.string (⟨#[99, 121, 100]⟩ : ByteArray)] from rfl) (zZ.none _ _))))); intro v164 w1 ho2 hb hg_ hnew_; clear hg_ hnew_; (first | rw [← Ny163.out] at ho2 | (simp only [Int.reduceToNat] at ho2; rw [← Ny163.out] at ho2)); have n0_ := za.mk (Kd.zaQ ho2 (zC (by repeat (first | (with_reducible first | exact HB.out | apply ze | apply zb | apply zf) | exact HB.out)))); have n1_ := za.mk (zo (by repeat (first | (with_reducible first | exact HB.out | apply ze | apply zb | apply zf) | exact HB.out)) hb); clear HB; have HO165 := n0_; have HB := n1_; clear n0_ n1_; clear hb ho2))
 go_ret
 exact ⟨_, by first | rfl | (simp [zu, zt] <;> rfl) | (simp [*, zu, zt] <;> rfl), by (with_reducible repeat (first | apply Kd.zah | apply Kd.zaf | apply Kd.zau)); exact HO165.out, by repeat (first | (with_reducible first | exact HB.out | apply ze | apply zb | apply zf) | exact HB.out)⟩
def zbu.f (a0 : Int) (a1 : ByteArray) : Option (Int × Int × ByteArray) := some (1, a0, a1)
set_option maxHeartbeats 8000000 in
set_option maxRecDepth 100000 in
theorem zbu.calls (a0 : Int) (a1 : ByteArray) (r1 : Int) (r2 : Int) (r3 : ByteArray) (w : World) (h : zbu.f a0 a1 = some (r1, r2, r3)) :
  Calls Try.prog 61 #[.int .i64 a0, .string a1] w fun e w' => e = .returned (.agg #[.int .i64 r1, .int .i64 r2, .string r3]) ∧ Below w.heap.size w w' := by
 have hu63 := Try.underlying63
 have HB := za.mk (Below.refl w.heap.size w)
 have H : (some (1, a0, a1)) = some (r1, r2, r3) := h
 clear h
 simp only [Option.some.injEq, Prod.mk.injEq] at H
 obtain ⟨rfl, rfl, rfl⟩ := H
 go_enter Try.func61, Try.ntmps61
 go_wp2_with (first | ((with_reducible refine zar (N := 4) rfl ?_); refine zaF ?hg (N := 4) ?hd (cs := #[.int .i64 0, .int .i64 0, .string (⟨#[]⟩ : ByteArray)]) (t := 63) ?hr ?_; (case hd => rfl); (case hg => rfl); (case hr => first | (go_simp; done) | (go_simp; rfl)); intro gb166 hg w3 hbox hb; have n0_ := za.mk (zo (by repeat (first | (with_reducible first | exact HB.out | apply ze | apply zb | apply zf) | exact HB.out)) hb); have n1_ := za.mk (hbox); have n2_ := za.mk ((by rw [hg]; exact (zC (by repeat (first | (with_reducible first | exact HB.out | apply ze | apply zb | apply zf) | exact HB.out))) : w.heap.size ≤ gb166)); have n3_ := za.mk ((by rw [hg]; exact (zC (by repeat (first | (with_reducible first | exact HB.out | apply ze | apply zb | apply zf) | exact HB.out))) : w.heap.size ≤ gb166)); clear HB; have HB := n0_; have BK166 := n1_; have GW166 := n2_; have GE166 := n3_; clear n0_ n1_ n2_ n3_; clear hb hbox hg; have hcz4_0 : w3.cell? ⟨gb166, 0, none⟩ = some (.int .i64 0) := (zg BK166.out 0).trans rfl; have hcz4_1 : w3.cell? ⟨gb166, 1, none⟩ = some (.int .i64 0) := (zg BK166.out 1).trans rfl; have hcz4_2 : w3.cell? ⟨gb166, 2, none⟩ = some (.string (⟨#[]⟩ : ByteArray)) := (zg BK166.out 2).trans rfl; have hfz4_0 := zn BK166.out 0; have hfz4_1 := zn BK166.out 1; have hfz4_2 := zn BK166.out 2))
 refine bodyPost_ret (results_cell_row rfl _ _ gb166 63 #[.int .i64 1, .int .i64 a0, .string a1] (0, 0) _ rfl (by (with_reducible repeat (first | refine zl ?_ _ | refine zm ?_ | refine zk ?_ _)); refine zT (cs := #[.int .i64 1, .int .i64 a0, .string (⟨#[]⟩ : ByteArray)]) ?_ 2 _ rfl; (with_reducible repeat (first | refine zl ?_ _ | refine zm ?_ | refine zk ?_ _)); refine zT (cs := #[.int .i64 1, .int .i64 0, .string (⟨#[]⟩ : ByteArray)]) ?_ 1 _ rfl; (with_reducible repeat (first | refine zl ?_ _ | refine zm ?_ | refine zk ?_ _)); refine zT (cs := #[.int .i64 0, .int .i64 0, .string (⟨#[]⟩ : ByteArray)]) ?_ 0 _ rfl; (with_reducible repeat (first | refine zl ?_ _ | refine zm ?_ | refine zk ?_ _)); exact BK166.out) Try.underlying63 rfl (by kernel_rfl)) rfl ?_
 exact ⟨by first | rfl | (simp [zu, zt] <;> rfl) | (simp [*, zu, zt] <;> rfl), by repeat (first | (with_reducible first | exact HB.out | apply ze | apply zb | apply zf | refine zi ?_ GE166.out) | exact HB.out)⟩
def zbB.f (a0 : Int) (a1 : ByteArray) : Option (Int × Int × ByteArray) := some (2, a0, a1)
set_option maxHeartbeats 8000000 in
set_option maxRecDepth 100000 in
theorem zbB.calls (a0 : Int) (a1 : ByteArray) (r1 : Int) (r2 : Int) (r3 : ByteArray) (w : World) (h : zbB.f a0 a1 = some (r1, r2, r3)) :
  Calls Try.prog 85 #[.int .i64 a0, .string a1] w fun e w' => e = .returned (.agg #[.int .i64 r1, .int .i64 r2, .string r3]) ∧ Below w.heap.size w w' := by
 have hu63 := Try.underlying63
 have HB := za.mk (Below.refl w.heap.size w)
 have H : (some (2, a0, a1)) = some (r1, r2, r3) := h
 clear h
 simp only [Option.some.injEq, Prod.mk.injEq] at H
 obtain ⟨rfl, rfl, rfl⟩ := H
 go_enter Try.func85, Try.ntmps85
 go_wp2_with (first | ((with_reducible refine zar (N := 4) rfl ?_); refine zaF ?hg (N := 4) ?hd (cs := #[.int .i64 0, .int .i64 0, .string (⟨#[]⟩ : ByteArray)]) (t := 63) ?hr ?_; (case hd => rfl); (case hg => rfl); (case hr => first | (go_simp; done) | (go_simp; rfl)); intro gb167 hg w3 hbox hb; have n0_ := za.mk (zo (by repeat (first | (with_reducible first | exact HB.out | apply ze | apply zb | apply zf) | exact HB.out)) hb); have n1_ := za.mk (hbox); have n2_ := za.mk ((by rw [hg]; exact (zC (by repeat (first | (with_reducible first | exact HB.out | apply ze | apply zb | apply zf) | exact HB.out))) : w.heap.size ≤ gb167)); have n3_ := za.mk ((by rw [hg]; exact (zC (by repeat (first | (with_reducible first | exact HB.out | apply ze | apply zb | apply zf) | exact HB.out))) : w.heap.size ≤ gb167)); clear HB; have HB := n0_; have BK167 := n1_; have GW167 := n2_; have GE167 := n3_; clear n0_ n1_ n2_ n3_; clear hb hbox hg; have hcz4_0 : w3.cell? ⟨gb167, 0, none⟩ = some (.int .i64 0) := (zg BK167.out 0).trans rfl; have hcz4_1 : w3.cell? ⟨gb167, 1, none⟩ = some (.int .i64 0) := (zg BK167.out 1).trans rfl; have hcz4_2 : w3.cell? ⟨gb167, 2, none⟩ = some (.string (⟨#[]⟩ : ByteArray)) := (zg BK167.out 2).trans rfl; have hfz4_0 := zn BK167.out 0; have hfz4_1 := zn BK167.out 1; have hfz4_2 := zn BK167.out 2))
 refine bodyPost_ret (results_cell_row rfl _ _ gb167 63 #[.int .i64 2, .int .i64 a0, .string a1] (0, 0) _ rfl (by (with_reducible repeat (first | refine zl ?_ _ | refine zm ?_ | refine zk ?_ _)); refine zT (cs := #[.int .i64 2, .int .i64 a0, .string (⟨#[]⟩ : ByteArray)]) ?_ 2 _ rfl; (with_reducible repeat (first | refine zl ?_ _ | refine zm ?_ | refine zk ?_ _)); refine zT (cs := #[.int .i64 2, .int .i64 0, .string (⟨#[]⟩ : ByteArray)]) ?_ 1 _ rfl; (with_reducible repeat (first | refine zl ?_ _ | refine zm ?_ | refine zk ?_ _)); refine zT (cs := #[.int .i64 0, .int .i64 0, .string (⟨#[]⟩ : ByteArray)]) ?_ 0 _ rfl; (with_reducible repeat (first | refine zl ?_ _ | refine zm ?_ | refine zk ?_ _)); exact BK167.out) Try.underlying63 rfl (by kernel_rfl)) rfl ?_
 exact ⟨by first | rfl | (simp [zu, zt] <;> rfl) | (simp [*, zu, zt] <;> rfl), by repeat (first | (with_reducible first | exact HB.out | apply ze | apply zb | apply zf | refine zi ?_ GE167.out) | exact HB.out)⟩
def zb0.f  : Option ((List (S63))) := (zbu.f 1 (⟨#[98, 101, 97]⟩ : ByteArray)).bind fun bt168 => ((zbB.f 2 (⟨#[99, 105, 100]⟩ : ByteArray)).bind fun bt171 => (some (([(⟨bt168.1, bt168.2.1, bt168.2.2⟩ : S63), (⟨bt171.1, bt171.2.1, bt171.2.2⟩ : S63)] : List (S63)))))
set_option maxHeartbeats 8000000 in
set_option maxRecDepth 100000 in
theorem zb0.calls  (r : List (S63)) (w : World) (h : zb0.f  = some r) :
  Calls Try.prog 60 #[] w fun e w' => ∃ v0_ : Value, e = .returned (v0_) ∧ Kd.R k63 63 w' w.heap.size (fun _ => True) v0_ r ∧ Below w.heap.size w w' := by
 have HB := za.mk (Below.refl w.heap.size w)
 have H : ((zbu.f 1 (⟨#[98, 101, 97]⟩ : ByteArray)).bind fun bt168 => ((zbB.f 2 (⟨#[99, 105, 100]⟩ : ByteArray)).bind fun bt171 => (some (([(⟨bt168.1, bt168.2.1, bt168.2.2⟩ : S63), (⟨bt171.1, bt171.2.1, bt171.2.2⟩ : S63)] : List (S63)))))) = some r := h
 clear h
 replace H := Option.bind_eq_some_iff.mp H
 obtain ⟨⟨t168, t169, t170⟩, A10, H⟩ := H
 replace H : ((zbB.f 2 (⟨#[99, 105, 100]⟩ : ByteArray)).bind fun bt171 => (some (([(⟨t168, t169, t170⟩ : S63), (⟨bt171.1, bt171.2.1, bt171.2.2⟩ : S63)] : List (S63))))) = some r := H
 have A1 := za.mk A10
 clear A10
 replace H := Option.bind_eq_some_iff.mp H
 obtain ⟨⟨t171, t172, t173⟩, A20, H⟩ := H
 replace H : (some (([(⟨t168, t169, t170⟩ : S63), (⟨t171, t172, t173⟩ : S63)] : List (S63)))) = some r := H
 have A2 := za.mk A20
 clear A20
 obtain ⟨y174, hy174⟩ : ∃ y_ : List (S63), y_ = (([(⟨t168, t169, t170⟩ : S63), (⟨t171, t172, t173⟩ : S63)] : List (S63))) := ⟨_, rfl⟩
 replace H : (some y174) = some r := by first | (rw [hy174]; with_reducible exact H) | (have H2_ := (Option.bind_some _ _).symm.trans H; rw [hy174]; with_reducible exact H2_) | (have H2_ := (Option.bind_some _ _).symm.trans H; with_reducible exact H2_) | with_reducible exact H | (rw [hy174]; exact H) | exact H
 have Ny174 := za.mk hy174
 clear hy174
 obtain rfl := Option.some.inj H
 go_enter Try.func60, Try.ntmps60
 go_wp2_with (first | ((with_reducible refine zB (f := 61) rfl ?_); refine zS (some 1) rfl rfl Try.func61 (by kernel_rfl) rfl #[.int .i64 1, .string (⟨#[98, 101, 97]⟩ : ByteArray)] rfl (by (try simp only [List.map_toArray, List.map_cons, List.map_nil]); first | done | rfl | (simp only [List.length_drop, List.length_take]; rfl)) ?_; (with_reducible refine (zbu.calls 1 (⟨#[98, 101, 97]⟩ : ByteArray) t168 t169 t170 _ A1.out).mono ?_); rintro e w3 ⟨rfl, hb⟩; refine ⟨_, rfl, ?_⟩; have n0_ := za.mk (zo (by repeat (first | (with_reducible first | exact HB.out | apply ze | apply zb | apply zf) | exact HB.out)) hb); clear HB; have HB := n0_; clear n0_; (try clear hb); (try clear hb2); (try clear hk); (try clear hi)) | ((with_reducible refine zB (f := 85) rfl ?_); refine zS (some 2) rfl rfl Try.func85 (by kernel_rfl) rfl #[.int .i64 2, .string (⟨#[99, 105, 100]⟩ : ByteArray)] rfl (by (try simp only [List.map_toArray, List.map_cons, List.map_nil]); first | done | rfl | (simp only [List.length_drop, List.length_take]; rfl)) ?_; (with_reducible refine (zbB.calls 2 (⟨#[99, 105, 100]⟩ : ByteArray) t171 t172 t173 _ A2.out).mono ?_); rintro e w4 ⟨rfl, hb⟩; refine ⟨_, rfl, ?_⟩; have n0_ := za.mk (zo (by repeat (first | (with_reducible first | exact HB.out | apply ze | apply zb | apply zf) | exact HB.out)) hb); clear HB; have HB := n0_; clear n0_; (try clear hb); (try clear hb2); (try clear hk); (try clear hi)) | ((with_reducible refine zar (N := 3) rfl ?_); refine Kd.zdV k63 _ 63 ?hg (N := 3) ?hd (xs := ([(⟨t168, t169, t170⟩ : S63), (⟨t171, t172, t173⟩ : S63)] : List (S63))) (inner := [.int .i64 t168, .int .i64 t169, .string t170, .int .i64 t171, .int .i64 t172, .string t173]) (ok := fun _ => True) (okp := fun _ => True) ?hr ?hp (fun _ hk => hk) trivial (Below.refl _ _) (Nat.le_refl _) (by simp) ?_; (case hd => rfl); (case hg => rfl); (case hr => first | (go_simp; done) | (go_simp; rfl)); (case hp => exact (zZ.c3 (show Kd.M k63 _ _ _ (⟨t168, t169, t170⟩ : S63) [.int .i64 t168, .int .i64 t169, .string t170] from (zcb _ _ _ (⟨t168, t169, t170⟩ : S63) )) (zZ.c3 (show Kd.M k63 _ _ _ (⟨t171, t172, t173⟩ : S63) [.int .i64 t171, .int .i64 t172, .string t173] from (zcb _ _ _ (⟨t171, t172, t173⟩ : S63) )) (zZ.none _ _)))); intro v175 w5 ho6 hb hg_ hnew_; clear hg_ hnew_; (first | rw [← Ny174.out] at ho6 | (simp only [Int.reduceToNat] at ho6; rw [← Ny174.out] at ho6)); have n0_ := za.mk (Kd.zaQ ho6 (zC (by repeat (first | (with_reducible first | exact HB.out | apply ze | apply zb | apply zf) | exact HB.out)))); have n1_ := za.mk (zo (by repeat (first | (with_reducible first | exact HB.out | apply ze | apply zb | apply zf) | exact HB.out)) hb); clear HB; have HO176 := n0_; have HB := n1_; clear n0_ n1_; clear hb ho6))
 go_ret
 exact ⟨_, by first | rfl | (simp [zu, zt] <;> rfl) | (simp [*, zu, zt] <;> rfl), by (with_reducible repeat (first | apply Kd.zah | apply Kd.zaf | apply Kd.zau)); exact HO176.out, by repeat (first | (with_reducible first | exact HB.out | apply ze | apply zb | apply zf) | exact HB.out)⟩
def zb2.f (a0 : Int) : Option (Int × Int × ByteArray) := some (3, a0, (⟨#[]⟩ : ByteArray))
set_option maxHeartbeats 8000000 in
set_option maxRecDepth 100000 in
theorem zb2.calls (a0 : Int) (r1 : Int) (r2 : Int) (r3 : ByteArray) (w : World) (h : zb2.f a0 = some (r1, r2, r3)) :
  Calls Try.prog 62 #[.int .i64 a0] w fun e w' => e = .returned (.agg #[.int .i64 r1, .int .i64 r2, .string r3]) ∧ Below w.heap.size w w' := by
 have hu63 := Try.underlying63
 have HB := za.mk (Below.refl w.heap.size w)
 have H : (some (3, a0, (⟨#[]⟩ : ByteArray))) = some (r1, r2, r3) := h
 clear h
 simp only [Option.some.injEq, Prod.mk.injEq] at H
 obtain ⟨rfl, rfl, rfl⟩ := H
 go_enter Try.func62, Try.ntmps62
 go_wp2_with (first | ((with_reducible refine zar (N := 2) rfl ?_); refine zaF ?hg (N := 2) ?hd (cs := #[.int .i64 0, .int .i64 0, .string (⟨#[]⟩ : ByteArray)]) (t := 63) ?hr ?_; (case hd => rfl); (case hg => rfl); (case hr => first | (go_simp; done) | (go_simp; rfl)); intro gb177 hg w2 hbox hb; have n0_ := za.mk (zo (by repeat (first | (with_reducible first | exact HB.out | apply ze | apply zb | apply zf) | exact HB.out)) hb); have n1_ := za.mk (hbox); have n2_ := za.mk ((by rw [hg]; exact (zC (by repeat (first | (with_reducible first | exact HB.out | apply ze | apply zb | apply zf) | exact HB.out))) : w.heap.size ≤ gb177)); have n3_ := za.mk ((by rw [hg]; exact (zC (by repeat (first | (with_reducible first | exact HB.out | apply ze | apply zb | apply zf) | exact HB.out))) : w.heap.size ≤ gb177)); clear HB; have HB := n0_; have BK177 := n1_; have GW177 := n2_; have GE177 := n3_; clear n0_ n1_ n2_ n3_; clear hb hbox hg; have hcz3_0 : w2.cell? ⟨gb177, 0, none⟩ = some (.int .i64 0) := (zg BK177.out 0).trans rfl; have hcz3_1 : w2.cell? ⟨gb177, 1, none⟩ = some (.int .i64 0) := (zg BK177.out 1).trans rfl; have hcz3_2 : w2.cell? ⟨gb177, 2, none⟩ = some (.string (⟨#[]⟩ : ByteArray)) := (zg BK177.out 2).trans rfl; have hfz3_0 := zn BK177.out 0; have hfz3_1 := zn BK177.out 1; have hfz3_2 := zn BK177.out 2))
 refine bodyPost_ret (results_cell_row rfl _ _ gb177 63 #[.int .i64 3, .int .i64 a0, .string (⟨#[]⟩ : ByteArray)] (0, 0) _ rfl (by (with_reducible repeat (first | refine zl ?_ _ | refine zm ?_ | refine zk ?_ _)); refine zT (cs := #[.int .i64 3, .int .i64 a0, .string (⟨#[]⟩ : ByteArray)]) ?_ 2 _ rfl; (with_reducible repeat (first | refine zl ?_ _ | refine zm ?_ | refine zk ?_ _)); refine zT (cs := #[.int .i64 3, .int .i64 0, .string (⟨#[]⟩ : ByteArray)]) ?_ 1 _ rfl; (with_reducible repeat (first | refine zl ?_ _ | refine zm ?_ | refine zk ?_ _)); refine zT (cs := #[.int .i64 0, .int .i64 0, .string (⟨#[]⟩ : ByteArray)]) ?_ 0 _ rfl; (with_reducible repeat (first | refine zl ?_ _ | refine zm ?_ | refine zk ?_ _)); exact BK177.out) Try.underlying63 rfl (by kernel_rfl)) rfl ?_
 exact ⟨by first | rfl | (simp [zu, zt] <;> rfl) | (simp [*, zu, zt] <;> rfl), by repeat (first | (with_reducible first | exact HB.out | apply ze | apply zb | apply zf | refine zi ?_ GE177.out) | exact HB.out)⟩
def zbZ.f  : Option ((List (List ByteArray))) := some (([(([(⟨#[97, 110, 110, 97]⟩ : ByteArray), (⟨#[98, 101, 110]⟩ : ByteArray)] : List ByteArray)), (([(⟨#[97, 110, 110, 97]⟩ : ByteArray), (⟨#[99, 121, 100]⟩ : ByteArray)] : List ByteArray))] : List (List ByteArray)))
set_option maxHeartbeats 8000000 in
set_option maxRecDepth 100000 in
theorem zbZ.calls  (r : List (List ByteArray)) (w : World) (h : zbZ.f  = some r) :
  Calls Try.prog 63 #[] w fun e w' => ∃ v0_ : Value, e = .returned (v0_) ∧ Kd.N (Kd.slice 9 Kd.string) 22 w' w.heap.size (fun k_ => (w.heap.size ≤ k_)) v0_ r ∧ Below w.heap.size w w' := by
 have HB := za.mk (Below.refl w.heap.size w)
 have H : (some (([(([(⟨#[97, 110, 110, 97]⟩ : ByteArray), (⟨#[98, 101, 110]⟩ : ByteArray)] : List ByteArray)), (([(⟨#[97, 110, 110, 97]⟩ : ByteArray), (⟨#[99, 121, 100]⟩ : ByteArray)] : List ByteArray))] : List (List ByteArray)))) = some r := h
 clear h
 obtain ⟨y178, hy178⟩ : ∃ y_ : List ByteArray, y_ = (([(⟨#[97, 110, 110, 97]⟩ : ByteArray), (⟨#[98, 101, 110]⟩ : ByteArray)] : List ByteArray)) := ⟨_, rfl⟩
 replace H : (some (([y178, (([(⟨#[97, 110, 110, 97]⟩ : ByteArray), (⟨#[99, 121, 100]⟩ : ByteArray)] : List ByteArray))] : List (List ByteArray)))) = some r := by first | (rw [hy178]; with_reducible exact H) | (have H2_ := (Option.bind_some _ _).symm.trans H; rw [hy178]; with_reducible exact H2_) | (have H2_ := (Option.bind_some _ _).symm.trans H; with_reducible exact H2_) | with_reducible exact H | (rw [hy178]; exact H) | exact H
 have Ny178 := za.mk hy178
 clear hy178
 obtain ⟨y181, hy181⟩ : ∃ y_ : List ByteArray, y_ = (([(⟨#[97, 110, 110, 97]⟩ : ByteArray), (⟨#[99, 121, 100]⟩ : ByteArray)] : List ByteArray)) := ⟨_, rfl⟩
 replace H : (some (([y178, y181] : List (List ByteArray)))) = some r := by first | (rw [hy181]; with_reducible exact H) | (have H2_ := (Option.bind_some _ _).symm.trans H; rw [hy181]; with_reducible exact H2_) | (have H2_ := (Option.bind_some _ _).symm.trans H; with_reducible exact H2_) | with_reducible exact H | (rw [hy181]; exact H) | exact H
 have Ny181 := za.mk hy181
 clear hy181
 obtain ⟨y184, hy184⟩ : ∃ y_ : List (List ByteArray), y_ = (([y178, y181] : List (List ByteArray))) := ⟨_, rfl⟩
 replace H : (some y184) = some r := by first | (rw [hy184]; with_reducible exact H) | (have H2_ := (Option.bind_some _ _).symm.trans H; rw [hy184]; with_reducible exact H2_) | (have H2_ := (Option.bind_some _ _).symm.trans H; with_reducible exact H2_) | with_reducible exact H | (rw [hy184]; exact H) | exact H
 have Ny184 := za.mk hy184
 clear hy184
 obtain rfl := Option.some.inj H
 go_enter Try.func63, Try.ntmps63
 go_wp2_with (first | ((with_reducible refine zar (N := 1) rfl ?_); refine Kd.zdV Kd.string _ 9 ?hg (N := 1) ?hd (xs := ([(⟨#[97, 110, 110, 97]⟩ : ByteArray), (⟨#[98, 101, 110]⟩ : ByteArray)] : List ByteArray)) (inner := [.string (⟨#[97, 110, 110, 97]⟩ : ByteArray), .string (⟨#[98, 101, 110]⟩ : ByteArray)]) (ok := fun _ => True) (okp := fun _ => True) ?hr ?hp (fun _ hk => hk) trivial (Below.refl _ _) (Nat.le_refl _) (by simp) ?_; (case hd => rfl); (case hg => rfl); (case hr => first | (go_simp; done) | (go_simp; rfl)); (case hp => exact (zZ.one (show Kd.M Kd.string _ _ _ (⟨#[97, 110, 110, 97]⟩ : ByteArray) [.string (⟨#[97, 110, 110, 97]⟩ : ByteArray)] from rfl) (zZ.one (show Kd.M Kd.string _ _ _ (⟨#[98, 101, 110]⟩ : ByteArray) [.string (⟨#[98, 101, 110]⟩ : ByteArray)] from rfl) (zZ.none _ _)))); intro v179 w1 ho2 hb hg_ hnew_; clear hg_ hnew_; (first | rw [← Ny178.out] at ho2 | (simp only [Int.reduceToNat] at ho2; rw [← Ny178.out] at ho2)); have n0_ := za.mk (Kd.zaQ (Kd.zhc (M := fun k_ => (w.heap.size ≤ k_)) ho2 (zC (by repeat (first | (with_reducible first | exact HB.out | apply ze | apply zb | apply zf) | exact HB.out))) (fun k_ h_ => h_)) (zC (by repeat (first | (with_reducible first | exact HB.out | apply ze | apply zb | apply zf) | exact HB.out)))); have n1_ := za.mk (zo (by repeat (first | (with_reducible first | exact HB.out | apply ze | apply zb | apply zf) | exact HB.out)) hb); clear HB; have HO180 := n0_; have HB := n1_; clear n0_ n1_; clear hb ho2) | ((with_reducible refine zar (N := 2) rfl ?_); refine Kd.zdV Kd.string _ 9 ?hg (N := 2) ?hd (xs := ([(⟨#[97, 110, 110, 97]⟩ : ByteArray), (⟨#[99, 121, 100]⟩ : ByteArray)] : List ByteArray)) (inner := [.string (⟨#[97, 110, 110, 97]⟩ : ByteArray), .string (⟨#[99, 121, 100]⟩ : ByteArray)]) (ok := fun _ => True) (okp := fun _ => True) ?hr ?hp (fun _ hk => hk) trivial (Below.refl _ _) (Nat.le_refl _) (by simp) ?_; (case hd => rfl); (case hg => rfl); (case hr => first | (go_simp; done) | (go_simp; rfl)); (case hp => exact (zZ.one (show Kd.M Kd.string _ _ _ (⟨#[97, 110, 110, 97]⟩ : ByteArray) [.string (⟨#[97, 110, 110, 97]⟩ : ByteArray)] from rfl) (zZ.one (show Kd.M Kd.string _ _ _ (⟨#[99, 121, 100]⟩ : ByteArray) [.string (⟨#[99, 121, 100]⟩ : ByteArray)] from rfl) (zZ.none _ _)))); intro v182 w3 ho4 hb hg_ hnew_; clear hg_ hnew_; (first | rw [← Ny181.out] at ho4 | (simp only [Int.reduceToNat] at ho4; rw [← Ny181.out] at ho4)); have n0_ := za.mk (Kd.zhy (by (with_reducible repeat (first | apply Kd.zah | apply Kd.zaf | apply Kd.zau)); exact HO180.out) (Kd.zin ho4) hb); have n1_ := za.mk (Kd.zaQ (Kd.zio (Kd.zhc (M := fun k_ => (w.heap.size ≤ k_)) ho4 (zC (by repeat (first | (with_reducible first | exact HB.out | apply ze | apply zb | apply zf) | exact HB.out))) (fun k_ h_ => h_)) (Kd.zic (by (with_reducible repeat (first | apply Kd.zah | apply Kd.zaf | apply Kd.zau)); exact HO180.out))) (zC (by repeat (first | (with_reducible first | exact HB.out | apply ze | apply zb | apply zf) | exact HB.out)))); have n2_ := za.mk (zo (by repeat (first | (with_reducible first | exact HB.out | apply ze | apply zb | apply zf) | exact HB.out)) hb); clear HO180; clear HB; have HO180 := n0_; have HO183 := n1_; have HB := n2_; clear n0_ n1_ n2_; clear hb ho4; obtain ⟨Ao5, co5, eo5⟩ := Kd.zbq HO180.out; subst eo5; obtain ⟨Ao6, co6, eo6⟩ := Kd.zbq HO183.out; subst eo6) | ((with_reducible refine zar (N := 3) rfl ?_); refine Kd.ziA (Kd.slice 9 Kd.string) _ 22 ?hg (N' := 3) ?hd (xs := ([y178, y181] : List (List ByteArray))) (inner := [.slice Ao5 y178.length co5, .slice Ao6 y181.length co6]) (ok := (fun k_ => (w.heap.size ≤ k_))) (okp := (fun k_ => (w.heap.size ≤ k_))) ?hr ?hp (fun _ hk => hk) ((show ∀ k_, w3.heap.size ≤ k_ → (fun k_ => (w.heap.size ≤ k_)) k_ from fun k_ hk => (Nat.le_trans (zC (by repeat (first | (with_reducible first | exact HB.out | apply ze | apply zb | apply zf) | exact HB.out))) hk)) _ (Nat.le_refl _)) (Below.refl _ _) (Nat.le_refl _) (by simp) ?_; (case hd => rfl); (case hg => rfl); (case hr => first | (go_simp; done) | (go_simp; rfl)); (case hp => exact (zZ.one (show Kd.FK (Kd.slice 9 Kd.string) _ _ y178 [.slice Ao5 y178.length co5] from (Kd.zeo (Kd.zbR (Kd.zaP (ok' := (fun k_ => (w.heap.size ≤ k_))) (HO180.out) (fun k_ hk => hk.1.1))).2.1 (Kd.R_F (Kd.zaP (ok' := (fun k_ => (w.heap.size ≤ k_))) (HO180.out) (fun k_ hk => hk.1.1))))) (zZ.one (show Kd.FK (Kd.slice 9 Kd.string) _ _ y181 [.slice Ao6 y181.length co6] from (Kd.zeo (Kd.zbR (Kd.zaP (ok' := (fun k_ => (w.heap.size ≤ k_))) (HO183.out) (fun k_ hk => hk.1.1))).2.1 (Kd.R_F (Kd.zaP (ok' := (fun k_ => (w.heap.size ≤ k_))) (HO183.out) (fun k_ hk => hk.1.1))))) (zZ.none _ _)))); intro v185 w7 ho8 hb hg_ hnew_; clear hg_ hnew_; (first | rw [← Ny184.out] at ho8 | (simp only [Int.reduceToNat] at ho8; rw [← Ny184.out] at ho8)); have n0_ := za.mk (Kd.zhX ho8 (zC (by repeat (first | (with_reducible first | exact HB.out | apply ze | apply zb | apply zf) | exact HB.out)))); have n1_ := za.mk (zo (by repeat (first | (with_reducible first | exact HB.out | apply ze | apply zb | apply zf) | exact HB.out)) hb); clear HB; clear HO180; clear HO183; have HO186 := n0_; have HB := n1_; clear n0_ n1_; clear hb ho8))
 go_ret
 exact ⟨_, by first | rfl | (simp [zu, zt] <;> rfl) | (simp [*, zu, zt] <;> rfl), by (with_reducible repeat (first | apply Kd.zhT | apply Kd.zh4 | apply Kd.zir)); exact HO186.out, by repeat (first | (with_reducible first | exact HB.out | apply ze | apply zb | apply zf) | exact HB.out)⟩
def zam.l0 : Nat → List Int → List Int → Int → Option (Bool)
 | 0, _, _, _ => none
 | k + 1, x0, x1, x5 => if x5 < (x0.length : Int) then (if 0 ≤ x5 then (if x5 < (x1.length : Int) then (if (rd x0 x5) = (rd x1 x5) then (zam.l0 k x0 x1 (wrap64 (x5 + 1))) else (some false)) else (none)) else (none)) else (some true)
def zam.f (k : Nat) (l0 : List Int) (l1 : List Int) : Option (Bool) := if (l0.length : Int) = (l1.length : Int) then (zam.l0 k l0 l1 0) else (some false)
set_option maxHeartbeats 8000000 in
set_option maxRecDepth 100000 in
theorem zam.calls (k : Nat) (A0 : Option Addr) (c0 : Nat) (l0 : List Int) (A1 : Option Addr) (c1 : Nat) (l1 : List Int) (r : Bool) (w : World) (hr0 : Kd.C (Kd.int .i64) w A0 l0.length l0) (hc0 : l0.length ≤ c0) (hr1 : Kd.C (Kd.int .i64) w A1 l1.length l1) (hc1 : l1.length ≤ c1) (h : zam.f k l0 l1 = some r) :
  Calls Try.prog 31 #[.slice A0 l0.length c0, .slice A1 l1.length c1] w fun e w' => e = .returned (.bool r) ∧ zx w w' := by
 have HR0 := za.mk hr0
 have HC0 := za.mk hc0
 clear hr0 hc0
 have HR1 := za.mk hr1
 have HC1 := za.mk hc1
 clear hr1 hc1
 have H : (if (l0.length : Int) = (l1.length : Int) then (zam.l0 k l0 l1 0) else (some false)) = some r := h
 clear h
 by_cases c3 : (l0.length : Int) = (l1.length : Int)
 ·rw [if_pos c3] at H
  have c3b0 : ((l0.length : Int) == (l1.length : Int)) = true := beq_iff_eq.mpr c3
  have c3b1 : ((l0.length : Int) != (l1.length : Int)) = false := bne_eq_false_iff_eq.mpr c3
  have c3b2 : (l0.length == l1.length) = true := by first | simpa using c3 | (simp at c3 ⊢; omega)
  clear c3
  have H' := za.mk H
  clear H
  go_enter Try.func31, Try.ntmps31
  go_wp2
  repeat (go_quiet (fail); try go_wp2)
  go_loopg [5] k (fun kq v5 w' => ∃ (x5_1 : Int), v5 = .int .i64 x5_1 ∧ za (zam.l0 kq l0 l1 x5_1 = some r) ∧ za (kq ≤ k) ∧ zx w w')
  case atStart => exact ⟨(0), (by first | rfl | (simp; done) | (simp [*]; done)), H', ⟨Nat.le_refl _⟩, by repeat (first | exact zx.refl _ | apply zx.step)⟩
  case round =>
   clear H'
   try clear c1
   try clear p2
   try clear c3
   try clear c3b0
   try clear c3b1
   try clear c3b2
   obtain ⟨x5_1, rfl, HA, HK1, ⟨m1, rfl⟩⟩ := hrel
   cases gk with
   | zero => exact absurd HA.out (by simp [zam.l0])
   | succ k1 =>
    have H := HA.out
    clear HA
    simp only [zam.l0] at H
    by_cases c4 : x5_1 < (l0.length : Int)
    ·rw [if_pos c4] at H
     have c4b0 : decide (x5_1 < (l0.length : Int)) = true := decide_eq_true c4
     clear c4
     by_cases c5 : 0 ≤ x5_1
     ·rw [if_pos c5] at H
      have c5b0 : decide (0 ≤ x5_1) = true := decide_eq_true c5
      clear c5
      by_cases c6 : x5_1 < (l1.length : Int)
      ·rw [if_pos c6] at H
       have c6b0 : decide (x5_1 < (l1.length : Int)) = true := decide_eq_true c6
       clear c6
       by_cases c7 : (rd l0 x5_1) = (rd l1 x5_1)
       ·rw [if_pos c7] at H
        have c7b0 : ((rd l0 x5_1) == (rd l1 x5_1)) = true := beq_iff_eq.mpr c7
        have c7b1 : ((rd l0 x5_1) != (rd l1 x5_1)) = false := bne_eq_false_iff_eq.mpr c7
        clear c7
        have H' := za.mk H
        clear H
        have p124 : 0 ≤ (x5_1 : Int) := of_decide_eq_true (by first | (with_reducible assumption) | assumption)
        have q124 : x5_1 < (l0.length : Int) := of_decide_eq_true (by first | (with_reducible assumption) | assumption)
        obtain ⟨ad124, e124, hx124_0⟩ := Kd.zcL HR0.out x5_1 p124 q124
        cases e124
        replace p124 := eq_true p124
        replace q124 := eq_true q124
        have p125 : 0 ≤ (x5_1 : Int) := of_decide_eq_true (by first | (with_reducible assumption) | assumption)
        have q125 : x5_1 < (l1.length : Int) := of_decide_eq_true (by first | (with_reducible assumption) | assumption)
        obtain ⟨ad125, e125, hx125_0⟩ := Kd.zcL HR1.out x5_1 p125 q125
        cases e125
        replace p125 := eq_true p125
        replace q125 := eq_true q125
        go_wp2
        repeat (go_quiet (fail); try go_wp2)
        go_roundg k1
        case measure => have := HK1.out; omega
        case rel => exact ⟨(wrap64 (x5_1 + 1)), (by first | rfl | (simp; done) | (simp [*]; done)), H', ⟨by have := HK1.out; omega⟩, by repeat (first | exact zx.refl _ | apply zx.step)⟩
       ·rw [if_neg c7] at H
        have c7b0 : ((rd l0 x5_1) == (rd l1 x5_1)) = false := beq_eq_false_iff_ne.mpr c7
        have c7b1 : ((rd l0 x5_1) != (rd l1 x5_1)) = true := bne_iff_ne.mpr c7
        obtain rfl := Option.some.inj H
        have p124 : 0 ≤ (x5_1 : Int) := of_decide_eq_true (by first | (with_reducible assumption) | assumption)
        have q124 : x5_1 < (l0.length : Int) := of_decide_eq_true (by first | (with_reducible assumption) | assumption)
        obtain ⟨ad124, e124, hx124_0⟩ := Kd.zcL HR0.out x5_1 p124 q124
        cases e124
        replace p124 := eq_true p124
        replace q124 := eq_true q124
        have p125 : 0 ≤ (x5_1 : Int) := of_decide_eq_true (by first | (with_reducible assumption) | assumption)
        have q125 : x5_1 < (l1.length : Int) := of_decide_eq_true (by first | (with_reducible assumption) | assumption)
        obtain ⟨ad125, e125, hx125_0⟩ := Kd.zcL HR1.out x5_1 p125 q125
        cases e125
        replace p125 := eq_true p125
        replace q125 := eq_true q125
        go_wp2
        repeat (go_quiet (fail); try go_wp2)
        go_ret
        exact ⟨by first | rfl | (simp; done) | (simp [*]; done), by repeat (first | exact zx.refl _ | apply zx.step)⟩
      ·rw [if_neg c6] at H
       exact absurd H (by simp)
     ·rw [if_neg c5] at H
      exact absurd H (by simp)
    ·rw [if_neg c4] at H
     have c4b0 : decide (x5_1 < (l0.length : Int)) = false := decide_eq_false c4
     clear c4
     obtain rfl := Option.some.inj H
     go_wp2
     repeat (go_quiet (fail); try go_wp2)
     go_ret
     exact ⟨by first | rfl | (simp; done) | (simp [*]; done), by repeat (first | exact zx.refl _ | apply zx.step)⟩
 ·rw [if_neg c3] at H
  have c3b0 : ((l0.length : Int) == (l1.length : Int)) = false := beq_eq_false_iff_ne.mpr c3
  have c3b1 : ((l0.length : Int) != (l1.length : Int)) = true := bne_iff_ne.mpr c3
  have c3b2 : (l0.length == l1.length) = false := by first | simpa using c3 | (simp at c3 ⊢; omega)
  obtain rfl := Option.some.inj H
  go_enter Try.func31, Try.ntmps31
  go_wp2
  repeat (go_quiet (fail); try go_wp2)
  go_ret
  exact ⟨by first | rfl | (simp; done) | (simp [*]; done), by repeat (first | exact zx.refl _ | apply zx.step)⟩
def zav.l0 : Nat → List Int → Int → Int → Int → Option (Int)
 | 0, _, _, _, _ => none
 | k + 1, x0, x1, x7, x8 => if x8 < x7 then (if 0 ≤ x8 then (if x8 < (x0.length : Int) then (if x1 = (rd x0 x8) then (some x8) else (zav.l0 k x0 x1 x7 (wrap64 (x8 + 1)))) else (none)) else (none)) else (some (-1))
def zav.f (k : Nat) (l0 : List Int) (a1 : Int) : Option (Int) := zav.l0 k l0 a1 (l0.length : Int) 0
set_option maxHeartbeats 8000000 in
set_option maxRecDepth 100000 in
theorem zav.calls (k : Nat) (A0 : Option Addr) (c0 : Nat) (l0 : List Int) (a1 : Int) (r : Int) (w : World) (hr0 : Kd.C (Kd.int .i64) w A0 l0.length l0) (hc0 : l0.length ≤ c0) (h : zav.f k l0 a1 = some r) :
  Calls Try.prog 121 #[.slice A0 l0.length c0, .int .i64 a1] w fun e w' => e = .returned (.int .i64 r) ∧ zx w w' := by
 have HR0 := za.mk hr0
 have HC0 := za.mk hc0
 clear hr0 hc0
 have H : (zav.l0 k l0 a1 (l0.length : Int) 0) = some r := h
 clear h
 have H' := za.mk H
 clear H
 go_enter Try.func121, Try.ntmps121
 go_wp2
 go_loopg [8] k (fun kq v8 w' => ∃ (x8_1 : Int), v8 = .int .i64 x8_1 ∧ za (zav.l0 kq l0 a1 (l0.length : Int) x8_1 = some r) ∧ za (kq ≤ k) ∧ zx w w')
 case atStart => exact ⟨(0), (by first | rfl | (simp; done) | (simp [*]; done)), H', ⟨Nat.le_refl _⟩, by repeat (first | exact zx.refl _ | apply zx.step)⟩
 case round =>
  clear H'
  try clear c1
  try clear p2
  obtain ⟨x8_1, rfl, HA, HK1, ⟨m1, rfl⟩⟩ := hrel
  cases gk with
  | zero => exact absurd HA.out (by simp [zav.l0])
  | succ k1 =>
   have H := HA.out
   clear HA
   simp only [zav.l0] at H
   by_cases c3 : x8_1 < (l0.length : Int)
   ·rw [if_pos c3] at H
    have c3b0 : decide (x8_1 < (l0.length : Int)) = true := decide_eq_true c3
    clear c3
    by_cases c4 : 0 ≤ x8_1
    ·rw [if_pos c4] at H
     have c4b0 : decide (0 ≤ x8_1) = true := decide_eq_true c4
     clear c4
     by_cases c5 : x8_1 < (l0.length : Int)
     ·rw [if_pos c5] at H
      have c5b0 : decide (x8_1 < (l0.length : Int)) = true := decide_eq_true c5
      clear c5
      by_cases c6 : a1 = (rd l0 x8_1)
      ·rw [if_pos c6] at H
       have c6b0 : (a1 == (rd l0 x8_1)) = true := beq_iff_eq.mpr c6
       have c6b1 : (a1 != (rd l0 x8_1)) = false := bne_eq_false_iff_eq.mpr c6
       clear c6
       obtain rfl := Option.some.inj H
       have p125 : 0 ≤ (x8_1 : Int) := of_decide_eq_true (by first | (with_reducible assumption) | assumption)
       have q125 : x8_1 < (l0.length : Int) := of_decide_eq_true (by first | (with_reducible assumption) | assumption)
       obtain ⟨ad125, e125, hx125_0⟩ := Kd.zcL HR0.out x8_1 p125 q125
       cases e125
       replace p125 := eq_true p125
       replace q125 := eq_true q125
       go_wp2
       go_ret
       exact ⟨by first | rfl | (simp; done) | (simp [*]; done), by repeat (first | exact zx.refl _ | apply zx.step)⟩
      ·rw [if_neg c6] at H
       have c6b0 : (a1 == (rd l0 x8_1)) = false := beq_eq_false_iff_ne.mpr c6
       have c6b1 : (a1 != (rd l0 x8_1)) = true := bne_iff_ne.mpr c6
       have H' := za.mk H
       clear H
       have p125 : 0 ≤ (x8_1 : Int) := of_decide_eq_true (by first | (with_reducible assumption) | assumption)
       have q125 : x8_1 < (l0.length : Int) := of_decide_eq_true (by first | (with_reducible assumption) | assumption)
       obtain ⟨ad125, e125, hx125_0⟩ := Kd.zcL HR0.out x8_1 p125 q125
       cases e125
       replace p125 := eq_true p125
       replace q125 := eq_true q125
       go_wp2
       go_roundg k1
       case measure => have := HK1.out; omega
       case rel => exact ⟨(wrap64 (x8_1 + 1)), (by first | rfl | (simp; done) | (simp [*]; done)), H', ⟨by have := HK1.out; omega⟩, by repeat (first | exact zx.refl _ | apply zx.step)⟩
     ·rw [if_neg c5] at H
      exact absurd H (by simp)
    ·rw [if_neg c4] at H
     exact absurd H (by simp)
   ·rw [if_neg c3] at H
    have c3b0 : decide (x8_1 < (l0.length : Int)) = false := decide_eq_false c3
    clear c3
    obtain rfl := Option.some.inj H
    go_wp2
    go_ret
    exact ⟨by first | rfl | (simp; done) | (simp [*]; done), by repeat (first | exact zx.refl _ | apply zx.step)⟩
def zbf.f (k : Nat) (l0 : List Int) (a1 : Int) : Option (Bool) := (zav.f k l0 a1).bind fun t126 => (some (decide (t126 ≥ 0)))
set_option maxHeartbeats 8000000 in
set_option maxRecDepth 100000 in
theorem zbf.calls (k : Nat) (A0 : Option Addr) (c0 : Nat) (l0 : List Int) (a1 : Int) (r : Bool) (w : World) (hr0 : Kd.C (Kd.int .i64) w A0 l0.length l0) (hc0 : l0.length ≤ c0) (h : zbf.f k l0 a1 = some r) :
  Calls Try.prog 101 #[.slice A0 l0.length c0, .int .i64 a1] w fun e w' => e = .returned (.bool r) ∧ zx w w' := by
 have HR0 := za.mk hr0
 have HC0 := za.mk hc0
 clear hr0 hc0
 have H : ((zav.f k l0 a1).bind fun t126 => (some (decide (t126 ≥ 0)))) = some r := h
 clear h
 replace H := Option.bind_eq_some_iff.mp H
 obtain ⟨t126, A30, H⟩ := H
 replace H : (some (decide (t126 ≥ 0))) = some r := H
 have A3 := za.mk A30
 clear A30
 obtain rfl := Option.some.inj H
 go_enter Try.func101, Try.ntmps101
 go_wp2_with (first | ((with_reducible refine zB (f := 121) rfl ?_); refine zS (some 7) rfl rfl Try.func121 (by kernel_rfl) rfl #[.slice A0 l0.length c0, .int .i64 a1] rfl (by (try simp only [List.map_toArray, List.map_cons, List.map_nil]); first | done | rfl | (simp only [List.length_drop, List.length_take]; rfl)) ?_; (with_reducible refine (zav.calls k _ _ l0 a1 t126 _ ?side1 ?side2 A3.out).mono ?_); (case side1 => repeat (first | exact HR0.out | (with_reducible refine Kd.zY ?_ _) | (with_reducible refine Kd.zX ?_ _) | (with_reducible refine Kd.zai ?_))); (case side2 => exact HC0.out); rintro e w' ⟨rfl, ⟨nd, rfl⟩⟩; refine ⟨_, rfl, ?_⟩))
 go_ret
 exact ⟨by first | rfl | (simp; done) | (simp [*]; done), by repeat (first | exact zx.refl _ | apply zx.step)⟩
mutual
def zy.j0 : Nat → List (S63) → Int → Bool → Int → Int → ByteArray → Option (Int)
 | 0, _, _, _, _, _, _ => none
 | k + 1, x1, x2, x34, x274000, x274001, x274002 => if x34 = true then (some 3) else (if x274000 = 3 then (if x274002.toList = ([] : List UInt8) then (zy.j1 k x1 x2 x274000 x274001 x274002) else (some 2)) else ((zQ.f k x274002).bind fun t276 => (if t276 = 0 then (zy.j1 k x1 x2 x274000 x274001 x274002) else (some t276))))
def zy.j1 : Nat → List (S63) → Int → Int → Int → ByteArray → Option (Int)
 | 0, _, _, _, _, _ => none
 | k + 1, x1, x2, x274000, x274001, x274002 => if x2 = 0 then (some 0) else (if 0 ≤ (wrap64 (x2 - 1)) then (if (wrap64 (x2 - 1)) < (x1.length : Int) then (if x274001 < ((zh x1 (wrap64 (x2 - 1))).f1) then (some 5) else (if x274001 > ((zh x1 (wrap64 (x2 - 1))).f1) then (zy.j2 k true x274000 x274001 x274002) else (zy.j2 k (((zh x1 (wrap64 (x2 - 1))).f0) == 1) x274000 x274001 x274002))) else (none)) else (none))
def zy.j2 : Nat → Bool → Int → Int → ByteArray → Option (Int)
 | 0, _, _, _, _ => none
 | k + 1, x60, x274000, x274001, x274002 => if x60 = true then (some 0) else (if x274000 = 1 then (some 5) else (some 4))
end
def zy.f (k : Nat) (a0 : Int) (l1 : List (S63)) (a2 : Int) : Option (Int) := if 0 ≤ a2 then (if a2 < (l1.length : Int) then ((zax.f ((zh l1 a2).f0) 1 3).bind fun t274 => (if t274 = true then ((zax.f ((zh l1 a2).f1) 0 (wrap64 (a0 - 1))).bind fun t275 => (if t275 = true then (zy.j0 k l1 a2 false ((zh l1 a2).f0) ((zh l1 a2).f1) ((zh l1 a2).f2)) else (if ((zh l1 a2).f0) = 1 then (zy.j0 k l1 a2 (((zh l1 a2).f1) != a0) ((zh l1 a2).f0) ((zh l1 a2).f1) ((zh l1 a2).f2)) else (zy.j0 k l1 a2 true ((zh l1 a2).f0) ((zh l1 a2).f1) ((zh l1 a2).f2))))) else (some 8))) else (none)) else (none)
set_option maxHeartbeats 8000000 in
set_option maxRecDepth 100000 in
theorem zy.calls (k : Nat) (a0 : Int) (A1 : Option Addr) (c1 : Nat) (l1 : List (S63)) (a2 : Int) (r : Int) (w : World) (hr1 : Kd.C k63 w A1 l1.length l1) (hc1 : l1.length ≤ c1) (h : zy.f k a0 l1 a2 = some r) :
  Calls Try.prog 112 #[.int .i64 a0, .slice A1 l1.length c1, .int .i64 a2] w fun e w' => e = .returned (.int .i64 r) ∧ Below w.heap.size w w' := by
 have hu63 := Try.underlying63
 have HR1 := za.mk hr1
 have HC1 := za.mk hc1
 clear hr1 hc1
 have HB := za.mk (Below.refl w.heap.size w)
 have H : (if 0 ≤ a2 then (if a2 < (l1.length : Int) then ((zax.f ((zh l1 a2).f0) 1 3).bind fun t274 => (if t274 = true then ((zax.f ((zh l1 a2).f1) 0 (wrap64 (a0 - 1))).bind fun t275 => (if t275 = true then (zy.j0 k l1 a2 false ((zh l1 a2).f0) ((zh l1 a2).f1) ((zh l1 a2).f2)) else (if ((zh l1 a2).f0) = 1 then (zy.j0 k l1 a2 (((zh l1 a2).f1) != a0) ((zh l1 a2).f0) ((zh l1 a2).f1) ((zh l1 a2).f2)) else (zy.j0 k l1 a2 true ((zh l1 a2).f0) ((zh l1 a2).f1) ((zh l1 a2).f2))))) else (some 8))) else (none)) else (none)) = some r := h
 clear h
 by_cases c4 : 0 ≤ a2
 ·rw [if_pos c4] at H
  have c4b0 : decide (0 ≤ a2) = true := decide_eq_true c4
  clear c4
  by_cases c5 : a2 < (l1.length : Int)
  ·rw [if_pos c5] at H
   have c5b0 : decide (a2 < (l1.length : Int)) = true := decide_eq_true c5
   clear c5
   replace H := Option.bind_eq_some_iff.mp H
   obtain ⟨t274, A60, H⟩ := H
   replace H : (if t274 = true then ((zax.f ((zh l1 a2).f1) 0 (wrap64 (a0 - 1))).bind fun t275 => (if t275 = true then (zy.j0 k l1 a2 false ((zh l1 a2).f0) ((zh l1 a2).f1) ((zh l1 a2).f2)) else (if ((zh l1 a2).f0) = 1 then (zy.j0 k l1 a2 (((zh l1 a2).f1) != a0) ((zh l1 a2).f0) ((zh l1 a2).f1) ((zh l1 a2).f2)) else (zy.j0 k l1 a2 true ((zh l1 a2).f0) ((zh l1 a2).f1) ((zh l1 a2).f2))))) else (some 8)) = some r := H
   have A6 := za.mk A60
   clear A60
   by_cases c7 : t274 = true
   ·subst c7
    have H1 : ((zax.f ((zh l1 a2).f1) 0 (wrap64 (a0 - 1))).bind fun t275 => (if t275 = true then (zy.j0 k l1 a2 false ((zh l1 a2).f0) ((zh l1 a2).f1) ((zh l1 a2).f2)) else (if ((zh l1 a2).f0) = 1 then (zy.j0 k l1 a2 (((zh l1 a2).f1) != a0) ((zh l1 a2).f0) ((zh l1 a2).f1) ((zh l1 a2).f2)) else (zy.j0 k l1 a2 true ((zh l1 a2).f0) ((zh l1 a2).f1) ((zh l1 a2).f2))))) = some r := by rw [if_pos rfl] at H; exact H
    clear H
    have H := H1
    clear H1
    have HC8 := za.mk H
    clear H
    have p272 : 0 ≤ (a2 : Int) := of_decide_eq_true (by first | (with_reducible assumption) | assumption)
    have q272 : a2 < (l1.length : Int) := of_decide_eq_true (by first | (with_reducible assumption) | assumption)
    obtain ⟨ad272, e272, hx272_0, hx272_1, hx272_2⟩ := zbt HR1.out a2 p272 q272
    cases e272
    replace p272 := eq_true p272
    replace q272 := eq_true q272
    go_enter Try.func112, Try.ntmps112
    go_upto_region 4 with (first | ((with_reducible refine zar (N := 7) rfl ?_); refine zaF ?hg (N := 7) ?hd (cs := #[.int .i64 0, .int .i64 0, .string (⟨#[]⟩ : ByteArray)]) (t := 63) ?hr ?_; (case hd => rfl); (case hg => rfl); (case hr => first | (go_simp; done) | (go_simp; rfl)); intro gb273 hg w9 hbox hb; have n0_ := za.mk (zo (by repeat (first | (with_reducible first | exact HB.out | apply ze | apply zb | apply zf) | exact HB.out)) hb); have n1_ := za.mk (hbox); have n2_ := za.mk ((by rw [hg]; exact (zC (by repeat (first | (with_reducible first | exact HB.out | apply ze | apply zb | apply zf) | exact HB.out))) : w.heap.size ≤ gb273)); have n3_ := za.mk ((by rw [hg]; exact (zC (by repeat (first | (with_reducible first | exact HB.out | apply ze | apply zb | apply zf) | exact HB.out))) : w.heap.size ≤ gb273)); clear HB; have HB := n0_; have BK273 := n1_; have GW273 := n2_; have GE273 := n3_; clear n0_ n1_ n2_ n3_; clear hb hbox hg; have hcz10_0 : w9.cell? ⟨gb273, 0, none⟩ = some (.int .i64 0) := (zg BK273.out 0).trans rfl; have hcz10_1 : w9.cell? ⟨gb273, 1, none⟩ = some (.int .i64 0) := (zg BK273.out 1).trans rfl; have hcz10_2 : w9.cell? ⟨gb273, 2, none⟩ = some (.string (⟨#[]⟩ : ByteArray)) := (zg BK273.out 2).trans rfl; have hfz10_0 := zn BK273.out 0; have hfz10_1 := zn BK273.out 1; have hfz10_2 := zn BK273.out 2) | ((with_reducible refine zB (f := 128) rfl ?_); refine zS (some 16) rfl rfl Try.func128 (by kernel_rfl) rfl #[.int .i64 ((zh l1 a2).f0), .int .i64 1, .int .i64 3] rfl (by (try simp only [List.map_toArray, List.map_cons, List.map_nil]); first | done | rfl | (simp only [List.length_drop, List.length_take]; rfl)) ?_; (with_reducible refine (zax.calls ((zh l1 a2).f0) 1 3 true _ A6.out).mono ?_); rintro e w' ⟨rfl, ⟨nd, rfl⟩⟩; refine ⟨_, rfl, ?_⟩))
    (try simp only [Act.put, List.setIfInBounds_toArray, List.set_cons_zero, List.set_cons_succ])
    go_cut [34] (fun v34 wc => ∃ (kq : Nat) (x34_7 : Bool), v34 = .bool x34_7 ∧ za (zy.j0 kq l1 a2 x34_7 ((zh l1 a2).f0) ((zh l1 a2).f1) ((zh l1 a2).f2) = some r) ∧ za (kq ≤ k) ∧ za (wc.heap[gb273]? = some (.cells #[.int .i64 ((zh l1 a2).f0), .int .i64 ((zh l1 a2).f1), .string ((zh l1 a2).f2)] 63 (0, 0))) ∧ za (Below w.heap.size w wc))
    case first =>
     have H := HC8.out
     clear HC8
     replace H := Option.bind_eq_some_iff.mp H
     obtain ⟨t275, A110, H⟩ := H
     replace H : (if t275 = true then (zy.j0 k l1 a2 false ((zh l1 a2).f0) ((zh l1 a2).f1) ((zh l1 a2).f2)) else (if ((zh l1 a2).f0) = 1 then (zy.j0 k l1 a2 (((zh l1 a2).f1) != a0) ((zh l1 a2).f0) ((zh l1 a2).f1) ((zh l1 a2).f2)) else (zy.j0 k l1 a2 true ((zh l1 a2).f0) ((zh l1 a2).f1) ((zh l1 a2).f2)))) = some r := H
     have A11 := za.mk A110
     clear A110
     by_cases c12 : t275 = true
     ·subst c12
      have H1 : (zy.j0 k l1 a2 false ((zh l1 a2).f0) ((zh l1 a2).f1) ((zh l1 a2).f2)) = some r := by rw [if_pos rfl] at H; exact H
      clear H
      have H := H1
      clear H1
      have H' := za.mk H
      clear H
      have hcz13_0 : w9.cell? ⟨gb273, 0, none⟩ = some (.int .i64 0) := (zg BK273.out 0).trans rfl
      have hcz13_1 : w9.cell? ⟨gb273, 1, none⟩ = some (.int .i64 0) := (zg BK273.out 1).trans rfl
      have hcz13_2 : w9.cell? ⟨gb273, 2, none⟩ = some (.string (⟨#[]⟩ : ByteArray)) := (zg BK273.out 2).trans rfl
      have hfz13_0 := zn BK273.out 0
      have hfz13_1 := zn BK273.out 1
      have hfz13_2 := zn BK273.out 2
      go_wp2_with (first | ((with_reducible refine zB (f := 128) rfl ?_); refine zS (some 22) rfl rfl Try.func128 (by kernel_rfl) rfl #[.int .i64 ((zh l1 a2).f1), .int .i64 0, .int .i64 (wrap64 (a0 - 1))] rfl (by (try simp only [List.map_toArray, List.map_cons, List.map_nil]); first | done | rfl | (simp only [List.length_drop, List.length_take]; rfl)) ?_; (with_reducible refine (zax.calls ((zh l1 a2).f1) 0 (wrap64 (a0 - 1)) true _ A11.out).mono ?_); rintro e w' ⟨rfl, ⟨nd, rfl⟩⟩; refine ⟨_, rfl, ?_⟩))
      go_meet
      case rel => exact ⟨_, (false), (by first | rfl | (simp; done) | (simp [*]; done)), H', ⟨by first | omega | exact Nat.le_refl _⟩, ⟨by (with_reducible repeat (first | refine zl ?_ _ | refine zm ?_ | refine zk ?_ _)); refine zT (cs := #[.int .i64 ((zh l1 a2).f0), .int .i64 ((zh l1 a2).f1), .string (⟨#[]⟩ : ByteArray)]) ?_ 2 _ rfl; (with_reducible repeat (first | refine zl ?_ _ | refine zm ?_ | refine zk ?_ _)); refine zT (cs := #[.int .i64 ((zh l1 a2).f0), .int .i64 0, .string (⟨#[]⟩ : ByteArray)]) ?_ 1 _ rfl; (with_reducible repeat (first | refine zl ?_ _ | refine zm ?_ | refine zk ?_ _)); refine zT (cs := #[.int .i64 0, .int .i64 0, .string (⟨#[]⟩ : ByteArray)]) ?_ 0 _ rfl; (with_reducible repeat (first | refine zl ?_ _ | refine zm ?_ | refine zk ?_ _)); exact BK273.out⟩, ⟨by repeat (first | (with_reducible first | exact HB.out | apply ze | apply zb | apply zf | refine zi ?_ GE273.out) | exact HB.out)⟩⟩
     ·replace c12 := Bool.eq_false_iff.mpr c12
      subst c12
      have H1 : (if ((zh l1 a2).f0) = 1 then (zy.j0 k l1 a2 (((zh l1 a2).f1) != a0) ((zh l1 a2).f0) ((zh l1 a2).f1) ((zh l1 a2).f2)) else (zy.j0 k l1 a2 true ((zh l1 a2).f0) ((zh l1 a2).f1) ((zh l1 a2).f2))) = some r := by rw [if_neg (show ¬ (false = true) by decide)] at H; exact H
      clear H
      have H := H1
      clear H1
      by_cases c14 : ((zh l1 a2).f0) = 1
      ·rw [if_pos c14] at H
       have c14b0 : (((zh l1 a2).f0) == 1) = true := beq_iff_eq.mpr c14
       have c14b1 : (((zh l1 a2).f0) != 1) = false := bne_eq_false_iff_eq.mpr c14
       clear c14
       (first | rw [c14b0] | (simp only [zW, zab]; rw [c14b0]) | skip)
       have H' := za.mk H
       clear H
       have hcz15_0 : w9.cell? ⟨gb273, 0, none⟩ = some (.int .i64 0) := (zg BK273.out 0).trans rfl
       have hcz15_1 : w9.cell? ⟨gb273, 1, none⟩ = some (.int .i64 0) := (zg BK273.out 1).trans rfl
       have hcz15_2 : w9.cell? ⟨gb273, 2, none⟩ = some (.string (⟨#[]⟩ : ByteArray)) := (zg BK273.out 2).trans rfl
       have hfz15_0 := zn BK273.out 0
       have hfz15_1 := zn BK273.out 1
       have hfz15_2 := zn BK273.out 2
       go_wp2_with (first | ((with_reducible refine zB (f := 128) rfl ?_); refine zS (some 22) rfl rfl Try.func128 (by kernel_rfl) rfl #[.int .i64 ((zh l1 a2).f1), .int .i64 0, .int .i64 (wrap64 (a0 - 1))] rfl (by (try simp only [List.map_toArray, List.map_cons, List.map_nil]); first | done | rfl | (simp only [List.length_drop, List.length_take]; rfl)) ?_; (with_reducible refine (zax.calls ((zh l1 a2).f1) 0 (wrap64 (a0 - 1)) false _ A11.out).mono ?_); rintro e w' ⟨rfl, ⟨nd, rfl⟩⟩; refine ⟨_, rfl, ?_⟩))
       go_meet
       case rel => exact ⟨_, ((((zh l1 a2).f1) != a0)), (by first | rfl | (simp; done) | (simp [*]; done)), H', ⟨by first | omega | exact Nat.le_refl _⟩, ⟨by (with_reducible repeat (first | refine zl ?_ _ | refine zm ?_ | refine zk ?_ _)); refine zT (cs := #[.int .i64 ((zh l1 a2).f0), .int .i64 ((zh l1 a2).f1), .string (⟨#[]⟩ : ByteArray)]) ?_ 2 _ rfl; (with_reducible repeat (first | refine zl ?_ _ | refine zm ?_ | refine zk ?_ _)); refine zT (cs := #[.int .i64 ((zh l1 a2).f0), .int .i64 0, .string (⟨#[]⟩ : ByteArray)]) ?_ 1 _ rfl; (with_reducible repeat (first | refine zl ?_ _ | refine zm ?_ | refine zk ?_ _)); refine zT (cs := #[.int .i64 0, .int .i64 0, .string (⟨#[]⟩ : ByteArray)]) ?_ 0 _ rfl; (with_reducible repeat (first | refine zl ?_ _ | refine zm ?_ | refine zk ?_ _)); exact BK273.out⟩, ⟨by repeat (first | (with_reducible first | exact HB.out | apply ze | apply zb | apply zf | refine zi ?_ GE273.out) | exact HB.out)⟩⟩
      ·rw [if_neg c14] at H
       have c14b0 : (((zh l1 a2).f0) == 1) = false := beq_eq_false_iff_ne.mpr c14
       have c14b1 : (((zh l1 a2).f0) != 1) = true := bne_iff_ne.mpr c14
       (first | rw [c14b0] | (simp only [zW, zab]; rw [c14b0]) | skip)
       have H' := za.mk H
       clear H
       have hcz16_0 : w9.cell? ⟨gb273, 0, none⟩ = some (.int .i64 0) := (zg BK273.out 0).trans rfl
       have hcz16_1 : w9.cell? ⟨gb273, 1, none⟩ = some (.int .i64 0) := (zg BK273.out 1).trans rfl
       have hcz16_2 : w9.cell? ⟨gb273, 2, none⟩ = some (.string (⟨#[]⟩ : ByteArray)) := (zg BK273.out 2).trans rfl
       have hfz16_0 := zn BK273.out 0
       have hfz16_1 := zn BK273.out 1
       have hfz16_2 := zn BK273.out 2
       go_wp2_with (first | ((with_reducible refine zB (f := 128) rfl ?_); refine zS (some 22) rfl rfl Try.func128 (by kernel_rfl) rfl #[.int .i64 ((zh l1 a2).f1), .int .i64 0, .int .i64 (wrap64 (a0 - 1))] rfl (by (try simp only [List.map_toArray, List.map_cons, List.map_nil]); first | done | rfl | (simp only [List.length_drop, List.length_take]; rfl)) ?_; (with_reducible refine (zax.calls ((zh l1 a2).f1) 0 (wrap64 (a0 - 1)) false _ A11.out).mono ?_); rintro e w' ⟨rfl, ⟨nd, rfl⟩⟩; refine ⟨_, rfl, ?_⟩))
       go_meet
       case rel => exact ⟨_, (true), (by first | rfl | (simp; done) | (simp [*]; done)), H', ⟨by first | omega | exact Nat.le_refl _⟩, ⟨by (with_reducible repeat (first | refine zl ?_ _ | refine zm ?_ | refine zk ?_ _)); refine zT (cs := #[.int .i64 ((zh l1 a2).f0), .int .i64 ((zh l1 a2).f1), .string (⟨#[]⟩ : ByteArray)]) ?_ 2 _ rfl; (with_reducible repeat (first | refine zl ?_ _ | refine zm ?_ | refine zk ?_ _)); refine zT (cs := #[.int .i64 ((zh l1 a2).f0), .int .i64 0, .string (⟨#[]⟩ : ByteArray)]) ?_ 1 _ rfl; (with_reducible repeat (first | refine zl ?_ _ | refine zm ?_ | refine zk ?_ _)); refine zT (cs := #[.int .i64 0, .int .i64 0, .string (⟨#[]⟩ : ByteArray)]) ?_ 0 _ rfl; (with_reducible repeat (first | refine zl ?_ _ | refine zm ?_ | refine zk ?_ _)); exact BK273.out⟩, ⟨by repeat (first | (with_reducible first | exact HB.out | apply ze | apply zb | apply zf | refine zi ?_ GE273.out) | exact HB.out)⟩⟩
    case rest =>
     clear HC8
     try clear c1
     try clear p2
     try clear q2
     try clear hx2
     try clear c4
     try clear c4b0
     try clear c5
     try clear c5b0
     try clear p6
     try clear c7
     try clear c11
     try clear c12
     try clear c14
     try clear c14b0
     try clear c14b1
     try clear hcz10_0
     try clear hcz10_1
     try clear hcz10_2
     try clear hcz13_0
     try clear hcz13_1
     try clear hcz13_2
     try clear hcz15_0
     try clear hcz15_1
     try clear hcz15_2
     try clear hcz16_0
     try clear hcz16_1
     try clear hcz16_2
     try clear hfz10_0
     try clear hfz10_1
     try clear hfz10_2
     try clear hfz13_0
     try clear hfz13_1
     try clear hfz13_2
     try clear hfz15_0
     try clear hfz15_1
     try clear hfz15_2
     try clear hfz16_0
     try clear hfz16_1
     try clear hfz16_2
     try clear hx272_0
     try clear hx272_1
     try clear hx272_2
     try clear p272
     try clear q272
     obtain ⟨kq, x34_7, rfl, HA, HJ7, BK273, HB⟩ := hcut
     cases kq with
     | zero => exact absurd HA.out (by simp [zy.j0])
     | succ kj7 =>
      have H := HA.out
      clear HA
      simp only [zy.j0] at H
      by_cases c17 : x34_7 = true
      ·subst c17
       have H1 : (some 3) = some r := by rw [if_pos rfl] at H; exact H
       clear H
       have H := H1
       clear H1
       obtain rfl := Option.some.inj H
       go_wp2
       go_ret
       exact ⟨by first | rfl | (simp [zu, zt] <;> rfl) | (simp [*, zu, zt] <;> rfl), by repeat (first | (with_reducible first | exact HB.out | apply ze | apply zb | apply zf | refine zi ?_ GE273.out) | exact HB.out)⟩
      ·replace c17 := Bool.eq_false_iff.mpr c17
       subst c17
       have H1 : (if ((zh l1 a2).f0) = 3 then (if ((zh l1 a2).f2).toList = ([] : List UInt8) then (zy.j1 kj7 l1 a2 ((zh l1 a2).f0) ((zh l1 a2).f1) ((zh l1 a2).f2)) else (some 2)) else ((zQ.f kj7 ((zh l1 a2).f2)).bind fun t276 => (if t276 = 0 then (zy.j1 kj7 l1 a2 ((zh l1 a2).f0) ((zh l1 a2).f1) ((zh l1 a2).f2)) else (some t276)))) = some r := by rw [if_neg (show ¬ (false = true) by decide)] at H; exact H
       clear H
       have H := H1
       clear H1
       have HC18 := za.mk H
       clear H
       have hcz19_0 : wc.cell? ⟨gb273, 0, none⟩ = some (.int .i64 ((zh l1 a2).f0)) := (zg BK273.out 0).trans rfl
       have hcz19_1 : wc.cell? ⟨gb273, 1, none⟩ = some (.int .i64 ((zh l1 a2).f1)) := (zg BK273.out 1).trans rfl
       have hcz19_2 : wc.cell? ⟨gb273, 2, none⟩ = some (.string ((zh l1 a2).f2)) := (zg BK273.out 2).trans rfl
       have hfz19_0 := zn BK273.out 0
       have hfz19_1 := zn BK273.out 1
       have hfz19_2 := zn BK273.out 2
       go_upto_if 37 with (fail)
       go_cut [] (fun wc => ∃ (kq : Nat), za (zy.j1 kq l1 a2 ((zh l1 a2).f0) ((zh l1 a2).f1) ((zh l1 a2).f2) = some r) ∧ za (kq ≤ kj7) ∧ za (wc.heap[gb273]? = some (.cells #[.int .i64 ((zh l1 a2).f0), .int .i64 ((zh l1 a2).f1), .string ((zh l1 a2).f2)] 63 (0, 0))) ∧ za (Below w.heap.size w wc))
       case first =>
        have H := HC18.out
        clear HC18
        by_cases c20 : ((zh l1 a2).f0) = 3
        ·rw [if_pos c20] at H
         have c20b0 : (((zh l1 a2).f0) == 3) = true := beq_iff_eq.mpr c20
         have c20b1 : (((zh l1 a2).f0) != 3) = false := bne_eq_false_iff_eq.mpr c20
         clear c20
         (first | rw [c20b0] | (simp only [zW, zab]; rw [c20b0]) | skip)
         by_cases c21 : ((zh l1 a2).f2).toList = ([] : List UInt8)
         ·rw [if_pos c21] at H
          have c21b0 : (((zh l1 a2).f2).toList == ([] : List UInt8)) = true := beq_iff_eq.mpr c21
          have c21b1 : (((zh l1 a2).f2).toList != ([] : List UInt8)) = false := bne_eq_false_iff_eq.mpr c21
          clear c21
          have H' := za.mk H
          clear H
          have hcz22_0 : wc.cell? ⟨gb273, 0, none⟩ = some (.int .i64 ((zh l1 a2).f0)) := (zg BK273.out 0).trans rfl
          have hcz22_1 : wc.cell? ⟨gb273, 1, none⟩ = some (.int .i64 ((zh l1 a2).f1)) := (zg BK273.out 1).trans rfl
          have hcz22_2 : wc.cell? ⟨gb273, 2, none⟩ = some (.string ((zh l1 a2).f2)) := (zg BK273.out 2).trans rfl
          have hfz22_0 := zn BK273.out 0
          have hfz22_1 := zn BK273.out 1
          have hfz22_2 := zn BK273.out 2
          go_wp2
          go_meet
          case rel => exact ⟨_, H', ⟨by have := HJ7.out; first | omega | exact Nat.le_refl _⟩, ⟨by (with_reducible repeat (first | refine zl ?_ _ | refine zm ?_ | refine zk ?_ _)); exact BK273.out⟩, ⟨by repeat (first | (with_reducible first | exact HB.out | apply ze | apply zb | apply zf | refine zi ?_ GE273.out) | exact HB.out)⟩⟩
         ·rw [if_neg c21] at H
          have c21b0 : (((zh l1 a2).f2).toList == ([] : List UInt8)) = false := beq_eq_false_iff_ne.mpr c21
          have c21b1 : (((zh l1 a2).f2).toList != ([] : List UInt8)) = true := bne_iff_ne.mpr c21
          obtain rfl := Option.some.inj H
          have hcz23_0 : wc.cell? ⟨gb273, 0, none⟩ = some (.int .i64 ((zh l1 a2).f0)) := (zg BK273.out 0).trans rfl
          have hcz23_1 : wc.cell? ⟨gb273, 1, none⟩ = some (.int .i64 ((zh l1 a2).f1)) := (zg BK273.out 1).trans rfl
          have hcz23_2 : wc.cell? ⟨gb273, 2, none⟩ = some (.string ((zh l1 a2).f2)) := (zg BK273.out 2).trans rfl
          have hfz23_0 := zn BK273.out 0
          have hfz23_1 := zn BK273.out 1
          have hfz23_2 := zn BK273.out 2
          go_wp2
          go_ret
          exact ⟨by first | rfl | (simp [zu, zt] <;> rfl) | (simp [*, zu, zt] <;> rfl), by repeat (first | (with_reducible first | exact HB.out | apply ze | apply zb | apply zf | refine zi ?_ GE273.out) | exact HB.out)⟩
        ·rw [if_neg c20] at H
         have c20b0 : (((zh l1 a2).f0) == 3) = false := beq_eq_false_iff_ne.mpr c20
         have c20b1 : (((zh l1 a2).f0) != 3) = true := bne_iff_ne.mpr c20
         (first | rw [c20b0] | (simp only [zW, zab]; rw [c20b0]) | skip)
         replace H := Option.bind_eq_some_iff.mp H
         obtain ⟨t276, A240, H⟩ := H
         replace H : (if t276 = 0 then (zy.j1 kj7 l1 a2 ((zh l1 a2).f0) ((zh l1 a2).f1) ((zh l1 a2).f2)) else (some t276)) = some r := H
         have A24 := za.mk A240
         clear A240
         by_cases c25 : t276 = 0
         ·rw [if_pos c25] at H
          have c25b0 : (t276 == 0) = true := beq_iff_eq.mpr c25
          have c25b1 : (t276 != 0) = false := bne_eq_false_iff_eq.mpr c25
          clear c25
          have H' := za.mk H
          clear H
          have hcz26_0 : wc.cell? ⟨gb273, 0, none⟩ = some (.int .i64 ((zh l1 a2).f0)) := (zg BK273.out 0).trans rfl
          have hcz26_1 : wc.cell? ⟨gb273, 1, none⟩ = some (.int .i64 ((zh l1 a2).f1)) := (zg BK273.out 1).trans rfl
          have hcz26_2 : wc.cell? ⟨gb273, 2, none⟩ = some (.string ((zh l1 a2).f2)) := (zg BK273.out 2).trans rfl
          have hfz26_0 := zn BK273.out 0
          have hfz26_1 := zn BK273.out 1
          have hfz26_2 := zn BK273.out 2
          go_wp2_with (first | ((with_reducible refine zB (f := 83) rfl ?_); refine zS (some 43) rfl rfl Try.func83 (by kernel_rfl) rfl #[.string ((zh l1 a2).f2)] rfl (by (try simp only [List.map_toArray, List.map_cons, List.map_nil]); first | done | rfl | (simp only [List.length_drop, List.length_take]; rfl)) ?_; (with_reducible refine (zQ.calls kj7 ((zh l1 a2).f2) t276 _ A24.out).mono ?_); rintro e w' ⟨rfl, ⟨nd, rfl⟩⟩; refine ⟨_, rfl, ?_⟩))
          go_meet
          case rel => exact ⟨_, H', ⟨by have := HJ7.out; first | omega | exact Nat.le_refl _⟩, ⟨by (with_reducible repeat (first | refine zl ?_ _ | refine zm ?_ | refine zk ?_ _)); exact BK273.out⟩, ⟨by repeat (first | (with_reducible first | exact HB.out | apply ze | apply zb | apply zf | refine zi ?_ GE273.out) | exact HB.out)⟩⟩
         ·rw [if_neg c25] at H
          have c25b0 : (t276 == 0) = false := beq_eq_false_iff_ne.mpr c25
          have c25b1 : (t276 != 0) = true := bne_iff_ne.mpr c25
          obtain rfl := Option.some.inj H
          have hcz27_0 : wc.cell? ⟨gb273, 0, none⟩ = some (.int .i64 ((zh l1 a2).f0)) := (zg BK273.out 0).trans rfl
          have hcz27_1 : wc.cell? ⟨gb273, 1, none⟩ = some (.int .i64 ((zh l1 a2).f1)) := (zg BK273.out 1).trans rfl
          have hcz27_2 : wc.cell? ⟨gb273, 2, none⟩ = some (.string ((zh l1 a2).f2)) := (zg BK273.out 2).trans rfl
          have hfz27_0 := zn BK273.out 0
          have hfz27_1 := zn BK273.out 1
          have hfz27_2 := zn BK273.out 2
          go_wp2_with (first | ((with_reducible refine zB (f := 83) rfl ?_); refine zS (some 43) rfl rfl Try.func83 (by kernel_rfl) rfl #[.string ((zh l1 a2).f2)] rfl (by (try simp only [List.map_toArray, List.map_cons, List.map_nil]); first | done | rfl | (simp only [List.length_drop, List.length_take]; rfl)) ?_; (with_reducible refine (zQ.calls kj7 ((zh l1 a2).f2) t276 _ A24.out).mono ?_); rintro e w' ⟨rfl, ⟨nd, rfl⟩⟩; refine ⟨_, rfl, ?_⟩))
          go_ret
          exact ⟨by first | rfl | (simp [zu, zt] <;> rfl) | (simp [*, zu, zt] <;> rfl), by repeat (first | (with_reducible first | exact HB.out | apply ze | apply zb | apply zf | refine zi ?_ GE273.out) | exact HB.out)⟩
       case rest =>
        clear HC18
        try clear c1
        try clear c2
        try clear p2
        try clear q2
        try clear hx2
        try clear c4
        try clear c4b0
        try clear c5
        try clear c5b0
        try clear p6
        try clear c7
        try clear c8
        try clear c11
        try clear c12
        try clear c14
        try clear c14b0
        try clear c14b1
        try clear c17
        try clear c20
        try clear c20b0
        try clear c20b1
        try clear c21
        try clear c21b0
        try clear c21b1
        try clear c25
        try clear c25b0
        try clear c25b1
        try clear p27
        try clear q27
        try clear hx27
        try clear hcz10_0
        try clear hcz10_1
        try clear hcz10_2
        try clear hcz13_0
        try clear hcz13_1
        try clear hcz13_2
        try clear hcz15_0
        try clear hcz15_1
        try clear hcz15_2
        try clear hcz16_0
        try clear hcz16_1
        try clear hcz16_2
        try clear hcz19_0
        try clear hcz19_1
        try clear hcz19_2
        try clear hcz22_0
        try clear hcz22_1
        try clear hcz22_2
        try clear hcz23_0
        try clear hcz23_1
        try clear hcz23_2
        try clear hcz26_0
        try clear hcz26_1
        try clear hcz26_2
        try clear hcz27_0
        try clear hcz27_1
        try clear hcz27_2
        try clear hfz10_0
        try clear hfz10_1
        try clear hfz10_2
        try clear hfz13_0
        try clear hfz13_1
        try clear hfz13_2
        try clear hfz15_0
        try clear hfz15_1
        try clear hfz15_2
        try clear hfz16_0
        try clear hfz16_1
        try clear hfz16_2
        try clear hfz19_0
        try clear hfz19_1
        try clear hfz19_2
        try clear hfz22_0
        try clear hfz22_1
        try clear hfz22_2
        try clear hfz23_0
        try clear hfz23_1
        try clear hfz23_2
        try clear hfz26_0
        try clear hfz26_1
        try clear hfz26_2
        try clear hfz27_0
        try clear hfz27_1
        try clear hfz27_2
        try clear hx272_0
        try clear hx272_1
        try clear hx272_2
        try clear p2
        try clear p272
        try clear p6
        try clear q2
        try clear q272
        obtain ⟨kq, HA, HJ17, BK273, HB⟩ := hcut
        cases kq with
        | zero => exact absurd HA.out (by simp [zy.j1])
        | succ kj17 =>
         have H := HA.out
         clear HA
         simp only [zy.j1] at H
         by_cases c28 : a2 = 0
         ·rw [if_pos c28] at H
          have c28b0 : (a2 == 0) = true := beq_iff_eq.mpr c28
          have c28b1 : (a2 != 0) = false := bne_eq_false_iff_eq.mpr c28
          clear c28
          obtain rfl := Option.some.inj H
          go_wp2
          go_ret
          exact ⟨by first | rfl | (simp [zu, zt] <;> rfl) | (simp [*, zu, zt] <;> rfl), by repeat (first | (with_reducible first | exact HB.out | apply ze | apply zb | apply zf | refine zi ?_ GE273.out) | exact HB.out)⟩
         ·rw [if_neg c28] at H
          have c28b0 : (a2 == 0) = false := beq_eq_false_iff_ne.mpr c28
          have c28b1 : (a2 != 0) = true := bne_iff_ne.mpr c28
          obtain ⟨ji29, hji29⟩ : ∃ j_ : Int, (wrap64 (a2 - 1)) = j_ := ⟨_, rfl⟩
          replace H : (if 0 ≤ (ji29) then (if (ji29) < (l1.length : Int) then (if ((zh l1 a2).f1) < ((zh l1 (ji29)).f1) then (some 5) else (if ((zh l1 a2).f1) > ((zh l1 (ji29)).f1) then (zy.j2 kj17 true ((zh l1 a2).f0) ((zh l1 a2).f1) ((zh l1 a2).f2)) else (zy.j2 kj17 (((zh l1 (ji29)).f0) == 1) ((zh l1 a2).f0) ((zh l1 a2).f1) ((zh l1 a2).f2)))) else (none)) else (none)) = some r := by first | (rw [hji29] at H; exact H) | (simp only [hji29] at H ⊢; exact H)
          have hji29w : (IntKind.i64.wrap (a2 - 1)) = ji29 := (zW _).trans hji29
          by_cases c30 : 0 ≤ (ji29)
          ·rw [if_pos c30] at H
           have c30b0 : decide (0 ≤ (ji29)) = true := decide_eq_true c30
           clear c30
           by_cases c31 : (ji29) < (l1.length : Int)
           ·rw [if_pos c31] at H
            have c31b0 : decide ((ji29) < (l1.length : Int)) = true := decide_eq_true c31
            clear c31
            by_cases c32 : ((zh l1 a2).f1) < ((zh l1 (ji29)).f1)
            ·rw [if_pos c32] at H
             have c32b0 : decide (((zh l1 a2).f1) < ((zh l1 (ji29)).f1)) = true := decide_eq_true c32
             clear c32
             obtain rfl := Option.some.inj H
             have p277 : 0 ≤ ((ji29) : Int) := of_decide_eq_true (by first | (with_reducible assumption) | assumption)
             have q277 : (ji29) < (l1.length : Int) := of_decide_eq_true (by first | (with_reducible assumption) | assumption)
             obtain ⟨ad277, e277, hx277_0, hx277_1, hx277_2⟩ := zbt HR1.out (ji29) p277 q277
             obtain rfl : ad272 = ad277 := (by injection e277)
             replace hx277_0 := (HB.out.cell (World.block_lt_of_cell? w _ hx277_0)).trans hx277_0
             replace hx277_1 := (HB.out.cell (World.block_lt_of_cell? w _ hx277_1)).trans hx277_1
             replace hx277_2 := (HB.out.cell (World.block_lt_of_cell? w _ hx277_2)).trans hx277_2
             replace p277 := eq_true p277
             replace q277 := eq_true q277
             go_wp2_with (first | ((with_reducible refine zar (N := 9) rfl ?_); refine zaF ?hg (N := 9) ?hd (cs := #[.int .i64 0, .int .i64 0, .string (⟨#[]⟩ : ByteArray)]) (t := 63) ?hr ?_; (case hd => rfl); (case hg => rfl); (case hr => first | (go_simp; done) | (go_simp; rfl)); intro gb278 hg w33 hbox hb; have n0_ := za.mk (zF (g := gb273) (o := .cells #[.int .i64 ((zh l1 a2).f0), .int .i64 ((zh l1 a2).f1), .string ((zh l1 a2).f2)] 63 (0, 0)) (by (with_reducible repeat (first | refine zl ?_ _ | refine zm ?_ | refine zk ?_ _)); exact BK273.out) hb); have n1_ := za.mk (zo (by repeat (first | (with_reducible first | exact HB.out | apply ze | apply zb | apply zf | refine zi ?_ GE273.out) | exact HB.out)) hb); have n2_ := za.mk (hbox); have n3_ := za.mk ((by rw [hg]; exact (zC (by repeat (first | (with_reducible first | exact HB.out | apply ze | apply zb | apply zf | refine zi ?_ GE273.out) | exact HB.out))) : w.heap.size ≤ gb278)); have n4_ := za.mk ((by rw [hg]; exact (zC (by repeat (first | (with_reducible first | exact HB.out | apply ze | apply zb | apply zf | refine zi ?_ GE273.out) | exact HB.out))) : w.heap.size ≤ gb278)); have n5_ := za.mk ((by rw [hg]; exact Nat.ne_of_lt (zR (g := gb273) (o := .cells #[.int .i64 ((zh l1 a2).f0), .int .i64 ((zh l1 a2).f1), .string ((zh l1 a2).f2)] 63 (0, 0)) (by (with_reducible repeat (first | refine zl ?_ _ | refine zm ?_ | refine zk ?_ _)); exact BK273.out)) : gb273 ≠ gb278)); have n6_ := za.mk ((by rw [hg]; exact Nat.ne_of_gt (zR (g := gb273) (o := .cells #[.int .i64 ((zh l1 a2).f0), .int .i64 ((zh l1 a2).f1), .string ((zh l1 a2).f2)] 63 (0, 0)) (by (with_reducible repeat (first | refine zl ?_ _ | refine zm ?_ | refine zk ?_ _)); exact BK273.out)) : gb278 ≠ gb273)); clear BK273; clear HB; have BK273 := n0_; have HB := n1_; have BK278 := n2_; have GW278 := n3_; have GE278 := n4_; have NB273_278 := n5_; have NB278_273 := n6_; clear n0_ n1_ n2_ n3_ n4_ n5_ n6_; clear hb hbox hg; have hnb34 := NB278_273.out; have hnc34 := NB273_278.out; have hcz35_0 : w33.cell? ⟨gb278, 0, none⟩ = some (.int .i64 0) := (zg BK278.out 0).trans rfl; have hcz35_1 : w33.cell? ⟨gb278, 1, none⟩ = some (.int .i64 0) := (zg BK278.out 1).trans rfl; have hcz35_2 : w33.cell? ⟨gb278, 2, none⟩ = some (.string (⟨#[]⟩ : ByteArray)) := (zg BK278.out 2).trans rfl; have hfz35_0 := zn BK278.out 0; have hfz35_1 := zn BK278.out 1; have hfz35_2 := zn BK278.out 2; have hcz36_0 : w33.cell? ⟨gb273, 0, none⟩ = some (.int .i64 ((zh l1 a2).f0)) := (zg BK273.out 0).trans rfl; have hcz36_1 : w33.cell? ⟨gb273, 1, none⟩ = some (.int .i64 ((zh l1 a2).f1)) := (zg BK273.out 1).trans rfl; have hcz36_2 : w33.cell? ⟨gb273, 2, none⟩ = some (.string ((zh l1 a2).f2)) := (zg BK273.out 2).trans rfl; have hfz36_0 := zn BK273.out 0; have hfz36_1 := zn BK273.out 1; have hfz36_2 := zn BK273.out 2))
             go_ret
             exact ⟨by first | rfl | (simp [zu, zt] <;> rfl) | (simp only [← hji29]; first | rfl | (simp [zu, zt] <;> rfl)) | (simp [*, zu, zt] <;> rfl), by repeat (first | (with_reducible first | exact HB.out | apply ze | apply zb | apply zf | refine zi ?_ GE273.out | refine zi ?_ GE278.out) | exact HB.out)⟩
            ·rw [if_neg c32] at H
             have c32b0 : decide (((zh l1 a2).f1) < ((zh l1 (ji29)).f1)) = false := decide_eq_false c32
             clear c32
             have HC37 := za.mk H
             clear H
             have p277 : 0 ≤ ((ji29) : Int) := of_decide_eq_true (by first | (with_reducible assumption) | assumption)
             have q277 : (ji29) < (l1.length : Int) := of_decide_eq_true (by first | (with_reducible assumption) | assumption)
             obtain ⟨ad277, e277, hx277_0, hx277_1, hx277_2⟩ := zbt HR1.out (ji29) p277 q277
             obtain rfl : ad272 = ad277 := (by injection e277)
             replace hx277_0 := (HB.out.cell (World.block_lt_of_cell? w _ hx277_0)).trans hx277_0
             replace hx277_1 := (HB.out.cell (World.block_lt_of_cell? w _ hx277_1)).trans hx277_1
             replace hx277_2 := (HB.out.cell (World.block_lt_of_cell? w _ hx277_2)).trans hx277_2
             replace p277 := eq_true p277
             replace q277 := eq_true q277
             go_upto_region 17 with (first | ((with_reducible refine zar (N := 9) rfl ?_); refine zaF ?hg (N := 9) ?hd (cs := #[.int .i64 0, .int .i64 0, .string (⟨#[]⟩ : ByteArray)]) (t := 63) ?hr ?_; (case hd => rfl); (case hg => rfl); (case hr => first | (go_simp; done) | (go_simp; rfl)); intro gb278 hg w38 hbox hb; have n0_ := za.mk (zF (g := gb273) (o := .cells #[.int .i64 ((zh l1 a2).f0), .int .i64 ((zh l1 a2).f1), .string ((zh l1 a2).f2)] 63 (0, 0)) (by (with_reducible repeat (first | refine zl ?_ _ | refine zm ?_ | refine zk ?_ _)); exact BK273.out) hb); have n1_ := za.mk (zo (by repeat (first | (with_reducible first | exact HB.out | apply ze | apply zb | apply zf | refine zi ?_ GE273.out) | exact HB.out)) hb); have n2_ := za.mk (hbox); have n3_ := za.mk ((by rw [hg]; exact (zC (by repeat (first | (with_reducible first | exact HB.out | apply ze | apply zb | apply zf | refine zi ?_ GE273.out) | exact HB.out))) : w.heap.size ≤ gb278)); have n4_ := za.mk ((by rw [hg]; exact (zC (by repeat (first | (with_reducible first | exact HB.out | apply ze | apply zb | apply zf | refine zi ?_ GE273.out) | exact HB.out))) : w.heap.size ≤ gb278)); have n5_ := za.mk ((by rw [hg]; exact Nat.ne_of_lt (zR (g := gb273) (o := .cells #[.int .i64 ((zh l1 a2).f0), .int .i64 ((zh l1 a2).f1), .string ((zh l1 a2).f2)] 63 (0, 0)) (by (with_reducible repeat (first | refine zl ?_ _ | refine zm ?_ | refine zk ?_ _)); exact BK273.out)) : gb273 ≠ gb278)); have n6_ := za.mk ((by rw [hg]; exact Nat.ne_of_gt (zR (g := gb273) (o := .cells #[.int .i64 ((zh l1 a2).f0), .int .i64 ((zh l1 a2).f1), .string ((zh l1 a2).f2)] 63 (0, 0)) (by (with_reducible repeat (first | refine zl ?_ _ | refine zm ?_ | refine zk ?_ _)); exact BK273.out)) : gb278 ≠ gb273)); clear BK273; clear HB; have BK273 := n0_; have HB := n1_; have BK278 := n2_; have GW278 := n3_; have GE278 := n4_; have NB273_278 := n5_; have NB278_273 := n6_; clear n0_ n1_ n2_ n3_ n4_ n5_ n6_; clear hb hbox hg; have hnb39 := NB278_273.out; have hnc39 := NB273_278.out; have hcz40_0 : w38.cell? ⟨gb278, 0, none⟩ = some (.int .i64 0) := (zg BK278.out 0).trans rfl; have hcz40_1 : w38.cell? ⟨gb278, 1, none⟩ = some (.int .i64 0) := (zg BK278.out 1).trans rfl; have hcz40_2 : w38.cell? ⟨gb278, 2, none⟩ = some (.string (⟨#[]⟩ : ByteArray)) := (zg BK278.out 2).trans rfl; have hfz40_0 := zn BK278.out 0; have hfz40_1 := zn BK278.out 1; have hfz40_2 := zn BK278.out 2; have hcz41_0 : w38.cell? ⟨gb273, 0, none⟩ = some (.int .i64 ((zh l1 a2).f0)) := (zg BK273.out 0).trans rfl; have hcz41_1 : w38.cell? ⟨gb273, 1, none⟩ = some (.int .i64 ((zh l1 a2).f1)) := (zg BK273.out 1).trans rfl; have hcz41_2 : w38.cell? ⟨gb273, 2, none⟩ = some (.string ((zh l1 a2).f2)) := (zg BK273.out 2).trans rfl; have hfz41_0 := zn BK273.out 0; have hfz41_1 := zn BK273.out 1; have hfz41_2 := zn BK273.out 2))
             (try simp only [Act.put, List.setIfInBounds_toArray, List.set_cons_zero, List.set_cons_succ])
             go_cut [60] (fun v60 wc => ∃ (kq : Nat) (x60_36 : Bool), v60 = .bool x60_36 ∧ za (zy.j2 kq x60_36 ((zh l1 a2).f0) ((zh l1 a2).f1) ((zh l1 a2).f2) = some r) ∧ za (kq ≤ kj17) ∧ za (wc.heap[gb273]? = some (.cells #[.int .i64 ((zh l1 a2).f0), .int .i64 ((zh l1 a2).f1), .string ((zh l1 a2).f2)] 63 (0, 0))) ∧ za (wc.heap[gb278]? = some (.cells #[.int .i64 ((zh l1 (ji29)).f0), .int .i64 ((zh l1 (ji29)).f1), .string ((zh l1 (ji29)).f2)] 63 (0, 0))) ∧ za (Below w.heap.size w wc))
             case first =>
              have H := HC37.out
              clear HC37
              by_cases c42 : ((zh l1 a2).f1) > ((zh l1 (ji29)).f1)
              ·rw [if_pos c42] at H
               have c42b0 : decide (((zh l1 (ji29)).f1) < ((zh l1 a2).f1)) = true := decide_eq_true c42
               clear c42
               (first | rw [c42b0] | (simp only [zW, zab]; rw [c42b0]) | skip)
               have H' := za.mk H
               clear H
               have hnb43 := NB273_278.out
               have hnc43 := NB278_273.out
               have hcz44_0 : w38.cell? ⟨gb273, 0, none⟩ = some (.int .i64 ((zh l1 a2).f0)) := (zg BK273.out 0).trans rfl
               have hcz44_1 : w38.cell? ⟨gb273, 1, none⟩ = some (.int .i64 ((zh l1 a2).f1)) := (zg BK273.out 1).trans rfl
               have hcz44_2 : w38.cell? ⟨gb273, 2, none⟩ = some (.string ((zh l1 a2).f2)) := (zg BK273.out 2).trans rfl
               have hfz44_0 := zn BK273.out 0
               have hfz44_1 := zn BK273.out 1
               have hfz44_2 := zn BK273.out 2
               have hcz45_0 : w38.cell? ⟨gb278, 0, none⟩ = some (.int .i64 0) := (zg BK278.out 0).trans rfl
               have hcz45_1 : w38.cell? ⟨gb278, 1, none⟩ = some (.int .i64 0) := (zg BK278.out 1).trans rfl
               have hcz45_2 : w38.cell? ⟨gb278, 2, none⟩ = some (.string (⟨#[]⟩ : ByteArray)) := (zg BK278.out 2).trans rfl
               have hfz45_0 := zn BK278.out 0
               have hfz45_1 := zn BK278.out 1
               have hfz45_2 := zn BK278.out 2
               go_wp2
               go_meet
               case rel => exact ⟨_, (true), (by first | rfl | (simp; done) | (simp [*]; done)), H', ⟨by have := HJ7.out; have := HJ17.out; first | omega | exact Nat.le_refl _⟩, ⟨by (with_reducible repeat (first | refine zl ?_ _ | refine zm ?_ | refine zk ?_ _)); refine zaH ?_ NB273_278.out _; (with_reducible repeat (first | refine zl ?_ _ | refine zm ?_ | refine zk ?_ _)); refine zaH ?_ NB273_278.out _; (with_reducible repeat (first | refine zl ?_ _ | refine zm ?_ | refine zk ?_ _)); refine zaH ?_ NB273_278.out _; (with_reducible repeat (first | refine zl ?_ _ | refine zm ?_ | refine zk ?_ _)); exact BK273.out⟩, ⟨by (with_reducible repeat (first | refine zl ?_ _ | refine zm ?_ | refine zk ?_ _)); refine zT (cs := #[.int .i64 ((zh l1 (ji29)).f0), .int .i64 ((zh l1 (ji29)).f1), .string (⟨#[]⟩ : ByteArray)]) ?_ 2 _ rfl; (with_reducible repeat (first | refine zl ?_ _ | refine zm ?_ | refine zk ?_ _)); refine zT (cs := #[.int .i64 ((zh l1 (ji29)).f0), .int .i64 0, .string (⟨#[]⟩ : ByteArray)]) ?_ 1 _ rfl; (with_reducible repeat (first | refine zl ?_ _ | refine zm ?_ | refine zk ?_ _)); refine zT (cs := #[.int .i64 0, .int .i64 0, .string (⟨#[]⟩ : ByteArray)]) ?_ 0 _ rfl; (with_reducible repeat (first | refine zl ?_ _ | refine zm ?_ | refine zk ?_ _)); exact BK278.out⟩, ⟨by repeat (first | (with_reducible first | exact HB.out | apply ze | apply zb | apply zf | refine zi ?_ GE273.out | refine zi ?_ GE278.out) | exact HB.out)⟩⟩
              ·rw [if_neg c42] at H
               have c42b0 : decide (((zh l1 (ji29)).f1) < ((zh l1 a2).f1)) = false := decide_eq_false c42
               clear c42
               (first | rw [c42b0] | (simp only [zW, zab]; rw [c42b0]) | skip)
               have H' := za.mk H
               clear H
               have hnb46 := NB273_278.out
               have hnc46 := NB278_273.out
               have hcz47_0 : w38.cell? ⟨gb273, 0, none⟩ = some (.int .i64 ((zh l1 a2).f0)) := (zg BK273.out 0).trans rfl
               have hcz47_1 : w38.cell? ⟨gb273, 1, none⟩ = some (.int .i64 ((zh l1 a2).f1)) := (zg BK273.out 1).trans rfl
               have hcz47_2 : w38.cell? ⟨gb273, 2, none⟩ = some (.string ((zh l1 a2).f2)) := (zg BK273.out 2).trans rfl
               have hfz47_0 := zn BK273.out 0
               have hfz47_1 := zn BK273.out 1
               have hfz47_2 := zn BK273.out 2
               have hcz48_0 : w38.cell? ⟨gb278, 0, none⟩ = some (.int .i64 0) := (zg BK278.out 0).trans rfl
               have hcz48_1 : w38.cell? ⟨gb278, 1, none⟩ = some (.int .i64 0) := (zg BK278.out 1).trans rfl
               have hcz48_2 : w38.cell? ⟨gb278, 2, none⟩ = some (.string (⟨#[]⟩ : ByteArray)) := (zg BK278.out 2).trans rfl
               have hfz48_0 := zn BK278.out 0
               have hfz48_1 := zn BK278.out 1
               have hfz48_2 := zn BK278.out 2
               go_wp2
               go_meet
               case rel => exact ⟨_, ((((zh l1 (ji29)).f0) == 1)), (by first | rfl | (simp; done) | (simp only [← hji29] <;> (first | rfl | simp)) | (simp [*]; done)), H', ⟨by have := HJ7.out; have := HJ17.out; first | omega | exact Nat.le_refl _⟩, ⟨by (with_reducible repeat (first | refine zl ?_ _ | refine zm ?_ | refine zk ?_ _)); refine zaH ?_ NB273_278.out _; (with_reducible repeat (first | refine zl ?_ _ | refine zm ?_ | refine zk ?_ _)); refine zaH ?_ NB273_278.out _; (with_reducible repeat (first | refine zl ?_ _ | refine zm ?_ | refine zk ?_ _)); refine zaH ?_ NB273_278.out _; (with_reducible repeat (first | refine zl ?_ _ | refine zm ?_ | refine zk ?_ _)); exact BK273.out⟩, ⟨by (with_reducible repeat (first | refine zl ?_ _ | refine zm ?_ | refine zk ?_ _)); refine zT (cs := #[.int .i64 ((zh l1 (ji29)).f0), .int .i64 ((zh l1 (ji29)).f1), .string (⟨#[]⟩ : ByteArray)]) ?_ 2 _ rfl; (with_reducible repeat (first | refine zl ?_ _ | refine zm ?_ | refine zk ?_ _)); refine zT (cs := #[.int .i64 ((zh l1 (ji29)).f0), .int .i64 0, .string (⟨#[]⟩ : ByteArray)]) ?_ 1 _ rfl; (with_reducible repeat (first | refine zl ?_ _ | refine zm ?_ | refine zk ?_ _)); refine zT (cs := #[.int .i64 0, .int .i64 0, .string (⟨#[]⟩ : ByteArray)]) ?_ 0 _ rfl; (with_reducible repeat (first | refine zl ?_ _ | refine zm ?_ | refine zk ?_ _)); exact BK278.out⟩, ⟨by repeat (first | (with_reducible first | exact HB.out | apply ze | apply zb | apply zf | refine zi ?_ GE273.out | refine zi ?_ GE278.out) | exact HB.out)⟩⟩
             case rest =>
              clear HC37
              try clear c1
              try clear c2
              try clear p2
              try clear q2
              try clear hx2
              try clear c3
              try clear c4
              try clear c4b0
              try clear c5
              try clear c5b0
              try clear p6
              try clear c7
              try clear c8
              try clear c11
              try clear c12
              try clear c14
              try clear c14b0
              try clear c14b1
              try clear c17
              try clear c20
              try clear c20b0
              try clear c20b1
              try clear c21
              try clear c21b0
              try clear c21b1
              try clear c25
              try clear c25b0
              try clear c25b1
              try clear p27
              try clear q27
              try clear hx27
              try clear c28
              try clear c28b0
              try clear c28b1
              try clear c30
              try clear c30b0
              try clear c31
              try clear c31b0
              try clear c32
              try clear c32b0
              try clear c34
              try clear c39
              try clear c42
              try clear c42b0
              try clear c43
              try clear c46
              try clear hcz10_0
              try clear hcz10_1
              try clear hcz10_2
              try clear hcz13_0
              try clear hcz13_1
              try clear hcz13_2
              try clear hcz15_0
              try clear hcz15_1
              try clear hcz15_2
              try clear hcz16_0
              try clear hcz16_1
              try clear hcz16_2
              try clear hcz19_0
              try clear hcz19_1
              try clear hcz19_2
              try clear hcz22_0
              try clear hcz22_1
              try clear hcz22_2
              try clear hcz23_0
              try clear hcz23_1
              try clear hcz23_2
              try clear hcz26_0
              try clear hcz26_1
              try clear hcz26_2
              try clear hcz27_0
              try clear hcz27_1
              try clear hcz27_2
              try clear hcz35_0
              try clear hcz35_1
              try clear hcz35_2
              try clear hcz36_0
              try clear hcz36_1
              try clear hcz36_2
              try clear hcz40_0
              try clear hcz40_1
              try clear hcz40_2
              try clear hcz41_0
              try clear hcz41_1
              try clear hcz41_2
              try clear hcz44_0
              try clear hcz44_1
              try clear hcz44_2
              try clear hcz45_0
              try clear hcz45_1
              try clear hcz45_2
              try clear hcz47_0
              try clear hcz47_1
              try clear hcz47_2
              try clear hcz48_0
              try clear hcz48_1
              try clear hcz48_2
              try clear hfz10_0
              try clear hfz10_1
              try clear hfz10_2
              try clear hfz13_0
              try clear hfz13_1
              try clear hfz13_2
              try clear hfz15_0
              try clear hfz15_1
              try clear hfz15_2
              try clear hfz16_0
              try clear hfz16_1
              try clear hfz16_2
              try clear hfz19_0
              try clear hfz19_1
              try clear hfz19_2
              try clear hfz22_0
              try clear hfz22_1
              try clear hfz22_2
              try clear hfz23_0
              try clear hfz23_1
              try clear hfz23_2
              try clear hfz26_0
              try clear hfz26_1
              try clear hfz26_2
              try clear hfz27_0
              try clear hfz27_1
              try clear hfz27_2
              try clear hfz35_0
              try clear hfz35_1
              try clear hfz35_2
              try clear hfz36_0
              try clear hfz36_1
              try clear hfz36_2
              try clear hfz40_0
              try clear hfz40_1
              try clear hfz40_2
              try clear hfz41_0
              try clear hfz41_1
              try clear hfz41_2
              try clear hfz44_0
              try clear hfz44_1
              try clear hfz44_2
              try clear hfz45_0
              try clear hfz45_1
              try clear hfz45_2
              try clear hfz47_0
              try clear hfz47_1
              try clear hfz47_2
              try clear hfz48_0
              try clear hfz48_1
              try clear hfz48_2
              try clear hx272_0
              try clear hx272_1
              try clear hx272_2
              try clear hx277_0
              try clear hx277_1
              try clear hx277_2
              try clear p2
              try clear p27
              try clear p272
              try clear p277
              try clear p6
              try clear q2
              try clear q27
              try clear q272
              try clear q277
              obtain ⟨kq, x60_36, rfl, HA, HJ36, BK273, BK278, HB⟩ := hcut
              cases kq with
              | zero => exact absurd HA.out (by simp [zy.j2])
              | succ kj36 =>
               have H := HA.out
               clear HA
               simp only [zy.j2] at H
               by_cases c49 : x60_36 = true
               ·subst c49
                have H1 : (some 0) = some r := by rw [if_pos rfl] at H; exact H
                clear H
                have H := H1
                clear H1
                obtain rfl := Option.some.inj H
                go_wp2
                go_ret
                exact ⟨by first | rfl | (simp [zu, zt] <;> rfl) | (simp only [← hji29]; first | rfl | (simp [zu, zt] <;> rfl)) | (simp [*, zu, zt] <;> rfl), by repeat (first | (with_reducible first | exact HB.out | apply ze | apply zb | apply zf | refine zi ?_ GE273.out | refine zi ?_ GE278.out) | exact HB.out)⟩
               ·replace c49 := Bool.eq_false_iff.mpr c49
                subst c49
                have H1 : (if ((zh l1 a2).f0) = 1 then (some 5) else (some 4)) = some r := by rw [if_neg (show ¬ (false = true) by decide)] at H; exact H
                clear H
                have H := H1
                clear H1
                by_cases c50 : ((zh l1 a2).f0) = 1
                ·rw [if_pos c50] at H
                 have c50b0 : (((zh l1 a2).f0) == 1) = true := beq_iff_eq.mpr c50
                 have c50b1 : (((zh l1 a2).f0) != 1) = false := bne_eq_false_iff_eq.mpr c50
                 clear c50
                 obtain rfl := Option.some.inj H
                 have hnb51 := NB273_278.out
                 have hnc51 := NB278_273.out
                 have hcz52_0 : wc.cell? ⟨gb273, 0, none⟩ = some (.int .i64 ((zh l1 a2).f0)) := (zg BK273.out 0).trans rfl
                 have hcz52_1 : wc.cell? ⟨gb273, 1, none⟩ = some (.int .i64 ((zh l1 a2).f1)) := (zg BK273.out 1).trans rfl
                 have hcz52_2 : wc.cell? ⟨gb273, 2, none⟩ = some (.string ((zh l1 a2).f2)) := (zg BK273.out 2).trans rfl
                 have hfz52_0 := zn BK273.out 0
                 have hfz52_1 := zn BK273.out 1
                 have hfz52_2 := zn BK273.out 2
                 go_wp2
                 go_ret
                 exact ⟨by first | rfl | (simp [zu, zt] <;> rfl) | (simp only [← hji29]; first | rfl | (simp [zu, zt] <;> rfl)) | (simp [*, zu, zt] <;> rfl), by repeat (first | (with_reducible first | exact HB.out | apply ze | apply zb | apply zf | refine zi ?_ GE273.out | refine zi ?_ GE278.out) | exact HB.out)⟩
                ·rw [if_neg c50] at H
                 have c50b0 : (((zh l1 a2).f0) == 1) = false := beq_eq_false_iff_ne.mpr c50
                 have c50b1 : (((zh l1 a2).f0) != 1) = true := bne_iff_ne.mpr c50
                 obtain rfl := Option.some.inj H
                 have hnb53 := NB273_278.out
                 have hnc53 := NB278_273.out
                 have hcz54_0 : wc.cell? ⟨gb273, 0, none⟩ = some (.int .i64 ((zh l1 a2).f0)) := (zg BK273.out 0).trans rfl
                 have hcz54_1 : wc.cell? ⟨gb273, 1, none⟩ = some (.int .i64 ((zh l1 a2).f1)) := (zg BK273.out 1).trans rfl
                 have hcz54_2 : wc.cell? ⟨gb273, 2, none⟩ = some (.string ((zh l1 a2).f2)) := (zg BK273.out 2).trans rfl
                 have hfz54_0 := zn BK273.out 0
                 have hfz54_1 := zn BK273.out 1
                 have hfz54_2 := zn BK273.out 2
                 go_wp2
                 go_ret
                 exact ⟨by first | rfl | (simp [zu, zt] <;> rfl) | (simp only [← hji29]; first | rfl | (simp [zu, zt] <;> rfl)) | (simp [*, zu, zt] <;> rfl), by repeat (first | (with_reducible first | exact HB.out | apply ze | apply zb | apply zf | refine zi ?_ GE273.out | refine zi ?_ GE278.out) | exact HB.out)⟩
           ·rw [if_neg c31] at H
            exact absurd H (by simp)
          ·rw [if_neg c30] at H
           exact absurd H (by simp)
   ·replace c7 := Bool.eq_false_iff.mpr c7
    subst c7
    have H1 : (some 8) = some r := by rw [if_neg (show ¬ (false = true) by decide)] at H; exact H
    clear H
    have H := H1
    clear H1
    obtain rfl := Option.some.inj H
    have p272 : 0 ≤ (a2 : Int) := of_decide_eq_true (by first | (with_reducible assumption) | assumption)
    have q272 : a2 < (l1.length : Int) := of_decide_eq_true (by first | (with_reducible assumption) | assumption)
    obtain ⟨ad272, e272, hx272_0, hx272_1, hx272_2⟩ := zbt HR1.out a2 p272 q272
    cases e272
    replace p272 := eq_true p272
    replace q272 := eq_true q272
    go_enter Try.func112, Try.ntmps112
    go_wp2_with (first | ((with_reducible refine zar (N := 7) rfl ?_); refine zaF ?hg (N := 7) ?hd (cs := #[.int .i64 0, .int .i64 0, .string (⟨#[]⟩ : ByteArray)]) (t := 63) ?hr ?_; (case hd => rfl); (case hg => rfl); (case hr => first | (go_simp; done) | (go_simp; rfl)); intro gb273 hg w55 hbox hb; have n0_ := za.mk (zo (by repeat (first | (with_reducible first | exact HB.out | apply ze | apply zb | apply zf) | exact HB.out)) hb); have n1_ := za.mk (hbox); have n2_ := za.mk ((by rw [hg]; exact (zC (by repeat (first | (with_reducible first | exact HB.out | apply ze | apply zb | apply zf) | exact HB.out))) : w.heap.size ≤ gb273)); have n3_ := za.mk ((by rw [hg]; exact (zC (by repeat (first | (with_reducible first | exact HB.out | apply ze | apply zb | apply zf) | exact HB.out))) : w.heap.size ≤ gb273)); clear HB; have HB := n0_; have BK273 := n1_; have GW273 := n2_; have GE273 := n3_; clear n0_ n1_ n2_ n3_; clear hb hbox hg; have hcz56_0 : w55.cell? ⟨gb273, 0, none⟩ = some (.int .i64 0) := (zg BK273.out 0).trans rfl; have hcz56_1 : w55.cell? ⟨gb273, 1, none⟩ = some (.int .i64 0) := (zg BK273.out 1).trans rfl; have hcz56_2 : w55.cell? ⟨gb273, 2, none⟩ = some (.string (⟨#[]⟩ : ByteArray)) := (zg BK273.out 2).trans rfl; have hfz56_0 := zn BK273.out 0; have hfz56_1 := zn BK273.out 1; have hfz56_2 := zn BK273.out 2) | ((with_reducible refine zB (f := 128) rfl ?_); refine zS (some 16) rfl rfl Try.func128 (by kernel_rfl) rfl #[.int .i64 ((zh l1 a2).f0), .int .i64 1, .int .i64 3] rfl (by (try simp only [List.map_toArray, List.map_cons, List.map_nil]); first | done | rfl | (simp only [List.length_drop, List.length_take]; rfl)) ?_; (with_reducible refine (zax.calls ((zh l1 a2).f0) 1 3 false _ A6.out).mono ?_); rintro e w' ⟨rfl, ⟨nd, rfl⟩⟩; refine ⟨_, rfl, ?_⟩))
    go_ret
    exact ⟨by first | rfl | (simp [zu, zt] <;> rfl) | (simp [*, zu, zt] <;> rfl), by repeat (first | (with_reducible first | exact HB.out | apply ze | apply zb | apply zf | refine zi ?_ GE273.out) | exact HB.out)⟩
  ·rw [if_neg c5] at H
   exact absurd H (by simp)
 ·rw [if_neg c4] at H
  exact absurd H (by simp)
def zV.l0 : Nat → Int → List (S63) → Int → Option (Int)
 | 0, _, _, _ => none
 | k + 1, x0, x1, x5 => if x5 < (x1.length : Int) then ((zy.f k x0 x1 x5).bind fun t279 => (if t279 = 0 then (zV.l0 k x0 x1 (wrap64 (x5 + 1))) else (some t279))) else (some 0)
def zV.f (k : Nat) (a0 : Int) (l1 : List (S63)) : Option (Int) := if (l1.length : Int) > 12 then (some 6) else (zV.l0 k a0 l1 0)
set_option maxHeartbeats 8000000 in
set_option maxRecDepth 100000 in
theorem zV.calls (k : Nat) (a0 : Int) (A1 : Option Addr) (c1 : Nat) (l1 : List (S63)) (r : Int) (w : World) (hr1 : Kd.C k63 w A1 l1.length l1) (hc1 : l1.length ≤ c1) (h : zV.f k a0 l1 = some r) :
  Calls Try.prog 89 #[.int .i64 a0, .slice A1 l1.length c1] w fun e w' => e = .returned (.int .i64 r) ∧ Below w.heap.size w w' := by
 have HR1 := za.mk hr1
 have HC1 := za.mk hc1
 clear hr1 hc1
 have HB := za.mk (Below.refl w.heap.size w)
 have H : (if (l1.length : Int) > 12 then (some 6) else (zV.l0 k a0 l1 0)) = some r := h
 clear h
 by_cases c3 : (l1.length : Int) > 12
 ·rw [if_pos c3] at H
  have c3b0 : decide (12 < (l1.length : Int)) = true := decide_eq_true c3
  have c3b1 : decide (12 < l1.length) = true := decide_eq_true (by omega)
  clear c3
  obtain rfl := Option.some.inj H
  go_enter Try.func89, Try.ntmps89
  go_wp2
  go_ret
  exact ⟨by first | rfl | (simp [zu, zt] <;> rfl) | (simp [*, zu, zt] <;> rfl), by repeat (first | (with_reducible first | exact HB.out | apply ze | apply zb | apply zf) | exact HB.out)⟩
 ·rw [if_neg c3] at H
  have c3b0 : decide (12 < (l1.length : Int)) = false := decide_eq_false c3
  have c3b1 : decide (12 < l1.length) = false := decide_eq_false (by omega)
  clear c3
  have H' := za.mk H
  clear H
  go_enter Try.func89, Try.ntmps89
  go_wp2
  go_loopg [5] k (fun kq v5 w' => ∃ (x5_1 : Int), v5 = .int .i64 x5_1 ∧ za (zV.l0 kq a0 l1 x5_1 = some r) ∧ za (kq ≤ k) ∧ za (Below w.heap.size w w'))
  case atStart => exact ⟨(0), (by first | rfl | (simp; done) | (simp [*]; done)), H', ⟨Nat.le_refl _⟩, ⟨by repeat (first | (with_reducible first | exact HB.out | apply ze | apply zb | apply zf) | exact HB.out)⟩⟩
  case round =>
   clear H'
   try clear c1
   try clear p2
   try clear c3
   try clear c3b0
   try clear c3b1
   obtain ⟨x5_1, rfl, HA, HK1, HB⟩ := hrel
   cases gk with
   | zero => exact absurd HA.out (by simp [zV.l0])
   | succ k1 =>
    have H := HA.out
    clear HA
    simp only [zV.l0] at H
    by_cases c4 : x5_1 < (l1.length : Int)
    ·rw [if_pos c4] at H
     have c4b0 : decide (x5_1 < (l1.length : Int)) = true := decide_eq_true c4
     clear c4
     replace H := Option.bind_eq_some_iff.mp H
     obtain ⟨t279, A50, H⟩ := H
     replace H : (if t279 = 0 then (zV.l0 k1 a0 l1 (wrap64 (x5_1 + 1))) else (some t279)) = some r := H
     have A5 := za.mk A50
     clear A50
     by_cases c6 : t279 = 0
     ·rw [if_pos c6] at H
      have c6b0 : (t279 == 0) = true := beq_iff_eq.mpr c6
      have c6b1 : (t279 != 0) = false := bne_eq_false_iff_eq.mpr c6
      clear c6
      have H' := za.mk H
      clear H
      go_wp2_with (first | ((with_reducible refine zB (f := 112) rfl ?_); refine zS (some 19) rfl rfl Try.func112 (by kernel_rfl) rfl #[.int .i64 a0, .slice A1 l1.length c1, .int .i64 x5_1] rfl (by (try simp only [List.map_toArray, List.map_cons, List.map_nil]); first | done | rfl | (simp only [List.length_drop, List.length_take]; rfl)) ?_; (with_reducible refine (zy.calls k1 a0 _ _ l1 x5_1 t279 _ ?side1 ?side2 A5.out).mono ?_); (case side1 => repeat (first | exact (Kd.zU HR1.out HB.out) | (with_reducible refine Kd.zY ?_ _) | (with_reducible refine Kd.zX ?_ _) | (with_reducible refine Kd.zai ?_))); (case side2 => exact HC1.out); rintro e w7 ⟨rfl, hb⟩; refine ⟨_, rfl, ?_⟩; have n0_ := za.mk (zo (by repeat (first | (with_reducible first | exact HB.out | apply ze | apply zb | apply zf) | exact HB.out)) hb); clear HB; have HB := n0_; clear n0_; (try clear hb); (try clear hb2); (try clear hk); (try clear hi)))
      go_roundg k1
      case measure => have := HK1.out; omega
      case rel => exact ⟨(wrap64 (x5_1 + 1)), (by first | rfl | (simp; done) | (simp [*]; done)), H', ⟨by have := HK1.out; omega⟩, ⟨by repeat (first | (with_reducible first | exact HB.out | apply ze | apply zb | apply zf) | exact HB.out)⟩⟩
     ·rw [if_neg c6] at H
      have c6b0 : (t279 == 0) = false := beq_eq_false_iff_ne.mpr c6
      have c6b1 : (t279 != 0) = true := bne_iff_ne.mpr c6
      obtain rfl := Option.some.inj H
      go_wp2_with (first | ((with_reducible refine zB (f := 112) rfl ?_); refine zS (some 19) rfl rfl Try.func112 (by kernel_rfl) rfl #[.int .i64 a0, .slice A1 l1.length c1, .int .i64 x5_1] rfl (by (try simp only [List.map_toArray, List.map_cons, List.map_nil]); first | done | rfl | (simp only [List.length_drop, List.length_take]; rfl)) ?_; (with_reducible refine (zy.calls k1 a0 _ _ l1 x5_1 t279 _ ?side1 ?side2 A5.out).mono ?_); (case side1 => repeat (first | exact (Kd.zU HR1.out HB.out) | (with_reducible refine Kd.zY ?_ _) | (with_reducible refine Kd.zX ?_ _) | (with_reducible refine Kd.zai ?_))); (case side2 => exact HC1.out); rintro e w8 ⟨rfl, hb⟩; refine ⟨_, rfl, ?_⟩; have n0_ := za.mk (zo (by repeat (first | (with_reducible first | exact HB.out | apply ze | apply zb | apply zf) | exact HB.out)) hb); clear HB; have HB := n0_; clear n0_; (try clear hb); (try clear hb2); (try clear hk); (try clear hi)))
      go_ret
      exact ⟨by first | rfl | (simp [zu, zt] <;> rfl) | (simp [*, zu, zt] <;> rfl), by repeat (first | (with_reducible first | exact HB.out | apply ze | apply zb | apply zf) | exact HB.out)⟩
    ·rw [if_neg c4] at H
     have c4b0 : decide (x5_1 < (l1.length : Int)) = false := decide_eq_false c4
     clear c4
     obtain rfl := Option.some.inj H
     go_wp2
     go_ret
     exact ⟨by first | rfl | (simp [zu, zt] <;> rfl) | (simp [*, zu, zt] <;> rfl), by repeat (first | (with_reducible first | exact HB.out | apply ze | apply zb | apply zf) | exact HB.out)⟩
def zaM.f (k : Nat) (l0 : List ByteArray) (l1 : List (S63)) : Option (Int) := (zaj.f k l0).bind fun t280 => (if t280 = 0 then ((zV.f k (l0.length : Int) l1).bind fun t281 => (some t281)) else (some t280))
set_option maxHeartbeats 8000000 in
set_option maxRecDepth 100000 in
theorem zaM.calls (k : Nat) (A0 : Option Addr) (c0 : Nat) (l0 : List ByteArray) (A1 : Option Addr) (c1 : Nat) (l1 : List (S63)) (r : Int) (w : World) (hr0 : Kd.C Kd.string w A0 l0.length l0) (hc0 : l0.length ≤ c0) (hr1 : Kd.C k63 w A1 l1.length l1) (hc1 : l1.length ≤ c1) (h : zaM.f k l0 l1 = some r) :
  Calls Try.prog 69 #[.slice A0 l0.length c0, .slice A1 l1.length c1] w fun e w' => e = .returned (.int .i64 r) ∧ Below w.heap.size w w' := by
 have HR0 := za.mk hr0
 have HC0 := za.mk hc0
 clear hr0 hc0
 have HR1 := za.mk hr1
 have HC1 := za.mk hc1
 clear hr1 hc1
 have HB := za.mk (Below.refl w.heap.size w)
 have H : ((zaj.f k l0).bind fun t280 => (if t280 = 0 then ((zV.f k (l0.length : Int) l1).bind fun t281 => (some t281)) else (some t280))) = some r := h
 clear h
 replace H := Option.bind_eq_some_iff.mp H
 obtain ⟨t280, A30, H⟩ := H
 replace H : (if t280 = 0 then ((zV.f k (l0.length : Int) l1).bind fun t281 => (some t281)) else (some t280)) = some r := H
 have A3 := za.mk A30
 clear A30
 by_cases c4 : t280 = 0
 ·rw [if_pos c4] at H
  have c4b0 : (t280 == 0) = true := beq_iff_eq.mpr c4
  have c4b1 : (t280 != 0) = false := bne_eq_false_iff_eq.mpr c4
  clear c4
  replace H := Option.bind_eq_some_iff.mp H
  obtain ⟨t281, A50, H⟩ := H
  replace H : (some t281) = some r := H
  have A5 := za.mk A50
  clear A50
  obtain rfl := Option.some.inj H
  go_enter Try.func69, Try.ntmps69
  go_wp2_with (first | ((with_reducible refine zB (f := 47) rfl ?_); refine zS (some 7) rfl rfl Try.func47 (by kernel_rfl) rfl #[.slice A0 l0.length c0] rfl (by (try simp only [List.map_toArray, List.map_cons, List.map_nil]); first | done | rfl | (simp only [List.length_drop, List.length_take]; rfl)) ?_; (with_reducible refine (zaj.calls k _ _ l0 t280 _ ?side1 ?side2 A3.out).mono ?_); (case side1 => repeat (first | exact HR0.out | (with_reducible refine Kd.zY ?_ _) | (with_reducible refine Kd.zX ?_ _) | (with_reducible refine Kd.zai ?_))); (case side2 => exact HC0.out); rintro e w' ⟨rfl, ⟨nd, rfl⟩⟩; refine ⟨_, rfl, ?_⟩) | ((with_reducible refine zB (f := 89) rfl ?_); refine zS (some 14) rfl rfl Try.func89 (by kernel_rfl) rfl #[.int .i64 (l0.length : Int), .slice A1 l1.length c1] rfl (by (try simp only [List.map_toArray, List.map_cons, List.map_nil]); first | done | rfl | (simp only [List.length_drop, List.length_take]; rfl)) ?_; (with_reducible refine (zV.calls k (l0.length : Int) _ _ l1 t281 _ ?side1 ?side2 A5.out).mono ?_); (case side1 => repeat (first | exact HR1.out | (with_reducible refine Kd.zY ?_ _) | (with_reducible refine Kd.zX ?_ _) | (with_reducible refine Kd.zai ?_))); (case side2 => exact HC1.out); rintro e w6 ⟨rfl, hb⟩; refine ⟨_, rfl, ?_⟩; have n0_ := za.mk (zo (by repeat (first | (with_reducible first | exact HB.out | apply ze | apply zb | apply zf) | exact HB.out)) hb); clear HB; have HB := n0_; clear n0_; (try clear hb); (try clear hb2); (try clear hk); (try clear hi)))
  go_ret
  exact ⟨by first | rfl | (simp [zu, zt] <;> rfl) | (simp [*, zu, zt] <;> rfl), by repeat (first | (with_reducible first | exact HB.out | apply ze | apply zb | apply zf) | exact HB.out)⟩
 ·rw [if_neg c4] at H
  have c4b0 : (t280 == 0) = false := beq_eq_false_iff_ne.mpr c4
  have c4b1 : (t280 != 0) = true := bne_iff_ne.mpr c4
  obtain rfl := Option.some.inj H
  go_enter Try.func69, Try.ntmps69
  go_wp2_with (first | ((with_reducible refine zB (f := 47) rfl ?_); refine zS (some 7) rfl rfl Try.func47 (by kernel_rfl) rfl #[.slice A0 l0.length c0] rfl (by (try simp only [List.map_toArray, List.map_cons, List.map_nil]); first | done | rfl | (simp only [List.length_drop, List.length_take]; rfl)) ?_; (with_reducible refine (zaj.calls k _ _ l0 t280 _ ?side1 ?side2 A3.out).mono ?_); (case side1 => repeat (first | exact HR0.out | (with_reducible refine Kd.zY ?_ _) | (with_reducible refine Kd.zX ?_ _) | (with_reducible refine Kd.zai ?_))); (case side2 => exact HC0.out); rintro e w' ⟨rfl, ⟨nd, rfl⟩⟩; refine ⟨_, rfl, ?_⟩))
  go_ret
  exact ⟨by first | rfl | (simp [zu, zt] <;> rfl) | (simp [*, zu, zt] <;> rfl), by repeat (first | (with_reducible first | exact HB.out | apply ze | apply zb | apply zf) | exact HB.out)⟩
def zaD.l0 : Nat → List (S63) → Int → Option (Bool)
 | 0, _, _ => none
 | k + 1, x0, x3 => if x3 < (x0.length : Int) then (if 0 ≤ x3 then (if (((zh x0 x3).f2).size : Int) > 30 then (some true) else (zaD.l0 k x0 (wrap64 (x3 + 1)))) else (none)) else (some (decide ((x0.length : Int) > 20)))
def zaD.f (k : Nat) (l0 : List (S63)) : Option (Bool) := zaD.l0 k l0 0
set_option maxHeartbeats 8000000 in
set_option maxRecDepth 100000 in
theorem zaD.calls (k : Nat) (A0 : Option Addr) (c0 : Nat) (l0 : List (S63)) (r : Bool) (w : World) (hr0 : Kd.C k63 w A0 l0.length l0) (hc0 : l0.length ≤ c0) (h : zaD.f k l0 = some r) :
  Calls Try.prog 26 #[.slice A0 l0.length c0] w fun e w' => e = .returned (.bool r) ∧ zx w w' := by
 have HR0 := za.mk hr0
 have HC0 := za.mk hc0
 clear hr0 hc0
 have H : (zaD.l0 k l0 0) = some r := h
 clear h
 have H' := za.mk H
 clear H
 go_enter Try.func26, Try.ntmps26
 go_wp2
 go_loopg [3] k (fun kq v3 w' => ∃ (x3_1 : Int), v3 = .int .i64 x3_1 ∧ za (zaD.l0 kq l0 x3_1 = some r) ∧ za (kq ≤ k) ∧ zx w w')
 case atStart => exact ⟨(0), (by first | rfl | (simp; done) | (simp [*]; done)), H', ⟨Nat.le_refl _⟩, by repeat (first | exact zx.refl _ | apply zx.step)⟩
 case round =>
  clear H'
  obtain ⟨x3_1, rfl, HA, HK1, ⟨m1, rfl⟩⟩ := hrel
  cases gk with
  | zero => exact absurd HA.out (by simp [zaD.l0])
  | succ k1 =>
   have H := HA.out
   clear HA
   simp only [zaD.l0] at H
   by_cases c2 : x3_1 < (l0.length : Int)
   ·rw [if_pos c2] at H
    have c2b0 : decide (x3_1 < (l0.length : Int)) = true := decide_eq_true c2
    clear c2
    by_cases c3 : 0 ≤ x3_1
    ·rw [if_pos c3] at H
     have c3b0 : decide (0 ≤ x3_1) = true := decide_eq_true c3
     clear c3
     by_cases c4 : (((zh l0 x3_1).f2).size : Int) > 30
     ·rw [if_pos c4] at H
      have c4b0 : decide (30 < (((zh l0 x3_1).f2).size : Int)) = true := decide_eq_true c4
      have c4b1 : decide (30 < ((zh l0 x3_1).f2).size) = true := decide_eq_true (by omega)
      clear c4
      obtain rfl := Option.some.inj H
      have p247 : 0 ≤ (x3_1 : Int) := of_decide_eq_true (by first | (with_reducible assumption) | assumption)
      have q247 : x3_1 < (l0.length : Int) := of_decide_eq_true (by first | (with_reducible assumption) | assumption)
      obtain ⟨ad247, e247, hx247_0, hx247_1, hx247_2⟩ := zbt HR0.out x3_1 p247 q247
      cases e247
      replace p247 := eq_true p247
      replace q247 := eq_true q247
      go_wp2
      go_ret
      exact ⟨by first | rfl | (simp; done) | (simp [*]; done), by repeat (first | exact zx.refl _ | apply zx.step)⟩
     ·rw [if_neg c4] at H
      have c4b0 : decide (30 < (((zh l0 x3_1).f2).size : Int)) = false := decide_eq_false c4
      have c4b1 : decide (30 < ((zh l0 x3_1).f2).size) = false := decide_eq_false (by omega)
      clear c4
      have H' := za.mk H
      clear H
      have p247 : 0 ≤ (x3_1 : Int) := of_decide_eq_true (by first | (with_reducible assumption) | assumption)
      have q247 : x3_1 < (l0.length : Int) := of_decide_eq_true (by first | (with_reducible assumption) | assumption)
      obtain ⟨ad247, e247, hx247_0, hx247_1, hx247_2⟩ := zbt HR0.out x3_1 p247 q247
      cases e247
      replace p247 := eq_true p247
      replace q247 := eq_true q247
      go_wp2
      go_roundg k1
      case measure => have := HK1.out; omega
      case rel => exact ⟨(wrap64 (x3_1 + 1)), (by first | rfl | (simp; done) | (simp [*]; done)), H', ⟨by have := HK1.out; omega⟩, by repeat (first | exact zx.refl _ | apply zx.step)⟩
    ·rw [if_neg c3] at H
     exact absurd H (by simp)
   ·rw [if_neg c2] at H
    have c2b0 : decide (x3_1 < (l0.length : Int)) = false := decide_eq_false c2
    clear c2
    obtain rfl := Option.some.inj H
    go_wp2
    go_ret
    exact ⟨by first | rfl | (simp; done) | (simp [*]; done), by repeat (first | exact zx.refl _ | apply zx.step)⟩
def za7.f (a0_0 : Int) (a0_1 : Int) (a0_2 : ByteArray) : Option (Int) := if a0_0 = 1 then (some 1) else (if a0_0 = 3 then (some (-1)) else (some 0))
set_option maxHeartbeats 8000000 in
set_option maxRecDepth 100000 in
theorem za7.calls (a0_0 : Int) (a0_1 : Int) (a0_2 : ByteArray) (r : Int) (w : World) (h : za7.f a0_0 a0_1 a0_2 = some r) :
  Calls Try.prog 103 #[.agg #[.int .i64 a0_0, .int .i64 a0_1, .string a0_2]] w fun e w' => e = .returned (.int .i64 r) ∧ Below w.heap.size w w' := by
 have hu63 := Try.underlying63
 have HB := za.mk (Below.refl w.heap.size w)
 have H : (if a0_0 = 1 then (some 1) else (if a0_0 = 3 then (some (-1)) else (some 0))) = some r := h
 clear h
 by_cases c2 : a0_0 = 1
 ·rw [if_pos c2] at H
  have c2b0 : (a0_0 == 1) = true := beq_iff_eq.mpr c2
  have c2b1 : (a0_0 != 1) = false := bne_eq_false_iff_eq.mpr c2
  clear c2
  obtain rfl := Option.some.inj H
  go_enter Try.func103, Try.ntmps103
  go_wp2_with (first | ((with_reducible refine zar (N := 1) rfl ?_); refine zaF ?hg (N := 1) ?hd (cs := #[.int .i64 a0_0, .int .i64 a0_1, .string a0_2]) (t := 63) ?hr ?_; (case hd => rfl); (case hg => rfl); (case hr => first | (go_simp; done) | (go_simp; rfl)); intro gb282 hg w3 hbox hb; have n0_ := za.mk (zo (by repeat (first | (with_reducible first | exact HB.out | apply ze | apply zb | apply zf) | exact HB.out)) hb); have n1_ := za.mk (hbox); have n2_ := za.mk ((by rw [hg]; exact (zC (by repeat (first | (with_reducible first | exact HB.out | apply ze | apply zb | apply zf) | exact HB.out))) : w.heap.size ≤ gb282)); have n3_ := za.mk ((by rw [hg]; exact (zC (by repeat (first | (with_reducible first | exact HB.out | apply ze | apply zb | apply zf) | exact HB.out))) : w.heap.size ≤ gb282)); clear HB; have HB := n0_; have BK282 := n1_; have GW282 := n2_; have GE282 := n3_; clear n0_ n1_ n2_ n3_; clear hb hbox hg; have hcz4_0 : w3.cell? ⟨gb282, 0, none⟩ = some (.int .i64 a0_0) := (zg BK282.out 0).trans rfl; have hcz4_1 : w3.cell? ⟨gb282, 1, none⟩ = some (.int .i64 a0_1) := (zg BK282.out 1).trans rfl; have hcz4_2 : w3.cell? ⟨gb282, 2, none⟩ = some (.string a0_2) := (zg BK282.out 2).trans rfl; have hfz4_0 := zn BK282.out 0; have hfz4_1 := zn BK282.out 1; have hfz4_2 := zn BK282.out 2))
  go_ret
  exact ⟨by first | rfl | (simp [zu, zt] <;> rfl) | (simp [*, zu, zt] <;> rfl), by repeat (first | (with_reducible first | exact HB.out | apply ze | apply zb | apply zf | refine zi ?_ GE282.out) | exact HB.out)⟩
 ·rw [if_neg c2] at H
  have c2b0 : (a0_0 == 1) = false := beq_eq_false_iff_ne.mpr c2
  have c2b1 : (a0_0 != 1) = true := bne_iff_ne.mpr c2
  by_cases c5 : a0_0 = 3
  ·rw [if_pos c5] at H
   have c5b0 : (a0_0 == 3) = true := beq_iff_eq.mpr c5
   have c5b1 : (a0_0 != 3) = false := bne_eq_false_iff_eq.mpr c5
   clear c5
   obtain rfl := Option.some.inj H
   go_enter Try.func103, Try.ntmps103
   go_wp2_with (first | ((with_reducible refine zar (N := 1) rfl ?_); refine zaF ?hg (N := 1) ?hd (cs := #[.int .i64 a0_0, .int .i64 a0_1, .string a0_2]) (t := 63) ?hr ?_; (case hd => rfl); (case hg => rfl); (case hr => first | (go_simp; done) | (go_simp; rfl)); intro gb282 hg w6 hbox hb; have n0_ := za.mk (zo (by repeat (first | (with_reducible first | exact HB.out | apply ze | apply zb | apply zf) | exact HB.out)) hb); have n1_ := za.mk (hbox); have n2_ := za.mk ((by rw [hg]; exact (zC (by repeat (first | (with_reducible first | exact HB.out | apply ze | apply zb | apply zf) | exact HB.out))) : w.heap.size ≤ gb282)); have n3_ := za.mk ((by rw [hg]; exact (zC (by repeat (first | (with_reducible first | exact HB.out | apply ze | apply zb | apply zf) | exact HB.out))) : w.heap.size ≤ gb282)); clear HB; have HB := n0_; have BK282 := n1_; have GW282 := n2_; have GE282 := n3_; clear n0_ n1_ n2_ n3_; clear hb hbox hg; have hcz7_0 : w6.cell? ⟨gb282, 0, none⟩ = some (.int .i64 a0_0) := (zg BK282.out 0).trans rfl; have hcz7_1 : w6.cell? ⟨gb282, 1, none⟩ = some (.int .i64 a0_1) := (zg BK282.out 1).trans rfl; have hcz7_2 : w6.cell? ⟨gb282, 2, none⟩ = some (.string a0_2) := (zg BK282.out 2).trans rfl; have hfz7_0 := zn BK282.out 0; have hfz7_1 := zn BK282.out 1; have hfz7_2 := zn BK282.out 2))
   go_ret
   exact ⟨by first | rfl | (simp [zu, zt] <;> rfl) | (simp [*, zu, zt] <;> rfl), by repeat (first | (with_reducible first | exact HB.out | apply ze | apply zb | apply zf | refine zi ?_ GE282.out) | exact HB.out)⟩
  ·rw [if_neg c5] at H
   have c5b0 : (a0_0 == 3) = false := beq_eq_false_iff_ne.mpr c5
   have c5b1 : (a0_0 != 3) = true := bne_iff_ne.mpr c5
   obtain rfl := Option.some.inj H
   go_enter Try.func103, Try.ntmps103
   go_wp2_with (first | ((with_reducible refine zar (N := 1) rfl ?_); refine zaF ?hg (N := 1) ?hd (cs := #[.int .i64 a0_0, .int .i64 a0_1, .string a0_2]) (t := 63) ?hr ?_; (case hd => rfl); (case hg => rfl); (case hr => first | (go_simp; done) | (go_simp; rfl)); intro gb282 hg w8 hbox hb; have n0_ := za.mk (zo (by repeat (first | (with_reducible first | exact HB.out | apply ze | apply zb | apply zf) | exact HB.out)) hb); have n1_ := za.mk (hbox); have n2_ := za.mk ((by rw [hg]; exact (zC (by repeat (first | (with_reducible first | exact HB.out | apply ze | apply zb | apply zf) | exact HB.out))) : w.heap.size ≤ gb282)); have n3_ := za.mk ((by rw [hg]; exact (zC (by repeat (first | (with_reducible first | exact HB.out | apply ze | apply zb | apply zf) | exact HB.out))) : w.heap.size ≤ gb282)); clear HB; have HB := n0_; have BK282 := n1_; have GW282 := n2_; have GE282 := n3_; clear n0_ n1_ n2_ n3_; clear hb hbox hg; have hcz9_0 : w8.cell? ⟨gb282, 0, none⟩ = some (.int .i64 a0_0) := (zg BK282.out 0).trans rfl; have hcz9_1 : w8.cell? ⟨gb282, 1, none⟩ = some (.int .i64 a0_1) := (zg BK282.out 1).trans rfl; have hcz9_2 : w8.cell? ⟨gb282, 2, none⟩ = some (.string a0_2) := (zg BK282.out 2).trans rfl; have hfz9_0 := zn BK282.out 0; have hfz9_1 := zn BK282.out 1; have hfz9_2 := zn BK282.out 2))
   go_ret
   exact ⟨by first | rfl | (simp [zu, zt] <;> rfl) | (simp [*, zu, zt] <;> rfl), by repeat (first | (with_reducible first | exact HB.out | apply ze | apply zb | apply zf | refine zi ?_ GE282.out) | exact HB.out)⟩
def zbc.l0 : Nat → List Int → Int → Int → Option (Int)
 | 0, _, _, _ => none
 | k + 1, x0, x1, x5 => if x5 < (x0.length : Int) then (if 0 ≤ x5 then (if (rd x0 x5) = x1 then (some x5) else (zbc.l0 k x0 x1 (wrap64 (x5 + 1)))) else (none)) else (some (-1))
def zbc.f (k : Nat) (l0 : List Int) (a1 : Int) : Option (Int) := zbc.l0 k l0 a1 0
end Go.Proofs.Ytgmbbfmbimofoaa.P
