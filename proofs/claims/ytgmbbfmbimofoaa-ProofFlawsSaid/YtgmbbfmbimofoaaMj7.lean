-- MERGED BY A PROGRAM out of texts of this claim: hand work, and what a (turned) print of the kit has written for it
import Derived.Test.YtgmbbfmbimofoaaMj5
namespace Go.Proofs.Ytgmbbfmbimofoaa.P
open Go.RowKit Go.Proofs.YtgmbbfmbimofoaaW.PrintWords Go.Proofs.YtgmbbfmbimofoaaW.PrintLast Go.Proofs.YtgmbbfmbimofoaaW.PrintMore
attribute [local go_sem] zO zN zT zS zI zJ zP zQ
set_option linter.unusedVariables false
set_option linter.unusedSimpArgs false
mutual
def zo.l0 : Nat → List (List ByteArray) → List ByteArray → Int → List Int → Int → Int → Option ((List (List ByteArray)) × Int × Int)
 | 0,_,_,_,_,_,_ => none
 | k + 1,x5,x6,x7,x1000,x1001,x1002 => if x7 > 0 then ((zaC.f x6).bind fun t310 => (if x5.length < 5864062014805 then ((some (x5 ++ [t310] : List (List ByteArray))).bind fun y313 => ((zal.f x1000 x1001 x1002 4).bind fun bt316 => (if bt316.1 = true then ((zK.f k x1000 bt316.2.1 bt316.2.2 4).bind fun bt319 => (zo.j1 k y313 bt319.1 x7 x1000 bt319.2.1 bt319.2.2)) else (zo.j1 k y313 x6 x7 x1000 bt316.2.1 bt316.2.2)))) else (none))) else (some (x5,x1001,x1002))
def zo.j1 : Nat → List (List ByteArray) → List ByteArray → Int → List Int → Int → Int → Option ((List (List ByteArray)) × Int × Int)
 | 0,_,_,_,_,_,_ => none
 | k + 1,x5,x6,x7,x1000,x1001,x1002 => if (x6.length : Int) > 0 then ((zal.f x1000 x1001 x1002 2).bind fun bt324 => (zo.j2 k x5 x6 x7 bt324.1 x1000 bt324.2.1 bt324.2.2)) else (zo.j2 k x5 x6 x7 false x1000 x1001 x1002)
def zo.j2 : Nat → List (List ByteArray) → List ByteArray → Int → Bool → List Int → Int → Int → Option ((List (List ByteArray)) × Int × Int)
 | 0,_,_,_,_,_,_,_ => none
 | k + 1,x5,x6,x7,x32,x1000,x1001,x1002 => if x32 = true then ((zaC.f x6).bind fun t327 => ((zW.f x1000 x1001 x1002 (wrap64 ((t327.length : Int) - 1))).bind fun bt330 => ((zae.f x1000 bt330.2.1 bt330.2.2).bind fun bt333 => (if 0 ≤ bt330.1 then (if bt330.1 < (t327.length : Int) then (zo.j3 k x5 (t327.set (bt330.1 : Int).toNat bt333.1) x7 x1000 bt333.2.1 bt333.2.2) else (none)) else (none))))) else (zo.j3 k x5 x6 x7 x1000 x1001 x1002)
def zo.j3 : Nat → List (List ByteArray) → List ByteArray → Int → List Int → Int → Int → Option ((List (List ByteArray)) × Int × Int)
 | 0,_,_,_,_,_,_ => none
 | k + 1,x5,x6,x7,x1000,x1001,x1002 => if (x6.length : Int) > 0 then ((zal.f x1000 x1001 x1002 3).bind fun bt337 => (zo.j4 k x5 x6 x7 bt337.1 x1000 bt337.2.1 bt337.2.2)) else (zo.j4 k x5 x6 x7 false x1000 x1001 x1002)
def zo.j4 : Nat → List (List ByteArray) → List ByteArray → Int → Bool → List Int → Int → Int → Option ((List (List ByteArray)) × Int × Int)
 | 0,_,_,_,_,_,_,_ => none
 | k + 1,x5,x6,x7,x50,x1000,x1001,x1002 => if x50 = true then (if 1 ≤ (x6.length : Int) then (zo.j5 k x5 (x6.drop (1 : Int).toNat) x7 x1000 x1001 x1002) else (none)) else (zo.j5 k x5 x6 x7 x1000 x1001 x1002)
def zo.j5 : Nat → List (List ByteArray) → List ByteArray → Int → List Int → Int → Int → Option ((List (List ByteArray)) × Int × Int)
 | 0,_,_,_,_,_,_ => none
 | k + 1,x5,x6,x7,x1000,x1001,x1002 => if (x6.length : Int) < 6 then ((zal.f x1000 x1001 x1002 3).bind fun bt343 => (zo.j6 k x5 x6 x7 bt343.1 x1000 bt343.2.1 bt343.2.2)) else (zo.j6 k x5 x6 x7 false x1000 x1001 x1002)
def zo.j6 : Nat → List (List ByteArray) → List ByteArray → Int → Bool → List Int → Int → Int → Option ((List (List ByteArray)) × Int × Int)
 | 0,_,_,_,_,_,_,_ => none
 | k + 1,x5,x6,x7,x59,x1000,x1001,x1002 => if x59 = true then ((zaC.f x6).bind fun t346 => ((zae.f x1000 x1001 x1002).bind fun bt349 => (if t346.length < 8796093022208 then (zo.l0 k x5 (t346 ++ [bt349.1]) (wrap64 (x7 - 1)) x1000 bt349.2.1 bt349.2.2) else (none)))) else (zo.l0 k x5 x6 (wrap64 (x7 - 1)) x1000 x1001 x1002)
end
def zo.f (k : Nat) (s0_0 : List Int) (s0_1 : Int) (s0_2 : Int) (a1 : Int) : Option ((List (List ByteArray)) × Int × Int) := (zK.f k s0_0 s0_1 s0_2 4).bind fun bt302 => ((zW.f s0_0 bt302.2.1 bt302.2.2 a1).bind fun bt307 => (zo.l0 k ([] : List (List ByteArray)) bt302.1 bt307.1 s0_0 bt307.2.1 bt307.2.2))
set_option maxHeartbeats 8000000 in
set_option maxRecDepth 100000 in
theorem zo.calls (k : Nat) (g : Nat) (s0_0 : List Int) (s0_1 : Int) (s0_2 : Int) (a1 : Int) (r1 : List (List ByteArray)) (r2 : Int) (r3 : Int) (w0 w : World) (hI : zg w0 w g s0_0 s0_1 s0_2) (hB : Below w0.heap.size w0 w) (h : zo.f k s0_0 s0_1 s0_2 a1 = some (r1,r2,r3)) :
  Calls Try.prog 33 #[.pointer (some ⟨g,0,none⟩), .int .i64 a1] w fun e w' => ∃ v0_ : Value,e = .returned (v0_) ∧ Kd.S (Kd.slice 9 Kd.string) 22 w' w.heap.size (fun _ => True) v0_ r1 ∧ zg w0 w' g s0_0 r2 r3 ∧ Below w0.heap.size w0 w' ∧ zq w w' g none := by
 have HI0 := za.mk hI
 have HK := za.mk (zq.refl w g none)
 have HL := za.mk hB.size
 clear hI
 have HW0 := za.mk hB.size
 have HB := za.mk hB
 clear hB
 have H : ((zK.f k s0_0 s0_1 s0_2 4).bind fun bt302 => ((zW.f s0_0 bt302.2.1 bt302.2.2 a1).bind fun bt307 => (zo.l0 k ([] : List (List ByteArray)) bt302.1 bt307.1 s0_0 bt307.2.1 bt307.2.2))) = some (r1,r2,r3) := h
 clear h
 replace H := Option.bind_eq_some_iff.mp H
 obtain ⟨⟨t302,t305,t306⟩,A30,H⟩ := H
 replace H : ((zW.f s0_0 t305 t306 a1).bind fun bt307 => (zo.l0 k ([] : List (List ByteArray)) t302 bt307.1 s0_0 bt307.2.1 bt307.2.2)) = some (r1,r2,r3) := H
 have A3 := za.mk A30
 clear A30
 replace H := Option.bind_eq_some_iff.mp H
 obtain ⟨⟨t307,t308,t309⟩,A40,H⟩ := H
 replace H : (zo.l0 k ([] : List (List ByteArray)) t302 t307 s0_0 t308 t309) = some (r1,r2,r3) := H
 have A4 := za.mk A40
 clear A40
 have H' := za.mk H
 clear H
 go_enter Try.func33,Try.ntmps33
 go_wp2_with (first | ((with_reducible refine zC (f := 20) rfl ?_); refine zY (some 9) rfl rfl Try.func20 qj rfl #[.pointer (some ⟨g,0,none⟩), .int .i64 4] rfl qb ?_; (with_reducible refine (zK.calls k g s0_0 s0_1 s0_2 4 t302 t305 t306 w0 _ ?side1 ?side2 A3.out).mono ?_); (case side1 => exact qf HI0.out); (case side2 => exact qg HB.out HI0.out); rintro e w5 ⟨v303,rfl,ho0,hi,hb,hk⟩; refine ⟨_,rfl,?_⟩; have n0_ := za.mk (Kd.zaO ho0 (zbM (w := w) (g := g) (row := none) (qe HK.out))); have n1_ := za.mk (zq.trans (qe HK.out) hk (.inl rfl)); have n2_ := za.mk (hb); have n3_ := za.mk (hi); clear HK; clear HB; clear HI0; have HO304 := n0_; have HK := n1_; have HB := n2_; have HI0 := n3_; clear n0_ n1_ n2_ n3_; (try clear hb); (try clear hb2); (try clear hk); (try clear hi); (try clear ho0)) | ((with_reducible refine zC (f := 28) rfl ?_); refine zY (some 12) rfl rfl Try.func28 qj rfl #[.pointer (some ⟨g,0,none⟩), .int .i64 a1] rfl qb ?_; (with_reducible refine (zW.calls g s0_0 t305 t306 a1 t307 t308 t309 w0 _ ?side1 ?side2 A4.out).mono ?_); (case side1 => exact qf HI0.out); (case side2 => exact qg HB.out HI0.out); rintro e w6 ⟨rfl,hi,hb,hk⟩; refine ⟨_,rfl,?_⟩; have n0_ := za.mk (Kd.zav (Kd.zb4 (zg.apart (show zg w0 _ g s0_0 t305 t306 from by repeat (first | (with_reducible first | exact HI0.out | apply zg.alloc | apply zg.drewN | apply zg.drew | apply zg.z8 | apply zg.zZ) | exact HI0.out)) (qp HO304.out) qt) hk (fun _ h => h.2)) (fun _ h => h.1)); have n1_ := za.mk (zq.trans (qe HK.out) hk (.inl rfl)); have n2_ := za.mk (hb); have n3_ := za.mk (hi); clear HO304; clear HK; clear HB; clear HI0; have HO304 := n0_; have HK := n1_; have HB := n2_; have HI0 := n3_; clear n0_ n1_ n2_ n3_; (try clear hb); (try clear hb2); (try clear hk); (try clear hi)))
 go_loopg [5,6,7] k (fun kq v5 v6 v7 w' => ∃ (x5_1 : List (List ByteArray)) (x6_1 : List ByteArray) (x7_1 : Int) (x1001_1 : Int) (x1002_1 : Int),v7 = .int .i64 x7_1 ∧ za (zo.l0 kq x5_1 x6_1 x7_1 s0_0 x1001_1 x1002_1 = some (r1,r2,r3)) ∧ za (kq ≤ k) ∧ za (Kd.S (Kd.slice 9 Kd.string) 22 w' w.heap.size (fun k_ => some k_ ≠ (v6 : Value).ownBlock) v5 x5_1) ∧ za (Kd.Q Kd.string 9 w' w.heap.size (fun _ => True) v6 x6_1) ∧ za (zg w0 w' g s0_0 x1001_1 x1002_1) ∧ za (zq w w' g none) ∧ za (Below w0.heap.size w0 w'))
 case atStart => exact ⟨(([] : List (List ByteArray))),(t302),(t307),(t308),(t309),qn,H',⟨Nat.le_refl _⟩,⟨by first | exact Kd.zdK _ _ _ _ _ | exact Kd.zdA _ _ _ _ _ | exact Kd.zdD _ _ _ _ _ | exact Kd.zdF _ _ _ _ _ | exact Kd.zbS _ _ _ _ _⟩,⟨Kd.zeI (qp HO304.out)⟩,⟨by repeat (first | (with_reducible first | exact HI0.out | apply zg.alloc | apply zg.drewN | apply zg.drew | apply zg.z8 | apply zg.zZ) | exact HI0.out)⟩,⟨by repeat (first | (with_reducible first | exact HK.out | apply zq.zas | apply zH | apply zM | apply zG) | exact HK.out)⟩,⟨by repeat (first | (with_reducible first | exact HB.out | apply ze | apply zb | apply zf | refine zi ?_ (zg.ge HI0.out)) | exact HB.out)⟩⟩
 case round =>
  clear H'
  try clear c2
  try clear p2
  try clear c3
  obtain ⟨x5_1,x6_1,x7_1,x1001_1,x1002_1,rfl,HA,HK1,HO_5,HO_6,HI0,HK,HB⟩ := hrel
  cases gk with
  | zero => exact absurd HA.out (by simp [zo.l0])
  | succ k1 =>
   have H := HA.out
   clear HA
   simp only [zo.l0] at H
   by_cases c7 : x7_1 > 0
   ·rw [if_pos c7] at H
    have c7b0 : decide (0 < x7_1) = true := decide_eq_true c7
    clear c7
    replace H := Option.bind_eq_some_iff.mp H
    obtain ⟨t310,A80,H⟩ := H
    replace H : (if x5_1.length < 5864062014805 then ((some (x5_1 ++ [t310] : List (List ByteArray))).bind fun y313 => ((zal.f s0_0 x1001_1 x1002_1 4).bind fun bt316 => (if bt316.1 = true then ((zK.f k1 s0_0 bt316.2.1 bt316.2.2 4).bind fun bt319 => (zo.j1 k1 y313 bt319.1 x7_1 s0_0 bt319.2.1 bt319.2.2)) else (zo.j1 k1 y313 x6_1 x7_1 s0_0 bt316.2.1 bt316.2.2)))) else (none)) = some (r1,r2,r3) := H
    have A8 := za.mk A80
    clear A80
    by_cases c9 : x5_1.length < 5864062014805
    ·rw [if_pos c9] at H
     have LMc9 := za.mk c9
     clear c9
     obtain ⟨y313,hy313⟩ : ∃ y_ : List (List ByteArray),y_ = (x5_1 ++ [t310]) := ⟨_,rfl⟩
     replace H : ((zal.f s0_0 x1001_1 x1002_1 4).bind fun bt316 => (if bt316.1 = true then ((zK.f k1 s0_0 bt316.2.1 bt316.2.2 4).bind fun bt319 => (zo.j1 k1 y313 bt319.1 x7_1 s0_0 bt319.2.1 bt319.2.2)) else (zo.j1 k1 y313 x6_1 x7_1 s0_0 bt316.2.1 bt316.2.2))) = some (r1,r2,r3) := by first | (rw [hy313]; with_reducible exact H) | (have H2_ := (Option.bind_some _ _).symm.trans H; rw [hy313]; with_reducible exact H2_) | (have H2_ := (Option.bind_some _ _).symm.trans H; with_reducible exact H2_) | with_reducible exact H | (rw [hy313]; exact H) | exact H
     have Ny313 := za.mk hy313
     clear hy313
     replace H := Option.bind_eq_some_iff.mp H
     obtain ⟨⟨t316,t317,t318⟩,A100,H⟩ := H
     replace H : (if t316 = true then ((zK.f k1 s0_0 t317 t318 4).bind fun bt319 => (zo.j1 k1 y313 bt319.1 x7_1 s0_0 bt319.2.1 bt319.2.2)) else (zo.j1 k1 y313 x6_1 x7_1 s0_0 t317 t318)) = some (r1,r2,r3) := H
     have A10 := za.mk A100
     clear A100
     have HC11 := za.mk H
     clear H
     obtain ⟨Ao12,co12,eo12,_⟩ := Kd.zcy HO_6.out
     subst eo12
     go_upto_if 23 with (first | ((with_reducible refine zC (f := 21) rfl ?_); refine zY (some 19) rfl rfl Try.func21 qj rfl #[.slice Ao12 x6_1.length co12] rfl qb ?_; (with_reducible refine (zaC.calls _ _ x6_1 t310 _ ?side1 ?side2 A8.out).mono ?_); (case side1 => exact qL HO_6.out); (case side2 => exact (Kd.zcX HO_6.out).2.1); rintro e w13 ⟨v311,rfl,ho0,hb⟩; refine ⟨_,rfl,?_⟩; have n0_ := za.mk (Kd.zfi (qw HO_5.out) (Kd.zcT ho0) hb); have n1_ := za.mk (Kd.zfj (qu HO_6.out) (Kd.zcT ho0) hb); have n2_ := za.mk (Kd.zaO (Kd.zeA ho0 (Kd.zfU (qu HO_6.out))) (zbM (w := w) (g := g) (row := none) (qe HK.out))); have n3_ := za.mk (zg.below (qf HI0.out) hb); have n4_ := za.mk (zq.trans (qe HK.out) (zq.of_below hb g none) (.inl rfl)); have n5_ := za.mk (zu (qg HB.out HI0.out) hb); clear HO_5; clear HO_6; clear HI0; clear HK; clear HB; have HO_5 := n0_; have HO_6 := n1_; have HO312 := n2_; have HI0 := n3_; have HK := n4_; have HB := n5_; clear n0_ n1_ n2_ n3_ n4_ n5_; (try clear hb); (try clear hb2); (try clear hk); (try clear hi); (try clear ho0); obtain ⟨Ao15,co15,eo15⟩ := Kd.za3 HO312.out; subst eo15) | ((with_reducible refine za6 (b := .append) (xs := #[.tmp 17, .tmp 20]) rfl ?_); at_builtin; refine Kd.zgs (Kd.slice 9 Kd.string) w.heap.size rfl (.tmp 17) (.tmp 20) 29 22 (.slice none 0 0) 24 rfl Try.underlying29 ziu rfl qt qk u5 x5_1 t310 [.slice Ao15 t310.length co15] (fun k_ => some k_ ≠ (.slice Ao12 x6_1.length co12 : Value).ownBlock) (fun k_ => some k_ = (.slice Ao15 t310.length co15 : Value).ownBlock) rfl rfl ?aP (fun k_ hk_ => ((Kd.zav (ok' := fun k_ => ((fun k_ => some k_ ≠ (.slice Ao12 x6_1.length co12 : Value).ownBlock)) k_ ∧ some k_ ≠ (u5 : Value).ownBlock) (Kd.zgx (HO312.out) (Kd.zfZ HO_5.out) qt) (fun k_ hk => ⟨hk.1.2,hk.2⟩))).1 k_ hk_.symm) ?aF ?aO (Below.refl _ _) ?aS ?aL ?_; (case aP => exact Kd.zjb (Kd.zav (Kd.zf1 rfl (Kd.zav (ok' := fun k_ => ((fun k_ => some k_ ≠ (.slice Ao12 x6_1.length co12 : Value).ownBlock)) k_ ∧ some k_ ≠ (u5 : Value).ownBlock) (Kd.zgx (HO312.out) (Kd.zfZ HO_5.out) qt) (fun k_ hk => ⟨hk.1.2,hk.2⟩))) (fun _ h_ => h_))); (case aF => exact (fun k_ hk => Kd.fresh' (Kd.zfU (qu HO_6.out)) k_ hk)); (case aO => exact (by (with_reducible repeat (first | apply Kd.zaV | apply Kd.zaW | apply Kd.za4)); exact Kd.zbL HO_5.out (fun k_ hk => ⟨hk.1,fun e_ => hk.2 e_⟩))); (case aS => exact (zbM (w := w) (g := g) (row := none) (qe HK.out))); (case aL => have := LMc9.out; omega); intro v314 w14 ho hb hg hat; rw [← Ny313.out] at ho; have n0_ := za.mk (Kd.zjK (qu HO_6.out) (Kd.zfZ (qw HO_5.out)) qt hg); have n1_ := za.mk (zg.grown (qf HI0.out) hg (zg.zhh HI0.out HO_5.out qt)); have n2_ := za.mk (zbp (qg HB.out HI0.out) HL.out hb); have n3_ := za.mk (zq.trans (qe HK.out) (zq.zcH hg g) (Kd.zjk HO_5.out)); have n4_ := za.mk (ho); clear HO_6; clear HI0; clear HB; clear HK; clear HO_5; clear HO312; have HO_6 := n0_; have HI0 := n1_; have HB := n2_; have HK := n3_; have HO315 := n4_; clear n0_ n1_ n2_ n3_ n4_; clear ho hb hg hat) | ((with_reducible refine zC (f := 49) rfl ?_); refine zY (some 23) rfl rfl Try.func49 qj rfl #[.pointer (some ⟨g,0,none⟩), .int .i64 4] rfl qb ?_; (with_reducible refine (zal.calls g s0_0 x1001_1 x1002_1 4 t316 t317 t318 w0 _ ?side1 ?side2 A10.out).mono ?_); (case side1 => exact qf HI0.out); (case side2 => exact qg HB.out HI0.out); rintro e w16 ⟨rfl,hi,hb,hk⟩; refine ⟨_,rfl,?_⟩; have n0_ := za.mk (Kd.zbZ (Kd.zdt (zg.zds (show zg w0 _ g s0_0 x1001_1 x1002_1 from by repeat (first | (with_reducible first | exact HI0.out | apply zg.alloc | apply zg.drewN | apply zg.drew | apply zg.z8 | apply zg.zZ) | exact HI0.out)) (qu HO_6.out) qt) hk (fun _ h => h.2)) (fun _ h => h.1)); have n1_ := za.mk (Kd.zbL (Kd.zc9 (zg.zdv (show zg w0 _ g s0_0 x1001_1 x1002_1 from by repeat (first | (with_reducible first | exact HI0.out | apply zg.alloc | apply zg.drewN | apply zg.drew | apply zg.z8 | apply zg.zZ) | exact HI0.out)) (qw HO315.out) qt) hk (fun _ h => h.2)) (fun _ h => h.1)); have n2_ := za.mk (zq.trans (qe HK.out) hk (.inl rfl)); have n3_ := za.mk (hb); have n4_ := za.mk (hi); clear HO_6; clear HO315; clear HK; clear HB; clear HI0; have HO_6 := n0_; have HO315 := n1_; have HK := n2_; have HB := n3_; have HI0 := n4_; clear n0_ n1_ n2_ n3_ n4_; (try clear hb); (try clear hb2); (try clear hk); (try clear hi)))
     (try simp only [Act.put,List.setIfInBounds_toArray,List.set_cons_zero,List.set_cons_succ])
     go_cut [6] (fun v6 wc => ∃ (kq : Nat) (x6_10 : List ByteArray) (x1001_10 : Int) (x1002_10 : Int),za (zo.j1 kq y313 x6_10 x7_1 s0_0 x1001_10 x1002_10 = some (r1,r2,r3)) ∧ za (kq ≤ k1) ∧ za (Kd.S (Kd.slice 9 Kd.string) 22 wc w.heap.size (fun k_ => some k_ ≠ (v6 : Value).ownBlock) v314 y313) ∧ za (Kd.Q Kd.string 9 wc w.heap.size (fun _ => True) v6 x6_10) ∧ za (zg w0 wc g s0_0 x1001_10 x1002_10) ∧ za (zq w wc g none) ∧ za (Below w0.heap.size w0 wc))
     case first =>
      have H := HC11.out
      clear HC11
      by_cases c17 : t316 = true
      ·subst c17
       have H1 : ((zK.f k1 s0_0 t317 t318 4).bind fun bt319 => (zo.j1 k1 y313 bt319.1 x7_1 s0_0 bt319.2.1 bt319.2.2)) = some (r1,r2,r3) := by rw [if_pos rfl] at H; exact H
       clear H
       have H := H1
       clear H1
       replace H := Option.bind_eq_some_iff.mp H
       obtain ⟨⟨t319,t322,t323⟩,A180,H⟩ := H
       replace H : (zo.j1 k1 y313 t319 x7_1 s0_0 t322 t323) = some (r1,r2,r3) := H
       have A18 := za.mk A180
       clear A180
       have H' := za.mk H
       clear H
       go_wp2_with (first | ((with_reducible refine zC (f := 20) rfl ?_); refine zY (some 25) rfl rfl Try.func20 qj rfl #[.pointer (some ⟨g,0,none⟩), .int .i64 4] rfl qb ?_; (with_reducible refine (zK.calls k1 g s0_0 t317 t318 4 t319 t322 t323 w0 _ ?side1 ?side2 A18.out).mono ?_); (case side1 => exact qf HI0.out); (case side2 => exact qg HB.out HI0.out); rintro e w19 ⟨v320,rfl,ho0,hi,hb,hk⟩; refine ⟨_,rfl,?_⟩; have n0_ := za.mk (Kd.zbZ (Kd.zj1 (Kd.zjU (zg.zds (show zg w0 _ g s0_0 t317 t318 from by repeat (first | (with_reducible first | exact HI0.out | apply zg.alloc | apply zg.drewN | apply zg.drew | apply zg.z8 | apply zg.zZ) | exact HI0.out)) (qu HO_6.out) qt) hk) (Kd.zcT ho0)) (fun _ h_ => h_.1)); have n1_ := za.mk (Kd.zbL (Kd.zj0 (Kd.zkd (zg.zdv (show zg w0 _ g s0_0 t317 t318 from by repeat (first | (with_reducible first | exact HI0.out | apply zg.alloc | apply zg.drewN | apply zg.drew | apply zg.z8 | apply zg.zZ) | exact HI0.out)) (qw HO315.out) qt) hk) (Kd.zcT ho0)) (fun _ h_ => h_.1)); have n2_ := za.mk (Kd.zaO (Kd.zeA ho0 (Kd.zfU (qu HO_6.out))) (zbM (w := w) (g := g) (row := none) (qe HK.out))); have n3_ := za.mk (zq.trans (qe HK.out) hk (.inl rfl)); have n4_ := za.mk (hb); have n5_ := za.mk (hi); clear HO_6; clear HO315; clear HK; clear HB; clear HI0; have HO_6 := n0_; have HO315 := n1_; have HO321 := n2_; have HK := n3_; have HB := n4_; have HI0 := n5_; clear n0_ n1_ n2_ n3_ n4_ n5_; (try clear hb); (try clear hb2); (try clear hk); (try clear hi); (try clear ho0)))
       go_meet
       case rel => exact ⟨_,(t319),(t322),(t323),H',⟨by have := HK1.out; first | omega | exact Nat.le_refl _⟩,⟨by (with_reducible repeat (first | apply Kd.zaV | apply Kd.zaW | apply Kd.za4)); exact Kd.zbL HO315.out (fun _ hk => hk.2)⟩,⟨Kd.zeI (qO HO321.out)⟩,⟨by repeat (first | (with_reducible first | exact HI0.out | apply zg.alloc | apply zg.drewN | apply zg.drew | apply zg.z8 | apply zg.zZ) | exact HI0.out)⟩,⟨by repeat (first | (with_reducible first | exact HK.out | apply zq.zas | apply zH | apply zM | apply zG) | exact HK.out)⟩,⟨by repeat (first | (with_reducible first | exact HB.out | apply ze | apply zb | apply zf | refine zi ?_ (zg.ge HI0.out)) | exact HB.out)⟩⟩
      ·replace c17 := Bool.eq_false_iff.mpr c17
       subst c17
       have H1 : (zo.j1 k1 y313 x6_1 x7_1 s0_0 t317 t318) = some (r1,r2,r3) := by rw [if_neg (show ¬ (false = true) by decide)] at H; exact H
       clear H
       have H := H1
       clear H1
       have H' := za.mk H
       clear H
       go_wp2
       go_meet
       case rel => exact ⟨_,(x6_1),(t317),(t318),H',⟨by have := HK1.out; first | omega | exact Nat.le_refl _⟩,⟨by (with_reducible repeat (first | apply Kd.zaV | apply Kd.zaW | apply Kd.za4)); exact HO315.out⟩,⟨by (with_reducible repeat (first | apply Kd.zaS | apply Kd.zaT | apply Kd.za1)); exact Kd.zbZ HO_6.out (fun _ hk => trivial)⟩,⟨by repeat (first | (with_reducible first | exact HI0.out | apply zg.alloc | apply zg.drewN | apply zg.drew | apply zg.z8 | apply zg.zZ) | exact HI0.out)⟩,⟨by repeat (first | (with_reducible first | exact HK.out | apply zq.zas | apply zH | apply zM | apply zG) | exact HK.out)⟩,⟨by repeat (first | (with_reducible first | exact HB.out | apply ze | apply zb | apply zf | refine zi ?_ (zg.ge HI0.out)) | exact HB.out)⟩⟩
     case rest =>
      clear HC11
      try clear c1
      try clear c2
      try clear p2
      try clear c3
      try clear c4
      try clear c7
      try clear c7b0
      try clear c9
      try clear c17
      try clear p2
      obtain ⟨kq,x6_10,x1001_10,x1002_10,HA,HJ10,HO_5,HO_6,HI0,HK,HB⟩ := hcut
      cases kq with
      | zero => exact absurd HA.out (by simp [zo.j1])
      | succ kj10 =>
       have H := HA.out
       clear HA
       simp only [zo.j1] at H
       have HC20 := za.mk H
       clear H
       go_upto_region 9 with (fail)
       go_cut [32] (fun v32 wc => ∃ (kq : Nat) (x32_19 : Bool) (x1001_19 : Int) (x1002_19 : Int),v32 = .bool x32_19 ∧ za (zo.j2 kq y313 x6_10 x7_1 x32_19 s0_0 x1001_19 x1002_19 = some (r1,r2,r3)) ∧ za (kq ≤ kj10) ∧ za (Kd.S (Kd.slice 9 Kd.string) 22 wc w.heap.size (fun k_ => some k_ ≠ (u6 : Value).ownBlock) v314 y313) ∧ za (Kd.Q Kd.string 9 wc w.heap.size (fun _ => True) u6 x6_10) ∧ za (zg w0 wc g s0_0 x1001_19 x1002_19) ∧ za (zq w wc g none) ∧ za (Below w0.heap.size w0 wc))
       case first =>
        have H := HC20.out
        clear HC20
        by_cases c21 : (x6_10.length : Int) > 0
        ·rw [if_pos c21] at H
         have c21b0 : decide (0 < (x6_10.length : Int)) = true := decide_eq_true c21
         have c21b1 : decide (0 < x6_10.length) = true := decide_eq_true qk
         clear c21
         (first | rw [c21b0] | (simp only [zad,zah]; rw [c21b0]) | skip)
         replace H := Option.bind_eq_some_iff.mp H
         obtain ⟨⟨t324,t325,t326⟩,A220,H⟩ := H
         replace H : (zo.j2 kj10 y313 x6_10 x7_1 t324 s0_0 t325 t326) = some (r1,r2,r3) := H
         have A22 := za.mk A220
         clear A220
         have H' := za.mk H
         clear H
         obtain ⟨Ao23,co23,eo23,_⟩ := Kd.zcy HO_6.out
         subst eo23
         go_wp2_with (first | (go_at_call 49; (with_reducible refine (zal.calls g s0_0 x1001_10 x1002_10 2 t324 t325 t326 w0 _ ?side1 ?side2 A22.out).mono ?_); (case side1 => exact qf HI0.out); (case side2 => exact qg HB.out HI0.out); rintro e w24 ⟨rfl,hi,hb,hk⟩; have n0_ := za.mk (Kd.zbL (Kd.zc9 (zg.zdv (show zg w0 _ g s0_0 x1001_10 x1002_10 from by repeat (first | (with_reducible first | exact HI0.out | apply zg.alloc | apply zg.drewN | apply zg.drew | apply zg.z8 | apply zg.zZ) | exact HI0.out)) (qw HO_5.out) qt) hk (fun _ h => h.2)) (fun _ h => h.1)); have n1_ := za.mk (Kd.zbZ (Kd.zdt (zg.zds (show zg w0 _ g s0_0 x1001_10 x1002_10 from by repeat (first | (with_reducible first | exact HI0.out | apply zg.alloc | apply zg.drewN | apply zg.drew | apply zg.z8 | apply zg.zZ) | exact HI0.out)) (qu HO_6.out) qt) hk (fun _ h => h.2)) (fun _ h => h.1)); have n2_ := za.mk (zq.trans (qe HK.out) hk (.inl rfl)); have n3_ := za.mk (hb); have n4_ := za.mk (hi); clear HO_5; clear HO_6; clear HK; clear HB; clear HI0; have HO_5 := n0_; have HO_6 := n1_; have HK := n2_; have HB := n3_; have HI0 := n4_; clear n0_ n1_ n2_ n3_ n4_; (try clear hb); (try clear hb2); (try clear hk); (try clear hi)))
         go_meet
         case rel => exact ⟨_,(t324),(t325),(t326),qn,H',⟨by have := HK1.out; have := HJ10.out; first | omega | exact Nat.le_refl _⟩,⟨by (with_reducible repeat (first | apply Kd.zaV | apply Kd.zaW | apply Kd.za4)); exact HO_5.out⟩,⟨by (with_reducible repeat (first | apply Kd.zaS | apply Kd.zaT | apply Kd.za1)); exact HO_6.out⟩,⟨by repeat (first | (with_reducible first | exact HI0.out | apply zg.alloc | apply zg.drewN | apply zg.drew | apply zg.z8 | apply zg.zZ) | exact HI0.out)⟩,⟨by repeat (first | (with_reducible first | exact HK.out | apply zq.zas | apply zH | apply zM | apply zG) | exact HK.out)⟩,⟨by repeat (first | (with_reducible first | exact HB.out | apply ze | apply zb | apply zf | refine zi ?_ (zg.ge HI0.out)) | exact HB.out)⟩⟩
        ·rw [if_neg c21] at H
         have c21b0 : decide (0 < (x6_10.length : Int)) = false := decide_eq_false c21
         have c21b1 : decide (0 < x6_10.length) = false := decide_eq_false qk
         clear c21
         (first | rw [c21b0] | (simp only [zad,zah]; rw [c21b0]) | skip)
         have H' := za.mk H
         clear H
         obtain ⟨Ao25,co25,eo25,_⟩ := Kd.zcy HO_6.out
         subst eo25
         go_wp2
         go_meet
         case rel => exact ⟨_,(false),(x1001_10),(x1002_10),qn,H',⟨by have := HK1.out; have := HJ10.out; first | omega | exact Nat.le_refl _⟩,⟨by (with_reducible repeat (first | apply Kd.zaV | apply Kd.zaW | apply Kd.za4)); exact HO_5.out⟩,⟨by (with_reducible repeat (first | apply Kd.zaS | apply Kd.zaT | apply Kd.za1)); exact HO_6.out⟩,⟨by repeat (first | (with_reducible first | exact HI0.out | apply zg.alloc | apply zg.drewN | apply zg.drew | apply zg.z8 | apply zg.zZ) | exact HI0.out)⟩,⟨by repeat (first | (with_reducible first | exact HK.out | apply zq.zas | apply zH | apply zM | apply zG) | exact HK.out)⟩,⟨by repeat (first | (with_reducible first | exact HB.out | apply ze | apply zb | apply zf | refine zi ?_ (zg.ge HI0.out)) | exact HB.out)⟩⟩
       case rest =>
        clear HC20
        try clear c1
        try clear c2
        try clear p2
        try clear c3
        try clear c4
        try clear c7
        try clear c7b0
        try clear c9
        try clear c17
        try clear c20
        try clear c21
        try clear c21b0
        try clear c21b1
        try clear p2
        obtain ⟨kq,x32_19,x1001_19,x1002_19,rfl,HA,HJ19,HO_5,HO_6,HI0,HK,HB⟩ := hcut
        cases kq with
        | zero => exact absurd HA.out (by simp [zo.j2])
        | succ kj19 =>
         have H := HA.out
         clear HA
         simp only [zo.j2] at H
         have HC26 := za.mk H
         clear H
         go_upto_if 32 with (fail)
         go_cut [6] (fun v6 wc => ∃ (kq : Nat) (x6_25 : List ByteArray) (x1001_25 : Int) (x1002_25 : Int),za (zo.j3 kq y313 x6_25 x7_1 s0_0 x1001_25 x1002_25 = some (r1,r2,r3)) ∧ za (kq ≤ kj19) ∧ za (Kd.S (Kd.slice 9 Kd.string) 22 wc w.heap.size (fun k_ => some k_ ≠ (v6 : Value).ownBlock) v314 y313) ∧ za (Kd.Q Kd.string 9 wc w.heap.size (fun _ => True) v6 x6_25) ∧ za (zg w0 wc g s0_0 x1001_25 x1002_25) ∧ za (zq w wc g none) ∧ za (Below w0.heap.size w0 wc))
         case first =>
          have H := HC26.out
          clear HC26
          by_cases c27 : x32_19 = true
          ·subst c27
           have H1 : ((zaC.f x6_10).bind fun t327 => ((zW.f s0_0 x1001_19 x1002_19 (wrap64 ((t327.length : Int) - 1))).bind fun bt330 => ((zae.f s0_0 bt330.2.1 bt330.2.2).bind fun bt333 => (if 0 ≤ bt330.1 then (if bt330.1 < (t327.length : Int) then (zo.j3 kj19 y313 (t327.set (bt330.1 : Int).toNat bt333.1) x7_1 s0_0 bt333.2.1 bt333.2.2) else (none)) else (none))))) = some (r1,r2,r3) := by rw [if_pos rfl] at H; exact H
           clear H
           have H := H1
           clear H1
           replace H := Option.bind_eq_some_iff.mp H
           obtain ⟨t327,A280,H⟩ := H
           replace H : ((zW.f s0_0 x1001_19 x1002_19 (wrap64 ((t327.length : Int) - 1))).bind fun bt330 => ((zae.f s0_0 bt330.2.1 bt330.2.2).bind fun bt333 => (if 0 ≤ bt330.1 then (if bt330.1 < (t327.length : Int) then (zo.j3 kj19 y313 (t327.set (bt330.1 : Int).toNat bt333.1) x7_1 s0_0 bt333.2.1 bt333.2.2) else (none)) else (none)))) = some (r1,r2,r3) := H
           have A28 := za.mk A280
           clear A280
           replace H := Option.bind_eq_some_iff.mp H
           obtain ⟨⟨t330,t331,t332⟩,A290,H⟩ := H
           replace H : ((zae.f s0_0 t331 t332).bind fun bt333 => (if 0 ≤ t330 then (if t330 < (t327.length : Int) then (zo.j3 kj19 y313 (t327.set (t330 : Int).toNat bt333.1) x7_1 s0_0 bt333.2.1 bt333.2.2) else (none)) else (none))) = some (r1,r2,r3) := H
           have A29 := za.mk A290
           clear A290
           replace H := Option.bind_eq_some_iff.mp H
           obtain ⟨⟨t333,t334,t335⟩,A300,H⟩ := H
           replace H : (if 0 ≤ t330 then (if t330 < (t327.length : Int) then (zo.j3 kj19 y313 (t327.set (t330 : Int).toNat t333) x7_1 s0_0 t334 t335) else (none)) else (none)) = some (r1,r2,r3) := H
           have A30 := za.mk A300
           clear A300
           by_cases c31 : 0 ≤ t330
           ·rw [if_pos c31] at H
            have c31b0 : decide (0 ≤ t330) = true := decide_eq_true c31
            clear c31
            (first | rw [c31b0] | (simp only [zad,zah]; rw [c31b0]) | skip)
            by_cases c32 : t330 < (t327.length : Int)
            ·rw [if_pos c32] at H
             have c32b0 : decide (t330 < (t327.length : Int)) = true := decide_eq_true c32
             clear c32
             obtain ⟨y336,hy336⟩ : ∃ y_ : List ByteArray,y_ = (t327.set (t330 : Int).toNat t333) := ⟨_,rfl⟩
             replace H : (zo.j3 kj19 y313 y336 x7_1 s0_0 t334 t335) = some (r1,r2,r3) := by first | (rw [hy336]; with_reducible exact H) | (have H2_ := (Option.bind_some _ _).symm.trans H; rw [hy336]; with_reducible exact H2_) | (have H2_ := (Option.bind_some _ _).symm.trans H; with_reducible exact H2_) | with_reducible exact H | (rw [hy336]; exact H) | exact H
             have Ny336 := za.mk hy336
             clear hy336
             have H' := za.mk H
             clear H
             obtain ⟨Ao34,co34,eo34,_⟩ := Kd.zcy HO_6.out
             subst eo34
             go_wp2_with (first | ((with_reducible refine zC (f := 21) rfl ?_); refine zY (some 34) rfl rfl Try.func21 qj rfl #[.slice Ao34 x6_10.length co34] rfl qb ?_; (with_reducible refine (zaC.calls _ _ x6_10 t327 _ ?side1 ?side2 A28.out).mono ?_); (case side1 => exact qL HO_6.out); (case side2 => exact (Kd.zcX HO_6.out).2.1); rintro e w35 ⟨v328,rfl,ho0,hb⟩; refine ⟨_,rfl,?_⟩; have n0_ := za.mk (Kd.zfi (qw HO_5.out) (Kd.zcT ho0) hb); have n1_ := za.mk (Kd.zfj (qu HO_6.out) (Kd.zcT ho0) hb); have n2_ := za.mk (Kd.zaO (Kd.zeA ho0 (Kd.zfU (qu HO_6.out))) (zbM (w := w) (g := g) (row := none) (qe HK.out))); have n3_ := za.mk (zg.below (qf HI0.out) hb); have n4_ := za.mk (zq.trans (qe HK.out) (zq.of_below hb g none) (.inl rfl)); have n5_ := za.mk (zu (qg HB.out HI0.out) hb); clear HO_5; clear HO_6; clear HI0; clear HK; clear HB; have HO_5 := n0_; have HO_6 := n1_; have HO329 := n2_; have HI0 := n3_; have HK := n4_; have HB := n5_; clear n0_ n1_ n2_ n3_ n4_ n5_; (try clear hb); (try clear hb2); (try clear hk); (try clear hi); (try clear ho0); obtain ⟨Ao36,co36,eo36⟩ := Kd.za3 HO329.out; subst eo36) | ((with_reducible refine zC (f := 28) rfl ?_); refine zY (some 40) rfl rfl Try.func28 qj rfl #[.pointer (some ⟨g,0,none⟩), .int .i64 (wrap64 ((t327.length : Int) - 1))] rfl qb ?_; (with_reducible refine (zW.calls g s0_0 x1001_19 x1002_19 (wrap64 ((t327.length : Int) - 1)) t330 t331 t332 w0 _ ?side1 ?side2 A29.out).mono ?_); (case side1 => exact qf HI0.out); (case side2 => exact qg HB.out HI0.out); rintro e w37 ⟨rfl,hi,hb,hk⟩; refine ⟨_,rfl,?_⟩; have n0_ := za.mk (Kd.zbL (Kd.zc9 (zg.zdv (show zg w0 _ g s0_0 x1001_19 x1002_19 from by repeat (first | (with_reducible first | exact HI0.out | apply zg.alloc | apply zg.drewN | apply zg.drew | apply zg.z8 | apply zg.zZ) | exact HI0.out)) (qw HO_5.out) qt) hk (fun _ h => h.2)) (fun _ h => h.1)); have n1_ := za.mk (Kd.zbZ (Kd.zdt (zg.zds (show zg w0 _ g s0_0 x1001_19 x1002_19 from by repeat (first | (with_reducible first | exact HI0.out | apply zg.alloc | apply zg.drewN | apply zg.drew | apply zg.z8 | apply zg.zZ) | exact HI0.out)) (qu HO_6.out) qt) hk (fun _ h => h.2)) (fun _ h => h.1)); have n2_ := za.mk (Kd.zav (Kd.zb4 (zg.apart (show zg w0 _ g s0_0 x1001_19 x1002_19 from by repeat (first | (with_reducible first | exact HI0.out | apply zg.alloc | apply zg.drewN | apply zg.drew | apply zg.z8 | apply zg.zZ) | exact HI0.out)) (qp HO329.out) qt) hk (fun _ h => h.2)) (fun _ h => h.1)); have n3_ := za.mk (zq.trans (qe HK.out) hk (.inl rfl)); have n4_ := za.mk (hb); have n5_ := za.mk (hi); clear HO_5; clear HO_6; clear HO329; clear HK; clear HB; clear HI0; have HO_5 := n0_; have HO_6 := n1_; have HO329 := n2_; have HK := n3_; have HB := n4_; have HI0 := n5_; clear n0_ n1_ n2_ n3_ n4_ n5_; (try clear hb); (try clear hb2); (try clear hk); (try clear hi)) | ((with_reducible refine zC (f := 35) rfl ?_); refine zY (some 42) rfl rfl Try.func35 qj rfl #[.pointer (some ⟨g,0,none⟩)] rfl qb ?_; (with_reducible refine (zae.calls g s0_0 t331 t332 t333 t334 t335 w0 _ ?side1 ?side2 A30.out).mono ?_); (case side1 => exact qf HI0.out); (case side2 => exact qg HB.out HI0.out); rintro e w38 ⟨rfl,hi,hb,hk⟩; refine ⟨_,rfl,?_⟩; have n0_ := za.mk (Kd.zbL (Kd.zc9 (zg.zdv (show zg w0 _ g s0_0 t331 t332 from by repeat (first | (with_reducible first | exact HI0.out | apply zg.alloc | apply zg.drewN | apply zg.drew | apply zg.z8 | apply zg.zZ) | exact HI0.out)) (qw HO_5.out) qt) hk (fun _ h => h.2)) (fun _ h => h.1)); have n1_ := za.mk (Kd.zbZ (Kd.zdt (zg.zds (show zg w0 _ g s0_0 t331 t332 from by repeat (first | (with_reducible first | exact HI0.out | apply zg.alloc | apply zg.drewN | apply zg.drew | apply zg.z8 | apply zg.zZ) | exact HI0.out)) (qu HO_6.out) qt) hk (fun _ h => h.2)) (fun _ h => h.1)); have n2_ := za.mk (Kd.zav (Kd.zb4 (zg.apart (show zg w0 _ g s0_0 t331 t332 from by repeat (first | (with_reducible first | exact HI0.out | apply zg.alloc | apply zg.drewN | apply zg.drew | apply zg.z8 | apply zg.zZ) | exact HI0.out)) (qp HO329.out) qt) hk (fun _ h => h.2)) (fun _ h => h.1)); have n3_ := za.mk (zq.trans (qe HK.out) hk (.inl rfl)); have n4_ := za.mk (hb); have n5_ := za.mk (hi); clear HO_5; clear HO_6; clear HO329; clear HK; clear HB; clear HI0; have HO_5 := n0_; have HO_6 := n1_; have HO329 := n2_; have HK := n3_; have HB := n4_; have HI0 := n5_; clear n0_ n1_ n2_ n3_ n4_ n5_; (try clear hb); (try clear hb2); (try clear hk); (try clear hi); have p33 : 0 ≤ (t330 : Int) := of_decide_eq_true qd; have q33 : (t330 : Int) < ((t327.length : Int) : Int) := of_decide_eq_true qd; obtain ⟨go33,co33,eo33,gb33,gl33,cl33,HG33⟩ := Kd.zgW HO329.out qk; (first | cases eo33 | (injection eo33 with ea_ en_ ec_; (first | subst ea_ | (injection ea_ with ea_; subst ea_)); subst ec_; clear en_)); have GB33 := za.mk gb33; have GG33 := za.mk HG33; clear gb33 gl33 HG33; obtain ⟨hx33_0,hf33_0⟩ := Kd.zeU (⟨#[]⟩ : ByteArray) HO329.out (t330 : Int) p33 q33; replace p33 := eq_true p33; replace q33 := eq_true q33; have n_ := za.mk (Kd.zav (ok' := (fun k_ => some k_ ≠ (.slice Ao34 x6_10.length co34 : Value).ownBlock)) HO329.out (fun k_ hk => hk.2)); clear HO329; have HO329 := n_; clear n_; obtain ⟨hy39_,hz39_⟩ := Kd.zeU (⟨#[]⟩ : ByteArray) HO329.out (t330 : Int) (of_decide_eq_true qd) (of_decide_eq_true qd); have HP39 := Kd.zcm HO329.out (t330 : Int) t333) | ((with_reducible refine zcp (t := 9) (p := 43) rfl ?_); refine zcj (t := 9) (p := 43) (v := ?vo_w40) (w1 := (w38.setCell ⟨go33,(t330 : Int).toNat,none⟩ (.string t333))) ?hg ?ho ?hn ?hr ?_; (case ho => rfl); (case hg => rfl); (case hn => rfl); (case hr => exact qq); intro w40 hw; have hg : w38.grownBy w40 (some go33) := (by rw [hw]; exact HP39.2); have hp_ : Kd.R Kd.string 9 w40 w.heap.size (fun k_ => some k_ ≠ (.slice Ao34 x6_10.length co34 : Value).ownBlock) (.slice (some ⟨go33,0,none⟩) t327.length co36) y336 := (by rw [hw,Ny336.out]; exact HP39.1); clear HP39; have n0_ := za.mk (Kd.zhn (v := (.slice (some ⟨go33,0,none⟩) t327.length co36)) (v1 := (.slice (some ⟨go33,0,none⟩) t327.length co36)) (ok := (fun k_ => some k_ ≠ (.slice Ao34 x6_10.length co34 : Value).ownBlock)) (qw HO_5.out) hg (.inl rfl)); have n1_ := za.mk (Kd.zhg (v := (.slice (some ⟨go33,0,none⟩) t327.length co36)) (v1 := (.slice (some ⟨go33,0,none⟩) t327.length co36)) (ok := (fun _ => True)) (qu HO_6.out) hg (.inl rfl)); have n2_ := za.mk (zg.grown (qf HI0.out) hg (zg.own_ne HI0.out HO329.out qt)); have n3_ := za.mk (hp_); have n4_ := za.mk ((by rw [hw]; exact zi (HB.out) (Nat.le_trans HL.out GB33.out) : Below w0.heap.size w0 w40)); have n5_ := za.mk (zq.trans (qe HK.out) (zq.zcH hg g) (Kd.zde HO329.out)); clear HO_5; clear HO_6; clear HI0; clear HO329; clear HB; clear HK; have HO_5 := n0_; have HO_6 := n1_; have HI0 := n2_; have HO329 := n3_; have HB := n4_; have HK := n5_; clear n0_ n1_ n2_ n3_ n4_ n5_; clear hg hw hp_))
             go_meet
             case rel => exact ⟨_,(y336),(t334),(t335),H',⟨by have := HK1.out; have := HJ10.out; have := HJ19.out; first | omega | exact Nat.le_refl _⟩,⟨by (with_reducible repeat (first | apply Kd.zaV | apply Kd.zaW | apply Kd.za4)); exact Kd.zbL HO_5.out (fun _ hk => hk.2)⟩,⟨Kd.zeI (qO HO329.out)⟩,⟨by repeat (first | (with_reducible first | exact HI0.out | apply zg.alloc | apply zg.drewN | apply zg.drew | apply zg.z8 | apply zg.zZ) | exact HI0.out)⟩,⟨by repeat (first | (with_reducible first | exact HK.out | apply zq.zas | apply zH | apply zM | apply zG) | exact HK.out)⟩,⟨by repeat (first | (with_reducible first | exact HB.out | apply ze | apply zb | apply zf | refine zi ?_ (zg.ge HI0.out)) | exact HB.out)⟩⟩
            ·rw [if_neg c32] at H
             exact absurd H qD
           ·rw [if_neg c31] at H
            exact absurd H qD
          ·replace c27 := Bool.eq_false_iff.mpr c27
           subst c27
           have H1 : (zo.j3 kj19 y313 x6_10 x7_1 s0_0 x1001_19 x1002_19) = some (r1,r2,r3) := by rw [if_neg (show ¬ (false = true) by decide)] at H; exact H
           clear H
           have H := H1
           clear H1
           have H' := za.mk H
           clear H
           go_wp2
           go_meet
           case rel => exact ⟨_,(x6_10),(x1001_19),(x1002_19),H',⟨by have := HK1.out; have := HJ10.out; have := HJ19.out; first | omega | exact Nat.le_refl _⟩,⟨by (with_reducible repeat (first | apply Kd.zaV | apply Kd.zaW | apply Kd.za4)); exact HO_5.out⟩,⟨by (with_reducible repeat (first | apply Kd.zaS | apply Kd.zaT | apply Kd.za1)); exact HO_6.out⟩,⟨by repeat (first | (with_reducible first | exact HI0.out | apply zg.alloc | apply zg.drewN | apply zg.drew | apply zg.z8 | apply zg.zZ) | exact HI0.out)⟩,⟨by repeat (first | (with_reducible first | exact HK.out | apply zq.zas | apply zH | apply zM | apply zG) | exact HK.out)⟩,⟨by repeat (first | (with_reducible first | exact HB.out | apply ze | apply zb | apply zf | refine zi ?_ (zg.ge HI0.out)) | exact HB.out)⟩⟩
         case rest =>
          clear HC26
          try clear c1
          try clear c2
          try clear p2
          try clear c3
          try clear p3
          try clear q3
          try clear hx3
          try clear hf3
          try clear c4
          try clear p6
          try clear c7
          try clear c7b0
          try clear c9
          try clear c17
          try clear c20
          try clear c21
          try clear c21b0
          try clear c21b1
          try clear c27
          try clear c28
          try clear c31
          try clear c31b0
          try clear c32
          try clear c32b0
          try clear c33
          try clear p33
          try clear q33
          try clear hx33
          try clear hf33
          try clear c35
          try clear hx33_0
          try clear p2
          try clear p33
          try clear q33
          obtain ⟨kq,x6_25,x1001_25,x1002_25,HA,HJ25,HO_5,HO_6,HI0,HK,HB⟩ := hcut
          cases kq with
          | zero => exact absurd HA.out (by simp [zo.j3])
          | succ kj25 =>
           have H := HA.out
           clear HA
           simp only [zo.j3] at H
           have HC41 := za.mk H
           clear H
           go_upto_region 12 with (fail)
           go_cut [50] (fun v50 wc => ∃ (kq : Nat) (x50_40 : Bool) (x1001_40 : Int) (x1002_40 : Int),v50 = .bool x50_40 ∧ za (zo.j4 kq y313 x6_25 x7_1 x50_40 s0_0 x1001_40 x1002_40 = some (r1,r2,r3)) ∧ za (kq ≤ kj25) ∧ za (Kd.S (Kd.slice 9 Kd.string) 22 wc w.heap.size (fun k_ => some k_ ≠ (u6 : Value).ownBlock) v314 y313) ∧ za (Kd.Q Kd.string 9 wc w.heap.size (fun _ => True) u6 x6_25) ∧ za (zg w0 wc g s0_0 x1001_40 x1002_40) ∧ za (zq w wc g none) ∧ za (Below w0.heap.size w0 wc))
           case first =>
            have H := HC41.out
            clear HC41
            by_cases c42 : (x6_25.length : Int) > 0
            ·rw [if_pos c42] at H
             have c42b0 : decide (0 < (x6_25.length : Int)) = true := decide_eq_true c42
             have c42b1 : decide (0 < x6_25.length) = true := decide_eq_true qk
             clear c42
             (first | rw [c42b0] | (simp only [zad,zah]; rw [c42b0]) | skip)
             replace H := Option.bind_eq_some_iff.mp H
             obtain ⟨⟨t337,t338,t339⟩,A430,H⟩ := H
             replace H : (zo.j4 kj25 y313 x6_25 x7_1 t337 s0_0 t338 t339) = some (r1,r2,r3) := H
             have A43 := za.mk A430
             clear A430
             have H' := za.mk H
             clear H
             obtain ⟨Ao44,co44,eo44,_⟩ := Kd.zcy HO_6.out
             subst eo44
             go_wp2_with (first | (go_at_call 49; (with_reducible refine (zal.calls g s0_0 x1001_25 x1002_25 3 t337 t338 t339 w0 _ ?side1 ?side2 A43.out).mono ?_); (case side1 => exact qf HI0.out); (case side2 => exact qg HB.out HI0.out); rintro e w45 ⟨rfl,hi,hb,hk⟩; have n0_ := za.mk (Kd.zbL (Kd.zc9 (zg.zdv (show zg w0 _ g s0_0 x1001_25 x1002_25 from by repeat (first | (with_reducible first | exact HI0.out | apply zg.alloc | apply zg.drewN | apply zg.drew | apply zg.z8 | apply zg.zZ) | exact HI0.out)) (qw HO_5.out) qt) hk (fun _ h => h.2)) (fun _ h => h.1)); have n1_ := za.mk (Kd.zbZ (Kd.zdt (zg.zds (show zg w0 _ g s0_0 x1001_25 x1002_25 from by repeat (first | (with_reducible first | exact HI0.out | apply zg.alloc | apply zg.drewN | apply zg.drew | apply zg.z8 | apply zg.zZ) | exact HI0.out)) (qu HO_6.out) qt) hk (fun _ h => h.2)) (fun _ h => h.1)); have n2_ := za.mk (zq.trans (qe HK.out) hk (.inl rfl)); have n3_ := za.mk (hb); have n4_ := za.mk (hi); clear HO_5; clear HO_6; clear HK; clear HB; clear HI0; have HO_5 := n0_; have HO_6 := n1_; have HK := n2_; have HB := n3_; have HI0 := n4_; clear n0_ n1_ n2_ n3_ n4_; (try clear hb); (try clear hb2); (try clear hk); (try clear hi)))
             go_meet
             case rel => exact ⟨_,(t337),(t338),(t339),qn,H',⟨by have := HK1.out; have := HJ10.out; have := HJ19.out; have := HJ25.out; first | omega | exact Nat.le_refl _⟩,⟨by (with_reducible repeat (first | apply Kd.zaV | apply Kd.zaW | apply Kd.za4)); exact HO_5.out⟩,⟨by (with_reducible repeat (first | apply Kd.zaS | apply Kd.zaT | apply Kd.za1)); exact HO_6.out⟩,⟨by repeat (first | (with_reducible first | exact HI0.out | apply zg.alloc | apply zg.drewN | apply zg.drew | apply zg.z8 | apply zg.zZ) | exact HI0.out)⟩,⟨by repeat (first | (with_reducible first | exact HK.out | apply zq.zas | apply zH | apply zM | apply zG) | exact HK.out)⟩,⟨by repeat (first | (with_reducible first | exact HB.out | apply ze | apply zb | apply zf | refine zi ?_ (zg.ge HI0.out)) | exact HB.out)⟩⟩
            ·rw [if_neg c42] at H
             have c42b0 : decide (0 < (x6_25.length : Int)) = false := decide_eq_false c42
             have c42b1 : decide (0 < x6_25.length) = false := decide_eq_false qk
             clear c42
             (first | rw [c42b0] | (simp only [zad,zah]; rw [c42b0]) | skip)
             have H' := za.mk H
             clear H
             obtain ⟨Ao46,co46,eo46,_⟩ := Kd.zcy HO_6.out
             subst eo46
             go_wp2
             go_meet
             case rel => exact ⟨_,(false),(x1001_25),(x1002_25),qn,H',⟨by have := HK1.out; have := HJ10.out; have := HJ19.out; have := HJ25.out; first | omega | exact Nat.le_refl _⟩,⟨by (with_reducible repeat (first | apply Kd.zaV | apply Kd.zaW | apply Kd.za4)); exact HO_5.out⟩,⟨by (with_reducible repeat (first | apply Kd.zaS | apply Kd.zaT | apply Kd.za1)); exact HO_6.out⟩,⟨by repeat (first | (with_reducible first | exact HI0.out | apply zg.alloc | apply zg.drewN | apply zg.drew | apply zg.z8 | apply zg.zZ) | exact HI0.out)⟩,⟨by repeat (first | (with_reducible first | exact HK.out | apply zq.zas | apply zH | apply zM | apply zG) | exact HK.out)⟩,⟨by repeat (first | (with_reducible first | exact HB.out | apply ze | apply zb | apply zf | refine zi ?_ (zg.ge HI0.out)) | exact HB.out)⟩⟩
           case rest =>
            clear HC41
            try clear c1
            try clear c2
            try clear p2
            try clear c3
            try clear p3
            try clear q3
            try clear hx3
            try clear hf3
            try clear c4
            try clear p6
            try clear c7
            try clear c7b0
            try clear c9
            try clear c17
            try clear c20
            try clear c21
            try clear c21b0
            try clear c21b1
            try clear c27
            try clear c28
            try clear c31
            try clear c31b0
            try clear c32
            try clear c32b0
            try clear c33
            try clear p33
            try clear q33
            try clear hx33
            try clear hf33
            try clear c35
            try clear c42
            try clear c42b0
            try clear c42b1
            try clear hx33_0
            try clear p2
            try clear p3
            try clear p33
            try clear p6
            try clear q3
            try clear q33
            obtain ⟨kq,x50_40,x1001_40,x1002_40,rfl,HA,HJ40,HO_5,HO_6,HI0,HK,HB⟩ := hcut
            cases kq with
            | zero => exact absurd HA.out (by simp [zo.j4])
            | succ kj40 =>
             have H := HA.out
             clear HA
             simp only [zo.j4] at H
             have HC47 := za.mk H
             clear H
             go_upto_if 50 with (fail)
             go_cut [6] (fun v6 wc => ∃ (kq : Nat) (x6_46 : List ByteArray),za (zo.j5 kq y313 x6_46 x7_1 s0_0 x1001_40 x1002_40 = some (r1,r2,r3)) ∧ za (kq ≤ kj40) ∧ za (Kd.S (Kd.slice 9 Kd.string) 22 wc w.heap.size (fun k_ => some k_ ≠ (v6 : Value).ownBlock) v314 y313) ∧ za (Kd.Q Kd.string 9 wc w.heap.size (fun _ => True) v6 x6_46) ∧ za (zg w0 wc g s0_0 x1001_40 x1002_40) ∧ za (zq w wc g none) ∧ za (Below w0.heap.size w0 wc))
             case first =>
              have H := HC47.out
              clear HC47
              by_cases c48 : x50_40 = true
              ·subst c48
               have H1 : (if 1 ≤ (x6_25.length : Int) then (zo.j5 kj40 y313 (x6_25.drop (1 : Int).toNat) x7_1 s0_0 x1001_40 x1002_40) else (none)) = some (r1,r2,r3) := by rw [if_pos rfl] at H; exact H
               clear H
               have H := H1
               clear H1
               by_cases c49 : 1 ≤ (x6_25.length : Int)
               ·rw [if_pos c49] at H
                have c49b0 := eq_true c49
                have c49b1 : decide (1 ≤ (x6_25.length : Int)) = true := decide_eq_true c49
                clear c49
                obtain ⟨y340,hy340⟩ : ∃ y_ : List ByteArray,y_ = (x6_25.drop (1 : Int).toNat) := ⟨_,rfl⟩
                replace H : (zo.j5 kj40 y313 y340 x7_1 s0_0 x1001_40 x1002_40) = some (r1,r2,r3) := by first | (rw [hy340]; with_reducible exact H) | (have H2_ := (Option.bind_some _ _).symm.trans H; rw [hy340]; with_reducible exact H2_) | (have H2_ := (Option.bind_some _ _).symm.trans H; with_reducible exact H2_) | with_reducible exact H | (rw [hy340]; exact H) | exact H
                have Ny340 := za.mk hy340
                clear hy340
                have H' := za.mk H
                clear H
                obtain ⟨Ao50,co50,eo50,_⟩ := Kd.zcy HO_6.out
                subst eo50
                have q51 : (1 : Int) ≤ ((x6_25.length : Int) : Int) := of_decide_eq_true qd
                obtain ⟨i051,hi051,_,hsz51,_⟩ := info_parts zdj
                have hcut51 := ziV (P := Try.prog) 22 9 .i64 Try.underlying22 hi051 1 hsz51 Ao50 x6_25.length co50 1 qk q51
                have hr51 := Kd.zjQ (k := (1 : Int).toNat) HO_6.out qk
                obtain ⟨A51,hA51⟩ : ∃ A1,A1 = (if co50 = (1 : Int).toNat then Ao50 else (Ao50 : Option Addr).map (·.add ((1 : Int).toNat * 1))) := ⟨_,rfl⟩
                obtain ⟨c51,hc51⟩ : ∃ c1,c1 = co50 - (1 : Int).toNat := ⟨_,rfl⟩
                have hy51 : y340.length = x6_25.length - (1 : Int).toNat := (by rw [Ny340.out,List.length_drop])
                rw [← Ny340.out] at hr51
                rw [← hy51, ← hA51, ← hc51] at hcut51
                replace hr51 : Kd.Q Kd.string 9 wc w.heap.size (fun _ => True) (.slice A51 y340.length c51) y340 := (by rw [hA51,hc51,hy51]; exact hr51)
                have HE51 : za ((Value.slice A51 y340.length c51).ownBlock = (.slice Ao50 x6_25.length co50 : Value).ownBlock) := ⟨by rw [hA51]; split <;> (cases (Ao50 : Option Addr) <;> rfl)⟩
                clear hy51 hi051 hsz51 HO_6 hA51 hc51
                have HO342 := za.mk hr51
                clear hr51
                replace q51 := eq_true q51
                have n_ := za.mk (Kd.zbL (ok' := fun k_ => some k_ ≠ (.slice A51 y340.length c51 : Value).ownBlock) HO_5.out (fun k_ hk => (by rw [HE51.out]; exact hk)))
                clear HO_5
                have HO_5 := n_
                clear n_
                go_wp2
                go_meet
                case rel => exact ⟨_,(y340),H',⟨by have := HK1.out; have := HJ10.out; have := HJ19.out; have := HJ25.out; have := HJ40.out; first | omega | exact Nat.le_refl _⟩,⟨by (with_reducible repeat (first | apply Kd.zaV | apply Kd.zaW | apply Kd.za4)); exact HO_5.out⟩,⟨by (with_reducible repeat (first | apply Kd.zaS | apply Kd.zaT | apply Kd.za1)); exact HO342.out⟩,⟨by repeat (first | (with_reducible first | exact HI0.out | apply zg.alloc | apply zg.drewN | apply zg.drew | apply zg.z8 | apply zg.zZ) | exact HI0.out)⟩,⟨by repeat (first | (with_reducible first | exact HK.out | apply zq.zas | apply zH | apply zM | apply zG) | exact HK.out)⟩,⟨by repeat (first | (with_reducible first | exact HB.out | apply ze | apply zb | apply zf | refine zi ?_ (zg.ge HI0.out)) | exact HB.out)⟩⟩
               ·rw [if_neg c49] at H
                exact absurd H qD
              ·replace c48 := Bool.eq_false_iff.mpr c48
               subst c48
               have H1 : (zo.j5 kj40 y313 x6_25 x7_1 s0_0 x1001_40 x1002_40) = some (r1,r2,r3) := by rw [if_neg (show ¬ (false = true) by decide)] at H; exact H
               clear H
               have H := H1
               clear H1
               have H' := za.mk H
               clear H
               go_wp2
               go_meet
               case rel => exact ⟨_,(x6_25),H',⟨by have := HK1.out; have := HJ10.out; have := HJ19.out; have := HJ25.out; have := HJ40.out; first | omega | exact Nat.le_refl _⟩,⟨by (with_reducible repeat (first | apply Kd.zaV | apply Kd.zaW | apply Kd.za4)); exact HO_5.out⟩,⟨by (with_reducible repeat (first | apply Kd.zaS | apply Kd.zaT | apply Kd.za1)); exact HO_6.out⟩,⟨by repeat (first | (with_reducible first | exact HI0.out | apply zg.alloc | apply zg.drewN | apply zg.drew | apply zg.z8 | apply zg.zZ) | exact HI0.out)⟩,⟨by repeat (first | (with_reducible first | exact HK.out | apply zq.zas | apply zH | apply zM | apply zG) | exact HK.out)⟩,⟨by repeat (first | (with_reducible first | exact HB.out | apply ze | apply zb | apply zf | refine zi ?_ (zg.ge HI0.out)) | exact HB.out)⟩⟩
             case rest =>
              clear HC47
              try clear c1
              try clear c2
              try clear p2
              try clear c3
              try clear p3
              try clear q3
              try clear hx3
              try clear hf3
              try clear c4
              try clear c5
              try clear q5
              try clear p6
              try clear c7
              try clear c7b0
              try clear c9
              try clear c17
              try clear c20
              try clear c21
              try clear c21b0
              try clear c21b1
              try clear c27
              try clear c28
              try clear c31
              try clear c31b0
              try clear c32
              try clear c32b0
              try clear c33
              try clear p33
              try clear q33
              try clear hx33
              try clear hf33
              try clear c35
              try clear c42
              try clear c42b0
              try clear c42b1
              try clear c48
              try clear c49
              try clear c49b0
              try clear c49b1
              try clear c51
              try clear q51
              try clear hx33_0
              try clear p2
              try clear p3
              try clear p33
              try clear p6
              try clear q3
              try clear q33
              try clear q51
              obtain ⟨kq,x6_46,HA,HJ46,HO_5,HO_6,HI0,HK,HB⟩ := hcut
              cases kq with
              | zero => exact absurd HA.out (by simp [zo.j5])
              | succ kj46 =>
               have H := HA.out
               clear HA
               simp only [zo.j5] at H
               have HC52 := za.mk H
               clear H
               go_upto_region 14 with (fail)
               go_cut [59] (fun v59 wc => ∃ (kq : Nat) (x59_51 : Bool) (x1001_51 : Int) (x1002_51 : Int),v59 = .bool x59_51 ∧ za (zo.j6 kq y313 x6_46 x7_1 x59_51 s0_0 x1001_51 x1002_51 = some (r1,r2,r3)) ∧ za (kq ≤ kj46) ∧ za (Kd.S (Kd.slice 9 Kd.string) 22 wc w.heap.size (fun k_ => some k_ ≠ (u6 : Value).ownBlock) v314 y313) ∧ za (Kd.Q Kd.string 9 wc w.heap.size (fun _ => True) u6 x6_46) ∧ za (zg w0 wc g s0_0 x1001_51 x1002_51) ∧ za (zq w wc g none) ∧ za (Below w0.heap.size w0 wc))
               case first =>
                have H := HC52.out
                clear HC52
                by_cases c53 : (x6_46.length : Int) < 6
                ·rw [if_pos c53] at H
                 have c53b0 : decide ((x6_46.length : Int) < 6) = true := decide_eq_true c53
                 have c53b1 : decide (x6_46.length < 6) = true := decide_eq_true qk
                 clear c53
                 (first | rw [c53b0] | (simp only [zad,zah]; rw [c53b0]) | skip)
                 replace H := Option.bind_eq_some_iff.mp H
                 obtain ⟨⟨t343,t344,t345⟩,A540,H⟩ := H
                 replace H : (zo.j6 kj46 y313 x6_46 x7_1 t343 s0_0 t344 t345) = some (r1,r2,r3) := H
                 have A54 := za.mk A540
                 clear A540
                 have H' := za.mk H
                 clear H
                 obtain ⟨Ao55,co55,eo55,_⟩ := Kd.zcy HO_6.out
                 subst eo55
                 go_wp2_with (first | (go_at_call 49; (with_reducible refine (zal.calls g s0_0 x1001_40 x1002_40 3 t343 t344 t345 w0 _ ?side1 ?side2 A54.out).mono ?_); (case side1 => exact qf HI0.out); (case side2 => exact qg HB.out HI0.out); rintro e w56 ⟨rfl,hi,hb,hk⟩; have n0_ := za.mk (Kd.zbL (Kd.zc9 (zg.zdv (show zg w0 _ g s0_0 x1001_40 x1002_40 from by repeat (first | (with_reducible first | exact HI0.out | apply zg.alloc | apply zg.drewN | apply zg.drew | apply zg.z8 | apply zg.zZ) | exact HI0.out)) (qw HO_5.out) qt) hk (fun _ h => h.2)) (fun _ h => h.1)); have n1_ := za.mk (Kd.zbZ (Kd.zdt (zg.zds (show zg w0 _ g s0_0 x1001_40 x1002_40 from by repeat (first | (with_reducible first | exact HI0.out | apply zg.alloc | apply zg.drewN | apply zg.drew | apply zg.z8 | apply zg.zZ) | exact HI0.out)) (qu HO_6.out) qt) hk (fun _ h => h.2)) (fun _ h => h.1)); have n2_ := za.mk (zq.trans (qe HK.out) hk (.inl rfl)); have n3_ := za.mk (hb); have n4_ := za.mk (hi); clear HO_5; clear HO_6; clear HK; clear HB; clear HI0; have HO_5 := n0_; have HO_6 := n1_; have HK := n2_; have HB := n3_; have HI0 := n4_; clear n0_ n1_ n2_ n3_ n4_; (try clear hb); (try clear hb2); (try clear hk); (try clear hi)))
                 go_meet
                 case rel => exact ⟨_,(t343),(t344),(t345),qn,H',⟨by have := HK1.out; have := HJ10.out; have := HJ19.out; have := HJ25.out; have := HJ40.out; have := HJ46.out; first | omega | exact Nat.le_refl _⟩,⟨by (with_reducible repeat (first | apply Kd.zaV | apply Kd.zaW | apply Kd.za4)); exact HO_5.out⟩,⟨by (with_reducible repeat (first | apply Kd.zaS | apply Kd.zaT | apply Kd.za1)); exact HO_6.out⟩,⟨by repeat (first | (with_reducible first | exact HI0.out | apply zg.alloc | apply zg.drewN | apply zg.drew | apply zg.z8 | apply zg.zZ) | exact HI0.out)⟩,⟨by repeat (first | (with_reducible first | exact HK.out | apply zq.zas | apply zH | apply zM | apply zG) | exact HK.out)⟩,⟨by repeat (first | (with_reducible first | exact HB.out | apply ze | apply zb | apply zf | refine zi ?_ (zg.ge HI0.out)) | exact HB.out)⟩⟩
                ·rw [if_neg c53] at H
                 have c53b0 : decide ((x6_46.length : Int) < 6) = false := decide_eq_false c53
                 have c53b1 : decide (x6_46.length < 6) = false := decide_eq_false qk
                 clear c53
                 (first | rw [c53b0] | (simp only [zad,zah]; rw [c53b0]) | skip)
                 have H' := za.mk H
                 clear H
                 obtain ⟨Ao57,co57,eo57,_⟩ := Kd.zcy HO_6.out
                 subst eo57
                 go_wp2
                 go_meet
                 case rel => exact ⟨_,(false),(x1001_40),(x1002_40),qn,H',⟨by have := HK1.out; have := HJ10.out; have := HJ19.out; have := HJ25.out; have := HJ40.out; have := HJ46.out; first | omega | exact Nat.le_refl _⟩,⟨by (with_reducible repeat (first | apply Kd.zaV | apply Kd.zaW | apply Kd.za4)); exact HO_5.out⟩,⟨by (with_reducible repeat (first | apply Kd.zaS | apply Kd.zaT | apply Kd.za1)); exact HO_6.out⟩,⟨by repeat (first | (with_reducible first | exact HI0.out | apply zg.alloc | apply zg.drewN | apply zg.drew | apply zg.z8 | apply zg.zZ) | exact HI0.out)⟩,⟨by repeat (first | (with_reducible first | exact HK.out | apply zq.zas | apply zH | apply zM | apply zG) | exact HK.out)⟩,⟨by repeat (first | (with_reducible first | exact HB.out | apply ze | apply zb | apply zf | refine zi ?_ (zg.ge HI0.out)) | exact HB.out)⟩⟩
               case rest =>
                clear HC52
                try clear c1
                try clear c2
                try clear p2
                try clear c3
                try clear p3
                try clear q3
                try clear hx3
                try clear hf3
                try clear c4
                try clear c5
                try clear q5
                try clear p6
                try clear c7
                try clear c7b0
                try clear c9
                try clear c17
                try clear c20
                try clear c21
                try clear c21b0
                try clear c21b1
                try clear c27
                try clear c28
                try clear c31
                try clear c31b0
                try clear c32
                try clear c32b0
                try clear c33
                try clear p33
                try clear q33
                try clear hx33
                try clear hf33
                try clear c35
                try clear c42
                try clear c42b0
                try clear c42b1
                try clear c48
                try clear c49
                try clear c49b0
                try clear c49b1
                try clear c51
                try clear q51
                try clear c53
                try clear c53b0
                try clear c53b1
                try clear hx33_0
                try clear p2
                try clear p3
                try clear p33
                try clear p6
                try clear q3
                try clear q33
                try clear q5
                try clear q51
                obtain ⟨kq,x59_51,x1001_51,x1002_51,rfl,HA,HJ51,HO_5,HO_6,HI0,HK,HB⟩ := hcut
                cases kq with
                | zero => exact absurd HA.out (by simp [zo.j6])
                | succ kj51 =>
                 have H := HA.out
                 clear HA
                 simp only [zo.j6] at H
                 by_cases c58 : x59_51 = true
                 ·subst c58
                  have H1 : ((zaC.f x6_46).bind fun t346 => ((zae.f s0_0 x1001_51 x1002_51).bind fun bt349 => (if t346.length < 8796093022208 then (zo.l0 kj51 y313 (t346 ++ [bt349.1]) (wrap64 (x7_1 - 1)) s0_0 bt349.2.1 bt349.2.2) else (none)))) = some (r1,r2,r3) := by rw [if_pos rfl] at H; exact H
                  clear H
                  have H := H1
                  clear H1
                  replace H := Option.bind_eq_some_iff.mp H
                  obtain ⟨t346,A590,H⟩ := H
                  replace H : ((zae.f s0_0 x1001_51 x1002_51).bind fun bt349 => (if t346.length < 8796093022208 then (zo.l0 kj51 y313 (t346 ++ [bt349.1]) (wrap64 (x7_1 - 1)) s0_0 bt349.2.1 bt349.2.2) else (none))) = some (r1,r2,r3) := H
                  have A59 := za.mk A590
                  clear A590
                  replace H := Option.bind_eq_some_iff.mp H
                  obtain ⟨⟨t349,t350,t351⟩,A600,H⟩ := H
                  replace H : (if t346.length < 8796093022208 then (zo.l0 kj51 y313 (t346 ++ [t349]) (wrap64 (x7_1 - 1)) s0_0 t350 t351) else (none)) = some (r1,r2,r3) := H
                  have A60 := za.mk A600
                  clear A600
                  by_cases c61 : t346.length < 8796093022208
                  ·rw [if_pos c61] at H
                   have LMc61 := za.mk c61
                   clear c61
                   obtain ⟨y352,hy352⟩ : ∃ y_ : List ByteArray,y_ = (t346 ++ [t349]) := ⟨_,rfl⟩
                   replace H : (zo.l0 kj51 y313 y352 (wrap64 (x7_1 - 1)) s0_0 t350 t351) = some (r1,r2,r3) := by first | (rw [hy352]; with_reducible exact H) | (have H2_ := (Option.bind_some _ _).symm.trans H; rw [hy352]; with_reducible exact H2_) | (have H2_ := (Option.bind_some _ _).symm.trans H; with_reducible exact H2_) | with_reducible exact H | (rw [hy352]; exact H) | exact H
                   have Ny352 := za.mk hy352
                   clear hy352
                   have H' := za.mk H
                   clear H
                   obtain ⟨Ao62,co62,eo62,_⟩ := Kd.zcy HO_6.out
                   subst eo62
                   go_wp2_with (first | ((with_reducible refine zC (f := 21) rfl ?_); refine zY (some 61) rfl rfl Try.func21 qj rfl #[.slice Ao62 x6_46.length co62] rfl qb ?_; (with_reducible refine (zaC.calls _ _ x6_46 t346 _ ?side1 ?side2 A59.out).mono ?_); (case side1 => exact qL HO_6.out); (case side2 => exact (Kd.zcX HO_6.out).2.1); rintro e w63 ⟨v347,rfl,ho0,hb⟩; refine ⟨_,rfl,?_⟩; have n0_ := za.mk (Kd.zfi (qw HO_5.out) (Kd.zcT ho0) hb); have n1_ := za.mk (Kd.zfj (qu HO_6.out) (Kd.zcT ho0) hb); have n2_ := za.mk (Kd.zaO (Kd.zeA ho0 (Kd.zfU (qu HO_6.out))) (zbM (w := w) (g := g) (row := none) (qe HK.out))); have n3_ := za.mk (zg.below (qf HI0.out) hb); have n4_ := za.mk (zq.trans (qe HK.out) (zq.of_below hb g none) (.inl rfl)); have n5_ := za.mk (zu (qg HB.out HI0.out) hb); clear HO_5; clear HO_6; clear HI0; clear HK; clear HB; have HO_5 := n0_; have HO_6 := n1_; have HO348 := n2_; have HI0 := n3_; have HK := n4_; have HB := n5_; clear n0_ n1_ n2_ n3_ n4_ n5_; (try clear hb); (try clear hb2); (try clear hk); (try clear hi); (try clear ho0)) | ((with_reducible refine zC (f := 35) rfl ?_); refine zY (some 63) rfl rfl Try.func35 qj rfl #[.pointer (some ⟨g,0,none⟩)] rfl qb ?_; (with_reducible refine (zae.calls g s0_0 x1001_51 x1002_51 t349 t350 t351 w0 _ ?side1 ?side2 A60.out).mono ?_); (case side1 => exact qf HI0.out); (case side2 => exact qg HB.out HI0.out); rintro e w64 ⟨rfl,hi,hb,hk⟩; refine ⟨_,rfl,?_⟩; have n0_ := za.mk (Kd.zbL (Kd.zc9 (zg.zdv (show zg w0 _ g s0_0 x1001_51 x1002_51 from by repeat (first | (with_reducible first | exact HI0.out | apply zg.alloc | apply zg.drewN | apply zg.drew | apply zg.z8 | apply zg.zZ) | exact HI0.out)) (qw HO_5.out) qt) hk (fun _ h => h.2)) (fun _ h => h.1)); have n1_ := za.mk (Kd.zbZ (Kd.zdt (zg.zds (show zg w0 _ g s0_0 x1001_51 x1002_51 from by repeat (first | (with_reducible first | exact HI0.out | apply zg.alloc | apply zg.drewN | apply zg.drew | apply zg.z8 | apply zg.zZ) | exact HI0.out)) (qu HO_6.out) qt) hk (fun _ h => h.2)) (fun _ h => h.1)); have n2_ := za.mk (Kd.zav (Kd.zb4 (zg.apart (show zg w0 _ g s0_0 x1001_51 x1002_51 from by repeat (first | (with_reducible first | exact HI0.out | apply zg.alloc | apply zg.drewN | apply zg.drew | apply zg.z8 | apply zg.zZ) | exact HI0.out)) (qp HO348.out) qt) hk (fun _ h => h.2)) (fun _ h => h.1)); have n3_ := za.mk (zq.trans (qe HK.out) hk (.inl rfl)); have n4_ := za.mk (hb); have n5_ := za.mk (hi); clear HO_5; clear HO_6; clear HO348; clear HK; clear HB; clear HI0; have HO_5 := n0_; have HO_6 := n1_; have HO348 := n2_; have HK := n3_; have HB := n4_; have HI0 := n5_; clear n0_ n1_ n2_ n3_ n4_ n5_; (try clear hb); (try clear hb2); (try clear hk); (try clear hi)) | ((with_reducible refine za6 (b := .append) (xs := #[.tmp 61, .tmp 64]) rfl ?_); at_builtin; refine Kd.zb3 Kd.string w.heap.size rfl (.tmp 61) (.tmp 64) 22 9 (.string ⟨#[]⟩) 16 rfl Try.underlying22 zdj rfl qt qk v347 t346 t349 [.string t349] (fun k_ => some k_ ≠ (.slice Ao62 x6_46.length co62 : Value).ownBlock) (fun _ => False) rfl rfl ?aP (fun _ hk => hk.elim) ?aF ?aO (Below.refl _ _) ?aS ?aL ?_; (case aP => exact rfl); (case aF => exact (fun k_ hk => Kd.fresh' (Kd.zfU (qu HO_6.out)) k_ hk)); (case aO => exact (qC HO348.out)); (case aS => exact (zbM (w := w) (g := g) (row := none) (qe HK.out))); (case aL => have := LMc61.out; omega); intro v353 w65 ho hb hg hat; rw [← Ny352.out] at ho; have n0_ := za.mk (Kd.zhn (ok := (fun k_ => some k_ ≠ (.slice Ao62 x6_46.length co62 : Value).ownBlock)) (qw HO_5.out) hg hat); have n1_ := za.mk (Kd.zhg (ok := (fun _ => True)) (qu HO_6.out) hg hat); have n2_ := za.mk (zg.grown (qf HI0.out) hg (zg.own_ne HI0.out HO348.out qt)); have n3_ := za.mk (zbp (qg HB.out HI0.out) HL.out hb); have n4_ := za.mk (zq.trans (qe HK.out) (zq.zcH hg g) (Kd.zde HO348.out)); have n5_ := za.mk (ho); clear HO_5; clear HO_6; clear HI0; clear HB; clear HK; clear HO348; have HO_5 := n0_; have HO_6 := n1_; have HI0 := n2_; have HB := n3_; have HK := n4_; have HO354 := n5_; clear n0_ n1_ n2_ n3_ n4_ n5_; clear ho hb hg hat))
                   go_roundg kj51
                   case measure => have := HK1.out; have := HJ10.out; have := HJ19.out; have := HJ25.out; have := HJ40.out; have := HJ46.out; have := HJ51.out; omega
                   case rel => exact ⟨(y313),(y352),(wrap64 (x7_1 - 1)),(t350),(t351),qn,H',⟨by have := HK1.out; have := HJ10.out; have := HJ19.out; have := HJ25.out; have := HJ40.out; have := HJ46.out; have := HJ51.out; omega⟩,⟨by (with_reducible repeat (first | apply Kd.zaV | apply Kd.zaW | apply Kd.za4)); exact Kd.zbL HO_5.out (fun _ hk => hk.2)⟩,⟨Kd.zeI (qO HO354.out)⟩,⟨by repeat (first | (with_reducible first | exact HI0.out | apply zg.alloc | apply zg.drewN | apply zg.drew | apply zg.z8 | apply zg.zZ) | exact HI0.out)⟩,⟨by repeat (first | (with_reducible first | exact HK.out | apply zq.zas | apply zH | apply zM | apply zG) | exact HK.out)⟩,⟨by repeat (first | (with_reducible first | exact HB.out | apply ze | apply zb | apply zf | refine zi ?_ (zg.ge HI0.out)) | exact HB.out)⟩⟩
                  ·rw [if_neg c61] at H
                   exact absurd H qD
                 ·replace c58 := Bool.eq_false_iff.mpr c58
                  subst c58
                  have H1 : (zo.l0 kj51 y313 x6_46 (wrap64 (x7_1 - 1)) s0_0 x1001_51 x1002_51) = some (r1,r2,r3) := by rw [if_neg (show ¬ (false = true) by decide)] at H; exact H
                  clear H
                  have H := H1
                  clear H1
                  have H' := za.mk H
                  clear H
                  go_wp2
                  go_roundg kj51
                  case measure => have := HK1.out; have := HJ10.out; have := HJ19.out; have := HJ25.out; have := HJ40.out; have := HJ46.out; have := HJ51.out; omega
                  case rel => exact ⟨(y313),(x6_46),(wrap64 (x7_1 - 1)),(x1001_51),(x1002_51),qn,H',⟨by have := HK1.out; have := HJ10.out; have := HJ19.out; have := HJ25.out; have := HJ40.out; have := HJ46.out; have := HJ51.out; omega⟩,⟨by (with_reducible repeat (first | apply Kd.zaV | apply Kd.zaW | apply Kd.za4)); exact HO_5.out⟩,⟨by (with_reducible repeat (first | apply Kd.zaS | apply Kd.zaT | apply Kd.za1)); exact HO_6.out⟩,⟨by repeat (first | (with_reducible first | exact HI0.out | apply zg.alloc | apply zg.drewN | apply zg.drew | apply zg.z8 | apply zg.zZ) | exact HI0.out)⟩,⟨by repeat (first | (with_reducible first | exact HK.out | apply zq.zas | apply zH | apply zM | apply zG) | exact HK.out)⟩,⟨by repeat (first | (with_reducible first | exact HB.out | apply ze | apply zb | apply zf | refine zi ?_ (zg.ge HI0.out)) | exact HB.out)⟩⟩
    ·rw [if_neg c9] at H
     exact absurd H qD
   ·rw [if_neg c7] at H
    have c7b0 : decide (0 < x7_1) = false := decide_eq_false c7
    clear c7
    simp only [Option.some.injEq,Prod.mk.injEq] at H
    obtain ⟨rfl,rfl,rfl⟩ := H
    go_wp2
    go_ret
    exact ⟨_,by first | rfl | (simp [zA,zz] <;> rfl) | (simp [*,zA,zz] <;> rfl),by (with_reducible repeat (first | apply Kd.zaV | apply Kd.zaW | apply Kd.za4)); exact Kd.zbL HO_5.out (fun _ hk => trivial),by repeat (first | (with_reducible first | exact HI0.out | apply zg.alloc | apply zg.drewN | apply zg.drew | apply zg.z8 | apply zg.zZ) | exact HI0.out),by repeat (first | (with_reducible first | exact HB.out | apply ze | apply zb | apply zf | refine zi ?_ (zg.ge HI0.out)) | exact HB.out),by repeat (first | (with_reducible first | exact HK.out | apply zq.zas | apply zH | apply zM | apply zG) | exact HK.out)⟩
mutual
def zU.l0 : Nat → List ByteArray → List ByteArray → List Int → Int → Option (Int)
 | 0,_,_,_,_ => none
 | k + 1,x0,x1,x5,x6 => if x6 < (x0.length : Int) then (zU.l1 k x0 x1 x5 x6 0 0) else (if 0 ≤ (x1.length : Int) then (if (x1.length : Int) < (x5.length : Int) then (some (rd x5 (x1.length : Int))) else (none)) else (none))
def zU.l1 : Nat → List ByteArray → List ByteArray → List Int → Int → Int → Int → Option (Int)
 | 0,_,_,_,_,_,_ => none
 | k + 1,x0,x1,x5,x6,x7,x8 => if x8 < (x1.length : Int) then (if 0 ≤ (wrap64 (x8 + 1)) then (if (wrap64 (x8 + 1)) < (x5.length : Int) then (if 0 ≤ x6 then (if x6 < (x0.length : Int) then (if 0 ≤ x8 then (if (zaE ByteArray.empty x0 x6).toList = (zaE ByteArray.empty x1 x8).toList then (zU.l1 k x0 x1 (x5.set ((wrap64 (x8 + 1)) : Int).toNat (wrap64 (x7 + 1))) x6 (rd x5 (wrap64 (x8 + 1))) (wrap64 (x8 + 1))) else (if x8 < (x5.length : Int) then (zU.l1 k x0 x1 (x5.set ((wrap64 (x8 + 1)) : Int).toNat (mx (rd x5 (wrap64 (x8 + 1))) (rd x5 x8))) x6 (rd x5 (wrap64 (x8 + 1))) (wrap64 (x8 + 1))) else (none))) else (none)) else (none)) else (none)) else (none)) else (none)) else (zU.l0 k x0 x1 x5 (wrap64 (x6 + 1)))
end
def zU.f (k : Nat) (l0 : List ByteArray) (l1 : List ByteArray) : Option (Int) := if 0 ≤ (wrap64 ((l1.length : Int) + 1)) then (if (wrap64 ((l1.length : Int) + 1) : Int).toNat ≤ 35184372088832 then (zU.l0 k l0 l1 (List.replicate (wrap64 ((l1.length : Int) + 1) : Int).toNat 0) 0) else (none)) else (none)
set_option maxHeartbeats 8000000 in
set_option maxRecDepth 100000 in
theorem zU.calls (k : Nat) (A0 : Option Addr) (c0 : Nat) (l0 : List ByteArray) (A1 : Option Addr) (c1 : Nat) (l1 : List ByteArray) (r : Int) (w : World) (hr0 : Kd.C Kd.string w A0 l0.length l0) (hc0 : l0.length ≤ c0) (hr1 : Kd.C Kd.string w A1 l1.length l1) (hc1 : l1.length ≤ c1) (h : zU.f k l0 l1 = some r) :
  Calls Try.prog 43 #[.slice A0 l0.length c0, .slice A1 l1.length c1] w fun e w' => e = .returned (.int .i64 r) ∧ Below w.heap.size w w' := by
 have HR0 := za.mk hr0
 have HC0 := za.mk hc0
 clear hr0 hc0
 have HR1 := za.mk hr1
 have HC1 := za.mk hc1
 clear hr1 hc1
 have HB := za.mk (Below.refl w.heap.size w)
 have H : (if 0 ≤ (wrap64 ((l1.length : Int) + 1)) then (if (wrap64 ((l1.length : Int) + 1) : Int).toNat ≤ 35184372088832 then (zU.l0 k l0 l1 (List.replicate (wrap64 ((l1.length : Int) + 1) : Int).toNat 0) 0) else (none)) else (none)) = some r := h
 clear h
 obtain ⟨ji3,hji3⟩ : ∃ j_ : Int,(wrap64 ((l1.length : Int) + 1)) = j_ := ⟨_,rfl⟩
 replace H : (if 0 ≤ (ji3) then (if (ji3 : Int).toNat ≤ 35184372088832 then (zU.l0 k l0 l1 (List.replicate (ji3 : Int).toNat 0) 0) else (none)) else (none)) = some r := by first | (rw [hji3] at H; exact H) | (simp only [hji3] at H ⊢; exact H)
 have hji3w : (IntKind.i64.wrap ((l1.length : Int) + 1)) = ji3 := (zad _).trans hji3
 by_cases c4 : 0 ≤ (ji3)
 ·rw [if_pos c4] at H
  have c4b0 := eq_true c4
  have c4b1 : decide (0 ≤ (ji3)) = true := decide_eq_true c4
  clear c4
  by_cases c5 : (ji3 : Int).toNat ≤ 35184372088832
  ·rw [if_pos c5] at H
   have c5b0 := eq_true c5
   have c5b1 : decide ((ji3 : Int).toNat ≤ 35184372088832) = true := decide_eq_true c5
   clear c5
   obtain ⟨y534,hy534⟩ : ∃ y_ : List Int,y_ = (List.replicate (ji3 : Int).toNat 0) := ⟨_,rfl⟩
   replace H : (zU.l0 k l0 l1 y534 0) = some r := by first | (rw [hy534]; with_reducible exact H) | (have H2_ := (Option.bind_some _ _).symm.trans H; rw [hy534]; with_reducible exact H2_) | (have H2_ := (Option.bind_some _ _).symm.trans H; with_reducible exact H2_) | with_reducible exact H | (rw [hy534]; exact H) | exact H
   have Ny534 := za.mk hy534
   clear hy534
   have H' := za.mk H
   clear H
   go_enter Try.func43,Try.ntmps43
   go_wp2_with (first | ((with_reducible refine zax (N := 13) rfl ?_); refine Kd.zgJ (Kd.int .i64) _ 3 rfl (N := 13) rfl 23 _ _ rfl ji3 rfl rfl Try.underlying23 (.int .i64 0) 8 info3 rfl qt qk 0 (ok := fun _ => True) (okp := fun _ => True) rfl (fun _ hk => hk) trivial (of_decide_eq_true qd) (Nat.le_trans (Nat.mul_le_mul_right _ (of_decide_eq_true qd : ji3.toNat ≤ 35184372088832)) qk) (Below.refl _ _) (Nat.le_refl _) ?_; intro v535 w6 ho7 hb hg_ hnew_; clear hg_ hnew_; (first | rw [← Ny534.out] at ho7 | (simp only [Int.reduceToNat] at ho7; rw [← Ny534.out] at ho7)); have n0_ := za.mk (Kd.zaO ho7 (zD (qc HB.out))); have n1_ := za.mk (zu (qc HB.out) hb); clear HB; have HO536 := n0_; have HB := n1_; clear n0_ n1_; clear hb ho7))
   repeat (go_quiet (first | ((with_reducible refine zax (N := 13) rfl ?_); refine Kd.zgJ (Kd.int .i64) _ 3 rfl (N := 13) rfl 23 _ _ rfl ji3 rfl rfl Try.underlying23 (.int .i64 0) 8 info3 rfl qt qk 0 (ok := fun _ => True) (okp := fun _ => True) rfl (fun _ hk => hk) trivial (of_decide_eq_true qd) (Nat.le_trans (Nat.mul_le_mul_right _ (of_decide_eq_true qd : ji3.toNat ≤ 35184372088832)) qk) (Below.refl _ _) (Nat.le_refl _) ?_; intro v535 w6 ho7 hb hg_ hnew_; clear hg_ hnew_; (first | rw [← Ny534.out] at ho7 | (simp only [Int.reduceToNat] at ho7; rw [← Ny534.out] at ho7)); have n0_ := za.mk (Kd.zaO ho7 (zD (qc HB.out))); have n1_ := za.mk (zu (qc HB.out) hb); clear HB; have HO536 := n0_; have HB := n1_; clear n0_ n1_; clear hb ho7)); try go_wp2_with (first | ((with_reducible refine zax (N := 13) rfl ?_); refine Kd.zgJ (Kd.int .i64) _ 3 rfl (N := 13) rfl 23 _ _ rfl ji3 rfl rfl Try.underlying23 (.int .i64 0) 8 info3 rfl qt qk 0 (ok := fun _ => True) (okp := fun _ => True) rfl (fun _ hk => hk) trivial (of_decide_eq_true qd) (Nat.le_trans (Nat.mul_le_mul_right _ (of_decide_eq_true qd : ji3.toNat ≤ 35184372088832)) qk) (Below.refl _ _) (Nat.le_refl _) ?_; intro v535 w6 ho7 hb hg_ hnew_; clear hg_ hnew_; (first | rw [← Ny534.out] at ho7 | (simp only [Int.reduceToNat] at ho7; rw [← Ny534.out] at ho7)); have n0_ := za.mk (Kd.zaO ho7 (zD (qc HB.out))); have n1_ := za.mk (zu (qc HB.out) hb); clear HB; have HO536 := n0_; have HB := n1_; clear n0_ n1_; clear hb ho7)))
   go_loopg [6] k (fun kq v6 w' => ∃ (x5_1 : List Int) (x6_1 : Int),v6 = .int .i64 x6_1 ∧ za (zU.l0 kq l0 l1 x5_1 x6_1 = some r) ∧ za (kq ≤ k) ∧ za (Kd.R (Kd.int .i64) 3 w' w.heap.size (fun _ => True) v535 x5_1) ∧ za (Below w.heap.size w w'))
   case atStart => exact ⟨(y534),(0),qn,H',⟨Nat.le_refl _⟩,⟨by (with_reducible repeat (first | apply Kd.zab | apply Kd.zaa | apply Kd.zam)); exact HO536.out⟩,⟨by repeat (first | (with_reducible first | exact HB.out | apply ze | apply zb | apply zf) | exact HB.out)⟩⟩
   case round =>
    clear H'
    try clear c1
    try clear p2
    try clear c4
    try clear c4b0
    try clear c4b1
    try clear c5
    try clear c5b0
    try clear c5b1
    try clear p6
    obtain ⟨x5_1,x6_1,rfl,HA,HK1,HO_5,HB⟩ := hrel
    cases gk with
    | zero => exact absurd HA.out (by simp [zU.l0])
    | succ k1 =>
     have H := HA.out
     clear HA
     simp only [zU.l0] at H
     by_cases c8 : x6_1 < (l0.length : Int)
     ·rw [if_pos c8] at H
      have c8b0 : decide (x6_1 < (l0.length : Int)) = true := decide_eq_true c8
      clear c8
      have H' := za.mk H
      clear H
      go_wp2
      repeat (go_quiet (fail); try go_wp2)
      go_loopg [7,8] k1 (fun kq v7 v8 w' => ∃ (x5_2 : List Int) (x7_2 : Int) (x8_2 : Int),v7 = .int .i64 x7_2 ∧ v8 = .int .i64 x8_2 ∧ za (zU.l1 kq l0 l1 x5_2 x6_1 x7_2 x8_2 = some r) ∧ za (kq ≤ k1) ∧ za (Kd.R (Kd.int .i64) 3 w' w.heap.size (fun _ => True) v535 x5_2) ∧ za (Below w.heap.size w w'))
      case atStart => exact ⟨(x5_1),(0),(0),qn,qn,H',⟨Nat.le_refl _⟩,⟨by (with_reducible repeat (first | apply Kd.zab | apply Kd.zaa | apply Kd.zam)); exact HO_5.out⟩,⟨by repeat (first | (with_reducible first | exact HB.out | apply ze | apply zb | apply zf) | exact HB.out)⟩⟩
      case round =>
       clear H'
       try clear c1
       try clear p2
       try clear c4
       try clear c4b0
       try clear c4b1
       try clear c5
       try clear c5b0
       try clear c5b1
       try clear p6
       try clear c8
       try clear c8b0
       try clear p2
       try clear p6
       obtain ⟨x5_2,x7_2,x8_2,rfl,rfl,HA,HK2,HO_5,HB⟩ := hrel
       cases gk with
       | zero => exact absurd HA.out (by simp [zU.l1])
       | succ k2 =>
        have H := HA.out
        clear HA
        simp only [zU.l1] at H
        by_cases c9 : x8_2 < (l1.length : Int)
        ·rw [if_pos c9] at H
         have c9b0 : decide (x8_2 < (l1.length : Int)) = true := decide_eq_true c9
         clear c9
         obtain ⟨ji10,hji10⟩ : ∃ j_ : Int,(wrap64 (x8_2 + 1)) = j_ := ⟨_,rfl⟩
         replace H : (if 0 ≤ (ji10) then (if (ji10) < (x5_2.length : Int) then (if 0 ≤ x6_1 then (if x6_1 < (l0.length : Int) then (if 0 ≤ x8_2 then (if (zaE ByteArray.empty l0 x6_1).toList = (zaE ByteArray.empty l1 x8_2).toList then (zU.l1 k2 l0 l1 (x5_2.set ((ji10) : Int).toNat (wrap64 (x7_2 + 1))) x6_1 (rd x5_2 (ji10)) ji10) else (if x8_2 < (x5_2.length : Int) then (zU.l1 k2 l0 l1 (x5_2.set ((ji10) : Int).toNat (mx (rd x5_2 (ji10)) (rd x5_2 x8_2))) x6_1 (rd x5_2 (ji10)) ji10) else (none))) else (none)) else (none)) else (none)) else (none)) else (none)) = some r := by first | (rw [hji10] at H; exact H) | (simp only [hji10] at H ⊢; exact H)
         have hji10w : (IntKind.i64.wrap (x8_2 + 1)) = ji10 := (zad _).trans hji10
         by_cases c11 : 0 ≤ (ji10)
         ·rw [if_pos c11] at H
          have c11b0 : decide (0 ≤ (ji10)) = true := decide_eq_true c11
          clear c11
          by_cases c12 : (ji10) < (x5_2.length : Int)
          ·rw [if_pos c12] at H
           have c12b0 : decide ((ji10) < (x5_2.length : Int)) = true := decide_eq_true c12
           clear c12
           by_cases c13 : 0 ≤ x6_1
           ·rw [if_pos c13] at H
            have c13b0 : decide (0 ≤ x6_1) = true := decide_eq_true c13
            clear c13
            by_cases c14 : x6_1 < (l0.length : Int)
            ·rw [if_pos c14] at H
             have c14b0 : decide (x6_1 < (l0.length : Int)) = true := decide_eq_true c14
             clear c14
             by_cases c15 : 0 ≤ x8_2
             ·rw [if_pos c15] at H
              have c15b0 : decide (0 ≤ x8_2) = true := decide_eq_true c15
              clear c15
              by_cases c16 : (zaE ByteArray.empty l0 x6_1).toList = (zaE ByteArray.empty l1 x8_2).toList
              ·rw [if_pos c16] at H
               have c16b0 : ((zaE ByteArray.empty l0 x6_1).toList == (zaE ByteArray.empty l1 x8_2).toList) = true := beq_iff_eq.mpr c16
               have c16b1 : ((zaE ByteArray.empty l0 x6_1).toList != (zaE ByteArray.empty l1 x8_2).toList) = false := bne_eq_false_iff_eq.mpr c16
               clear c16
               obtain ⟨y541,hy541⟩ : ∃ y_ : List Int,y_ = (x5_2.set ((ji10) : Int).toNat (wrap64 (x7_2 + 1))) := ⟨_,rfl⟩
               replace H : (zU.l1 k2 l0 l1 y541 x6_1 (rd x5_2 (ji10)) ji10) = some r := by first | (rw [hy541]; with_reducible exact H) | (have H2_ := (Option.bind_some _ _).symm.trans H; rw [hy541]; with_reducible exact H2_) | (have H2_ := (Option.bind_some _ _).symm.trans H; with_reducible exact H2_) | with_reducible exact H | (rw [hy541]; exact H) | exact H
               have Ny541 := za.mk hy541
               clear hy541
               have H' := za.mk H
               clear H
               obtain ⟨Ao18,co18,eo18⟩ := Kd.za3 HO_5.out
               subst eo18
               have p538 : 0 ≤ ((ji10) : Int) := of_decide_eq_true qd
               have q538 : (ji10) < (x5_2.length : Int) := of_decide_eq_true qd
               obtain ⟨ad538,e538,hx538_0⟩ := Kd.zcw (Kd.zbq HO_5.out).2.2 (ji10) p538 q538
               cases e538
               replace p538 := eq_true p538
               replace q538 := eq_true q538
               have p539 : 0 ≤ (x6_1 : Int) := of_decide_eq_true qd
               have q539 : x6_1 < (l0.length : Int) := of_decide_eq_true qd
               obtain ⟨ad539,e539,hx539_0⟩ := Kd.zbb HR0.out x6_1 p539 q539
               cases e539
               replace hx539_0 := (HB.out.cell (World.block_lt_of_cell? w _ hx539_0)).trans hx539_0
               replace p539 := eq_true p539
               replace q539 := eq_true q539
               have p540 : 0 ≤ (x8_2 : Int) := of_decide_eq_true qd
               have q540 : x8_2 < (l1.length : Int) := of_decide_eq_true qd
               obtain ⟨ad540,e540,hx540_0⟩ := Kd.zbb HR1.out x8_2 p540 q540
               cases e540
               replace hx540_0 := (HB.out.cell (World.block_lt_of_cell? w _ hx540_0)).trans hx540_0
               replace p540 := eq_true p540
               replace q540 := eq_true q540
               have p17 : 0 ≤ ((ji10) : Int) := of_decide_eq_true qd
               have q17 : ((ji10) : Int) < ((x5_2.length : Int) : Int) := of_decide_eq_true qd
               obtain ⟨go17,co17,eo17,gb17,gl17,cl17,HG17⟩ := Kd.zgW HO_5.out qk
               (first | cases eo17 | (injection eo17 with ea_ en_ ec_; (first | subst ea_ | (injection ea_ with ea_; subst ea_)); subst ec_; clear en_))
               have GB17 := za.mk gb17
               have GG17 := za.mk HG17
               clear gb17 gl17 HG17
               (first | simp only [add_plain] at hx538_0 | skip)
               obtain ⟨hx17_0,hf17_0⟩ := Kd.zeU 0 HO_5.out ((ji10) : Int) p17 q17
               replace p17 := eq_true p17
               replace q17 := eq_true q17
               have HP19 := Kd.zcm HO_5.out ((ji10) : Int) (wrap64 (x7_2 + 1))
               go_wp2_with (first | ((with_reducible refine zcp (t := 3) (p := 45) rfl ?_); (try (rw [zcQ wr]; generalize hq_ : World.drewN wr _ = wr; have n0_ := za.mk (Kd.zfS hq_ HO_5.out); have n1_ := za.mk (zdf hq_ HB.out); clear hq_ HO_5 HB; have HO_5 := n0_; have HB := n1_; clear n0_ n1_; (try (have HP19 := Kd.zcm HO_5.out ((ji10) : Int) (wrap64 (x7_2 + 1)))))); refine zcj (t := 3) (p := 45) (v := ?vo_w20) (w1 := (wr.setCell ⟨go17,((ji10) : Int).toNat,none⟩ (.int .i64 (wrap64 (x7_2 + 1))))) ?hg ?ho ?hn ?hr ?_; (case ho => rfl); (case hg => rfl); (case hn => rfl); (case hr => exact qq); intro w20 hw; have hg : wr.grownBy w20 (some go17) := (by rw [hw]; exact HP19.2); have hp_ : Kd.R (Kd.int .i64) 3 w20 w.heap.size (fun _ => True) (.slice (some ⟨go17,0,none⟩) x5_2.length co18) y541 := (by rw [hw,Ny541.out]; exact HP19.1); clear HP19; have n0_ := za.mk (hp_); have n1_ := za.mk ((by rw [hw]; exact zi (HB.out) GB17.out : Below w.heap.size w w20)); clear HO_5; clear HB; have HO_5 := n0_; have HB := n1_; clear n0_ n1_; clear hg hw hp_))
               repeat (go_quiet (first | ((with_reducible refine zcp (t := 3) (p := 45) rfl ?_); (try (rw [zcQ wr]; generalize hq_ : World.drewN wr _ = wr; have n0_ := za.mk (Kd.zfS hq_ HO_5.out); have n1_ := za.mk (zdf hq_ HB.out); clear hq_ HO_5 HB; have HO_5 := n0_; have HB := n1_; clear n0_ n1_; (try (have HP19 := Kd.zcm HO_5.out ((ji10) : Int) (wrap64 (x7_2 + 1)))))); refine zcj (t := 3) (p := 45) (v := ?vo_w20) (w1 := (wr.setCell ⟨go17,((ji10) : Int).toNat,none⟩ (.int .i64 (wrap64 (x7_2 + 1))))) ?hg ?ho ?hn ?hr ?_; (case ho => rfl); (case hg => rfl); (case hn => rfl); (case hr => exact qq); intro w20 hw; have hg : wr.grownBy w20 (some go17) := (by rw [hw]; exact HP19.2); have hp_ : Kd.R (Kd.int .i64) 3 w20 w.heap.size (fun _ => True) (.slice (some ⟨go17,0,none⟩) x5_2.length co18) y541 := (by rw [hw,Ny541.out]; exact HP19.1); clear HP19; have n0_ := za.mk (hp_); have n1_ := za.mk ((by rw [hw]; exact zi (HB.out) GB17.out : Below w.heap.size w w20)); clear HO_5; clear HB; have HO_5 := n0_; have HB := n1_; clear n0_ n1_; clear hg hw hp_)); try go_wp2_with (first | ((with_reducible refine zcp (t := 3) (p := 45) rfl ?_); (try (rw [zcQ wr]; generalize hq_ : World.drewN wr _ = wr; have n0_ := za.mk (Kd.zfS hq_ HO_5.out); have n1_ := za.mk (zdf hq_ HB.out); clear hq_ HO_5 HB; have HO_5 := n0_; have HB := n1_; clear n0_ n1_; (try (have HP19 := Kd.zcm HO_5.out ((ji10) : Int) (wrap64 (x7_2 + 1)))))); refine zcj (t := 3) (p := 45) (v := ?vo_w20) (w1 := (wr.setCell ⟨go17,((ji10) : Int).toNat,none⟩ (.int .i64 (wrap64 (x7_2 + 1))))) ?hg ?ho ?hn ?hr ?_; (case ho => rfl); (case hg => rfl); (case hn => rfl); (case hr => exact qq); intro w20 hw; have hg : wr.grownBy w20 (some go17) := (by rw [hw]; exact HP19.2); have hp_ : Kd.R (Kd.int .i64) 3 w20 w.heap.size (fun _ => True) (.slice (some ⟨go17,0,none⟩) x5_2.length co18) y541 := (by rw [hw,Ny541.out]; exact HP19.1); clear HP19; have n0_ := za.mk (hp_); have n1_ := za.mk ((by rw [hw]; exact zi (HB.out) GB17.out : Below w.heap.size w w20)); clear HO_5; clear HB; have HO_5 := n0_; have HB := n1_; clear n0_ n1_; clear hg hw hp_)))
               go_roundg k2
               case measure => have := HK1.out; have := HK2.out; omega
               case rel => exact ⟨(y541),(rd x5_2 (ji10)),(ji10),qK,qK,H',⟨by have := HK1.out; have := HK2.out; omega⟩,⟨by first | exact HO_5.out | (rw [Ny541.out]; exact (Kd.zcm (Kd.zaa HO_5.out _) ((ji10) : Int) (wrap64 (x7_2 + 1))).1) | (rw [Ny541.out]; exact (Kd.zcm HO_5.out ((ji10) : Int) (wrap64 (x7_2 + 1))).1)⟩,⟨by first | exact HB.out | exact zi (zb HB.out _) GB17.out | exact zi HB.out GB17.out⟩⟩
              ·rw [if_neg c16] at H
               have c16b0 : ((zaE ByteArray.empty l0 x6_1).toList == (zaE ByteArray.empty l1 x8_2).toList) = false := beq_eq_false_iff_ne.mpr c16
               have c16b1 : ((zaE ByteArray.empty l0 x6_1).toList != (zaE ByteArray.empty l1 x8_2).toList) = true := bne_iff_ne.mpr c16
               by_cases c21 : x8_2 < (x5_2.length : Int)
               ·rw [if_pos c21] at H
                have c21b0 : decide (x8_2 < (x5_2.length : Int)) = true := decide_eq_true c21
                clear c21
                obtain ⟨ji22,hji22⟩ : ∃ j_ : Int,(mx (rd x5_2 (ji10)) (rd x5_2 x8_2)) = j_ := ⟨_,rfl⟩
                replace H : (zU.l1 k2 l0 l1 (x5_2.set ((ji10) : Int).toNat (ji22)) x6_1 (rd x5_2 (ji10)) ji10) = some r := by first | (rw [hji22] at H; exact H) | (simp only [hji22] at H ⊢; exact H)
                have hji22_ : (if (rd x5_2 (ji10)) < (rd x5_2 x8_2) then (rd x5_2 x8_2) else (rd x5_2 (ji10))) = ji22 := hji22
                obtain ⟨y543,hy543⟩ : ∃ y_ : List Int,y_ = (x5_2.set ((ji10) : Int).toNat (ji22)) := ⟨_,rfl⟩
                replace H : (zU.l1 k2 l0 l1 y543 x6_1 (rd x5_2 (ji10)) ji10) = some r := by first | (rw [hy543]; with_reducible exact H) | (have H2_ := (Option.bind_some _ _).symm.trans H; rw [hy543]; with_reducible exact H2_) | (have H2_ := (Option.bind_some _ _).symm.trans H; with_reducible exact H2_) | with_reducible exact H | (rw [hy543]; exact H) | exact H
                have Ny543 := za.mk hy543
                clear hy543
                have H' := za.mk H
                clear H
                obtain ⟨Ao24,co24,eo24⟩ := Kd.za3 HO_5.out
                subst eo24
                have p538 : 0 ≤ ((ji10) : Int) := of_decide_eq_true qd
                have q538 : (ji10) < (x5_2.length : Int) := of_decide_eq_true qd
                obtain ⟨ad538,e538,hx538_0⟩ := Kd.zcw (Kd.zbq HO_5.out).2.2 (ji10) p538 q538
                cases e538
                replace p538 := eq_true p538
                replace q538 := eq_true q538
                have p539 : 0 ≤ (x6_1 : Int) := of_decide_eq_true qd
                have q539 : x6_1 < (l0.length : Int) := of_decide_eq_true qd
                obtain ⟨ad539,e539,hx539_0⟩ := Kd.zbb HR0.out x6_1 p539 q539
                cases e539
                replace hx539_0 := (HB.out.cell (World.block_lt_of_cell? w _ hx539_0)).trans hx539_0
                replace p539 := eq_true p539
                replace q539 := eq_true q539
                have p540 : 0 ≤ (x8_2 : Int) := of_decide_eq_true qd
                have q540 : x8_2 < (l1.length : Int) := of_decide_eq_true qd
                obtain ⟨ad540,e540,hx540_0⟩ := Kd.zbb HR1.out x8_2 p540 q540
                cases e540
                replace hx540_0 := (HB.out.cell (World.block_lt_of_cell? w _ hx540_0)).trans hx540_0
                replace p540 := eq_true p540
                replace q540 := eq_true q540
                have p542 : 0 ≤ (x8_2 : Int) := of_decide_eq_true qd
                have q542 : x8_2 < (x5_2.length : Int) := of_decide_eq_true qd
                obtain ⟨ad542,e542,hx542_0⟩ := Kd.zcw (Kd.zbq HO_5.out).2.2 x8_2 p542 q542
                obtain rfl : ad538 = ad542 := (by injection e542)
                replace p542 := eq_true p542
                replace q542 := eq_true q542
                have p23 : 0 ≤ ((ji10) : Int) := of_decide_eq_true qd
                have q23 : ((ji10) : Int) < ((x5_2.length : Int) : Int) := of_decide_eq_true qd
                obtain ⟨go23,co23,eo23,gb23,gl23,cl23,HG23⟩ := Kd.zgW HO_5.out qk
                (first | cases eo23 | (injection eo23 with ea_ en_ ec_; (first | subst ea_ | (injection ea_ with ea_; subst ea_)); subst ec_; clear en_))
                have GB23 := za.mk gb23
                have GG23 := za.mk HG23
                clear gb23 gl23 HG23
                (first | simp only [add_plain] at hx538_0 | skip)
                (first | simp only [add_plain] at hx542_0 | skip)
                obtain ⟨hx23_0,hf23_0⟩ := Kd.zeU 0 HO_5.out ((ji10) : Int) p23 q23
                replace p23 := eq_true p23
                replace q23 := eq_true q23
                have HP25 := Kd.zcm HO_5.out ((ji10) : Int) ji22
                go_wp2_with (first | ((with_reducible refine zcp (t := 3) (p := 55) rfl ?_); (try (rw [zcQ wr]; generalize hq_ : World.drewN wr _ = wr; have n0_ := za.mk (Kd.zfS hq_ HO_5.out); have n1_ := za.mk (zdf hq_ HB.out); clear hq_ HO_5 HB; have HO_5 := n0_; have HB := n1_; clear n0_ n1_; (try (have HP25 := Kd.zcm HO_5.out ((ji10) : Int) ji22)))); refine zcj (t := 3) (p := 55) (v := ?vo_w26) (w1 := (wr.setCell ⟨go23,((ji10) : Int).toNat,none⟩ (.int .i64 ji22))) ?hg ?ho ?hn ?hr ?_; (case ho => rfl); (case hg => rfl); (case hn => rfl); (case hr => exact qq); intro w26 hw; have hg : wr.grownBy w26 (some go23) := (by rw [hw]; exact HP25.2); have hp_ : Kd.R (Kd.int .i64) 3 w26 w.heap.size (fun _ => True) (.slice (some ⟨go23,0,none⟩) x5_2.length co24) y543 := (by rw [hw,Ny543.out]; exact HP25.1); clear HP25; have n0_ := za.mk (hp_); have n1_ := za.mk ((by rw [hw]; exact zi (HB.out) GB23.out : Below w.heap.size w w26)); clear HO_5; clear HB; have HO_5 := n0_; have HB := n1_; clear n0_ n1_; clear hg hw hp_))
                repeat (go_quiet (first | ((with_reducible refine zcp (t := 3) (p := 55) rfl ?_); (try (rw [zcQ wr]; generalize hq_ : World.drewN wr _ = wr; have n0_ := za.mk (Kd.zfS hq_ HO_5.out); have n1_ := za.mk (zdf hq_ HB.out); clear hq_ HO_5 HB; have HO_5 := n0_; have HB := n1_; clear n0_ n1_; (try (have HP25 := Kd.zcm HO_5.out ((ji10) : Int) ji22)))); refine zcj (t := 3) (p := 55) (v := ?vo_w26) (w1 := (wr.setCell ⟨go23,((ji10) : Int).toNat,none⟩ (.int .i64 ji22))) ?hg ?ho ?hn ?hr ?_; (case ho => rfl); (case hg => rfl); (case hn => rfl); (case hr => exact qq); intro w26 hw; have hg : wr.grownBy w26 (some go23) := (by rw [hw]; exact HP25.2); have hp_ : Kd.R (Kd.int .i64) 3 w26 w.heap.size (fun _ => True) (.slice (some ⟨go23,0,none⟩) x5_2.length co24) y543 := (by rw [hw,Ny543.out]; exact HP25.1); clear HP25; have n0_ := za.mk (hp_); have n1_ := za.mk ((by rw [hw]; exact zi (HB.out) GB23.out : Below w.heap.size w w26)); clear HO_5; clear HB; have HO_5 := n0_; have HB := n1_; clear n0_ n1_; clear hg hw hp_)); try go_wp2_with (first | ((with_reducible refine zcp (t := 3) (p := 55) rfl ?_); (try (rw [zcQ wr]; generalize hq_ : World.drewN wr _ = wr; have n0_ := za.mk (Kd.zfS hq_ HO_5.out); have n1_ := za.mk (zdf hq_ HB.out); clear hq_ HO_5 HB; have HO_5 := n0_; have HB := n1_; clear n0_ n1_; (try (have HP25 := Kd.zcm HO_5.out ((ji10) : Int) ji22)))); refine zcj (t := 3) (p := 55) (v := ?vo_w26) (w1 := (wr.setCell ⟨go23,((ji10) : Int).toNat,none⟩ (.int .i64 ji22))) ?hg ?ho ?hn ?hr ?_; (case ho => rfl); (case hg => rfl); (case hn => rfl); (case hr => exact qq); intro w26 hw; have hg : wr.grownBy w26 (some go23) := (by rw [hw]; exact HP25.2); have hp_ : Kd.R (Kd.int .i64) 3 w26 w.heap.size (fun _ => True) (.slice (some ⟨go23,0,none⟩) x5_2.length co24) y543 := (by rw [hw,Ny543.out]; exact HP25.1); clear HP25; have n0_ := za.mk (hp_); have n1_ := za.mk ((by rw [hw]; exact zi (HB.out) GB23.out : Below w.heap.size w w26)); clear HO_5; clear HB; have HO_5 := n0_; have HB := n1_; clear n0_ n1_; clear hg hw hp_)))
                go_roundg k2
                case measure => have := HK1.out; have := HK2.out; omega
                case rel => exact ⟨(y543),(rd x5_2 (ji10)),(ji10),qK,qK,H',⟨by have := HK1.out; have := HK2.out; omega⟩,⟨by first | exact HO_5.out | (rw [Ny543.out]; exact (Kd.zcm (Kd.zaa HO_5.out _) ((ji10) : Int) ji22).1) | (rw [Ny543.out]; exact (Kd.zcm HO_5.out ((ji10) : Int) ji22).1)⟩,⟨by first | exact HB.out | exact zi (zb HB.out _) GB23.out | exact zi HB.out GB23.out⟩⟩
               ·rw [if_neg c21] at H
                exact absurd H qD
             ·rw [if_neg c15] at H
              exact absurd H qD
            ·rw [if_neg c14] at H
             exact absurd H qD
           ·rw [if_neg c13] at H
            exact absurd H qD
          ·rw [if_neg c12] at H
           exact absurd H qD
         ·rw [if_neg c11] at H
          exact absurd H qD
        ·rw [if_neg c9] at H
         have c9b0 : decide (x8_2 < (l1.length : Int)) = false := decide_eq_false c9
         clear c9
         have H' := za.mk H
         clear H
         go_wp2
         repeat (go_quiet (fail); try go_wp2)
         go_roundg k2
         case measure => have := HK1.out; have := HK2.out; omega
         case rel => exact ⟨(x5_2),(wrap64 (x6_1 + 1)),qn,H',⟨by have := HK1.out; have := HK2.out; omega⟩,⟨by (with_reducible repeat (first | apply Kd.zab | apply Kd.zaa | apply Kd.zam)); exact HO_5.out⟩,⟨by repeat (first | (with_reducible first | exact HB.out | apply ze | apply zb | apply zf) | exact HB.out)⟩⟩
     ·rw [if_neg c8] at H
      have c8b0 : decide (x6_1 < (l0.length : Int)) = false := decide_eq_false c8
      clear c8
      by_cases c27 : 0 ≤ (l1.length : Int)
      ·rw [if_pos c27] at H
       have c27b0 : decide (0 ≤ (l1.length : Int)) = true := decide_eq_true c27
       have c27b1 : decide (0 ≤ l1.length) = true := decide_eq_true qk
       clear c27
       by_cases c28 : (l1.length : Int) < (x5_1.length : Int)
       ·rw [if_pos c28] at H
        have c28b0 : decide ((l1.length : Int) < (x5_1.length : Int)) = true := decide_eq_true c28
        have c28b1 : decide (l1.length < x5_1.length) = true := decide_eq_true (Int.ofNat_lt.mp c28)
        clear c28
        obtain rfl := Option.some.inj H
        obtain ⟨Ao29,co29,eo29⟩ := Kd.za3 HO_5.out
        subst eo29
        have p537 : 0 ≤ ((l1.length : Int) : Int) := of_decide_eq_true qd
        have q537 : (l1.length : Int) < (x5_1.length : Int) := of_decide_eq_true qd
        obtain ⟨ad537,e537,hx537_0⟩ := Kd.zcw (Kd.zbq HO_5.out).2.2 (l1.length : Int) p537 q537
        cases e537
        (try simp only [Go.IntWalk.toNatUp] at hx537_0)
        replace p537 := eq_true p537
        replace q537 := eq_true q537
        go_wp2
        repeat (go_quiet (fail); try go_wp2)
        go_ret
        exact ⟨by first | rfl | (simp [zA,zz] <;> rfl) | (simp only [← hji3]; first | rfl | (simp [zA,zz] <;> rfl)) | (simp [*,zA,zz] <;> rfl),by repeat (first | (with_reducible first | exact HB.out | apply ze | apply zb | apply zf) | exact HB.out)⟩
       ·rw [if_neg c28] at H
        exact absurd H qD
      ·rw [if_neg c27] at H
       exact absurd H qD
  ·rw [if_neg c5] at H
   exact absurd H qD
 ·rw [if_neg c4] at H
  exact absurd H qD
def zcd.f (a0 : Int) : Option (Int × Int × ByteArray) := some (3,a0,(⟨#[]⟩ : ByteArray))
set_option maxHeartbeats 8000000 in
set_option maxRecDepth 100000 in
theorem zcd.calls (a0 : Int) (r1 : Int) (r2 : Int) (r3 : ByteArray) (w : World) (h : zcd.f a0 = some (r1,r2,r3)) :
  Calls Try.prog 62 #[.int .i64 a0] w fun e w' => e = .returned (.agg #[.int .i64 r1, .int .i64 r2, .string r3]) ∧ Below w.heap.size w w' := by
 have hu63 := Try.underlying63
 have HB := za.mk (Below.refl w.heap.size w)
 have H : (some (3,a0,(⟨#[]⟩ : ByteArray))) = some (r1,r2,r3) := h
 clear h
 simp only [Option.some.injEq,Prod.mk.injEq] at H
 obtain ⟨rfl,rfl,rfl⟩ := H
 go_enter Try.func62,Try.ntmps62
 go_wp2_with (first | ((with_reducible refine zax (N := 2) rfl ?_); refine zaQ ?hg (N := 2) ?hd (cs := #[.int .i64 0, .int .i64 0, .string (⟨#[]⟩ : ByteArray)]) (t := 63) ?hr ?_; (case hd => rfl); (case hg => rfl); (case hr => exact qq); intro gb177 hg w2 hbox hb; have n0_ := za.mk (zu (qc HB.out) hb); have n1_ := za.mk (hbox); have n2_ := za.mk ((by rw [hg]; exact (zD (qc HB.out)) : w.heap.size ≤ gb177)); have n3_ := za.mk ((by rw [hg]; exact (zD (qc HB.out)) : w.heap.size ≤ gb177)); clear HB; have HB := n0_; have BK177 := n1_; have GW177 := n2_; have GE177 := n3_; clear n0_ n1_ n2_ n3_; clear hb hbox hg; have hcz3_0 : w2.cell? ⟨gb177,0,none⟩ = some (.int .i64 0) := (zh BK177.out 0).trans rfl; have hcz3_1 : w2.cell? ⟨gb177,1,none⟩ = some (.int .i64 0) := (zh BK177.out 1).trans rfl; have hcz3_2 : w2.cell? ⟨gb177,2,none⟩ = some (.string (⟨#[]⟩ : ByteArray)) := (zh BK177.out 2).trans rfl; have hfz3_0 := zt BK177.out 0; have hfz3_1 := zt BK177.out 1; have hfz3_2 := zt BK177.out 2))
 refine bodyPost_ret (results_cell_row rfl _ _ gb177 63 #[.int .i64 3, .int .i64 a0, .string (⟨#[]⟩ : ByteArray)] (0,0) _ rfl (by (with_reducible repeat (first | refine zl ?_ _ | refine zn ?_ | refine zk ?_ _)); refine zac (cs := #[.int .i64 3, .int .i64 a0, .string (⟨#[]⟩ : ByteArray)]) ?_ 2 _ rfl; (with_reducible repeat (first | refine zl ?_ _ | refine zn ?_ | refine zk ?_ _)); refine zac (cs := #[.int .i64 3, .int .i64 0, .string (⟨#[]⟩ : ByteArray)]) ?_ 1 _ rfl; (with_reducible repeat (first | refine zl ?_ _ | refine zn ?_ | refine zk ?_ _)); refine zac (cs := #[.int .i64 0, .int .i64 0, .string (⟨#[]⟩ : ByteArray)]) ?_ 0 _ rfl; (with_reducible repeat (first | refine zl ?_ _ | refine zn ?_ | refine zk ?_ _)); exact BK177.out) Try.underlying63 rfl qj) rfl ?_
 exact ⟨by first | rfl | (simp [zA,zz] <;> rfl) | (simp [*,zA,zz] <;> rfl),by repeat (first | (with_reducible first | exact HB.out | apply ze | apply zb | apply zf | refine zi ?_ GE177.out) | exact HB.out)⟩
def zb8.f  : Option ((List (List ByteArray))) := some (([(([(⟨#[97,110,110,97]⟩ : ByteArray),(⟨#[98,101,110]⟩ : ByteArray)] : List ByteArray)),(([(⟨#[97,110,110,97]⟩ : ByteArray),(⟨#[99,121,100]⟩ : ByteArray)] : List ByteArray))] : List (List ByteArray)))
set_option maxHeartbeats 8000000 in
set_option maxRecDepth 100000 in
theorem zb8.calls  (r : List (List ByteArray)) (w : World) (h : zb8.f  = some r) :
  Calls Try.prog 63 #[] w fun e w' => ∃ v0_ : Value,e = .returned (v0_) ∧ Kd.N (Kd.slice 9 Kd.string) 22 w' w.heap.size (fun k_ => (w.heap.size ≤ k_)) v0_ r ∧ Below w.heap.size w w' := by
 have HB := za.mk (Below.refl w.heap.size w)
 have H : (some (([(([(⟨#[97,110,110,97]⟩ : ByteArray),(⟨#[98,101,110]⟩ : ByteArray)] : List ByteArray)),(([(⟨#[97,110,110,97]⟩ : ByteArray),(⟨#[99,121,100]⟩ : ByteArray)] : List ByteArray))] : List (List ByteArray)))) = some r := h
 clear h
 obtain ⟨y178,hy178⟩ : ∃ y_ : List ByteArray,y_ = (([(⟨#[97,110,110,97]⟩ : ByteArray),(⟨#[98,101,110]⟩ : ByteArray)] : List ByteArray)) := ⟨_,rfl⟩
 replace H : (some (([y178,(([(⟨#[97,110,110,97]⟩ : ByteArray),(⟨#[99,121,100]⟩ : ByteArray)] : List ByteArray))] : List (List ByteArray)))) = some r := by first | (rw [hy178]; with_reducible exact H) | (have H2_ := (Option.bind_some _ _).symm.trans H; rw [hy178]; with_reducible exact H2_) | (have H2_ := (Option.bind_some _ _).symm.trans H; with_reducible exact H2_) | with_reducible exact H | (rw [hy178]; exact H) | exact H
 have Ny178 := za.mk hy178
 clear hy178
 obtain ⟨y181,hy181⟩ : ∃ y_ : List ByteArray,y_ = (([(⟨#[97,110,110,97]⟩ : ByteArray),(⟨#[99,121,100]⟩ : ByteArray)] : List ByteArray)) := ⟨_,rfl⟩
 replace H : (some (([y178,y181] : List (List ByteArray)))) = some r := by first | (rw [hy181]; with_reducible exact H) | (have H2_ := (Option.bind_some _ _).symm.trans H; rw [hy181]; with_reducible exact H2_) | (have H2_ := (Option.bind_some _ _).symm.trans H; with_reducible exact H2_) | with_reducible exact H | (rw [hy181]; exact H) | exact H
 have Ny181 := za.mk hy181
 clear hy181
 obtain ⟨y184,hy184⟩ : ∃ y_ : List (List ByteArray),y_ = (([y178,y181] : List (List ByteArray))) := ⟨_,rfl⟩
 replace H : (some y184) = some r := by first | (rw [hy184]; with_reducible exact H) | (have H2_ := (Option.bind_some _ _).symm.trans H; rw [hy184]; with_reducible exact H2_) | (have H2_ := (Option.bind_some _ _).symm.trans H; with_reducible exact H2_) | with_reducible exact H | (rw [hy184]; exact H) | exact H
 have Ny184 := za.mk hy184
 clear hy184
 obtain rfl := Option.some.inj H
 go_enter Try.func63,Try.ntmps63
 go_wp2_with (first | ((with_reducible refine zax (N := 1) rfl ?_); refine Kd.zd0 Kd.string _ 9 ?hg (N := 1) ?hd (xs := ([(⟨#[97,110,110,97]⟩ : ByteArray),(⟨#[98,101,110]⟩ : ByteArray)] : List ByteArray)) (inner := [.string (⟨#[97,110,110,97]⟩ : ByteArray), .string (⟨#[98,101,110]⟩ : ByteArray)]) (ok := fun _ => True) (okp := fun _ => True) ?hr ?hp (fun _ hk => hk) trivial (Below.refl _ _) (Nat.le_refl _) qD ?_; (case hd => rfl); (case hg => rfl); (case hr => exact qq); (case hp => exact (zaf.one (show Kd.M Kd.string _ _ _ (⟨#[97,110,110,97]⟩ : ByteArray) [.string (⟨#[97,110,110,97]⟩ : ByteArray)] from rfl) (zaf.one (show Kd.M Kd.string _ _ _ (⟨#[98,101,110]⟩ : ByteArray) [.string (⟨#[98,101,110]⟩ : ByteArray)] from rfl) (zaf.none _ _)))); intro v179 w1 ho2 hb hg_ hnew_; clear hg_ hnew_; (first | rw [← Ny178.out] at ho2 | (simp only [Int.reduceToNat] at ho2; rw [← Ny178.out] at ho2)); have n0_ := za.mk (Kd.zaO (Kd.zic (M := fun k_ => (w.heap.size ≤ k_)) ho2 (zD (qc HB.out)) (fun k_ h_ => h_)) (zD (qc HB.out))); have n1_ := za.mk (zu (qc HB.out) hb); clear HB; have HO180 := n0_; have HB := n1_; clear n0_ n1_; clear hb ho2) | ((with_reducible refine zax (N := 2) rfl ?_); refine Kd.zd0 Kd.string _ 9 ?hg (N := 2) ?hd (xs := ([(⟨#[97,110,110,97]⟩ : ByteArray),(⟨#[99,121,100]⟩ : ByteArray)] : List ByteArray)) (inner := [.string (⟨#[97,110,110,97]⟩ : ByteArray), .string (⟨#[99,121,100]⟩ : ByteArray)]) (ok := fun _ => True) (okp := fun _ => True) ?hr ?hp (fun _ hk => hk) trivial (Below.refl _ _) (Nat.le_refl _) qD ?_; (case hd => rfl); (case hg => rfl); (case hr => exact qq); (case hp => exact (zaf.one (show Kd.M Kd.string _ _ _ (⟨#[97,110,110,97]⟩ : ByteArray) [.string (⟨#[97,110,110,97]⟩ : ByteArray)] from rfl) (zaf.one (show Kd.M Kd.string _ _ _ (⟨#[99,121,100]⟩ : ByteArray) [.string (⟨#[99,121,100]⟩ : ByteArray)] from rfl) (zaf.none _ _)))); intro v182 w3 ho4 hb hg_ hnew_; clear hg_ hnew_; (first | rw [← Ny181.out] at ho4 | (simp only [Int.reduceToNat] at ho4; rw [← Ny181.out] at ho4)); have n0_ := za.mk (Kd.zgG (qp HO180.out) (Kd.zcT ho4) hb); have n1_ := za.mk (Kd.zaO (Kd.zeA (Kd.zic (M := fun k_ => (w.heap.size ≤ k_)) ho4 (zD (qc HB.out)) (fun k_ h_ => h_)) (Kd.zkt (qp HO180.out))) (zD (qc HB.out))); have n2_ := za.mk (zu (qc HB.out) hb); clear HO180; clear HB; have HO180 := n0_; have HO183 := n1_; have HB := n2_; clear n0_ n1_ n2_; clear hb ho4; obtain ⟨Ao5,co5,eo5⟩ := Kd.za3 HO180.out; subst eo5; obtain ⟨Ao6,co6,eo6⟩ := Kd.za3 HO183.out; subst eo6) | ((with_reducible refine zax (N := 3) rfl ?_); refine Kd.zkg (Kd.slice 9 Kd.string) _ 22 ?hg (N' := 3) ?hd (xs := ([y178,y181] : List (List ByteArray))) (inner := [.slice Ao5 y178.length co5, .slice Ao6 y181.length co6]) (ok := (fun k_ => (w.heap.size ≤ k_))) (okp := (fun k_ => (w.heap.size ≤ k_))) ?hr ?hp (fun _ hk => hk) ((show ∀ k_,w3.heap.size ≤ k_ → (fun k_ => (w.heap.size ≤ k_)) k_ from fun k_ hk => (Nat.le_trans (zD (qc HB.out)) hk)) _ (Nat.le_refl _)) (Below.refl _ _) (Nat.le_refl _) qD ?_; (case hd => rfl); (case hg => rfl); (case hr => exact qq); (case hp => exact (zaf.one (show Kd.FK (Kd.slice 9 Kd.string) _ _ y178 [.slice Ao5 y178.length co5] from (Kd.ze5 (Kd.zbq (Kd.zav (ok' := (fun k_ => (w.heap.size ≤ k_))) (HO180.out) (fun k_ hk => hk.1.1))).2.1 (Kd.R_F (Kd.zav (ok' := (fun k_ => (w.heap.size ≤ k_))) (HO180.out) (fun k_ hk => hk.1.1))))) (zaf.one (show Kd.FK (Kd.slice 9 Kd.string) _ _ y181 [.slice Ao6 y181.length co6] from (Kd.ze5 (Kd.zbq (Kd.zav (ok' := (fun k_ => (w.heap.size ≤ k_))) (HO183.out) (fun k_ hk => hk.1.1))).2.1 (Kd.R_F (Kd.zav (ok' := (fun k_ => (w.heap.size ≤ k_))) (HO183.out) (fun k_ hk => hk.1.1))))) (zaf.none _ _)))); intro v185 w7 ho8 hb hg_ hnew_; clear hg_ hnew_; (first | rw [← Ny184.out] at ho8 | (simp only [Int.reduceToNat] at ho8; rw [← Ny184.out] at ho8)); have n0_ := za.mk (Kd.zjs ho8 (zD (qc HB.out))); have n1_ := za.mk (zu (qc HB.out) hb); clear HB; clear HO180; clear HO183; have HO186 := n0_; have HB := n1_; clear n0_ n1_; clear hb ho8))
 go_ret
 exact ⟨_,by first | rfl | (simp [zA,zz] <;> rfl) | (simp [*,zA,zz] <;> rfl),by (with_reducible repeat (first | apply Kd.zjL | apply Kd.zjz | apply Kd.zjZ)); exact HO186.out,by repeat (first | (with_reducible first | exact HB.out | apply ze | apply zb | apply zf) | exact HB.out)⟩
def zaJ.l0 : Nat → List Int → List Int → Int → Option (Bool)
 | 0,_,_,_ => none
 | k + 1,x0,x1,x5 => if x5 < (x0.length : Int) then (if 0 ≤ x5 then (if x5 < (x1.length : Int) then (if (rd x0 x5) = (rd x1 x5) then (zaJ.l0 k x0 x1 (wrap64 (x5 + 1))) else (some false)) else (none)) else (none)) else (some true)
def zaJ.f (k : Nat) (l0 : List Int) (l1 : List Int) : Option (Bool) := if (l0.length : Int) = (l1.length : Int) then (zaJ.l0 k l0 l1 0) else (some false)
set_option maxHeartbeats 8000000 in
set_option maxRecDepth 100000 in
theorem zaJ.calls (k : Nat) (A0 : Option Addr) (c0 : Nat) (l0 : List Int) (A1 : Option Addr) (c1 : Nat) (l1 : List Int) (r : Bool) (w : World) (hr0 : Kd.C (Kd.int .i64) w A0 l0.length l0) (hc0 : l0.length ≤ c0) (hr1 : Kd.C (Kd.int .i64) w A1 l1.length l1) (hc1 : l1.length ≤ c1) (h : zaJ.f k l0 l1 = some r) :
  Calls Try.prog 31 #[.slice A0 l0.length c0, .slice A1 l1.length c1] w fun e w' => e = .returned (.bool r) ∧ zF w w' := by
 have HR0 := za.mk hr0
 have HC0 := za.mk hc0
 clear hr0 hc0
 have HR1 := za.mk hr1
 have HC1 := za.mk hc1
 clear hr1 hc1
 have H : (if (l0.length : Int) = (l1.length : Int) then (zaJ.l0 k l0 l1 0) else (some false)) = some r := h
 clear h
 by_cases c3 : (l0.length : Int) = (l1.length : Int)
 ·rw [if_pos c3] at H
  have c3b0 : ((l0.length : Int) == (l1.length : Int)) = true := beq_iff_eq.mpr c3
  have c3b1 : ((l0.length : Int) != (l1.length : Int)) = false := bne_eq_false_iff_eq.mpr c3
  have c3b2 : (l0.length == l1.length) = true := by first | simpa using c3 | (simp at c3 ⊢; omega)
  clear c3
  have H' := za.mk H
  clear H
  go_enter Try.func31,Try.ntmps31
  go_wp2
  repeat (go_quiet (fail); try go_wp2)
  go_loopg [5] k (fun kq v5 w' => ∃ (x5_1 : Int),v5 = .int .i64 x5_1 ∧ za (zaJ.l0 kq l0 l1 x5_1 = some r) ∧ za (kq ≤ k) ∧ zF w w')
  case atStart => exact ⟨(0),qn,H',⟨Nat.le_refl _⟩,by repeat (first | exact zF.refl _ | apply zF.step)⟩
  case round =>
   clear H'
   try clear c1
   try clear p2
   try clear c3
   try clear c3b0
   try clear c3b1
   try clear c3b2
   obtain ⟨x5_1,rfl,HA,HK1,⟨m1,rfl⟩⟩ := hrel
   cases gk with
   | zero => exact absurd HA.out (by simp [zaJ.l0])
   | succ k1 =>
    have H := HA.out
    clear HA
    simp only [zaJ.l0] at H
    by_cases c4 : x5_1 < (l0.length : Int)
    ·rw [if_pos c4] at H
     have c4b0 : decide (x5_1 < (l0.length : Int)) = true := decide_eq_true c4
     clear c4
     by_cases c5 : 0 ≤ x5_1
     ·rw [if_pos c5] at H
      have c5b0 : decide (0 ≤ x5_1) = true := decide_eq_true c5
      clear c5
      by_cases c6 : x5_1 < (l1.length : Int)
      ·rw [if_pos c6] at H
       have c6b0 : decide (x5_1 < (l1.length : Int)) = true := decide_eq_true c6
       clear c6
       by_cases c7 : (rd l0 x5_1) = (rd l1 x5_1)
       ·rw [if_pos c7] at H
        have c7b0 : ((rd l0 x5_1) == (rd l1 x5_1)) = true := beq_iff_eq.mpr c7
        have c7b1 : ((rd l0 x5_1) != (rd l1 x5_1)) = false := bne_eq_false_iff_eq.mpr c7
        clear c7
        have H' := za.mk H
        clear H
        have p124 : 0 ≤ (x5_1 : Int) := of_decide_eq_true qd
        have q124 : x5_1 < (l0.length : Int) := of_decide_eq_true qd
        obtain ⟨ad124,e124,hx124_0⟩ := Kd.zcw HR0.out x5_1 p124 q124
        cases e124
        replace p124 := eq_true p124
        replace q124 := eq_true q124
        have p125 : 0 ≤ (x5_1 : Int) := of_decide_eq_true qd
        have q125 : x5_1 < (l1.length : Int) := of_decide_eq_true qd
        obtain ⟨ad125,e125,hx125_0⟩ := Kd.zcw HR1.out x5_1 p125 q125
        cases e125
        replace p125 := eq_true p125
        replace q125 := eq_true q125
        go_wp2
        repeat (go_quiet (fail); try go_wp2)
        go_roundg k1
        case measure => have := HK1.out; omega
        case rel => exact ⟨(wrap64 (x5_1 + 1)),qn,H',⟨by have := HK1.out; omega⟩,by repeat (first | exact zF.refl _ | apply zF.step)⟩
       ·rw [if_neg c7] at H
        have c7b0 : ((rd l0 x5_1) == (rd l1 x5_1)) = false := beq_eq_false_iff_ne.mpr c7
        have c7b1 : ((rd l0 x5_1) != (rd l1 x5_1)) = true := bne_iff_ne.mpr c7
        obtain rfl := Option.some.inj H
        have p124 : 0 ≤ (x5_1 : Int) := of_decide_eq_true qd
        have q124 : x5_1 < (l0.length : Int) := of_decide_eq_true qd
        obtain ⟨ad124,e124,hx124_0⟩ := Kd.zcw HR0.out x5_1 p124 q124
        cases e124
        replace p124 := eq_true p124
        replace q124 := eq_true q124
        have p125 : 0 ≤ (x5_1 : Int) := of_decide_eq_true qd
        have q125 : x5_1 < (l1.length : Int) := of_decide_eq_true qd
        obtain ⟨ad125,e125,hx125_0⟩ := Kd.zcw HR1.out x5_1 p125 q125
        cases e125
        replace p125 := eq_true p125
        replace q125 := eq_true q125
        go_wp2
        repeat (go_quiet (fail); try go_wp2)
        go_ret
        exact ⟨by first | rfl | (simp; done) | (simp [*]; done),by repeat (first | exact zF.refl _ | apply zF.step)⟩
      ·rw [if_neg c6] at H
       exact absurd H qD
     ·rw [if_neg c5] at H
      exact absurd H qD
    ·rw [if_neg c4] at H
     have c4b0 : decide (x5_1 < (l0.length : Int)) = false := decide_eq_false c4
     clear c4
     obtain rfl := Option.some.inj H
     go_wp2
     repeat (go_quiet (fail); try go_wp2)
     go_ret
     exact ⟨by first | rfl | (simp; done) | (simp [*]; done),by repeat (first | exact zF.refl _ | apply zF.step)⟩
 ·rw [if_neg c3] at H
  have c3b0 : ((l0.length : Int) == (l1.length : Int)) = false := beq_eq_false_iff_ne.mpr c3
  have c3b1 : ((l0.length : Int) != (l1.length : Int)) = true := bne_iff_ne.mpr c3
  have c3b2 : (l0.length == l1.length) = false := by first | simpa using c3 | (simp at c3 ⊢; omega)
  obtain rfl := Option.some.inj H
  go_enter Try.func31,Try.ntmps31
  go_wp2
  repeat (go_quiet (fail); try go_wp2)
  go_ret
  exact ⟨by first | rfl | (simp; done) | (simp [*]; done),by repeat (first | exact zF.refl _ | apply zF.step)⟩
def zaw.l0 : Nat → List Int → Int → Int → Int → Option (Int)
 | 0,_,_,_,_ => none
 | k + 1,x0,x1,x7,x8 => if x8 < x7 then (if 0 ≤ x8 then (if x8 < (x0.length : Int) then (if x1 = (rd x0 x8) then (some x8) else (zaw.l0 k x0 x1 x7 (wrap64 (x8 + 1)))) else (none)) else (none)) else (some (-1))
def zaw.f (k : Nat) (l0 : List Int) (a1 : Int) : Option (Int) := zaw.l0 k l0 a1 (l0.length : Int) 0
set_option maxHeartbeats 8000000 in
set_option maxRecDepth 100000 in
theorem zaw.calls (k : Nat) (A0 : Option Addr) (c0 : Nat) (l0 : List Int) (a1 : Int) (r : Int) (w : World) (hr0 : Kd.C (Kd.int .i64) w A0 l0.length l0) (hc0 : l0.length ≤ c0) (h : zaw.f k l0 a1 = some r) :
  Calls Try.prog 121 #[.slice A0 l0.length c0, .int .i64 a1] w fun e w' => e = .returned (.int .i64 r) ∧ zF w w' := by
 have HR0 := za.mk hr0
 have HC0 := za.mk hc0
 clear hr0 hc0
 have H : (zaw.l0 k l0 a1 (l0.length : Int) 0) = some r := h
 clear h
 have H' := za.mk H
 clear H
 go_enter Try.func121,Try.ntmps121
 go_wp2
 go_loopg [8] k (fun kq v8 w' => ∃ (x8_1 : Int),v8 = .int .i64 x8_1 ∧ za (zaw.l0 kq l0 a1 (l0.length : Int) x8_1 = some r) ∧ za (kq ≤ k) ∧ zF w w')
 case atStart => exact ⟨(0),qn,H',⟨Nat.le_refl _⟩,by repeat (first | exact zF.refl _ | apply zF.step)⟩
 case round =>
  clear H'
  try clear c1
  try clear p2
  obtain ⟨x8_1,rfl,HA,HK1,⟨m1,rfl⟩⟩ := hrel
  cases gk with
  | zero => exact absurd HA.out (by simp [zaw.l0])
  | succ k1 =>
   have H := HA.out
   clear HA
   simp only [zaw.l0] at H
   by_cases c3 : x8_1 < (l0.length : Int)
   ·rw [if_pos c3] at H
    have c3b0 : decide (x8_1 < (l0.length : Int)) = true := decide_eq_true c3
    clear c3
    by_cases c4 : 0 ≤ x8_1
    ·rw [if_pos c4] at H
     have c4b0 : decide (0 ≤ x8_1) = true := decide_eq_true c4
     clear c4
     by_cases c5 : x8_1 < (l0.length : Int)
     ·rw [if_pos c5] at H
      have c5b0 : decide (x8_1 < (l0.length : Int)) = true := decide_eq_true c5
      clear c5
      by_cases c6 : a1 = (rd l0 x8_1)
      ·rw [if_pos c6] at H
       have c6b0 : (a1 == (rd l0 x8_1)) = true := beq_iff_eq.mpr c6
       have c6b1 : (a1 != (rd l0 x8_1)) = false := bne_eq_false_iff_eq.mpr c6
       clear c6
       obtain rfl := Option.some.inj H
       have p125 : 0 ≤ (x8_1 : Int) := of_decide_eq_true qd
       have q125 : x8_1 < (l0.length : Int) := of_decide_eq_true qd
       obtain ⟨ad125,e125,hx125_0⟩ := Kd.zcw HR0.out x8_1 p125 q125
       cases e125
       replace p125 := eq_true p125
       replace q125 := eq_true q125
       go_wp2
       go_ret
       exact ⟨by first | rfl | (simp; done) | (simp [*]; done),by repeat (first | exact zF.refl _ | apply zF.step)⟩
      ·rw [if_neg c6] at H
       have c6b0 : (a1 == (rd l0 x8_1)) = false := beq_eq_false_iff_ne.mpr c6
       have c6b1 : (a1 != (rd l0 x8_1)) = true := bne_iff_ne.mpr c6
       have H' := za.mk H
       clear H
       have p125 : 0 ≤ (x8_1 : Int) := of_decide_eq_true qd
       have q125 : x8_1 < (l0.length : Int) := of_decide_eq_true qd
       obtain ⟨ad125,e125,hx125_0⟩ := Kd.zcw HR0.out x8_1 p125 q125
       cases e125
       replace p125 := eq_true p125
       replace q125 := eq_true q125
       go_wp2
       go_roundg k1
       case measure => have := HK1.out; omega
       case rel => exact ⟨(wrap64 (x8_1 + 1)),qn,H',⟨by have := HK1.out; omega⟩,by repeat (first | exact zF.refl _ | apply zF.step)⟩
     ·rw [if_neg c5] at H
      exact absurd H qD
    ·rw [if_neg c4] at H
     exact absurd H qD
   ·rw [if_neg c3] at H
    have c3b0 : decide (x8_1 < (l0.length : Int)) = false := decide_eq_false c3
    clear c3
    obtain rfl := Option.some.inj H
    go_wp2
    go_ret
    exact ⟨by first | rfl | (simp; done) | (simp [*]; done),by repeat (first | exact zF.refl _ | apply zF.step)⟩
def zbg.f (k : Nat) (l0 : List Int) (a1 : Int) : Option (Bool) := (zaw.f k l0 a1).bind fun t126 => (some (decide (t126 ≥ 0)))
set_option maxHeartbeats 8000000 in
set_option maxRecDepth 100000 in
theorem zbg.calls (k : Nat) (A0 : Option Addr) (c0 : Nat) (l0 : List Int) (a1 : Int) (r : Bool) (w : World) (hr0 : Kd.C (Kd.int .i64) w A0 l0.length l0) (hc0 : l0.length ≤ c0) (h : zbg.f k l0 a1 = some r) :
  Calls Try.prog 101 #[.slice A0 l0.length c0, .int .i64 a1] w fun e w' => e = .returned (.bool r) ∧ zF w w' := by
 have HR0 := za.mk hr0
 have HC0 := za.mk hc0
 clear hr0 hc0
 have H : ((zaw.f k l0 a1).bind fun t126 => (some (decide (t126 ≥ 0)))) = some r := h
 clear h
 replace H := Option.bind_eq_some_iff.mp H
 obtain ⟨t126,A30,H⟩ := H
 replace H : (some (decide (t126 ≥ 0))) = some r := H
 have A3 := za.mk A30
 clear A30
 obtain rfl := Option.some.inj H
 go_enter Try.func101,Try.ntmps101
 go_wp2_with (first | ((with_reducible refine zC (f := 121) rfl ?_); refine zY (some 7) rfl rfl Try.func121 qj rfl #[.slice A0 l0.length c0, .int .i64 a1] rfl qb ?_; (with_reducible refine (zaw.calls k _ _ l0 a1 t126 _ ?side1 ?side2 A3.out).mono ?_); (case side1 => exact qo HR0.out); (case side2 => exact HC0.out); rintro e w' ⟨rfl,⟨nd,rfl⟩⟩; refine ⟨_,rfl,?_⟩))
 go_ret
 exact ⟨by first | rfl | (simp; done) | (simp [*]; done),by repeat (first | exact zF.refl _ | apply zF.step)⟩
end Go.Proofs.Ytgmbbfmbimofoaa.P
