-- MERGED BY A PROGRAM out of texts of this claim: hand work, and what a (turned) print of the kit has written for it
import Derived.Test.YtgmbbfmbimofoaaMi5
namespace Go.Proofs.Ytgmbbfmbimofoaa.P
open Go.RowKit Go.Proofs.YtgmbbfmbimofoaaW.PrintWords Go.Proofs.YtgmbbfmbimofoaaW.PrintLast Go.Proofs.YtgmbbfmbimofoaaW.PrintMore
attribute [local go_sem] zM zN zV zU zI zH zO zP
set_option linter.unusedVariables false
set_option linter.unusedSimpArgs false
mutual
def zt.l0 : Nat → List (List ByteArray) → List ByteArray → Int → List Int → Int → Int → Option ((List (List ByteArray)) × Int × Int)
 | 0,_,_,_,_,_,_ => none
 | k + 1,x5,x6,x7,x1000,x1001,x1002 => if x7 > 0 then ((zaD.f x6).bind fun t310 => (if x5.length < 5864062014805 then ((some (x5 ++ [t310] : List (List ByteArray))).bind fun y313 => ((zaC.f x1000 x1001 x1002 4).bind fun bt316 => (if bt316.1 = true then ((zX.f k x1000 bt316.2.1 bt316.2.2 4).bind fun bt319 => (zt.j1 k y313 bt319.1 x7 x1000 bt319.2.1 bt319.2.2)) else (zt.j1 k y313 x6 x7 x1000 bt316.2.1 bt316.2.2)))) else (none))) else (some (x5,x1001,x1002))
def zt.j1 : Nat → List (List ByteArray) → List ByteArray → Int → List Int → Int → Int → Option ((List (List ByteArray)) × Int × Int)
 | 0,_,_,_,_,_,_ => none
 | k + 1,x5,x6,x7,x1000,x1001,x1002 => if (x6.length : Int) > 0 then ((zaC.f x1000 x1001 x1002 2).bind fun bt324 => (zt.j2 k x5 x6 x7 bt324.1 x1000 bt324.2.1 bt324.2.2)) else (zt.j2 k x5 x6 x7 false x1000 x1001 x1002)
def zt.j2 : Nat → List (List ByteArray) → List ByteArray → Int → Bool → List Int → Int → Int → Option ((List (List ByteArray)) × Int × Int)
 | 0,_,_,_,_,_,_,_ => none
 | k + 1,x5,x6,x7,x32,x1000,x1001,x1002 => if x32 = true then ((zaD.f x6).bind fun t327 => ((zak.f x1000 x1001 x1002 (wrap64 ((t327.length : Int) - 1))).bind fun bt330 => ((zat.f x1000 bt330.2.1 bt330.2.2).bind fun bt333 => (if 0 ≤ bt330.1 then (if bt330.1 < (t327.length : Int) then (zt.j3 k x5 (t327.set (bt330.1 : Int).toNat bt333.1) x7 x1000 bt333.2.1 bt333.2.2) else (none)) else (none))))) else (zt.j3 k x5 x6 x7 x1000 x1001 x1002)
def zt.j3 : Nat → List (List ByteArray) → List ByteArray → Int → List Int → Int → Int → Option ((List (List ByteArray)) × Int × Int)
 | 0,_,_,_,_,_,_ => none
 | k + 1,x5,x6,x7,x1000,x1001,x1002 => if (x6.length : Int) > 0 then ((zaC.f x1000 x1001 x1002 3).bind fun bt337 => (zt.j4 k x5 x6 x7 bt337.1 x1000 bt337.2.1 bt337.2.2)) else (zt.j4 k x5 x6 x7 false x1000 x1001 x1002)
def zt.j4 : Nat → List (List ByteArray) → List ByteArray → Int → Bool → List Int → Int → Int → Option ((List (List ByteArray)) × Int × Int)
 | 0,_,_,_,_,_,_,_ => none
 | k + 1,x5,x6,x7,x50,x1000,x1001,x1002 => if x50 = true then (if 1 ≤ (x6.length : Int) then (zt.j5 k x5 (x6.drop (1 : Int).toNat) x7 x1000 x1001 x1002) else (none)) else (zt.j5 k x5 x6 x7 x1000 x1001 x1002)
def zt.j5 : Nat → List (List ByteArray) → List ByteArray → Int → List Int → Int → Int → Option ((List (List ByteArray)) × Int × Int)
 | 0,_,_,_,_,_,_ => none
 | k + 1,x5,x6,x7,x1000,x1001,x1002 => if (x6.length : Int) < 6 then ((zaC.f x1000 x1001 x1002 3).bind fun bt343 => (zt.j6 k x5 x6 x7 bt343.1 x1000 bt343.2.1 bt343.2.2)) else (zt.j6 k x5 x6 x7 false x1000 x1001 x1002)
def zt.j6 : Nat → List (List ByteArray) → List ByteArray → Int → Bool → List Int → Int → Int → Option ((List (List ByteArray)) × Int × Int)
 | 0,_,_,_,_,_,_,_ => none
 | k + 1,x5,x6,x7,x59,x1000,x1001,x1002 => if x59 = true then ((zaD.f x6).bind fun t346 => ((zat.f x1000 x1001 x1002).bind fun bt349 => (if t346.length < 8796093022208 then (zt.l0 k x5 (t346 ++ [bt349.1]) (wrap64 (x7 - 1)) x1000 bt349.2.1 bt349.2.2) else (none)))) else (zt.l0 k x5 x6 (wrap64 (x7 - 1)) x1000 x1001 x1002)
end
def zt.f (k : Nat) (s0_0 : List Int) (s0_1 : Int) (s0_2 : Int) (a1 : Int) : Option ((List (List ByteArray)) × Int × Int) := (zX.f k s0_0 s0_1 s0_2 4).bind fun bt302 => ((zak.f s0_0 bt302.2.1 bt302.2.2 a1).bind fun bt307 => (zt.l0 k ([] : List (List ByteArray)) bt302.1 bt307.1 s0_0 bt307.2.1 bt307.2.2))
set_option maxHeartbeats 8000000 in
set_option maxRecDepth 100000 in
theorem zt.calls (k : Nat) (g : Nat) (s0_0 : List Int) (s0_1 : Int) (s0_2 : Int) (a1 : Int) (r1 : List (List ByteArray)) (r2 : Int) (r3 : Int) (w0 w : World) (hI : zk w0 w g s0_0 s0_1 s0_2) (hB : Below w0.heap.size w0 w) (h : zt.f k s0_0 s0_1 s0_2 a1 = some (r1,r2,r3)) :
  Calls Try.prog 33 #[.pointer (some ⟨g,0,none⟩), .int .i64 a1] w fun e w' => ∃ v0_ : Value,e = .returned (v0_) ∧ Kd.S (Kd.slice 9 Kd.string) 22 w' w.heap.size (fun _ => True) v0_ r1 ∧ zk w0 w' g s0_0 r2 r3 ∧ Below w0.heap.size w0 w' ∧ zu w w' g none := by
 have HI0 := za.mk hI
 have HK := za.mk (zu.refl w g none)
 have HL := za.mk hB.size
 clear hI
 have HW0 := za.mk hB.size
 have HB := za.mk hB
 clear hB
 have H : ((zX.f k s0_0 s0_1 s0_2 4).bind fun bt302 => ((zak.f s0_0 bt302.2.1 bt302.2.2 a1).bind fun bt307 => (zt.l0 k ([] : List (List ByteArray)) bt302.1 bt307.1 s0_0 bt307.2.1 bt307.2.2))) = some (r1,r2,r3) := h
 clear h
 replace H := Option.bind_eq_some_iff.mp H
 obtain ⟨⟨t302,t305,t306⟩,A30,H⟩ := H
 replace H : ((zak.f s0_0 t305 t306 a1).bind fun bt307 => (zt.l0 k ([] : List (List ByteArray)) t302 bt307.1 s0_0 bt307.2.1 bt307.2.2)) = some (r1,r2,r3) := H
 have A3 := za.mk A30
 clear A30
 replace H := Option.bind_eq_some_iff.mp H
 obtain ⟨⟨t307,t308,t309⟩,A40,H⟩ := H
 replace H : (zt.l0 k ([] : List (List ByteArray)) t302 t307 s0_0 t308 t309) = some (r1,r2,r3) := H
 have A4 := za.mk A40
 clear A40
 have H' := za.mk H
 clear H
 go_enter Try.func33,Try.ntmps33
 go_wp2_with (first | ((with_reducible refine zz (f := 20) rfl ?_); refine zT (some 9) rfl rfl Try.func20 qi rfl #[.pointer (some ⟨g,0,none⟩), .int .i64 4] rfl qa ?_; (with_reducible refine (zX.calls k g s0_0 s0_1 s0_2 4 t302 t305 t306 w0 _ ?side1 ?side2 A3.out).mono ?_); (case side1 => exact qh HI0.out); (case side2 => exact qm HB.out HI0.out); rintro e w5 ⟨v303,rfl,ho0,hi,hb,hk⟩; refine ⟨_,rfl,?_⟩; have n0_ := za.mk (Kd.zaT ho0 (zci (w := w) (g := g) (row := none) (qg HK.out))); have n1_ := za.mk (zu.trans (qg HK.out) hk (.inl rfl)); have n2_ := za.mk (hb); have n3_ := za.mk (hi); clear HK; clear HB; clear HI0; have HO304 := n0_; have HK := n1_; have HB := n2_; have HI0 := n3_; clear n0_ n1_ n2_ n3_; (try clear hb); (try clear hb2); (try clear hk); (try clear hi); (try clear ho0)) | ((with_reducible refine zz (f := 28) rfl ?_); refine zT (some 12) rfl rfl Try.func28 qi rfl #[.pointer (some ⟨g,0,none⟩), .int .i64 a1] rfl qa ?_; (with_reducible refine (zak.calls g s0_0 t305 t306 a1 t307 t308 t309 w0 _ ?side1 ?side2 A4.out).mono ?_); (case side1 => exact qh HI0.out); (case side2 => exact qm HB.out HI0.out); rintro e w6 ⟨rfl,hi,hb,hk⟩; refine ⟨_,rfl,?_⟩; have n0_ := za.mk (Kd.zaA (Kd.zcf (zk.apart (show zk w0 _ g s0_0 t305 t306 from by repeat (first | (with_reducible first | exact HI0.out | apply zk.alloc | apply zk.drewN | apply zk.drew | apply zk.zao | apply zk.zaq) | exact HI0.out)) (qp HO304.out) qt) hk (fun _ h => h.2)) (fun _ h => h.1)); have n1_ := za.mk (zu.trans (qg HK.out) hk (.inl rfl)); have n2_ := za.mk (hb); have n3_ := za.mk (hi); clear HO304; clear HK; clear HB; clear HI0; have HO304 := n0_; have HK := n1_; have HB := n2_; have HI0 := n3_; clear n0_ n1_ n2_ n3_; (try clear hb); (try clear hb2); (try clear hk); (try clear hi)))
 go_loopg [5,6,7] k (fun kq v5 v6 v7 w' => ∃ (x5_1 : List (List ByteArray)) (x6_1 : List ByteArray) (x7_1 : Int) (x1001_1 : Int) (x1002_1 : Int),v7 = .int .i64 x7_1 ∧ za (zt.l0 kq x5_1 x6_1 x7_1 s0_0 x1001_1 x1002_1 = some (r1,r2,r3)) ∧ za (kq ≤ k) ∧ za (Kd.S (Kd.slice 9 Kd.string) 22 w' w.heap.size (fun k_ => some k_ ≠ (v6 : Value).ownBlock) v5 x5_1) ∧ za (Kd.Q Kd.string 9 w' w.heap.size (fun _ => True) v6 x6_1) ∧ za (zk w0 w' g s0_0 x1001_1 x1002_1) ∧ za (zu w w' g none) ∧ za (Below w0.heap.size w0 w'))
 case atStart => exact ⟨(([] : List (List ByteArray))),(t302),(t307),(t308),(t309),qf,H',⟨Nat.le_refl _⟩,⟨by first | exact Kd.zc3 _ _ _ _ _ | exact Kd.zcX _ _ _ _ _ | exact Kd.zc0 _ _ _ _ _ | exact Kd.zc1 _ _ _ _ _ | exact Kd.zbP _ _ _ _ _⟩,⟨Kd.zfi (qp HO304.out)⟩,⟨by repeat (first | (with_reducible first | exact HI0.out | apply zk.alloc | apply zk.drewN | apply zk.drew | apply zk.zao | apply zk.zaq) | exact HI0.out)⟩,⟨by repeat (first | (with_reducible first | exact HK.out | apply zu.zaQ | apply zR | apply zW | apply zS) | exact HK.out)⟩,⟨by repeat (first | (with_reducible first | exact HB.out | apply ze | apply zb | apply zf | refine zi ?_ (zk.ge HI0.out)) | exact HB.out)⟩⟩
 case round =>
  clear H'
  try clear c2
  try clear p2
  try clear c3
  obtain ⟨x5_1,x6_1,x7_1,x1001_1,x1002_1,rfl,HA,HK1,HO_5,HO_6,HI0,HK,HB⟩ := hrel
  cases gk with
  | zero => exact absurd HA.out (by simp [zt.l0])
  | succ k1 =>
   have H := HA.out
   clear HA
   simp only [zt.l0] at H
   by_cases c7 : x7_1 > 0
   ·rw [if_pos c7] at H
    have c7b0 : decide (0 < x7_1) = true := decide_eq_true c7
    clear c7
    replace H := Option.bind_eq_some_iff.mp H
    obtain ⟨t310,A80,H⟩ := H
    replace H : (if x5_1.length < 5864062014805 then ((some (x5_1 ++ [t310] : List (List ByteArray))).bind fun y313 => ((zaC.f s0_0 x1001_1 x1002_1 4).bind fun bt316 => (if bt316.1 = true then ((zX.f k1 s0_0 bt316.2.1 bt316.2.2 4).bind fun bt319 => (zt.j1 k1 y313 bt319.1 x7_1 s0_0 bt319.2.1 bt319.2.2)) else (zt.j1 k1 y313 x6_1 x7_1 s0_0 bt316.2.1 bt316.2.2)))) else (none)) = some (r1,r2,r3) := H
    have A8 := za.mk A80
    clear A80
    by_cases c9 : x5_1.length < 5864062014805
    ·rw [if_pos c9] at H
     have LMc9 := za.mk c9
     clear c9
     obtain ⟨y313,hy313⟩ : ∃ y_ : List (List ByteArray),y_ = (x5_1 ++ [t310]) := ⟨_,rfl⟩
     replace H : ((zaC.f s0_0 x1001_1 x1002_1 4).bind fun bt316 => (if bt316.1 = true then ((zX.f k1 s0_0 bt316.2.1 bt316.2.2 4).bind fun bt319 => (zt.j1 k1 y313 bt319.1 x7_1 s0_0 bt319.2.1 bt319.2.2)) else (zt.j1 k1 y313 x6_1 x7_1 s0_0 bt316.2.1 bt316.2.2))) = some (r1,r2,r3) := by first | (rw [hy313]; with_reducible exact H) | (have H2_ := (Option.bind_some _ _).symm.trans H; rw [hy313]; with_reducible exact H2_) | (have H2_ := (Option.bind_some _ _).symm.trans H; with_reducible exact H2_) | with_reducible exact H | (rw [hy313]; exact H) | exact H
     have Ny313 := za.mk hy313
     clear hy313
     replace H := Option.bind_eq_some_iff.mp H
     obtain ⟨⟨t316,t317,t318⟩,A100,H⟩ := H
     replace H : (if t316 = true then ((zX.f k1 s0_0 t317 t318 4).bind fun bt319 => (zt.j1 k1 y313 bt319.1 x7_1 s0_0 bt319.2.1 bt319.2.2)) else (zt.j1 k1 y313 x6_1 x7_1 s0_0 t317 t318)) = some (r1,r2,r3) := H
     have A10 := za.mk A100
     clear A100
     have HC11 := za.mk H
     clear H
     obtain ⟨Ao12,co12,eo12,_⟩ := Kd.zc8 HO_6.out
     subst eo12
     go_upto_if 23 with (first | ((with_reducible refine zz (f := 21) rfl ?_); refine zT (some 19) rfl rfl Try.func21 qi rfl #[.slice Ao12 x6_1.length co12] rfl qa ?_; (with_reducible refine (zaD.calls _ _ x6_1 t310 _ ?side1 ?side2 A8.out).mono ?_); (case side1 => exact qK HO_6.out); (case side2 => exact (Kd.zds HO_6.out).2.1); rintro e w13 ⟨v311,rfl,ho0,hb⟩; refine ⟨_,rfl,?_⟩; have n0_ := za.mk (Kd.ze3 (qw HO_5.out) (Kd.zcU ho0) hb); have n1_ := za.mk (Kd.zf8 (qv HO_6.out) (Kd.zcU ho0) hb); have n2_ := za.mk (Kd.zaT (Kd.zfk ho0 (Kd.zgJ (qv HO_6.out))) (zci (w := w) (g := g) (row := none) (qg HK.out))); have n3_ := za.mk (zk.below (qh HI0.out) hb); have n4_ := za.mk (zu.trans (qg HK.out) (zu.of_below hb g none) (.inl rfl)); have n5_ := za.mk (zq (qm HB.out HI0.out) hb); clear HO_5; clear HO_6; clear HI0; clear HK; clear HB; have HO_5 := n0_; have HO_6 := n1_; have HO312 := n2_; have HI0 := n3_; have HK := n4_; have HB := n5_; clear n0_ n1_ n2_ n3_ n4_ n5_; (try clear hb); (try clear hb2); (try clear hk); (try clear hi); (try clear ho0); obtain ⟨Ao15,co15,eo15⟩ := Kd.zbr HO312.out; subst eo15) | ((with_reducible refine zbf (b := .append) (xs := #[.tmp 17, .tmp 20]) rfl ?_); at_builtin; refine Kd.zf6 (Kd.slice 9 Kd.string) w.heap.size rfl (.tmp 17) (.tmp 20) 29 22 (.slice none 0 0) 24 rfl Try.underlying29 zhn rfl qt qj u5 x5_1 t310 [.slice Ao15 t310.length co15] (fun k_ => some k_ ≠ (.slice Ao12 x6_1.length co12 : Value).ownBlock) (fun k_ => some k_ = (.slice Ao15 t310.length co15 : Value).ownBlock) rfl rfl ?aP (fun k_ hk_ => ((Kd.zaA (ok' := fun k_ => ((fun k_ => some k_ ≠ (.slice Ao12 x6_1.length co12 : Value).ownBlock)) k_ ∧ some k_ ≠ (u5 : Value).ownBlock) (Kd.ze8 (HO312.out) (Kd.zeP HO_5.out) qt) (fun k_ hk => ⟨hk.1.2,hk.2⟩))).1 k_ hk_.symm) ?aF ?aO (Below.refl _ _) ?aS ?aL ?_; (case aP => exact Kd.ziv (Kd.zaA (Kd.zfD rfl (Kd.zaA (ok' := fun k_ => ((fun k_ => some k_ ≠ (.slice Ao12 x6_1.length co12 : Value).ownBlock)) k_ ∧ some k_ ≠ (u5 : Value).ownBlock) (Kd.ze8 (HO312.out) (Kd.zeP HO_5.out) qt) (fun k_ hk => ⟨hk.1.2,hk.2⟩))) (fun _ h_ => h_))); (case aF => exact (fun k_ hk => Kd.fresh' (Kd.zgJ (qv HO_6.out)) k_ hk)); (case aO => exact (by (with_reducible repeat (first | apply Kd.zbd | apply Kd.zbc | apply Kd.zbm)); exact Kd.zbO HO_5.out (fun k_ hk => ⟨hk.1,fun e_ => hk.2 e_⟩))); (case aS => exact (zci (w := w) (g := g) (row := none) (qg HK.out))); (case aL => have := LMc9.out; omega); intro v314 w14 ho hb hg hat; rw [← Ny313.out] at ho; have n0_ := za.mk (Kd.zkF (qv HO_6.out) (Kd.zeP (qw HO_5.out)) qt hg); have n1_ := za.mk (zk.grown (qh HI0.out) hg (zk.zir HI0.out HO_5.out qt)); have n2_ := za.mk (zbU (qm HB.out HI0.out) HL.out hb); have n3_ := za.mk (zu.trans (qg HK.out) (zu.zdf hg g) (Kd.zkz HO_5.out)); have n4_ := za.mk (ho); clear HO_6; clear HI0; clear HB; clear HK; clear HO_5; clear HO312; have HO_6 := n0_; have HI0 := n1_; have HB := n2_; have HK := n3_; have HO315 := n4_; clear n0_ n1_ n2_ n3_ n4_; clear ho hb hg hat) | ((with_reducible refine zz (f := 49) rfl ?_); refine zT (some 23) rfl rfl Try.func49 qi rfl #[.pointer (some ⟨g,0,none⟩), .int .i64 4] rfl qa ?_; (with_reducible refine (zaC.calls g s0_0 x1001_1 x1002_1 4 t316 t317 t318 w0 _ ?side1 ?side2 A10.out).mono ?_); (case side1 => exact qh HI0.out); (case side2 => exact qm HB.out HI0.out); rintro e w16 ⟨rfl,hi,hb,hk⟩; refine ⟨_,rfl,?_⟩; have n0_ := za.mk (Kd.zcu (Kd.zd6 (zk.zdY (show zk w0 _ g s0_0 x1001_1 x1002_1 from by repeat (first | (with_reducible first | exact HI0.out | apply zk.alloc | apply zk.drewN | apply zk.drew | apply zk.zao | apply zk.zaq) | exact HI0.out)) (qv HO_6.out) qt) hk (fun _ h => h.2)) (fun _ h => h.1)); have n1_ := za.mk (Kd.zbO (Kd.zdC (zk.zdZ (show zk w0 _ g s0_0 x1001_1 x1002_1 from by repeat (first | (with_reducible first | exact HI0.out | apply zk.alloc | apply zk.drewN | apply zk.drew | apply zk.zao | apply zk.zaq) | exact HI0.out)) (qw HO315.out) qt) hk (fun _ h => h.2)) (fun _ h => h.1)); have n2_ := za.mk (zu.trans (qg HK.out) hk (.inl rfl)); have n3_ := za.mk (hb); have n4_ := za.mk (hi); clear HO_6; clear HO315; clear HK; clear HB; clear HI0; have HO_6 := n0_; have HO315 := n1_; have HK := n2_; have HB := n3_; have HI0 := n4_; clear n0_ n1_ n2_ n3_ n4_; (try clear hb); (try clear hb2); (try clear hk); (try clear hi)))
     (try simp only [Act.put,List.setIfInBounds_toArray,List.set_cons_zero,List.set_cons_succ])
     go_cut [6] (fun v6 wc => ∃ (kq : Nat) (x6_10 : List ByteArray) (x1001_10 : Int) (x1002_10 : Int),za (zt.j1 kq y313 x6_10 x7_1 s0_0 x1001_10 x1002_10 = some (r1,r2,r3)) ∧ za (kq ≤ k1) ∧ za (Kd.S (Kd.slice 9 Kd.string) 22 wc w.heap.size (fun k_ => some k_ ≠ (v6 : Value).ownBlock) v314 y313) ∧ za (Kd.Q Kd.string 9 wc w.heap.size (fun _ => True) v6 x6_10) ∧ za (zk w0 wc g s0_0 x1001_10 x1002_10) ∧ za (zu w wc g none) ∧ za (Below w0.heap.size w0 wc))
     case first =>
      have H := HC11.out
      clear HC11
      by_cases c17 : t316 = true
      ·subst c17
       have H1 : ((zX.f k1 s0_0 t317 t318 4).bind fun bt319 => (zt.j1 k1 y313 bt319.1 x7_1 s0_0 bt319.2.1 bt319.2.2)) = some (r1,r2,r3) := by rw [if_pos rfl] at H; exact H
       clear H
       have H := H1
       clear H1
       replace H := Option.bind_eq_some_iff.mp H
       obtain ⟨⟨t319,t322,t323⟩,A180,H⟩ := H
       replace H : (zt.j1 k1 y313 t319 x7_1 s0_0 t322 t323) = some (r1,r2,r3) := H
       have A18 := za.mk A180
       clear A180
       have H' := za.mk H
       clear H
       go_wp2_with (first | ((with_reducible refine zz (f := 20) rfl ?_); refine zT (some 25) rfl rfl Try.func20 qi rfl #[.pointer (some ⟨g,0,none⟩), .int .i64 4] rfl qa ?_; (with_reducible refine (zX.calls k1 g s0_0 t317 t318 4 t319 t322 t323 w0 _ ?side1 ?side2 A18.out).mono ?_); (case side1 => exact qh HI0.out); (case side2 => exact qm HB.out HI0.out); rintro e w19 ⟨v320,rfl,ho0,hi,hb,hk⟩; refine ⟨_,rfl,?_⟩; have n0_ := za.mk (Kd.zcu (Kd.zkS (Kd.zk0 (zk.zdY (show zk w0 _ g s0_0 t317 t318 from by repeat (first | (with_reducible first | exact HI0.out | apply zk.alloc | apply zk.drewN | apply zk.drew | apply zk.zao | apply zk.zaq) | exact HI0.out)) (qv HO_6.out) qt) hk) (Kd.zcU ho0)) (fun _ h_ => h_.1)); have n1_ := za.mk (Kd.zbO (Kd.zld (Kd.zk9 (zk.zdZ (show zk w0 _ g s0_0 t317 t318 from by repeat (first | (with_reducible first | exact HI0.out | apply zk.alloc | apply zk.drewN | apply zk.drew | apply zk.zao | apply zk.zaq) | exact HI0.out)) (qw HO315.out) qt) hk) (Kd.zcU ho0)) (fun _ h_ => h_.1)); have n2_ := za.mk (Kd.zaT (Kd.zfk ho0 (Kd.zgJ (qv HO_6.out))) (zci (w := w) (g := g) (row := none) (qg HK.out))); have n3_ := za.mk (zu.trans (qg HK.out) hk (.inl rfl)); have n4_ := za.mk (hb); have n5_ := za.mk (hi); clear HO_6; clear HO315; clear HK; clear HB; clear HI0; have HO_6 := n0_; have HO315 := n1_; have HO321 := n2_; have HK := n3_; have HB := n4_; have HI0 := n5_; clear n0_ n1_ n2_ n3_ n4_ n5_; (try clear hb); (try clear hb2); (try clear hk); (try clear hi); (try clear ho0)))
       go_meet
       case rel => exact ⟨_,(t319),(t322),(t323),H',⟨by have := HK1.out; first | omega | exact Nat.le_refl _⟩,⟨by (with_reducible repeat (first | apply Kd.zbd | apply Kd.zbc | apply Kd.zbm)); exact Kd.zbO HO315.out (fun _ hk => hk.2)⟩,⟨Kd.zfi (qP HO321.out)⟩,⟨by repeat (first | (with_reducible first | exact HI0.out | apply zk.alloc | apply zk.drewN | apply zk.drew | apply zk.zao | apply zk.zaq) | exact HI0.out)⟩,⟨by repeat (first | (with_reducible first | exact HK.out | apply zu.zaQ | apply zR | apply zW | apply zS) | exact HK.out)⟩,⟨by repeat (first | (with_reducible first | exact HB.out | apply ze | apply zb | apply zf | refine zi ?_ (zk.ge HI0.out)) | exact HB.out)⟩⟩
      ·replace c17 := Bool.eq_false_iff.mpr c17
       subst c17
       have H1 : (zt.j1 k1 y313 x6_1 x7_1 s0_0 t317 t318) = some (r1,r2,r3) := by rw [if_neg (show ¬ (false = true) by decide)] at H; exact H
       clear H
       have H := H1
       clear H1
       have H' := za.mk H
       clear H
       go_wp2
       go_meet
       case rel => exact ⟨_,(x6_1),(t317),(t318),H',⟨by have := HK1.out; first | omega | exact Nat.le_refl _⟩,⟨by (with_reducible repeat (first | apply Kd.zbd | apply Kd.zbc | apply Kd.zbm)); exact HO315.out⟩,⟨by (with_reducible repeat (first | apply Kd.zbh | apply Kd.zbi | apply Kd.zbu)); exact Kd.zcu HO_6.out (fun _ hk => trivial)⟩,⟨by repeat (first | (with_reducible first | exact HI0.out | apply zk.alloc | apply zk.drewN | apply zk.drew | apply zk.zao | apply zk.zaq) | exact HI0.out)⟩,⟨by repeat (first | (with_reducible first | exact HK.out | apply zu.zaQ | apply zR | apply zW | apply zS) | exact HK.out)⟩,⟨by repeat (first | (with_reducible first | exact HB.out | apply ze | apply zb | apply zf | refine zi ?_ (zk.ge HI0.out)) | exact HB.out)⟩⟩
     case rest =>
      clear HC11
      try clear c1
      try clear c2
      try clear p2
      try clear c3
      try clear c4
      try clear c7
      try clear c7b0
      try clear c9
      try clear c17
      try clear p2
      obtain ⟨kq,x6_10,x1001_10,x1002_10,HA,HJ10,HO_5,HO_6,HI0,HK,HB⟩ := hcut
      cases kq with
      | zero => exact absurd HA.out (by simp [zt.j1])
      | succ kj10 =>
       have H := HA.out
       clear HA
       simp only [zt.j1] at H
       have HC20 := za.mk H
       clear H
       go_upto_region 9 with (fail)
       go_cut [32] (fun v32 wc => ∃ (kq : Nat) (x32_19 : Bool) (x1001_19 : Int) (x1002_19 : Int),v32 = .bool x32_19 ∧ za (zt.j2 kq y313 x6_10 x7_1 x32_19 s0_0 x1001_19 x1002_19 = some (r1,r2,r3)) ∧ za (kq ≤ kj10) ∧ za (Kd.S (Kd.slice 9 Kd.string) 22 wc w.heap.size (fun k_ => some k_ ≠ (u6 : Value).ownBlock) v314 y313) ∧ za (Kd.Q Kd.string 9 wc w.heap.size (fun _ => True) u6 x6_10) ∧ za (zk w0 wc g s0_0 x1001_19 x1002_19) ∧ za (zu w wc g none) ∧ za (Below w0.heap.size w0 wc))
       case first =>
        have H := HC20.out
        clear HC20
        by_cases c21 : (x6_10.length : Int) > 0
        ·rw [if_pos c21] at H
         have c21b0 : decide (0 < (x6_10.length : Int)) = true := decide_eq_true c21
         have c21b1 : decide (0 < x6_10.length) = true := decide_eq_true qj
         clear c21
         (first | rw [c21b0] | (simp only [zad,zaf]; rw [c21b0]) | skip)
         replace H := Option.bind_eq_some_iff.mp H
         obtain ⟨⟨t324,t325,t326⟩,A220,H⟩ := H
         replace H : (zt.j2 kj10 y313 x6_10 x7_1 t324 s0_0 t325 t326) = some (r1,r2,r3) := H
         have A22 := za.mk A220
         clear A220
         have H' := za.mk H
         clear H
         obtain ⟨Ao23,co23,eo23,_⟩ := Kd.zc8 HO_6.out
         subst eo23
         go_wp2_with (first | (go_at_call 49; (with_reducible refine (zaC.calls g s0_0 x1001_10 x1002_10 2 t324 t325 t326 w0 _ ?side1 ?side2 A22.out).mono ?_); (case side1 => exact qh HI0.out); (case side2 => exact qm HB.out HI0.out); rintro e w24 ⟨rfl,hi,hb,hk⟩; have n0_ := za.mk (Kd.zbO (Kd.zdC (zk.zdZ (show zk w0 _ g s0_0 x1001_10 x1002_10 from by repeat (first | (with_reducible first | exact HI0.out | apply zk.alloc | apply zk.drewN | apply zk.drew | apply zk.zao | apply zk.zaq) | exact HI0.out)) (qw HO_5.out) qt) hk (fun _ h => h.2)) (fun _ h => h.1)); have n1_ := za.mk (Kd.zcu (Kd.zd6 (zk.zdY (show zk w0 _ g s0_0 x1001_10 x1002_10 from by repeat (first | (with_reducible first | exact HI0.out | apply zk.alloc | apply zk.drewN | apply zk.drew | apply zk.zao | apply zk.zaq) | exact HI0.out)) (qv HO_6.out) qt) hk (fun _ h => h.2)) (fun _ h => h.1)); have n2_ := za.mk (zu.trans (qg HK.out) hk (.inl rfl)); have n3_ := za.mk (hb); have n4_ := za.mk (hi); clear HO_5; clear HO_6; clear HK; clear HB; clear HI0; have HO_5 := n0_; have HO_6 := n1_; have HK := n2_; have HB := n3_; have HI0 := n4_; clear n0_ n1_ n2_ n3_ n4_; (try clear hb); (try clear hb2); (try clear hk); (try clear hi)))
         go_meet
         case rel => exact ⟨_,(t324),(t325),(t326),qf,H',⟨by have := HK1.out; have := HJ10.out; first | omega | exact Nat.le_refl _⟩,⟨by (with_reducible repeat (first | apply Kd.zbd | apply Kd.zbc | apply Kd.zbm)); exact HO_5.out⟩,⟨by (with_reducible repeat (first | apply Kd.zbh | apply Kd.zbi | apply Kd.zbu)); exact HO_6.out⟩,⟨by repeat (first | (with_reducible first | exact HI0.out | apply zk.alloc | apply zk.drewN | apply zk.drew | apply zk.zao | apply zk.zaq) | exact HI0.out)⟩,⟨by repeat (first | (with_reducible first | exact HK.out | apply zu.zaQ | apply zR | apply zW | apply zS) | exact HK.out)⟩,⟨by repeat (first | (with_reducible first | exact HB.out | apply ze | apply zb | apply zf | refine zi ?_ (zk.ge HI0.out)) | exact HB.out)⟩⟩
        ·rw [if_neg c21] at H
         have c21b0 : decide (0 < (x6_10.length : Int)) = false := decide_eq_false c21
         have c21b1 : decide (0 < x6_10.length) = false := decide_eq_false qj
         clear c21
         (first | rw [c21b0] | (simp only [zad,zaf]; rw [c21b0]) | skip)
         have H' := za.mk H
         clear H
         obtain ⟨Ao25,co25,eo25,_⟩ := Kd.zc8 HO_6.out
         subst eo25
         go_wp2
         go_meet
         case rel => exact ⟨_,(false),(x1001_10),(x1002_10),qf,H',⟨by have := HK1.out; have := HJ10.out; first | omega | exact Nat.le_refl _⟩,⟨by (with_reducible repeat (first | apply Kd.zbd | apply Kd.zbc | apply Kd.zbm)); exact HO_5.out⟩,⟨by (with_reducible repeat (first | apply Kd.zbh | apply Kd.zbi | apply Kd.zbu)); exact HO_6.out⟩,⟨by repeat (first | (with_reducible first | exact HI0.out | apply zk.alloc | apply zk.drewN | apply zk.drew | apply zk.zao | apply zk.zaq) | exact HI0.out)⟩,⟨by repeat (first | (with_reducible first | exact HK.out | apply zu.zaQ | apply zR | apply zW | apply zS) | exact HK.out)⟩,⟨by repeat (first | (with_reducible first | exact HB.out | apply ze | apply zb | apply zf | refine zi ?_ (zk.ge HI0.out)) | exact HB.out)⟩⟩
       case rest =>
        clear HC20
        try clear c1
        try clear c2
        try clear p2
        try clear c3
        try clear c4
        try clear c7
        try clear c7b0
        try clear c9
        try clear c17
        try clear c20
        try clear c21
        try clear c21b0
        try clear c21b1
        try clear p2
        obtain ⟨kq,x32_19,x1001_19,x1002_19,rfl,HA,HJ19,HO_5,HO_6,HI0,HK,HB⟩ := hcut
        cases kq with
        | zero => exact absurd HA.out (by simp [zt.j2])
        | succ kj19 =>
         have H := HA.out
         clear HA
         simp only [zt.j2] at H
         have HC26 := za.mk H
         clear H
         go_upto_if 32 with (fail)
         go_cut [6] (fun v6 wc => ∃ (kq : Nat) (x6_25 : List ByteArray) (x1001_25 : Int) (x1002_25 : Int),za (zt.j3 kq y313 x6_25 x7_1 s0_0 x1001_25 x1002_25 = some (r1,r2,r3)) ∧ za (kq ≤ kj19) ∧ za (Kd.S (Kd.slice 9 Kd.string) 22 wc w.heap.size (fun k_ => some k_ ≠ (v6 : Value).ownBlock) v314 y313) ∧ za (Kd.Q Kd.string 9 wc w.heap.size (fun _ => True) v6 x6_25) ∧ za (zk w0 wc g s0_0 x1001_25 x1002_25) ∧ za (zu w wc g none) ∧ za (Below w0.heap.size w0 wc))
         case first =>
          have H := HC26.out
          clear HC26
          by_cases c27 : x32_19 = true
          ·subst c27
           have H1 : ((zaD.f x6_10).bind fun t327 => ((zak.f s0_0 x1001_19 x1002_19 (wrap64 ((t327.length : Int) - 1))).bind fun bt330 => ((zat.f s0_0 bt330.2.1 bt330.2.2).bind fun bt333 => (if 0 ≤ bt330.1 then (if bt330.1 < (t327.length : Int) then (zt.j3 kj19 y313 (t327.set (bt330.1 : Int).toNat bt333.1) x7_1 s0_0 bt333.2.1 bt333.2.2) else (none)) else (none))))) = some (r1,r2,r3) := by rw [if_pos rfl] at H; exact H
           clear H
           have H := H1
           clear H1
           replace H := Option.bind_eq_some_iff.mp H
           obtain ⟨t327,A280,H⟩ := H
           replace H : ((zak.f s0_0 x1001_19 x1002_19 (wrap64 ((t327.length : Int) - 1))).bind fun bt330 => ((zat.f s0_0 bt330.2.1 bt330.2.2).bind fun bt333 => (if 0 ≤ bt330.1 then (if bt330.1 < (t327.length : Int) then (zt.j3 kj19 y313 (t327.set (bt330.1 : Int).toNat bt333.1) x7_1 s0_0 bt333.2.1 bt333.2.2) else (none)) else (none)))) = some (r1,r2,r3) := H
           have A28 := za.mk A280
           clear A280
           replace H := Option.bind_eq_some_iff.mp H
           obtain ⟨⟨t330,t331,t332⟩,A290,H⟩ := H
           replace H : ((zat.f s0_0 t331 t332).bind fun bt333 => (if 0 ≤ t330 then (if t330 < (t327.length : Int) then (zt.j3 kj19 y313 (t327.set (t330 : Int).toNat bt333.1) x7_1 s0_0 bt333.2.1 bt333.2.2) else (none)) else (none))) = some (r1,r2,r3) := H
           have A29 := za.mk A290
           clear A290
           replace H := Option.bind_eq_some_iff.mp H
           obtain ⟨⟨t333,t334,t335⟩,A300,H⟩ := H
           replace H : (if 0 ≤ t330 then (if t330 < (t327.length : Int) then (zt.j3 kj19 y313 (t327.set (t330 : Int).toNat t333) x7_1 s0_0 t334 t335) else (none)) else (none)) = some (r1,r2,r3) := H
           have A30 := za.mk A300
           clear A300
           by_cases c31 : 0 ≤ t330
           ·rw [if_pos c31] at H
            have c31b0 : decide (0 ≤ t330) = true := decide_eq_true c31
            clear c31
            (first | rw [c31b0] | (simp only [zad,zaf]; rw [c31b0]) | skip)
            by_cases c32 : t330 < (t327.length : Int)
            ·rw [if_pos c32] at H
             have c32b0 : decide (t330 < (t327.length : Int)) = true := decide_eq_true c32
             clear c32
             obtain ⟨y336,hy336⟩ : ∃ y_ : List ByteArray,y_ = (t327.set (t330 : Int).toNat t333) := ⟨_,rfl⟩
             replace H : (zt.j3 kj19 y313 y336 x7_1 s0_0 t334 t335) = some (r1,r2,r3) := by first | (rw [hy336]; with_reducible exact H) | (have H2_ := (Option.bind_some _ _).symm.trans H; rw [hy336]; with_reducible exact H2_) | (have H2_ := (Option.bind_some _ _).symm.trans H; with_reducible exact H2_) | with_reducible exact H | (rw [hy336]; exact H) | exact H
             have Ny336 := za.mk hy336
             clear hy336
             have H' := za.mk H
             clear H
             obtain ⟨Ao34,co34,eo34,_⟩ := Kd.zc8 HO_6.out
             subst eo34
             go_wp2_with (first | ((with_reducible refine zz (f := 21) rfl ?_); refine zT (some 34) rfl rfl Try.func21 qi rfl #[.slice Ao34 x6_10.length co34] rfl qa ?_; (with_reducible refine (zaD.calls _ _ x6_10 t327 _ ?side1 ?side2 A28.out).mono ?_); (case side1 => exact qK HO_6.out); (case side2 => exact (Kd.zds HO_6.out).2.1); rintro e w35 ⟨v328,rfl,ho0,hb⟩; refine ⟨_,rfl,?_⟩; have n0_ := za.mk (Kd.ze3 (qw HO_5.out) (Kd.zcU ho0) hb); have n1_ := za.mk (Kd.zf8 (qv HO_6.out) (Kd.zcU ho0) hb); have n2_ := za.mk (Kd.zaT (Kd.zfk ho0 (Kd.zgJ (qv HO_6.out))) (zci (w := w) (g := g) (row := none) (qg HK.out))); have n3_ := za.mk (zk.below (qh HI0.out) hb); have n4_ := za.mk (zu.trans (qg HK.out) (zu.of_below hb g none) (.inl rfl)); have n5_ := za.mk (zq (qm HB.out HI0.out) hb); clear HO_5; clear HO_6; clear HI0; clear HK; clear HB; have HO_5 := n0_; have HO_6 := n1_; have HO329 := n2_; have HI0 := n3_; have HK := n4_; have HB := n5_; clear n0_ n1_ n2_ n3_ n4_ n5_; (try clear hb); (try clear hb2); (try clear hk); (try clear hi); (try clear ho0); obtain ⟨Ao36,co36,eo36⟩ := Kd.zbr HO329.out; subst eo36) | ((with_reducible refine zz (f := 28) rfl ?_); refine zT (some 40) rfl rfl Try.func28 qi rfl #[.pointer (some ⟨g,0,none⟩), .int .i64 (wrap64 ((t327.length : Int) - 1))] rfl qa ?_; (with_reducible refine (zak.calls g s0_0 x1001_19 x1002_19 (wrap64 ((t327.length : Int) - 1)) t330 t331 t332 w0 _ ?side1 ?side2 A29.out).mono ?_); (case side1 => exact qh HI0.out); (case side2 => exact qm HB.out HI0.out); rintro e w37 ⟨rfl,hi,hb,hk⟩; refine ⟨_,rfl,?_⟩; have n0_ := za.mk (Kd.zbO (Kd.zdC (zk.zdZ (show zk w0 _ g s0_0 x1001_19 x1002_19 from by repeat (first | (with_reducible first | exact HI0.out | apply zk.alloc | apply zk.drewN | apply zk.drew | apply zk.zao | apply zk.zaq) | exact HI0.out)) (qw HO_5.out) qt) hk (fun _ h => h.2)) (fun _ h => h.1)); have n1_ := za.mk (Kd.zcu (Kd.zd6 (zk.zdY (show zk w0 _ g s0_0 x1001_19 x1002_19 from by repeat (first | (with_reducible first | exact HI0.out | apply zk.alloc | apply zk.drewN | apply zk.drew | apply zk.zao | apply zk.zaq) | exact HI0.out)) (qv HO_6.out) qt) hk (fun _ h => h.2)) (fun _ h => h.1)); have n2_ := za.mk (Kd.zaA (Kd.zcf (zk.apart (show zk w0 _ g s0_0 x1001_19 x1002_19 from by repeat (first | (with_reducible first | exact HI0.out | apply zk.alloc | apply zk.drewN | apply zk.drew | apply zk.zao | apply zk.zaq) | exact HI0.out)) (qp HO329.out) qt) hk (fun _ h => h.2)) (fun _ h => h.1)); have n3_ := za.mk (zu.trans (qg HK.out) hk (.inl rfl)); have n4_ := za.mk (hb); have n5_ := za.mk (hi); clear HO_5; clear HO_6; clear HO329; clear HK; clear HB; clear HI0; have HO_5 := n0_; have HO_6 := n1_; have HO329 := n2_; have HK := n3_; have HB := n4_; have HI0 := n5_; clear n0_ n1_ n2_ n3_ n4_ n5_; (try clear hb); (try clear hb2); (try clear hk); (try clear hi)) | ((with_reducible refine zz (f := 35) rfl ?_); refine zT (some 42) rfl rfl Try.func35 qi rfl #[.pointer (some ⟨g,0,none⟩)] rfl qa ?_; (with_reducible refine (zat.calls g s0_0 t331 t332 t333 t334 t335 w0 _ ?side1 ?side2 A30.out).mono ?_); (case side1 => exact qh HI0.out); (case side2 => exact qm HB.out HI0.out); rintro e w38 ⟨rfl,hi,hb,hk⟩; refine ⟨_,rfl,?_⟩; have n0_ := za.mk (Kd.zbO (Kd.zdC (zk.zdZ (show zk w0 _ g s0_0 t331 t332 from by repeat (first | (with_reducible first | exact HI0.out | apply zk.alloc | apply zk.drewN | apply zk.drew | apply zk.zao | apply zk.zaq) | exact HI0.out)) (qw HO_5.out) qt) hk (fun _ h => h.2)) (fun _ h => h.1)); have n1_ := za.mk (Kd.zcu (Kd.zd6 (zk.zdY (show zk w0 _ g s0_0 t331 t332 from by repeat (first | (with_reducible first | exact HI0.out | apply zk.alloc | apply zk.drewN | apply zk.drew | apply zk.zao | apply zk.zaq) | exact HI0.out)) (qv HO_6.out) qt) hk (fun _ h => h.2)) (fun _ h => h.1)); have n2_ := za.mk (Kd.zaA (Kd.zcf (zk.apart (show zk w0 _ g s0_0 t331 t332 from by repeat (first | (with_reducible first | exact HI0.out | apply zk.alloc | apply zk.drewN | apply zk.drew | apply zk.zao | apply zk.zaq) | exact HI0.out)) (qp HO329.out) qt) hk (fun _ h => h.2)) (fun _ h => h.1)); have n3_ := za.mk (zu.trans (qg HK.out) hk (.inl rfl)); have n4_ := za.mk (hb); have n5_ := za.mk (hi); clear HO_5; clear HO_6; clear HO329; clear HK; clear HB; clear HI0; have HO_5 := n0_; have HO_6 := n1_; have HO329 := n2_; have HK := n3_; have HB := n4_; have HI0 := n5_; clear n0_ n1_ n2_ n3_ n4_ n5_; (try clear hb); (try clear hb2); (try clear hk); (try clear hi); have p33 : 0 ≤ (t330 : Int) := of_decide_eq_true qd; have q33 : (t330 : Int) < ((t327.length : Int) : Int) := of_decide_eq_true qd; obtain ⟨go33,co33,eo33,gb33,gl33,cl33,HG33⟩ := Kd.zjm HO329.out qj; (first | cases eo33 | (injection eo33 with ea_ en_ ec_; (first | subst ea_ | (injection ea_ with ea_; subst ea_)); subst ec_; clear en_)); have GB33 := za.mk gb33; have GG33 := za.mk HG33; clear gb33 gl33 HG33; obtain ⟨hx33_0,hf33_0⟩ := Kd.zgK (⟨#[]⟩ : ByteArray) HO329.out (t330 : Int) p33 q33; replace p33 := eq_true p33; replace q33 := eq_true q33; have n_ := za.mk (Kd.zaA (ok' := (fun k_ => some k_ ≠ (.slice Ao34 x6_10.length co34 : Value).ownBlock)) HO329.out (fun k_ hk => hk.2)); clear HO329; have HO329 := n_; clear n_; obtain ⟨hy39_,hz39_⟩ := Kd.zgK (⟨#[]⟩ : ByteArray) HO329.out (t330 : Int) (of_decide_eq_true qd) (of_decide_eq_true qd); have HP39 := Kd.zi7 HO329.out (t330 : Int) t333) | ((with_reducible refine ziW (t := 9) (p := 43) rfl ?_); refine zh3 (t := 9) (p := 43) (v := ?vo_w40) (w1 := (w38.setCell ⟨go33,(t330 : Int).toNat,none⟩ (.string t333))) ?hg ?ho ?hn ?hr ?_; (case ho => rfl); (case hg => rfl); (case hn => rfl); (case hr => exact qq); intro w40 hw; have hg : w38.grownBy w40 (some go33) := (by rw [hw]; exact HP39.2); have hp_ : Kd.R Kd.string 9 w40 w.heap.size (fun k_ => some k_ ≠ (.slice Ao34 x6_10.length co34 : Value).ownBlock) (.slice (some ⟨go33,0,none⟩) t327.length co36) y336 := (by rw [hw,Ny336.out]; exact HP39.1); clear HP39; have n0_ := za.mk (Kd.zif (v := (.slice (some ⟨go33,0,none⟩) t327.length co36)) (v1 := (.slice (some ⟨go33,0,none⟩) t327.length co36)) (ok := (fun k_ => some k_ ≠ (.slice Ao34 x6_10.length co34 : Value).ownBlock)) (qw HO_5.out) hg (.inl rfl)); have n1_ := za.mk (Kd.zil (v := (.slice (some ⟨go33,0,none⟩) t327.length co36)) (v1 := (.slice (some ⟨go33,0,none⟩) t327.length co36)) (ok := (fun _ => True)) (qv HO_6.out) hg (.inl rfl)); have n2_ := za.mk (zk.grown (qh HI0.out) hg (zk.own_ne HI0.out HO329.out qt)); have n3_ := za.mk (hp_); have n4_ := za.mk ((by rw [hw]; exact zi (HB.out) (Nat.le_trans HL.out GB33.out) : Below w0.heap.size w0 w40)); have n5_ := za.mk (zu.trans (qg HK.out) (zu.zdf hg g) (Kd.zdQ HO329.out)); clear HO_5; clear HO_6; clear HI0; clear HO329; clear HB; clear HK; have HO_5 := n0_; have HO_6 := n1_; have HI0 := n2_; have HO329 := n3_; have HB := n4_; have HK := n5_; clear n0_ n1_ n2_ n3_ n4_ n5_; clear hg hw hp_))
             go_meet
             case rel => exact ⟨_,(y336),(t334),(t335),H',⟨by have := HK1.out; have := HJ10.out; have := HJ19.out; first | omega | exact Nat.le_refl _⟩,⟨by (with_reducible repeat (first | apply Kd.zbd | apply Kd.zbc | apply Kd.zbm)); exact Kd.zbO HO_5.out (fun _ hk => hk.2)⟩,⟨Kd.zfi (qP HO329.out)⟩,⟨by repeat (first | (with_reducible first | exact HI0.out | apply zk.alloc | apply zk.drewN | apply zk.drew | apply zk.zao | apply zk.zaq) | exact HI0.out)⟩,⟨by repeat (first | (with_reducible first | exact HK.out | apply zu.zaQ | apply zR | apply zW | apply zS) | exact HK.out)⟩,⟨by repeat (first | (with_reducible first | exact HB.out | apply ze | apply zb | apply zf | refine zi ?_ (zk.ge HI0.out)) | exact HB.out)⟩⟩
            ·rw [if_neg c32] at H
             exact absurd H qz
           ·rw [if_neg c31] at H
            exact absurd H qz
          ·replace c27 := Bool.eq_false_iff.mpr c27
           subst c27
           have H1 : (zt.j3 kj19 y313 x6_10 x7_1 s0_0 x1001_19 x1002_19) = some (r1,r2,r3) := by rw [if_neg (show ¬ (false = true) by decide)] at H; exact H
           clear H
           have H := H1
           clear H1
           have H' := za.mk H
           clear H
           go_wp2
           go_meet
           case rel => exact ⟨_,(x6_10),(x1001_19),(x1002_19),H',⟨by have := HK1.out; have := HJ10.out; have := HJ19.out; first | omega | exact Nat.le_refl _⟩,⟨by (with_reducible repeat (first | apply Kd.zbd | apply Kd.zbc | apply Kd.zbm)); exact HO_5.out⟩,⟨by (with_reducible repeat (first | apply Kd.zbh | apply Kd.zbi | apply Kd.zbu)); exact HO_6.out⟩,⟨by repeat (first | (with_reducible first | exact HI0.out | apply zk.alloc | apply zk.drewN | apply zk.drew | apply zk.zao | apply zk.zaq) | exact HI0.out)⟩,⟨by repeat (first | (with_reducible first | exact HK.out | apply zu.zaQ | apply zR | apply zW | apply zS) | exact HK.out)⟩,⟨by repeat (first | (with_reducible first | exact HB.out | apply ze | apply zb | apply zf | refine zi ?_ (zk.ge HI0.out)) | exact HB.out)⟩⟩
         case rest =>
          clear HC26
          try clear c1
          try clear c2
          try clear p2
          try clear c3
          try clear p3
          try clear q3
          try clear hx3
          try clear hf3
          try clear c4
          try clear p6
          try clear c7
          try clear c7b0
          try clear c9
          try clear c17
          try clear c20
          try clear c21
          try clear c21b0
          try clear c21b1
          try clear c27
          try clear c28
          try clear c31
          try clear c31b0
          try clear c32
          try clear c32b0
          try clear c33
          try clear p33
          try clear q33
          try clear hx33
          try clear hf33
          try clear c35
          try clear hx33_0
          try clear p2
          try clear p33
          try clear q33
          obtain ⟨kq,x6_25,x1001_25,x1002_25,HA,HJ25,HO_5,HO_6,HI0,HK,HB⟩ := hcut
          cases kq with
          | zero => exact absurd HA.out (by simp [zt.j3])
          | succ kj25 =>
           have H := HA.out
           clear HA
           simp only [zt.j3] at H
           have HC41 := za.mk H
           clear H
           go_upto_region 12 with (fail)
           go_cut [50] (fun v50 wc => ∃ (kq : Nat) (x50_40 : Bool) (x1001_40 : Int) (x1002_40 : Int),v50 = .bool x50_40 ∧ za (zt.j4 kq y313 x6_25 x7_1 x50_40 s0_0 x1001_40 x1002_40 = some (r1,r2,r3)) ∧ za (kq ≤ kj25) ∧ za (Kd.S (Kd.slice 9 Kd.string) 22 wc w.heap.size (fun k_ => some k_ ≠ (u6 : Value).ownBlock) v314 y313) ∧ za (Kd.Q Kd.string 9 wc w.heap.size (fun _ => True) u6 x6_25) ∧ za (zk w0 wc g s0_0 x1001_40 x1002_40) ∧ za (zu w wc g none) ∧ za (Below w0.heap.size w0 wc))
           case first =>
            have H := HC41.out
            clear HC41
            by_cases c42 : (x6_25.length : Int) > 0
            ·rw [if_pos c42] at H
             have c42b0 : decide (0 < (x6_25.length : Int)) = true := decide_eq_true c42
             have c42b1 : decide (0 < x6_25.length) = true := decide_eq_true qj
             clear c42
             (first | rw [c42b0] | (simp only [zad,zaf]; rw [c42b0]) | skip)
             replace H := Option.bind_eq_some_iff.mp H
             obtain ⟨⟨t337,t338,t339⟩,A430,H⟩ := H
             replace H : (zt.j4 kj25 y313 x6_25 x7_1 t337 s0_0 t338 t339) = some (r1,r2,r3) := H
             have A43 := za.mk A430
             clear A430
             have H' := za.mk H
             clear H
             obtain ⟨Ao44,co44,eo44,_⟩ := Kd.zc8 HO_6.out
             subst eo44
             go_wp2_with (first | (go_at_call 49; (with_reducible refine (zaC.calls g s0_0 x1001_25 x1002_25 3 t337 t338 t339 w0 _ ?side1 ?side2 A43.out).mono ?_); (case side1 => exact qh HI0.out); (case side2 => exact qm HB.out HI0.out); rintro e w45 ⟨rfl,hi,hb,hk⟩; have n0_ := za.mk (Kd.zbO (Kd.zdC (zk.zdZ (show zk w0 _ g s0_0 x1001_25 x1002_25 from by repeat (first | (with_reducible first | exact HI0.out | apply zk.alloc | apply zk.drewN | apply zk.drew | apply zk.zao | apply zk.zaq) | exact HI0.out)) (qw HO_5.out) qt) hk (fun _ h => h.2)) (fun _ h => h.1)); have n1_ := za.mk (Kd.zcu (Kd.zd6 (zk.zdY (show zk w0 _ g s0_0 x1001_25 x1002_25 from by repeat (first | (with_reducible first | exact HI0.out | apply zk.alloc | apply zk.drewN | apply zk.drew | apply zk.zao | apply zk.zaq) | exact HI0.out)) (qv HO_6.out) qt) hk (fun _ h => h.2)) (fun _ h => h.1)); have n2_ := za.mk (zu.trans (qg HK.out) hk (.inl rfl)); have n3_ := za.mk (hb); have n4_ := za.mk (hi); clear HO_5; clear HO_6; clear HK; clear HB; clear HI0; have HO_5 := n0_; have HO_6 := n1_; have HK := n2_; have HB := n3_; have HI0 := n4_; clear n0_ n1_ n2_ n3_ n4_; (try clear hb); (try clear hb2); (try clear hk); (try clear hi)))
             go_meet
             case rel => exact ⟨_,(t337),(t338),(t339),qf,H',⟨by have := HK1.out; have := HJ10.out; have := HJ19.out; have := HJ25.out; first | omega | exact Nat.le_refl _⟩,⟨by (with_reducible repeat (first | apply Kd.zbd | apply Kd.zbc | apply Kd.zbm)); exact HO_5.out⟩,⟨by (with_reducible repeat (first | apply Kd.zbh | apply Kd.zbi | apply Kd.zbu)); exact HO_6.out⟩,⟨by repeat (first | (with_reducible first | exact HI0.out | apply zk.alloc | apply zk.drewN | apply zk.drew | apply zk.zao | apply zk.zaq) | exact HI0.out)⟩,⟨by repeat (first | (with_reducible first | exact HK.out | apply zu.zaQ | apply zR | apply zW | apply zS) | exact HK.out)⟩,⟨by repeat (first | (with_reducible first | exact HB.out | apply ze | apply zb | apply zf | refine zi ?_ (zk.ge HI0.out)) | exact HB.out)⟩⟩
            ·rw [if_neg c42] at H
             have c42b0 : decide (0 < (x6_25.length : Int)) = false := decide_eq_false c42
             have c42b1 : decide (0 < x6_25.length) = false := decide_eq_false qj
             clear c42
             (first | rw [c42b0] | (simp only [zad,zaf]; rw [c42b0]) | skip)
             have H' := za.mk H
             clear H
             obtain ⟨Ao46,co46,eo46,_⟩ := Kd.zc8 HO_6.out
             subst eo46
             go_wp2
             go_meet
             case rel => exact ⟨_,(false),(x1001_25),(x1002_25),qf,H',⟨by have := HK1.out; have := HJ10.out; have := HJ19.out; have := HJ25.out; first | omega | exact Nat.le_refl _⟩,⟨by (with_reducible repeat (first | apply Kd.zbd | apply Kd.zbc | apply Kd.zbm)); exact HO_5.out⟩,⟨by (with_reducible repeat (first | apply Kd.zbh | apply Kd.zbi | apply Kd.zbu)); exact HO_6.out⟩,⟨by repeat (first | (with_reducible first | exact HI0.out | apply zk.alloc | apply zk.drewN | apply zk.drew | apply zk.zao | apply zk.zaq) | exact HI0.out)⟩,⟨by repeat (first | (with_reducible first | exact HK.out | apply zu.zaQ | apply zR | apply zW | apply zS) | exact HK.out)⟩,⟨by repeat (first | (with_reducible first | exact HB.out | apply ze | apply zb | apply zf | refine zi ?_ (zk.ge HI0.out)) | exact HB.out)⟩⟩
           case rest =>
            clear HC41
            try clear c1
            try clear c2
            try clear p2
            try clear c3
            try clear p3
            try clear q3
            try clear hx3
            try clear hf3
            try clear c4
            try clear p6
            try clear c7
            try clear c7b0
            try clear c9
            try clear c17
            try clear c20
            try clear c21
            try clear c21b0
            try clear c21b1
            try clear c27
            try clear c28
            try clear c31
            try clear c31b0
            try clear c32
            try clear c32b0
            try clear c33
            try clear p33
            try clear q33
            try clear hx33
            try clear hf33
            try clear c35
            try clear c42
            try clear c42b0
            try clear c42b1
            try clear hx33_0
            try clear p2
            try clear p3
            try clear p33
            try clear p6
            try clear q3
            try clear q33
            obtain ⟨kq,x50_40,x1001_40,x1002_40,rfl,HA,HJ40,HO_5,HO_6,HI0,HK,HB⟩ := hcut
            cases kq with
            | zero => exact absurd HA.out (by simp [zt.j4])
            | succ kj40 =>
             have H := HA.out
             clear HA
             simp only [zt.j4] at H
             have HC47 := za.mk H
             clear H
             go_upto_if 50 with (fail)
             go_cut [6] (fun v6 wc => ∃ (kq : Nat) (x6_46 : List ByteArray),za (zt.j5 kq y313 x6_46 x7_1 s0_0 x1001_40 x1002_40 = some (r1,r2,r3)) ∧ za (kq ≤ kj40) ∧ za (Kd.S (Kd.slice 9 Kd.string) 22 wc w.heap.size (fun k_ => some k_ ≠ (v6 : Value).ownBlock) v314 y313) ∧ za (Kd.Q Kd.string 9 wc w.heap.size (fun _ => True) v6 x6_46) ∧ za (zk w0 wc g s0_0 x1001_40 x1002_40) ∧ za (zu w wc g none) ∧ za (Below w0.heap.size w0 wc))
             case first =>
              have H := HC47.out
              clear HC47
              by_cases c48 : x50_40 = true
              ·subst c48
               have H1 : (if 1 ≤ (x6_25.length : Int) then (zt.j5 kj40 y313 (x6_25.drop (1 : Int).toNat) x7_1 s0_0 x1001_40 x1002_40) else (none)) = some (r1,r2,r3) := by rw [if_pos rfl] at H; exact H
               clear H
               have H := H1
               clear H1
               by_cases c49 : 1 ≤ (x6_25.length : Int)
               ·rw [if_pos c49] at H
                have c49b0 := eq_true c49
                have c49b1 : decide (1 ≤ (x6_25.length : Int)) = true := decide_eq_true c49
                clear c49
                obtain ⟨y340,hy340⟩ : ∃ y_ : List ByteArray,y_ = (x6_25.drop (1 : Int).toNat) := ⟨_,rfl⟩
                replace H : (zt.j5 kj40 y313 y340 x7_1 s0_0 x1001_40 x1002_40) = some (r1,r2,r3) := by first | (rw [hy340]; with_reducible exact H) | (have H2_ := (Option.bind_some _ _).symm.trans H; rw [hy340]; with_reducible exact H2_) | (have H2_ := (Option.bind_some _ _).symm.trans H; with_reducible exact H2_) | with_reducible exact H | (rw [hy340]; exact H) | exact H
                have Ny340 := za.mk hy340
                clear hy340
                have H' := za.mk H
                clear H
                obtain ⟨Ao50,co50,eo50,_⟩ := Kd.zc8 HO_6.out
                subst eo50
                have q51 : (1 : Int) ≤ ((x6_25.length : Int) : Int) := of_decide_eq_true qd
                obtain ⟨i051,hi051,_,hsz51,_⟩ := info_parts zdb
                have hcut51 := zhl (P := Try.prog) 22 9 .i64 Try.underlying22 hi051 1 hsz51 Ao50 x6_25.length co50 1 qj q51
                have hr51 := Kd.zlh (k := (1 : Int).toNat) HO_6.out qj
                obtain ⟨A51,hA51⟩ : ∃ A1,A1 = (if co50 = (1 : Int).toNat then Ao50 else (Ao50 : Option Addr).map (·.add ((1 : Int).toNat * 1))) := ⟨_,rfl⟩
                obtain ⟨c51,hc51⟩ : ∃ c1,c1 = co50 - (1 : Int).toNat := ⟨_,rfl⟩
                have hy51 : y340.length = x6_25.length - (1 : Int).toNat := (by rw [Ny340.out,List.length_drop])
                rw [← Ny340.out] at hr51
                rw [← hy51, ← hA51, ← hc51] at hcut51
                replace hr51 : Kd.Q Kd.string 9 wc w.heap.size (fun _ => True) (.slice A51 y340.length c51) y340 := (by rw [hA51,hc51,hy51]; exact hr51)
                have HE51 : za ((Value.slice A51 y340.length c51).ownBlock = (.slice Ao50 x6_25.length co50 : Value).ownBlock) := ⟨by rw [hA51]; split <;> (cases (Ao50 : Option Addr) <;> rfl)⟩
                clear hy51 hi051 hsz51 HO_6 hA51 hc51
                have HO342 := za.mk hr51
                clear hr51
                replace q51 := eq_true q51
                have n_ := za.mk (Kd.zbO (ok' := fun k_ => some k_ ≠ (.slice A51 y340.length c51 : Value).ownBlock) HO_5.out (fun k_ hk => (by rw [HE51.out]; exact hk)))
                clear HO_5
                have HO_5 := n_
                clear n_
                go_wp2
                go_meet
                case rel => exact ⟨_,(y340),H',⟨by have := HK1.out; have := HJ10.out; have := HJ19.out; have := HJ25.out; have := HJ40.out; first | omega | exact Nat.le_refl _⟩,⟨by (with_reducible repeat (first | apply Kd.zbd | apply Kd.zbc | apply Kd.zbm)); exact HO_5.out⟩,⟨by (with_reducible repeat (first | apply Kd.zbh | apply Kd.zbi | apply Kd.zbu)); exact HO342.out⟩,⟨by repeat (first | (with_reducible first | exact HI0.out | apply zk.alloc | apply zk.drewN | apply zk.drew | apply zk.zao | apply zk.zaq) | exact HI0.out)⟩,⟨by repeat (first | (with_reducible first | exact HK.out | apply zu.zaQ | apply zR | apply zW | apply zS) | exact HK.out)⟩,⟨by repeat (first | (with_reducible first | exact HB.out | apply ze | apply zb | apply zf | refine zi ?_ (zk.ge HI0.out)) | exact HB.out)⟩⟩
               ·rw [if_neg c49] at H
                exact absurd H qz
              ·replace c48 := Bool.eq_false_iff.mpr c48
               subst c48
               have H1 : (zt.j5 kj40 y313 x6_25 x7_1 s0_0 x1001_40 x1002_40) = some (r1,r2,r3) := by rw [if_neg (show ¬ (false = true) by decide)] at H; exact H
               clear H
               have H := H1
               clear H1
               have H' := za.mk H
               clear H
               go_wp2
               go_meet
               case rel => exact ⟨_,(x6_25),H',⟨by have := HK1.out; have := HJ10.out; have := HJ19.out; have := HJ25.out; have := HJ40.out; first | omega | exact Nat.le_refl _⟩,⟨by (with_reducible repeat (first | apply Kd.zbd | apply Kd.zbc | apply Kd.zbm)); exact HO_5.out⟩,⟨by (with_reducible repeat (first | apply Kd.zbh | apply Kd.zbi | apply Kd.zbu)); exact HO_6.out⟩,⟨by repeat (first | (with_reducible first | exact HI0.out | apply zk.alloc | apply zk.drewN | apply zk.drew | apply zk.zao | apply zk.zaq) | exact HI0.out)⟩,⟨by repeat (first | (with_reducible first | exact HK.out | apply zu.zaQ | apply zR | apply zW | apply zS) | exact HK.out)⟩,⟨by repeat (first | (with_reducible first | exact HB.out | apply ze | apply zb | apply zf | refine zi ?_ (zk.ge HI0.out)) | exact HB.out)⟩⟩
             case rest =>
              clear HC47
              try clear c1
              try clear c2
              try clear p2
              try clear c3
              try clear p3
              try clear q3
              try clear hx3
              try clear hf3
              try clear c4
              try clear c5
              try clear q5
              try clear p6
              try clear c7
              try clear c7b0
              try clear c9
              try clear c17
              try clear c20
              try clear c21
              try clear c21b0
              try clear c21b1
              try clear c27
              try clear c28
              try clear c31
              try clear c31b0
              try clear c32
              try clear c32b0
              try clear c33
              try clear p33
              try clear q33
              try clear hx33
              try clear hf33
              try clear c35
              try clear c42
              try clear c42b0
              try clear c42b1
              try clear c48
              try clear c49
              try clear c49b0
              try clear c49b1
              try clear c51
              try clear q51
              try clear hx33_0
              try clear p2
              try clear p3
              try clear p33
              try clear p6
              try clear q3
              try clear q33
              try clear q51
              obtain ⟨kq,x6_46,HA,HJ46,HO_5,HO_6,HI0,HK,HB⟩ := hcut
              cases kq with
              | zero => exact absurd HA.out (by simp [zt.j5])
              | succ kj46 =>
               have H := HA.out
               clear HA
               simp only [zt.j5] at H
               have HC52 := za.mk H
               clear H
               go_upto_region 14 with (fail)
               go_cut [59] (fun v59 wc => ∃ (kq : Nat) (x59_51 : Bool) (x1001_51 : Int) (x1002_51 : Int),v59 = .bool x59_51 ∧ za (zt.j6 kq y313 x6_46 x7_1 x59_51 s0_0 x1001_51 x1002_51 = some (r1,r2,r3)) ∧ za (kq ≤ kj46) ∧ za (Kd.S (Kd.slice 9 Kd.string) 22 wc w.heap.size (fun k_ => some k_ ≠ (u6 : Value).ownBlock) v314 y313) ∧ za (Kd.Q Kd.string 9 wc w.heap.size (fun _ => True) u6 x6_46) ∧ za (zk w0 wc g s0_0 x1001_51 x1002_51) ∧ za (zu w wc g none) ∧ za (Below w0.heap.size w0 wc))
               case first =>
                have H := HC52.out
                clear HC52
                by_cases c53 : (x6_46.length : Int) < 6
                ·rw [if_pos c53] at H
                 have c53b0 : decide ((x6_46.length : Int) < 6) = true := decide_eq_true c53
                 have c53b1 : decide (x6_46.length < 6) = true := decide_eq_true qj
                 clear c53
                 (first | rw [c53b0] | (simp only [zad,zaf]; rw [c53b0]) | skip)
                 replace H := Option.bind_eq_some_iff.mp H
                 obtain ⟨⟨t343,t344,t345⟩,A540,H⟩ := H
                 replace H : (zt.j6 kj46 y313 x6_46 x7_1 t343 s0_0 t344 t345) = some (r1,r2,r3) := H
                 have A54 := za.mk A540
                 clear A540
                 have H' := za.mk H
                 clear H
                 obtain ⟨Ao55,co55,eo55,_⟩ := Kd.zc8 HO_6.out
                 subst eo55
                 go_wp2_with (first | (go_at_call 49; (with_reducible refine (zaC.calls g s0_0 x1001_40 x1002_40 3 t343 t344 t345 w0 _ ?side1 ?side2 A54.out).mono ?_); (case side1 => exact qh HI0.out); (case side2 => exact qm HB.out HI0.out); rintro e w56 ⟨rfl,hi,hb,hk⟩; have n0_ := za.mk (Kd.zbO (Kd.zdC (zk.zdZ (show zk w0 _ g s0_0 x1001_40 x1002_40 from by repeat (first | (with_reducible first | exact HI0.out | apply zk.alloc | apply zk.drewN | apply zk.drew | apply zk.zao | apply zk.zaq) | exact HI0.out)) (qw HO_5.out) qt) hk (fun _ h => h.2)) (fun _ h => h.1)); have n1_ := za.mk (Kd.zcu (Kd.zd6 (zk.zdY (show zk w0 _ g s0_0 x1001_40 x1002_40 from by repeat (first | (with_reducible first | exact HI0.out | apply zk.alloc | apply zk.drewN | apply zk.drew | apply zk.zao | apply zk.zaq) | exact HI0.out)) (qv HO_6.out) qt) hk (fun _ h => h.2)) (fun _ h => h.1)); have n2_ := za.mk (zu.trans (qg HK.out) hk (.inl rfl)); have n3_ := za.mk (hb); have n4_ := za.mk (hi); clear HO_5; clear HO_6; clear HK; clear HB; clear HI0; have HO_5 := n0_; have HO_6 := n1_; have HK := n2_; have HB := n3_; have HI0 := n4_; clear n0_ n1_ n2_ n3_ n4_; (try clear hb); (try clear hb2); (try clear hk); (try clear hi)))
                 go_meet
                 case rel => exact ⟨_,(t343),(t344),(t345),qf,H',⟨by have := HK1.out; have := HJ10.out; have := HJ19.out; have := HJ25.out; have := HJ40.out; have := HJ46.out; first | omega | exact Nat.le_refl _⟩,⟨by (with_reducible repeat (first | apply Kd.zbd | apply Kd.zbc | apply Kd.zbm)); exact HO_5.out⟩,⟨by (with_reducible repeat (first | apply Kd.zbh | apply Kd.zbi | apply Kd.zbu)); exact HO_6.out⟩,⟨by repeat (first | (with_reducible first | exact HI0.out | apply zk.alloc | apply zk.drewN | apply zk.drew | apply zk.zao | apply zk.zaq) | exact HI0.out)⟩,⟨by repeat (first | (with_reducible first | exact HK.out | apply zu.zaQ | apply zR | apply zW | apply zS) | exact HK.out)⟩,⟨by repeat (first | (with_reducible first | exact HB.out | apply ze | apply zb | apply zf | refine zi ?_ (zk.ge HI0.out)) | exact HB.out)⟩⟩
                ·rw [if_neg c53] at H
                 have c53b0 : decide ((x6_46.length : Int) < 6) = false := decide_eq_false c53
                 have c53b1 : decide (x6_46.length < 6) = false := decide_eq_false qj
                 clear c53
                 (first | rw [c53b0] | (simp only [zad,zaf]; rw [c53b0]) | skip)
                 have H' := za.mk H
                 clear H
                 obtain ⟨Ao57,co57,eo57,_⟩ := Kd.zc8 HO_6.out
                 subst eo57
                 go_wp2
                 go_meet
                 case rel => exact ⟨_,(false),(x1001_40),(x1002_40),qf,H',⟨by have := HK1.out; have := HJ10.out; have := HJ19.out; have := HJ25.out; have := HJ40.out; have := HJ46.out; first | omega | exact Nat.le_refl _⟩,⟨by (with_reducible repeat (first | apply Kd.zbd | apply Kd.zbc | apply Kd.zbm)); exact HO_5.out⟩,⟨by (with_reducible repeat (first | apply Kd.zbh | apply Kd.zbi | apply Kd.zbu)); exact HO_6.out⟩,⟨by repeat (first | (with_reducible first | exact HI0.out | apply zk.alloc | apply zk.drewN | apply zk.drew | apply zk.zao | apply zk.zaq) | exact HI0.out)⟩,⟨by repeat (first | (with_reducible first | exact HK.out | apply zu.zaQ | apply zR | apply zW | apply zS) | exact HK.out)⟩,⟨by repeat (first | (with_reducible first | exact HB.out | apply ze | apply zb | apply zf | refine zi ?_ (zk.ge HI0.out)) | exact HB.out)⟩⟩
               case rest =>
                clear HC52
                try clear c1
                try clear c2
                try clear p2
                try clear c3
                try clear p3
                try clear q3
                try clear hx3
                try clear hf3
                try clear c4
                try clear c5
                try clear q5
                try clear p6
                try clear c7
                try clear c7b0
                try clear c9
                try clear c17
                try clear c20
                try clear c21
                try clear c21b0
                try clear c21b1
                try clear c27
                try clear c28
                try clear c31
                try clear c31b0
                try clear c32
                try clear c32b0
                try clear c33
                try clear p33
                try clear q33
                try clear hx33
                try clear hf33
                try clear c35
                try clear c42
                try clear c42b0
                try clear c42b1
                try clear c48
                try clear c49
                try clear c49b0
                try clear c49b1
                try clear c51
                try clear q51
                try clear c53
                try clear c53b0
                try clear c53b1
                try clear hx33_0
                try clear p2
                try clear p3
                try clear p33
                try clear p6
                try clear q3
                try clear q33
                try clear q5
                try clear q51
                obtain ⟨kq,x59_51,x1001_51,x1002_51,rfl,HA,HJ51,HO_5,HO_6,HI0,HK,HB⟩ := hcut
                cases kq with
                | zero => exact absurd HA.out (by simp [zt.j6])
                | succ kj51 =>
                 have H := HA.out
                 clear HA
                 simp only [zt.j6] at H
                 by_cases c58 : x59_51 = true
                 ·subst c58
                  have H1 : ((zaD.f x6_46).bind fun t346 => ((zat.f s0_0 x1001_51 x1002_51).bind fun bt349 => (if t346.length < 8796093022208 then (zt.l0 kj51 y313 (t346 ++ [bt349.1]) (wrap64 (x7_1 - 1)) s0_0 bt349.2.1 bt349.2.2) else (none)))) = some (r1,r2,r3) := by rw [if_pos rfl] at H; exact H
                  clear H
                  have H := H1
                  clear H1
                  replace H := Option.bind_eq_some_iff.mp H
                  obtain ⟨t346,A590,H⟩ := H
                  replace H : ((zat.f s0_0 x1001_51 x1002_51).bind fun bt349 => (if t346.length < 8796093022208 then (zt.l0 kj51 y313 (t346 ++ [bt349.1]) (wrap64 (x7_1 - 1)) s0_0 bt349.2.1 bt349.2.2) else (none))) = some (r1,r2,r3) := H
                  have A59 := za.mk A590
                  clear A590
                  replace H := Option.bind_eq_some_iff.mp H
                  obtain ⟨⟨t349,t350,t351⟩,A600,H⟩ := H
                  replace H : (if t346.length < 8796093022208 then (zt.l0 kj51 y313 (t346 ++ [t349]) (wrap64 (x7_1 - 1)) s0_0 t350 t351) else (none)) = some (r1,r2,r3) := H
                  have A60 := za.mk A600
                  clear A600
                  by_cases c61 : t346.length < 8796093022208
                  ·rw [if_pos c61] at H
                   have LMc61 := za.mk c61
                   clear c61
                   obtain ⟨y352,hy352⟩ : ∃ y_ : List ByteArray,y_ = (t346 ++ [t349]) := ⟨_,rfl⟩
                   replace H : (zt.l0 kj51 y313 y352 (wrap64 (x7_1 - 1)) s0_0 t350 t351) = some (r1,r2,r3) := by first | (rw [hy352]; with_reducible exact H) | (have H2_ := (Option.bind_some _ _).symm.trans H; rw [hy352]; with_reducible exact H2_) | (have H2_ := (Option.bind_some _ _).symm.trans H; with_reducible exact H2_) | with_reducible exact H | (rw [hy352]; exact H) | exact H
                   have Ny352 := za.mk hy352
                   clear hy352
                   have H' := za.mk H
                   clear H
                   obtain ⟨Ao62,co62,eo62,_⟩ := Kd.zc8 HO_6.out
                   subst eo62
                   go_wp2_with (first | ((with_reducible refine zz (f := 21) rfl ?_); refine zT (some 61) rfl rfl Try.func21 qi rfl #[.slice Ao62 x6_46.length co62] rfl qa ?_; (with_reducible refine (zaD.calls _ _ x6_46 t346 _ ?side1 ?side2 A59.out).mono ?_); (case side1 => exact qK HO_6.out); (case side2 => exact (Kd.zds HO_6.out).2.1); rintro e w63 ⟨v347,rfl,ho0,hb⟩; refine ⟨_,rfl,?_⟩; have n0_ := za.mk (Kd.ze3 (qw HO_5.out) (Kd.zcU ho0) hb); have n1_ := za.mk (Kd.zf8 (qv HO_6.out) (Kd.zcU ho0) hb); have n2_ := za.mk (Kd.zaT (Kd.zfk ho0 (Kd.zgJ (qv HO_6.out))) (zci (w := w) (g := g) (row := none) (qg HK.out))); have n3_ := za.mk (zk.below (qh HI0.out) hb); have n4_ := za.mk (zu.trans (qg HK.out) (zu.of_below hb g none) (.inl rfl)); have n5_ := za.mk (zq (qm HB.out HI0.out) hb); clear HO_5; clear HO_6; clear HI0; clear HK; clear HB; have HO_5 := n0_; have HO_6 := n1_; have HO348 := n2_; have HI0 := n3_; have HK := n4_; have HB := n5_; clear n0_ n1_ n2_ n3_ n4_ n5_; (try clear hb); (try clear hb2); (try clear hk); (try clear hi); (try clear ho0)) | ((with_reducible refine zz (f := 35) rfl ?_); refine zT (some 63) rfl rfl Try.func35 qi rfl #[.pointer (some ⟨g,0,none⟩)] rfl qa ?_; (with_reducible refine (zat.calls g s0_0 x1001_51 x1002_51 t349 t350 t351 w0 _ ?side1 ?side2 A60.out).mono ?_); (case side1 => exact qh HI0.out); (case side2 => exact qm HB.out HI0.out); rintro e w64 ⟨rfl,hi,hb,hk⟩; refine ⟨_,rfl,?_⟩; have n0_ := za.mk (Kd.zbO (Kd.zdC (zk.zdZ (show zk w0 _ g s0_0 x1001_51 x1002_51 from by repeat (first | (with_reducible first | exact HI0.out | apply zk.alloc | apply zk.drewN | apply zk.drew | apply zk.zao | apply zk.zaq) | exact HI0.out)) (qw HO_5.out) qt) hk (fun _ h => h.2)) (fun _ h => h.1)); have n1_ := za.mk (Kd.zcu (Kd.zd6 (zk.zdY (show zk w0 _ g s0_0 x1001_51 x1002_51 from by repeat (first | (with_reducible first | exact HI0.out | apply zk.alloc | apply zk.drewN | apply zk.drew | apply zk.zao | apply zk.zaq) | exact HI0.out)) (qv HO_6.out) qt) hk (fun _ h => h.2)) (fun _ h => h.1)); have n2_ := za.mk (Kd.zaA (Kd.zcf (zk.apart (show zk w0 _ g s0_0 x1001_51 x1002_51 from by repeat (first | (with_reducible first | exact HI0.out | apply zk.alloc | apply zk.drewN | apply zk.drew | apply zk.zao | apply zk.zaq) | exact HI0.out)) (qp HO348.out) qt) hk (fun _ h => h.2)) (fun _ h => h.1)); have n3_ := za.mk (zu.trans (qg HK.out) hk (.inl rfl)); have n4_ := za.mk (hb); have n5_ := za.mk (hi); clear HO_5; clear HO_6; clear HO348; clear HK; clear HB; clear HI0; have HO_5 := n0_; have HO_6 := n1_; have HO348 := n2_; have HK := n3_; have HB := n4_; have HI0 := n5_; clear n0_ n1_ n2_ n3_ n4_ n5_; (try clear hb); (try clear hb2); (try clear hk); (try clear hi)) | ((with_reducible refine zbf (b := .append) (xs := #[.tmp 61, .tmp 64]) rfl ?_); at_builtin; refine Kd.zcm Kd.string w.heap.size rfl (.tmp 61) (.tmp 64) 22 9 (.string ⟨#[]⟩) 16 rfl Try.underlying22 zdb rfl qt qj v347 t346 t349 [.string t349] (fun k_ => some k_ ≠ (.slice Ao62 x6_46.length co62 : Value).ownBlock) (fun _ => False) rfl rfl ?aP (fun _ hk => hk.elim) ?aF ?aO (Below.refl _ _) ?aS ?aL ?_; (case aP => exact rfl); (case aF => exact (fun k_ hk => Kd.fresh' (Kd.zgJ (qv HO_6.out)) k_ hk)); (case aO => exact (qE HO348.out)); (case aS => exact (zci (w := w) (g := g) (row := none) (qg HK.out))); (case aL => have := LMc61.out; omega); intro v353 w65 ho hb hg hat; rw [← Ny352.out] at ho; have n0_ := za.mk (Kd.zif (ok := (fun k_ => some k_ ≠ (.slice Ao62 x6_46.length co62 : Value).ownBlock)) (qw HO_5.out) hg hat); have n1_ := za.mk (Kd.zil (ok := (fun _ => True)) (qv HO_6.out) hg hat); have n2_ := za.mk (zk.grown (qh HI0.out) hg (zk.own_ne HI0.out HO348.out qt)); have n3_ := za.mk (zbU (qm HB.out HI0.out) HL.out hb); have n4_ := za.mk (zu.trans (qg HK.out) (zu.zdf hg g) (Kd.zdQ HO348.out)); have n5_ := za.mk (ho); clear HO_5; clear HO_6; clear HI0; clear HB; clear HK; clear HO348; have HO_5 := n0_; have HO_6 := n1_; have HI0 := n2_; have HB := n3_; have HK := n4_; have HO354 := n5_; clear n0_ n1_ n2_ n3_ n4_ n5_; clear ho hb hg hat))
                   go_roundg kj51
                   case measure => have := HK1.out; have := HJ10.out; have := HJ19.out; have := HJ25.out; have := HJ40.out; have := HJ46.out; have := HJ51.out; omega
                   case rel => exact ⟨(y313),(y352),(wrap64 (x7_1 - 1)),(t350),(t351),qf,H',⟨by have := HK1.out; have := HJ10.out; have := HJ19.out; have := HJ25.out; have := HJ40.out; have := HJ46.out; have := HJ51.out; omega⟩,⟨by (with_reducible repeat (first | apply Kd.zbd | apply Kd.zbc | apply Kd.zbm)); exact Kd.zbO HO_5.out (fun _ hk => hk.2)⟩,⟨Kd.zfi (qP HO354.out)⟩,⟨by repeat (first | (with_reducible first | exact HI0.out | apply zk.alloc | apply zk.drewN | apply zk.drew | apply zk.zao | apply zk.zaq) | exact HI0.out)⟩,⟨by repeat (first | (with_reducible first | exact HK.out | apply zu.zaQ | apply zR | apply zW | apply zS) | exact HK.out)⟩,⟨by repeat (first | (with_reducible first | exact HB.out | apply ze | apply zb | apply zf | refine zi ?_ (zk.ge HI0.out)) | exact HB.out)⟩⟩
                  ·rw [if_neg c61] at H
                   exact absurd H qz
                 ·replace c58 := Bool.eq_false_iff.mpr c58
                  subst c58
                  have H1 : (zt.l0 kj51 y313 x6_46 (wrap64 (x7_1 - 1)) s0_0 x1001_51 x1002_51) = some (r1,r2,r3) := by rw [if_neg (show ¬ (false = true) by decide)] at H; exact H
                  clear H
                  have H := H1
                  clear H1
                  have H' := za.mk H
                  clear H
                  go_wp2
                  go_roundg kj51
                  case measure => have := HK1.out; have := HJ10.out; have := HJ19.out; have := HJ25.out; have := HJ40.out; have := HJ46.out; have := HJ51.out; omega
                  case rel => exact ⟨(y313),(x6_46),(wrap64 (x7_1 - 1)),(x1001_51),(x1002_51),qf,H',⟨by have := HK1.out; have := HJ10.out; have := HJ19.out; have := HJ25.out; have := HJ40.out; have := HJ46.out; have := HJ51.out; omega⟩,⟨by (with_reducible repeat (first | apply Kd.zbd | apply Kd.zbc | apply Kd.zbm)); exact HO_5.out⟩,⟨by (with_reducible repeat (first | apply Kd.zbh | apply Kd.zbi | apply Kd.zbu)); exact HO_6.out⟩,⟨by repeat (first | (with_reducible first | exact HI0.out | apply zk.alloc | apply zk.drewN | apply zk.drew | apply zk.zao | apply zk.zaq) | exact HI0.out)⟩,⟨by repeat (first | (with_reducible first | exact HK.out | apply zu.zaQ | apply zR | apply zW | apply zS) | exact HK.out)⟩,⟨by repeat (first | (with_reducible first | exact HB.out | apply ze | apply zb | apply zf | refine zi ?_ (zk.ge HI0.out)) | exact HB.out)⟩⟩
    ·rw [if_neg c9] at H
     exact absurd H qz
   ·rw [if_neg c7] at H
    have c7b0 : decide (0 < x7_1) = false := decide_eq_false c7
    clear c7
    simp only [Option.some.injEq,Prod.mk.injEq] at H
    obtain ⟨rfl,rfl,rfl⟩ := H
    go_wp2
    go_ret
    exact ⟨_,by first | rfl | (simp [zy,zx] <;> rfl) | (simp [*,zy,zx] <;> rfl),by (with_reducible repeat (first | apply Kd.zbd | apply Kd.zbc | apply Kd.zbm)); exact Kd.zbO HO_5.out (fun _ hk => trivial),by repeat (first | (with_reducible first | exact HI0.out | apply zk.alloc | apply zk.drewN | apply zk.drew | apply zk.zao | apply zk.zaq) | exact HI0.out),by repeat (first | (with_reducible first | exact HB.out | apply ze | apply zb | apply zf | refine zi ?_ (zk.ge HI0.out)) | exact HB.out),by repeat (first | (with_reducible first | exact HK.out | apply zu.zaQ | apply zR | apply zW | apply zS) | exact HK.out)⟩
mutual
def zA.l0 : Nat → Int → Int → List (S63) → Int → List Int → Int → Int → Option ((List (S63)) × Int × Int)
 | 0,_,_,_,_,_,_,_ => none
 | k + 1,x1,x2,x7,x8,x1000,x1001,x1002 => if x8 ≤ x1 then (zA.l1 k x1 x2 x7 x8 x1000 x1001 x1002) else (some (x7,x1001,x1002))
def zA.j2 : Nat → Int → Int → List (S63) → Int → List Int → Int → Int → Option ((List (S63)) × Int × Int)
 | 0,_,_,_,_,_,_,_ => none
 | k + 1,x1,x2,x7,x8,x1000,x1001,x1002 => if x8 = x1 then (zA.j3 k x1 x2 x7 x8 true x1000 x1001 x1002) else (zA.j3 k x1 x2 x7 x8 ((x7.length : Int) == x2) x1000 x1001 x1002)
def zA.j3 : Nat → Int → Int → List (S63) → Int → Bool → List Int → Int → Int → Option ((List (S63)) × Int × Int)
 | 0,_,_,_,_,_,_,_,_ => none
 | k + 1,x1,x2,x7,x8,x37,x1000,x1001,x1002 => if x37 = true then (zA.l0 k x1 x2 x7 (wrap64 (x8 + 1)) x1000 x1001 x1002) else ((zak.f x1000 x1001 x1002 4).bind fun bt260 => (if bt260.1 = 0 then ((zat.f x1000 bt260.2.1 bt260.2.2).bind fun bt263 => (if x7.length < 4398046511104 then (zA.l0 k x1 x2 (x7 ++ [(⟨2,x8,bt263.1⟩ : S63)]) (wrap64 (x8 + 1)) x1000 bt263.2.1 bt263.2.2) else (none))) else (if bt260.1 = 1 then (if x7.length < 4398046511104 then (zA.l0 k x1 x2 (x7 ++ [(⟨3,x8,(⟨#[]⟩ : ByteArray)⟩ : S63)]) (wrap64 (x8 + 1)) x1000 bt260.2.1 bt260.2.2) else (none)) else (zA.l0 k x1 x2 x7 (wrap64 (x8 + 1)) x1000 bt260.2.1 bt260.2.2))))
def zA.l1 : Nat → Int → Int → List (S63) → Int → List Int → Int → Int → Option ((List (S63)) × Int × Int)
 | 0,_,_,_,_,_,_,_ => none
 | k + 1,x1,x2,x7,x8,x1000,x1001,x1002 => (zaC.f x1000 x1001 x1002 4).bind fun bt251 => (if bt251.1 = true then (if (x7.length : Int) < x2 then ((zat.f x1000 bt251.2.1 bt251.2.2).bind fun bt254 => (if x7.length < 4398046511104 then (zA.l1 k x1 x2 (x7 ++ [(⟨1,x8,bt254.1⟩ : S63)]) x8 x1000 bt254.2.1 bt254.2.2) else (none))) else (zA.j2 k x1 x2 x7 x8 x1000 bt251.2.1 bt251.2.2)) else (zA.j2 k x1 x2 x7 x8 x1000 bt251.2.1 bt251.2.2))
end
def zA.f (k : Nat) (s0_0 : List Int) (s0_1 : Int) (s0_2 : Int) (a1 : Int) (a2 : Int) : Option ((List (S63)) × Int × Int) := zA.l0 k a1 a2 ([] : List (S63)) 0 s0_0 s0_1 s0_2
set_option maxHeartbeats 8000000 in
set_option maxRecDepth 100000 in
theorem zA.calls (k : Nat) (g : Nat) (s0_0 : List Int) (s0_1 : Int) (s0_2 : Int) (a1 : Int) (a2 : Int) (r1 : List (S63)) (r2 : Int) (r3 : Int) (w0 w : World) (hI : zk w0 w g s0_0 s0_1 s0_2) (hB : Below w0.heap.size w0 w) (h : zA.f k s0_0 s0_1 s0_2 a1 a2 = some (r1,r2,r3)) :
  Calls Try.prog 27 #[.pointer (some ⟨g,0,none⟩), .int .i64 a1, .int .i64 a2] w fun e w' => ∃ v0_ : Value,e = .returned (v0_) ∧ Kd.R k63 63 w' w.heap.size (fun _ => True) v0_ r1 ∧ zk w0 w' g s0_0 r2 r3 ∧ Below w0.heap.size w0 w' ∧ zu w w' g none := by
 have hu63 := Try.underlying63
 have HI0 := za.mk hI
 have HK := za.mk (zu.refl w g none)
 have HL := za.mk hB.size
 clear hI
 have HW0 := za.mk hB.size
 have HB := za.mk hB
 clear hB
 have H : (zA.l0 k a1 a2 ([] : List (S63)) 0 s0_0 s0_1 s0_2) = some (r1,r2,r3) := h
 clear h
 have H' := za.mk H
 clear H
 go_enter Try.func27,Try.ntmps27
 go_wp2
 go_loopg [7,8] k (fun kq v7 v8 w' => ∃ (x7_1 : List (S63)) (x8_1 : Int) (x1001_1 : Int) (x1002_1 : Int),v8 = .int .i64 x8_1 ∧ za (zA.l0 kq a1 a2 x7_1 x8_1 s0_0 x1001_1 x1002_1 = some (r1,r2,r3)) ∧ za (kq ≤ k) ∧ za (Kd.R k63 63 w' w.heap.size (fun _ => True) v7 x7_1) ∧ za (zk w0 w' g s0_0 x1001_1 x1002_1) ∧ za (zu w w' g none) ∧ za (Below w0.heap.size w0 w'))
 case atStart => exact ⟨(([] : List (S63))),(0),(s0_1),(s0_2),qf,H',⟨Nat.le_refl _⟩,⟨by first | exact Kd.zbP _ _ _ _ _ | exact Kd.zcX _ _ _ _ _ | exact Kd.zc0 _ _ _ _ _ | exact Kd.zc1 _ _ _ _ _ | exact Kd.zc3 _ _ _ _ _⟩,⟨by repeat (first | (with_reducible first | exact HI0.out | apply zk.alloc | apply zk.drewN | apply zk.drew | apply zk.zao | apply zk.zaq) | exact HI0.out)⟩,⟨by repeat (first | (with_reducible first | exact HK.out | apply zu.zaQ | apply zR | apply zW | apply zS) | exact HK.out)⟩,⟨by repeat (first | (with_reducible first | exact HB.out | apply ze | apply zb | apply zf | refine zi ?_ (zk.ge HI0.out)) | exact HB.out)⟩⟩
 case round =>
  clear H'
  try clear c2
  try clear p2
  obtain ⟨x7_1,x8_1,x1001_1,x1002_1,rfl,HA,HK1,HO_7,HI0,HK,HB⟩ := hrel
  cases gk with
  | zero => exact absurd HA.out (by simp [zA.l0])
  | succ k1 =>
   have H := HA.out
   clear HA
   simp only [zA.l0] at H
   by_cases c4 : x8_1 ≤ a1
   ·rw [if_pos c4] at H
    have c4b0 : decide (x8_1 ≤ a1) = true := decide_eq_true c4
    clear c4
    have HC5 := za.mk H
    clear H
    go_upto_block 2 with (fail)
    go_cut [7] (fun v7 wc => ∃ (kq : Nat) (x7_4 : List (S63)) (x1001_4 : Int) (x1002_4 : Int),za (zA.j2 kq a1 a2 x7_4 x8_1 s0_0 x1001_4 x1002_4 = some (r1,r2,r3)) ∧ za (kq ≤ k1) ∧ za (Kd.R k63 63 wc w.heap.size (fun _ => True) v7 x7_4) ∧ za (zk w0 wc g s0_0 x1001_4 x1002_4) ∧ za (zu w wc g none) ∧ za (Below w0.heap.size w0 wc))
    case first =>
     have H := HC5.out
     clear HC5
     have H' := za.mk H
     clear H
     go_wp2
     go_loopg [7] k1 (fun kq v7 w' => ∃ (x7_2 : List (S63)) (x1001_2 : Int) (x1002_2 : Int),za (zA.l1 kq a1 a2 x7_2 x8_1 s0_0 x1001_2 x1002_2 = some (r1,r2,r3)) ∧ za (kq ≤ k1) ∧ za (Kd.R k63 63 w' w.heap.size (fun _ => True) v7 x7_2) ∧ za (zk w0 w' g s0_0 x1001_2 x1002_2) ∧ za (zu w w' g none) ∧ za (Below w0.heap.size w0 w'))
     case atStart => exact ⟨(x7_1),(x1001_1),(x1002_1),H',⟨Nat.le_refl _⟩,⟨by (with_reducible repeat (first | apply Kd.zal | apply Kd.zam | apply Kd.zau)); exact HO_7.out⟩,⟨by repeat (first | (with_reducible first | exact HI0.out | apply zk.alloc | apply zk.drewN | apply zk.drew | apply zk.zao | apply zk.zaq) | exact HI0.out)⟩,⟨by repeat (first | (with_reducible first | exact HK.out | apply zu.zaQ | apply zR | apply zW | apply zS) | exact HK.out)⟩,⟨by repeat (first | (with_reducible first | exact HB.out | apply ze | apply zb | apply zf | refine zi ?_ (zk.ge HI0.out)) | exact HB.out)⟩⟩
     case round =>
      clear H'
      try clear c2
      try clear p2
      try clear c4
      try clear c4b0
      try clear p2
      obtain ⟨x7_2,x1001_2,x1002_2,HA,HK2,HO_7,HI0,HK,HB⟩ := hrel
      cases gk with
      | zero => exact absurd HA.out (by simp [zA.l1])
      | succ k2 =>
       have H := HA.out
       clear HA
       simp only [zA.l1] at H
       replace H := Option.bind_eq_some_iff.mp H
       obtain ⟨⟨t251,t252,t253⟩,A60,H⟩ := H
       replace H : (if t251 = true then (if (x7_2.length : Int) < a2 then ((zat.f s0_0 t252 t253).bind fun bt254 => (if x7_2.length < 4398046511104 then (zA.l1 k2 a1 a2 (x7_2 ++ [(⟨1,x8_1,bt254.1⟩ : S63)]) x8_1 s0_0 bt254.2.1 bt254.2.2) else (none))) else (zA.j2 k2 a1 a2 x7_2 x8_1 s0_0 t252 t253)) else (zA.j2 k2 a1 a2 x7_2 x8_1 s0_0 t252 t253)) = some (r1,r2,r3) := H
       have A6 := za.mk A60
       clear A60
       by_cases c7 : t251 = true
       ·subst c7
        have H1 : (if (x7_2.length : Int) < a2 then ((zat.f s0_0 t252 t253).bind fun bt254 => (if x7_2.length < 4398046511104 then (zA.l1 k2 a1 a2 (x7_2 ++ [(⟨1,x8_1,bt254.1⟩ : S63)]) x8_1 s0_0 bt254.2.1 bt254.2.2) else (none))) else (zA.j2 k2 a1 a2 x7_2 x8_1 s0_0 t252 t253)) = some (r1,r2,r3) := by rw [if_pos rfl] at H; exact H
        clear H
        have H := H1
        clear H1
        by_cases c8 : (x7_2.length : Int) < a2
        ·rw [if_pos c8] at H
         have c8b0 : decide ((x7_2.length : Int) < a2) = true := decide_eq_true c8
         clear c8
         (first | rw [c8b0] | (simp only [zad,zaf]; rw [c8b0]) | skip)
         replace H := Option.bind_eq_some_iff.mp H
         obtain ⟨⟨t254,t255,t256⟩,A90,H⟩ := H
         replace H : (if x7_2.length < 4398046511104 then (zA.l1 k2 a1 a2 (x7_2 ++ [(⟨1,x8_1,t254⟩ : S63)]) x8_1 s0_0 t255 t256) else (none)) = some (r1,r2,r3) := H
         have A9 := za.mk A90
         clear A90
         by_cases c10 : x7_2.length < 4398046511104
         ·rw [if_pos c10] at H
          have LMc10 := za.mk c10
          clear c10
          obtain ⟨y257,hy257⟩ : ∃ y_ : List (S63),y_ = (x7_2 ++ [(⟨1,x8_1,t254⟩ : S63)]) := ⟨_,rfl⟩
          replace H : (zA.l1 k2 a1 a2 y257 x8_1 s0_0 t255 t256) = some (r1,r2,r3) := by first | (rw [hy257]; with_reducible exact H) | (have H2_ := (Option.bind_some _ _).symm.trans H; rw [hy257]; with_reducible exact H2_) | (have H2_ := (Option.bind_some _ _).symm.trans H; with_reducible exact H2_) | with_reducible exact H | (rw [hy257]; exact H) | exact H
          have Ny257 := za.mk hy257
          clear hy257
          have H' := za.mk H
          clear H
          go_wp2_with (first | ((with_reducible refine zz (f := 49) rfl ?_); refine zT (some 15) rfl rfl Try.func49 qi rfl #[.pointer (some ⟨g,0,none⟩), .int .i64 4] rfl qa ?_; (with_reducible refine (zaC.calls g s0_0 x1001_2 x1002_2 4 true t252 t253 w0 _ ?side1 ?side2 A6.out).mono ?_); (case side1 => exact qh HI0.out); (case side2 => exact qm HB.out HI0.out); rintro e w11 ⟨rfl,hi,hb,hk⟩; refine ⟨_,rfl,?_⟩; have n0_ := za.mk (Kd.zaA (Kd.zcf (zk.apart (show zk w0 _ g s0_0 x1001_2 x1002_2 from by repeat (first | (with_reducible first | exact HI0.out | apply zk.alloc | apply zk.drewN | apply zk.drew | apply zk.zao | apply zk.zaq) | exact HI0.out)) (qp HO_7.out) qt) hk (fun _ h => h.2)) (fun _ h => h.1)); have n1_ := za.mk (zu.trans (qg HK.out) hk (.inl rfl)); have n2_ := za.mk (hb); have n3_ := za.mk (hi); clear HO_7; clear HK; clear HB; clear HI0; have HO_7 := n0_; have HK := n1_; have HB := n2_; have HI0 := n3_; clear n0_ n1_ n2_ n3_; (try clear hb); (try clear hb2); (try clear hk); (try clear hi); obtain ⟨Ao12,co12,eo12⟩ := Kd.zbr HO_7.out; subst eo12) | ((with_reducible refine zz (f := 35) rfl ?_); refine zT (some 25) rfl rfl Try.func35 qi rfl #[.pointer (some ⟨g,0,none⟩)] rfl qa ?_; (with_reducible refine (zat.calls g s0_0 t252 t253 t254 t255 t256 w0 _ ?side1 ?side2 A9.out).mono ?_); (case side1 => exact qh HI0.out); (case side2 => exact qm HB.out HI0.out); rintro e w13 ⟨rfl,hi,hb,hk⟩; refine ⟨_,rfl,?_⟩; have n0_ := za.mk (Kd.zaA (Kd.zcf (zk.apart (show zk w0 _ g s0_0 t252 t253 from by repeat (first | (with_reducible first | exact HI0.out | apply zk.alloc | apply zk.drewN | apply zk.drew | apply zk.zao | apply zk.zaq) | exact HI0.out)) (qp HO_7.out) qt) hk (fun _ h => h.2)) (fun _ h => h.1)); have n1_ := za.mk (zu.trans (qg HK.out) hk (.inl rfl)); have n2_ := za.mk (hb); have n3_ := za.mk (hi); clear HO_7; clear HK; clear HB; clear HI0; have HO_7 := n0_; have HK := n1_; have HB := n2_; have HI0 := n3_; clear n0_ n1_ n2_ n3_; (try clear hb); (try clear hb2); (try clear hk); (try clear hi)) | ((with_reducible refine zbf (b := .append) (xs := #[.tmp 22, .tmp 27]) rfl ?_); (try (refine zbZ qy ?_; dsimp only)); at_builtin; refine Kd.zcm k63 w.heap.size rfl (.tmp 22) (.tmp 27) 31 63 (.agg #[(.int .i64 0),(.int .i64 0),(.string ⟨#[]⟩)]) 32 rfl Try.underlying31 zcg rfl qt qj (.slice Ao12 x7_2.length co12) x7_2 (⟨1,x8_1,t254⟩ : S63) [.int .i64 1, .int .i64 x8_1, .string t254] (fun _ => True) (fun _ => False) rfl rfl ?aP (fun _ hk => hk.elim) ?aF ?aO (Below.refl _ _) ?aS ?aL ?_; (case aP => exact zbs _ _ _ (⟨1,x8_1,t254⟩ : S63)); (case aF => exact (fun _ _ => trivial)); (case aO => exact (qp HO_7.out)); (case aS => exact (zci (w := w) (g := g) (row := none) (qg HK.out))); (case aL => have := LMc10.out; omega); intro v258 w14 ho hb hg hat; rw [← Ny257.out] at ho; have n0_ := za.mk (zk.grown (qh HI0.out) hg (zk.own_ne HI0.out HO_7.out qt)); have n1_ := za.mk (zbU (qm HB.out HI0.out) HL.out hb); have n2_ := za.mk (zu.trans (qg HK.out) (zu.zdf hg g) (Kd.zdQ HO_7.out)); have n3_ := za.mk (ho); clear HI0; clear HB; clear HK; clear HO_7; have HI0 := n0_; have HB := n1_; have HK := n2_; have HO259 := n3_; clear n0_ n1_ n2_ n3_; clear ho hb hg hat))
          go_roundg k2
          case measure => have := HK1.out; have := HK2.out; omega
          case rel => exact ⟨(y257),(t255),(t256),H',⟨by have := HK1.out; have := HK2.out; omega⟩,⟨by (with_reducible repeat (first | apply Kd.zal | apply Kd.zam | apply Kd.zau)); exact HO259.out⟩,⟨by repeat (first | (with_reducible first | exact HI0.out | apply zk.alloc | apply zk.drewN | apply zk.drew | apply zk.zao | apply zk.zaq) | exact HI0.out)⟩,⟨by repeat (first | (with_reducible first | exact HK.out | apply zu.zaQ | apply zR | apply zW | apply zS) | exact HK.out)⟩,⟨by repeat (first | (with_reducible first | exact HB.out | apply ze | apply zb | apply zf | refine zi ?_ (zk.ge HI0.out)) | exact HB.out)⟩⟩
         ·rw [if_neg c10] at H
          exact absurd H qz
        ·rw [if_neg c8] at H
         have c8b0 : decide ((x7_2.length : Int) < a2) = false := decide_eq_false c8
         clear c8
         (first | rw [c8b0] | (simp only [zad,zaf]; rw [c8b0]) | skip)
         have H' := za.mk H
         clear H
         go_wp2_with (first | ((with_reducible refine zz (f := 49) rfl ?_); refine zT (some 15) rfl rfl Try.func49 qi rfl #[.pointer (some ⟨g,0,none⟩), .int .i64 4] rfl qa ?_; (with_reducible refine (zaC.calls g s0_0 x1001_2 x1002_2 4 true t252 t253 w0 _ ?side1 ?side2 A6.out).mono ?_); (case side1 => exact qh HI0.out); (case side2 => exact qm HB.out HI0.out); rintro e w15 ⟨rfl,hi,hb,hk⟩; refine ⟨_,rfl,?_⟩; have n0_ := za.mk (Kd.zaA (Kd.zcf (zk.apart (show zk w0 _ g s0_0 x1001_2 x1002_2 from by repeat (first | (with_reducible first | exact HI0.out | apply zk.alloc | apply zk.drewN | apply zk.drew | apply zk.zao | apply zk.zaq) | exact HI0.out)) (qp HO_7.out) qt) hk (fun _ h => h.2)) (fun _ h => h.1)); have n1_ := za.mk (zu.trans (qg HK.out) hk (.inl rfl)); have n2_ := za.mk (hb); have n3_ := za.mk (hi); clear HO_7; clear HK; clear HB; clear HI0; have HO_7 := n0_; have HK := n1_; have HB := n2_; have HI0 := n3_; clear n0_ n1_ n2_ n3_; (try clear hb); (try clear hb2); (try clear hk); (try clear hi); obtain ⟨Ao16,co16,eo16⟩ := Kd.zbr HO_7.out; subst eo16))
         go_meet
         case rel => exact ⟨_,(x7_2),(t252),(t253),H',⟨by have := HK1.out; have := HK2.out; first | omega | exact Nat.le_refl _⟩,⟨by (with_reducible repeat (first | apply Kd.zal | apply Kd.zam | apply Kd.zau)); exact HO_7.out⟩,⟨by repeat (first | (with_reducible first | exact HI0.out | apply zk.alloc | apply zk.drewN | apply zk.drew | apply zk.zao | apply zk.zaq) | exact HI0.out)⟩,⟨by repeat (first | (with_reducible first | exact HK.out | apply zu.zaQ | apply zR | apply zW | apply zS) | exact HK.out)⟩,⟨by repeat (first | (with_reducible first | exact HB.out | apply ze | apply zb | apply zf | refine zi ?_ (zk.ge HI0.out)) | exact HB.out)⟩⟩
       ·replace c7 := Bool.eq_false_iff.mpr c7
        subst c7
        have H1 : (zA.j2 k2 a1 a2 x7_2 x8_1 s0_0 t252 t253) = some (r1,r2,r3) := by rw [if_neg (show ¬ (false = true) by decide)] at H; exact H
        clear H
        have H := H1
        clear H1
        have H' := za.mk H
        clear H
        go_wp2_with (first | ((with_reducible refine zz (f := 49) rfl ?_); refine zT (some 15) rfl rfl Try.func49 qi rfl #[.pointer (some ⟨g,0,none⟩), .int .i64 4] rfl qa ?_; (with_reducible refine (zaC.calls g s0_0 x1001_2 x1002_2 4 false t252 t253 w0 _ ?side1 ?side2 A6.out).mono ?_); (case side1 => exact qh HI0.out); (case side2 => exact qm HB.out HI0.out); rintro e w17 ⟨rfl,hi,hb,hk⟩; refine ⟨_,rfl,?_⟩; have n0_ := za.mk (Kd.zaA (Kd.zcf (zk.apart (show zk w0 _ g s0_0 x1001_2 x1002_2 from by repeat (first | (with_reducible first | exact HI0.out | apply zk.alloc | apply zk.drewN | apply zk.drew | apply zk.zao | apply zk.zaq) | exact HI0.out)) (qp HO_7.out) qt) hk (fun _ h => h.2)) (fun _ h => h.1)); have n1_ := za.mk (zu.trans (qg HK.out) hk (.inl rfl)); have n2_ := za.mk (hb); have n3_ := za.mk (hi); clear HO_7; clear HK; clear HB; clear HI0; have HO_7 := n0_; have HK := n1_; have HB := n2_; have HI0 := n3_; clear n0_ n1_ n2_ n3_; (try clear hb); (try clear hb2); (try clear hk); (try clear hi)))
        go_meet
        case rel => exact ⟨_,(x7_2),(t252),(t253),H',⟨by have := HK1.out; have := HK2.out; first | omega | exact Nat.le_refl _⟩,⟨by (with_reducible repeat (first | apply Kd.zal | apply Kd.zam | apply Kd.zau)); exact HO_7.out⟩,⟨by repeat (first | (with_reducible first | exact HI0.out | apply zk.alloc | apply zk.drewN | apply zk.drew | apply zk.zao | apply zk.zaq) | exact HI0.out)⟩,⟨by repeat (first | (with_reducible first | exact HK.out | apply zu.zaQ | apply zR | apply zW | apply zS) | exact HK.out)⟩,⟨by repeat (first | (with_reducible first | exact HB.out | apply ze | apply zb | apply zf | refine zi ?_ (zk.ge HI0.out)) | exact HB.out)⟩⟩
    case rest =>
     clear HC5
     try clear c1
     try clear c2
     try clear p2
     try clear c3
     try clear c4
     try clear c4b0
     try clear c7
     try clear c8
     try clear c8b0
     try clear c10
     try clear p2
     obtain ⟨kq,x7_4,x1001_4,x1002_4,HA,HJ4,HO_7,HI0,HK,HB⟩ := hcut
     cases kq with
     | zero => exact absurd HA.out (by simp [zA.j2])
     | succ kj4 =>
      have H := HA.out
      clear HA
      simp only [zA.j2] at H
      have HC18 := za.mk H
      clear H
      go_upto_region 7 with (fail)
      go_cut [37] (fun v37 wc => ∃ (kq : Nat) (x37_17 : Bool),v37 = .bool x37_17 ∧ za (zA.j3 kq a1 a2 x7_4 x8_1 x37_17 s0_0 x1001_4 x1002_4 = some (r1,r2,r3)) ∧ za (kq ≤ kj4) ∧ za (Kd.R k63 63 wc w.heap.size (fun _ => True) u7 x7_4) ∧ za (zk w0 wc g s0_0 x1001_4 x1002_4) ∧ za (zu w wc g none) ∧ za (Below w0.heap.size w0 wc))
      case first =>
       have H := HC18.out
       clear HC18
       by_cases c19 : x8_1 = a1
       ·rw [if_pos c19] at H
        have c19b0 : (x8_1 == a1) = true := beq_iff_eq.mpr c19
        have c19b1 : (x8_1 != a1) = false := bne_eq_false_iff_eq.mpr c19
        clear c19
        (first | rw [c19b0] | (simp only [zad,zaf]; rw [c19b0]) | skip)
        have H' := za.mk H
        clear H
        go_wp2
        go_meet
        case rel => exact ⟨_,(true),qf,H',⟨by have := HK1.out; have := HJ4.out; first | omega | exact Nat.le_refl _⟩,⟨by (with_reducible repeat (first | apply Kd.zal | apply Kd.zam | apply Kd.zau)); exact HO_7.out⟩,⟨by repeat (first | (with_reducible first | exact HI0.out | apply zk.alloc | apply zk.drewN | apply zk.drew | apply zk.zao | apply zk.zaq) | exact HI0.out)⟩,⟨by repeat (first | (with_reducible first | exact HK.out | apply zu.zaQ | apply zR | apply zW | apply zS) | exact HK.out)⟩,⟨by repeat (first | (with_reducible first | exact HB.out | apply ze | apply zb | apply zf | refine zi ?_ (zk.ge HI0.out)) | exact HB.out)⟩⟩
       ·rw [if_neg c19] at H
        have c19b0 : (x8_1 == a1) = false := beq_eq_false_iff_ne.mpr c19
        have c19b1 : (x8_1 != a1) = true := bne_iff_ne.mpr c19
        (first | rw [c19b0] | (simp only [zad,zaf]; rw [c19b0]) | skip)
        have H' := za.mk H
        clear H
        obtain ⟨Ao20,co20,eo20⟩ := Kd.zbr HO_7.out
        subst eo20
        go_wp2
        go_meet
        case rel => exact ⟨_,(((x7_4.length : Int) == a2)),qf,H',⟨by have := HK1.out; have := HJ4.out; first | omega | exact Nat.le_refl _⟩,⟨by (with_reducible repeat (first | apply Kd.zal | apply Kd.zam | apply Kd.zau)); exact HO_7.out⟩,⟨by repeat (first | (with_reducible first | exact HI0.out | apply zk.alloc | apply zk.drewN | apply zk.drew | apply zk.zao | apply zk.zaq) | exact HI0.out)⟩,⟨by repeat (first | (with_reducible first | exact HK.out | apply zu.zaQ | apply zR | apply zW | apply zS) | exact HK.out)⟩,⟨by repeat (first | (with_reducible first | exact HB.out | apply ze | apply zb | apply zf | refine zi ?_ (zk.ge HI0.out)) | exact HB.out)⟩⟩
      case rest =>
       clear HC18
       try clear c1
       try clear c2
       try clear p2
       try clear c3
       try clear c4
       try clear c4b0
       try clear c7
       try clear c8
       try clear c8b0
       try clear c10
       try clear c19
       try clear c19b0
       try clear c19b1
       try clear p2
       obtain ⟨kq,x37_17,rfl,HA,HJ17,HO_7,HI0,HK,HB⟩ := hcut
       cases kq with
       | zero => exact absurd HA.out (by simp [zA.j3])
       | succ kj17 =>
        have H := HA.out
        clear HA
        simp only [zA.j3] at H
        by_cases c21 : x37_17 = true
        ·subst c21
         have H1 : (zA.l0 kj17 a1 a2 x7_4 (wrap64 (x8_1 + 1)) s0_0 x1001_4 x1002_4) = some (r1,r2,r3) := by rw [if_pos rfl] at H; exact H
         clear H
         have H := H1
         clear H1
         have H' := za.mk H
         clear H
         go_wp2
         go_roundg kj17
         case measure => have := HK1.out; have := HJ4.out; have := HJ17.out; omega
         case rel => exact ⟨(x7_4),(wrap64 (x8_1 + 1)),(x1001_4),(x1002_4),qf,H',⟨by have := HK1.out; have := HJ4.out; have := HJ17.out; omega⟩,⟨by (with_reducible repeat (first | apply Kd.zal | apply Kd.zam | apply Kd.zau)); exact HO_7.out⟩,⟨by repeat (first | (with_reducible first | exact HI0.out | apply zk.alloc | apply zk.drewN | apply zk.drew | apply zk.zao | apply zk.zaq) | exact HI0.out)⟩,⟨by repeat (first | (with_reducible first | exact HK.out | apply zu.zaQ | apply zR | apply zW | apply zS) | exact HK.out)⟩,⟨by repeat (first | (with_reducible first | exact HB.out | apply ze | apply zb | apply zf | refine zi ?_ (zk.ge HI0.out)) | exact HB.out)⟩⟩
        ·replace c21 := Bool.eq_false_iff.mpr c21
         subst c21
         have H1 : ((zak.f s0_0 x1001_4 x1002_4 4).bind fun bt260 => (if bt260.1 = 0 then ((zat.f s0_0 bt260.2.1 bt260.2.2).bind fun bt263 => (if x7_4.length < 4398046511104 then (zA.l0 kj17 a1 a2 (x7_4 ++ [(⟨2,x8_1,bt263.1⟩ : S63)]) (wrap64 (x8_1 + 1)) s0_0 bt263.2.1 bt263.2.2) else (none))) else (if bt260.1 = 1 then (if x7_4.length < 4398046511104 then (zA.l0 kj17 a1 a2 (x7_4 ++ [(⟨3,x8_1,(⟨#[]⟩ : ByteArray)⟩ : S63)]) (wrap64 (x8_1 + 1)) s0_0 bt260.2.1 bt260.2.2) else (none)) else (zA.l0 kj17 a1 a2 x7_4 (wrap64 (x8_1 + 1)) s0_0 bt260.2.1 bt260.2.2)))) = some (r1,r2,r3) := by rw [if_neg (show ¬ (false = true) by decide)] at H; exact H
         clear H
         have H := H1
         clear H1
         replace H := Option.bind_eq_some_iff.mp H
         obtain ⟨⟨t260,t261,t262⟩,A220,H⟩ := H
         replace H : (if t260 = 0 then ((zat.f s0_0 t261 t262).bind fun bt263 => (if x7_4.length < 4398046511104 then (zA.l0 kj17 a1 a2 (x7_4 ++ [(⟨2,x8_1,bt263.1⟩ : S63)]) (wrap64 (x8_1 + 1)) s0_0 bt263.2.1 bt263.2.2) else (none))) else (if t260 = 1 then (if x7_4.length < 4398046511104 then (zA.l0 kj17 a1 a2 (x7_4 ++ [(⟨3,x8_1,(⟨#[]⟩ : ByteArray)⟩ : S63)]) (wrap64 (x8_1 + 1)) s0_0 t261 t262) else (none)) else (zA.l0 kj17 a1 a2 x7_4 (wrap64 (x8_1 + 1)) s0_0 t261 t262))) = some (r1,r2,r3) := H
         have A22 := za.mk A220
         clear A220
         by_cases c23 : t260 = 0
         ·rw [if_pos c23] at H
          have c23b0 : (t260 == 0) = true := beq_iff_eq.mpr c23
          have c23b1 : (t260 != 0) = false := bne_eq_false_iff_eq.mpr c23
          clear c23
          replace H := Option.bind_eq_some_iff.mp H
          obtain ⟨⟨t263,t264,t265⟩,A240,H⟩ := H
          replace H : (if x7_4.length < 4398046511104 then (zA.l0 kj17 a1 a2 (x7_4 ++ [(⟨2,x8_1,t263⟩ : S63)]) (wrap64 (x8_1 + 1)) s0_0 t264 t265) else (none)) = some (r1,r2,r3) := H
          have A24 := za.mk A240
          clear A240
          by_cases c25 : x7_4.length < 4398046511104
          ·rw [if_pos c25] at H
           have LMc25 := za.mk c25
           clear c25
           obtain ⟨y266,hy266⟩ : ∃ y_ : List (S63),y_ = (x7_4 ++ [(⟨2,x8_1,t263⟩ : S63)]) := ⟨_,rfl⟩
           replace H : (zA.l0 kj17 a1 a2 y266 (wrap64 (x8_1 + 1)) s0_0 t264 t265) = some (r1,r2,r3) := by first | (rw [hy266]; with_reducible exact H) | (have H2_ := (Option.bind_some _ _).symm.trans H; rw [hy266]; with_reducible exact H2_) | (have H2_ := (Option.bind_some _ _).symm.trans H; with_reducible exact H2_) | with_reducible exact H | (rw [hy266]; exact H) | exact H
           have Ny266 := za.mk hy266
           clear hy266
           have H' := za.mk H
           clear H
           go_wp2_with (first | ((with_reducible refine zz (f := 28) rfl ?_); refine zT (some 39) rfl rfl Try.func28 qi rfl #[.pointer (some ⟨g,0,none⟩), .int .i64 4] rfl qa ?_; (with_reducible refine (zak.calls g s0_0 x1001_4 x1002_4 4 t260 t261 t262 w0 _ ?side1 ?side2 A22.out).mono ?_); (case side1 => exact qh HI0.out); (case side2 => exact qm HB.out HI0.out); rintro e w26 ⟨rfl,hi,hb,hk⟩; refine ⟨_,rfl,?_⟩; have n0_ := za.mk (Kd.zaA (Kd.zcf (zk.apart (show zk w0 _ g s0_0 x1001_4 x1002_4 from by repeat (first | (with_reducible first | exact HI0.out | apply zk.alloc | apply zk.drewN | apply zk.drew | apply zk.zao | apply zk.zaq) | exact HI0.out)) (qp HO_7.out) qt) hk (fun _ h => h.2)) (fun _ h => h.1)); have n1_ := za.mk (zu.trans (qg HK.out) hk (.inl rfl)); have n2_ := za.mk (hb); have n3_ := za.mk (hi); clear HO_7; clear HK; clear HB; clear HI0; have HO_7 := n0_; have HK := n1_; have HB := n2_; have HI0 := n3_; clear n0_ n1_ n2_ n3_; (try clear hb); (try clear hb2); (try clear hk); (try clear hi)) | ((with_reducible refine zz (f := 35) rfl ?_); refine zT (some 45) rfl rfl Try.func35 qi rfl #[.pointer (some ⟨g,0,none⟩)] rfl qa ?_; (with_reducible refine (zat.calls g s0_0 t261 t262 t263 t264 t265 w0 _ ?side1 ?side2 A24.out).mono ?_); (case side1 => exact qh HI0.out); (case side2 => exact qm HB.out HI0.out); rintro e w27 ⟨rfl,hi,hb,hk⟩; refine ⟨_,rfl,?_⟩; have n0_ := za.mk (Kd.zaA (Kd.zcf (zk.apart (show zk w0 _ g s0_0 t261 t262 from by repeat (first | (with_reducible first | exact HI0.out | apply zk.alloc | apply zk.drewN | apply zk.drew | apply zk.zao | apply zk.zaq) | exact HI0.out)) (qp HO_7.out) qt) hk (fun _ h => h.2)) (fun _ h => h.1)); have n1_ := za.mk (zu.trans (qg HK.out) hk (.inl rfl)); have n2_ := za.mk (hb); have n3_ := za.mk (hi); clear HO_7; clear HK; clear HB; clear HI0; have HO_7 := n0_; have HK := n1_; have HB := n2_; have HI0 := n3_; clear n0_ n1_ n2_ n3_; (try clear hb); (try clear hb2); (try clear hk); (try clear hi)) | ((with_reducible refine zbf (b := .append) (xs := #[.tmp 42, .tmp 47]) rfl ?_); (try (refine zbZ qy ?_; dsimp only)); at_builtin; refine Kd.zcm k63 w.heap.size rfl (.tmp 42) (.tmp 47) 31 63 (.agg #[(.int .i64 0),(.int .i64 0),(.string ⟨#[]⟩)]) 32 rfl Try.underlying31 zcg rfl qt qj u7 x7_4 (⟨2,x8_1,t263⟩ : S63) [.int .i64 2, .int .i64 x8_1, .string t263] (fun _ => True) (fun _ => False) rfl rfl ?aP (fun _ hk => hk.elim) ?aF ?aO (Below.refl _ _) ?aS ?aL ?_; (case aP => exact zbs _ _ _ (⟨2,x8_1,t263⟩ : S63)); (case aF => exact (fun _ _ => trivial)); (case aO => exact (qp HO_7.out)); (case aS => exact (zci (w := w) (g := g) (row := none) (qg HK.out))); (case aL => have := LMc25.out; omega); intro v267 w28 ho hb hg hat; rw [← Ny266.out] at ho; have n0_ := za.mk (zk.grown (qh HI0.out) hg (zk.own_ne HI0.out HO_7.out qt)); have n1_ := za.mk (zbU (qm HB.out HI0.out) HL.out hb); have n2_ := za.mk (zu.trans (qg HK.out) (zu.zdf hg g) (Kd.zdQ HO_7.out)); have n3_ := za.mk (ho); clear HI0; clear HB; clear HK; clear HO_7; have HI0 := n0_; have HB := n1_; have HK := n2_; have HO268 := n3_; clear n0_ n1_ n2_ n3_; clear ho hb hg hat))
           go_roundg kj17
           case measure => have := HK1.out; have := HJ4.out; have := HJ17.out; omega
           case rel => exact ⟨(y266),(wrap64 (x8_1 + 1)),(t264),(t265),qf,H',⟨by have := HK1.out; have := HJ4.out; have := HJ17.out; omega⟩,⟨by (with_reducible repeat (first | apply Kd.zal | apply Kd.zam | apply Kd.zau)); exact HO268.out⟩,⟨by repeat (first | (with_reducible first | exact HI0.out | apply zk.alloc | apply zk.drewN | apply zk.drew | apply zk.zao | apply zk.zaq) | exact HI0.out)⟩,⟨by repeat (first | (with_reducible first | exact HK.out | apply zu.zaQ | apply zR | apply zW | apply zS) | exact HK.out)⟩,⟨by repeat (first | (with_reducible first | exact HB.out | apply ze | apply zb | apply zf | refine zi ?_ (zk.ge HI0.out)) | exact HB.out)⟩⟩
          ·rw [if_neg c25] at H
           exact absurd H qz
         ·rw [if_neg c23] at H
          have c23b0 : (t260 == 0) = false := beq_eq_false_iff_ne.mpr c23
          have c23b1 : (t260 != 0) = true := bne_iff_ne.mpr c23
          by_cases c29 : t260 = 1
          ·rw [if_pos c29] at H
           have c29b0 : (t260 == 1) = true := beq_iff_eq.mpr c29
           have c29b1 : (t260 != 1) = false := bne_eq_false_iff_eq.mpr c29
           clear c29
           by_cases c30 : x7_4.length < 4398046511104
           ·rw [if_pos c30] at H
            have LMc30 := za.mk c30
            clear c30
            obtain ⟨y269,hy269⟩ : ∃ y_ : List (S63),y_ = (x7_4 ++ [(⟨3,x8_1,(⟨#[]⟩ : ByteArray)⟩ : S63)]) := ⟨_,rfl⟩
            replace H : (zA.l0 kj17 a1 a2 y269 (wrap64 (x8_1 + 1)) s0_0 t261 t262) = some (r1,r2,r3) := by first | (rw [hy269]; with_reducible exact H) | (have H2_ := (Option.bind_some _ _).symm.trans H; rw [hy269]; with_reducible exact H2_) | (have H2_ := (Option.bind_some _ _).symm.trans H; with_reducible exact H2_) | with_reducible exact H | (rw [hy269]; exact H) | exact H
            have Ny269 := za.mk hy269
            clear hy269
            have H' := za.mk H
            clear H
            go_wp2_with (first | ((with_reducible refine zz (f := 28) rfl ?_); refine zT (some 39) rfl rfl Try.func28 qi rfl #[.pointer (some ⟨g,0,none⟩), .int .i64 4] rfl qa ?_; (with_reducible refine (zak.calls g s0_0 x1001_4 x1002_4 4 t260 t261 t262 w0 _ ?side1 ?side2 A22.out).mono ?_); (case side1 => exact qh HI0.out); (case side2 => exact qm HB.out HI0.out); rintro e w31 ⟨rfl,hi,hb,hk⟩; refine ⟨_,rfl,?_⟩; have n0_ := za.mk (Kd.zaA (Kd.zcf (zk.apart (show zk w0 _ g s0_0 x1001_4 x1002_4 from by repeat (first | (with_reducible first | exact HI0.out | apply zk.alloc | apply zk.drewN | apply zk.drew | apply zk.zao | apply zk.zaq) | exact HI0.out)) (qp HO_7.out) qt) hk (fun _ h => h.2)) (fun _ h => h.1)); have n1_ := za.mk (zu.trans (qg HK.out) hk (.inl rfl)); have n2_ := za.mk (hb); have n3_ := za.mk (hi); clear HO_7; clear HK; clear HB; clear HI0; have HO_7 := n0_; have HK := n1_; have HB := n2_; have HI0 := n3_; clear n0_ n1_ n2_ n3_; (try clear hb); (try clear hb2); (try clear hk); (try clear hi)) | ((with_reducible refine zbf (b := .append) (xs := #[.tmp 51, .tmp 54]) rfl ?_); (try (refine zbZ qy ?_; dsimp only)); at_builtin; refine Kd.zcm k63 w.heap.size rfl (.tmp 51) (.tmp 54) 31 63 (.agg #[(.int .i64 0),(.int .i64 0),(.string ⟨#[]⟩)]) 32 rfl Try.underlying31 zcg rfl qt qj u7 x7_4 (⟨3,x8_1,(⟨#[]⟩ : ByteArray)⟩ : S63) [.int .i64 3, .int .i64 x8_1, .string (⟨#[]⟩ : ByteArray)] (fun _ => True) (fun _ => False) rfl rfl ?aP (fun _ hk => hk.elim) ?aF ?aO (Below.refl _ _) ?aS ?aL ?_; (case aP => exact zbs _ _ _ (⟨3,x8_1,(⟨#[]⟩ : ByteArray)⟩ : S63)); (case aF => exact (fun _ _ => trivial)); (case aO => exact (qp HO_7.out)); (case aS => exact (zci (w := w) (g := g) (row := none) (qg HK.out))); (case aL => have := LMc30.out; omega); intro v270 w32 ho hb hg hat; rw [← Ny269.out] at ho; have n0_ := za.mk (zk.grown (qh HI0.out) hg (zk.own_ne HI0.out HO_7.out qt)); have n1_ := za.mk (zbU (qm HB.out HI0.out) HL.out hb); have n2_ := za.mk (zu.trans (qg HK.out) (zu.zdf hg g) (Kd.zdQ HO_7.out)); have n3_ := za.mk (ho); clear HI0; clear HB; clear HK; clear HO_7; have HI0 := n0_; have HB := n1_; have HK := n2_; have HO271 := n3_; clear n0_ n1_ n2_ n3_; clear ho hb hg hat))
            go_roundg kj17
            case measure => have := HK1.out; have := HJ4.out; have := HJ17.out; omega
            case rel => exact ⟨(y269),(wrap64 (x8_1 + 1)),(t261),(t262),qf,H',⟨by have := HK1.out; have := HJ4.out; have := HJ17.out; omega⟩,⟨by (with_reducible repeat (first | apply Kd.zal | apply Kd.zam | apply Kd.zau)); exact HO271.out⟩,⟨by repeat (first | (with_reducible first | exact HI0.out | apply zk.alloc | apply zk.drewN | apply zk.drew | apply zk.zao | apply zk.zaq) | exact HI0.out)⟩,⟨by repeat (first | (with_reducible first | exact HK.out | apply zu.zaQ | apply zR | apply zW | apply zS) | exact HK.out)⟩,⟨by repeat (first | (with_reducible first | exact HB.out | apply ze | apply zb | apply zf | refine zi ?_ (zk.ge HI0.out)) | exact HB.out)⟩⟩
           ·rw [if_neg c30] at H
            exact absurd H qz
          ·rw [if_neg c29] at H
           have c29b0 : (t260 == 1) = false := beq_eq_false_iff_ne.mpr c29
           have c29b1 : (t260 != 1) = true := bne_iff_ne.mpr c29
           have H' := za.mk H
           clear H
           go_wp2_with (first | ((with_reducible refine zz (f := 28) rfl ?_); refine zT (some 39) rfl rfl Try.func28 qi rfl #[.pointer (some ⟨g,0,none⟩), .int .i64 4] rfl qa ?_; (with_reducible refine (zak.calls g s0_0 x1001_4 x1002_4 4 t260 t261 t262 w0 _ ?side1 ?side2 A22.out).mono ?_); (case side1 => exact qh HI0.out); (case side2 => exact qm HB.out HI0.out); rintro e w33 ⟨rfl,hi,hb,hk⟩; refine ⟨_,rfl,?_⟩; have n0_ := za.mk (Kd.zaA (Kd.zcf (zk.apart (show zk w0 _ g s0_0 x1001_4 x1002_4 from by repeat (first | (with_reducible first | exact HI0.out | apply zk.alloc | apply zk.drewN | apply zk.drew | apply zk.zao | apply zk.zaq) | exact HI0.out)) (qp HO_7.out) qt) hk (fun _ h => h.2)) (fun _ h => h.1)); have n1_ := za.mk (zu.trans (qg HK.out) hk (.inl rfl)); have n2_ := za.mk (hb); have n3_ := za.mk (hi); clear HO_7; clear HK; clear HB; clear HI0; have HO_7 := n0_; have HK := n1_; have HB := n2_; have HI0 := n3_; clear n0_ n1_ n2_ n3_; (try clear hb); (try clear hb2); (try clear hk); (try clear hi)))
           go_roundg kj17
           case measure => have := HK1.out; have := HJ4.out; have := HJ17.out; omega
           case rel => exact ⟨(x7_4),(wrap64 (x8_1 + 1)),(t261),(t262),qf,H',⟨by have := HK1.out; have := HJ4.out; have := HJ17.out; omega⟩,⟨by (with_reducible repeat (first | apply Kd.zal | apply Kd.zam | apply Kd.zau)); exact HO_7.out⟩,⟨by repeat (first | (with_reducible first | exact HI0.out | apply zk.alloc | apply zk.drewN | apply zk.drew | apply zk.zao | apply zk.zaq) | exact HI0.out)⟩,⟨by repeat (first | (with_reducible first | exact HK.out | apply zu.zaQ | apply zR | apply zW | apply zS) | exact HK.out)⟩,⟨by repeat (first | (with_reducible first | exact HB.out | apply ze | apply zb | apply zf | refine zi ?_ (zk.ge HI0.out)) | exact HB.out)⟩⟩
   ·rw [if_neg c4] at H
    have c4b0 : decide (x8_1 ≤ a1) = false := decide_eq_false c4
    clear c4
    simp only [Option.some.injEq,Prod.mk.injEq] at H
    obtain ⟨rfl,rfl,rfl⟩ := H
    go_wp2
    go_ret
    exact ⟨_,by first | rfl | (simp [zy,zx] <;> rfl) | (simp [*,zy,zx] <;> rfl),by (with_reducible repeat (first | apply Kd.zal | apply Kd.zam | apply Kd.zau)); exact HO_7.out,by repeat (first | (with_reducible first | exact HI0.out | apply zk.alloc | apply zk.drewN | apply zk.drew | apply zk.zao | apply zk.zaq) | exact HI0.out),by repeat (first | (with_reducible first | exact HB.out | apply ze | apply zb | apply zf | refine zi ?_ (zk.ge HI0.out)) | exact HB.out),by repeat (first | (with_reducible first | exact HK.out | apply zu.zaQ | apply zR | apply zW | apply zS) | exact HK.out)⟩
def zcG.f  : Option ((List (S63))) := (zb3.f 1 (⟨#[98,101,97]⟩ : ByteArray)).bind fun bt168 => ((zcb.f 2 (⟨#[99,105,100]⟩ : ByteArray)).bind fun bt171 => (some (([(⟨bt168.1,bt168.2.1,bt168.2.2⟩ : S63),(⟨bt171.1,bt171.2.1,bt171.2.2⟩ : S63)] : List (S63)))))
set_option maxHeartbeats 8000000 in
set_option maxRecDepth 100000 in
theorem zcG.calls  (r : List (S63)) (w : World) (h : zcG.f  = some r) :
  Calls Try.prog 60 #[] w fun e w' => ∃ v0_ : Value,e = .returned (v0_) ∧ Kd.R k63 63 w' w.heap.size (fun _ => True) v0_ r ∧ Below w.heap.size w w' := by
 have HB := za.mk (Below.refl w.heap.size w)
 have H : ((zb3.f 1 (⟨#[98,101,97]⟩ : ByteArray)).bind fun bt168 => ((zcb.f 2 (⟨#[99,105,100]⟩ : ByteArray)).bind fun bt171 => (some (([(⟨bt168.1,bt168.2.1,bt168.2.2⟩ : S63),(⟨bt171.1,bt171.2.1,bt171.2.2⟩ : S63)] : List (S63)))))) = some r := h
 clear h
 replace H := Option.bind_eq_some_iff.mp H
 obtain ⟨⟨t168,t169,t170⟩,A10,H⟩ := H
 replace H : ((zcb.f 2 (⟨#[99,105,100]⟩ : ByteArray)).bind fun bt171 => (some (([(⟨t168,t169,t170⟩ : S63),(⟨bt171.1,bt171.2.1,bt171.2.2⟩ : S63)] : List (S63))))) = some r := H
 have A1 := za.mk A10
 clear A10
 replace H := Option.bind_eq_some_iff.mp H
 obtain ⟨⟨t171,t172,t173⟩,A20,H⟩ := H
 replace H : (some (([(⟨t168,t169,t170⟩ : S63),(⟨t171,t172,t173⟩ : S63)] : List (S63)))) = some r := H
 have A2 := za.mk A20
 clear A20
 obtain ⟨y174,hy174⟩ : ∃ y_ : List (S63),y_ = (([(⟨t168,t169,t170⟩ : S63),(⟨t171,t172,t173⟩ : S63)] : List (S63))) := ⟨_,rfl⟩
 replace H : (some y174) = some r := by first | (rw [hy174]; with_reducible exact H) | (have H2_ := (Option.bind_some _ _).symm.trans H; rw [hy174]; with_reducible exact H2_) | (have H2_ := (Option.bind_some _ _).symm.trans H; with_reducible exact H2_) | with_reducible exact H | (rw [hy174]; exact H) | exact H
 have Ny174 := za.mk hy174
 clear hy174
 obtain rfl := Option.some.inj H
 go_enter Try.func60,Try.ntmps60
 go_wp2_with (first | ((with_reducible refine zz (f := 61) rfl ?_); refine zT (some 1) rfl rfl Try.func61 qi rfl #[.int .i64 1, .string (⟨#[98,101,97]⟩ : ByteArray)] rfl qa ?_; (with_reducible refine (zb3.calls 1 (⟨#[98,101,97]⟩ : ByteArray) t168 t169 t170 _ A1.out).mono ?_); rintro e w3 ⟨rfl,hb⟩; refine ⟨_,rfl,?_⟩; have n0_ := za.mk (zq (qc HB.out) hb); clear HB; have HB := n0_; clear n0_; (try clear hb); (try clear hb2); (try clear hk); (try clear hi)) | ((with_reducible refine zz (f := 85) rfl ?_); refine zT (some 2) rfl rfl Try.func85 qi rfl #[.int .i64 2, .string (⟨#[99,105,100]⟩ : ByteArray)] rfl qa ?_; (with_reducible refine (zcb.calls 2 (⟨#[99,105,100]⟩ : ByteArray) t171 t172 t173 _ A2.out).mono ?_); rintro e w4 ⟨rfl,hb⟩; refine ⟨_,rfl,?_⟩; have n0_ := za.mk (zq (qc HB.out) hb); clear HB; have HB := n0_; clear n0_; (try clear hb); (try clear hb2); (try clear hk); (try clear hi)) | ((with_reducible refine zaE (N := 3) rfl ?_); refine Kd.zee k63 _ 63 ?hg (N := 3) ?hd (xs := ([(⟨t168,t169,t170⟩ : S63),(⟨t171,t172,t173⟩ : S63)] : List (S63))) (inner := [.int .i64 t168, .int .i64 t169, .string t170, .int .i64 t171, .int .i64 t172, .string t173]) (ok := fun _ => True) (okp := fun _ => True) ?hr ?hp (fun _ hk => hk) trivial (Below.refl _ _) (Nat.le_refl _) qz ?_; (case hd => rfl); (case hg => rfl); (case hr => exact qq); (case hp => exact (zan.c3 (show Kd.M k63 _ _ _ (⟨t168,t169,t170⟩ : S63) [.int .i64 t168, .int .i64 t169, .string t170] from (zbs _ _ _ (⟨t168,t169,t170⟩ : S63) )) (zan.c3 (show Kd.M k63 _ _ _ (⟨t171,t172,t173⟩ : S63) [.int .i64 t171, .int .i64 t172, .string t173] from (zbs _ _ _ (⟨t171,t172,t173⟩ : S63) )) (zan.none _ _)))); intro v175 w5 ho6 hb hg_ hnew_; clear hg_ hnew_; (first | rw [← Ny174.out] at ho6 | (simp only [Int.reduceToNat] at ho6; rw [← Ny174.out] at ho6)); have n0_ := za.mk (Kd.zaT ho6 (zC (qc HB.out))); have n1_ := za.mk (zq (qc HB.out) hb); clear HB; have HO176 := n0_; have HB := n1_; clear n0_ n1_; clear hb ho6))
 go_ret
 exact ⟨_,by first | rfl | (simp [zy,zx] <;> rfl) | (simp [*,zy,zx] <;> rfl),by (with_reducible repeat (first | apply Kd.zal | apply Kd.zam | apply Kd.zau)); exact HO176.out,by repeat (first | (with_reducible first | exact HB.out | apply ze | apply zb | apply zf) | exact HB.out)⟩
def zcJ.f (a0 : Int) : Option (Int × Int × ByteArray) := some (3,a0,(⟨#[]⟩ : ByteArray))
set_option maxHeartbeats 8000000 in
set_option maxRecDepth 100000 in
theorem zcJ.calls (a0 : Int) (r1 : Int) (r2 : Int) (r3 : ByteArray) (w : World) (h : zcJ.f a0 = some (r1,r2,r3)) :
  Calls Try.prog 62 #[.int .i64 a0] w fun e w' => e = .returned (.agg #[.int .i64 r1, .int .i64 r2, .string r3]) ∧ Below w.heap.size w w' := by
 have hu63 := Try.underlying63
 have HB := za.mk (Below.refl w.heap.size w)
 have H : (some (3,a0,(⟨#[]⟩ : ByteArray))) = some (r1,r2,r3) := h
 clear h
 simp only [Option.some.injEq,Prod.mk.injEq] at H
 obtain ⟨rfl,rfl,rfl⟩ := H
 go_enter Try.func62,Try.ntmps62
 go_wp2_with (first | ((with_reducible refine zaE (N := 2) rfl ?_); refine zaV ?hg (N := 2) ?hd (cs := #[.int .i64 0, .int .i64 0, .string (⟨#[]⟩ : ByteArray)]) (t := 63) ?hr ?_; (case hd => rfl); (case hg => rfl); (case hr => exact qq); intro gb177 hg w2 hbox hb; have n0_ := za.mk (zq (qc HB.out) hb); have n1_ := za.mk (hbox); have n2_ := za.mk ((by rw [hg]; exact (zC (qc HB.out)) : w.heap.size ≤ gb177)); have n3_ := za.mk ((by rw [hg]; exact (zC (qc HB.out)) : w.heap.size ≤ gb177)); clear HB; have HB := n0_; have BK177 := n1_; have GW177 := n2_; have GE177 := n3_; clear n0_ n1_ n2_ n3_; clear hb hbox hg; have hcz3_0 : w2.cell? ⟨gb177,0,none⟩ = some (.int .i64 0) := (zh BK177.out 0).trans rfl; have hcz3_1 : w2.cell? ⟨gb177,1,none⟩ = some (.int .i64 0) := (zh BK177.out 1).trans rfl; have hcz3_2 : w2.cell? ⟨gb177,2,none⟩ = some (.string (⟨#[]⟩ : ByteArray)) := (zh BK177.out 2).trans rfl; have hfz3_0 := zo BK177.out 0; have hfz3_1 := zo BK177.out 1; have hfz3_2 := zo BK177.out 2))
 refine bodyPost_ret (results_cell_row rfl _ _ gb177 63 #[.int .i64 3, .int .i64 a0, .string (⟨#[]⟩ : ByteArray)] (0,0) _ rfl (by (with_reducible repeat (first | refine zm ?_ _ | refine zn ?_ | refine zl ?_ _)); refine zah (cs := #[.int .i64 3, .int .i64 a0, .string (⟨#[]⟩ : ByteArray)]) ?_ 2 _ rfl; (with_reducible repeat (first | refine zm ?_ _ | refine zn ?_ | refine zl ?_ _)); refine zah (cs := #[.int .i64 3, .int .i64 0, .string (⟨#[]⟩ : ByteArray)]) ?_ 1 _ rfl; (with_reducible repeat (first | refine zm ?_ _ | refine zn ?_ | refine zl ?_ _)); refine zah (cs := #[.int .i64 0, .int .i64 0, .string (⟨#[]⟩ : ByteArray)]) ?_ 0 _ rfl; (with_reducible repeat (first | refine zm ?_ _ | refine zn ?_ | refine zl ?_ _)); exact BK177.out) Try.underlying63 rfl qi) rfl ?_
 exact ⟨by first | rfl | (simp [zy,zx] <;> rfl) | (simp [*,zy,zx] <;> rfl),by repeat (first | (with_reducible first | exact HB.out | apply ze | apply zb | apply zf | refine zi ?_ GE177.out) | exact HB.out)⟩
def zcF.f  : Option ((List (List ByteArray))) := some (([(([(⟨#[97,110,110,97]⟩ : ByteArray),(⟨#[98,101,110]⟩ : ByteArray)] : List ByteArray)),(([(⟨#[97,110,110,97]⟩ : ByteArray),(⟨#[99,121,100]⟩ : ByteArray)] : List ByteArray))] : List (List ByteArray)))
set_option maxHeartbeats 8000000 in
set_option maxRecDepth 100000 in
theorem zcF.calls  (r : List (List ByteArray)) (w : World) (h : zcF.f  = some r) :
  Calls Try.prog 63 #[] w fun e w' => ∃ v0_ : Value,e = .returned (v0_) ∧ Kd.N (Kd.slice 9 Kd.string) 22 w' w.heap.size (fun k_ => (w.heap.size ≤ k_)) v0_ r ∧ Below w.heap.size w w' := by
 have HB := za.mk (Below.refl w.heap.size w)
 have H : (some (([(([(⟨#[97,110,110,97]⟩ : ByteArray),(⟨#[98,101,110]⟩ : ByteArray)] : List ByteArray)),(([(⟨#[97,110,110,97]⟩ : ByteArray),(⟨#[99,121,100]⟩ : ByteArray)] : List ByteArray))] : List (List ByteArray)))) = some r := h
 clear h
 obtain ⟨y178,hy178⟩ : ∃ y_ : List ByteArray,y_ = (([(⟨#[97,110,110,97]⟩ : ByteArray),(⟨#[98,101,110]⟩ : ByteArray)] : List ByteArray)) := ⟨_,rfl⟩
 replace H : (some (([y178,(([(⟨#[97,110,110,97]⟩ : ByteArray),(⟨#[99,121,100]⟩ : ByteArray)] : List ByteArray))] : List (List ByteArray)))) = some r := by first | (rw [hy178]; with_reducible exact H) | (have H2_ := (Option.bind_some _ _).symm.trans H; rw [hy178]; with_reducible exact H2_) | (have H2_ := (Option.bind_some _ _).symm.trans H; with_reducible exact H2_) | with_reducible exact H | (rw [hy178]; exact H) | exact H
 have Ny178 := za.mk hy178
 clear hy178
 obtain ⟨y181,hy181⟩ : ∃ y_ : List ByteArray,y_ = (([(⟨#[97,110,110,97]⟩ : ByteArray),(⟨#[99,121,100]⟩ : ByteArray)] : List ByteArray)) := ⟨_,rfl⟩
 replace H : (some (([y178,y181] : List (List ByteArray)))) = some r := by first | (rw [hy181]; with_reducible exact H) | (have H2_ := (Option.bind_some _ _).symm.trans H; rw [hy181]; with_reducible exact H2_) | (have H2_ := (Option.bind_some _ _).symm.trans H; with_reducible exact H2_) | with_reducible exact H | (rw [hy181]; exact H) | exact H
 have Ny181 := za.mk hy181
 clear hy181
 obtain ⟨y184,hy184⟩ : ∃ y_ : List (List ByteArray),y_ = (([y178,y181] : List (List ByteArray))) := ⟨_,rfl⟩
 replace H : (some y184) = some r := by first | (rw [hy184]; with_reducible exact H) | (have H2_ := (Option.bind_some _ _).symm.trans H; rw [hy184]; with_reducible exact H2_) | (have H2_ := (Option.bind_some _ _).symm.trans H; with_reducible exact H2_) | with_reducible exact H | (rw [hy184]; exact H) | exact H
 have Ny184 := za.mk hy184
 clear hy184
 obtain rfl := Option.some.inj H
 go_enter Try.func63,Try.ntmps63
 go_wp2_with (first | ((with_reducible refine zaE (N := 1) rfl ?_); refine Kd.zee Kd.string _ 9 ?hg (N := 1) ?hd (xs := ([(⟨#[97,110,110,97]⟩ : ByteArray),(⟨#[98,101,110]⟩ : ByteArray)] : List ByteArray)) (inner := [.string (⟨#[97,110,110,97]⟩ : ByteArray), .string (⟨#[98,101,110]⟩ : ByteArray)]) (ok := fun _ => True) (okp := fun _ => True) ?hr ?hp (fun _ hk => hk) trivial (Below.refl _ _) (Nat.le_refl _) qz ?_; (case hd => rfl); (case hg => rfl); (case hr => exact qq); (case hp => exact (zan.one (show Kd.M Kd.string _ _ _ (⟨#[97,110,110,97]⟩ : ByteArray) [.string (⟨#[97,110,110,97]⟩ : ByteArray)] from rfl) (zan.one (show Kd.M Kd.string _ _ _ (⟨#[98,101,110]⟩ : ByteArray) [.string (⟨#[98,101,110]⟩ : ByteArray)] from rfl) (zan.none _ _)))); intro v179 w1 ho2 hb hg_ hnew_; clear hg_ hnew_; (first | rw [← Ny178.out] at ho2 | (simp only [Int.reduceToNat] at ho2; rw [← Ny178.out] at ho2)); have n0_ := za.mk (Kd.zaT (Kd.zi2 (M := fun k_ => (w.heap.size ≤ k_)) ho2 (zC (qc HB.out)) (fun k_ h_ => h_)) (zC (qc HB.out))); have n1_ := za.mk (zq (qc HB.out) hb); clear HB; have HO180 := n0_; have HB := n1_; clear n0_ n1_; clear hb ho2) | ((with_reducible refine zaE (N := 2) rfl ?_); refine Kd.zee Kd.string _ 9 ?hg (N := 2) ?hd (xs := ([(⟨#[97,110,110,97]⟩ : ByteArray),(⟨#[99,121,100]⟩ : ByteArray)] : List ByteArray)) (inner := [.string (⟨#[97,110,110,97]⟩ : ByteArray), .string (⟨#[99,121,100]⟩ : ByteArray)]) (ok := fun _ => True) (okp := fun _ => True) ?hr ?hp (fun _ hk => hk) trivial (Below.refl _ _) (Nat.le_refl _) qz ?_; (case hd => rfl); (case hg => rfl); (case hr => exact qq); (case hp => exact (zan.one (show Kd.M Kd.string _ _ _ (⟨#[97,110,110,97]⟩ : ByteArray) [.string (⟨#[97,110,110,97]⟩ : ByteArray)] from rfl) (zan.one (show Kd.M Kd.string _ _ _ (⟨#[99,121,100]⟩ : ByteArray) [.string (⟨#[99,121,100]⟩ : ByteArray)] from rfl) (zan.none _ _)))); intro v182 w3 ho4 hb hg_ hnew_; clear hg_ hnew_; (first | rw [← Ny181.out] at ho4 | (simp only [Int.reduceToNat] at ho4; rw [← Ny181.out] at ho4)); have n0_ := za.mk (Kd.zhm (qp HO180.out) (Kd.zcU ho4) hb); have n1_ := za.mk (Kd.zaT (Kd.zfk (Kd.zi2 (M := fun k_ => (w.heap.size ≤ k_)) ho4 (zC (qc HB.out)) (fun k_ h_ => h_)) (Kd.zjN (qp HO180.out))) (zC (qc HB.out))); have n2_ := za.mk (zq (qc HB.out) hb); clear HO180; clear HB; have HO180 := n0_; have HO183 := n1_; have HB := n2_; clear n0_ n1_ n2_; clear hb ho4; obtain ⟨Ao5,co5,eo5⟩ := Kd.zbr HO180.out; subst eo5; obtain ⟨Ao6,co6,eo6⟩ := Kd.zbr HO183.out; subst eo6) | ((with_reducible refine zaE (N := 3) rfl ?_); refine Kd.zlp (Kd.slice 9 Kd.string) _ 22 ?hg (N' := 3) ?hd (xs := ([y178,y181] : List (List ByteArray))) (inner := [.slice Ao5 y178.length co5, .slice Ao6 y181.length co6]) (ok := (fun k_ => (w.heap.size ≤ k_))) (okp := (fun k_ => (w.heap.size ≤ k_))) ?hr ?hp (fun _ hk => hk) ((show ∀ k_,w3.heap.size ≤ k_ → (fun k_ => (w.heap.size ≤ k_)) k_ from fun k_ hk => (Nat.le_trans (zC (qc HB.out)) hk)) _ (Nat.le_refl _)) (Below.refl _ _) (Nat.le_refl _) qz ?_; (case hd => rfl); (case hg => rfl); (case hr => exact qq); (case hp => exact (zan.one (show Kd.FK (Kd.slice 9 Kd.string) _ _ y178 [.slice Ao5 y178.length co5] from (Kd.zfO (Kd.zb2 (Kd.zaA (ok' := (fun k_ => (w.heap.size ≤ k_))) (HO180.out) (fun k_ hk => hk.1.1))).2.1 (Kd.R_F (Kd.zaA (ok' := (fun k_ => (w.heap.size ≤ k_))) (HO180.out) (fun k_ hk => hk.1.1))))) (zan.one (show Kd.FK (Kd.slice 9 Kd.string) _ _ y181 [.slice Ao6 y181.length co6] from (Kd.zfO (Kd.zb2 (Kd.zaA (ok' := (fun k_ => (w.heap.size ≤ k_))) (HO183.out) (fun k_ hk => hk.1.1))).2.1 (Kd.R_F (Kd.zaA (ok' := (fun k_ => (w.heap.size ≤ k_))) (HO183.out) (fun k_ hk => hk.1.1))))) (zan.none _ _)))); intro v185 w7 ho8 hb hg_ hnew_; clear hg_ hnew_; (first | rw [← Ny184.out] at ho8 | (simp only [Int.reduceToNat] at ho8; rw [← Ny184.out] at ho8)); have n0_ := za.mk (Kd.zkt ho8 (zC (qc HB.out))); have n1_ := za.mk (zq (qc HB.out) hb); clear HB; clear HO180; clear HO183; have HO186 := n0_; have HB := n1_; clear n0_ n1_; clear hb ho8))
 go_ret
 exact ⟨_,by first | rfl | (simp [zy,zx] <;> rfl) | (simp [*,zy,zx] <;> rfl),by (with_reducible repeat (first | apply Kd.zky | apply Kd.zkJ | apply Kd.zlj)); exact HO186.out,by repeat (first | (with_reducible first | exact HB.out | apply ze | apply zb | apply zf) | exact HB.out)⟩
def za6.l0 : Nat → List Int → List Int → Int → Option (Bool)
 | 0,_,_,_ => none
 | k + 1,x0,x1,x5 => if x5 < (x0.length : Int) then (if 0 ≤ x5 then (if x5 < (x1.length : Int) then (if (rd x0 x5) = (rd x1 x5) then (za6.l0 k x0 x1 (wrap64 (x5 + 1))) else (some false)) else (none)) else (none)) else (some true)
def za6.f (k : Nat) (l0 : List Int) (l1 : List Int) : Option (Bool) := if (l0.length : Int) = (l1.length : Int) then (za6.l0 k l0 l1 0) else (some false)
set_option maxHeartbeats 8000000 in
set_option maxRecDepth 100000 in
theorem za6.calls (k : Nat) (A0 : Option Addr) (c0 : Nat) (l0 : List Int) (A1 : Option Addr) (c1 : Nat) (l1 : List Int) (r : Bool) (w : World) (hr0 : Kd.C (Kd.int .i64) w A0 l0.length l0) (hc0 : l0.length ≤ c0) (hr1 : Kd.C (Kd.int .i64) w A1 l1.length l1) (hc1 : l1.length ≤ c1) (h : za6.f k l0 l1 = some r) :
  Calls Try.prog 31 #[.slice A0 l0.length c0, .slice A1 l1.length c1] w fun e w' => e = .returned (.bool r) ∧ zw w w' := by
 have HR0 := za.mk hr0
 have HC0 := za.mk hc0
 clear hr0 hc0
 have HR1 := za.mk hr1
 have HC1 := za.mk hc1
 clear hr1 hc1
 have H : (if (l0.length : Int) = (l1.length : Int) then (za6.l0 k l0 l1 0) else (some false)) = some r := h
 clear h
 by_cases c3 : (l0.length : Int) = (l1.length : Int)
 ·rw [if_pos c3] at H
  have c3b0 : ((l0.length : Int) == (l1.length : Int)) = true := beq_iff_eq.mpr c3
  have c3b1 : ((l0.length : Int) != (l1.length : Int)) = false := bne_eq_false_iff_eq.mpr c3
  have c3b2 : (l0.length == l1.length) = true := by first | simpa using c3 | (simp at c3 ⊢; omega)
  clear c3
  have H' := za.mk H
  clear H
  go_enter Try.func31,Try.ntmps31
  go_wp2
  repeat (go_quiet (fail); try go_wp2)
  go_loopg [5] k (fun kq v5 w' => ∃ (x5_1 : Int),v5 = .int .i64 x5_1 ∧ za (za6.l0 kq l0 l1 x5_1 = some r) ∧ za (kq ≤ k) ∧ zw w w')
  case atStart => exact ⟨(0),qf,H',⟨Nat.le_refl _⟩,by repeat (first | exact zw.refl _ | apply zw.step)⟩
  case round =>
   clear H'
   try clear c1
   try clear p2
   try clear c3
   try clear c3b0
   try clear c3b1
   try clear c3b2
   obtain ⟨x5_1,rfl,HA,HK1,⟨m1,rfl⟩⟩ := hrel
   cases gk with
   | zero => exact absurd HA.out (by simp [za6.l0])
   | succ k1 =>
    have H := HA.out
    clear HA
    simp only [za6.l0] at H
    by_cases c4 : x5_1 < (l0.length : Int)
    ·rw [if_pos c4] at H
     have c4b0 : decide (x5_1 < (l0.length : Int)) = true := decide_eq_true c4
     clear c4
     by_cases c5 : 0 ≤ x5_1
     ·rw [if_pos c5] at H
      have c5b0 : decide (0 ≤ x5_1) = true := decide_eq_true c5
      clear c5
      by_cases c6 : x5_1 < (l1.length : Int)
      ·rw [if_pos c6] at H
       have c6b0 : decide (x5_1 < (l1.length : Int)) = true := decide_eq_true c6
       clear c6
       by_cases c7 : (rd l0 x5_1) = (rd l1 x5_1)
       ·rw [if_pos c7] at H
        have c7b0 : ((rd l0 x5_1) == (rd l1 x5_1)) = true := beq_iff_eq.mpr c7
        have c7b1 : ((rd l0 x5_1) != (rd l1 x5_1)) = false := bne_eq_false_iff_eq.mpr c7
        clear c7
        have H' := za.mk H
        clear H
        have p124 : 0 ≤ (x5_1 : Int) := of_decide_eq_true qd
        have q124 : x5_1 < (l0.length : Int) := of_decide_eq_true qd
        obtain ⟨ad124,e124,hx124_0⟩ := Kd.zd5 HR0.out x5_1 p124 q124
        cases e124
        replace p124 := eq_true p124
        replace q124 := eq_true q124
        have p125 : 0 ≤ (x5_1 : Int) := of_decide_eq_true qd
        have q125 : x5_1 < (l1.length : Int) := of_decide_eq_true qd
        obtain ⟨ad125,e125,hx125_0⟩ := Kd.zd5 HR1.out x5_1 p125 q125
        cases e125
        replace p125 := eq_true p125
        replace q125 := eq_true q125
        go_wp2
        repeat (go_quiet (fail); try go_wp2)
        go_roundg k1
        case measure => have := HK1.out; omega
        case rel => exact ⟨(wrap64 (x5_1 + 1)),qf,H',⟨by have := HK1.out; omega⟩,by repeat (first | exact zw.refl _ | apply zw.step)⟩
       ·rw [if_neg c7] at H
        have c7b0 : ((rd l0 x5_1) == (rd l1 x5_1)) = false := beq_eq_false_iff_ne.mpr c7
        have c7b1 : ((rd l0 x5_1) != (rd l1 x5_1)) = true := bne_iff_ne.mpr c7
        obtain rfl := Option.some.inj H
        have p124 : 0 ≤ (x5_1 : Int) := of_decide_eq_true qd
        have q124 : x5_1 < (l0.length : Int) := of_decide_eq_true qd
        obtain ⟨ad124,e124,hx124_0⟩ := Kd.zd5 HR0.out x5_1 p124 q124
        cases e124
        replace p124 := eq_true p124
        replace q124 := eq_true q124
        have p125 : 0 ≤ (x5_1 : Int) := of_decide_eq_true qd
        have q125 : x5_1 < (l1.length : Int) := of_decide_eq_true qd
        obtain ⟨ad125,e125,hx125_0⟩ := Kd.zd5 HR1.out x5_1 p125 q125
        cases e125
        replace p125 := eq_true p125
        replace q125 := eq_true q125
        go_wp2
        repeat (go_quiet (fail); try go_wp2)
        go_ret
        exact ⟨by first | rfl | (simp; done) | (simp [*]; done),by repeat (first | exact zw.refl _ | apply zw.step)⟩
      ·rw [if_neg c6] at H
       exact absurd H qz
     ·rw [if_neg c5] at H
      exact absurd H qz
    ·rw [if_neg c4] at H
     have c4b0 : decide (x5_1 < (l0.length : Int)) = false := decide_eq_false c4
     clear c4
     obtain rfl := Option.some.inj H
     go_wp2
     repeat (go_quiet (fail); try go_wp2)
     go_ret
     exact ⟨by first | rfl | (simp; done) | (simp [*]; done),by repeat (first | exact zw.refl _ | apply zw.step)⟩
 ·rw [if_neg c3] at H
  have c3b0 : ((l0.length : Int) == (l1.length : Int)) = false := beq_eq_false_iff_ne.mpr c3
  have c3b1 : ((l0.length : Int) != (l1.length : Int)) = true := bne_iff_ne.mpr c3
  have c3b2 : (l0.length == l1.length) = false := by first | simpa using c3 | (simp at c3 ⊢; omega)
  obtain rfl := Option.some.inj H
  go_enter Try.func31,Try.ntmps31
  go_wp2
  repeat (go_quiet (fail); try go_wp2)
  go_ret
  exact ⟨by first | rfl | (simp; done) | (simp [*]; done),by repeat (first | exact zw.refl _ | apply zw.step)⟩
def zaS.l0 : Nat → List Int → Int → Int → Int → Option (Int)
 | 0,_,_,_,_ => none
 | k + 1,x0,x1,x7,x8 => if x8 < x7 then (if 0 ≤ x8 then (if x8 < (x0.length : Int) then (if x1 = (rd x0 x8) then (some x8) else (zaS.l0 k x0 x1 x7 (wrap64 (x8 + 1)))) else (none)) else (none)) else (some (-1))
def zaS.f (k : Nat) (l0 : List Int) (a1 : Int) : Option (Int) := zaS.l0 k l0 a1 (l0.length : Int) 0
set_option maxHeartbeats 8000000 in
set_option maxRecDepth 100000 in
theorem zaS.calls (k : Nat) (A0 : Option Addr) (c0 : Nat) (l0 : List Int) (a1 : Int) (r : Int) (w : World) (hr0 : Kd.C (Kd.int .i64) w A0 l0.length l0) (hc0 : l0.length ≤ c0) (h : zaS.f k l0 a1 = some r) :
  Calls Try.prog 121 #[.slice A0 l0.length c0, .int .i64 a1] w fun e w' => e = .returned (.int .i64 r) ∧ zw w w' := by
 have HR0 := za.mk hr0
 have HC0 := za.mk hc0
 clear hr0 hc0
 have H : (zaS.l0 k l0 a1 (l0.length : Int) 0) = some r := h
 clear h
 have H' := za.mk H
 clear H
 go_enter Try.func121,Try.ntmps121
 go_wp2
 go_loopg [8] k (fun kq v8 w' => ∃ (x8_1 : Int),v8 = .int .i64 x8_1 ∧ za (zaS.l0 kq l0 a1 (l0.length : Int) x8_1 = some r) ∧ za (kq ≤ k) ∧ zw w w')
 case atStart => exact ⟨(0),qf,H',⟨Nat.le_refl _⟩,by repeat (first | exact zw.refl _ | apply zw.step)⟩
 case round =>
  clear H'
  try clear c1
  try clear p2
  obtain ⟨x8_1,rfl,HA,HK1,⟨m1,rfl⟩⟩ := hrel
  cases gk with
  | zero => exact absurd HA.out (by simp [zaS.l0])
  | succ k1 =>
   have H := HA.out
   clear HA
   simp only [zaS.l0] at H
   by_cases c3 : x8_1 < (l0.length : Int)
   ·rw [if_pos c3] at H
    have c3b0 : decide (x8_1 < (l0.length : Int)) = true := decide_eq_true c3
    clear c3
    by_cases c4 : 0 ≤ x8_1
    ·rw [if_pos c4] at H
     have c4b0 : decide (0 ≤ x8_1) = true := decide_eq_true c4
     clear c4
     by_cases c5 : x8_1 < (l0.length : Int)
     ·rw [if_pos c5] at H
      have c5b0 : decide (x8_1 < (l0.length : Int)) = true := decide_eq_true c5
      clear c5
      by_cases c6 : a1 = (rd l0 x8_1)
      ·rw [if_pos c6] at H
       have c6b0 : (a1 == (rd l0 x8_1)) = true := beq_iff_eq.mpr c6
       have c6b1 : (a1 != (rd l0 x8_1)) = false := bne_eq_false_iff_eq.mpr c6
       clear c6
       obtain rfl := Option.some.inj H
       have p125 : 0 ≤ (x8_1 : Int) := of_decide_eq_true qd
       have q125 : x8_1 < (l0.length : Int) := of_decide_eq_true qd
       obtain ⟨ad125,e125,hx125_0⟩ := Kd.zd5 HR0.out x8_1 p125 q125
       cases e125
       replace p125 := eq_true p125
       replace q125 := eq_true q125
       go_wp2
       go_ret
       exact ⟨by first | rfl | (simp; done) | (simp [*]; done),by repeat (first | exact zw.refl _ | apply zw.step)⟩
      ·rw [if_neg c6] at H
       have c6b0 : (a1 == (rd l0 x8_1)) = false := beq_eq_false_iff_ne.mpr c6
       have c6b1 : (a1 != (rd l0 x8_1)) = true := bne_iff_ne.mpr c6
       have H' := za.mk H
       clear H
       have p125 : 0 ≤ (x8_1 : Int) := of_decide_eq_true qd
       have q125 : x8_1 < (l0.length : Int) := of_decide_eq_true qd
       obtain ⟨ad125,e125,hx125_0⟩ := Kd.zd5 HR0.out x8_1 p125 q125
       cases e125
       replace p125 := eq_true p125
       replace q125 := eq_true q125
       go_wp2
       go_roundg k1
       case measure => have := HK1.out; omega
       case rel => exact ⟨(wrap64 (x8_1 + 1)),qf,H',⟨by have := HK1.out; omega⟩,by repeat (first | exact zw.refl _ | apply zw.step)⟩
     ·rw [if_neg c5] at H
      exact absurd H qz
    ·rw [if_neg c4] at H
     exact absurd H qz
   ·rw [if_neg c3] at H
    have c3b0 : decide (x8_1 < (l0.length : Int)) = false := decide_eq_false c3
    clear c3
    obtain rfl := Option.some.inj H
    go_wp2
    go_ret
    exact ⟨by first | rfl | (simp; done) | (simp [*]; done),by repeat (first | exact zw.refl _ | apply zw.step)⟩
def zbG.f (k : Nat) (l0 : List Int) (a1 : Int) : Option (Bool) := (zaS.f k l0 a1).bind fun t126 => (some (decide (t126 ≥ 0)))
set_option maxHeartbeats 8000000 in
set_option maxRecDepth 100000 in
theorem zbG.calls (k : Nat) (A0 : Option Addr) (c0 : Nat) (l0 : List Int) (a1 : Int) (r : Bool) (w : World) (hr0 : Kd.C (Kd.int .i64) w A0 l0.length l0) (hc0 : l0.length ≤ c0) (h : zbG.f k l0 a1 = some r) :
  Calls Try.prog 101 #[.slice A0 l0.length c0, .int .i64 a1] w fun e w' => e = .returned (.bool r) ∧ zw w w' := by
 have HR0 := za.mk hr0
 have HC0 := za.mk hc0
 clear hr0 hc0
 have H : ((zaS.f k l0 a1).bind fun t126 => (some (decide (t126 ≥ 0)))) = some r := h
 clear h
 replace H := Option.bind_eq_some_iff.mp H
 obtain ⟨t126,A30,H⟩ := H
 replace H : (some (decide (t126 ≥ 0))) = some r := H
 have A3 := za.mk A30
 clear A30
 obtain rfl := Option.some.inj H
 go_enter Try.func101,Try.ntmps101
 go_wp2_with (first | ((with_reducible refine zz (f := 121) rfl ?_); refine zT (some 7) rfl rfl Try.func121 qi rfl #[.slice A0 l0.length c0, .int .i64 a1] rfl qa ?_; (with_reducible refine (zaS.calls k _ _ l0 a1 t126 _ ?side1 ?side2 A3.out).mono ?_); (case side1 => exact qe HR0.out); (case side2 => exact HC0.out); rintro e w' ⟨rfl,⟨nd,rfl⟩⟩; refine ⟨_,rfl,?_⟩))
 go_ret
 exact ⟨by first | rfl | (simp; done) | (simp [*]; done),by repeat (first | exact zw.refl _ | apply zw.step)⟩
mutual
def zB.j0 : Nat → List (S63) → Int → Bool → Int → Int → ByteArray → Option (Int)
 | 0,_,_,_,_,_,_ => none
 | k + 1,x1,x2,x34,x274000,x274001,x274002 => if x34 = true then (some 3) else (if x274000 = 3 then (if x274002.toList = ([] : List UInt8) then (zB.j1 k x1 x2 x274000 x274001 x274002) else (some 2)) else ((zab.f k x274002).bind fun t276 => (if t276 = 0 then (zB.j1 k x1 x2 x274000 x274001 x274002) else (some t276))))
def zB.j1 : Nat → List (S63) → Int → Int → Int → ByteArray → Option (Int)
 | 0,_,_,_,_,_ => none
 | k + 1,x1,x2,x274000,x274001,x274002 => if x2 = 0 then (some 0) else (if 0 ≤ (wrap64 (x2 - 1)) then (if (wrap64 (x2 - 1)) < (x1.length : Int) then (if x274001 < ((zg x1 (wrap64 (x2 - 1))).f1) then (some 5) else (if x274001 > ((zg x1 (wrap64 (x2 - 1))).f1) then (zB.j2 k true x274000 x274001 x274002) else (zB.j2 k (((zg x1 (wrap64 (x2 - 1))).f0) == 1) x274000 x274001 x274002))) else (none)) else (none))
def zB.j2 : Nat → Bool → Int → Int → ByteArray → Option (Int)
 | 0,_,_,_,_ => none
 | k + 1,x60,x274000,x274001,x274002 => if x60 = true then (some 0) else (if x274000 = 1 then (some 5) else (some 4))
end
def zB.f (k : Nat) (a0 : Int) (l1 : List (S63)) (a2 : Int) : Option (Int) := if 0 ≤ a2 then (if a2 < (l1.length : Int) then ((zaX.f ((zg l1 a2).f0) 1 3).bind fun t274 => (if t274 = true then ((zaX.f ((zg l1 a2).f1) 0 (wrap64 (a0 - 1))).bind fun t275 => (if t275 = true then (zB.j0 k l1 a2 false ((zg l1 a2).f0) ((zg l1 a2).f1) ((zg l1 a2).f2)) else (if ((zg l1 a2).f0) = 1 then (zB.j0 k l1 a2 (((zg l1 a2).f1) != a0) ((zg l1 a2).f0) ((zg l1 a2).f1) ((zg l1 a2).f2)) else (zB.j0 k l1 a2 true ((zg l1 a2).f0) ((zg l1 a2).f1) ((zg l1 a2).f2))))) else (some 8))) else (none)) else (none)
set_option maxHeartbeats 8000000 in
set_option maxRecDepth 100000 in
theorem zB.calls (k : Nat) (a0 : Int) (A1 : Option Addr) (c1 : Nat) (l1 : List (S63)) (a2 : Int) (r : Int) (w : World) (hr1 : Kd.C k63 w A1 l1.length l1) (hc1 : l1.length ≤ c1) (h : zB.f k a0 l1 a2 = some r) :
  Calls Try.prog 112 #[.int .i64 a0, .slice A1 l1.length c1, .int .i64 a2] w fun e w' => e = .returned (.int .i64 r) ∧ Below w.heap.size w w' := by
 have hu63 := Try.underlying63
 have HR1 := za.mk hr1
 have HC1 := za.mk hc1
 clear hr1 hc1
 have HB := za.mk (Below.refl w.heap.size w)
 have H : (if 0 ≤ a2 then (if a2 < (l1.length : Int) then ((zaX.f ((zg l1 a2).f0) 1 3).bind fun t274 => (if t274 = true then ((zaX.f ((zg l1 a2).f1) 0 (wrap64 (a0 - 1))).bind fun t275 => (if t275 = true then (zB.j0 k l1 a2 false ((zg l1 a2).f0) ((zg l1 a2).f1) ((zg l1 a2).f2)) else (if ((zg l1 a2).f0) = 1 then (zB.j0 k l1 a2 (((zg l1 a2).f1) != a0) ((zg l1 a2).f0) ((zg l1 a2).f1) ((zg l1 a2).f2)) else (zB.j0 k l1 a2 true ((zg l1 a2).f0) ((zg l1 a2).f1) ((zg l1 a2).f2))))) else (some 8))) else (none)) else (none)) = some r := h
 clear h
 by_cases c4 : 0 ≤ a2
 ·rw [if_pos c4] at H
  have c4b0 : decide (0 ≤ a2) = true := decide_eq_true c4
  clear c4
  by_cases c5 : a2 < (l1.length : Int)
  ·rw [if_pos c5] at H
   have c5b0 : decide (a2 < (l1.length : Int)) = true := decide_eq_true c5
   clear c5
   replace H := Option.bind_eq_some_iff.mp H
   obtain ⟨t274,A60,H⟩ := H
   replace H : (if t274 = true then ((zaX.f ((zg l1 a2).f1) 0 (wrap64 (a0 - 1))).bind fun t275 => (if t275 = true then (zB.j0 k l1 a2 false ((zg l1 a2).f0) ((zg l1 a2).f1) ((zg l1 a2).f2)) else (if ((zg l1 a2).f0) = 1 then (zB.j0 k l1 a2 (((zg l1 a2).f1) != a0) ((zg l1 a2).f0) ((zg l1 a2).f1) ((zg l1 a2).f2)) else (zB.j0 k l1 a2 true ((zg l1 a2).f0) ((zg l1 a2).f1) ((zg l1 a2).f2))))) else (some 8)) = some r := H
   have A6 := za.mk A60
   clear A60
   by_cases c7 : t274 = true
   ·subst c7
    have H1 : ((zaX.f ((zg l1 a2).f1) 0 (wrap64 (a0 - 1))).bind fun t275 => (if t275 = true then (zB.j0 k l1 a2 false ((zg l1 a2).f0) ((zg l1 a2).f1) ((zg l1 a2).f2)) else (if ((zg l1 a2).f0) = 1 then (zB.j0 k l1 a2 (((zg l1 a2).f1) != a0) ((zg l1 a2).f0) ((zg l1 a2).f1) ((zg l1 a2).f2)) else (zB.j0 k l1 a2 true ((zg l1 a2).f0) ((zg l1 a2).f1) ((zg l1 a2).f2))))) = some r := by rw [if_pos rfl] at H; exact H
    clear H
    have H := H1
    clear H1
    have HC8 := za.mk H
    clear H
    have p272 : 0 ≤ (a2 : Int) := of_decide_eq_true qd
    have q272 : a2 < (l1.length : Int) := of_decide_eq_true qd
    obtain ⟨ad272,e272,hx272_0,hx272_1,hx272_2⟩ := za8 HR1.out a2 p272 q272
    cases e272
    replace p272 := eq_true p272
    replace q272 := eq_true q272
    go_enter Try.func112,Try.ntmps112
    go_upto_region 4 with (first | ((with_reducible refine zaE (N := 7) rfl ?_); refine zaV ?hg (N := 7) ?hd (cs := #[.int .i64 0, .int .i64 0, .string (⟨#[]⟩ : ByteArray)]) (t := 63) ?hr ?_; (case hd => rfl); (case hg => rfl); (case hr => exact qq); intro gb273 hg w9 hbox hb; have n0_ := za.mk (zq (qc HB.out) hb); have n1_ := za.mk (hbox); have n2_ := za.mk ((by rw [hg]; exact (zC (qc HB.out)) : w.heap.size ≤ gb273)); have n3_ := za.mk ((by rw [hg]; exact (zC (qc HB.out)) : w.heap.size ≤ gb273)); clear HB; have HB := n0_; have BK273 := n1_; have GW273 := n2_; have GE273 := n3_; clear n0_ n1_ n2_ n3_; clear hb hbox hg; have hcz10_0 : w9.cell? ⟨gb273,0,none⟩ = some (.int .i64 0) := (zh BK273.out 0).trans rfl; have hcz10_1 : w9.cell? ⟨gb273,1,none⟩ = some (.int .i64 0) := (zh BK273.out 1).trans rfl; have hcz10_2 : w9.cell? ⟨gb273,2,none⟩ = some (.string (⟨#[]⟩ : ByteArray)) := (zh BK273.out 2).trans rfl; have hfz10_0 := zo BK273.out 0; have hfz10_1 := zo BK273.out 1; have hfz10_2 := zo BK273.out 2) | ((with_reducible refine zz (f := 128) rfl ?_); refine zT (some 16) rfl rfl Try.func128 qi rfl #[.int .i64 ((zg l1 a2).f0), .int .i64 1, .int .i64 3] rfl qa ?_; (with_reducible refine (zaX.calls ((zg l1 a2).f0) 1 3 true _ A6.out).mono ?_); rintro e w' ⟨rfl,⟨nd,rfl⟩⟩; refine ⟨_,rfl,?_⟩))
    (try simp only [Act.put,List.setIfInBounds_toArray,List.set_cons_zero,List.set_cons_succ])
    go_cut [34] (fun v34 wc => ∃ (kq : Nat) (x34_7 : Bool),v34 = .bool x34_7 ∧ za (zB.j0 kq l1 a2 x34_7 ((zg l1 a2).f0) ((zg l1 a2).f1) ((zg l1 a2).f2) = some r) ∧ za (kq ≤ k) ∧ za (wc.heap[gb273]? = some (.cells #[.int .i64 ((zg l1 a2).f0), .int .i64 ((zg l1 a2).f1), .string ((zg l1 a2).f2)] 63 (0,0))) ∧ za (Below w.heap.size w wc))
    case first =>
     have H := HC8.out
     clear HC8
     replace H := Option.bind_eq_some_iff.mp H
     obtain ⟨t275,A110,H⟩ := H
     replace H : (if t275 = true then (zB.j0 k l1 a2 false ((zg l1 a2).f0) ((zg l1 a2).f1) ((zg l1 a2).f2)) else (if ((zg l1 a2).f0) = 1 then (zB.j0 k l1 a2 (((zg l1 a2).f1) != a0) ((zg l1 a2).f0) ((zg l1 a2).f1) ((zg l1 a2).f2)) else (zB.j0 k l1 a2 true ((zg l1 a2).f0) ((zg l1 a2).f1) ((zg l1 a2).f2)))) = some r := H
     have A11 := za.mk A110
     clear A110
     by_cases c12 : t275 = true
     ·subst c12
      have H1 : (zB.j0 k l1 a2 false ((zg l1 a2).f0) ((zg l1 a2).f1) ((zg l1 a2).f2)) = some r := by rw [if_pos rfl] at H; exact H
      clear H
      have H := H1
      clear H1
      have H' := za.mk H
      clear H
      have hcz13_0 : w9.cell? ⟨gb273,0,none⟩ = some (.int .i64 0) := (zh BK273.out 0).trans rfl
      have hcz13_1 : w9.cell? ⟨gb273,1,none⟩ = some (.int .i64 0) := (zh BK273.out 1).trans rfl
      have hcz13_2 : w9.cell? ⟨gb273,2,none⟩ = some (.string (⟨#[]⟩ : ByteArray)) := (zh BK273.out 2).trans rfl
      have hfz13_0 := zo BK273.out 0
      have hfz13_1 := zo BK273.out 1
      have hfz13_2 := zo BK273.out 2
      go_wp2_with (first | ((with_reducible refine zz (f := 128) rfl ?_); refine zT (some 22) rfl rfl Try.func128 qi rfl #[.int .i64 ((zg l1 a2).f1), .int .i64 0, .int .i64 (wrap64 (a0 - 1))] rfl qa ?_; (with_reducible refine (zaX.calls ((zg l1 a2).f1) 0 (wrap64 (a0 - 1)) true _ A11.out).mono ?_); rintro e w' ⟨rfl,⟨nd,rfl⟩⟩; refine ⟨_,rfl,?_⟩))
      go_meet
      case rel => exact ⟨_,(false),qf,H',⟨by first | omega | exact Nat.le_refl _⟩,⟨by (with_reducible repeat (first | refine zm ?_ _ | refine zn ?_ | refine zl ?_ _)); refine zah (cs := #[.int .i64 ((zg l1 a2).f0), .int .i64 ((zg l1 a2).f1), .string (⟨#[]⟩ : ByteArray)]) ?_ 2 _ rfl; (with_reducible repeat (first | refine zm ?_ _ | refine zn ?_ | refine zl ?_ _)); refine zah (cs := #[.int .i64 ((zg l1 a2).f0), .int .i64 0, .string (⟨#[]⟩ : ByteArray)]) ?_ 1 _ rfl; (with_reducible repeat (first | refine zm ?_ _ | refine zn ?_ | refine zl ?_ _)); refine zah (cs := #[.int .i64 0, .int .i64 0, .string (⟨#[]⟩ : ByteArray)]) ?_ 0 _ rfl; (with_reducible repeat (first | refine zm ?_ _ | refine zn ?_ | refine zl ?_ _)); exact BK273.out⟩,⟨by repeat (first | (with_reducible first | exact HB.out | apply ze | apply zb | apply zf | refine zi ?_ GE273.out) | exact HB.out)⟩⟩
     ·replace c12 := Bool.eq_false_iff.mpr c12
      subst c12
      have H1 : (if ((zg l1 a2).f0) = 1 then (zB.j0 k l1 a2 (((zg l1 a2).f1) != a0) ((zg l1 a2).f0) ((zg l1 a2).f1) ((zg l1 a2).f2)) else (zB.j0 k l1 a2 true ((zg l1 a2).f0) ((zg l1 a2).f1) ((zg l1 a2).f2))) = some r := by rw [if_neg (show ¬ (false = true) by decide)] at H; exact H
      clear H
      have H := H1
      clear H1
      by_cases c14 : ((zg l1 a2).f0) = 1
      ·rw [if_pos c14] at H
       have c14b0 : (((zg l1 a2).f0) == 1) = true := beq_iff_eq.mpr c14
       have c14b1 : (((zg l1 a2).f0) != 1) = false := bne_eq_false_iff_eq.mpr c14
       clear c14
       (first | rw [c14b0] | (simp only [zad,zaf]; rw [c14b0]) | skip)
       have H' := za.mk H
       clear H
       have hcz15_0 : w9.cell? ⟨gb273,0,none⟩ = some (.int .i64 0) := (zh BK273.out 0).trans rfl
       have hcz15_1 : w9.cell? ⟨gb273,1,none⟩ = some (.int .i64 0) := (zh BK273.out 1).trans rfl
       have hcz15_2 : w9.cell? ⟨gb273,2,none⟩ = some (.string (⟨#[]⟩ : ByteArray)) := (zh BK273.out 2).trans rfl
       have hfz15_0 := zo BK273.out 0
       have hfz15_1 := zo BK273.out 1
       have hfz15_2 := zo BK273.out 2
       go_wp2_with (first | ((with_reducible refine zz (f := 128) rfl ?_); refine zT (some 22) rfl rfl Try.func128 qi rfl #[.int .i64 ((zg l1 a2).f1), .int .i64 0, .int .i64 (wrap64 (a0 - 1))] rfl qa ?_; (with_reducible refine (zaX.calls ((zg l1 a2).f1) 0 (wrap64 (a0 - 1)) false _ A11.out).mono ?_); rintro e w' ⟨rfl,⟨nd,rfl⟩⟩; refine ⟨_,rfl,?_⟩))
       go_meet
       case rel => exact ⟨_,((((zg l1 a2).f1) != a0)),qf,H',⟨by first | omega | exact Nat.le_refl _⟩,⟨by (with_reducible repeat (first | refine zm ?_ _ | refine zn ?_ | refine zl ?_ _)); refine zah (cs := #[.int .i64 ((zg l1 a2).f0), .int .i64 ((zg l1 a2).f1), .string (⟨#[]⟩ : ByteArray)]) ?_ 2 _ rfl; (with_reducible repeat (first | refine zm ?_ _ | refine zn ?_ | refine zl ?_ _)); refine zah (cs := #[.int .i64 ((zg l1 a2).f0), .int .i64 0, .string (⟨#[]⟩ : ByteArray)]) ?_ 1 _ rfl; (with_reducible repeat (first | refine zm ?_ _ | refine zn ?_ | refine zl ?_ _)); refine zah (cs := #[.int .i64 0, .int .i64 0, .string (⟨#[]⟩ : ByteArray)]) ?_ 0 _ rfl; (with_reducible repeat (first | refine zm ?_ _ | refine zn ?_ | refine zl ?_ _)); exact BK273.out⟩,⟨by repeat (first | (with_reducible first | exact HB.out | apply ze | apply zb | apply zf | refine zi ?_ GE273.out) | exact HB.out)⟩⟩
      ·rw [if_neg c14] at H
       have c14b0 : (((zg l1 a2).f0) == 1) = false := beq_eq_false_iff_ne.mpr c14
       have c14b1 : (((zg l1 a2).f0) != 1) = true := bne_iff_ne.mpr c14
       (first | rw [c14b0] | (simp only [zad,zaf]; rw [c14b0]) | skip)
       have H' := za.mk H
       clear H
       have hcz16_0 : w9.cell? ⟨gb273,0,none⟩ = some (.int .i64 0) := (zh BK273.out 0).trans rfl
       have hcz16_1 : w9.cell? ⟨gb273,1,none⟩ = some (.int .i64 0) := (zh BK273.out 1).trans rfl
       have hcz16_2 : w9.cell? ⟨gb273,2,none⟩ = some (.string (⟨#[]⟩ : ByteArray)) := (zh BK273.out 2).trans rfl
       have hfz16_0 := zo BK273.out 0
       have hfz16_1 := zo BK273.out 1
       have hfz16_2 := zo BK273.out 2
       go_wp2_with (first | ((with_reducible refine zz (f := 128) rfl ?_); refine zT (some 22) rfl rfl Try.func128 qi rfl #[.int .i64 ((zg l1 a2).f1), .int .i64 0, .int .i64 (wrap64 (a0 - 1))] rfl qa ?_; (with_reducible refine (zaX.calls ((zg l1 a2).f1) 0 (wrap64 (a0 - 1)) false _ A11.out).mono ?_); rintro e w' ⟨rfl,⟨nd,rfl⟩⟩; refine ⟨_,rfl,?_⟩))
       go_meet
       case rel => exact ⟨_,(true),qf,H',⟨by first | omega | exact Nat.le_refl _⟩,⟨by (with_reducible repeat (first | refine zm ?_ _ | refine zn ?_ | refine zl ?_ _)); refine zah (cs := #[.int .i64 ((zg l1 a2).f0), .int .i64 ((zg l1 a2).f1), .string (⟨#[]⟩ : ByteArray)]) ?_ 2 _ rfl; (with_reducible repeat (first | refine zm ?_ _ | refine zn ?_ | refine zl ?_ _)); refine zah (cs := #[.int .i64 ((zg l1 a2).f0), .int .i64 0, .string (⟨#[]⟩ : ByteArray)]) ?_ 1 _ rfl; (with_reducible repeat (first | refine zm ?_ _ | refine zn ?_ | refine zl ?_ _)); refine zah (cs := #[.int .i64 0, .int .i64 0, .string (⟨#[]⟩ : ByteArray)]) ?_ 0 _ rfl; (with_reducible repeat (first | refine zm ?_ _ | refine zn ?_ | refine zl ?_ _)); exact BK273.out⟩,⟨by repeat (first | (with_reducible first | exact HB.out | apply ze | apply zb | apply zf | refine zi ?_ GE273.out) | exact HB.out)⟩⟩
    case rest =>
     clear HC8
     try clear c1
     try clear p2
     try clear q2
     try clear hx2
     try clear c4
     try clear c4b0
     try clear c5
     try clear c5b0
     try clear p6
     try clear c7
     try clear c11
     try clear c12
     try clear c14
     try clear c14b0
     try clear c14b1
     try clear hcz10_0
     try clear hcz10_1
     try clear hcz10_2
     try clear hcz13_0
     try clear hcz13_1
     try clear hcz13_2
     try clear hcz15_0
     try clear hcz15_1
     try clear hcz15_2
     try clear hcz16_0
     try clear hcz16_1
     try clear hcz16_2
     try clear hfz10_0
     try clear hfz10_1
     try clear hfz10_2
     try clear hfz13_0
     try clear hfz13_1
     try clear hfz13_2
     try clear hfz15_0
     try clear hfz15_1
     try clear hfz15_2
     try clear hfz16_0
     try clear hfz16_1
     try clear hfz16_2
     try clear hx272_0
     try clear hx272_1
     try clear hx272_2
     try clear p272
     try clear q272
     obtain ⟨kq,x34_7,rfl,HA,HJ7,BK273,HB⟩ := hcut
     cases kq with
     | zero => exact absurd HA.out (by simp [zB.j0])
     | succ kj7 =>
      have H := HA.out
      clear HA
      simp only [zB.j0] at H
      by_cases c17 : x34_7 = true
      ·subst c17
       have H1 : (some 3) = some r := by rw [if_pos rfl] at H; exact H
       clear H
       have H := H1
       clear H1
       obtain rfl := Option.some.inj H
       go_wp2
       go_ret
       exact ⟨by first | rfl | (simp [zy,zx] <;> rfl) | (simp [*,zy,zx] <;> rfl),by repeat (first | (with_reducible first | exact HB.out | apply ze | apply zb | apply zf | refine zi ?_ GE273.out) | exact HB.out)⟩
      ·replace c17 := Bool.eq_false_iff.mpr c17
       subst c17
       have H1 : (if ((zg l1 a2).f0) = 3 then (if ((zg l1 a2).f2).toList = ([] : List UInt8) then (zB.j1 kj7 l1 a2 ((zg l1 a2).f0) ((zg l1 a2).f1) ((zg l1 a2).f2)) else (some 2)) else ((zab.f kj7 ((zg l1 a2).f2)).bind fun t276 => (if t276 = 0 then (zB.j1 kj7 l1 a2 ((zg l1 a2).f0) ((zg l1 a2).f1) ((zg l1 a2).f2)) else (some t276)))) = some r := by rw [if_neg (show ¬ (false = true) by decide)] at H; exact H
       clear H
       have H := H1
       clear H1
       have HC18 := za.mk H
       clear H
       have hcz19_0 : wc.cell? ⟨gb273,0,none⟩ = some (.int .i64 ((zg l1 a2).f0)) := (zh BK273.out 0).trans rfl
       have hcz19_1 : wc.cell? ⟨gb273,1,none⟩ = some (.int .i64 ((zg l1 a2).f1)) := (zh BK273.out 1).trans rfl
       have hcz19_2 : wc.cell? ⟨gb273,2,none⟩ = some (.string ((zg l1 a2).f2)) := (zh BK273.out 2).trans rfl
       have hfz19_0 := zo BK273.out 0
       have hfz19_1 := zo BK273.out 1
       have hfz19_2 := zo BK273.out 2
       go_upto_if 37 with (fail)
       go_cut [] (fun wc => ∃ (kq : Nat),za (zB.j1 kq l1 a2 ((zg l1 a2).f0) ((zg l1 a2).f1) ((zg l1 a2).f2) = some r) ∧ za (kq ≤ kj7) ∧ za (wc.heap[gb273]? = some (.cells #[.int .i64 ((zg l1 a2).f0), .int .i64 ((zg l1 a2).f1), .string ((zg l1 a2).f2)] 63 (0,0))) ∧ za (Below w.heap.size w wc))
       case first =>
        have H := HC18.out
        clear HC18
        by_cases c20 : ((zg l1 a2).f0) = 3
        ·rw [if_pos c20] at H
         have c20b0 : (((zg l1 a2).f0) == 3) = true := beq_iff_eq.mpr c20
         have c20b1 : (((zg l1 a2).f0) != 3) = false := bne_eq_false_iff_eq.mpr c20
         clear c20
         (first | rw [c20b0] | (simp only [zad,zaf]; rw [c20b0]) | skip)
         by_cases c21 : ((zg l1 a2).f2).toList = ([] : List UInt8)
         ·rw [if_pos c21] at H
          have c21b0 : (((zg l1 a2).f2).toList == ([] : List UInt8)) = true := beq_iff_eq.mpr c21
          have c21b1 : (((zg l1 a2).f2).toList != ([] : List UInt8)) = false := bne_eq_false_iff_eq.mpr c21
          clear c21
          have H' := za.mk H
          clear H
          have hcz22_0 : wc.cell? ⟨gb273,0,none⟩ = some (.int .i64 ((zg l1 a2).f0)) := (zh BK273.out 0).trans rfl
          have hcz22_1 : wc.cell? ⟨gb273,1,none⟩ = some (.int .i64 ((zg l1 a2).f1)) := (zh BK273.out 1).trans rfl
          have hcz22_2 : wc.cell? ⟨gb273,2,none⟩ = some (.string ((zg l1 a2).f2)) := (zh BK273.out 2).trans rfl
          have hfz22_0 := zo BK273.out 0
          have hfz22_1 := zo BK273.out 1
          have hfz22_2 := zo BK273.out 2
          go_wp2
          go_meet
          case rel => exact ⟨_,H',⟨by have := HJ7.out; first | omega | exact Nat.le_refl _⟩,⟨by (with_reducible repeat (first | refine zm ?_ _ | refine zn ?_ | refine zl ?_ _)); exact BK273.out⟩,⟨by repeat (first | (with_reducible first | exact HB.out | apply ze | apply zb | apply zf | refine zi ?_ GE273.out) | exact HB.out)⟩⟩
         ·rw [if_neg c21] at H
          have c21b0 : (((zg l1 a2).f2).toList == ([] : List UInt8)) = false := beq_eq_false_iff_ne.mpr c21
          have c21b1 : (((zg l1 a2).f2).toList != ([] : List UInt8)) = true := bne_iff_ne.mpr c21
          obtain rfl := Option.some.inj H
          have hcz23_0 : wc.cell? ⟨gb273,0,none⟩ = some (.int .i64 ((zg l1 a2).f0)) := (zh BK273.out 0).trans rfl
          have hcz23_1 : wc.cell? ⟨gb273,1,none⟩ = some (.int .i64 ((zg l1 a2).f1)) := (zh BK273.out 1).trans rfl
          have hcz23_2 : wc.cell? ⟨gb273,2,none⟩ = some (.string ((zg l1 a2).f2)) := (zh BK273.out 2).trans rfl
          have hfz23_0 := zo BK273.out 0
          have hfz23_1 := zo BK273.out 1
          have hfz23_2 := zo BK273.out 2
          go_wp2
          go_ret
          exact ⟨by first | rfl | (simp [zy,zx] <;> rfl) | (simp [*,zy,zx] <;> rfl),by repeat (first | (with_reducible first | exact HB.out | apply ze | apply zb | apply zf | refine zi ?_ GE273.out) | exact HB.out)⟩
        ·rw [if_neg c20] at H
         have c20b0 : (((zg l1 a2).f0) == 3) = false := beq_eq_false_iff_ne.mpr c20
         have c20b1 : (((zg l1 a2).f0) != 3) = true := bne_iff_ne.mpr c20
         (first | rw [c20b0] | (simp only [zad,zaf]; rw [c20b0]) | skip)
         replace H := Option.bind_eq_some_iff.mp H
         obtain ⟨t276,A240,H⟩ := H
         replace H : (if t276 = 0 then (zB.j1 kj7 l1 a2 ((zg l1 a2).f0) ((zg l1 a2).f1) ((zg l1 a2).f2)) else (some t276)) = some r := H
         have A24 := za.mk A240
         clear A240
         by_cases c25 : t276 = 0
         ·rw [if_pos c25] at H
          have c25b0 : (t276 == 0) = true := beq_iff_eq.mpr c25
          have c25b1 : (t276 != 0) = false := bne_eq_false_iff_eq.mpr c25
          clear c25
          have H' := za.mk H
          clear H
          have hcz26_0 : wc.cell? ⟨gb273,0,none⟩ = some (.int .i64 ((zg l1 a2).f0)) := (zh BK273.out 0).trans rfl
          have hcz26_1 : wc.cell? ⟨gb273,1,none⟩ = some (.int .i64 ((zg l1 a2).f1)) := (zh BK273.out 1).trans rfl
          have hcz26_2 : wc.cell? ⟨gb273,2,none⟩ = some (.string ((zg l1 a2).f2)) := (zh BK273.out 2).trans rfl
          have hfz26_0 := zo BK273.out 0
          have hfz26_1 := zo BK273.out 1
          have hfz26_2 := zo BK273.out 2
          go_wp2_with (first | ((with_reducible refine zz (f := 83) rfl ?_); refine zT (some 43) rfl rfl Try.func83 qi rfl #[.string ((zg l1 a2).f2)] rfl qa ?_; (with_reducible refine (zab.calls kj7 ((zg l1 a2).f2) t276 _ A24.out).mono ?_); rintro e w' ⟨rfl,⟨nd,rfl⟩⟩; refine ⟨_,rfl,?_⟩))
          go_meet
          case rel => exact ⟨_,H',⟨by have := HJ7.out; first | omega | exact Nat.le_refl _⟩,⟨by (with_reducible repeat (first | refine zm ?_ _ | refine zn ?_ | refine zl ?_ _)); exact BK273.out⟩,⟨by repeat (first | (with_reducible first | exact HB.out | apply ze | apply zb | apply zf | refine zi ?_ GE273.out) | exact HB.out)⟩⟩
         ·rw [if_neg c25] at H
          have c25b0 : (t276 == 0) = false := beq_eq_false_iff_ne.mpr c25
          have c25b1 : (t276 != 0) = true := bne_iff_ne.mpr c25
          obtain rfl := Option.some.inj H
          have hcz27_0 : wc.cell? ⟨gb273,0,none⟩ = some (.int .i64 ((zg l1 a2).f0)) := (zh BK273.out 0).trans rfl
          have hcz27_1 : wc.cell? ⟨gb273,1,none⟩ = some (.int .i64 ((zg l1 a2).f1)) := (zh BK273.out 1).trans rfl
          have hcz27_2 : wc.cell? ⟨gb273,2,none⟩ = some (.string ((zg l1 a2).f2)) := (zh BK273.out 2).trans rfl
          have hfz27_0 := zo BK273.out 0
          have hfz27_1 := zo BK273.out 1
          have hfz27_2 := zo BK273.out 2
          go_wp2_with (first | ((with_reducible refine zz (f := 83) rfl ?_); refine zT (some 43) rfl rfl Try.func83 qi rfl #[.string ((zg l1 a2).f2)] rfl qa ?_; (with_reducible refine (zab.calls kj7 ((zg l1 a2).f2) t276 _ A24.out).mono ?_); rintro e w' ⟨rfl,⟨nd,rfl⟩⟩; refine ⟨_,rfl,?_⟩))
          go_ret
          exact ⟨by first | rfl | (simp [zy,zx] <;> rfl) | (simp [*,zy,zx] <;> rfl),by repeat (first | (with_reducible first | exact HB.out | apply ze | apply zb | apply zf | refine zi ?_ GE273.out) | exact HB.out)⟩
       case rest =>
        clear HC18
        try clear c1
        try clear c2
        try clear p2
        try clear q2
        try clear hx2
        try clear c4
        try clear c4b0
        try clear c5
        try clear c5b0
        try clear p6
        try clear c7
        try clear c8
        try clear c11
        try clear c12
        try clear c14
        try clear c14b0
        try clear c14b1
        try clear c17
        try clear c20
        try clear c20b0
        try clear c20b1
        try clear c21
        try clear c21b0
        try clear c21b1
        try clear c25
        try clear c25b0
        try clear c25b1
        try clear p27
        try clear q27
        try clear hx27
        try clear hcz10_0
        try clear hcz10_1
        try clear hcz10_2
        try clear hcz13_0
        try clear hcz13_1
        try clear hcz13_2
        try clear hcz15_0
        try clear hcz15_1
        try clear hcz15_2
        try clear hcz16_0
        try clear hcz16_1
        try clear hcz16_2
        try clear hcz19_0
        try clear hcz19_1
        try clear hcz19_2
        try clear hcz22_0
        try clear hcz22_1
        try clear hcz22_2
        try clear hcz23_0
        try clear hcz23_1
        try clear hcz23_2
        try clear hcz26_0
        try clear hcz26_1
        try clear hcz26_2
        try clear hcz27_0
        try clear hcz27_1
        try clear hcz27_2
        try clear hfz10_0
        try clear hfz10_1
        try clear hfz10_2
        try clear hfz13_0
        try clear hfz13_1
        try clear hfz13_2
        try clear hfz15_0
        try clear hfz15_1
        try clear hfz15_2
        try clear hfz16_0
        try clear hfz16_1
        try clear hfz16_2
        try clear hfz19_0
        try clear hfz19_1
        try clear hfz19_2
        try clear hfz22_0
        try clear hfz22_1
        try clear hfz22_2
        try clear hfz23_0
        try clear hfz23_1
        try clear hfz23_2
        try clear hfz26_0
        try clear hfz26_1
        try clear hfz26_2
        try clear hfz27_0
        try clear hfz27_1
        try clear hfz27_2
        try clear hx272_0
        try clear hx272_1
        try clear hx272_2
        try clear p2
        try clear p272
        try clear p6
        try clear q2
        try clear q272
        obtain ⟨kq,HA,HJ17,BK273,HB⟩ := hcut
        cases kq with
        | zero => exact absurd HA.out (by simp [zB.j1])
        | succ kj17 =>
         have H := HA.out
         clear HA
         simp only [zB.j1] at H
         by_cases c28 : a2 = 0
         ·rw [if_pos c28] at H
          have c28b0 : (a2 == 0) = true := beq_iff_eq.mpr c28
          have c28b1 : (a2 != 0) = false := bne_eq_false_iff_eq.mpr c28
          clear c28
          obtain rfl := Option.some.inj H
          go_wp2
          go_ret
          exact ⟨by first | rfl | (simp [zy,zx] <;> rfl) | (simp [*,zy,zx] <;> rfl),by repeat (first | (with_reducible first | exact HB.out | apply ze | apply zb | apply zf | refine zi ?_ GE273.out) | exact HB.out)⟩
         ·rw [if_neg c28] at H
          have c28b0 : (a2 == 0) = false := beq_eq_false_iff_ne.mpr c28
          have c28b1 : (a2 != 0) = true := bne_iff_ne.mpr c28
          obtain ⟨ji29,hji29⟩ : ∃ j_ : Int,(wrap64 (a2 - 1)) = j_ := ⟨_,rfl⟩
          replace H : (if 0 ≤ (ji29) then (if (ji29) < (l1.length : Int) then (if ((zg l1 a2).f1) < ((zg l1 (ji29)).f1) then (some 5) else (if ((zg l1 a2).f1) > ((zg l1 (ji29)).f1) then (zB.j2 kj17 true ((zg l1 a2).f0) ((zg l1 a2).f1) ((zg l1 a2).f2)) else (zB.j2 kj17 (((zg l1 (ji29)).f0) == 1) ((zg l1 a2).f0) ((zg l1 a2).f1) ((zg l1 a2).f2)))) else (none)) else (none)) = some r := by first | (rw [hji29] at H; exact H) | (simp only [hji29] at H ⊢; exact H)
          have hji29w : (IntKind.i64.wrap (a2 - 1)) = ji29 := (zad _).trans hji29
          by_cases c30 : 0 ≤ (ji29)
          ·rw [if_pos c30] at H
           have c30b0 : decide (0 ≤ (ji29)) = true := decide_eq_true c30
           clear c30
           by_cases c31 : (ji29) < (l1.length : Int)
           ·rw [if_pos c31] at H
            have c31b0 : decide ((ji29) < (l1.length : Int)) = true := decide_eq_true c31
            clear c31
            by_cases c32 : ((zg l1 a2).f1) < ((zg l1 (ji29)).f1)
            ·rw [if_pos c32] at H
             have c32b0 : decide (((zg l1 a2).f1) < ((zg l1 (ji29)).f1)) = true := decide_eq_true c32
             clear c32
             obtain rfl := Option.some.inj H
             have p277 : 0 ≤ ((ji29) : Int) := of_decide_eq_true qd
             have q277 : (ji29) < (l1.length : Int) := of_decide_eq_true qd
             obtain ⟨ad277,e277,hx277_0,hx277_1,hx277_2⟩ := za8 HR1.out (ji29) p277 q277
             obtain rfl : ad272 = ad277 := (by injection e277)
             replace hx277_0 := (HB.out.cell (World.block_lt_of_cell? w _ hx277_0)).trans hx277_0
             replace hx277_1 := (HB.out.cell (World.block_lt_of_cell? w _ hx277_1)).trans hx277_1
             replace hx277_2 := (HB.out.cell (World.block_lt_of_cell? w _ hx277_2)).trans hx277_2
             replace p277 := eq_true p277
             replace q277 := eq_true q277
             go_wp2_with (first | ((with_reducible refine zaE (N := 9) rfl ?_); refine zaV ?hg (N := 9) ?hd (cs := #[.int .i64 0, .int .i64 0, .string (⟨#[]⟩ : ByteArray)]) (t := 63) ?hr ?_; (case hd => rfl); (case hg => rfl); (case hr => exact qq); intro gb278 hg w33 hbox hb; have n0_ := za.mk (zD (g := gb273) (o := .cells #[.int .i64 ((zg l1 a2).f0), .int .i64 ((zg l1 a2).f1), .string ((zg l1 a2).f2)] 63 (0,0)) (qb BK273.out) hb); have n1_ := za.mk (zq (qk HB.out GE273.out) hb); have n2_ := za.mk (hbox); have n3_ := za.mk ((by rw [hg]; exact (zC (qk HB.out GE273.out)) : w.heap.size ≤ gb278)); have n4_ := za.mk ((by rw [hg]; exact (zC (qk HB.out GE273.out)) : w.heap.size ≤ gb278)); have n5_ := za.mk ((by rw [hg]; exact Nat.ne_of_lt (zae (g := gb273) (o := .cells #[.int .i64 ((zg l1 a2).f0), .int .i64 ((zg l1 a2).f1), .string ((zg l1 a2).f2)] 63 (0,0)) (qb BK273.out)) : gb273 ≠ gb278)); have n6_ := za.mk ((by rw [hg]; exact Nat.ne_of_gt (zae (g := gb273) (o := .cells #[.int .i64 ((zg l1 a2).f0), .int .i64 ((zg l1 a2).f1), .string ((zg l1 a2).f2)] 63 (0,0)) (qb BK273.out)) : gb278 ≠ gb273)); clear BK273; clear HB; have BK273 := n0_; have HB := n1_; have BK278 := n2_; have GW278 := n3_; have GE278 := n4_; have NB273_278 := n5_; have NB278_273 := n6_; clear n0_ n1_ n2_ n3_ n4_ n5_ n6_; clear hb hbox hg; have hnb34 := NB278_273.out; have hnc34 := NB273_278.out; have hcz35_0 : w33.cell? ⟨gb278,0,none⟩ = some (.int .i64 0) := (zh BK278.out 0).trans rfl; have hcz35_1 : w33.cell? ⟨gb278,1,none⟩ = some (.int .i64 0) := (zh BK278.out 1).trans rfl; have hcz35_2 : w33.cell? ⟨gb278,2,none⟩ = some (.string (⟨#[]⟩ : ByteArray)) := (zh BK278.out 2).trans rfl; have hfz35_0 := zo BK278.out 0; have hfz35_1 := zo BK278.out 1; have hfz35_2 := zo BK278.out 2; have hcz36_0 : w33.cell? ⟨gb273,0,none⟩ = some (.int .i64 ((zg l1 a2).f0)) := (zh BK273.out 0).trans rfl; have hcz36_1 : w33.cell? ⟨gb273,1,none⟩ = some (.int .i64 ((zg l1 a2).f1)) := (zh BK273.out 1).trans rfl; have hcz36_2 : w33.cell? ⟨gb273,2,none⟩ = some (.string ((zg l1 a2).f2)) := (zh BK273.out 2).trans rfl; have hfz36_0 := zo BK273.out 0; have hfz36_1 := zo BK273.out 1; have hfz36_2 := zo BK273.out 2))
             go_ret
             exact ⟨by first | rfl | (simp [zy,zx] <;> rfl) | (simp only [← hji29]; first | rfl | (simp [zy,zx] <;> rfl)) | (simp [*,zy,zx] <;> rfl),by repeat (first | (with_reducible first | exact HB.out | apply ze | apply zb | apply zf | refine zi ?_ GE273.out | refine zi ?_ GE278.out) | exact HB.out)⟩
            ·rw [if_neg c32] at H
             have c32b0 : decide (((zg l1 a2).f1) < ((zg l1 (ji29)).f1)) = false := decide_eq_false c32
             clear c32
             have HC37 := za.mk H
             clear H
             have p277 : 0 ≤ ((ji29) : Int) := of_decide_eq_true qd
             have q277 : (ji29) < (l1.length : Int) := of_decide_eq_true qd
             obtain ⟨ad277,e277,hx277_0,hx277_1,hx277_2⟩ := za8 HR1.out (ji29) p277 q277
             obtain rfl : ad272 = ad277 := (by injection e277)
             replace hx277_0 := (HB.out.cell (World.block_lt_of_cell? w _ hx277_0)).trans hx277_0
             replace hx277_1 := (HB.out.cell (World.block_lt_of_cell? w _ hx277_1)).trans hx277_1
             replace hx277_2 := (HB.out.cell (World.block_lt_of_cell? w _ hx277_2)).trans hx277_2
             replace p277 := eq_true p277
             replace q277 := eq_true q277
             go_upto_region 17 with (first | ((with_reducible refine zaE (N := 9) rfl ?_); refine zaV ?hg (N := 9) ?hd (cs := #[.int .i64 0, .int .i64 0, .string (⟨#[]⟩ : ByteArray)]) (t := 63) ?hr ?_; (case hd => rfl); (case hg => rfl); (case hr => exact qq); intro gb278 hg w38 hbox hb; have n0_ := za.mk (zD (g := gb273) (o := .cells #[.int .i64 ((zg l1 a2).f0), .int .i64 ((zg l1 a2).f1), .string ((zg l1 a2).f2)] 63 (0,0)) (qb BK273.out) hb); have n1_ := za.mk (zq (qk HB.out GE273.out) hb); have n2_ := za.mk (hbox); have n3_ := za.mk ((by rw [hg]; exact (zC (qk HB.out GE273.out)) : w.heap.size ≤ gb278)); have n4_ := za.mk ((by rw [hg]; exact (zC (qk HB.out GE273.out)) : w.heap.size ≤ gb278)); have n5_ := za.mk ((by rw [hg]; exact Nat.ne_of_lt (zae (g := gb273) (o := .cells #[.int .i64 ((zg l1 a2).f0), .int .i64 ((zg l1 a2).f1), .string ((zg l1 a2).f2)] 63 (0,0)) (qb BK273.out)) : gb273 ≠ gb278)); have n6_ := za.mk ((by rw [hg]; exact Nat.ne_of_gt (zae (g := gb273) (o := .cells #[.int .i64 ((zg l1 a2).f0), .int .i64 ((zg l1 a2).f1), .string ((zg l1 a2).f2)] 63 (0,0)) (qb BK273.out)) : gb278 ≠ gb273)); clear BK273; clear HB; have BK273 := n0_; have HB := n1_; have BK278 := n2_; have GW278 := n3_; have GE278 := n4_; have NB273_278 := n5_; have NB278_273 := n6_; clear n0_ n1_ n2_ n3_ n4_ n5_ n6_; clear hb hbox hg; have hnb39 := NB278_273.out; have hnc39 := NB273_278.out; have hcz40_0 : w38.cell? ⟨gb278,0,none⟩ = some (.int .i64 0) := (zh BK278.out 0).trans rfl; have hcz40_1 : w38.cell? ⟨gb278,1,none⟩ = some (.int .i64 0) := (zh BK278.out 1).trans rfl; have hcz40_2 : w38.cell? ⟨gb278,2,none⟩ = some (.string (⟨#[]⟩ : ByteArray)) := (zh BK278.out 2).trans rfl; have hfz40_0 := zo BK278.out 0; have hfz40_1 := zo BK278.out 1; have hfz40_2 := zo BK278.out 2; have hcz41_0 : w38.cell? ⟨gb273,0,none⟩ = some (.int .i64 ((zg l1 a2).f0)) := (zh BK273.out 0).trans rfl; have hcz41_1 : w38.cell? ⟨gb273,1,none⟩ = some (.int .i64 ((zg l1 a2).f1)) := (zh BK273.out 1).trans rfl; have hcz41_2 : w38.cell? ⟨gb273,2,none⟩ = some (.string ((zg l1 a2).f2)) := (zh BK273.out 2).trans rfl; have hfz41_0 := zo BK273.out 0; have hfz41_1 := zo BK273.out 1; have hfz41_2 := zo BK273.out 2))
             (try simp only [Act.put,List.setIfInBounds_toArray,List.set_cons_zero,List.set_cons_succ])
             go_cut [60] (fun v60 wc => ∃ (kq : Nat) (x60_36 : Bool),v60 = .bool x60_36 ∧ za (zB.j2 kq x60_36 ((zg l1 a2).f0) ((zg l1 a2).f1) ((zg l1 a2).f2) = some r) ∧ za (kq ≤ kj17) ∧ za (wc.heap[gb273]? = some (.cells #[.int .i64 ((zg l1 a2).f0), .int .i64 ((zg l1 a2).f1), .string ((zg l1 a2).f2)] 63 (0,0))) ∧ za (wc.heap[gb278]? = some (.cells #[.int .i64 ((zg l1 (ji29)).f0), .int .i64 ((zg l1 (ji29)).f1), .string ((zg l1 (ji29)).f2)] 63 (0,0))) ∧ za (Below w.heap.size w wc))
             case first =>
              have H := HC37.out
              clear HC37
              by_cases c42 : ((zg l1 a2).f1) > ((zg l1 (ji29)).f1)
              ·rw [if_pos c42] at H
               have c42b0 : decide (((zg l1 (ji29)).f1) < ((zg l1 a2).f1)) = true := decide_eq_true c42
               clear c42
               (first | rw [c42b0] | (simp only [zad,zaf]; rw [c42b0]) | skip)
               have H' := za.mk H
               clear H
               have hnb43 := NB273_278.out
               have hnc43 := NB278_273.out
               have hcz44_0 : w38.cell? ⟨gb273,0,none⟩ = some (.int .i64 ((zg l1 a2).f0)) := (zh BK273.out 0).trans rfl
               have hcz44_1 : w38.cell? ⟨gb273,1,none⟩ = some (.int .i64 ((zg l1 a2).f1)) := (zh BK273.out 1).trans rfl
               have hcz44_2 : w38.cell? ⟨gb273,2,none⟩ = some (.string ((zg l1 a2).f2)) := (zh BK273.out 2).trans rfl
               have hfz44_0 := zo BK273.out 0
               have hfz44_1 := zo BK273.out 1
               have hfz44_2 := zo BK273.out 2
               have hcz45_0 : w38.cell? ⟨gb278,0,none⟩ = some (.int .i64 0) := (zh BK278.out 0).trans rfl
               have hcz45_1 : w38.cell? ⟨gb278,1,none⟩ = some (.int .i64 0) := (zh BK278.out 1).trans rfl
               have hcz45_2 : w38.cell? ⟨gb278,2,none⟩ = some (.string (⟨#[]⟩ : ByteArray)) := (zh BK278.out 2).trans rfl
               have hfz45_0 := zo BK278.out 0
               have hfz45_1 := zo BK278.out 1
               have hfz45_2 := zo BK278.out 2
               go_wp2
               go_meet
               case rel => exact ⟨_,(true),qf,H',⟨by have := HJ7.out; have := HJ17.out; first | omega | exact Nat.le_refl _⟩,⟨by (with_reducible repeat (first | refine zm ?_ _ | refine zn ?_ | refine zl ?_ _)); refine za3 ?_ NB273_278.out _; (with_reducible repeat (first | refine zm ?_ _ | refine zn ?_ | refine zl ?_ _)); refine za3 ?_ NB273_278.out _; (with_reducible repeat (first | refine zm ?_ _ | refine zn ?_ | refine zl ?_ _)); refine za3 ?_ NB273_278.out _; (with_reducible repeat (first | refine zm ?_ _ | refine zn ?_ | refine zl ?_ _)); exact BK273.out⟩,⟨by (with_reducible repeat (first | refine zm ?_ _ | refine zn ?_ | refine zl ?_ _)); refine zah (cs := #[.int .i64 ((zg l1 (ji29)).f0), .int .i64 ((zg l1 (ji29)).f1), .string (⟨#[]⟩ : ByteArray)]) ?_ 2 _ rfl; (with_reducible repeat (first | refine zm ?_ _ | refine zn ?_ | refine zl ?_ _)); refine zah (cs := #[.int .i64 ((zg l1 (ji29)).f0), .int .i64 0, .string (⟨#[]⟩ : ByteArray)]) ?_ 1 _ rfl; (with_reducible repeat (first | refine zm ?_ _ | refine zn ?_ | refine zl ?_ _)); refine zah (cs := #[.int .i64 0, .int .i64 0, .string (⟨#[]⟩ : ByteArray)]) ?_ 0 _ rfl; (with_reducible repeat (first | refine zm ?_ _ | refine zn ?_ | refine zl ?_ _)); exact BK278.out⟩,⟨by repeat (first | (with_reducible first | exact HB.out | apply ze | apply zb | apply zf | refine zi ?_ GE273.out | refine zi ?_ GE278.out) | exact HB.out)⟩⟩
              ·rw [if_neg c42] at H
               have c42b0 : decide (((zg l1 (ji29)).f1) < ((zg l1 a2).f1)) = false := decide_eq_false c42
               clear c42
               (first | rw [c42b0] | (simp only [zad,zaf]; rw [c42b0]) | skip)
               have H' := za.mk H
               clear H
               have hnb46 := NB273_278.out
               have hnc46 := NB278_273.out
               have hcz47_0 : w38.cell? ⟨gb273,0,none⟩ = some (.int .i64 ((zg l1 a2).f0)) := (zh BK273.out 0).trans rfl
               have hcz47_1 : w38.cell? ⟨gb273,1,none⟩ = some (.int .i64 ((zg l1 a2).f1)) := (zh BK273.out 1).trans rfl
               have hcz47_2 : w38.cell? ⟨gb273,2,none⟩ = some (.string ((zg l1 a2).f2)) := (zh BK273.out 2).trans rfl
               have hfz47_0 := zo BK273.out 0
               have hfz47_1 := zo BK273.out 1
               have hfz47_2 := zo BK273.out 2
               have hcz48_0 : w38.cell? ⟨gb278,0,none⟩ = some (.int .i64 0) := (zh BK278.out 0).trans rfl
               have hcz48_1 : w38.cell? ⟨gb278,1,none⟩ = some (.int .i64 0) := (zh BK278.out 1).trans rfl
               have hcz48_2 : w38.cell? ⟨gb278,2,none⟩ = some (.string (⟨#[]⟩ : ByteArray)) := (zh BK278.out 2).trans rfl
               have hfz48_0 := zo BK278.out 0
               have hfz48_1 := zo BK278.out 1
               have hfz48_2 := zo BK278.out 2
               go_wp2
               go_meet
               case rel => exact ⟨_,((((zg l1 (ji29)).f0) == 1)),(by first | rfl | (simp; done) | (simp only [← hji29] <;> (first | rfl | simp)) | (simp [*]; done)),H',⟨by have := HJ7.out; have := HJ17.out; first | omega | exact Nat.le_refl _⟩,⟨by (with_reducible repeat (first | refine zm ?_ _ | refine zn ?_ | refine zl ?_ _)); refine za3 ?_ NB273_278.out _; (with_reducible repeat (first | refine zm ?_ _ | refine zn ?_ | refine zl ?_ _)); refine za3 ?_ NB273_278.out _; (with_reducible repeat (first | refine zm ?_ _ | refine zn ?_ | refine zl ?_ _)); refine za3 ?_ NB273_278.out _; (with_reducible repeat (first | refine zm ?_ _ | refine zn ?_ | refine zl ?_ _)); exact BK273.out⟩,⟨by (with_reducible repeat (first | refine zm ?_ _ | refine zn ?_ | refine zl ?_ _)); refine zah (cs := #[.int .i64 ((zg l1 (ji29)).f0), .int .i64 ((zg l1 (ji29)).f1), .string (⟨#[]⟩ : ByteArray)]) ?_ 2 _ rfl; (with_reducible repeat (first | refine zm ?_ _ | refine zn ?_ | refine zl ?_ _)); refine zah (cs := #[.int .i64 ((zg l1 (ji29)).f0), .int .i64 0, .string (⟨#[]⟩ : ByteArray)]) ?_ 1 _ rfl; (with_reducible repeat (first | refine zm ?_ _ | refine zn ?_ | refine zl ?_ _)); refine zah (cs := #[.int .i64 0, .int .i64 0, .string (⟨#[]⟩ : ByteArray)]) ?_ 0 _ rfl; (with_reducible repeat (first | refine zm ?_ _ | refine zn ?_ | refine zl ?_ _)); exact BK278.out⟩,⟨by repeat (first | (with_reducible first | exact HB.out | apply ze | apply zb | apply zf | refine zi ?_ GE273.out | refine zi ?_ GE278.out) | exact HB.out)⟩⟩
             case rest =>
              clear HC37
              try clear c1
              try clear c2
              try clear p2
              try clear q2
              try clear hx2
              try clear c3
              try clear c4
              try clear c4b0
              try clear c5
              try clear c5b0
              try clear p6
              try clear c7
              try clear c8
              try clear c11
              try clear c12
              try clear c14
              try clear c14b0
              try clear c14b1
              try clear c17
              try clear c20
              try clear c20b0
              try clear c20b1
              try clear c21
              try clear c21b0
              try clear c21b1
              try clear c25
              try clear c25b0
              try clear c25b1
              try clear p27
              try clear q27
              try clear hx27
              try clear c28
              try clear c28b0
              try clear c28b1
              try clear c30
              try clear c30b0
              try clear c31
              try clear c31b0
              try clear c32
              try clear c32b0
              try clear c34
              try clear c39
              try clear c42
              try clear c42b0
              try clear c43
              try clear c46
              try clear hcz10_0
              try clear hcz10_1
              try clear hcz10_2
              try clear hcz13_0
              try clear hcz13_1
              try clear hcz13_2
              try clear hcz15_0
              try clear hcz15_1
              try clear hcz15_2
              try clear hcz16_0
              try clear hcz16_1
              try clear hcz16_2
              try clear hcz19_0
              try clear hcz19_1
              try clear hcz19_2
              try clear hcz22_0
              try clear hcz22_1
              try clear hcz22_2
              try clear hcz23_0
              try clear hcz23_1
              try clear hcz23_2
              try clear hcz26_0
              try clear hcz26_1
              try clear hcz26_2
              try clear hcz27_0
              try clear hcz27_1
              try clear hcz27_2
              try clear hcz35_0
              try clear hcz35_1
              try clear hcz35_2
              try clear hcz36_0
              try clear hcz36_1
              try clear hcz36_2
              try clear hcz40_0
              try clear hcz40_1
              try clear hcz40_2
              try clear hcz41_0
              try clear hcz41_1
              try clear hcz41_2
              try clear hcz44_0
              try clear hcz44_1
              try clear hcz44_2
              try clear hcz45_0
              try clear hcz45_1
              try clear hcz45_2
              try clear hcz47_0
              try clear hcz47_1
              try clear hcz47_2
              try clear hcz48_0
              try clear hcz48_1
              try clear hcz48_2
              try clear hfz10_0
              try clear hfz10_1
              try clear hfz10_2
              try clear hfz13_0
              try clear hfz13_1
              try clear hfz13_2
              try clear hfz15_0
              try clear hfz15_1
              try clear hfz15_2
              try clear hfz16_0
              try clear hfz16_1
              try clear hfz16_2
              try clear hfz19_0
              try clear hfz19_1
              try clear hfz19_2
              try clear hfz22_0
              try clear hfz22_1
              try clear hfz22_2
              try clear hfz23_0
              try clear hfz23_1
              try clear hfz23_2
              try clear hfz26_0
              try clear hfz26_1
              try clear hfz26_2
              try clear hfz27_0
              try clear hfz27_1
              try clear hfz27_2
              try clear hfz35_0
              try clear hfz35_1
              try clear hfz35_2
              try clear hfz36_0
              try clear hfz36_1
              try clear hfz36_2
              try clear hfz40_0
              try clear hfz40_1
              try clear hfz40_2
              try clear hfz41_0
              try clear hfz41_1
              try clear hfz41_2
              try clear hfz44_0
              try clear hfz44_1
              try clear hfz44_2
              try clear hfz45_0
              try clear hfz45_1
              try clear hfz45_2
              try clear hfz47_0
              try clear hfz47_1
              try clear hfz47_2
              try clear hfz48_0
              try clear hfz48_1
              try clear hfz48_2
              try clear hx272_0
              try clear hx272_1
              try clear hx272_2
              try clear hx277_0
              try clear hx277_1
              try clear hx277_2
              try clear p2
              try clear p27
              try clear p272
              try clear p277
              try clear p6
              try clear q2
              try clear q27
              try clear q272
              try clear q277
              obtain ⟨kq,x60_36,rfl,HA,HJ36,BK273,BK278,HB⟩ := hcut
              cases kq with
              | zero => exact absurd HA.out (by simp [zB.j2])
              | succ kj36 =>
               have H := HA.out
               clear HA
               simp only [zB.j2] at H
               by_cases c49 : x60_36 = true
               ·subst c49
                have H1 : (some 0) = some r := by rw [if_pos rfl] at H; exact H
                clear H
                have H := H1
                clear H1
                obtain rfl := Option.some.inj H
                go_wp2
                go_ret
                exact ⟨by first | rfl | (simp [zy,zx] <;> rfl) | (simp only [← hji29]; first | rfl | (simp [zy,zx] <;> rfl)) | (simp [*,zy,zx] <;> rfl),by repeat (first | (with_reducible first | exact HB.out | apply ze | apply zb | apply zf | refine zi ?_ GE273.out | refine zi ?_ GE278.out) | exact HB.out)⟩
               ·replace c49 := Bool.eq_false_iff.mpr c49
                subst c49
                have H1 : (if ((zg l1 a2).f0) = 1 then (some 5) else (some 4)) = some r := by rw [if_neg (show ¬ (false = true) by decide)] at H; exact H
                clear H
                have H := H1
                clear H1
                by_cases c50 : ((zg l1 a2).f0) = 1
                ·rw [if_pos c50] at H
                 have c50b0 : (((zg l1 a2).f0) == 1) = true := beq_iff_eq.mpr c50
                 have c50b1 : (((zg l1 a2).f0) != 1) = false := bne_eq_false_iff_eq.mpr c50
                 clear c50
                 obtain rfl := Option.some.inj H
                 have hnb51 := NB273_278.out
                 have hnc51 := NB278_273.out
                 have hcz52_0 : wc.cell? ⟨gb273,0,none⟩ = some (.int .i64 ((zg l1 a2).f0)) := (zh BK273.out 0).trans rfl
                 have hcz52_1 : wc.cell? ⟨gb273,1,none⟩ = some (.int .i64 ((zg l1 a2).f1)) := (zh BK273.out 1).trans rfl
                 have hcz52_2 : wc.cell? ⟨gb273,2,none⟩ = some (.string ((zg l1 a2).f2)) := (zh BK273.out 2).trans rfl
                 have hfz52_0 := zo BK273.out 0
                 have hfz52_1 := zo BK273.out 1
                 have hfz52_2 := zo BK273.out 2
                 go_wp2
                 go_ret
                 exact ⟨by first | rfl | (simp [zy,zx] <;> rfl) | (simp only [← hji29]; first | rfl | (simp [zy,zx] <;> rfl)) | (simp [*,zy,zx] <;> rfl),by repeat (first | (with_reducible first | exact HB.out | apply ze | apply zb | apply zf | refine zi ?_ GE273.out | refine zi ?_ GE278.out) | exact HB.out)⟩
                ·rw [if_neg c50] at H
                 have c50b0 : (((zg l1 a2).f0) == 1) = false := beq_eq_false_iff_ne.mpr c50
                 have c50b1 : (((zg l1 a2).f0) != 1) = true := bne_iff_ne.mpr c50
                 obtain rfl := Option.some.inj H
                 have hnb53 := NB273_278.out
                 have hnc53 := NB278_273.out
                 have hcz54_0 : wc.cell? ⟨gb273,0,none⟩ = some (.int .i64 ((zg l1 a2).f0)) := (zh BK273.out 0).trans rfl
                 have hcz54_1 : wc.cell? ⟨gb273,1,none⟩ = some (.int .i64 ((zg l1 a2).f1)) := (zh BK273.out 1).trans rfl
                 have hcz54_2 : wc.cell? ⟨gb273,2,none⟩ = some (.string ((zg l1 a2).f2)) := (zh BK273.out 2).trans rfl
                 have hfz54_0 := zo BK273.out 0
                 have hfz54_1 := zo BK273.out 1
                 have hfz54_2 := zo BK273.out 2
                 go_wp2
                 go_ret
                 exact ⟨by first | rfl | (simp [zy,zx] <;> rfl) | (simp only [← hji29]; first | rfl | (simp [zy,zx] <;> rfl)) | (simp [*,zy,zx] <;> rfl),by repeat (first | (with_reducible first | exact HB.out | apply ze | apply zb | apply zf | refine zi ?_ GE273.out | refine zi ?_ GE278.out) | exact HB.out)⟩
           ·rw [if_neg c31] at H
            exact absurd H qz
          ·rw [if_neg c30] at H
           exact absurd H qz
   ·replace c7 := Bool.eq_false_iff.mpr c7
    subst c7
    have H1 : (some 8) = some r := by rw [if_neg (show ¬ (false = true) by decide)] at H; exact H
    clear H
    have H := H1
    clear H1
    obtain rfl := Option.some.inj H
    have p272 : 0 ≤ (a2 : Int) := of_decide_eq_true qd
    have q272 : a2 < (l1.length : Int) := of_decide_eq_true qd
    obtain ⟨ad272,e272,hx272_0,hx272_1,hx272_2⟩ := za8 HR1.out a2 p272 q272
    cases e272
    replace p272 := eq_true p272
    replace q272 := eq_true q272
    go_enter Try.func112,Try.ntmps112
    go_wp2_with (first | ((with_reducible refine zaE (N := 7) rfl ?_); refine zaV ?hg (N := 7) ?hd (cs := #[.int .i64 0, .int .i64 0, .string (⟨#[]⟩ : ByteArray)]) (t := 63) ?hr ?_; (case hd => rfl); (case hg => rfl); (case hr => exact qq); intro gb273 hg w55 hbox hb; have n0_ := za.mk (zq (qc HB.out) hb); have n1_ := za.mk (hbox); have n2_ := za.mk ((by rw [hg]; exact (zC (qc HB.out)) : w.heap.size ≤ gb273)); have n3_ := za.mk ((by rw [hg]; exact (zC (qc HB.out)) : w.heap.size ≤ gb273)); clear HB; have HB := n0_; have BK273 := n1_; have GW273 := n2_; have GE273 := n3_; clear n0_ n1_ n2_ n3_; clear hb hbox hg; have hcz56_0 : w55.cell? ⟨gb273,0,none⟩ = some (.int .i64 0) := (zh BK273.out 0).trans rfl; have hcz56_1 : w55.cell? ⟨gb273,1,none⟩ = some (.int .i64 0) := (zh BK273.out 1).trans rfl; have hcz56_2 : w55.cell? ⟨gb273,2,none⟩ = some (.string (⟨#[]⟩ : ByteArray)) := (zh BK273.out 2).trans rfl; have hfz56_0 := zo BK273.out 0; have hfz56_1 := zo BK273.out 1; have hfz56_2 := zo BK273.out 2) | ((with_reducible refine zz (f := 128) rfl ?_); refine zT (some 16) rfl rfl Try.func128 qi rfl #[.int .i64 ((zg l1 a2).f0), .int .i64 1, .int .i64 3] rfl qa ?_; (with_reducible refine (zaX.calls ((zg l1 a2).f0) 1 3 false _ A6.out).mono ?_); rintro e w' ⟨rfl,⟨nd,rfl⟩⟩; refine ⟨_,rfl,?_⟩))
    go_ret
    exact ⟨by first | rfl | (simp [zy,zx] <;> rfl) | (simp [*,zy,zx] <;> rfl),by repeat (first | (with_reducible first | exact HB.out | apply ze | apply zb | apply zf | refine zi ?_ GE273.out) | exact HB.out)⟩
  ·rw [if_neg c5] at H
   exact absurd H qz
 ·rw [if_neg c4] at H
  exact absurd H qz
def zas.l0 : Nat → Int → List (S63) → Int → Option (Int)
 | 0,_,_,_ => none
 | k + 1,x0,x1,x5 => if x5 < (x1.length : Int) then ((zB.f k x0 x1 x5).bind fun t279 => (if t279 = 0 then (zas.l0 k x0 x1 (wrap64 (x5 + 1))) else (some t279))) else (some 0)
def zas.f (k : Nat) (a0 : Int) (l1 : List (S63)) : Option (Int) := if (l1.length : Int) > 12 then (some 6) else (zas.l0 k a0 l1 0)
set_option maxHeartbeats 8000000 in
set_option maxRecDepth 100000 in
theorem zas.calls (k : Nat) (a0 : Int) (A1 : Option Addr) (c1 : Nat) (l1 : List (S63)) (r : Int) (w : World) (hr1 : Kd.C k63 w A1 l1.length l1) (hc1 : l1.length ≤ c1) (h : zas.f k a0 l1 = some r) :
  Calls Try.prog 89 #[.int .i64 a0, .slice A1 l1.length c1] w fun e w' => e = .returned (.int .i64 r) ∧ Below w.heap.size w w' := by
 have HR1 := za.mk hr1
 have HC1 := za.mk hc1
 clear hr1 hc1
 have HB := za.mk (Below.refl w.heap.size w)
 have H : (if (l1.length : Int) > 12 then (some 6) else (zas.l0 k a0 l1 0)) = some r := h
 clear h
 by_cases c3 : (l1.length : Int) > 12
 ·rw [if_pos c3] at H
  have c3b0 : decide (12 < (l1.length : Int)) = true := decide_eq_true c3
  have c3b1 : decide (12 < l1.length) = true := decide_eq_true qj
  clear c3
  obtain rfl := Option.some.inj H
  go_enter Try.func89,Try.ntmps89
  go_wp2
  go_ret
  exact ⟨by first | rfl | (simp [zy,zx] <;> rfl) | (simp [*,zy,zx] <;> rfl),by repeat (first | (with_reducible first | exact HB.out | apply ze | apply zb | apply zf) | exact HB.out)⟩
 ·rw [if_neg c3] at H
  have c3b0 : decide (12 < (l1.length : Int)) = false := decide_eq_false c3
  have c3b1 : decide (12 < l1.length) = false := decide_eq_false qj
  clear c3
  have H' := za.mk H
  clear H
  go_enter Try.func89,Try.ntmps89
  go_wp2
  go_loopg [5] k (fun kq v5 w' => ∃ (x5_1 : Int),v5 = .int .i64 x5_1 ∧ za (zas.l0 kq a0 l1 x5_1 = some r) ∧ za (kq ≤ k) ∧ za (Below w.heap.size w w'))
  case atStart => exact ⟨(0),qf,H',⟨Nat.le_refl _⟩,⟨by repeat (first | (with_reducible first | exact HB.out | apply ze | apply zb | apply zf) | exact HB.out)⟩⟩
  case round =>
   clear H'
   try clear c1
   try clear p2
   try clear c3
   try clear c3b0
   try clear c3b1
   obtain ⟨x5_1,rfl,HA,HK1,HB⟩ := hrel
   cases gk with
   | zero => exact absurd HA.out (by simp [zas.l0])
   | succ k1 =>
    have H := HA.out
    clear HA
    simp only [zas.l0] at H
    by_cases c4 : x5_1 < (l1.length : Int)
    ·rw [if_pos c4] at H
     have c4b0 : decide (x5_1 < (l1.length : Int)) = true := decide_eq_true c4
     clear c4
     replace H := Option.bind_eq_some_iff.mp H
     obtain ⟨t279,A50,H⟩ := H
     replace H : (if t279 = 0 then (zas.l0 k1 a0 l1 (wrap64 (x5_1 + 1))) else (some t279)) = some r := H
     have A5 := za.mk A50
     clear A50
     by_cases c6 : t279 = 0
     ·rw [if_pos c6] at H
      have c6b0 : (t279 == 0) = true := beq_iff_eq.mpr c6
      have c6b1 : (t279 != 0) = false := bne_eq_false_iff_eq.mpr c6
      clear c6
      have H' := za.mk H
      clear H
      go_wp2_with (first | ((with_reducible refine zz (f := 112) rfl ?_); refine zT (some 19) rfl rfl Try.func112 qi rfl #[.int .i64 a0, .slice A1 l1.length c1, .int .i64 x5_1] rfl qa ?_; (with_reducible refine (zB.calls k1 a0 _ _ l1 x5_1 t279 _ ?side1 ?side2 A5.out).mono ?_); (case side1 => exact ql HR1.out HB.out); (case side2 => exact HC1.out); rintro e w7 ⟨rfl,hb⟩; refine ⟨_,rfl,?_⟩; have n0_ := za.mk (zq (qc HB.out) hb); clear HB; have HB := n0_; clear n0_; (try clear hb); (try clear hb2); (try clear hk); (try clear hi)))
      go_roundg k1
      case measure => have := HK1.out; omega
      case rel => exact ⟨(wrap64 (x5_1 + 1)),qf,H',⟨by have := HK1.out; omega⟩,⟨by repeat (first | (with_reducible first | exact HB.out | apply ze | apply zb | apply zf) | exact HB.out)⟩⟩
     ·rw [if_neg c6] at H
      have c6b0 : (t279 == 0) = false := beq_eq_false_iff_ne.mpr c6
      have c6b1 : (t279 != 0) = true := bne_iff_ne.mpr c6
      obtain rfl := Option.some.inj H
      go_wp2_with (first | ((with_reducible refine zz (f := 112) rfl ?_); refine zT (some 19) rfl rfl Try.func112 qi rfl #[.int .i64 a0, .slice A1 l1.length c1, .int .i64 x5_1] rfl qa ?_; (with_reducible refine (zB.calls k1 a0 _ _ l1 x5_1 t279 _ ?side1 ?side2 A5.out).mono ?_); (case side1 => exact ql HR1.out HB.out); (case side2 => exact HC1.out); rintro e w8 ⟨rfl,hb⟩; refine ⟨_,rfl,?_⟩; have n0_ := za.mk (zq (qc HB.out) hb); clear HB; have HB := n0_; clear n0_; (try clear hb); (try clear hb2); (try clear hk); (try clear hi)))
      go_ret
      exact ⟨by first | rfl | (simp [zy,zx] <;> rfl) | (simp [*,zy,zx] <;> rfl),by repeat (first | (with_reducible first | exact HB.out | apply ze | apply zb | apply zf) | exact HB.out)⟩
    ·rw [if_neg c4] at H
     have c4b0 : decide (x5_1 < (l1.length : Int)) = false := decide_eq_false c4
     clear c4
     obtain rfl := Option.some.inj H
     go_wp2
     go_ret
     exact ⟨by first | rfl | (simp [zy,zx] <;> rfl) | (simp [*,zy,zx] <;> rfl),by repeat (first | (with_reducible first | exact HB.out | apply ze | apply zb | apply zf) | exact HB.out)⟩
def zbo.f (k : Nat) (l0 : List ByteArray) (l1 : List (S63)) : Option (Int) := (zac.f k l0).bind fun t280 => (if t280 = 0 then ((zas.f k (l0.length : Int) l1).bind fun t281 => (some t281)) else (some t280))
set_option maxHeartbeats 8000000 in
set_option maxRecDepth 100000 in
theorem zbo.calls (k : Nat) (A0 : Option Addr) (c0 : Nat) (l0 : List ByteArray) (A1 : Option Addr) (c1 : Nat) (l1 : List (S63)) (r : Int) (w : World) (hr0 : Kd.C Kd.string w A0 l0.length l0) (hc0 : l0.length ≤ c0) (hr1 : Kd.C k63 w A1 l1.length l1) (hc1 : l1.length ≤ c1) (h : zbo.f k l0 l1 = some r) :
  Calls Try.prog 69 #[.slice A0 l0.length c0, .slice A1 l1.length c1] w fun e w' => e = .returned (.int .i64 r) ∧ Below w.heap.size w w' := by
 have HR0 := za.mk hr0
 have HC0 := za.mk hc0
 clear hr0 hc0
 have HR1 := za.mk hr1
 have HC1 := za.mk hc1
 clear hr1 hc1
 have HB := za.mk (Below.refl w.heap.size w)
 have H : ((zac.f k l0).bind fun t280 => (if t280 = 0 then ((zas.f k (l0.length : Int) l1).bind fun t281 => (some t281)) else (some t280))) = some r := h
 clear h
 replace H := Option.bind_eq_some_iff.mp H
 obtain ⟨t280,A30,H⟩ := H
 replace H : (if t280 = 0 then ((zas.f k (l0.length : Int) l1).bind fun t281 => (some t281)) else (some t280)) = some r := H
 have A3 := za.mk A30
 clear A30
 by_cases c4 : t280 = 0
 ·rw [if_pos c4] at H
  have c4b0 : (t280 == 0) = true := beq_iff_eq.mpr c4
  have c4b1 : (t280 != 0) = false := bne_eq_false_iff_eq.mpr c4
  clear c4
  replace H := Option.bind_eq_some_iff.mp H
  obtain ⟨t281,A50,H⟩ := H
  replace H : (some t281) = some r := H
  have A5 := za.mk A50
  clear A50
  obtain rfl := Option.some.inj H
  go_enter Try.func69,Try.ntmps69
  go_wp2_with (first | ((with_reducible refine zz (f := 47) rfl ?_); refine zT (some 7) rfl rfl Try.func47 qi rfl #[.slice A0 l0.length c0] rfl qa ?_; (with_reducible refine (zac.calls k _ _ l0 t280 _ ?side1 ?side2 A3.out).mono ?_); (case side1 => exact qe HR0.out); (case side2 => exact HC0.out); rintro e w' ⟨rfl,⟨nd,rfl⟩⟩; refine ⟨_,rfl,?_⟩) | ((with_reducible refine zz (f := 89) rfl ?_); refine zT (some 14) rfl rfl Try.func89 qi rfl #[.int .i64 (l0.length : Int), .slice A1 l1.length c1] rfl qa ?_; (with_reducible refine (zas.calls k (l0.length : Int) _ _ l1 t281 _ ?side1 ?side2 A5.out).mono ?_); (case side1 => exact qe HR1.out); (case side2 => exact HC1.out); rintro e w6 ⟨rfl,hb⟩; refine ⟨_,rfl,?_⟩; have n0_ := za.mk (zq (qc HB.out) hb); clear HB; have HB := n0_; clear n0_; (try clear hb); (try clear hb2); (try clear hk); (try clear hi)))
  go_ret
  exact ⟨by first | rfl | (simp [zy,zx] <;> rfl) | (simp [*,zy,zx] <;> rfl),by repeat (first | (with_reducible first | exact HB.out | apply ze | apply zb | apply zf) | exact HB.out)⟩
 ·rw [if_neg c4] at H
  have c4b0 : (t280 == 0) = false := beq_eq_false_iff_ne.mpr c4
  have c4b1 : (t280 != 0) = true := bne_iff_ne.mpr c4
  obtain rfl := Option.some.inj H
  go_enter Try.func69,Try.ntmps69
  go_wp2_with (first | ((with_reducible refine zz (f := 47) rfl ?_); refine zT (some 7) rfl rfl Try.func47 qi rfl #[.slice A0 l0.length c0] rfl qa ?_; (with_reducible refine (zac.calls k _ _ l0 t280 _ ?side1 ?side2 A3.out).mono ?_); (case side1 => exact qe HR0.out); (case side2 => exact HC0.out); rintro e w' ⟨rfl,⟨nd,rfl⟩⟩; refine ⟨_,rfl,?_⟩))
  go_ret
  exact ⟨by first | rfl | (simp [zy,zx] <;> rfl) | (simp [*,zy,zx] <;> rfl),by repeat (first | (with_reducible first | exact HB.out | apply ze | apply zb | apply zf) | exact HB.out)⟩
mutual
def zQ.l0 : Nat → List ByteArray → List (S63) → List ByteArray → Int → Option (List ByteArray)
 | 0,_,_,_,_ => none
 | k + 1,x0,x1,x5,x6 => if x6 ≤ (x0.length : Int) then (if x6 < (x0.length : Int) then (if 0 ≤ x6 then (zQ.j1 k x0 x1 x5 x6 (decide (x6 < (x0.length : Int))) (za0 ByteArray.empty x0 x6)) else (none)) else (zQ.j1 k x0 x1 x5 x6 (decide (x6 < (x0.length : Int))) (⟨#[]⟩ : ByteArray))) else (some x5)
def zQ.j1 : Nat → List ByteArray → List (S63) → List ByteArray → Int → Bool → ByteArray → Option (List ByteArray)
 | 0,_,_,_,_,_,_ => none
 | k + 1,x0,x1,x5,x6,x7,x8 => zQ.l1 k x0 x1 x5 x6 x7 x8 0
def zQ.l1 : Nat → List ByteArray → List (S63) → List ByteArray → Int → Bool → ByteArray → Int → Option (List ByteArray)
 | 0,_,_,_,_,_,_,_ => none
 | k + 1,x0,x1,x5,x6,x7,x8,x9 => if x9 < (x1.length : Int) then (if 0 ≤ x9 then (if ((zg x1 x9).f1) = x6 then (if ((zg x1 x9).f0) = 1 then (if x5.length < 8796093022208 then (zQ.l1 k x0 x1 (x5 ++ [(zg x1 x9).f2]) x6 x7 x8 (wrap64 (x9 + 1))) else (none)) else (if ((zg x1 x9).f0) = 2 then (zQ.l1 k x0 x1 x5 x6 x7 ((zg x1 x9).f2) (wrap64 (x9 + 1))) else (zQ.l1 k x0 x1 x5 x6 false x8 (wrap64 (x9 + 1))))) else (zQ.l1 k x0 x1 x5 x6 x7 x8 (wrap64 (x9 + 1)))) else (none)) else (if x7 = true then (if x5.length < 8796093022208 then (zQ.l0 k x0 x1 (x5 ++ [x8]) (wrap64 (x6 + 1))) else (none)) else (zQ.l0 k x0 x1 x5 (wrap64 (x6 + 1))))
end
def zQ.f (k : Nat) (l0 : List ByteArray) (l1 : List (S63)) : Option (List ByteArray) := zQ.l0 k l0 l1 ([] : List ByteArray) 0
set_option maxHeartbeats 8000000 in
set_option maxRecDepth 100000 in
theorem zQ.calls (k : Nat) (A0 : Option Addr) (c0 : Nat) (l0 : List ByteArray) (A1 : Option Addr) (c1 : Nat) (l1 : List (S63)) (r : List ByteArray) (w : World) (hr0 : Kd.C Kd.string w A0 l0.length l0) (hc0 : l0.length ≤ c0) (hr1 : Kd.C k63 w A1 l1.length l1) (hc1 : l1.length ≤ c1) (h : zQ.f k l0 l1 = some r) :
  Calls Try.prog 71 #[.slice A0 l0.length c0, .slice A1 l1.length c1] w fun e w' => ∃ v0_ : Value,e = .returned (v0_) ∧ Kd.R Kd.string 9 w' w.heap.size (fun _ => True) v0_ r ∧ Below w.heap.size w w' := by
 have HR0 := za.mk hr0
 have HC0 := za.mk hc0
 clear hr0 hc0
 have HR1 := za.mk hr1
 have HC1 := za.mk hc1
 clear hr1 hc1
 have HB := za.mk (Below.refl w.heap.size w)
 have H : (zQ.l0 k l0 l1 ([] : List ByteArray) 0) = some r := h
 clear h
 have H' := za.mk H
 clear H
 go_enter Try.func71,Try.ntmps71
 go_wp2
 go_loopg [5,6] k (fun kq v5 v6 w' => ∃ (x5_1 : List ByteArray) (x6_1 : Int),v6 = .int .i64 x6_1 ∧ za (zQ.l0 kq l0 l1 x5_1 x6_1 = some r) ∧ za (kq ≤ k) ∧ za (Kd.R Kd.string 9 w' w.heap.size (fun _ => True) v5 x5_1) ∧ za (Below w.heap.size w w'))
 case atStart => exact ⟨(([] : List ByteArray)),(0),qf,H',⟨Nat.le_refl _⟩,⟨by first | exact Kd.zbP _ _ _ _ _ | exact Kd.zcX _ _ _ _ _ | exact Kd.zc0 _ _ _ _ _ | exact Kd.zc1 _ _ _ _ _ | exact Kd.zc3 _ _ _ _ _⟩,⟨by repeat (first | (with_reducible first | exact HB.out | apply ze | apply zb | apply zf) | exact HB.out)⟩⟩
 case round =>
  clear H'
  try clear c1
  try clear p2
  obtain ⟨x5_1,x6_1,rfl,HA,HK1,HO_5,HB⟩ := hrel
  cases gk with
  | zero => exact absurd HA.out (by simp [zQ.l0])
  | succ k1 =>
   have H := HA.out
   clear HA
   simp only [zQ.l0] at H
   by_cases c3 : x6_1 ≤ (l0.length : Int)
   ·rw [if_pos c3] at H
    have c3b0 : decide (x6_1 ≤ (l0.length : Int)) = true := decide_eq_true c3
    clear c3
    have HC4 := za.mk H
    clear H
    go_upto_if 20 with (fail)
    go_cut [7,8] (fun v7 v8 wc => ∃ (kq : Nat) (x8_3 : ByteArray),v7 = .bool (decide (x6_1 < (l0.length : Int))) ∧ v8 = .string x8_3 ∧ za (zQ.j1 kq l0 l1 x5_1 x6_1 (decide (x6_1 < (l0.length : Int))) x8_3 = some r) ∧ za (kq ≤ k1) ∧ za (Kd.R Kd.string 9 wc w.heap.size (fun _ => True) u5 x5_1) ∧ za (Below w.heap.size w wc))
    case first =>
     have H := HC4.out
     clear HC4
     by_cases c5 : x6_1 < (l0.length : Int)
     ·rw [if_pos c5] at H
      have c5b0 : decide (x6_1 < (l0.length : Int)) = true := decide_eq_true c5
      clear c5
      (first | rw [c5b0] | (simp only [zad,zaf]; rw [c5b0]) | skip)
      by_cases c6 : 0 ≤ x6_1
      ·rw [if_pos c6] at H
       have c6b0 : decide (0 ≤ x6_1) = true := decide_eq_true c6
       clear c6
       have H' := za.mk H
       clear H
       have p355 : 0 ≤ (x6_1 : Int) := of_decide_eq_true qd
       have q355 : x6_1 < (l0.length : Int) := of_decide_eq_true qd
       obtain ⟨ad355,e355,hx355_0⟩ := Kd.zbw HR0.out x6_1 p355 q355
       cases e355
       replace hx355_0 := (HB.out.cell (World.block_lt_of_cell? w _ hx355_0)).trans hx355_0
       replace p355 := eq_true p355
       replace q355 := eq_true q355
       go_wp2
       go_meet
       case rel => exact ⟨_,(za0 ByteArray.empty l0 x6_1),(by rw [c5b0]),qf,H',⟨by have := HK1.out; first | omega | exact Nat.le_refl _⟩,⟨by (with_reducible repeat (first | apply Kd.zal | apply Kd.zam | apply Kd.zau)); exact HO_5.out⟩,⟨by repeat (first | (with_reducible first | exact HB.out | apply ze | apply zb | apply zf) | exact HB.out)⟩⟩
      ·rw [if_neg c6] at H
       exact absurd H qz
     ·rw [if_neg c5] at H
      have c5b0 : decide (x6_1 < (l0.length : Int)) = false := decide_eq_false c5
      clear c5
      (first | rw [c5b0] | (simp only [zad,zaf]; rw [c5b0]) | skip)
      have H' := za.mk H
      clear H
      go_wp2
      go_meet
      case rel => exact ⟨_,((⟨#[]⟩ : ByteArray)),(by rw [c5b0]),qf,H',⟨by have := HK1.out; first | omega | exact Nat.le_refl _⟩,⟨by (with_reducible repeat (first | apply Kd.zal | apply Kd.zam | apply Kd.zau)); exact HO_5.out⟩,⟨by repeat (first | (with_reducible first | exact HB.out | apply ze | apply zb | apply zf) | exact HB.out)⟩⟩
    case rest =>
     clear HC4
     try clear c1
     try clear p2
     try clear c3
     try clear c3b0
     try clear p3
     try clear q3
     try clear hx3
     try clear c5
     try clear c5b0
     try clear c6
     try clear c6b0
     try clear hx355_0
     try clear p2
     try clear p355
     try clear q355
     obtain ⟨kq,x8_3,rfl,rfl,HA,HJ3,HO_5,HB⟩ := hcut
     cases kq with
     | zero => exact absurd HA.out (by simp [zQ.j1])
     | succ kj3 =>
      have H := HA.out
      clear HA
      simp only [zQ.j1] at H
      have H' := za.mk H
      clear H
      go_wp2
      go_loopg [5,7,8,9] kj3 (fun kq v5 v7 v8 v9 w' => ∃ (x5_3 : List ByteArray) (x7_3 : Bool) (x8_3 : ByteArray) (x9_3 : Int),v7 = .bool x7_3 ∧ v8 = .string x8_3 ∧ v9 = .int .i64 x9_3 ∧ za (zQ.l1 kq l0 l1 x5_3 x6_1 x7_3 x8_3 x9_3 = some r) ∧ za (kq ≤ kj3) ∧ za (Kd.R Kd.string 9 w' w.heap.size (fun _ => True) v5 x5_3) ∧ za (Below w.heap.size w w'))
      case atStart => exact ⟨(x5_1),((decide (x6_1 < (l0.length : Int)))),(x8_3),(0),qf,qf,qf,H',⟨Nat.le_refl _⟩,⟨by (with_reducible repeat (first | apply Kd.zal | apply Kd.zam | apply Kd.zau)); exact HO_5.out⟩,⟨by repeat (first | (with_reducible first | exact HB.out | apply ze | apply zb | apply zf) | exact HB.out)⟩⟩
      case round =>
       clear H'
       try clear c1
       try clear p2
       try clear c3
       try clear c3b0
       try clear p3
       try clear q3
       try clear hx3
       try clear c5
       try clear c5b0
       try clear c6
       try clear c6b0
       try clear hx355_0
       try clear p2
       try clear p3
       try clear p355
       try clear q3
       try clear q355
       obtain ⟨x5_3,x7_3,x8_3,x9_3,rfl,rfl,rfl,HA,HK3,HO_5,HB⟩ := hrel
       cases gk with
       | zero => exact absurd HA.out (by simp [zQ.l1])
       | succ k3 =>
        have H := HA.out
        clear HA
        simp only [zQ.l1] at H
        by_cases c7 : x9_3 < (l1.length : Int)
        ·rw [if_pos c7] at H
         have c7b0 : decide (x9_3 < (l1.length : Int)) = true := decide_eq_true c7
         clear c7
         by_cases c8 : 0 ≤ x9_3
         ·rw [if_pos c8] at H
          have c8b0 : decide (0 ≤ x9_3) = true := decide_eq_true c8
          clear c8
          by_cases c9 : ((zg l1 x9_3).f1) = x6_1
          ·rw [if_pos c9] at H
           have c9b0 : (((zg l1 x9_3).f1) == x6_1) = true := beq_iff_eq.mpr c9
           have c9b1 : (((zg l1 x9_3).f1) != x6_1) = false := bne_eq_false_iff_eq.mpr c9
           clear c9
           by_cases c10 : ((zg l1 x9_3).f0) = 1
           ·rw [if_pos c10] at H
            have c10b0 : (((zg l1 x9_3).f0) == 1) = true := beq_iff_eq.mpr c10
            have c10b1 : (((zg l1 x9_3).f0) != 1) = false := bne_eq_false_iff_eq.mpr c10
            clear c10
            by_cases c11 : x5_3.length < 8796093022208
            ·rw [if_pos c11] at H
             have LMc11 := za.mk c11
             clear c11
             obtain ⟨y362,hy362⟩ : ∃ y_ : List ByteArray,y_ = (x5_3 ++ [(zg l1 x9_3).f2]) := ⟨_,rfl⟩
             replace H : (zQ.l1 k3 l0 l1 y362 x6_1 x7_3 x8_3 (wrap64 (x9_3 + 1))) = some r := by first | (rw [hy362]; with_reducible exact H) | (have H2_ := (Option.bind_some _ _).symm.trans H; rw [hy362]; with_reducible exact H2_) | (have H2_ := (Option.bind_some _ _).symm.trans H; with_reducible exact H2_) | with_reducible exact H | (rw [hy362]; exact H) | exact H
             have Ny362 := za.mk hy362
             clear hy362
             have H' := za.mk H
             clear H
             have p359 : 0 ≤ (x9_3 : Int) := of_decide_eq_true qd
             have q359 : x9_3 < (l1.length : Int) := of_decide_eq_true qd
             obtain ⟨ad359,e359,hx359_0,hx359_1,hx359_2⟩ := za8 HR1.out x9_3 p359 q359
             cases e359
             replace hx359_0 := (HB.out.cell (World.block_lt_of_cell? w _ hx359_0)).trans hx359_0
             replace hx359_1 := (HB.out.cell (World.block_lt_of_cell? w _ hx359_1)).trans hx359_1
             replace hx359_2 := (HB.out.cell (World.block_lt_of_cell? w _ hx359_2)).trans hx359_2
             replace p359 := eq_true p359
             replace q359 := eq_true q359
             have p360 : 0 ≤ (x9_3 : Int) := of_decide_eq_true qd
             have q360 : x9_3 < (l1.length : Int) := of_decide_eq_true qd
             obtain ⟨ad360,e360,hx360_0,hx360_1,hx360_2⟩ := za8 HR1.out x9_3 p360 q360
             obtain rfl : ad359 = ad360 := (by injection e360)
             replace hx360_0 := (HB.out.cell (World.block_lt_of_cell? w _ hx360_0)).trans hx360_0
             replace hx360_1 := (HB.out.cell (World.block_lt_of_cell? w _ hx360_1)).trans hx360_1
             replace hx360_2 := (HB.out.cell (World.block_lt_of_cell? w _ hx360_2)).trans hx360_2
             replace p360 := eq_true p360
             replace q360 := eq_true q360
             have p361 : 0 ≤ (x9_3 : Int) := of_decide_eq_true qd
             have q361 : x9_3 < (l1.length : Int) := of_decide_eq_true qd
             obtain ⟨ad361,e361,hx361_0,hx361_1,hx361_2⟩ := za8 HR1.out x9_3 p361 q361
             obtain rfl : ad359 = ad361 := (by injection e361)
             replace hx361_0 := (HB.out.cell (World.block_lt_of_cell? w _ hx361_0)).trans hx361_0
             replace hx361_1 := (HB.out.cell (World.block_lt_of_cell? w _ hx361_1)).trans hx361_1
             replace hx361_2 := (HB.out.cell (World.block_lt_of_cell? w _ hx361_2)).trans hx361_2
             replace p361 := eq_true p361
             replace q361 := eq_true q361
             go_wp2_with (first | ((with_reducible refine zbf (b := .append) (xs := #[.tmp 46, .tmp 52]) rfl ?_); at_builtin; refine Kd.zcm Kd.string (w0 := w) w.heap.size rfl (.tmp 46) (.tmp 52) 22 9 (.string ⟨#[]⟩) 16 rfl Try.underlying22 zdb rfl qt qj u5 x5_3 ((zg l1 x9_3).f2) [.string ((zg l1 x9_3).f2)] (fun _ => True) (fun _ => False) rfl rfl ?aP (fun _ hk => hk.elim) ?aF ?aO ?aB ?aS ?aL ?_; (case aP => exact rfl); (case aB => exact (qc HB.out)); (case aF => exact (fun _ _ => trivial)); (case aO => exact (qp HO_5.out)); (case aS => exact (zC (qc HB.out))); (case aL => have := LMc11.out; omega); intro v363 w12 ho hb hg hat; rw [← Ny362.out] at ho; have n0_ := za.mk (hb); have n1_ := za.mk (ho); clear HB; clear HO_5; have HB := n0_; have HO364 := n1_; clear n0_ n1_; clear ho hb hg hat))
             go_roundg k3
             case measure => have := HK1.out; have := HJ3.out; have := HK3.out; omega
             case rel => exact ⟨(y362),(x7_3),(x8_3),(wrap64 (x9_3 + 1)),qf,qf,qf,H',⟨by have := HK1.out; have := HJ3.out; have := HK3.out; omega⟩,⟨by (with_reducible repeat (first | apply Kd.zal | apply Kd.zam | apply Kd.zau)); exact HO364.out⟩,⟨by repeat (first | (with_reducible first | exact HB.out | apply ze | apply zb | apply zf) | exact HB.out)⟩⟩
            ·rw [if_neg c11] at H
             exact absurd H qz
           ·rw [if_neg c10] at H
            have c10b0 : (((zg l1 x9_3).f0) == 1) = false := beq_eq_false_iff_ne.mpr c10
            have c10b1 : (((zg l1 x9_3).f0) != 1) = true := bne_iff_ne.mpr c10
            by_cases c13 : ((zg l1 x9_3).f0) = 2
            ·rw [if_pos c13] at H
             have c13b0 : (((zg l1 x9_3).f0) == 2) = true := beq_iff_eq.mpr c13
             have c13b1 : (((zg l1 x9_3).f0) != 2) = false := bne_eq_false_iff_eq.mpr c13
             clear c13
             have H' := za.mk H
             clear H
             have p359 : 0 ≤ (x9_3 : Int) := of_decide_eq_true qd
             have q359 : x9_3 < (l1.length : Int) := of_decide_eq_true qd
             obtain ⟨ad359,e359,hx359_0,hx359_1,hx359_2⟩ := za8 HR1.out x9_3 p359 q359
             cases e359
             replace hx359_0 := (HB.out.cell (World.block_lt_of_cell? w _ hx359_0)).trans hx359_0
             replace hx359_1 := (HB.out.cell (World.block_lt_of_cell? w _ hx359_1)).trans hx359_1
             replace hx359_2 := (HB.out.cell (World.block_lt_of_cell? w _ hx359_2)).trans hx359_2
             replace p359 := eq_true p359
             replace q359 := eq_true q359
             have p360 : 0 ≤ (x9_3 : Int) := of_decide_eq_true qd
             have q360 : x9_3 < (l1.length : Int) := of_decide_eq_true qd
             obtain ⟨ad360,e360,hx360_0,hx360_1,hx360_2⟩ := za8 HR1.out x9_3 p360 q360
             obtain rfl : ad359 = ad360 := (by injection e360)
             replace hx360_0 := (HB.out.cell (World.block_lt_of_cell? w _ hx360_0)).trans hx360_0
             replace hx360_1 := (HB.out.cell (World.block_lt_of_cell? w _ hx360_1)).trans hx360_1
             replace hx360_2 := (HB.out.cell (World.block_lt_of_cell? w _ hx360_2)).trans hx360_2
             replace p360 := eq_true p360
             replace q360 := eq_true q360
             have p365 : 0 ≤ (x9_3 : Int) := of_decide_eq_true qd
             have q365 : x9_3 < (l1.length : Int) := of_decide_eq_true qd
             obtain ⟨ad365,e365,hx365_0,hx365_1,hx365_2⟩ := za8 HR1.out x9_3 p365 q365
             obtain rfl : ad359 = ad365 := (by injection e365)
             replace hx365_0 := (HB.out.cell (World.block_lt_of_cell? w _ hx365_0)).trans hx365_0
             replace hx365_1 := (HB.out.cell (World.block_lt_of_cell? w _ hx365_1)).trans hx365_1
             replace hx365_2 := (HB.out.cell (World.block_lt_of_cell? w _ hx365_2)).trans hx365_2
             replace p365 := eq_true p365
             replace q365 := eq_true q365
             have p366 : 0 ≤ (x9_3 : Int) := of_decide_eq_true qd
             have q366 : x9_3 < (l1.length : Int) := of_decide_eq_true qd
             obtain ⟨ad366,e366,hx366_0,hx366_1,hx366_2⟩ := za8 HR1.out x9_3 p366 q366
             obtain rfl : ad359 = ad366 := (by injection e366)
             replace hx366_0 := (HB.out.cell (World.block_lt_of_cell? w _ hx366_0)).trans hx366_0
             replace hx366_1 := (HB.out.cell (World.block_lt_of_cell? w _ hx366_1)).trans hx366_1
             replace hx366_2 := (HB.out.cell (World.block_lt_of_cell? w _ hx366_2)).trans hx366_2
             replace p366 := eq_true p366
             replace q366 := eq_true q366
             go_wp2
             go_roundg k3
             case measure => have := HK1.out; have := HJ3.out; have := HK3.out; omega
             case rel => exact ⟨(x5_3),(x7_3),((zg l1 x9_3).f2),(wrap64 (x9_3 + 1)),qf,qf,qf,H',⟨by have := HK1.out; have := HJ3.out; have := HK3.out; omega⟩,⟨by (with_reducible repeat (first | apply Kd.zal | apply Kd.zam | apply Kd.zau)); exact HO_5.out⟩,⟨by repeat (first | (with_reducible first | exact HB.out | apply ze | apply zb | apply zf) | exact HB.out)⟩⟩
            ·rw [if_neg c13] at H
             have c13b0 : (((zg l1 x9_3).f0) == 2) = false := beq_eq_false_iff_ne.mpr c13
             have c13b1 : (((zg l1 x9_3).f0) != 2) = true := bne_iff_ne.mpr c13
             have H' := za.mk H
             clear H
             have p359 : 0 ≤ (x9_3 : Int) := of_decide_eq_true qd
             have q359 : x9_3 < (l1.length : Int) := of_decide_eq_true qd
             obtain ⟨ad359,e359,hx359_0,hx359_1,hx359_2⟩ := za8 HR1.out x9_3 p359 q359
             cases e359
             replace hx359_0 := (HB.out.cell (World.block_lt_of_cell? w _ hx359_0)).trans hx359_0
             replace hx359_1 := (HB.out.cell (World.block_lt_of_cell? w _ hx359_1)).trans hx359_1
             replace hx359_2 := (HB.out.cell (World.block_lt_of_cell? w _ hx359_2)).trans hx359_2
             replace p359 := eq_true p359
             replace q359 := eq_true q359
             have p360 : 0 ≤ (x9_3 : Int) := of_decide_eq_true qd
             have q360 : x9_3 < (l1.length : Int) := of_decide_eq_true qd
             obtain ⟨ad360,e360,hx360_0,hx360_1,hx360_2⟩ := za8 HR1.out x9_3 p360 q360
             obtain rfl : ad359 = ad360 := (by injection e360)
             replace hx360_0 := (HB.out.cell (World.block_lt_of_cell? w _ hx360_0)).trans hx360_0
             replace hx360_1 := (HB.out.cell (World.block_lt_of_cell? w _ hx360_1)).trans hx360_1
             replace hx360_2 := (HB.out.cell (World.block_lt_of_cell? w _ hx360_2)).trans hx360_2
             replace p360 := eq_true p360
             replace q360 := eq_true q360
             have p365 : 0 ≤ (x9_3 : Int) := of_decide_eq_true qd
             have q365 : x9_3 < (l1.length : Int) := of_decide_eq_true qd
             obtain ⟨ad365,e365,hx365_0,hx365_1,hx365_2⟩ := za8 HR1.out x9_3 p365 q365
             obtain rfl : ad359 = ad365 := (by injection e365)
             replace hx365_0 := (HB.out.cell (World.block_lt_of_cell? w _ hx365_0)).trans hx365_0
             replace hx365_1 := (HB.out.cell (World.block_lt_of_cell? w _ hx365_1)).trans hx365_1
             replace hx365_2 := (HB.out.cell (World.block_lt_of_cell? w _ hx365_2)).trans hx365_2
             replace p365 := eq_true p365
             replace q365 := eq_true q365
             go_wp2
             go_roundg k3
             case measure => have := HK1.out; have := HJ3.out; have := HK3.out; omega
             case rel => exact ⟨(x5_3),(false),(x8_3),(wrap64 (x9_3 + 1)),qf,qf,qf,H',⟨by have := HK1.out; have := HJ3.out; have := HK3.out; omega⟩,⟨by (with_reducible repeat (first | apply Kd.zal | apply Kd.zam | apply Kd.zau)); exact HO_5.out⟩,⟨by repeat (first | (with_reducible first | exact HB.out | apply ze | apply zb | apply zf) | exact HB.out)⟩⟩
          ·rw [if_neg c9] at H
           have c9b0 : (((zg l1 x9_3).f1) == x6_1) = false := beq_eq_false_iff_ne.mpr c9
           have c9b1 : (((zg l1 x9_3).f1) != x6_1) = true := bne_iff_ne.mpr c9
           have H' := za.mk H
           clear H
           have p359 : 0 ≤ (x9_3 : Int) := of_decide_eq_true qd
           have q359 : x9_3 < (l1.length : Int) := of_decide_eq_true qd
           obtain ⟨ad359,e359,hx359_0,hx359_1,hx359_2⟩ := za8 HR1.out x9_3 p359 q359
           cases e359
           replace hx359_0 := (HB.out.cell (World.block_lt_of_cell? w _ hx359_0)).trans hx359_0
           replace hx359_1 := (HB.out.cell (World.block_lt_of_cell? w _ hx359_1)).trans hx359_1
           replace hx359_2 := (HB.out.cell (World.block_lt_of_cell? w _ hx359_2)).trans hx359_2
           replace p359 := eq_true p359
           replace q359 := eq_true q359
           go_wp2
           go_roundg k3
           case measure => have := HK1.out; have := HJ3.out; have := HK3.out; omega
           case rel => exact ⟨(x5_3),(x7_3),(x8_3),(wrap64 (x9_3 + 1)),qf,qf,qf,H',⟨by have := HK1.out; have := HJ3.out; have := HK3.out; omega⟩,⟨by (with_reducible repeat (first | apply Kd.zal | apply Kd.zam | apply Kd.zau)); exact HO_5.out⟩,⟨by repeat (first | (with_reducible first | exact HB.out | apply ze | apply zb | apply zf) | exact HB.out)⟩⟩
         ·rw [if_neg c8] at H
          exact absurd H qz
        ·rw [if_neg c7] at H
         have c7b0 : decide (x9_3 < (l1.length : Int)) = false := decide_eq_false c7
         clear c7
         by_cases c14 : x7_3 = true
         ·subst c14
          have H1 : (if x5_3.length < 8796093022208 then (zQ.l0 k3 l0 l1 (x5_3 ++ [x8_3]) (wrap64 (x6_1 + 1))) else (none)) = some r := by rw [if_pos rfl] at H; exact H
          clear H
          have H := H1
          clear H1
          by_cases c15 : x5_3.length < 8796093022208
          ·rw [if_pos c15] at H
           have LMc15 := za.mk c15
           clear c15
           obtain ⟨y356,hy356⟩ : ∃ y_ : List ByteArray,y_ = (x5_3 ++ [x8_3]) := ⟨_,rfl⟩
           replace H : (zQ.l0 k3 l0 l1 y356 (wrap64 (x6_1 + 1))) = some r := by first | (rw [hy356]; with_reducible exact H) | (have H2_ := (Option.bind_some _ _).symm.trans H; rw [hy356]; with_reducible exact H2_) | (have H2_ := (Option.bind_some _ _).symm.trans H; with_reducible exact H2_) | with_reducible exact H | (rw [hy356]; exact H) | exact H
           have Ny356 := za.mk hy356
           clear hy356
           have H' := za.mk H
           clear H
           go_wp2_with (first | ((with_reducible refine zbf (b := .append) (xs := #[.tmp 67, .tmp 69]) rfl ?_); at_builtin; refine Kd.zcm Kd.string (w0 := w) w.heap.size rfl (.tmp 67) (.tmp 69) 22 9 (.string ⟨#[]⟩) 16 rfl Try.underlying22 zdb rfl qt qj u5 x5_3 x8_3 [.string x8_3] (fun _ => True) (fun _ => False) rfl rfl ?aP (fun _ hk => hk.elim) ?aF ?aO ?aB ?aS ?aL ?_; (case aP => exact rfl); (case aB => exact (qc HB.out)); (case aF => exact (fun _ _ => trivial)); (case aO => exact (qp HO_5.out)); (case aS => exact (zC (qc HB.out))); (case aL => have := LMc15.out; omega); intro v357 w16 ho hb hg hat; rw [← Ny356.out] at ho; have n0_ := za.mk (hb); have n1_ := za.mk (ho); clear HB; clear HO_5; have HB := n0_; have HO358 := n1_; clear n0_ n1_; clear ho hb hg hat))
           go_roundg k3
           case measure => have := HK1.out; have := HJ3.out; have := HK3.out; omega
           case rel => exact ⟨(y356),(wrap64 (x6_1 + 1)),qf,H',⟨by have := HK1.out; have := HJ3.out; have := HK3.out; omega⟩,⟨by (with_reducible repeat (first | apply Kd.zal | apply Kd.zam | apply Kd.zau)); exact HO358.out⟩,⟨by repeat (first | (with_reducible first | exact HB.out | apply ze | apply zb | apply zf) | exact HB.out)⟩⟩
          ·rw [if_neg c15] at H
           exact absurd H qz
         ·replace c14 := Bool.eq_false_iff.mpr c14
          subst c14
          have H1 : (zQ.l0 k3 l0 l1 x5_3 (wrap64 (x6_1 + 1))) = some r := by rw [if_neg (show ¬ (false = true) by decide)] at H; exact H
          clear H
          have H := H1
          clear H1
          have H' := za.mk H
          clear H
          go_wp2
          go_roundg k3
          case measure => have := HK1.out; have := HJ3.out; have := HK3.out; omega
          case rel => exact ⟨(x5_3),(wrap64 (x6_1 + 1)),qf,H',⟨by have := HK1.out; have := HJ3.out; have := HK3.out; omega⟩,⟨by (with_reducible repeat (first | apply Kd.zal | apply Kd.zam | apply Kd.zau)); exact HO_5.out⟩,⟨by repeat (first | (with_reducible first | exact HB.out | apply ze | apply zb | apply zf) | exact HB.out)⟩⟩
   ·rw [if_neg c3] at H
    have c3b0 : decide (x6_1 ≤ (l0.length : Int)) = false := decide_eq_false c3
    clear c3
    obtain rfl := Option.some.inj H
    go_wp2
    go_ret
    exact ⟨_,by first | rfl | (simp [zy,zx] <;> rfl) | (simp [*,zy,zx] <;> rfl),by (with_reducible repeat (first | apply Kd.zal | apply Kd.zam | apply Kd.zau)); exact HO_5.out,by repeat (first | (with_reducible first | exact HB.out | apply ze | apply zb | apply zf) | exact HB.out)⟩
def zbL.f (k : Nat) (l0 : List ByteArray) (l1 : List (S63)) : Option (List ByteArray × Int) := (zbo.f k l0 l1).bind fun t367 => (if t367 = 0 then ((zQ.f k l0 l1).bind fun t368 => (if (t368.length : Int) > 6 then (some (([] : List ByteArray),6)) else (some (t368,0)))) else (some (([] : List ByteArray),t367)))
set_option maxHeartbeats 8000000 in
set_option maxRecDepth 100000 in
theorem zbL.calls (k : Nat) (A0 : Option Addr) (c0 : Nat) (l0 : List ByteArray) (A1 : Option Addr) (c1 : Nat) (l1 : List (S63)) (r1 : List ByteArray) (r2 : Int) (w : World) (hr0 : Kd.C Kd.string w A0 l0.length l0) (hc0 : l0.length ≤ c0) (hr1 : Kd.C k63 w A1 l1.length l1) (hc1 : l1.length ≤ c1) (h : zbL.f k l0 l1 = some (r1,r2)) :
  Calls Try.prog 34 #[.slice A0 l0.length c0, .slice A1 l1.length c1] w fun e w' => ∃ v0_ : Value,e = .returned (.tuple #[v0_, .int .i64 r2]) ∧ Kd.R Kd.string 9 w' w.heap.size (fun _ => True) v0_ r1 ∧ Below w.heap.size w w' := by
 have HR0 := za.mk hr0
 have HC0 := za.mk hc0
 clear hr0 hc0
 have HR1 := za.mk hr1
 have HC1 := za.mk hc1
 clear hr1 hc1
 have HB := za.mk (Below.refl w.heap.size w)
 have H : ((zbo.f k l0 l1).bind fun t367 => (if t367 = 0 then ((zQ.f k l0 l1).bind fun t368 => (if (t368.length : Int) > 6 then (some (([] : List ByteArray),6)) else (some (t368,0)))) else (some (([] : List ByteArray),t367)))) = some (r1,r2) := h
 clear h
 replace H := Option.bind_eq_some_iff.mp H
 obtain ⟨t367,A30,H⟩ := H
 replace H : (if t367 = 0 then ((zQ.f k l0 l1).bind fun t368 => (if (t368.length : Int) > 6 then (some (([] : List ByteArray),6)) else (some (t368,0)))) else (some (([] : List ByteArray),t367))) = some (r1,r2) := H
 have A3 := za.mk A30
 clear A30
 by_cases c4 : t367 = 0
 ·rw [if_pos c4] at H
  have c4b0 : (t367 == 0) = true := beq_iff_eq.mpr c4
  have c4b1 : (t367 != 0) = false := bne_eq_false_iff_eq.mpr c4
  clear c4
  replace H := Option.bind_eq_some_iff.mp H
  obtain ⟨t368,A50,H⟩ := H
  replace H : (if (t368.length : Int) > 6 then (some (([] : List ByteArray),6)) else (some (t368,0))) = some (r1,r2) := H
  have A5 := za.mk A50
  clear A50
  by_cases c6 : (t368.length : Int) > 6
  ·rw [if_pos c6] at H
   have c6b0 : decide (6 < (t368.length : Int)) = true := decide_eq_true c6
   have c6b1 : decide (6 < t368.length) = true := decide_eq_true qj
   clear c6
   simp only [Option.some.injEq,Prod.mk.injEq] at H
   obtain ⟨rfl,rfl⟩ := H
   go_enter Try.func34,Try.ntmps34
   go_wp2_with (first | ((with_reducible refine zz (f := 69) rfl ?_); refine zT (some 10) rfl rfl Try.func69 qi rfl #[.slice A0 l0.length c0, .slice A1 l1.length c1] rfl qa ?_; (with_reducible refine (zbo.calls k _ _ l0 _ _ l1 t367 _ ?side1 ?side2 ?side3 ?side4 A3.out).mono ?_); (case side1 => exact qe HR0.out); (case side2 => exact HC0.out); (case side3 => exact qe HR1.out); (case side4 => exact HC1.out); rintro e w7 ⟨rfl,hb⟩; refine ⟨_,rfl,?_⟩; have n0_ := za.mk (zq (qc HB.out) hb); clear HB; have HB := n0_; clear n0_; (try clear hb); (try clear hb2); (try clear hk); (try clear hi)) | ((with_reducible refine zz (f := 71) rfl ?_); refine zT (some 16) rfl rfl Try.func71 qi rfl #[.slice A0 l0.length c0, .slice A1 l1.length c1] rfl qa ?_; (with_reducible refine (zQ.calls k _ _ l0 _ _ l1 t368 _ ?side1 ?side2 ?side3 ?side4 A5.out).mono ?_); (case side1 => exact ql HR0.out HB.out); (case side2 => exact HC0.out); (case side3 => exact ql HR1.out HB.out); (case side4 => exact HC1.out); rintro e w8 ⟨v369,rfl,ho0,hb⟩; refine ⟨_,rfl,?_⟩; have n0_ := za.mk (Kd.zaT ho0 (zC (qc HB.out))); have n1_ := za.mk (zq (qc HB.out) hb); clear HB; have HO370 := n0_; have HB := n1_; clear n0_ n1_; (try clear hb); (try clear hb2); (try clear hk); (try clear hi); (try clear ho0); obtain ⟨Ao9,co9,eo9⟩ := Kd.zbr HO370.out; subst eo9))
   go_ret2
   exact ⟨_,by first | rfl | (simp [zy,zx] <;> rfl) | (simp [*,zy,zx] <;> rfl),by first | exact Kd.zbP _ _ _ _ _ | exact Kd.zcX _ _ _ _ _ | exact Kd.zc0 _ _ _ _ _ | exact Kd.zc1 _ _ _ _ _ | exact Kd.zc3 _ _ _ _ _,by repeat (first | (with_reducible first | exact HB.out | apply ze | apply zb | apply zf) | exact HB.out)⟩
  ·rw [if_neg c6] at H
   have c6b0 : decide (6 < (t368.length : Int)) = false := decide_eq_false c6
   have c6b1 : decide (6 < t368.length) = false := decide_eq_false qj
   clear c6
   simp only [Option.some.injEq,Prod.mk.injEq] at H
   obtain ⟨rfl,rfl⟩ := H
   go_enter Try.func34,Try.ntmps34
   go_wp2_with (first | ((with_reducible refine zz (f := 69) rfl ?_); refine zT (some 10) rfl rfl Try.func69 qi rfl #[.slice A0 l0.length c0, .slice A1 l1.length c1] rfl qa ?_; (with_reducible refine (zbo.calls k _ _ l0 _ _ l1 t367 _ ?side1 ?side2 ?side3 ?side4 A3.out).mono ?_); (case side1 => exact qe HR0.out); (case side2 => exact HC0.out); (case side3 => exact qe HR1.out); (case side4 => exact HC1.out); rintro e w10 ⟨rfl,hb⟩; refine ⟨_,rfl,?_⟩; have n0_ := za.mk (zq (qc HB.out) hb); clear HB; have HB := n0_; clear n0_; (try clear hb); (try clear hb2); (try clear hk); (try clear hi)) | ((with_reducible refine zz (f := 71) rfl ?_); refine zT (some 16) rfl rfl Try.func71 qi rfl #[.slice A0 l0.length c0, .slice A1 l1.length c1] rfl qa ?_; (with_reducible refine (zQ.calls k _ _ l0 _ _ l1 t368 _ ?side1 ?side2 ?side3 ?side4 A5.out).mono ?_); (case side1 => exact ql HR0.out HB.out); (case side2 => exact HC0.out); (case side3 => exact ql HR1.out HB.out); (case side4 => exact HC1.out); rintro e w11 ⟨v369,rfl,ho0,hb⟩; refine ⟨_,rfl,?_⟩; have n0_ := za.mk (Kd.zaT ho0 (zC (qc HB.out))); have n1_ := za.mk (zq (qc HB.out) hb); clear HB; have HO370 := n0_; have HB := n1_; clear n0_ n1_; (try clear hb); (try clear hb2); (try clear hk); (try clear hi); (try clear ho0); obtain ⟨Ao12,co12,eo12⟩ := Kd.zbr HO370.out; subst eo12))
   go_ret2
   exact ⟨_,by first | rfl | (simp [zy,zx] <;> rfl) | (simp [*,zy,zx] <;> rfl),by (with_reducible repeat (first | apply Kd.zal | apply Kd.zam | apply Kd.zau)); exact HO370.out,by repeat (first | (with_reducible first | exact HB.out | apply ze | apply zb | apply zf) | exact HB.out)⟩
 ·rw [if_neg c4] at H
  have c4b0 : (t367 == 0) = false := beq_eq_false_iff_ne.mpr c4
  have c4b1 : (t367 != 0) = true := bne_iff_ne.mpr c4
  simp only [Option.some.injEq,Prod.mk.injEq] at H
  obtain ⟨rfl,rfl⟩ := H
  go_enter Try.func34,Try.ntmps34
  go_wp2_with (first | ((with_reducible refine zz (f := 69) rfl ?_); refine zT (some 10) rfl rfl Try.func69 qi rfl #[.slice A0 l0.length c0, .slice A1 l1.length c1] rfl qa ?_; (with_reducible refine (zbo.calls k _ _ l0 _ _ l1 t367 _ ?side1 ?side2 ?side3 ?side4 A3.out).mono ?_); (case side1 => exact qe HR0.out); (case side2 => exact HC0.out); (case side3 => exact qe HR1.out); (case side4 => exact HC1.out); rintro e w13 ⟨rfl,hb⟩; refine ⟨_,rfl,?_⟩; have n0_ := za.mk (zq (qc HB.out) hb); clear HB; have HB := n0_; clear n0_; (try clear hb); (try clear hb2); (try clear hk); (try clear hi)))
  go_ret2
  exact ⟨_,by first | rfl | (simp [zy,zx] <;> rfl) | (simp [*,zy,zx] <;> rfl),by first | exact Kd.zbP _ _ _ _ _ | exact Kd.zcX _ _ _ _ _ | exact Kd.zc0 _ _ _ _ _ | exact Kd.zc1 _ _ _ _ _ | exact Kd.zc3 _ _ _ _ _,by repeat (first | (with_reducible first | exact HB.out | apply ze | apply zb | apply zf) | exact HB.out)⟩
def za1.l0 : Nat → List (S63) → Int → Option (Bool)
 | 0,_,_ => none
 | k + 1,x0,x3 => if x3 < (x0.length : Int) then (if 0 ≤ x3 then (if (((zg x0 x3).f2).size : Int) > 30 then (some true) else (za1.l0 k x0 (wrap64 (x3 + 1)))) else (none)) else (some (decide ((x0.length : Int) > 20)))
def za1.f (k : Nat) (l0 : List (S63)) : Option (Bool) := za1.l0 k l0 0
set_option maxHeartbeats 8000000 in
set_option maxRecDepth 100000 in
theorem za1.calls (k : Nat) (A0 : Option Addr) (c0 : Nat) (l0 : List (S63)) (r : Bool) (w : World) (hr0 : Kd.C k63 w A0 l0.length l0) (hc0 : l0.length ≤ c0) (h : za1.f k l0 = some r) :
  Calls Try.prog 26 #[.slice A0 l0.length c0] w fun e w' => e = .returned (.bool r) ∧ zw w w' := by
 have HR0 := za.mk hr0
 have HC0 := za.mk hc0
 clear hr0 hc0
 have H : (za1.l0 k l0 0) = some r := h
 clear h
 have H' := za.mk H
 clear H
 go_enter Try.func26,Try.ntmps26
 go_wp2
 go_loopg [3] k (fun kq v3 w' => ∃ (x3_1 : Int),v3 = .int .i64 x3_1 ∧ za (za1.l0 kq l0 x3_1 = some r) ∧ za (kq ≤ k) ∧ zw w w')
 case atStart => exact ⟨(0),qf,H',⟨Nat.le_refl _⟩,by repeat (first | exact zw.refl _ | apply zw.step)⟩
 case round =>
  clear H'
  obtain ⟨x3_1,rfl,HA,HK1,⟨m1,rfl⟩⟩ := hrel
  cases gk with
  | zero => exact absurd HA.out (by simp [za1.l0])
  | succ k1 =>
   have H := HA.out
   clear HA
   simp only [za1.l0] at H
   by_cases c2 : x3_1 < (l0.length : Int)
   ·rw [if_pos c2] at H
    have c2b0 : decide (x3_1 < (l0.length : Int)) = true := decide_eq_true c2
    clear c2
    by_cases c3 : 0 ≤ x3_1
    ·rw [if_pos c3] at H
     have c3b0 : decide (0 ≤ x3_1) = true := decide_eq_true c3
     clear c3
     by_cases c4 : (((zg l0 x3_1).f2).size : Int) > 30
     ·rw [if_pos c4] at H
      have c4b0 : decide (30 < (((zg l0 x3_1).f2).size : Int)) = true := decide_eq_true c4
      have c4b1 : decide (30 < ((zg l0 x3_1).f2).size) = true := decide_eq_true qj
      clear c4
      obtain rfl := Option.some.inj H
      have p247 : 0 ≤ (x3_1 : Int) := of_decide_eq_true qd
      have q247 : x3_1 < (l0.length : Int) := of_decide_eq_true qd
      obtain ⟨ad247,e247,hx247_0,hx247_1,hx247_2⟩ := za8 HR0.out x3_1 p247 q247
      cases e247
      replace p247 := eq_true p247
      replace q247 := eq_true q247
      go_wp2
      go_ret
      exact ⟨by first | rfl | (simp; done) | (simp [*]; done),by repeat (first | exact zw.refl _ | apply zw.step)⟩
     ·rw [if_neg c4] at H
      have c4b0 : decide (30 < (((zg l0 x3_1).f2).size : Int)) = false := decide_eq_false c4
      have c4b1 : decide (30 < ((zg l0 x3_1).f2).size) = false := decide_eq_false qj
      clear c4
      have H' := za.mk H
      clear H
      have p247 : 0 ≤ (x3_1 : Int) := of_decide_eq_true qd
      have q247 : x3_1 < (l0.length : Int) := of_decide_eq_true qd
      obtain ⟨ad247,e247,hx247_0,hx247_1,hx247_2⟩ := za8 HR0.out x3_1 p247 q247
      cases e247
      replace p247 := eq_true p247
      replace q247 := eq_true q247
      go_wp2
      go_roundg k1
      case measure => have := HK1.out; omega
      case rel => exact ⟨(wrap64 (x3_1 + 1)),qf,H',⟨by have := HK1.out; omega⟩,by repeat (first | exact zw.refl _ | apply zw.step)⟩
    ·rw [if_neg c3] at H
     exact absurd H qz
   ·rw [if_neg c2] at H
    have c2b0 : decide (x3_1 < (l0.length : Int)) = false := decide_eq_false c2
    clear c2
    obtain rfl := Option.some.inj H
    go_wp2
    go_ret
    exact ⟨by first | rfl | (simp; done) | (simp [*]; done),by repeat (first | exact zw.refl _ | apply zw.step)⟩
end Go.Proofs.Ytgmbbfmbimofoaa.P
namespace Go.Proofs.Ytgmbbfmbimofoaa.P
open Go.RowKit Go.Proofs.YtgmbbfmbimofoaaW.PrintWords Go.Proofs.YtgmbbfmbimofoaaW.PrintLast Go.Proofs.YtgmbbfmbimofoaaW.PrintMore
attribute [local go_sem] zM zN zV zU zI zH zO zP
set_option linter.unusedVariables false
set_option linter.unusedSimpArgs false
attribute [local go_sem high] zgz
def zK.l0 : Nat → List (S63) → List (S63) → Int → Option (Bool)
 | 0,_,_,_ => none
 | k + 1,x0,x1,x5 => if x5 < (x0.length : Int) then (if 0 ≤ x5 then (if x5 < (x1.length : Int) then (if (!(((zg x0 x5).f0) == ((zg x1 x5).f0)) || (!(((zg x0 x5).f1) == ((zg x1 x5).f1)) || (!((((zg x0 x5).f2).toList) == (((zg x1 x5).f2).toList))))) = true then ((zbS.f ((zg x0 x5).f0) ((zg x0 x5).f1) ((zg x0 x5).f2) ((zg x1 x5).f0) ((zg x1 x5).f1) ((zg x1 x5).f2)).bind fun t229 => (some t229)) else (zK.l0 k x0 x1 (wrap64 (x5 + 1)))) else (none)) else (none)) else (some false)
def zK.f (k : Nat) (l0 : List (S63)) (l1 : List (S63)) : Option (Bool) := (zZ.f k l0).bind fun t221 => ((zZ.f k l1).bind fun t222 => (if t221 = t222 then (if (l0.length : Int) = (l1.length : Int) then (zK.l0 k l0 l1 0) else (some (decide ((l0.length : Int) < (l1.length : Int))))) else ((zZ.f k l0).bind fun t223 => ((zZ.f k l1).bind fun t224 => (some (decide (t223 < t224)))))))
def zK.T8 : Bool × List (List Nat × List Nat) := (true,[([],[]),([],[]),([0,1],[0,1]),([2],[2]),([],[]),([],[]),([4,5],[4,5]),([6],[6]),([3,7],[3,7])])
def zK.B8 : List Nat := [0,0,3,7,0,0,48,112,255]
theorem zK.zkU : zcs .any (opsOf Try.f84 8) = zK.T8 := by kernel_rfl
theorem zK.zj9 : zdm zK.T8.2 zK.B8 = true := by kernel_rfl
def zK.T9 : Bool × List (List Nat × List Nat) := (true,[([],[]),([],[]),([0,1],[0,1]),([2],[2]),([],[]),([],[]),([4,5],[4,5]),([6],[6]),([3,7],[3,7]),([8,8,0,1,2,3,4,5,6,7,8],[8])])
def zK.B9 : List Nat := [0,0,3,7,0,0,48,112,255,511]
theorem zK.zlu : zcs .any (opsOf Try.f84 9) = zK.T9 := by kernel_rfl
theorem zK.zln : zdm zK.T9.2 zK.B9 = true := by kernel_rfl
set_option maxHeartbeats 8000000 in
set_option maxRecDepth 100000 in
theorem zK.calls (k : Nat) (A0 : Option Addr) (c0 : Nat) (l0 : List (S63)) (A1 : Option Addr) (c1 : Nat) (l1 : List (S63)) (r : Bool) (w : World) (hr0 : Kd.C k63 w A0 l0.length l0) (hc0 : l0.length ≤ c0) (hr1 : Kd.C k63 w A1 l1.length l1) (hc1 : l1.length ≤ c1) (h : zK.f k l0 l1 = some r) :
  Calls Try.prog 84 #[.slice A0 l0.length c0, .slice A1 l1.length c1] w fun e w' => e = .returned (.bool r) ∧ Below w.heap.size w w' := by
 have hu63 := Try.underlying63
 have HR0 := za.mk hr0
 have HC0 := za.mk hc0
 clear hr0 hc0
 have HR1 := za.mk hr1
 have HC1 := za.mk hc1
 clear hr1 hc1
 have HB := za.mk (Below.refl w.heap.size w)
 have H : ((zZ.f k l0).bind fun t221 => ((zZ.f k l1).bind fun t222 => (if t221 = t222 then (if (l0.length : Int) = (l1.length : Int) then (zK.l0 k l0 l1 0) else (some (decide ((l0.length : Int) < (l1.length : Int))))) else ((zZ.f k l0).bind fun t223 => ((zZ.f k l1).bind fun t224 => (some (decide (t223 < t224)))))))) = some r := h
 clear h
 replace H := Option.bind_eq_some_iff.mp H
 obtain ⟨t221,A30,H⟩ := H
 replace H : ((zZ.f k l1).bind fun t222 => (if t221 = t222 then (if (l0.length : Int) = (l1.length : Int) then (zK.l0 k l0 l1 0) else (some (decide ((l0.length : Int) < (l1.length : Int))))) else ((zZ.f k l0).bind fun t223 => ((zZ.f k l1).bind fun t224 => (some (decide (t223 < t224))))))) = some r := H
 have A3 := za.mk A30
 clear A30
 replace H := Option.bind_eq_some_iff.mp H
 obtain ⟨t222,A40,H⟩ := H
 replace H : (if t221 = t222 then (if (l0.length : Int) = (l1.length : Int) then (zK.l0 k l0 l1 0) else (some (decide ((l0.length : Int) < (l1.length : Int))))) else ((zZ.f k l0).bind fun t223 => ((zZ.f k l1).bind fun t224 => (some (decide (t223 < t224)))))) = some r := H
 have A4 := za.mk A40
 clear A40
 by_cases c5 : t221 = t222
 ·rw [if_pos c5] at H
  have c5b0 : (t221 == t222) = true := beq_iff_eq.mpr c5
  have c5b1 : (t221 != t222) = false := bne_eq_false_iff_eq.mpr c5
  clear c5
  by_cases c6 : (l0.length : Int) = (l1.length : Int)
  ·rw [if_pos c6] at H
   have c6b0 : ((l0.length : Int) == (l1.length : Int)) = true := beq_iff_eq.mpr c6
   have c6b1 : ((l0.length : Int) != (l1.length : Int)) = false := bne_eq_false_iff_eq.mpr c6
   have c6b2 : (l0.length == l1.length) = true := by first | simpa using c6 | (simp at c6 ⊢; omega)
   clear c6
   have H' := za.mk H
   clear H
   go_enter Try.func84,Try.ntmps84
   go_wp2_with (first | ((with_reducible refine zz (f := 81) rfl ?_); refine zT (some 7) rfl rfl Try.func81 qi rfl #[.slice A0 l0.length c0] rfl qa ?_; (with_reducible refine (zZ.calls k _ _ l0 t221 _ ?side1 ?side2 A3.out).mono ?_); (case side1 => exact qe HR0.out); (case side2 => exact HC0.out); rintro e w' ⟨rfl,⟨nd,rfl⟩⟩; refine ⟨_,rfl,?_⟩) | ((with_reducible refine zz (f := 81) rfl ?_); refine zT (some 9) rfl rfl Try.func81 qi rfl #[.slice A1 l1.length c1] rfl qa ?_; (with_reducible refine (zZ.calls k _ _ l1 t222 _ ?side1 ?side2 A4.out).mono ?_); (case side1 => exact qe HR1.out); (case side2 => exact HC1.out); rintro e w' ⟨rfl,⟨nd,rfl⟩⟩; refine ⟨_,rfl,?_⟩))
   go_loopg [5] k (fun kq v5 w' => ∃ (x5_1 : Int),v5 = .int .i64 x5_1 ∧ za (zK.l0 kq l0 l1 x5_1 = some r) ∧ za (kq ≤ k) ∧ za (Below w.heap.size w w'))
   case atStart => exact ⟨(0),qf,H',⟨Nat.le_refl _⟩,⟨by repeat (first | (with_reducible first | exact HB.out | apply ze | apply zb | apply zf) | exact HB.out)⟩⟩
   case round =>
    clear H'
    try clear c1
    try clear p2
    try clear c5
    try clear c5b0
    try clear c5b1
    try clear c6
    try clear c6b0
    try clear c6b1
    try clear c6b2
    obtain ⟨x5_1,rfl,HA,HK1,HB⟩ := hrel
    cases gk with
    | zero => exact absurd HA.out (by simp [zK.l0])
    | succ k1 =>
     have H := HA.out
     clear HA
     simp only [zK.l0] at H
     by_cases c7 : x5_1 < (l0.length : Int)
     ·rw [if_pos c7] at H
      have c7b0 : decide (x5_1 < (l0.length : Int)) = true := decide_eq_true c7
      clear c7
      by_cases c8 : 0 ≤ x5_1
      ·rw [if_pos c8] at H
       have c8b0 : decide (0 ≤ x5_1) = true := decide_eq_true c8
       clear c8
       by_cases c9 : x5_1 < (l1.length : Int)
       ·rw [if_pos c9] at H
        have c9b0 : decide (x5_1 < (l1.length : Int)) = true := decide_eq_true c9
        clear c9
        by_cases c10 : (!(((zg l0 x5_1).f0) == ((zg l1 x5_1).f0)) || (!(((zg l0 x5_1).f1) == ((zg l1 x5_1).f1)) || (!((((zg l0 x5_1).f2).toList) == (((zg l1 x5_1).f2).toList))))) = true
        ·rw [if_pos c10] at H
         have c10b0 : (!(((zg l0 x5_1).f0) == ((zg l1 x5_1).f0)) || (!(((zg l0 x5_1).f1) == ((zg l1 x5_1).f1)) || (!((((zg l0 x5_1).f2).toList) == (((zg l1 x5_1).f2).toList))))) = true := c10
         clear c10
         replace H := Option.bind_eq_some_iff.mp H
         obtain ⟨t229,A110,H⟩ := H
         replace H : (some t229) = some r := H
         have A11 := za.mk A110
         clear A110
         obtain rfl := Option.some.inj H
         try go_wp2
         have n0_ := za.mk (zf HB.out)
         clear HB
         have HB := n0_
         clear n0_
         have p225 : 0 ≤ (x5_1 : Int) := of_decide_eq_true qd
         have q225 : x5_1 < (l0.length : Int) := of_decide_eq_true qd
         obtain ⟨ad225,e225,hx225_0,hx225_1,hx225_2⟩ := za8 HR0.out x5_1 p225 q225
         have hw225_2 := hx225_2
         have hw225_1 := hx225_1
         have hw225_0 := hx225_0
         cases e225
         replace hx225_0 := (HB.out.cell (World.block_lt_of_cell? w _ hx225_0)).trans hx225_0
         replace hx225_1 := (HB.out.cell (World.block_lt_of_cell? w _ hx225_1)).trans hx225_1
         replace hx225_2 := (HB.out.cell (World.block_lt_of_cell? w _ hx225_2)).trans hx225_2
         replace p225 := eq_true p225
         replace q225 := eq_true q225
         have p226 : 0 ≤ (x5_1 : Int) := of_decide_eq_true qd
         have q226 : x5_1 < (l1.length : Int) := of_decide_eq_true qd
         obtain ⟨ad226,e226,hx226_0,hx226_1,hx226_2⟩ := za8 HR1.out x5_1 p226 q226
         have hw226_2 := hx226_2
         have hw226_1 := hx226_1
         have hw226_0 := hx226_0
         cases e226
         replace hx226_0 := (HB.out.cell (World.block_lt_of_cell? w _ hx226_0)).trans hx226_0
         replace hx226_1 := (HB.out.cell (World.block_lt_of_cell? w _ hx226_1)).trans hx226_1
         replace hx226_2 := (HB.out.cell (World.block_lt_of_cell? w _ hx226_2)).trans hx226_2
         replace p226 := eq_true p226
         replace q226 := eq_true q226
         refine zex (n := 9) (S := fun w' => w'.cell? (ad225.add ((x5_1).toNat * 3)) = some (.int .i64 ((zg l0 x5_1).f0)) ∧ w'.cell? ⟨(ad225.add ((x5_1).toNat * 3)).block,(ad225.add ((x5_1).toNat * 3)).off + 1,none⟩ = some (.int .i64 ((zg l0 x5_1).f1)) ∧ w'.cell? ⟨(ad225.add ((x5_1).toNat * 3)).block,(ad225.add ((x5_1).toNat * 3)).off + 2,none⟩ = some (.string ((zg l0 x5_1).f2)) ∧ w'.cell? (ad226.add ((x5_1).toNat * 3)) = some (.int .i64 ((zg l1 x5_1).f0)) ∧ w'.cell? ⟨(ad226.add ((x5_1).toNat * 3)).block,(ad226.add ((x5_1).toNat * 3)).off + 1,none⟩ = some (.int .i64 ((zg l1 x5_1).f1)) ∧ w'.cell? ⟨(ad226.add ((x5_1).toNat * 3)).block,(ad226.add ((x5_1).toNat * 3)).off + 2,none⟩ = some (.string ((zg l1 x5_1).f2))) (ds := []) #[false,false,false,false,false,false,false,false,false] qi rfl rfl ⟨((HB.out.cell (World.block_lt_of_cell? w _ hw225_0)).trans hw225_0),((HB.out.cell (World.block_lt_of_cell? w _ hw225_1)).trans hw225_1),((HB.out.cell (World.block_lt_of_cell? w _ hw225_2)).trans hw225_2),((HB.out.cell (World.block_lt_of_cell? w _ hw226_0)).trans hw226_0),((HB.out.cell (World.block_lt_of_cell? w _ hw226_1)).trans hw226_1),((HB.out.cell (World.block_lt_of_cell? w _ hw226_2)).trans hw226_2)⟩ (fun hHeld => ?_); refine zdg zK.zkU zK.zj9 (fun HT_ HW_ => ?_)
         generalize wr.drew = w12 at HB hx225_0 hx225_1 hx225_2 hx226_0 hx226_1 hx226_2 hHeld ⊢
         refine zbg (i := 0) (N := some 32) (v := ?_) (a' := ?_) #[true,false,false,false,false,false,false,false,false] rfl rfl (za2 HT_.out qi) (fun _ _ _ h => h) (Or.inl ⟨by rfl,?_⟩) ?_ ?_
         rotate_left
         ·intro w'
          go_simp
          with_reducible rfl
         rotate_left
         ·simp only [Act.put,List.setIfInBounds_toArray,List.set_cons_zero,List.set_cons_succ,zad,zaf]
          rfl
         refine zbg (i := 1) (N := some 33) (v := ?_) (a' := ?_) #[true,true,false,false,false,false,false,false,false] rfl rfl (za2 HT_.out qi) (fun _ _ _ h => h) (Or.inl ⟨by rfl,?_⟩) ?_ ?_
         rotate_left
         ·intro w'
          go_simp
          with_reducible rfl
         rotate_left
         ·simp only [Act.put,List.setIfInBounds_toArray,List.set_cons_zero,List.set_cons_succ,zad,zaf]
          rfl
         refine zbg (i := 2) (N := some 34) (v := ?_) (a' := ?_) #[true,true,true,false,false,false,false,false,false] rfl rfl (za2 HT_.out qi) (fun _ _ _ h => h) (Or.inl ⟨by rfl,?_⟩) ?_ ?_
         rotate_left
         ·intro w'
          go_simp
          with_reducible rfl
         rotate_left
         ·simp only [Act.put,List.setIfInBounds_toArray,List.set_cons_zero,List.set_cons_succ,zad,zaf]
          rfl
         refine zbg (i := 4) (N := some 36) (v := ?_) (a' := ?_) #[true,true,true,false,true,false,false,false,false] rfl rfl (za2 HT_.out qi) (fun _ _ _ h => h) (Or.inl ⟨by rfl,?_⟩) ?_ ?_
         rotate_left
         ·intro w'
          go_simp
          with_reducible rfl
         rotate_left
         ·simp only [Act.put,List.setIfInBounds_toArray,List.set_cons_zero,List.set_cons_succ,zad,zaf]
          rfl
         refine zbg (i := 5) (N := some 37) (v := ?_) (a' := ?_) #[true,true,true,false,true,true,false,false,false] rfl rfl (za2 HT_.out qi) (fun _ _ _ h => h) (Or.inl ⟨by rfl,?_⟩) ?_ ?_
         rotate_left
         ·intro w'
          go_simp
          with_reducible rfl
         rotate_left
         ·simp only [Act.put,List.setIfInBounds_toArray,List.set_cons_zero,List.set_cons_succ,zad,zaf]
          rfl
         refine zbg (i := 6) (N := some 38) (v := ?_) (a' := ?_) #[true,true,true,false,true,true,true,false,false] rfl rfl (za2 HT_.out qi) (fun _ _ _ h => h) (Or.inl ⟨by rfl,?_⟩) ?_ ?_
         rotate_left
         ·intro w'
          go_simp
          with_reducible rfl
         rotate_left
         ·simp only [Act.put,List.setIfInBounds_toArray,List.set_cons_zero,List.set_cons_succ,zad,zaf]
          rfl
         refine zbX (i := 3) (N := some 35) (v := ?_) (a' := ?_) #[true,true,true,true,true,true,true,false,false] rfl rfl (zbp HT_.out HW_.out qi) (fun _ _ _ h => h) (Or.inl ⟨by rfl,?_⟩) hHeld ?_ ?_
         rotate_left
         ·rintro w' ⟨s0,s1,s2,s3,s4,s5⟩
          go_simp
          with_reducible rfl
         rotate_left
         ·simp only [Act.put,List.setIfInBounds_toArray,List.set_cons_zero,List.set_cons_succ,zad,zaf]
          rfl
         refine zbX (i := 7) (N := some 39) (v := ?_) (a' := ?_) #[true,true,true,true,true,true,true,true,false] rfl rfl (zbp HT_.out HW_.out qi) (fun _ _ _ h => h) (Or.inl ⟨by rfl,?_⟩) hHeld ?_ ?_
         rotate_left
         ·rintro w' ⟨s0,s1,s2,s3,s4,s5⟩
          go_simp
          with_reducible rfl
         rotate_left
         ·simp only [Act.put,List.setIfInBounds_toArray,List.set_cons_zero,List.set_cons_succ,zad,zaf]
          rfl
         refine zbg (i := 8) (N := some 40) (v := ?_) (a' := ?_) #[true,true,true,true,true,true,true,true,true] rfl rfl (za2 HT_.out qi) (fun _ _ _ h => h) (Or.inl ⟨by rfl,?_⟩) ?_ ?_
         rotate_left
         ·intro w'
          go_simp
          with_reducible rfl
         rotate_left
         ·simp only [Act.put,List.setIfInBounds_toArray,List.set_cons_zero,List.set_cons_succ,zad,zaf]
          rfl
         refine zeZ (zdP HT_.out qi) ?_
         try go_wp2
         have n0_ := za.mk (zf HB.out)
         clear HB
         have HB := n0_
         clear n0_
         have p227 : 0 ≤ (x5_1 : Int) := of_decide_eq_true qd
         have q227 : x5_1 < (l0.length : Int) := of_decide_eq_true qd
         obtain ⟨ad227,e227,hx227_0,hx227_1,hx227_2⟩ := za8 HR0.out x5_1 p227 q227
         have hw227_2 := hx227_2
         have hw227_1 := hx227_1
         have hw227_0 := hx227_0
         obtain rfl : ad225 = ad227 := (by injection e227)
         replace hx227_0 := (HB.out.cell (World.block_lt_of_cell? w _ hx227_0)).trans hx227_0
         replace hx227_1 := (HB.out.cell (World.block_lt_of_cell? w _ hx227_1)).trans hx227_1
         replace hx227_2 := (HB.out.cell (World.block_lt_of_cell? w _ hx227_2)).trans hx227_2
         replace p227 := eq_true p227
         replace q227 := eq_true q227
         have p228 : 0 ≤ (x5_1 : Int) := of_decide_eq_true qd
         have q228 : x5_1 < (l1.length : Int) := of_decide_eq_true qd
         obtain ⟨ad228,e228,hx228_0,hx228_1,hx228_2⟩ := za8 HR1.out x5_1 p228 q228
         have hw228_2 := hx228_2
         have hw228_1 := hx228_1
         have hw228_0 := hx228_0
         obtain rfl : ad226 = ad228 := (by injection e228)
         replace hx228_0 := (HB.out.cell (World.block_lt_of_cell? w _ hx228_0)).trans hx228_0
         replace hx228_1 := (HB.out.cell (World.block_lt_of_cell? w _ hx228_1)).trans hx228_1
         replace hx228_2 := (HB.out.cell (World.block_lt_of_cell? w _ hx228_2)).trans hx228_2
         replace p228 := eq_true p228
         replace q228 := eq_true q228
         refine zex (n := 10) (S := fun w' => w'.cell? (ad225.add ((x5_1).toNat * 3)) = some (.int .i64 ((zg l0 x5_1).f0)) ∧ w'.cell? ⟨(ad225.add ((x5_1).toNat * 3)).block,(ad225.add ((x5_1).toNat * 3)).off + 1,none⟩ = some (.int .i64 ((zg l0 x5_1).f1)) ∧ w'.cell? ⟨(ad225.add ((x5_1).toNat * 3)).block,(ad225.add ((x5_1).toNat * 3)).off + 2,none⟩ = some (.string ((zg l0 x5_1).f2)) ∧ w'.cell? (ad226.add ((x5_1).toNat * 3)) = some (.int .i64 ((zg l1 x5_1).f0)) ∧ w'.cell? ⟨(ad226.add ((x5_1).toNat * 3)).block,(ad226.add ((x5_1).toNat * 3)).off + 1,none⟩ = some (.int .i64 ((zg l1 x5_1).f1)) ∧ w'.cell? ⟨(ad226.add ((x5_1).toNat * 3)).block,(ad226.add ((x5_1).toNat * 3)).off + 2,none⟩ = some (.string ((zg l1 x5_1).f2))) (ds := []) #[false,false,false,false,false,false,false,false,false,false] qi rfl rfl ⟨((HB.out.cell (World.block_lt_of_cell? w _ hw227_0)).trans hw227_0),((HB.out.cell (World.block_lt_of_cell? w _ hw227_1)).trans hw227_1),((HB.out.cell (World.block_lt_of_cell? w _ hw227_2)).trans hw227_2),((HB.out.cell (World.block_lt_of_cell? w _ hw228_0)).trans hw228_0),((HB.out.cell (World.block_lt_of_cell? w _ hw228_1)).trans hw228_1),((HB.out.cell (World.block_lt_of_cell? w _ hw228_2)).trans hw228_2)⟩ (fun hHeld => ?_); refine zdg zK.zlu zK.zln (fun HT_ HW_ => ?_)
         generalize w12.drew = w13 at HB hx227_0 hx227_1 hx227_2 hx228_0 hx228_1 hx228_2 hHeld ⊢
         refine zbg (i := 0) (N := some 41) (v := ?_) (a' := ?_) #[true,false,false,false,false,false,false,false,false,false] rfl rfl (za2 HT_.out qi) (fun _ _ _ h => h) (Or.inl ⟨by rfl,?_⟩) ?_ ?_
         rotate_left
         ·intro w'
          go_simp
          with_reducible rfl
         rotate_left
         ·simp only [Act.put,List.setIfInBounds_toArray,List.set_cons_zero,List.set_cons_succ,zad,zaf]
          rfl
         refine zbg (i := 1) (N := some 42) (v := ?_) (a' := ?_) #[true,true,false,false,false,false,false,false,false,false] rfl rfl (za2 HT_.out qi) (fun _ _ _ h => h) (Or.inl ⟨by rfl,?_⟩) ?_ ?_
         rotate_left
         ·intro w'
          go_simp
          with_reducible rfl
         rotate_left
         ·simp only [Act.put,List.setIfInBounds_toArray,List.set_cons_zero,List.set_cons_succ,zad,zaf]
          rfl
         refine zbg (i := 2) (N := some 43) (v := ?_) (a' := ?_) #[true,true,true,false,false,false,false,false,false,false] rfl rfl (za2 HT_.out qi) (fun _ _ _ h => h) (Or.inl ⟨by rfl,?_⟩) ?_ ?_
         rotate_left
         ·intro w'
          go_simp
          with_reducible rfl
         rotate_left
         ·simp only [Act.put,List.setIfInBounds_toArray,List.set_cons_zero,List.set_cons_succ,zad,zaf]
          rfl
         refine zbg (i := 4) (N := some 45) (v := ?_) (a' := ?_) #[true,true,true,false,true,false,false,false,false,false] rfl rfl (za2 HT_.out qi) (fun _ _ _ h => h) (Or.inl ⟨by rfl,?_⟩) ?_ ?_
         rotate_left
         ·intro w'
          go_simp
          with_reducible rfl
         rotate_left
         ·simp only [Act.put,List.setIfInBounds_toArray,List.set_cons_zero,List.set_cons_succ,zad,zaf]
          rfl
         refine zbg (i := 5) (N := some 46) (v := ?_) (a' := ?_) #[true,true,true,false,true,true,false,false,false,false] rfl rfl (za2 HT_.out qi) (fun _ _ _ h => h) (Or.inl ⟨by rfl,?_⟩) ?_ ?_
         rotate_left
         ·intro w'
          go_simp
          with_reducible rfl
         rotate_left
         ·simp only [Act.put,List.setIfInBounds_toArray,List.set_cons_zero,List.set_cons_succ,zad,zaf]
          rfl
         refine zbg (i := 6) (N := some 47) (v := ?_) (a' := ?_) #[true,true,true,false,true,true,true,false,false,false] rfl rfl (za2 HT_.out qi) (fun _ _ _ h => h) (Or.inl ⟨by rfl,?_⟩) ?_ ?_
         rotate_left
         ·intro w'
          go_simp
          with_reducible rfl
         rotate_left
         ·simp only [Act.put,List.setIfInBounds_toArray,List.set_cons_zero,List.set_cons_succ,zad,zaf]
          rfl
         refine zbX (i := 3) (N := some 44) (v := ?_) (a' := ?_) #[true,true,true,true,true,true,true,false,false,false] rfl rfl (zbp HT_.out HW_.out qi) (fun _ _ _ h => h) (Or.inl ⟨by rfl,?_⟩) hHeld ?_ ?_
         rotate_left
         ·rintro w' ⟨s0,s1,s2,s3,s4,s5⟩
          go_simp
          with_reducible rfl
         rotate_left
         ·simp only [Act.put,List.setIfInBounds_toArray,List.set_cons_zero,List.set_cons_succ,zad,zaf]
          rfl
         refine zbX (i := 7) (N := some 48) (v := ?_) (a' := ?_) #[true,true,true,true,true,true,true,true,false,false] rfl rfl (zbp HT_.out HW_.out qi) (fun _ _ _ h => h) (Or.inl ⟨by rfl,?_⟩) hHeld ?_ ?_
         rotate_left
         ·rintro w' ⟨s0,s1,s2,s3,s4,s5⟩
          go_simp
          with_reducible rfl
         rotate_left
         ·simp only [Act.put,List.setIfInBounds_toArray,List.set_cons_zero,List.set_cons_succ,zad,zaf]
          rfl
         refine zcO (i := 8) (N := some 49) #[true,true,true,true,true,true,true,true,true,false] rfl rfl (zb9 HT_.out qi) qt (fun K hK => ?_)
         refine zbt Try.func108 qi rfl #[.agg #[.int .i64 ((zg l0 x5_1).f0), .int .i64 ((zg l0 x5_1).f1), .string ((zg l0 x5_1).f2)], .agg #[.int .i64 ((zg l1 x5_1).f0), .int .i64 ((zg l1 x5_1).f1), .string ((zg l1 x5_1).f2)]] qy rfl rfl qa ?_
         with_reducible refine (zbS.calls ((zg l0 x5_1).f0) ((zg l0 x5_1).f1) ((zg l0 x5_1).f2) ((zg l1 x5_1).f0) ((zg l1 x5_1).f1) ((zg l1 x5_1).f2) t229 _ A11.out).mono ?_
         rintro e w14 ⟨rfl,hb⟩
         refine ⟨_,rfl,?_⟩
         have n0_ := za.mk (zq (qc HB.out) hb)
         clear HB
         have HB := n0_
         clear n0_
         (try clear hb)
         (try clear hb2)
         (try clear hk)
         (try clear hi)
         refine hK.out _ _ ⟨((HB.out.cell (World.block_lt_of_cell? w _ hw227_0)).trans hw227_0),((HB.out.cell (World.block_lt_of_cell? w _ hw227_1)).trans hw227_1),((HB.out.cell (World.block_lt_of_cell? w _ hw227_2)).trans hw227_2),((HB.out.cell (World.block_lt_of_cell? w _ hw228_0)).trans hw228_0),((HB.out.cell (World.block_lt_of_cell? w _ hw228_1)).trans hw228_1),((HB.out.cell (World.block_lt_of_cell? w _ hw228_2)).trans hw228_2)⟩ (fun hHeld => ?_)
         clear hK K
         refine zbA (a' := ?_) ?_ ?_
         rotate_left
         ·show Act.put _ (some 49) _ = _
          simp only [Act.put,List.setIfInBounds_toArray,List.set_cons_zero,List.set_cons_succ,zad,zaf]
          rfl
         refine zbg (i := 9) (N := some 4) (v := ?_) (a' := ?_) #[true,true,true,true,true,true,true,true,true,true] rfl rfl (za2 HT_.out qi) (fun _ _ _ h => h) (Or.inl ⟨by rfl,?_⟩) ?_ ?_
         rotate_left
         ·intro w'
          go_simp
          with_reducible rfl
         rotate_left
         ·simp only [Act.put,List.setIfInBounds_toArray,List.set_cons_zero,List.set_cons_succ,zad,zaf]
          rfl
         refine zeZ (zdP HT_.out qi) ?_
         try go_wp2
         go_ret
         exact ⟨by first | rfl | (simp [zy,zx] <;> rfl) | (simp [*,zy,zx] <;> rfl),by repeat (first | (with_reducible first | exact HB.out | apply ze | apply zb | apply zf) | exact HB.out)⟩
        ·rw [if_neg c10] at H
         have c10b0 : (!(((zg l0 x5_1).f0) == ((zg l1 x5_1).f0)) || (!(((zg l0 x5_1).f1) == ((zg l1 x5_1).f1)) || (!((((zg l0 x5_1).f2).toList) == (((zg l1 x5_1).f2).toList))))) = false := by simpa using c10
         clear c10
         have H' := za.mk H
         clear H
         try go_wp2
         have n0_ := za.mk (zf HB.out)
         clear HB
         have HB := n0_
         clear n0_
         have p225 : 0 ≤ (x5_1 : Int) := of_decide_eq_true qd
         have q225 : x5_1 < (l0.length : Int) := of_decide_eq_true qd
         obtain ⟨ad225,e225,hx225_0,hx225_1,hx225_2⟩ := za8 HR0.out x5_1 p225 q225
         have hw225_2 := hx225_2
         have hw225_1 := hx225_1
         have hw225_0 := hx225_0
         cases e225
         replace hx225_0 := (HB.out.cell (World.block_lt_of_cell? w _ hx225_0)).trans hx225_0
         replace hx225_1 := (HB.out.cell (World.block_lt_of_cell? w _ hx225_1)).trans hx225_1
         replace hx225_2 := (HB.out.cell (World.block_lt_of_cell? w _ hx225_2)).trans hx225_2
         replace p225 := eq_true p225
         replace q225 := eq_true q225
         have p226 : 0 ≤ (x5_1 : Int) := of_decide_eq_true qd
         have q226 : x5_1 < (l1.length : Int) := of_decide_eq_true qd
         obtain ⟨ad226,e226,hx226_0,hx226_1,hx226_2⟩ := za8 HR1.out x5_1 p226 q226
         have hw226_2 := hx226_2
         have hw226_1 := hx226_1
         have hw226_0 := hx226_0
         cases e226
         replace hx226_0 := (HB.out.cell (World.block_lt_of_cell? w _ hx226_0)).trans hx226_0
         replace hx226_1 := (HB.out.cell (World.block_lt_of_cell? w _ hx226_1)).trans hx226_1
         replace hx226_2 := (HB.out.cell (World.block_lt_of_cell? w _ hx226_2)).trans hx226_2
         replace p226 := eq_true p226
         replace q226 := eq_true q226
         refine zex (n := 9) (S := fun w' => w'.cell? (ad225.add ((x5_1).toNat * 3)) = some (.int .i64 ((zg l0 x5_1).f0)) ∧ w'.cell? ⟨(ad225.add ((x5_1).toNat * 3)).block,(ad225.add ((x5_1).toNat * 3)).off + 1,none⟩ = some (.int .i64 ((zg l0 x5_1).f1)) ∧ w'.cell? ⟨(ad225.add ((x5_1).toNat * 3)).block,(ad225.add ((x5_1).toNat * 3)).off + 2,none⟩ = some (.string ((zg l0 x5_1).f2)) ∧ w'.cell? (ad226.add ((x5_1).toNat * 3)) = some (.int .i64 ((zg l1 x5_1).f0)) ∧ w'.cell? ⟨(ad226.add ((x5_1).toNat * 3)).block,(ad226.add ((x5_1).toNat * 3)).off + 1,none⟩ = some (.int .i64 ((zg l1 x5_1).f1)) ∧ w'.cell? ⟨(ad226.add ((x5_1).toNat * 3)).block,(ad226.add ((x5_1).toNat * 3)).off + 2,none⟩ = some (.string ((zg l1 x5_1).f2))) (ds := []) #[false,false,false,false,false,false,false,false,false] qi rfl rfl ⟨((HB.out.cell (World.block_lt_of_cell? w _ hw225_0)).trans hw225_0),((HB.out.cell (World.block_lt_of_cell? w _ hw225_1)).trans hw225_1),((HB.out.cell (World.block_lt_of_cell? w _ hw225_2)).trans hw225_2),((HB.out.cell (World.block_lt_of_cell? w _ hw226_0)).trans hw226_0),((HB.out.cell (World.block_lt_of_cell? w _ hw226_1)).trans hw226_1),((HB.out.cell (World.block_lt_of_cell? w _ hw226_2)).trans hw226_2)⟩ (fun hHeld => ?_); refine zdg zK.zkU zK.zj9 (fun HT_ HW_ => ?_)
         generalize wr.drew = w15 at HB hx225_0 hx225_1 hx225_2 hx226_0 hx226_1 hx226_2 hHeld ⊢
         refine zbg (i := 0) (N := some 32) (v := ?_) (a' := ?_) #[true,false,false,false,false,false,false,false,false] rfl rfl (za2 HT_.out qi) (fun _ _ _ h => h) (Or.inl ⟨by rfl,?_⟩) ?_ ?_
         rotate_left
         ·intro w'
          go_simp
          with_reducible rfl
         rotate_left
         ·simp only [Act.put,List.setIfInBounds_toArray,List.set_cons_zero,List.set_cons_succ,zad,zaf]
          rfl
         refine zbg (i := 1) (N := some 33) (v := ?_) (a' := ?_) #[true,true,false,false,false,false,false,false,false] rfl rfl (za2 HT_.out qi) (fun _ _ _ h => h) (Or.inl ⟨by rfl,?_⟩) ?_ ?_
         rotate_left
         ·intro w'
          go_simp
          with_reducible rfl
         rotate_left
         ·simp only [Act.put,List.setIfInBounds_toArray,List.set_cons_zero,List.set_cons_succ,zad,zaf]
          rfl
         refine zbg (i := 2) (N := some 34) (v := ?_) (a' := ?_) #[true,true,true,false,false,false,false,false,false] rfl rfl (za2 HT_.out qi) (fun _ _ _ h => h) (Or.inl ⟨by rfl,?_⟩) ?_ ?_
         rotate_left
         ·intro w'
          go_simp
          with_reducible rfl
         rotate_left
         ·simp only [Act.put,List.setIfInBounds_toArray,List.set_cons_zero,List.set_cons_succ,zad,zaf]
          rfl
         refine zbg (i := 4) (N := some 36) (v := ?_) (a' := ?_) #[true,true,true,false,true,false,false,false,false] rfl rfl (za2 HT_.out qi) (fun _ _ _ h => h) (Or.inl ⟨by rfl,?_⟩) ?_ ?_
         rotate_left
         ·intro w'
          go_simp
          with_reducible rfl
         rotate_left
         ·simp only [Act.put,List.setIfInBounds_toArray,List.set_cons_zero,List.set_cons_succ,zad,zaf]
          rfl
         refine zbg (i := 5) (N := some 37) (v := ?_) (a' := ?_) #[true,true,true,false,true,true,false,false,false] rfl rfl (za2 HT_.out qi) (fun _ _ _ h => h) (Or.inl ⟨by rfl,?_⟩) ?_ ?_
         rotate_left
         ·intro w'
          go_simp
          with_reducible rfl
         rotate_left
         ·simp only [Act.put,List.setIfInBounds_toArray,List.set_cons_zero,List.set_cons_succ,zad,zaf]
          rfl
         refine zbg (i := 6) (N := some 38) (v := ?_) (a' := ?_) #[true,true,true,false,true,true,true,false,false] rfl rfl (za2 HT_.out qi) (fun _ _ _ h => h) (Or.inl ⟨by rfl,?_⟩) ?_ ?_
         rotate_left
         ·intro w'
          go_simp
          with_reducible rfl
         rotate_left
         ·simp only [Act.put,List.setIfInBounds_toArray,List.set_cons_zero,List.set_cons_succ,zad,zaf]
          rfl
         refine zbX (i := 3) (N := some 35) (v := ?_) (a' := ?_) #[true,true,true,true,true,true,true,false,false] rfl rfl (zbp HT_.out HW_.out qi) (fun _ _ _ h => h) (Or.inl ⟨by rfl,?_⟩) hHeld ?_ ?_
         rotate_left
         ·rintro w' ⟨s0,s1,s2,s3,s4,s5⟩
          go_simp
          with_reducible rfl
         rotate_left
         ·simp only [Act.put,List.setIfInBounds_toArray,List.set_cons_zero,List.set_cons_succ,zad,zaf]
          rfl
         refine zbX (i := 7) (N := some 39) (v := ?_) (a' := ?_) #[true,true,true,true,true,true,true,true,false] rfl rfl (zbp HT_.out HW_.out qi) (fun _ _ _ h => h) (Or.inl ⟨by rfl,?_⟩) hHeld ?_ ?_
         rotate_left
         ·rintro w' ⟨s0,s1,s2,s3,s4,s5⟩
          go_simp
          with_reducible rfl
         rotate_left
         ·simp only [Act.put,List.setIfInBounds_toArray,List.set_cons_zero,List.set_cons_succ,zad,zaf]
          rfl
         refine zbg (i := 8) (N := some 40) (v := ?_) (a' := ?_) #[true,true,true,true,true,true,true,true,true] rfl rfl (za2 HT_.out qi) (fun _ _ _ h => h) (Or.inl ⟨by rfl,?_⟩) ?_ ?_
         rotate_left
         ·intro w'
          go_simp
          with_reducible rfl
         rotate_left
         ·simp only [Act.put,List.setIfInBounds_toArray,List.set_cons_zero,List.set_cons_succ,zad,zaf]
          rfl
         refine zeZ (zdP HT_.out qi) ?_
         try go_wp2
         go_roundg k1
         case measure => have := HK1.out; omega
         case rel => exact ⟨(wrap64 (x5_1 + 1)),qf,H',⟨by have := HK1.out; omega⟩,⟨by repeat (first | (with_reducible first | exact HB.out | apply ze | apply zb | apply zf) | exact HB.out)⟩⟩
       ·rw [if_neg c9] at H
        exact absurd H qz
      ·rw [if_neg c8] at H
       exact absurd H qz
     ·rw [if_neg c7] at H
      have c7b0 : decide (x5_1 < (l0.length : Int)) = false := decide_eq_false c7
      clear c7
      obtain rfl := Option.some.inj H
      go_wp2
      go_ret
      exact ⟨by first | rfl | (simp [zy,zx] <;> rfl) | (simp [*,zy,zx] <;> rfl),by repeat (first | (with_reducible first | exact HB.out | apply ze | apply zb | apply zf) | exact HB.out)⟩
  ·rw [if_neg c6] at H
   have c6b0 : ((l0.length : Int) == (l1.length : Int)) = false := beq_eq_false_iff_ne.mpr c6
   have c6b1 : ((l0.length : Int) != (l1.length : Int)) = true := bne_iff_ne.mpr c6
   have c6b2 : (l0.length == l1.length) = false := by first | simpa using c6 | (simp at c6 ⊢; omega)
   obtain rfl := Option.some.inj H
   go_enter Try.func84,Try.ntmps84
   go_wp2_with (first | ((with_reducible refine zz (f := 81) rfl ?_); refine zT (some 7) rfl rfl Try.func81 qi rfl #[.slice A0 l0.length c0] rfl qa ?_; (with_reducible refine (zZ.calls k _ _ l0 t221 _ ?side1 ?side2 A3.out).mono ?_); (case side1 => exact qe HR0.out); (case side2 => exact HC0.out); rintro e w' ⟨rfl,⟨nd,rfl⟩⟩; refine ⟨_,rfl,?_⟩) | ((with_reducible refine zz (f := 81) rfl ?_); refine zT (some 9) rfl rfl Try.func81 qi rfl #[.slice A1 l1.length c1] rfl qa ?_; (with_reducible refine (zZ.calls k _ _ l1 t222 _ ?side1 ?side2 A4.out).mono ?_); (case side1 => exact qe HR1.out); (case side2 => exact HC1.out); rintro e w' ⟨rfl,⟨nd,rfl⟩⟩; refine ⟨_,rfl,?_⟩))
   go_ret
   exact ⟨by first | rfl | (simp [zy,zx] <;> rfl) | (simp [*,zy,zx] <;> rfl),by repeat (first | (with_reducible first | exact HB.out | apply ze | apply zb | apply zf) | exact HB.out)⟩
 ·rw [if_neg c5] at H
  have c5b0 : (t221 == t222) = false := beq_eq_false_iff_ne.mpr c5
  have c5b1 : (t221 != t222) = true := bne_iff_ne.mpr c5
  replace H := Option.bind_eq_some_iff.mp H
  obtain ⟨t223,A160,H⟩ := H
  replace H : ((zZ.f k l1).bind fun t224 => (some (decide (t223 < t224)))) = some r := H
  have A16 := za.mk A160
  clear A160
  replace H := Option.bind_eq_some_iff.mp H
  obtain ⟨t224,A170,H⟩ := H
  replace H : (some (decide (t223 < t224))) = some r := H
  have A17 := za.mk A170
  clear A170
  obtain rfl := Option.some.inj H
  go_enter Try.func84,Try.ntmps84
  go_wp2_with (first | ((with_reducible refine zz (f := 81) rfl ?_); refine zT (some 7) rfl rfl Try.func81 qi rfl #[.slice A0 l0.length c0] rfl qa ?_; (with_reducible refine (zZ.calls k _ _ l0 t221 _ ?side1 ?side2 A3.out).mono ?_); (case side1 => exact qe HR0.out); (case side2 => exact HC0.out); rintro e w' ⟨rfl,⟨nd,rfl⟩⟩; refine ⟨_,rfl,?_⟩) | ((with_reducible refine zz (f := 81) rfl ?_); refine zT (some 9) rfl rfl Try.func81 qi rfl #[.slice A1 l1.length c1] rfl qa ?_; (with_reducible refine (zZ.calls k _ _ l1 t222 _ ?side1 ?side2 A4.out).mono ?_); (case side1 => exact qe HR1.out); (case side2 => exact HC1.out); rintro e w' ⟨rfl,⟨nd,rfl⟩⟩; refine ⟨_,rfl,?_⟩) | ((with_reducible refine zz (f := 81) rfl ?_); refine zT (some 12) rfl rfl Try.func81 qi rfl #[.slice A0 l0.length c0] rfl qa ?_; (with_reducible refine (zZ.calls k _ _ l0 t223 _ ?side1 ?side2 A16.out).mono ?_); (case side1 => exact qe HR0.out); (case side2 => exact HC0.out); rintro e w' ⟨rfl,⟨nd,rfl⟩⟩; refine ⟨_,rfl,?_⟩) | ((with_reducible refine zz (f := 81) rfl ?_); refine zT (some 14) rfl rfl Try.func81 qi rfl #[.slice A1 l1.length c1] rfl qa ?_; (with_reducible refine (zZ.calls k _ _ l1 t224 _ ?side1 ?side2 A17.out).mono ?_); (case side1 => exact qe HR1.out); (case side2 => exact HC1.out); rintro e w' ⟨rfl,⟨nd,rfl⟩⟩; refine ⟨_,rfl,?_⟩))
  go_ret
  exact ⟨by first | rfl | (simp [zy,zx] <;> rfl) | (simp [*,zy,zx] <;> rfl),by repeat (first | (with_reducible first | exact HB.out | apply ze | apply zb | apply zf) | exact HB.out)⟩
end Go.Proofs.Ytgmbbfmbimofoaa.P
namespace Go.Proofs.Ytgmbbfmbimofoaa.P
open Go.RowKit Go.Proofs.YtgmbbfmbimofoaaW.PrintWords Go.Proofs.YtgmbbfmbimofoaaW.PrintLast Go.Proofs.YtgmbbfmbimofoaaW.PrintMore
attribute [local go_sem] zM zN zV zU zI zH zO zP
set_option linter.unusedVariables false
set_option linter.unusedSimpArgs false
def zax.l0 : Nat → List (List ByteArray) → Int → Option (Int)
 | 0,_,_ => none
 | k + 1,x0,x3 => if x3 < (x0.length : Int) then (if 0 ≤ x3 then ((zac.f k (zaK x0 x3)).bind fun t379 => (if t379 = 0 then (zax.l0 k x0 (wrap64 (x3 + 1))) else (some t379))) else (none)) else (some 0)
def zax.f (k : Nat) (l0 : List (List ByteArray)) : Option (Int) := if (l0.length : Int) > 4 then (some 6) else (zax.l0 k l0 0)
set_option maxHeartbeats 8000000 in
set_option maxRecDepth 100000 in
theorem zax.calls (k : Nat) (A0 : Option Addr) (c0 : Nat) (l0 : List (List ByteArray)) (r : Int) (w : World) (hr0 : Kd.C (Kd.slice 9 Kd.string) w A0 l0.length l0) (hc0 : l0.length ≤ c0) (h : zax.f k l0 = some r) :
  Calls Try.prog 76 #[.slice A0 l0.length c0] w fun e w' => e = .returned (.int .i64 r) ∧ zw w w' := by
 have HR0 := za.mk hr0
 have HC0 := za.mk hc0
 clear hr0 hc0
 have H : (if (l0.length : Int) > 4 then (some 6) else (zax.l0 k l0 0)) = some r := h
 clear h
 by_cases c2 : (l0.length : Int) > 4
 ·rw [if_pos c2] at H
  have c2b0 : decide (4 < (l0.length : Int)) = true := decide_eq_true c2
  have c2b1 : decide (4 < l0.length) = true := decide_eq_true qj
  clear c2
  obtain rfl := Option.some.inj H
  go_enter Try.func76,Try.ntmps76
  go_wp2
  go_ret
  exact ⟨by first | rfl | (simp; done) | (simp [*]; done),by repeat (first | exact zw.refl _ | apply zw.step)⟩
 ·rw [if_neg c2] at H
  have c2b0 : decide (4 < (l0.length : Int)) = false := decide_eq_false c2
  have c2b1 : decide (4 < l0.length) = false := decide_eq_false qj
  clear c2
  have H' := za.mk H
  clear H
  go_enter Try.func76,Try.ntmps76
  go_wp2
  go_loopg [3] k (fun kq v3 w' => ∃ (x3_1 : Int),v3 = .int .i64 x3_1 ∧ za (zax.l0 kq l0 x3_1 = some r) ∧ za (kq ≤ k) ∧ zw w w')
  case atStart => exact ⟨(0),qf,H',⟨Nat.le_refl _⟩,by repeat (first | exact zw.refl _ | apply zw.step)⟩
  case round =>
   clear H'
   try clear c2
   try clear c2b0
   try clear c2b1
   try clear p2
   obtain ⟨x3_1,rfl,HA,HK1,⟨m1,rfl⟩⟩ := hrel
   cases gk with
   | zero => exact absurd HA.out (by simp [zax.l0])
   | succ k1 =>
    have H := HA.out
    clear HA
    simp only [zax.l0] at H
    by_cases c3 : x3_1 < (l0.length : Int)
    ·rw [if_pos c3] at H
     have c3b0 : decide (x3_1 < (l0.length : Int)) = true := decide_eq_true c3
     clear c3
     by_cases c4 : 0 ≤ x3_1
     ·rw [if_pos c4] at H
      have c4b0 : decide (0 ≤ x3_1) = true := decide_eq_true c4
      clear c4
      replace H := Option.bind_eq_some_iff.mp H
      obtain ⟨t379,A50,H⟩ := H
      replace H : (if t379 = 0 then (zax.l0 k1 l0 (wrap64 (x3_1 + 1))) else (some t379)) = some r := H
      have A5 := za.mk A50
      clear A50
      by_cases c6 : t379 = 0
      ·rw [if_pos c6] at H
       have c6b0 : (t379 == 0) = true := beq_iff_eq.mpr c6
       have c6b1 : (t379 != 0) = false := bne_eq_false_iff_eq.mpr c6
       clear c6
       have H' := za.mk H
       clear H
       have p378 : 0 ≤ (x3_1 : Int) := of_decide_eq_true qd
       have q378 : x3_1 < (l0.length : Int) := of_decide_eq_true qd
       obtain ⟨ad378,A378_0,c378_0,e378,hx378_0,hl378_0,hi378_0⟩ := zco HR0.out x3_1 p378 q378
       cases e378
       have HR378_0 := za.mk hi378_0
       have HC378_0 := za.mk hl378_0
       clear hi378_0 hl378_0
       replace p378 := eq_true p378
       replace q378 := eq_true q378
       go_wp2_with (first | ((with_reducible refine zz (f := 47) rfl ?_); refine zT (some 18) rfl rfl Try.func47 qi rfl #[.slice A378_0 (zaK l0 x3_1).length c378_0] rfl qa ?_; (with_reducible refine (zac.calls k1 _ _ (zaK l0 x3_1) t379 _ ?side1 ?side2 A5.out).mono ?_); (case side1 => exact qe HR378_0.out); (case side2 => exact HC378_0.out); rintro e w' ⟨rfl,⟨nd,rfl⟩⟩; refine ⟨_,rfl,?_⟩))
       go_roundg k1
       case measure => have := HK1.out; omega
       case rel => exact ⟨(wrap64 (x3_1 + 1)),qf,H',⟨by have := HK1.out; omega⟩,by repeat (first | exact zw.refl _ | apply zw.step)⟩
      ·rw [if_neg c6] at H
       have c6b0 : (t379 == 0) = false := beq_eq_false_iff_ne.mpr c6
       have c6b1 : (t379 != 0) = true := bne_iff_ne.mpr c6
       obtain rfl := Option.some.inj H
       have p378 : 0 ≤ (x3_1 : Int) := of_decide_eq_true qd
       have q378 : x3_1 < (l0.length : Int) := of_decide_eq_true qd
       obtain ⟨ad378,A378_0,c378_0,e378,hx378_0,hl378_0,hi378_0⟩ := zco HR0.out x3_1 p378 q378
       cases e378
       have HR378_0 := za.mk hi378_0
       have HC378_0 := za.mk hl378_0
       clear hi378_0 hl378_0
       replace p378 := eq_true p378
       replace q378 := eq_true q378
       go_wp2_with (first | ((with_reducible refine zz (f := 47) rfl ?_); refine zT (some 18) rfl rfl Try.func47 qi rfl #[.slice A378_0 (zaK l0 x3_1).length c378_0] rfl qa ?_; (with_reducible refine (zac.calls k1 _ _ (zaK l0 x3_1) t379 _ ?side1 ?side2 A5.out).mono ?_); (case side1 => exact qe HR378_0.out); (case side2 => exact HC378_0.out); rintro e w' ⟨rfl,⟨nd,rfl⟩⟩; refine ⟨_,rfl,?_⟩))
       go_ret
       exact ⟨by first | rfl | (simp; done) | (simp [*]; done),by repeat (first | exact zw.refl _ | apply zw.step)⟩
     ·rw [if_neg c4] at H
      exact absurd H qz
    ·rw [if_neg c3] at H
     have c3b0 : decide (x3_1 < (l0.length : Int)) = false := decide_eq_false c3
     clear c3
     obtain rfl := Option.some.inj H
     go_wp2
     go_ret
     exact ⟨by first | rfl | (simp; done) | (simp [*]; done),by repeat (first | exact zw.refl _ | apply zw.step)⟩
end Go.Proofs.Ytgmbbfmbimofoaa.P
