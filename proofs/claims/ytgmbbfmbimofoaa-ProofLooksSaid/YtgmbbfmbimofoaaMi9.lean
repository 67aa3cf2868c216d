-- MERGED BY A PROGRAM out of texts of this claim: hand work, and what a (turned) print of the kit has written for it
import Derived.ArgAppend
import Derived.Maps.AppendAt
import Derived.Deep.AppendLies
import Derived.Test.YtgmbbfmbimofoaaMi5
namespace Go.Proofs.Ytgmbbfmbimofoaa.P
open Go.RowKit Go.Proofs.YtgmbbfmbimofoaaW.PrintWords Go.Proofs.YtgmbbfmbimofoaaW.PrintLast Go.Proofs.YtgmbbfmbimofoaaW.PrintMore
attribute [local go_sem] zM zN zV zU zI zH zO zP
set_option linter.unusedVariables false
set_option linter.unusedSimpArgs false
def zaH.l0 : Nat → List ByteArray → ByteArray → Int → Int → Option (Int)
 | 0,_,_,_,_ => none
 | k + 1,x0,x1,x5,x6 => if x6 < (x0.length : Int) then (if 0 ≤ x6 then (if (za0 ByteArray.empty x0 x6).toList = x1.toList then (zaH.l0 k x0 x1 (wrap64 (x5 + 1)) (wrap64 (x6 + 1))) else (zaH.l0 k x0 x1 x5 (wrap64 (x6 + 1)))) else (none)) else (some x5)
def zaH.f (k : Nat) (l0 : List ByteArray) (a1 : ByteArray) : Option (Int) := zaH.l0 k l0 a1 0 0
set_option maxHeartbeats 8000000 in
set_option maxRecDepth 100000 in
theorem zaH.calls (k : Nat) (A0 : Option Addr) (c0 : Nat) (l0 : List ByteArray) (a1 : ByteArray) (r : Int) (w : World) (hr0 : Kd.C Kd.string w A0 l0.length l0) (hc0 : l0.length ≤ c0) (h : zaH.f k l0 a1 = some r) :
  Calls Try.prog 77 #[.slice A0 l0.length c0, .string a1] w fun e w' => e = .returned (.int .i64 r) ∧ zw w w' := by
 have HR0 := za.mk hr0
 have HC0 := za.mk hc0
 clear hr0 hc0
 have H : (zaH.l0 k l0 a1 0 0) = some r := h
 clear h
 have H' := za.mk H
 clear H
 go_enter Try.func77,Try.ntmps77
 go_wp2
 go_loopg [5,6] k (fun kq v5 v6 w' => ∃ (x5_1 : Int) (x6_1 : Int),v5 = .int .i64 x5_1 ∧ v6 = .int .i64 x6_1 ∧ za (zaH.l0 kq l0 a1 x5_1 x6_1 = some r) ∧ za (kq ≤ k) ∧ zw w w')
 case atStart => exact ⟨(0),(0),qf,qf,H',⟨Nat.le_refl _⟩,by repeat (first | exact zw.refl _ | apply zw.step)⟩
 case round =>
  clear H'
  try clear p2
  obtain ⟨x5_1,x6_1,rfl,rfl,HA,HK1,⟨m1,rfl⟩⟩ := hrel
  cases gk with
  | zero => exact absurd HA.out (by simp [zaH.l0])
  | succ k1 =>
   have H := HA.out
   clear HA
   simp only [zaH.l0] at H
   by_cases c3 : x6_1 < (l0.length : Int)
   ·rw [if_pos c3] at H
    have c3b0 : decide (x6_1 < (l0.length : Int)) = true := decide_eq_true c3
    clear c3
    by_cases c4 : 0 ≤ x6_1
    ·rw [if_pos c4] at H
     have c4b0 : decide (0 ≤ x6_1) = true := decide_eq_true c4
     clear c4
     by_cases c5 : (za0 ByteArray.empty l0 x6_1).toList = a1.toList
     ·rw [if_pos c5] at H
      have c5b0 : ((za0 ByteArray.empty l0 x6_1).toList == a1.toList) = true := beq_iff_eq.mpr c5
      have c5b1 : ((za0 ByteArray.empty l0 x6_1).toList != a1.toList) = false := bne_eq_false_iff_eq.mpr c5
      clear c5
      have H' := za.mk H
      clear H
      have p380 : 0 ≤ (x6_1 : Int) := of_decide_eq_true qd
      have q380 : x6_1 < (l0.length : Int) := of_decide_eq_true qd
      obtain ⟨ad380,e380,hx380_0⟩ := Kd.zbw HR0.out x6_1 p380 q380
      cases e380
      replace p380 := eq_true p380
      replace q380 := eq_true q380
      go_wp2
      go_roundg k1
      case measure => have := HK1.out; omega
      case rel => exact ⟨(wrap64 (x5_1 + 1)),(wrap64 (x6_1 + 1)),qf,qf,H',⟨by have := HK1.out; omega⟩,by repeat (first | exact zw.refl _ | apply zw.step)⟩
     ·rw [if_neg c5] at H
      have c5b0 : ((za0 ByteArray.empty l0 x6_1).toList == a1.toList) = false := beq_eq_false_iff_ne.mpr c5
      have c5b1 : ((za0 ByteArray.empty l0 x6_1).toList != a1.toList) = true := bne_iff_ne.mpr c5
      have H' := za.mk H
      clear H
      have p380 : 0 ≤ (x6_1 : Int) := of_decide_eq_true qd
      have q380 : x6_1 < (l0.length : Int) := of_decide_eq_true qd
      obtain ⟨ad380,e380,hx380_0⟩ := Kd.zbw HR0.out x6_1 p380 q380
      cases e380
      replace p380 := eq_true p380
      replace q380 := eq_true q380
      go_wp2
      go_roundg k1
      case measure => have := HK1.out; omega
      case rel => exact ⟨(x5_1),(wrap64 (x6_1 + 1)),qf,qf,H',⟨by have := HK1.out; omega⟩,by repeat (first | exact zw.refl _ | apply zw.step)⟩
    ·rw [if_neg c4] at H
     exact absurd H qz
   ·rw [if_neg c3] at H
    have c3b0 : decide (x6_1 < (l0.length : Int)) = false := decide_eq_false c3
    clear c3
    obtain rfl := Option.some.inj H
    go_wp2
    go_ret
    exact ⟨by first | rfl | (simp; done) | (simp [*]; done),by repeat (first | exact zw.refl _ | apply zw.step)⟩
def zaO.l0 : Nat → List (List ByteArray) → ByteArray → Int → Int → Option (Int)
 | 0,_,_,_,_ => none
 | k + 1,x0,x1,x5,x6 => if x6 < (x0.length : Int) then (if 0 ≤ x6 then ((zaH.f k (zaK x0 x6) x1).bind fun t382 => (zaO.l0 k x0 x1 (mx x5 t382) (wrap64 (x6 + 1)))) else (none)) else (some x5)
def zaO.f (k : Nat) (l0 : List (List ByteArray)) (a1 : ByteArray) : Option (Int) := zaO.l0 k l0 a1 0 0
set_option maxHeartbeats 8000000 in
set_option maxRecDepth 100000 in
theorem zaO.calls (k : Nat) (A0 : Option Addr) (c0 : Nat) (l0 : List (List ByteArray)) (a1 : ByteArray) (r : Int) (w : World) (hr0 : Kd.C (Kd.slice 9 Kd.string) w A0 l0.length l0) (hc0 : l0.length ≤ c0) (h : zaO.f k l0 a1 = some r) :
  Calls Try.prog 78 #[.slice A0 l0.length c0, .string a1] w fun e w' => e = .returned (.int .i64 r) ∧ Below w.heap.size w w' := by
 have HR0 := za.mk hr0
 have HC0 := za.mk hc0
 clear hr0 hc0
 have HB := za.mk (Below.refl w.heap.size w)
 have H : (zaO.l0 k l0 a1 0 0) = some r := h
 clear h
 have H' := za.mk H
 clear H
 go_enter Try.func78,Try.ntmps78
 go_wp2
 go_loopg [5,6] k (fun kq v5 v6 w' => ∃ (x5_1 : Int) (x6_1 : Int),v5 = .int .i64 x5_1 ∧ v6 = .int .i64 x6_1 ∧ za (zaO.l0 kq l0 a1 x5_1 x6_1 = some r) ∧ za (kq ≤ k) ∧ za (Below w.heap.size w w'))
 case atStart => exact ⟨(0),(0),qf,qf,H',⟨Nat.le_refl _⟩,⟨by repeat (first | (with_reducible first | exact HB.out | apply ze | apply zb | apply zf) | exact HB.out)⟩⟩
 case round =>
  clear H'
  try clear p2
  obtain ⟨x5_1,x6_1,rfl,rfl,HA,HK1,HB⟩ := hrel
  cases gk with
  | zero => exact absurd HA.out (by simp [zaO.l0])
  | succ k1 =>
   have H := HA.out
   clear HA
   simp only [zaO.l0] at H
   by_cases c3 : x6_1 < (l0.length : Int)
   ·rw [if_pos c3] at H
    have c3b0 : decide (x6_1 < (l0.length : Int)) = true := decide_eq_true c3
    clear c3
    by_cases c4 : 0 ≤ x6_1
    ·rw [if_pos c4] at H
     have c4b0 : decide (0 ≤ x6_1) = true := decide_eq_true c4
     clear c4
     replace H := Option.bind_eq_some_iff.mp H
     obtain ⟨t382,A50,H⟩ := H
     replace H : (zaO.l0 k1 l0 a1 (mx x5_1 t382) (wrap64 (x6_1 + 1))) = some r := H
     have A5 := za.mk A50
     clear A50
     obtain ⟨ji6,hji6⟩ : ∃ j_ : Int,(mx x5_1 t382) = j_ := ⟨_,rfl⟩
     replace H : (zaO.l0 k1 l0 a1 ji6 (wrap64 (x6_1 + 1))) = some r := by first | (rw [hji6] at H; exact H) | (simp only [hji6] at H ⊢; exact H)
     (try rw [hji6] at A5)
     have hji6_ : (if x5_1 < t382 then t382 else x5_1) = ji6 := hji6
     have H' := za.mk H
     clear H
     have p381 : 0 ≤ (x6_1 : Int) := of_decide_eq_true qd
     have q381 : x6_1 < (l0.length : Int) := of_decide_eq_true qd
     obtain ⟨ad381,A381_0,c381_0,e381,hx381_0,hl381_0,hi381_0⟩ := zco HR0.out x6_1 p381 q381
     cases e381
     replace hx381_0 := (HB.out.cell (World.block_lt_of_cell? w _ hx381_0)).trans hx381_0
     have HR381_0 := za.mk hi381_0
     have HC381_0 := za.mk hl381_0
     clear hi381_0 hl381_0
     replace p381 := eq_true p381
     replace q381 := eq_true q381
     go_wp2_with (first | ((with_reducible refine zz (f := 77) rfl ?_); refine zT (some 19) rfl rfl Try.func77 qi rfl #[.slice A381_0 (zaK l0 x6_1).length c381_0, .string a1] rfl qa ?_; (with_reducible refine (zaH.calls k1 _ _ (zaK l0 x6_1) a1 t382 _ ?side1 ?side2 A5.out).mono ?_); (case side1 => exact ql HR381_0.out HB.out); (case side2 => exact HC381_0.out); rintro e w' ⟨rfl,⟨nd,rfl⟩⟩; refine ⟨_,rfl,?_⟩))
     go_roundg k1
     case measure => have := HK1.out; omega
     case rel => exact ⟨(ji6),(wrap64 (x6_1 + 1)),(by first | rfl | (simp; done) | (simp only [← hji6] <;> (first | rfl | simp)) | (simp [*]; done)),qf,H',⟨by have := HK1.out; omega⟩,⟨by repeat (first | (with_reducible first | exact HB.out | apply ze | apply zb | apply zf) | exact HB.out)⟩⟩
    ·rw [if_neg c4] at H
     exact absurd H qz
   ·rw [if_neg c3] at H
    have c3b0 : decide (x6_1 < (l0.length : Int)) = false := decide_eq_false c3
    clear c3
    obtain rfl := Option.some.inj H
    go_wp2
    go_ret
    exact ⟨by first | rfl | (simp [zy,zx] <;> rfl) | (simp [*,zy,zx] <;> rfl),by repeat (first | (with_reducible first | exact HB.out | apply ze | apply zb | apply zf) | exact HB.out)⟩
def zaU.l0 : Nat → List (List ByteArray) → Int → Option (Bool)
 | 0,_,_ => none
 | k + 1,x0,x3 => if x3 < (x0.length : Int) then (if 0 ≤ x3 then ((zaM.f k (zaK x0 x3)).bind fun t301 => (if t301 = true then (some true) else (zaU.l0 k x0 (wrap64 (x3 + 1))))) else (none)) else (some (decide ((x0.length : Int) > 20)))
def zaU.f (k : Nat) (l0 : List (List ByteArray)) : Option (Bool) := zaU.l0 k l0 0
set_option maxHeartbeats 8000000 in
set_option maxRecDepth 100000 in
theorem zaU.calls (k : Nat) (A0 : Option Addr) (c0 : Nat) (l0 : List (List ByteArray)) (r : Bool) (w : World) (hr0 : Kd.C (Kd.slice 9 Kd.string) w A0 l0.length l0) (hc0 : l0.length ≤ c0) (h : zaU.f k l0 = some r) :
  Calls Try.prog 32 #[.slice A0 l0.length c0] w fun e w' => e = .returned (.bool r) ∧ zw w w' := by
 have HR0 := za.mk hr0
 have HC0 := za.mk hc0
 clear hr0 hc0
 have H : (zaU.l0 k l0 0) = some r := h
 clear h
 have H' := za.mk H
 clear H
 go_enter Try.func32,Try.ntmps32
 go_wp2
 go_loopg [3] k (fun kq v3 w' => ∃ (x3_1 : Int),v3 = .int .i64 x3_1 ∧ za (zaU.l0 kq l0 x3_1 = some r) ∧ za (kq ≤ k) ∧ zw w w')
 case atStart => exact ⟨(0),qf,H',⟨Nat.le_refl _⟩,by repeat (first | exact zw.refl _ | apply zw.step)⟩
 case round =>
  clear H'
  obtain ⟨x3_1,rfl,HA,HK1,⟨m1,rfl⟩⟩ := hrel
  cases gk with
  | zero => exact absurd HA.out (by simp [zaU.l0])
  | succ k1 =>
   have H := HA.out
   clear HA
   simp only [zaU.l0] at H
   by_cases c2 : x3_1 < (l0.length : Int)
   ·rw [if_pos c2] at H
    have c2b0 : decide (x3_1 < (l0.length : Int)) = true := decide_eq_true c2
    clear c2
    by_cases c3 : 0 ≤ x3_1
    ·rw [if_pos c3] at H
     have c3b0 : decide (0 ≤ x3_1) = true := decide_eq_true c3
     clear c3
     replace H := Option.bind_eq_some_iff.mp H
     obtain ⟨t301,A40,H⟩ := H
     replace H : (if t301 = true then (some true) else (zaU.l0 k1 l0 (wrap64 (x3_1 + 1)))) = some r := H
     have A4 := za.mk A40
     clear A40
     by_cases c5 : t301 = true
     ·subst c5
      have H1 : (some true) = some r := by rw [if_pos rfl] at H; exact H
      clear H
      have H := H1
      clear H1
      obtain rfl := Option.some.inj H
      have p300 : 0 ≤ (x3_1 : Int) := of_decide_eq_true qd
      have q300 : x3_1 < (l0.length : Int) := of_decide_eq_true qd
      obtain ⟨ad300,A300_0,c300_0,e300,hx300_0,hl300_0,hi300_0⟩ := zco HR0.out x3_1 p300 q300
      cases e300
      have HR300_0 := za.mk hi300_0
      have HC300_0 := za.mk hl300_0
      clear hi300_0 hl300_0
      replace p300 := eq_true p300
      replace q300 := eq_true q300
      go_wp2_with (first | ((with_reducible refine zz (f := 17) rfl ?_); refine zT (some 14) rfl rfl Try.func17 qi rfl #[.slice A300_0 (zaK l0 x3_1).length c300_0] rfl qa ?_; (with_reducible refine (zaM.calls k1 _ _ (zaK l0 x3_1) true _ ?side1 ?side2 A4.out).mono ?_); (case side1 => exact qe HR300_0.out); (case side2 => exact HC300_0.out); rintro e w' ⟨rfl,⟨nd,rfl⟩⟩; refine ⟨_,rfl,?_⟩))
      go_ret
      exact ⟨by first | rfl | (simp; done) | (simp [*]; done),by repeat (first | exact zw.refl _ | apply zw.step)⟩
     ·replace c5 := Bool.eq_false_iff.mpr c5
      subst c5
      have H1 : (zaU.l0 k1 l0 (wrap64 (x3_1 + 1))) = some r := by rw [if_neg (show ¬ (false = true) by decide)] at H; exact H
      clear H
      have H := H1
      clear H1
      have H' := za.mk H
      clear H
      have p300 : 0 ≤ (x3_1 : Int) := of_decide_eq_true qd
      have q300 : x3_1 < (l0.length : Int) := of_decide_eq_true qd
      obtain ⟨ad300,A300_0,c300_0,e300,hx300_0,hl300_0,hi300_0⟩ := zco HR0.out x3_1 p300 q300
      cases e300
      have HR300_0 := za.mk hi300_0
      have HC300_0 := za.mk hl300_0
      clear hi300_0 hl300_0
      replace p300 := eq_true p300
      replace q300 := eq_true q300
      go_wp2_with (first | ((with_reducible refine zz (f := 17) rfl ?_); refine zT (some 14) rfl rfl Try.func17 qi rfl #[.slice A300_0 (zaK l0 x3_1).length c300_0] rfl qa ?_; (with_reducible refine (zaM.calls k1 _ _ (zaK l0 x3_1) false _ ?side1 ?side2 A4.out).mono ?_); (case side1 => exact qe HR300_0.out); (case side2 => exact HC300_0.out); rintro e w' ⟨rfl,⟨nd,rfl⟩⟩; refine ⟨_,rfl,?_⟩))
      go_roundg k1
      case measure => have := HK1.out; omega
      case rel => exact ⟨(wrap64 (x3_1 + 1)),qf,H',⟨by have := HK1.out; omega⟩,by repeat (first | exact zw.refl _ | apply zw.step)⟩
    ·rw [if_neg c3] at H
     exact absurd H qz
   ·rw [if_neg c2] at H
    have c2b0 : decide (x3_1 < (l0.length : Int)) = false := decide_eq_false c2
    clear c2
    obtain rfl := Option.some.inj H
    go_wp2
    go_ret
    exact ⟨by first | rfl | (simp; done) | (simp [*]; done),by repeat (first | exact zw.refl _ | apply zw.step)⟩
def zaJ.l0 : Nat → List (List ByteArray) → List (List ByteArray) → Int → Option ((List (List ByteArray)))
 | 0,_,_,_ => none
 | k + 1,x0,x3,x4 => if x4 < (x0.length : Int) then (if 0 ≤ x4 then ((zaD.f (zaK x0 x4)).bind fun t372 => (if x3.length < 5864062014805 then (zaJ.l0 k x0 (x3 ++ [t372]) (wrap64 (x4 + 1))) else (none))) else (none)) else (some x3)
def zaJ.f (k : Nat) (l0 : List (List ByteArray)) : Option ((List (List ByteArray))) := zaJ.l0 k l0 ([] : List (List ByteArray)) 0
set_option maxHeartbeats 8000000 in
set_option maxRecDepth 100000 in
theorem zaJ.calls (k : Nat) (A0 : Option Addr) (c0 : Nat) (l0 : List (List ByteArray)) (r : List (List ByteArray)) (w : World) (hr0 : Kd.C (Kd.slice 9 Kd.string) w A0 l0.length l0) (hc0 : l0.length ≤ c0) (h : zaJ.f k l0 = some r) :
  Calls Try.prog 36 #[.slice A0 l0.length c0] w fun e w' => ∃ v0_ : Value,e = .returned (v0_) ∧ Kd.S (Kd.slice 9 Kd.string) 22 w' w.heap.size (fun _ => True) v0_ r ∧ Below w.heap.size w w' := by
 have HR0 := za.mk hr0
 have HC0 := za.mk hc0
 clear hr0 hc0
 have HB := za.mk (Below.refl w.heap.size w)
 have H : (zaJ.l0 k l0 ([] : List (List ByteArray)) 0) = some r := h
 clear h
 have H' := za.mk H
 clear H
 go_enter Try.func36,Try.ntmps36
 go_wp2
 go_loopg [3,4] k (fun kq v3 v4 w' => ∃ (x3_1 : List (List ByteArray)) (x4_1 : Int),v4 = .int .i64 x4_1 ∧ za (zaJ.l0 kq l0 x3_1 x4_1 = some r) ∧ za (kq ≤ k) ∧ za (Kd.S (Kd.slice 9 Kd.string) 22 w' w.heap.size (fun _ => True) v3 x3_1) ∧ za (Below w.heap.size w w'))
 case atStart => exact ⟨(([] : List (List ByteArray))),(0),qf,H',⟨Nat.le_refl _⟩,⟨by first | exact Kd.zc3 _ _ _ _ _ | exact Kd.zcX _ _ _ _ _ | exact Kd.zc0 _ _ _ _ _ | exact Kd.zc1 _ _ _ _ _ | exact Kd.zbP _ _ _ _ _⟩,⟨by repeat (first | (with_reducible first | exact HB.out | apply ze | apply zb | apply zf) | exact HB.out)⟩⟩
 case round =>
  clear H'
  obtain ⟨x3_1,x4_1,rfl,HA,HK1,HO_3,HB⟩ := hrel
  cases gk with
  | zero => exact absurd HA.out (by simp [zaJ.l0])
  | succ k1 =>
   have H := HA.out
   clear HA
   simp only [zaJ.l0] at H
   by_cases c2 : x4_1 < (l0.length : Int)
   ·rw [if_pos c2] at H
    have c2b0 : decide (x4_1 < (l0.length : Int)) = true := decide_eq_true c2
    clear c2
    by_cases c3 : 0 ≤ x4_1
    ·rw [if_pos c3] at H
     have c3b0 : decide (0 ≤ x4_1) = true := decide_eq_true c3
     clear c3
     replace H := Option.bind_eq_some_iff.mp H
     obtain ⟨t372,A40,H⟩ := H
     replace H : (if x3_1.length < 5864062014805 then (zaJ.l0 k1 l0 (x3_1 ++ [t372]) (wrap64 (x4_1 + 1))) else (none)) = some r := H
     have A4 := za.mk A40
     clear A40
     by_cases c5 : x3_1.length < 5864062014805
     ·rw [if_pos c5] at H
      have LMc5 := za.mk c5
      clear c5
      obtain ⟨y375,hy375⟩ : ∃ y_ : List (List ByteArray),y_ = (x3_1 ++ [t372]) := ⟨_,rfl⟩
      replace H : (zaJ.l0 k1 l0 y375 (wrap64 (x4_1 + 1))) = some r := by first | (rw [hy375]; with_reducible exact H) | (have H2_ := (Option.bind_some _ _).symm.trans H; rw [hy375]; with_reducible exact H2_) | (have H2_ := (Option.bind_some _ _).symm.trans H; with_reducible exact H2_) | with_reducible exact H | (rw [hy375]; exact H) | exact H
      have Ny375 := za.mk hy375
      clear hy375
      have H' := za.mk H
      clear H
      have p371 : 0 ≤ (x4_1 : Int) := of_decide_eq_true qd
      have q371 : x4_1 < (l0.length : Int) := of_decide_eq_true qd
      obtain ⟨ad371,A371_0,c371_0,e371,hx371_0,hl371_0,hi371_0⟩ := zco HR0.out x4_1 p371 q371
      cases e371
      replace hx371_0 := (HB.out.cell (World.block_lt_of_cell? w _ hx371_0)).trans hx371_0
      have HR371_0 := za.mk hi371_0
      have HC371_0 := za.mk hl371_0
      clear hi371_0 hl371_0
      replace p371 := eq_true p371
      replace q371 := eq_true q371
      go_wp2_with (first | ((with_reducible refine zz (f := 21) rfl ?_); refine zT (some 16) rfl rfl Try.func21 qi rfl #[.slice A371_0 (zaK l0 x4_1).length c371_0] rfl qa ?_; (with_reducible refine (zaD.calls _ _ (zaK l0 x4_1) t372 _ ?side1 ?side2 A4.out).mono ?_); (case side1 => exact ql HR371_0.out HB.out); (case side2 => exact HC371_0.out); rintro e w6 ⟨v373,rfl,ho0,hb⟩; refine ⟨_,rfl,?_⟩; have n0_ := za.mk (Kd.ze3 (qw HO_3.out) (Kd.zcU ho0) hb); have n1_ := za.mk (Kd.zaT ho0 (zC (qc HB.out))); have n2_ := za.mk (zq (qc HB.out) hb); clear HO_3; clear HB; have HO_3 := n0_; have HO374 := n1_; have HB := n2_; clear n0_ n1_ n2_; (try clear hb); (try clear hb2); (try clear hk); (try clear hi); (try clear ho0); obtain ⟨Ao8,co8,eo8⟩ := Kd.zbr HO374.out; subst eo8) | ((with_reducible refine zbf (b := .append) (xs := #[.tmp 11, .tmp 17]) rfl ?_); at_builtin; refine Kd.zf6 (Kd.slice 9 Kd.string) (w0 := w) w.heap.size rfl (.tmp 11) (.tmp 17) 29 22 (.slice none 0 0) 24 rfl Try.underlying29 zhn rfl qt qj u3 x3_1 t372 [.slice Ao8 t372.length co8] (fun _ => True) (fun k_ => some k_ = (.slice Ao8 t372.length co8 : Value).ownBlock) rfl rfl ?aP (fun k_ hk_ => ((Kd.zaA (ok' := fun k_ => ((fun _ => True)) k_ ∧ some k_ ≠ (u3 : Value).ownBlock) (Kd.ze8 (HO374.out) (Kd.zeP HO_3.out) qt) (fun k_ hk => ⟨trivial,hk.2⟩))).1 k_ hk_.symm) ?aF ?aO ?aB ?aS ?aL ?_; (case aP => exact Kd.ziv (Kd.zaA (Kd.zfD rfl (Kd.zaA (ok' := fun k_ => ((fun _ => True)) k_ ∧ some k_ ≠ (u3 : Value).ownBlock) (Kd.ze8 (HO374.out) (Kd.zeP HO_3.out) qt) (fun k_ hk => ⟨trivial,hk.2⟩))) (fun _ h_ => h_))); (case aB => exact (qc HB.out)); (case aF => exact (fun _ _ => trivial)); (case aO => exact (by (with_reducible repeat (first | apply Kd.zbd | apply Kd.zbc | apply Kd.zbm)); exact Kd.zbO HO_3.out (fun k_ hk => ⟨trivial,fun e_ => hk.2 e_⟩))); (case aS => exact (zC (qc HB.out))); (case aL => have := LMc5.out; omega); intro v376 w7 ho hb hg hat; rw [← Ny375.out] at ho; have n0_ := za.mk (hb); have n1_ := za.mk (ho); clear HB; clear HO_3; clear HO374; have HB := n0_; have HO377 := n1_; clear n0_ n1_; clear ho hb hg hat))
      go_roundg k1
      case measure => have := HK1.out; omega
      case rel => exact ⟨(y375),(wrap64 (x4_1 + 1)),qf,H',⟨by have := HK1.out; omega⟩,⟨by (with_reducible repeat (first | apply Kd.zbd | apply Kd.zbc | apply Kd.zbm)); exact HO377.out⟩,⟨by repeat (first | (with_reducible first | exact HB.out | apply ze | apply zb | apply zf) | exact HB.out)⟩⟩
     ·rw [if_neg c5] at H
      exact absurd H qz
    ·rw [if_neg c3] at H
     exact absurd H qz
   ·rw [if_neg c2] at H
    have c2b0 : decide (x4_1 < (l0.length : Int)) = false := decide_eq_false c2
    clear c2
    obtain rfl := Option.some.inj H
    go_wp2
    go_ret
    exact ⟨_,by first | rfl | (simp [zy,zx] <;> rfl) | (simp [*,zy,zx] <;> rfl),by (with_reducible repeat (first | apply Kd.zbd | apply Kd.zbc | apply Kd.zbm)); exact HO_3.out,by repeat (first | (with_reducible first | exact HB.out | apply ze | apply zb | apply zf) | exact HB.out)⟩
def zaG.l0 : Nat → List (List ByteArray) → List (List ByteArray) → Int → Option (Bool)
 | 0,_,_,_ => none
 | k + 1,x0,x1,x5 => if x5 < (x0.length : Int) then (if 0 ≤ x5 then (if x5 < (x1.length : Int) then ((zaj.f k (zaK x0 x5) (zaK x1 x5)).bind fun t404 => (if t404 = true then (zaG.l0 k x0 x1 (wrap64 (x5 + 1))) else (some false))) else (none)) else (none)) else (some true)
def zaG.f (k : Nat) (l0 : List (List ByteArray)) (l1 : List (List ByteArray)) : Option (Bool) := if (l0.length : Int) = (l1.length : Int) then (zaG.l0 k l0 l1 0) else (some false)
set_option maxHeartbeats 8000000 in
set_option maxRecDepth 100000 in
theorem zaG.calls (k : Nat) (A0 : Option Addr) (c0 : Nat) (l0 : List (List ByteArray)) (A1 : Option Addr) (c1 : Nat) (l1 : List (List ByteArray)) (r : Bool) (w : World) (hr0 : Kd.C (Kd.slice 9 Kd.string) w A0 l0.length l0) (hc0 : l0.length ≤ c0) (hr1 : Kd.C (Kd.slice 9 Kd.string) w A1 l1.length l1) (hc1 : l1.length ≤ c1) (h : zaG.f k l0 l1 = some r) :
  Calls Try.prog 39 #[.slice A0 l0.length c0, .slice A1 l1.length c1] w fun e w' => e = .returned (.bool r) ∧ zw w w' := by
 have HR0 := za.mk hr0
 have HC0 := za.mk hc0
 clear hr0 hc0
 have HR1 := za.mk hr1
 have HC1 := za.mk hc1
 clear hr1 hc1
 have H : (if (l0.length : Int) = (l1.length : Int) then (zaG.l0 k l0 l1 0) else (some false)) = some r := h
 clear h
 by_cases c3 : (l0.length : Int) = (l1.length : Int)
 ·rw [if_pos c3] at H
  have c3b0 : ((l0.length : Int) == (l1.length : Int)) = true := beq_iff_eq.mpr c3
  have c3b1 : ((l0.length : Int) != (l1.length : Int)) = false := bne_eq_false_iff_eq.mpr c3
  have c3b2 : (l0.length == l1.length) = true := by first | simpa using c3 | (simp at c3 ⊢; omega)
  clear c3
  have H' := za.mk H
  clear H
  go_enter Try.func39,Try.ntmps39
  go_wp2
  repeat (go_quiet (fail); try go_wp2)
  go_loopg [5] k (fun kq v5 w' => ∃ (x5_1 : Int),v5 = .int .i64 x5_1 ∧ za (zaG.l0 kq l0 l1 x5_1 = some r) ∧ za (kq ≤ k) ∧ zw w w')
  case atStart => exact ⟨(0),qf,H',⟨Nat.le_refl _⟩,by repeat (first | exact zw.refl _ | apply zw.step)⟩
  case round =>
   clear H'
   try clear c1
   try clear p2
   try clear c3
   try clear c3b0
   try clear c3b1
   try clear c3b2
   obtain ⟨x5_1,rfl,HA,HK1,⟨m1,rfl⟩⟩ := hrel
   cases gk with
   | zero => exact absurd HA.out (by simp [zaG.l0])
   | succ k1 =>
    have H := HA.out
    clear HA
    simp only [zaG.l0] at H
    by_cases c4 : x5_1 < (l0.length : Int)
    ·rw [if_pos c4] at H
     have c4b0 : decide (x5_1 < (l0.length : Int)) = true := decide_eq_true c4
     clear c4
     by_cases c5 : 0 ≤ x5_1
     ·rw [if_pos c5] at H
      have c5b0 : decide (0 ≤ x5_1) = true := decide_eq_true c5
      clear c5
      by_cases c6 : x5_1 < (l1.length : Int)
      ·rw [if_pos c6] at H
       have c6b0 : decide (x5_1 < (l1.length : Int)) = true := decide_eq_true c6
       clear c6
       replace H := Option.bind_eq_some_iff.mp H
       obtain ⟨t404,A70,H⟩ := H
       replace H : (if t404 = true then (zaG.l0 k1 l0 l1 (wrap64 (x5_1 + 1))) else (some false)) = some r := H
       have A7 := za.mk A70
       clear A70
       by_cases c8 : t404 = true
       ·subst c8
        have H1 : (zaG.l0 k1 l0 l1 (wrap64 (x5_1 + 1))) = some r := by rw [if_pos rfl] at H; exact H
        clear H
        have H := H1
        clear H1
        have H' := za.mk H
        clear H
        have p402 : 0 ≤ (x5_1 : Int) := of_decide_eq_true qd
        have q402 : x5_1 < (l0.length : Int) := of_decide_eq_true qd
        obtain ⟨ad402,A402_0,c402_0,e402,hx402_0,hl402_0,hi402_0⟩ := zco HR0.out x5_1 p402 q402
        cases e402
        have HR402_0 := za.mk hi402_0
        have HC402_0 := za.mk hl402_0
        clear hi402_0 hl402_0
        replace p402 := eq_true p402
        replace q402 := eq_true q402
        have p403 : 0 ≤ (x5_1 : Int) := of_decide_eq_true qd
        have q403 : x5_1 < (l1.length : Int) := of_decide_eq_true qd
        obtain ⟨ad403,A403_0,c403_0,e403,hx403_0,hl403_0,hi403_0⟩ := zco HR1.out x5_1 p403 q403
        cases e403
        have HR403_0 := za.mk hi403_0
        have HC403_0 := za.mk hl403_0
        clear hi403_0 hl403_0
        replace p403 := eq_true p403
        replace q403 := eq_true q403
        go_wp2_with (first | (go_at_call 25; (with_reducible refine (zaj.calls k1 _ _ (zaK l0 x5_1) _ _ (zaK l1 x5_1) true _ ?side1 ?side2 ?side3 ?side4 A7.out).mono ?_); (case side1 => exact qe HR402_0.out); (case side2 => exact HC402_0.out); (case side3 => exact qe HR403_0.out); (case side4 => exact HC403_0.out); rintro e w' ⟨rfl,⟨nd,rfl⟩⟩; (try first | exact ⟨rfl,_,World.drewN_drewN _ _ _⟩ | exact ⟨rfl,_,Eq.trans (World.drewN_drewN _ _ _) (congrArg (World.drewN _) (Nat.add_assoc _ _ _))⟩)))
        repeat (go_quiet (first | (go_at_call 25; (with_reducible refine (zaj.calls k1 _ _ (zaK l0 x5_1) _ _ (zaK l1 x5_1) true _ ?side1 ?side2 ?side3 ?side4 A7.out).mono ?_); (case side1 => exact qe HR402_0.out); (case side2 => exact HC402_0.out); (case side3 => exact qe HR403_0.out); (case side4 => exact HC403_0.out); rintro e w' ⟨rfl,⟨nd,rfl⟩⟩; (try first | exact ⟨rfl,_,World.drewN_drewN _ _ _⟩ | exact ⟨rfl,_,Eq.trans (World.drewN_drewN _ _ _) (congrArg (World.drewN _) (Nat.add_assoc _ _ _))⟩))); try go_wp2_with (first | (go_at_call 25; (with_reducible refine (zaj.calls k1 _ _ (zaK l0 x5_1) _ _ (zaK l1 x5_1) true _ ?side1 ?side2 ?side3 ?side4 A7.out).mono ?_); (case side1 => exact qe HR402_0.out); (case side2 => exact HC402_0.out); (case side3 => exact qe HR403_0.out); (case side4 => exact HC403_0.out); rintro e w' ⟨rfl,⟨nd,rfl⟩⟩; (try first | exact ⟨rfl,_,World.drewN_drewN _ _ _⟩ | exact ⟨rfl,_,Eq.trans (World.drewN_drewN _ _ _) (congrArg (World.drewN _) (Nat.add_assoc _ _ _))⟩))))
        go_roundg k1
        case measure => have := HK1.out; omega
        case rel => exact ⟨(wrap64 (x5_1 + 1)),qf,H',⟨by have := HK1.out; omega⟩,by repeat (first | exact zw.refl _ | apply zw.step)⟩
       ·replace c8 := Bool.eq_false_iff.mpr c8
        subst c8
        have H1 : (some false) = some r := by rw [if_neg (show ¬ (false = true) by decide)] at H; exact H
        clear H
        have H := H1
        clear H1
        obtain rfl := Option.some.inj H
        have p402 : 0 ≤ (x5_1 : Int) := of_decide_eq_true qd
        have q402 : x5_1 < (l0.length : Int) := of_decide_eq_true qd
        obtain ⟨ad402,A402_0,c402_0,e402,hx402_0,hl402_0,hi402_0⟩ := zco HR0.out x5_1 p402 q402
        cases e402
        have HR402_0 := za.mk hi402_0
        have HC402_0 := za.mk hl402_0
        clear hi402_0 hl402_0
        replace p402 := eq_true p402
        replace q402 := eq_true q402
        have p403 : 0 ≤ (x5_1 : Int) := of_decide_eq_true qd
        have q403 : x5_1 < (l1.length : Int) := of_decide_eq_true qd
        obtain ⟨ad403,A403_0,c403_0,e403,hx403_0,hl403_0,hi403_0⟩ := zco HR1.out x5_1 p403 q403
        cases e403
        have HR403_0 := za.mk hi403_0
        have HC403_0 := za.mk hl403_0
        clear hi403_0 hl403_0
        replace p403 := eq_true p403
        replace q403 := eq_true q403
        go_wp2_with (first | (go_at_call 25; (with_reducible refine (zaj.calls k1 _ _ (zaK l0 x5_1) _ _ (zaK l1 x5_1) false _ ?side1 ?side2 ?side3 ?side4 A7.out).mono ?_); (case side1 => exact qe HR402_0.out); (case side2 => exact HC402_0.out); (case side3 => exact qe HR403_0.out); (case side4 => exact HC403_0.out); rintro e w' ⟨rfl,⟨nd,rfl⟩⟩; (try first | exact ⟨rfl,_,World.drewN_drewN _ _ _⟩ | exact ⟨rfl,_,Eq.trans (World.drewN_drewN _ _ _) (congrArg (World.drewN _) (Nat.add_assoc _ _ _))⟩)))
        repeat (go_quiet (first | (go_at_call 25; (with_reducible refine (zaj.calls k1 _ _ (zaK l0 x5_1) _ _ (zaK l1 x5_1) false _ ?side1 ?side2 ?side3 ?side4 A7.out).mono ?_); (case side1 => exact qe HR402_0.out); (case side2 => exact HC402_0.out); (case side3 => exact qe HR403_0.out); (case side4 => exact HC403_0.out); rintro e w' ⟨rfl,⟨nd,rfl⟩⟩; (try first | exact ⟨rfl,_,World.drewN_drewN _ _ _⟩ | exact ⟨rfl,_,Eq.trans (World.drewN_drewN _ _ _) (congrArg (World.drewN _) (Nat.add_assoc _ _ _))⟩))); try go_wp2_with (first | (go_at_call 25; (with_reducible refine (zaj.calls k1 _ _ (zaK l0 x5_1) _ _ (zaK l1 x5_1) false _ ?side1 ?side2 ?side3 ?side4 A7.out).mono ?_); (case side1 => exact qe HR402_0.out); (case side2 => exact HC402_0.out); (case side3 => exact qe HR403_0.out); (case side4 => exact HC403_0.out); rintro e w' ⟨rfl,⟨nd,rfl⟩⟩; (try first | exact ⟨rfl,_,World.drewN_drewN _ _ _⟩ | exact ⟨rfl,_,Eq.trans (World.drewN_drewN _ _ _) (congrArg (World.drewN _) (Nat.add_assoc _ _ _))⟩))))
        go_ret
        exact ⟨by first | rfl | (simp; done) | (simp [*]; done),by repeat (first | exact zw.refl _ | apply zw.step)⟩
      ·rw [if_neg c6] at H
       exact absurd H qz
     ·rw [if_neg c5] at H
      exact absurd H qz
    ·rw [if_neg c4] at H
     have c4b0 : decide (x5_1 < (l0.length : Int)) = false := decide_eq_false c4
     clear c4
     obtain rfl := Option.some.inj H
     go_wp2
     repeat (go_quiet (fail); try go_wp2)
     go_ret
     exact ⟨by first | rfl | (simp; done) | (simp [*]; done),by repeat (first | exact zw.refl _ | apply zw.step)⟩
 ·rw [if_neg c3] at H
  have c3b0 : ((l0.length : Int) == (l1.length : Int)) = false := beq_eq_false_iff_ne.mpr c3
  have c3b1 : ((l0.length : Int) != (l1.length : Int)) = true := bne_iff_ne.mpr c3
  have c3b2 : (l0.length == l1.length) = false := by first | simpa using c3 | (simp at c3 ⊢; omega)
  obtain rfl := Option.some.inj H
  go_enter Try.func39,Try.ntmps39
  go_wp2
  repeat (go_quiet (fail); try go_wp2)
  go_ret
  exact ⟨by first | rfl | (simp; done) | (simp [*]; done),by repeat (first | exact zw.refl _ | apply zw.step)⟩
section
variable {α : Type} {P : Program}
open Go.Proofs.YtgmbbfmbimofoaaW.PrintWords
theorem zgx (d : Kd α) {W : World} (t ty e : TypeId) (z : Value) (bytes : Nat)
  (ht : P.underlying t = some (.slice e)) (hinfo : (P.info? e).map (fun i => (i.zero,i.size,i.bytes)) = some (some z,d.sz,bytes)) (hz : z.cells.size = d.sz) (hs0 : 0 < d.sz) (hb0 : 0 < bytes)
  (A : Option Addr) (xs : List α) (p : α) (cs : List Value) (hC : d.C W A xs.length xs) (hn : A = none → xs = []) (hp : d.K W p cs) (hKM : ∀ (w w' : World) (base : Nat) (ok : Nat → Prop) x c,d.K w x c → d.M w' base ok x c)
  (hl : (xs.length + 1) * bytes ≤ 140737488355328) :
  ∃ v1 w1,(Builtin.append_ #[t,t] ty #[.slice A xs.length xs.length, .slice (some ⟨W.heap.size,0,none⟩) 1 1]).run P (W.alloc (.cells cs.toArray e)) = .ok v1 w1 ∧ d.R e w1 W.heap.size (fun _ => True) v1 (xs ++ [p]) ∧ Below W.heap.size W w1 := by
 obtain ⟨i0,hi,hzz⟩ := Option.map_eq_some_iff.1 hinfo
 simp only [Prod.mk.injEq] at hzz
 obtain ⟨hz0,hz1,hz2⟩ := hzz
 have hlen : xs.length + 1 ≤ 140737488355328 := Nat.le_trans (Nat.le_mul_of_pos_right _ hb0) hl
 have hcl : cs.length = 1 * d.sz := by rw [d.K_len hp,Nat.one_mul]
 have hcells : ∀ j u,cs[j]? = some u → (W.alloc (.cells cs.toArray e)).cell? ((⟨W.heap.size,0,none⟩ : Addr).add j) = some u := by
  simpa using World.news_of_block (cs := cs.toArray) (t := e) (fr := (0,0)) (heap_alloc_new W (.cells cs.toArray e))
 have h63 : xs.length + 1 ≤ maxLen := by simp only [maxLen]; omega
 have hba : Below W.heap.size W (W.alloc (.cells cs.toArray e)) := ze (Below.refl _ _) _
 have fin : ∀ v1 w1 (inner : List Value),zan (fun x c => d.K W x c) d.sz xs inner → w1.ownsRow (W.alloc (.cells cs.toArray e)).heap.size e d.sz v1 (xs.length + 1) (inner ++ cs) → (W.alloc (.cells cs.toArray e)).grownBy w1 none → d.R e w1 W.heap.size (fun _ => True) v1 (xs ++ [p]) ∧ Below W.heap.size W w1 := by
  intro v1 w1 inner hr ho hg
  refine ⟨⟨fun _ _ => trivial,inner ++ cs,?_,?_⟩,?_⟩
  ·have := zgy ho (base' := W.heap.size) qz
   simpa using this
  ·exact (hr.zcD (fun x c h => hKM _ _ _ _ x c h)).snoc (hKM _ _ _ _ _ _ hp) (by rw [hcl,Nat.one_mul])
  ·exact hba.trans ⟨hg.os,hg.tape,hg.output,hg.size,fun k hk => hg.block k qM qz⟩
 cases A with
 | none =>
  obtain rfl := hn rfl
  obtain ⟨v1,w1,hrun,hown,hg,_,_⟩ := run_append_own_at (P := P) (W.alloc (.cells cs.toArray e)) (W.alloc (.cells cs.toArray e)).heap.size t ty e i0 z d.sz bytes ht hi hz0 hz1 hz2 hz hs0 (.slice none 0 0) 0 [] (World.ownsRow_nil _ _ e d.sz) ⟨W.heap.size,0,none⟩ 1 1 cs hcl hcells (d.K_one hp) (by simpa using h63) (by simpa using hl) (Nat.le_refl _)
  obtain ⟨f1,f2⟩ := fin v1 w1 [] (zan.none _ _) (by simpa using hown) hg
  exact ⟨v1,w1,hrun,f1,f2⟩
 | some b =>
  obtain ⟨inner,hr,hc⟩ := zbV.zhN (R := fun x c => d.K W x c) hC
  have hc' : ∀ j u,inner[j]? = some u → (W.alloc (.cells cs.toArray e)).cell? (b.add j) = some u := fun j u hj => by
   have := hc j u hj
   exact (hba.cell (World.block_lt_of_cell? W _ this)).trans this
  obtain ⟨v1,w1,hrun,hown,hg⟩ := run_append_arg_grows (P := P) (W.alloc (.cells cs.toArray e)) t ty e i0 z d.sz bytes ht hi hz0 hz1 hz2 hz hs0 b xs.length xs.length inner hr.1 hc' ⟨W.heap.size,0,none⟩ 1 1 cs hcl hcells qj h63 hl
  obtain ⟨f1,f2⟩ := fin v1 w1 inner hr hown hg
  exact ⟨v1,w1,hrun,f1,f2⟩
variable {ops : Array Oper} {rest : List Oper} {o : Oper} {a : Act} {Q : Exit → Act → World → Prop} {Kc : Act → World → Prop}
theorem zf7 (d : Kd α) {W : World} (hw : Region.wanted o (yielded ops a.tmps) = true) (s x : Operand) (t e : TypeId) (z : Value) (bytes : Nat)
  (ho : o.op = .call { callee := .builtin .append,args := #[s,x],argTypes := #[t,t] })
  (ht : P.underlying t = some (.slice e)) (hinfo : (P.info? e).map (fun i => (i.zero,i.size,i.bytes)) = some (some z,d.sz,bytes)) (hz : z.cells.size = d.sz) (hs0 : 0 < d.sz) (hb0 : 0 < bytes)
  (A : Option Addr) (xs : List α) (p : α) (cs : List Value) (hs : a.eval s = .slice A xs.length xs.length) (hx : a.eval x = .slice (some ⟨W.heap.size,0,none⟩) 1 1)
  (hC : d.C W A xs.length xs) (hn : A = none → xs = []) (hp : d.K W p cs) (hKM : ∀ (w w' : World) (base : Nat) (ok : Nat → Prop) x c,d.K w x c → d.M w' base ok x c)
  (hl : (xs.length + 1) * bytes ≤ 140737488355328)
  (h : ∀ v1 w1,d.R e w1 W.heap.size (fun _ => True) v1 (xs ++ [p]) → Below W.heap.size W w1 → Kc (a.put o.dst v1) w1) :
  if Region.wanted o (yielded ops a.tmps) = true then Oper.wp P o a (W.alloc (.cells cs.toArray e)) Kc Q else Kc (a.put o.dst undef) (W.alloc (.cells cs.toArray e)) := by
 obtain ⟨v1,w1,hr,h1,h2⟩ := zgx (P := P) d t o.type e z bytes ht hinfo hz hs0 hb0 A xs p cs hC hn hp hKM hl
 rw [if_pos hw]
 unfold Oper.wp execOp
 simp only [ho,resolve,invoke,builtin,Sem.run_bind,Sem.run_pure,Result.andThen_ok,List.map_toArray,List.map_cons,List.map_nil,hs,hx,hr]
 exact h v1 w1 h1 h2
theorem ziL {d : Kd α} {W : World} {A : Option Addr} {xs : List α} (h : d.C W A xs.length xs) : A = none → xs = [] := fun e => by
 cases xs with
 | nil => rfl
 | cons x xs =>
  obtain ⟨ad,e2,_⟩ := h.2.2 qz
  rw [e] at e2; cases e2
end
end Go.Proofs.Ytgmbbfmbimofoaa.P
