-- MERGED BY A PROGRAM out of texts of this claim: hand work, and what a (turned) print of the kit has written for it
import Derived.ArgAppend
import Derived.Maps.AppendAt
import Derived.Deep.AppendLies
import Derived.Test.YtgmbbfmbimofoaaMk5
namespace Go.Proofs.Ytgmbbfmbimofoaa.P
open Go.RowKit Go.Proofs.YtgmbbfmbimofoaaW.PrintWords Go.Proofs.YtgmbbfmbimofoaaW.PrintLast Go.Proofs.YtgmbbfmbimofoaaW.PrintMore
attribute [local go_sem] zH zI zP zO zC zB zJ zK
set_option linter.unusedVariables false
set_option linter.unusedSimpArgs false
def zbO.f  : Option ((List (List ByteArray))) := some (([(([(⟨#[97,110,110,97]⟩ : ByteArray),(⟨#[98,101,110]⟩ : ByteArray)] : List ByteArray)),(([(⟨#[97,110,110,97]⟩ : ByteArray),(⟨#[99,121,100]⟩ : ByteArray)] : List ByteArray))] : List (List ByteArray)))
set_option maxHeartbeats 8000000 in
set_option maxRecDepth 100000 in
theorem zbO.calls  (r : List (List ByteArray)) (w : World) (h : zbO.f  = some r) :
  Calls Try.prog 63 #[] w fun e w' => ∃ v0_ : Value,e = .returned (v0_) ∧ Kd.N (Kd.slice 9 Kd.string) 22 w' w.heap.size (fun k_ => (w.heap.size ≤ k_)) v0_ r ∧ Below w.heap.size w w' := by
 have HB := za.mk (Below.refl w.heap.size w)
 have H : (some (([(([(⟨#[97,110,110,97]⟩ : ByteArray),(⟨#[98,101,110]⟩ : ByteArray)] : List ByteArray)),(([(⟨#[97,110,110,97]⟩ : ByteArray),(⟨#[99,121,100]⟩ : ByteArray)] : List ByteArray))] : List (List ByteArray)))) = some r := h
 clear h
 obtain ⟨y178,hy178⟩ : ∃ y_ : List ByteArray,y_ = (([(⟨#[97,110,110,97]⟩ : ByteArray),(⟨#[98,101,110]⟩ : ByteArray)] : List ByteArray)) := ⟨_,rfl⟩
 replace H : (some (([y178,(([(⟨#[97,110,110,97]⟩ : ByteArray),(⟨#[99,121,100]⟩ : ByteArray)] : List ByteArray))] : List (List ByteArray)))) = some r := by first | (rw [hy178]; with_reducible exact H) | (have H2_ := (Option.bind_some _ _).symm.trans H; rw [hy178]; with_reducible exact H2_) | (have H2_ := (Option.bind_some _ _).symm.trans H; with_reducible exact H2_) | with_reducible exact H | (rw [hy178]; exact H) | exact H
 have Ny178 := za.mk hy178
 clear hy178
 obtain ⟨y181,hy181⟩ : ∃ y_ : List ByteArray,y_ = (([(⟨#[97,110,110,97]⟩ : ByteArray),(⟨#[99,121,100]⟩ : ByteArray)] : List ByteArray)) := ⟨_,rfl⟩
 replace H : (some (([y178,y181] : List (List ByteArray)))) = some r := by first | (rw [hy181]; with_reducible exact H) | (have H2_ := (Option.bind_some _ _).symm.trans H; rw [hy181]; with_reducible exact H2_) | (have H2_ := (Option.bind_some _ _).symm.trans H; with_reducible exact H2_) | with_reducible exact H | (rw [hy181]; exact H) | exact H
 have Ny181 := za.mk hy181
 clear hy181
 obtain ⟨y184,hy184⟩ : ∃ y_ : List (List ByteArray),y_ = (([y178,y181] : List (List ByteArray))) := ⟨_,rfl⟩
 replace H : (some y184) = some r := by first | (rw [hy184]; with_reducible exact H) | (have H2_ := (Option.bind_some _ _).symm.trans H; rw [hy184]; with_reducible exact H2_) | (have H2_ := (Option.bind_some _ _).symm.trans H; with_reducible exact H2_) | with_reducible exact H | (rw [hy184]; exact H) | exact H
 have Ny184 := za.mk hy184
 clear hy184
 obtain rfl := Option.some.inj H
 go_enter Try.func63,Try.ntmps63
 go_wp2_with (first | ((with_reducible refine zaa (N := 1) rfl ?_); refine Kd.zdq Kd.string _ 9 ?hg (N := 1) ?hd (xs := ([(⟨#[97,110,110,97]⟩ : ByteArray),(⟨#[98,101,110]⟩ : ByteArray)] : List ByteArray)) (inner := [.string (⟨#[97,110,110,97]⟩ : ByteArray), .string (⟨#[98,101,110]⟩ : ByteArray)]) (ok := fun _ => True) (okp := fun _ => True) ?hr ?hp (fun _ hk => hk) trivial (Below.refl _ _) (Nat.le_refl _) qC ?_; (case hd => rfl); (case hg => rfl); (case hr => exact qk); (case hp => exact (zX.one (show Kd.M Kd.string _ _ _ (⟨#[97,110,110,97]⟩ : ByteArray) [.string (⟨#[97,110,110,97]⟩ : ByteArray)] from rfl) (zX.one (show Kd.M Kd.string _ _ _ (⟨#[98,101,110]⟩ : ByteArray) [.string (⟨#[98,101,110]⟩ : ByteArray)] from rfl) (zX.none _ _)))); intro v179 w1 ho2 hb hg_ hnew_; clear hg_ hnew_; (first | rw [← Ny178.out] at ho2 | (simp only [Int.reduceToNat] at ho2; rw [← Ny178.out] at ho2)); have n0_ := za.mk (Kd.zaO (Kd.zhj (M := fun k_ => (w.heap.size ≤ k_)) ho2 (zy (qc HB.out)) (fun k_ h_ => h_)) (zy (qc HB.out))); have n1_ := za.mk (zo (qc HB.out) hb); clear HB; have HO180 := n0_; have HB := n1_; clear n0_ n1_; clear hb ho2) | ((with_reducible refine zaa (N := 2) rfl ?_); refine Kd.zdq Kd.string _ 9 ?hg (N := 2) ?hd (xs := ([(⟨#[97,110,110,97]⟩ : ByteArray),(⟨#[99,121,100]⟩ : ByteArray)] : List ByteArray)) (inner := [.string (⟨#[97,110,110,97]⟩ : ByteArray), .string (⟨#[99,121,100]⟩ : ByteArray)]) (ok := fun _ => True) (okp := fun _ => True) ?hr ?hp (fun _ hk => hk) trivial (Below.refl _ _) (Nat.le_refl _) qC ?_; (case hd => rfl); (case hg => rfl); (case hr => exact qk); (case hp => exact (zX.one (show Kd.M Kd.string _ _ _ (⟨#[97,110,110,97]⟩ : ByteArray) [.string (⟨#[97,110,110,97]⟩ : ByteArray)] from rfl) (zX.one (show Kd.M Kd.string _ _ _ (⟨#[99,121,100]⟩ : ByteArray) [.string (⟨#[99,121,100]⟩ : ByteArray)] from rfl) (zX.none _ _)))); intro v182 w3 ho4 hb hg_ hnew_; clear hg_ hnew_; (first | rw [← Ny181.out] at ho4 | (simp only [Int.reduceToNat] at ho4; rw [← Ny181.out] at ho4)); have n0_ := za.mk (Kd.zhS (qp HO180.out) (Kd.ziW ho4) hb); have n1_ := za.mk (Kd.zaO (Kd.zjc (Kd.zhj (M := fun k_ => (w.heap.size ≤ k_)) ho4 (zy (qc HB.out)) (fun k_ h_ => h_)) (Kd.zjs (qp HO180.out))) (zy (qc HB.out))); have n2_ := za.mk (zo (qc HB.out) hb); clear HO180; clear HB; have HO180 := n0_; have HO183 := n1_; have HB := n2_; clear n0_ n1_ n2_; clear hb ho4; obtain ⟨Ao5,co5,eo5⟩ := Kd.zbc HO180.out; subst eo5; obtain ⟨Ao6,co6,eo6⟩ := Kd.zbc HO183.out; subst eo6) | ((with_reducible refine zaa (N := 3) rfl ?_); refine Kd.zjk (Kd.slice 9 Kd.string) _ 22 ?hg (N' := 3) ?hd (xs := ([y178,y181] : List (List ByteArray))) (inner := [.slice Ao5 y178.length co5, .slice Ao6 y181.length co6]) (ok := (fun k_ => (w.heap.size ≤ k_))) (okp := (fun k_ => (w.heap.size ≤ k_))) ?hr ?hp (fun _ hk => hk) ((show ∀ k_,w3.heap.size ≤ k_ → (fun k_ => (w.heap.size ≤ k_)) k_ from fun k_ hk => (Nat.le_trans (zy (qc HB.out)) hk)) _ (Nat.le_refl _)) (Below.refl _ _) (Nat.le_refl _) qC ?_; (case hd => rfl); (case hg => rfl); (case hr => exact qk); (case hp => exact (zX.one (show Kd.FK (Kd.slice 9 Kd.string) _ _ y178 [.slice Ao5 y178.length co5] from (Kd.zeT (Kd.zbd (Kd.zaB (ok' := (fun k_ => (w.heap.size ≤ k_))) (HO180.out) (fun k_ hk => hk.1.1))).2.1 (Kd.R_F (Kd.zaB (ok' := (fun k_ => (w.heap.size ≤ k_))) (HO180.out) (fun k_ hk => hk.1.1))))) (zX.one (show Kd.FK (Kd.slice 9 Kd.string) _ _ y181 [.slice Ao6 y181.length co6] from (Kd.zeT (Kd.zbd (Kd.zaB (ok' := (fun k_ => (w.heap.size ≤ k_))) (HO183.out) (fun k_ hk => hk.1.1))).2.1 (Kd.R_F (Kd.zaB (ok' := (fun k_ => (w.heap.size ≤ k_))) (HO183.out) (fun k_ hk => hk.1.1))))) (zX.none _ _)))); intro v185 w7 ho8 hb hg_ hnew_; clear hg_ hnew_; (first | rw [← Ny184.out] at ho8 | (simp only [Int.reduceToNat] at ho8; rw [← Ny184.out] at ho8)); have n0_ := za.mk (Kd.ziG ho8 (zy (qc HB.out))); have n1_ := za.mk (zo (qc HB.out) hb); clear HB; clear HO180; clear HO183; have HO186 := n0_; have HB := n1_; clear n0_ n1_; clear hb ho8))
 go_ret
 exact ⟨_,by first | rfl | (simp [zw,zx] <;> rfl) | (simp [*,zw,zx] <;> rfl),by (with_reducible repeat (first | apply Kd.ziK | apply Kd.ziM | apply Kd.zja)); exact HO186.out,by repeat (first | (with_reducible first | exact HB.out | apply ze | apply zb | apply zg) | exact HB.out)⟩
def zaz.l0 : Nat → List Int → List Int → Int → Option (Bool)
 | 0,_,_,_ => none
 | k + 1,x0,x1,x5 => if x5 < (x0.length : Int) then (if 0 ≤ x5 then (if x5 < (x1.length : Int) then (if (rd x0 x5) = (rd x1 x5) then (zaz.l0 k x0 x1 (wrap64 (x5 + 1))) else (some false)) else (none)) else (none)) else (some true)
def zaz.f (k : Nat) (l0 : List Int) (l1 : List Int) : Option (Bool) := if (l0.length : Int) = (l1.length : Int) then (zaz.l0 k l0 l1 0) else (some false)
set_option maxHeartbeats 8000000 in
set_option maxRecDepth 100000 in
theorem zaz.calls (k : Nat) (A0 : Option Addr) (c0 : Nat) (l0 : List Int) (A1 : Option Addr) (c1 : Nat) (l1 : List Int) (r : Bool) (w : World) (hr0 : Kd.C (Kd.int .i64) w A0 l0.length l0) (hc0 : l0.length ≤ c0) (hr1 : Kd.C (Kd.int .i64) w A1 l1.length l1) (hc1 : l1.length ≤ c1) (h : zaz.f k l0 l1 = some r) :
  Calls Try.prog 31 #[.slice A0 l0.length c0, .slice A1 l1.length c1] w fun e w' => e = .returned (.bool r) ∧ zz w w' := by
 have HR0 := za.mk hr0
 have HC0 := za.mk hc0
 clear hr0 hc0
 have HR1 := za.mk hr1
 have HC1 := za.mk hc1
 clear hr1 hc1
 have H : (if (l0.length : Int) = (l1.length : Int) then (zaz.l0 k l0 l1 0) else (some false)) = some r := h
 clear h
 by_cases c3 : (l0.length : Int) = (l1.length : Int)
 ·rw [if_pos c3] at H
  have c3b0 : ((l0.length : Int) == (l1.length : Int)) = true := beq_iff_eq.mpr c3
  have c3b1 : ((l0.length : Int) != (l1.length : Int)) = false := bne_eq_false_iff_eq.mpr c3
  have c3b2 : (l0.length == l1.length) = true := by first | simpa using c3 | (simp at c3 ⊢; omega)
  clear c3
  have H' := za.mk H
  clear H
  go_enter Try.func31,Try.ntmps31
  go_wp2
  repeat (go_quiet (fail); try go_wp2)
  go_loopg [5] k (fun kq v5 w' => ∃ (x5_1 : Int),v5 = .int .i64 x5_1 ∧ za (zaz.l0 kq l0 l1 x5_1 = some r) ∧ za (kq ≤ k) ∧ zz w w')
  case atStart => exact ⟨(0),qm,H',⟨Nat.le_refl _⟩,by repeat (first | exact zz.refl _ | apply zz.step)⟩
  case round =>
   clear H'
   try clear c1
   try clear p2
   try clear c3
   try clear c3b0
   try clear c3b1
   try clear c3b2
   obtain ⟨x5_1,rfl,HA,HK1,⟨m1,rfl⟩⟩ := hrel
   cases gk with
   | zero => exact absurd HA.out (by simp [zaz.l0])
   | succ k1 =>
    have H := HA.out
    clear HA
    simp only [zaz.l0] at H
    by_cases c4 : x5_1 < (l0.length : Int)
    ·rw [if_pos c4] at H
     have c4b0 : decide (x5_1 < (l0.length : Int)) = true := decide_eq_true c4
     clear c4
     by_cases c5 : 0 ≤ x5_1
     ·rw [if_pos c5] at H
      have c5b0 : decide (0 ≤ x5_1) = true := decide_eq_true c5
      clear c5
      by_cases c6 : x5_1 < (l1.length : Int)
      ·rw [if_pos c6] at H
       have c6b0 : decide (x5_1 < (l1.length : Int)) = true := decide_eq_true c6
       clear c6
       by_cases c7 : (rd l0 x5_1) = (rd l1 x5_1)
       ·rw [if_pos c7] at H
        have c7b0 : ((rd l0 x5_1) == (rd l1 x5_1)) = true := beq_iff_eq.mpr c7
        have c7b1 : ((rd l0 x5_1) != (rd l1 x5_1)) = false := bne_eq_false_iff_eq.mpr c7
        clear c7
        have H' := za.mk H
        clear H
        have p124 : 0 ≤ (x5_1 : Int) := of_decide_eq_true qd
        have q124 : x5_1 < (l0.length : Int) := of_decide_eq_true qd
        obtain ⟨ad124,e124,hx124_0⟩ := Kd.zch HR0.out x5_1 p124 q124
        cases e124
        replace p124 := eq_true p124
        replace q124 := eq_true q124
        have p125 : 0 ≤ (x5_1 : Int) := of_decide_eq_true qd
        have q125 : x5_1 < (l1.length : Int) := of_decide_eq_true qd
        obtain ⟨ad125,e125,hx125_0⟩ := Kd.zch HR1.out x5_1 p125 q125
        cases e125
        replace p125 := eq_true p125
        replace q125 := eq_true q125
        go_wp2
        repeat (go_quiet (fail); try go_wp2)
        go_roundg k1
        case measure => have := HK1.out; omega
        case rel => exact ⟨(wrap64 (x5_1 + 1)),qm,H',⟨by have := HK1.out; omega⟩,by repeat (first | exact zz.refl _ | apply zz.step)⟩
       ·rw [if_neg c7] at H
        have c7b0 : ((rd l0 x5_1) == (rd l1 x5_1)) = false := beq_eq_false_iff_ne.mpr c7
        have c7b1 : ((rd l0 x5_1) != (rd l1 x5_1)) = true := bne_iff_ne.mpr c7
        obtain rfl := Option.some.inj H
        have p124 : 0 ≤ (x5_1 : Int) := of_decide_eq_true qd
        have q124 : x5_1 < (l0.length : Int) := of_decide_eq_true qd
        obtain ⟨ad124,e124,hx124_0⟩ := Kd.zch HR0.out x5_1 p124 q124
        cases e124
        replace p124 := eq_true p124
        replace q124 := eq_true q124
        have p125 : 0 ≤ (x5_1 : Int) := of_decide_eq_true qd
        have q125 : x5_1 < (l1.length : Int) := of_decide_eq_true qd
        obtain ⟨ad125,e125,hx125_0⟩ := Kd.zch HR1.out x5_1 p125 q125
        cases e125
        replace p125 := eq_true p125
        replace q125 := eq_true q125
        go_wp2
        repeat (go_quiet (fail); try go_wp2)
        go_ret
        exact ⟨by first | rfl | (simp; done) | (simp [*]; done),by repeat (first | exact zz.refl _ | apply zz.step)⟩
      ·rw [if_neg c6] at H
       exact absurd H qC
     ·rw [if_neg c5] at H
      exact absurd H qC
    ·rw [if_neg c4] at H
     have c4b0 : decide (x5_1 < (l0.length : Int)) = false := decide_eq_false c4
     clear c4
     obtain rfl := Option.some.inj H
     go_wp2
     repeat (go_quiet (fail); try go_wp2)
     go_ret
     exact ⟨by first | rfl | (simp; done) | (simp [*]; done),by repeat (first | exact zz.refl _ | apply zz.step)⟩
 ·rw [if_neg c3] at H
  have c3b0 : ((l0.length : Int) == (l1.length : Int)) = false := beq_eq_false_iff_ne.mpr c3
  have c3b1 : ((l0.length : Int) != (l1.length : Int)) = true := bne_iff_ne.mpr c3
  have c3b2 : (l0.length == l1.length) = false := by first | simpa using c3 | (simp at c3 ⊢; omega)
  obtain rfl := Option.some.inj H
  go_enter Try.func31,Try.ntmps31
  go_wp2
  repeat (go_quiet (fail); try go_wp2)
  go_ret
  exact ⟨by first | rfl | (simp; done) | (simp [*]; done),by repeat (first | exact zz.refl _ | apply zz.step)⟩
def zai.l0 : Nat → List Int → Int → Int → Int → Option (Int)
 | 0,_,_,_,_ => none
 | k + 1,x0,x1,x7,x8 => if x8 < x7 then (if 0 ≤ x8 then (if x8 < (x0.length : Int) then (if x1 = (rd x0 x8) then (some x8) else (zai.l0 k x0 x1 x7 (wrap64 (x8 + 1)))) else (none)) else (none)) else (some (-1))
def zai.f (k : Nat) (l0 : List Int) (a1 : Int) : Option (Int) := zai.l0 k l0 a1 (l0.length : Int) 0
set_option maxHeartbeats 8000000 in
set_option maxRecDepth 100000 in
theorem zai.calls (k : Nat) (A0 : Option Addr) (c0 : Nat) (l0 : List Int) (a1 : Int) (r : Int) (w : World) (hr0 : Kd.C (Kd.int .i64) w A0 l0.length l0) (hc0 : l0.length ≤ c0) (h : zai.f k l0 a1 = some r) :
  Calls Try.prog 121 #[.slice A0 l0.length c0, .int .i64 a1] w fun e w' => e = .returned (.int .i64 r) ∧ zz w w' := by
 have HR0 := za.mk hr0
 have HC0 := za.mk hc0
 clear hr0 hc0
 have H : (zai.l0 k l0 a1 (l0.length : Int) 0) = some r := h
 clear h
 have H' := za.mk H
 clear H
 go_enter Try.func121,Try.ntmps121
 go_wp2
 go_loopg [8] k (fun kq v8 w' => ∃ (x8_1 : Int),v8 = .int .i64 x8_1 ∧ za (zai.l0 kq l0 a1 (l0.length : Int) x8_1 = some r) ∧ za (kq ≤ k) ∧ zz w w')
 case atStart => exact ⟨(0),qm,H',⟨Nat.le_refl _⟩,by repeat (first | exact zz.refl _ | apply zz.step)⟩
 case round =>
  clear H'
  try clear c1
  try clear p2
  obtain ⟨x8_1,rfl,HA,HK1,⟨m1,rfl⟩⟩ := hrel
  cases gk with
  | zero => exact absurd HA.out (by simp [zai.l0])
  | succ k1 =>
   have H := HA.out
   clear HA
   simp only [zai.l0] at H
   by_cases c3 : x8_1 < (l0.length : Int)
   ·rw [if_pos c3] at H
    have c3b0 : decide (x8_1 < (l0.length : Int)) = true := decide_eq_true c3
    clear c3
    by_cases c4 : 0 ≤ x8_1
    ·rw [if_pos c4] at H
     have c4b0 : decide (0 ≤ x8_1) = true := decide_eq_true c4
     clear c4
     by_cases c5 : x8_1 < (l0.length : Int)
     ·rw [if_pos c5] at H
      have c5b0 : decide (x8_1 < (l0.length : Int)) = true := decide_eq_true c5
      clear c5
      by_cases c6 : a1 = (rd l0 x8_1)
      ·rw [if_pos c6] at H
       have c6b0 : (a1 == (rd l0 x8_1)) = true := beq_iff_eq.mpr c6
       have c6b1 : (a1 != (rd l0 x8_1)) = false := bne_eq_false_iff_eq.mpr c6
       clear c6
       obtain rfl := Option.some.inj H
       have p125 : 0 ≤ (x8_1 : Int) := of_decide_eq_true qd
       have q125 : x8_1 < (l0.length : Int) := of_decide_eq_true qd
       obtain ⟨ad125,e125,hx125_0⟩ := Kd.zch HR0.out x8_1 p125 q125
       cases e125
       replace p125 := eq_true p125
       replace q125 := eq_true q125
       go_wp2
       go_ret
       exact ⟨by first | rfl | (simp; done) | (simp [*]; done),by repeat (first | exact zz.refl _ | apply zz.step)⟩
      ·rw [if_neg c6] at H
       have c6b0 : (a1 == (rd l0 x8_1)) = false := beq_eq_false_iff_ne.mpr c6
       have c6b1 : (a1 != (rd l0 x8_1)) = true := bne_iff_ne.mpr c6
       have H' := za.mk H
       clear H
       have p125 : 0 ≤ (x8_1 : Int) := of_decide_eq_true qd
       have q125 : x8_1 < (l0.length : Int) := of_decide_eq_true qd
       obtain ⟨ad125,e125,hx125_0⟩ := Kd.zch HR0.out x8_1 p125 q125
       cases e125
       replace p125 := eq_true p125
       replace q125 := eq_true q125
       go_wp2
       go_roundg k1
       case measure => have := HK1.out; omega
       case rel => exact ⟨(wrap64 (x8_1 + 1)),qm,H',⟨by have := HK1.out; omega⟩,by repeat (first | exact zz.refl _ | apply zz.step)⟩
     ·rw [if_neg c5] at H
      exact absurd H qC
    ·rw [if_neg c4] at H
     exact absurd H qC
   ·rw [if_neg c3] at H
    have c3b0 : decide (x8_1 < (l0.length : Int)) = false := decide_eq_false c3
    clear c3
    obtain rfl := Option.some.inj H
    go_wp2
    go_ret
    exact ⟨by first | rfl | (simp; done) | (simp [*]; done),by repeat (first | exact zz.refl _ | apply zz.step)⟩
def za9.f (k : Nat) (l0 : List Int) (a1 : Int) : Option (Bool) := (zai.f k l0 a1).bind fun t126 => (some (decide (t126 ≥ 0)))
set_option maxHeartbeats 8000000 in
set_option maxRecDepth 100000 in
theorem za9.calls (k : Nat) (A0 : Option Addr) (c0 : Nat) (l0 : List Int) (a1 : Int) (r : Bool) (w : World) (hr0 : Kd.C (Kd.int .i64) w A0 l0.length l0) (hc0 : l0.length ≤ c0) (h : za9.f k l0 a1 = some r) :
  Calls Try.prog 101 #[.slice A0 l0.length c0, .int .i64 a1] w fun e w' => e = .returned (.bool r) ∧ zz w w' := by
 have HR0 := za.mk hr0
 have HC0 := za.mk hc0
 clear hr0 hc0
 have H : ((zai.f k l0 a1).bind fun t126 => (some (decide (t126 ≥ 0)))) = some r := h
 clear h
 replace H := Option.bind_eq_some_iff.mp H
 obtain ⟨t126,A30,H⟩ := H
 replace H : (some (decide (t126 ≥ 0))) = some r := H
 have A3 := za.mk A30
 clear A30
 obtain rfl := Option.some.inj H
 go_enter Try.func101,Try.ntmps101
 go_wp2_with (first | ((with_reducible refine zA (f := 121) rfl ?_); refine zW (some 7) rfl rfl Try.func121 qg rfl #[.slice A0 l0.length c0, .int .i64 a1] rfl qb ?_; (with_reducible refine (zai.calls k _ _ l0 a1 t126 _ ?side1 ?side2 A3.out).mono ?_); (case side1 => exact qe HR0.out); (case side2 => exact HC0.out); rintro e w' ⟨rfl,⟨nd,rfl⟩⟩; refine ⟨_,rfl,?_⟩))
 go_ret
 exact ⟨by first | rfl | (simp; done) | (simp [*]; done),by repeat (first | exact zz.refl _ | apply zz.step)⟩
end Go.Proofs.Ytgmbbfmbimofoaa.P
namespace Go.Proofs.Ytgmbbfmbimofoaa.P
open Go.RowKit Go.Proofs.YtgmbbfmbimofoaaW.PrintWords Go.Proofs.YtgmbbfmbimofoaaW.PrintLast Go.Proofs.YtgmbbfmbimofoaaW.PrintMore
attribute [local go_sem] zH zI zP zO zC zB zJ zK
set_option linter.unusedVariables false
set_option linter.unusedSimpArgs false
attribute [local go_sem high] zff
def zF.l0 : Nat → List (S63) → List (S63) → Int → Option (Bool)
 | 0,_,_,_ => none
 | k + 1,x0,x1,x5 => if x5 < (x0.length : Int) then (if 0 ≤ x5 then (if x5 < (x1.length : Int) then (if (!(((zk x0 x5).f0) == ((zk x1 x5).f0)) || (!(((zk x0 x5).f1) == ((zk x1 x5).f1)) || (!((((zk x0 x5).f2).toList) == (((zk x1 x5).f2).toList))))) = true then ((zbf.f ((zk x0 x5).f0) ((zk x0 x5).f1) ((zk x0 x5).f2) ((zk x1 x5).f0) ((zk x1 x5).f1) ((zk x1 x5).f2)).bind fun t229 => (some t229)) else (zF.l0 k x0 x1 (wrap64 (x5 + 1)))) else (none)) else (none)) else (some false)
def zF.f (k : Nat) (l0 : List (S63)) (l1 : List (S63)) : Option (Bool) := (zN.f k l0).bind fun t221 => ((zN.f k l1).bind fun t222 => (if t221 = t222 then (if (l0.length : Int) = (l1.length : Int) then (zF.l0 k l0 l1 0) else (some (decide ((l0.length : Int) < (l1.length : Int))))) else ((zN.f k l0).bind fun t223 => ((zN.f k l1).bind fun t224 => (some (decide (t223 < t224)))))))
def zF.T8 : Bool × List (List Nat × List Nat) := (true,[([],[]),([],[]),([0,1],[0,1]),([2],[2]),([],[]),([],[]),([4,5],[4,5]),([6],[6]),([3,7],[3,7])])
def zF.B8 : List Nat := [0,0,3,7,0,0,48,112,255]
theorem zF.zjd : zbD .any (opsOf Try.f84 8) = zF.T8 := by kernel_rfl
theorem zF.ziv : zcD zF.T8.2 zF.B8 = true := by kernel_rfl
def zF.T9 : Bool × List (List Nat × List Nat) := (true,[([],[]),([],[]),([0,1],[0,1]),([2],[2]),([],[]),([],[]),([4,5],[4,5]),([6],[6]),([3,7],[3,7]),([8,8,0,1,2,3,4,5,6,7,8],[8])])
def zF.B9 : List Nat := [0,0,3,7,0,0,48,112,255,511]
theorem zF.zjn : zbD .any (opsOf Try.f84 9) = zF.T9 := by kernel_rfl
theorem zF.zjm : zcD zF.T9.2 zF.B9 = true := by kernel_rfl
set_option maxHeartbeats 8000000 in
set_option maxRecDepth 100000 in
theorem zF.calls (k : Nat) (A0 : Option Addr) (c0 : Nat) (l0 : List (S63)) (A1 : Option Addr) (c1 : Nat) (l1 : List (S63)) (r : Bool) (w : World) (hr0 : Kd.C k63 w A0 l0.length l0) (hc0 : l0.length ≤ c0) (hr1 : Kd.C k63 w A1 l1.length l1) (hc1 : l1.length ≤ c1) (h : zF.f k l0 l1 = some r) :
  Calls Try.prog 84 #[.slice A0 l0.length c0, .slice A1 l1.length c1] w fun e w' => e = .returned (.bool r) ∧ Below w.heap.size w w' := by
 have hu63 := Try.underlying63
 have HR0 := za.mk hr0
 have HC0 := za.mk hc0
 clear hr0 hc0
 have HR1 := za.mk hr1
 have HC1 := za.mk hc1
 clear hr1 hc1
 have HB := za.mk (Below.refl w.heap.size w)
 have H : ((zN.f k l0).bind fun t221 => ((zN.f k l1).bind fun t222 => (if t221 = t222 then (if (l0.length : Int) = (l1.length : Int) then (zF.l0 k l0 l1 0) else (some (decide ((l0.length : Int) < (l1.length : Int))))) else ((zN.f k l0).bind fun t223 => ((zN.f k l1).bind fun t224 => (some (decide (t223 < t224)))))))) = some r := h
 clear h
 replace H := Option.bind_eq_some_iff.mp H
 obtain ⟨t221,A30,H⟩ := H
 replace H : ((zN.f k l1).bind fun t222 => (if t221 = t222 then (if (l0.length : Int) = (l1.length : Int) then (zF.l0 k l0 l1 0) else (some (decide ((l0.length : Int) < (l1.length : Int))))) else ((zN.f k l0).bind fun t223 => ((zN.f k l1).bind fun t224 => (some (decide (t223 < t224))))))) = some r := H
 have A3 := za.mk A30
 clear A30
 replace H := Option.bind_eq_some_iff.mp H
 obtain ⟨t222,A40,H⟩ := H
 replace H : (if t221 = t222 then (if (l0.length : Int) = (l1.length : Int) then (zF.l0 k l0 l1 0) else (some (decide ((l0.length : Int) < (l1.length : Int))))) else ((zN.f k l0).bind fun t223 => ((zN.f k l1).bind fun t224 => (some (decide (t223 < t224)))))) = some r := H
 have A4 := za.mk A40
 clear A40
 by_cases c5 : t221 = t222
 ·rw [if_pos c5] at H
  have c5b0 : (t221 == t222) = true := beq_iff_eq.mpr c5
  have c5b1 : (t221 != t222) = false := bne_eq_false_iff_eq.mpr c5
  clear c5
  by_cases c6 : (l0.length : Int) = (l1.length : Int)
  ·rw [if_pos c6] at H
   have c6b0 : ((l0.length : Int) == (l1.length : Int)) = true := beq_iff_eq.mpr c6
   have c6b1 : ((l0.length : Int) != (l1.length : Int)) = false := bne_eq_false_iff_eq.mpr c6
   have c6b2 : (l0.length == l1.length) = true := by first | simpa using c6 | (simp at c6 ⊢; omega)
   clear c6
   have H' := za.mk H
   clear H
   go_enter Try.func84,Try.ntmps84
   go_wp2_with (first | ((with_reducible refine zA (f := 81) rfl ?_); refine zW (some 7) rfl rfl Try.func81 qg rfl #[.slice A0 l0.length c0] rfl qb ?_; (with_reducible refine (zN.calls k _ _ l0 t221 _ ?side1 ?side2 A3.out).mono ?_); (case side1 => exact qe HR0.out); (case side2 => exact HC0.out); rintro e w' ⟨rfl,⟨nd,rfl⟩⟩; refine ⟨_,rfl,?_⟩) | ((with_reducible refine zA (f := 81) rfl ?_); refine zW (some 9) rfl rfl Try.func81 qg rfl #[.slice A1 l1.length c1] rfl qb ?_; (with_reducible refine (zN.calls k _ _ l1 t222 _ ?side1 ?side2 A4.out).mono ?_); (case side1 => exact qe HR1.out); (case side2 => exact HC1.out); rintro e w' ⟨rfl,⟨nd,rfl⟩⟩; refine ⟨_,rfl,?_⟩))
   go_loopg [5] k (fun kq v5 w' => ∃ (x5_1 : Int),v5 = .int .i64 x5_1 ∧ za (zF.l0 kq l0 l1 x5_1 = some r) ∧ za (kq ≤ k) ∧ za (Below w.heap.size w w'))
   case atStart => exact ⟨(0),qm,H',⟨Nat.le_refl _⟩,⟨by repeat (first | (with_reducible first | exact HB.out | apply ze | apply zb | apply zg) | exact HB.out)⟩⟩
   case round =>
    clear H'
    try clear c1
    try clear p2
    try clear c5
    try clear c5b0
    try clear c5b1
    try clear c6
    try clear c6b0
    try clear c6b1
    try clear c6b2
    obtain ⟨x5_1,rfl,HA,HK1,HB⟩ := hrel
    cases gk with
    | zero => exact absurd HA.out (by simp [zF.l0])
    | succ k1 =>
     have H := HA.out
     clear HA
     simp only [zF.l0] at H
     by_cases c7 : x5_1 < (l0.length : Int)
     ·rw [if_pos c7] at H
      have c7b0 : decide (x5_1 < (l0.length : Int)) = true := decide_eq_true c7
      clear c7
      by_cases c8 : 0 ≤ x5_1
      ·rw [if_pos c8] at H
       have c8b0 : decide (0 ≤ x5_1) = true := decide_eq_true c8
       clear c8
       by_cases c9 : x5_1 < (l1.length : Int)
       ·rw [if_pos c9] at H
        have c9b0 : decide (x5_1 < (l1.length : Int)) = true := decide_eq_true c9
        clear c9
        by_cases c10 : (!(((zk l0 x5_1).f0) == ((zk l1 x5_1).f0)) || (!(((zk l0 x5_1).f1) == ((zk l1 x5_1).f1)) || (!((((zk l0 x5_1).f2).toList) == (((zk l1 x5_1).f2).toList))))) = true
        ·rw [if_pos c10] at H
         have c10b0 : (!(((zk l0 x5_1).f0) == ((zk l1 x5_1).f0)) || (!(((zk l0 x5_1).f1) == ((zk l1 x5_1).f1)) || (!((((zk l0 x5_1).f2).toList) == (((zk l1 x5_1).f2).toList))))) = true := c10
         clear c10
         replace H := Option.bind_eq_some_iff.mp H
         obtain ⟨t229,A110,H⟩ := H
         replace H : (some t229) = some r := H
         have A11 := za.mk A110
         clear A110
         obtain rfl := Option.some.inj H
         try go_wp2
         have n0_ := za.mk (zg HB.out)
         clear HB
         have HB := n0_
         clear n0_
         have p225 : 0 ≤ (x5_1 : Int) := of_decide_eq_true qd
         have q225 : x5_1 < (l0.length : Int) := of_decide_eq_true qd
         obtain ⟨ad225,e225,hx225_0,hx225_1,hx225_2⟩ := zbb HR0.out x5_1 p225 q225
         have hw225_2 := hx225_2
         have hw225_1 := hx225_1
         have hw225_0 := hx225_0
         cases e225
         replace hx225_0 := (HB.out.cell (World.block_lt_of_cell? w _ hx225_0)).trans hx225_0
         replace hx225_1 := (HB.out.cell (World.block_lt_of_cell? w _ hx225_1)).trans hx225_1
         replace hx225_2 := (HB.out.cell (World.block_lt_of_cell? w _ hx225_2)).trans hx225_2
         replace p225 := eq_true p225
         replace q225 := eq_true q225
         have p226 : 0 ≤ (x5_1 : Int) := of_decide_eq_true qd
         have q226 : x5_1 < (l1.length : Int) := of_decide_eq_true qd
         obtain ⟨ad226,e226,hx226_0,hx226_1,hx226_2⟩ := zbb HR1.out x5_1 p226 q226
         have hw226_2 := hx226_2
         have hw226_1 := hx226_1
         have hw226_0 := hx226_0
         cases e226
         replace hx226_0 := (HB.out.cell (World.block_lt_of_cell? w _ hx226_0)).trans hx226_0
         replace hx226_1 := (HB.out.cell (World.block_lt_of_cell? w _ hx226_1)).trans hx226_1
         replace hx226_2 := (HB.out.cell (World.block_lt_of_cell? w _ hx226_2)).trans hx226_2
         replace p226 := eq_true p226
         replace q226 := eq_true q226
         refine zdx (n := 9) (S := fun w' => w'.cell? (ad225.add ((x5_1).toNat * 3)) = some (.int .i64 ((zk l0 x5_1).f0)) ∧ w'.cell? ⟨(ad225.add ((x5_1).toNat * 3)).block,(ad225.add ((x5_1).toNat * 3)).off + 1,none⟩ = some (.int .i64 ((zk l0 x5_1).f1)) ∧ w'.cell? ⟨(ad225.add ((x5_1).toNat * 3)).block,(ad225.add ((x5_1).toNat * 3)).off + 2,none⟩ = some (.string ((zk l0 x5_1).f2)) ∧ w'.cell? (ad226.add ((x5_1).toNat * 3)) = some (.int .i64 ((zk l1 x5_1).f0)) ∧ w'.cell? ⟨(ad226.add ((x5_1).toNat * 3)).block,(ad226.add ((x5_1).toNat * 3)).off + 1,none⟩ = some (.int .i64 ((zk l1 x5_1).f1)) ∧ w'.cell? ⟨(ad226.add ((x5_1).toNat * 3)).block,(ad226.add ((x5_1).toNat * 3)).off + 2,none⟩ = some (.string ((zk l1 x5_1).f2))) (ds := []) #[false,false,false,false,false,false,false,false,false] qg rfl rfl ⟨((HB.out.cell (World.block_lt_of_cell? w _ hw225_0)).trans hw225_0),((HB.out.cell (World.block_lt_of_cell? w _ hw225_1)).trans hw225_1),((HB.out.cell (World.block_lt_of_cell? w _ hw225_2)).trans hw225_2),((HB.out.cell (World.block_lt_of_cell? w _ hw226_0)).trans hw226_0),((HB.out.cell (World.block_lt_of_cell? w _ hw226_1)).trans hw226_1),((HB.out.cell (World.block_lt_of_cell? w _ hw226_2)).trans hw226_2)⟩ (fun hHeld => ?_); refine zcq zF.zjd zF.ziv (fun HT_ HW_ => ?_)
         generalize wr.drew = w12 at HB hx225_0 hx225_1 hx225_2 hx226_0 hx226_1 hx226_2 hHeld ⊢
         refine zaF (i := 0) (N := some 32) (v := ?_) (a' := ?_) #[true,false,false,false,false,false,false,false,false] rfl rfl (zas HT_.out qg) (fun _ _ _ h => h) (Or.inl ⟨by rfl,?_⟩) ?_ ?_
         rotate_left
         ·intro w'
          go_simp
          with_reducible rfl
         rotate_left
         ·simp only [Act.put,List.setIfInBounds_toArray,List.set_cons_zero,List.set_cons_succ,zS,zT]
          rfl
         refine zaF (i := 1) (N := some 33) (v := ?_) (a' := ?_) #[true,true,false,false,false,false,false,false,false] rfl rfl (zas HT_.out qg) (fun _ _ _ h => h) (Or.inl ⟨by rfl,?_⟩) ?_ ?_
         rotate_left
         ·intro w'
          go_simp
          with_reducible rfl
         rotate_left
         ·simp only [Act.put,List.setIfInBounds_toArray,List.set_cons_zero,List.set_cons_succ,zS,zT]
          rfl
         refine zaF (i := 2) (N := some 34) (v := ?_) (a' := ?_) #[true,true,true,false,false,false,false,false,false] rfl rfl (zas HT_.out qg) (fun _ _ _ h => h) (Or.inl ⟨by rfl,?_⟩) ?_ ?_
         rotate_left
         ·intro w'
          go_simp
          with_reducible rfl
         rotate_left
         ·simp only [Act.put,List.setIfInBounds_toArray,List.set_cons_zero,List.set_cons_succ,zS,zT]
          rfl
         refine zaF (i := 4) (N := some 36) (v := ?_) (a' := ?_) #[true,true,true,false,true,false,false,false,false] rfl rfl (zas HT_.out qg) (fun _ _ _ h => h) (Or.inl ⟨by rfl,?_⟩) ?_ ?_
         rotate_left
         ·intro w'
          go_simp
          with_reducible rfl
         rotate_left
         ·simp only [Act.put,List.setIfInBounds_toArray,List.set_cons_zero,List.set_cons_succ,zS,zT]
          rfl
         refine zaF (i := 5) (N := some 37) (v := ?_) (a' := ?_) #[true,true,true,false,true,true,false,false,false] rfl rfl (zas HT_.out qg) (fun _ _ _ h => h) (Or.inl ⟨by rfl,?_⟩) ?_ ?_
         rotate_left
         ·intro w'
          go_simp
          with_reducible rfl
         rotate_left
         ·simp only [Act.put,List.setIfInBounds_toArray,List.set_cons_zero,List.set_cons_succ,zS,zT]
          rfl
         refine zaF (i := 6) (N := some 38) (v := ?_) (a' := ?_) #[true,true,true,false,true,true,true,false,false] rfl rfl (zas HT_.out qg) (fun _ _ _ h => h) (Or.inl ⟨by rfl,?_⟩) ?_ ?_
         rotate_left
         ·intro w'
          go_simp
          with_reducible rfl
         rotate_left
         ·simp only [Act.put,List.setIfInBounds_toArray,List.set_cons_zero,List.set_cons_succ,zS,zT]
          rfl
         refine zbk (i := 3) (N := some 35) (v := ?_) (a' := ?_) #[true,true,true,true,true,true,true,false,false] rfl rfl (zaL HT_.out HW_.out qg) (fun _ _ _ h => h) (Or.inl ⟨by rfl,?_⟩) hHeld ?_ ?_
         rotate_left
         ·rintro w' ⟨s0,s1,s2,s3,s4,s5⟩
          go_simp
          with_reducible rfl
         rotate_left
         ·simp only [Act.put,List.setIfInBounds_toArray,List.set_cons_zero,List.set_cons_succ,zS,zT]
          rfl
         refine zbk (i := 7) (N := some 39) (v := ?_) (a' := ?_) #[true,true,true,true,true,true,true,true,false] rfl rfl (zaL HT_.out HW_.out qg) (fun _ _ _ h => h) (Or.inl ⟨by rfl,?_⟩) hHeld ?_ ?_
         rotate_left
         ·rintro w' ⟨s0,s1,s2,s3,s4,s5⟩
          go_simp
          with_reducible rfl
         rotate_left
         ·simp only [Act.put,List.setIfInBounds_toArray,List.set_cons_zero,List.set_cons_succ,zS,zT]
          rfl
         refine zaF (i := 8) (N := some 40) (v := ?_) (a' := ?_) #[true,true,true,true,true,true,true,true,true] rfl rfl (zas HT_.out qg) (fun _ _ _ h => h) (Or.inl ⟨by rfl,?_⟩) ?_ ?_
         rotate_left
         ·intro w'
          go_simp
          with_reducible rfl
         rotate_left
         ·simp only [Act.put,List.setIfInBounds_toArray,List.set_cons_zero,List.set_cons_succ,zS,zT]
          rfl
         refine zej (zc0 HT_.out qg) ?_
         try go_wp2
         have n0_ := za.mk (zg HB.out)
         clear HB
         have HB := n0_
         clear n0_
         have p227 : 0 ≤ (x5_1 : Int) := of_decide_eq_true qd
         have q227 : x5_1 < (l0.length : Int) := of_decide_eq_true qd
         obtain ⟨ad227,e227,hx227_0,hx227_1,hx227_2⟩ := zbb HR0.out x5_1 p227 q227
         have hw227_2 := hx227_2
         have hw227_1 := hx227_1
         have hw227_0 := hx227_0
         obtain rfl : ad225 = ad227 := (by injection e227)
         replace hx227_0 := (HB.out.cell (World.block_lt_of_cell? w _ hx227_0)).trans hx227_0
         replace hx227_1 := (HB.out.cell (World.block_lt_of_cell? w _ hx227_1)).trans hx227_1
         replace hx227_2 := (HB.out.cell (World.block_lt_of_cell? w _ hx227_2)).trans hx227_2
         replace p227 := eq_true p227
         replace q227 := eq_true q227
         have p228 : 0 ≤ (x5_1 : Int) := of_decide_eq_true qd
         have q228 : x5_1 < (l1.length : Int) := of_decide_eq_true qd
         obtain ⟨ad228,e228,hx228_0,hx228_1,hx228_2⟩ := zbb HR1.out x5_1 p228 q228
         have hw228_2 := hx228_2
         have hw228_1 := hx228_1
         have hw228_0 := hx228_0
         obtain rfl : ad226 = ad228 := (by injection e228)
         replace hx228_0 := (HB.out.cell (World.block_lt_of_cell? w _ hx228_0)).trans hx228_0
         replace hx228_1 := (HB.out.cell (World.block_lt_of_cell? w _ hx228_1)).trans hx228_1
         replace hx228_2 := (HB.out.cell (World.block_lt_of_cell? w _ hx228_2)).trans hx228_2
         replace p228 := eq_true p228
         replace q228 := eq_true q228
         refine zdx (n := 10) (S := fun w' => w'.cell? (ad225.add ((x5_1).toNat * 3)) = some (.int .i64 ((zk l0 x5_1).f0)) ∧ w'.cell? ⟨(ad225.add ((x5_1).toNat * 3)).block,(ad225.add ((x5_1).toNat * 3)).off + 1,none⟩ = some (.int .i64 ((zk l0 x5_1).f1)) ∧ w'.cell? ⟨(ad225.add ((x5_1).toNat * 3)).block,(ad225.add ((x5_1).toNat * 3)).off + 2,none⟩ = some (.string ((zk l0 x5_1).f2)) ∧ w'.cell? (ad226.add ((x5_1).toNat * 3)) = some (.int .i64 ((zk l1 x5_1).f0)) ∧ w'.cell? ⟨(ad226.add ((x5_1).toNat * 3)).block,(ad226.add ((x5_1).toNat * 3)).off + 1,none⟩ = some (.int .i64 ((zk l1 x5_1).f1)) ∧ w'.cell? ⟨(ad226.add ((x5_1).toNat * 3)).block,(ad226.add ((x5_1).toNat * 3)).off + 2,none⟩ = some (.string ((zk l1 x5_1).f2))) (ds := []) #[false,false,false,false,false,false,false,false,false,false] qg rfl rfl ⟨((HB.out.cell (World.block_lt_of_cell? w _ hw227_0)).trans hw227_0),((HB.out.cell (World.block_lt_of_cell? w _ hw227_1)).trans hw227_1),((HB.out.cell (World.block_lt_of_cell? w _ hw227_2)).trans hw227_2),((HB.out.cell (World.block_lt_of_cell? w _ hw228_0)).trans hw228_0),((HB.out.cell (World.block_lt_of_cell? w _ hw228_1)).trans hw228_1),((HB.out.cell (World.block_lt_of_cell? w _ hw228_2)).trans hw228_2)⟩ (fun hHeld => ?_); refine zcq zF.zjn zF.zjm (fun HT_ HW_ => ?_)
         generalize w12.drew = w13 at HB hx227_0 hx227_1 hx227_2 hx228_0 hx228_1 hx228_2 hHeld ⊢
         refine zaF (i := 0) (N := some 41) (v := ?_) (a' := ?_) #[true,false,false,false,false,false,false,false,false,false] rfl rfl (zas HT_.out qg) (fun _ _ _ h => h) (Or.inl ⟨by rfl,?_⟩) ?_ ?_
         rotate_left
         ·intro w'
          go_simp
          with_reducible rfl
         rotate_left
         ·simp only [Act.put,List.setIfInBounds_toArray,List.set_cons_zero,List.set_cons_succ,zS,zT]
          rfl
         refine zaF (i := 1) (N := some 42) (v := ?_) (a' := ?_) #[true,true,false,false,false,false,false,false,false,false] rfl rfl (zas HT_.out qg) (fun _ _ _ h => h) (Or.inl ⟨by rfl,?_⟩) ?_ ?_
         rotate_left
         ·intro w'
          go_simp
          with_reducible rfl
         rotate_left
         ·simp only [Act.put,List.setIfInBounds_toArray,List.set_cons_zero,List.set_cons_succ,zS,zT]
          rfl
         refine zaF (i := 2) (N := some 43) (v := ?_) (a' := ?_) #[true,true,true,false,false,false,false,false,false,false] rfl rfl (zas HT_.out qg) (fun _ _ _ h => h) (Or.inl ⟨by rfl,?_⟩) ?_ ?_
         rotate_left
         ·intro w'
          go_simp
          with_reducible rfl
         rotate_left
         ·simp only [Act.put,List.setIfInBounds_toArray,List.set_cons_zero,List.set_cons_succ,zS,zT]
          rfl
         refine zaF (i := 4) (N := some 45) (v := ?_) (a' := ?_) #[true,true,true,false,true,false,false,false,false,false] rfl rfl (zas HT_.out qg) (fun _ _ _ h => h) (Or.inl ⟨by rfl,?_⟩) ?_ ?_
         rotate_left
         ·intro w'
          go_simp
          with_reducible rfl
         rotate_left
         ·simp only [Act.put,List.setIfInBounds_toArray,List.set_cons_zero,List.set_cons_succ,zS,zT]
          rfl
         refine zaF (i := 5) (N := some 46) (v := ?_) (a' := ?_) #[true,true,true,false,true,true,false,false,false,false] rfl rfl (zas HT_.out qg) (fun _ _ _ h => h) (Or.inl ⟨by rfl,?_⟩) ?_ ?_
         rotate_left
         ·intro w'
          go_simp
          with_reducible rfl
         rotate_left
         ·simp only [Act.put,List.setIfInBounds_toArray,List.set_cons_zero,List.set_cons_succ,zS,zT]
          rfl
         refine zaF (i := 6) (N := some 47) (v := ?_) (a' := ?_) #[true,true,true,false,true,true,true,false,false,false] rfl rfl (zas HT_.out qg) (fun _ _ _ h => h) (Or.inl ⟨by rfl,?_⟩) ?_ ?_
         rotate_left
         ·intro w'
          go_simp
          with_reducible rfl
         rotate_left
         ·simp only [Act.put,List.setIfInBounds_toArray,List.set_cons_zero,List.set_cons_succ,zS,zT]
          rfl
         refine zbk (i := 3) (N := some 44) (v := ?_) (a' := ?_) #[true,true,true,true,true,true,true,false,false,false] rfl rfl (zaL HT_.out HW_.out qg) (fun _ _ _ h => h) (Or.inl ⟨by rfl,?_⟩) hHeld ?_ ?_
         rotate_left
         ·rintro w' ⟨s0,s1,s2,s3,s4,s5⟩
          go_simp
          with_reducible rfl
         rotate_left
         ·simp only [Act.put,List.setIfInBounds_toArray,List.set_cons_zero,List.set_cons_succ,zS,zT]
          rfl
         refine zbk (i := 7) (N := some 48) (v := ?_) (a' := ?_) #[true,true,true,true,true,true,true,true,false,false] rfl rfl (zaL HT_.out HW_.out qg) (fun _ _ _ h => h) (Or.inl ⟨by rfl,?_⟩) hHeld ?_ ?_
         rotate_left
         ·rintro w' ⟨s0,s1,s2,s3,s4,s5⟩
          go_simp
          with_reducible rfl
         rotate_left
         ·simp only [Act.put,List.setIfInBounds_toArray,List.set_cons_zero,List.set_cons_succ,zS,zT]
          rfl
         refine zb1 (i := 8) (N := some 49) #[true,true,true,true,true,true,true,true,true,false] rfl rfl (zbr HT_.out qg) qq (fun K hK => ?_)
         refine zbv Try.func108 qg rfl #[.agg #[.int .i64 ((zk l0 x5_1).f0), .int .i64 ((zk l0 x5_1).f1), .string ((zk l0 x5_1).f2)], .agg #[.int .i64 ((zk l1 x5_1).f0), .int .i64 ((zk l1 x5_1).f1), .string ((zk l1 x5_1).f2)]] qA rfl rfl qb ?_
         with_reducible refine (zbf.calls ((zk l0 x5_1).f0) ((zk l0 x5_1).f1) ((zk l0 x5_1).f2) ((zk l1 x5_1).f0) ((zk l1 x5_1).f1) ((zk l1 x5_1).f2) t229 _ A11.out).mono ?_
         rintro e w14 ⟨rfl,hb⟩
         refine ⟨_,rfl,?_⟩
         have n0_ := za.mk (zo (qc HB.out) hb)
         clear HB
         have HB := n0_
         clear n0_
         (try clear hb)
         (try clear hb2)
         (try clear hk)
         (try clear hi)
         refine hK.out _ _ ⟨((HB.out.cell (World.block_lt_of_cell? w _ hw227_0)).trans hw227_0),((HB.out.cell (World.block_lt_of_cell? w _ hw227_1)).trans hw227_1),((HB.out.cell (World.block_lt_of_cell? w _ hw227_2)).trans hw227_2),((HB.out.cell (World.block_lt_of_cell? w _ hw228_0)).trans hw228_0),((HB.out.cell (World.block_lt_of_cell? w _ hw228_1)).trans hw228_1),((HB.out.cell (World.block_lt_of_cell? w _ hw228_2)).trans hw228_2)⟩ (fun hHeld => ?_)
         clear hK K
         refine zaX (a' := ?_) ?_ ?_
         rotate_left
         ·show Act.put _ (some 49) _ = _
          simp only [Act.put,List.setIfInBounds_toArray,List.set_cons_zero,List.set_cons_succ,zS,zT]
          rfl
         refine zaF (i := 9) (N := some 4) (v := ?_) (a' := ?_) #[true,true,true,true,true,true,true,true,true,true] rfl rfl (zas HT_.out qg) (fun _ _ _ h => h) (Or.inl ⟨by rfl,?_⟩) ?_ ?_
         rotate_left
         ·intro w'
          go_simp
          with_reducible rfl
         rotate_left
         ·simp only [Act.put,List.setIfInBounds_toArray,List.set_cons_zero,List.set_cons_succ,zS,zT]
          rfl
         refine zej (zc0 HT_.out qg) ?_
         try go_wp2
         go_ret
         exact ⟨by first | rfl | (simp [zw,zx] <;> rfl) | (simp [*,zw,zx] <;> rfl),by repeat (first | (with_reducible first | exact HB.out | apply ze | apply zb | apply zg) | exact HB.out)⟩
        ·rw [if_neg c10] at H
         have c10b0 : (!(((zk l0 x5_1).f0) == ((zk l1 x5_1).f0)) || (!(((zk l0 x5_1).f1) == ((zk l1 x5_1).f1)) || (!((((zk l0 x5_1).f2).toList) == (((zk l1 x5_1).f2).toList))))) = false := by simpa using c10
         clear c10
         have H' := za.mk H
         clear H
         try go_wp2
         have n0_ := za.mk (zg HB.out)
         clear HB
         have HB := n0_
         clear n0_
         have p225 : 0 ≤ (x5_1 : Int) := of_decide_eq_true qd
         have q225 : x5_1 < (l0.length : Int) := of_decide_eq_true qd
         obtain ⟨ad225,e225,hx225_0,hx225_1,hx225_2⟩ := zbb HR0.out x5_1 p225 q225
         have hw225_2 := hx225_2
         have hw225_1 := hx225_1
         have hw225_0 := hx225_0
         cases e225
         replace hx225_0 := (HB.out.cell (World.block_lt_of_cell? w _ hx225_0)).trans hx225_0
         replace hx225_1 := (HB.out.cell (World.block_lt_of_cell? w _ hx225_1)).trans hx225_1
         replace hx225_2 := (HB.out.cell (World.block_lt_of_cell? w _ hx225_2)).trans hx225_2
         replace p225 := eq_true p225
         replace q225 := eq_true q225
         have p226 : 0 ≤ (x5_1 : Int) := of_decide_eq_true qd
         have q226 : x5_1 < (l1.length : Int) := of_decide_eq_true qd
         obtain ⟨ad226,e226,hx226_0,hx226_1,hx226_2⟩ := zbb HR1.out x5_1 p226 q226
         have hw226_2 := hx226_2
         have hw226_1 := hx226_1
         have hw226_0 := hx226_0
         cases e226
         replace hx226_0 := (HB.out.cell (World.block_lt_of_cell? w _ hx226_0)).trans hx226_0
         replace hx226_1 := (HB.out.cell (World.block_lt_of_cell? w _ hx226_1)).trans hx226_1
         replace hx226_2 := (HB.out.cell (World.block_lt_of_cell? w _ hx226_2)).trans hx226_2
         replace p226 := eq_true p226
         replace q226 := eq_true q226
         refine zdx (n := 9) (S := fun w' => w'.cell? (ad225.add ((x5_1).toNat * 3)) = some (.int .i64 ((zk l0 x5_1).f0)) ∧ w'.cell? ⟨(ad225.add ((x5_1).toNat * 3)).block,(ad225.add ((x5_1).toNat * 3)).off + 1,none⟩ = some (.int .i64 ((zk l0 x5_1).f1)) ∧ w'.cell? ⟨(ad225.add ((x5_1).toNat * 3)).block,(ad225.add ((x5_1).toNat * 3)).off + 2,none⟩ = some (.string ((zk l0 x5_1).f2)) ∧ w'.cell? (ad226.add ((x5_1).toNat * 3)) = some (.int .i64 ((zk l1 x5_1).f0)) ∧ w'.cell? ⟨(ad226.add ((x5_1).toNat * 3)).block,(ad226.add ((x5_1).toNat * 3)).off + 1,none⟩ = some (.int .i64 ((zk l1 x5_1).f1)) ∧ w'.cell? ⟨(ad226.add ((x5_1).toNat * 3)).block,(ad226.add ((x5_1).toNat * 3)).off + 2,none⟩ = some (.string ((zk l1 x5_1).f2))) (ds := []) #[false,false,false,false,false,false,false,false,false] qg rfl rfl ⟨((HB.out.cell (World.block_lt_of_cell? w _ hw225_0)).trans hw225_0),((HB.out.cell (World.block_lt_of_cell? w _ hw225_1)).trans hw225_1),((HB.out.cell (World.block_lt_of_cell? w _ hw225_2)).trans hw225_2),((HB.out.cell (World.block_lt_of_cell? w _ hw226_0)).trans hw226_0),((HB.out.cell (World.block_lt_of_cell? w _ hw226_1)).trans hw226_1),((HB.out.cell (World.block_lt_of_cell? w _ hw226_2)).trans hw226_2)⟩ (fun hHeld => ?_); refine zcq zF.zjd zF.ziv (fun HT_ HW_ => ?_)
         generalize wr.drew = w15 at HB hx225_0 hx225_1 hx225_2 hx226_0 hx226_1 hx226_2 hHeld ⊢
         refine zaF (i := 0) (N := some 32) (v := ?_) (a' := ?_) #[true,false,false,false,false,false,false,false,false] rfl rfl (zas HT_.out qg) (fun _ _ _ h => h) (Or.inl ⟨by rfl,?_⟩) ?_ ?_
         rotate_left
         ·intro w'
          go_simp
          with_reducible rfl
         rotate_left
         ·simp only [Act.put,List.setIfInBounds_toArray,List.set_cons_zero,List.set_cons_succ,zS,zT]
          rfl
         refine zaF (i := 1) (N := some 33) (v := ?_) (a' := ?_) #[true,true,false,false,false,false,false,false,false] rfl rfl (zas HT_.out qg) (fun _ _ _ h => h) (Or.inl ⟨by rfl,?_⟩) ?_ ?_
         rotate_left
         ·intro w'
          go_simp
          with_reducible rfl
         rotate_left
         ·simp only [Act.put,List.setIfInBounds_toArray,List.set_cons_zero,List.set_cons_succ,zS,zT]
          rfl
         refine zaF (i := 2) (N := some 34) (v := ?_) (a' := ?_) #[true,true,true,false,false,false,false,false,false] rfl rfl (zas HT_.out qg) (fun _ _ _ h => h) (Or.inl ⟨by rfl,?_⟩) ?_ ?_
         rotate_left
         ·intro w'
          go_simp
          with_reducible rfl
         rotate_left
         ·simp only [Act.put,List.setIfInBounds_toArray,List.set_cons_zero,List.set_cons_succ,zS,zT]
          rfl
         refine zaF (i := 4) (N := some 36) (v := ?_) (a' := ?_) #[true,true,true,false,true,false,false,false,false] rfl rfl (zas HT_.out qg) (fun _ _ _ h => h) (Or.inl ⟨by rfl,?_⟩) ?_ ?_
         rotate_left
         ·intro w'
          go_simp
          with_reducible rfl
         rotate_left
         ·simp only [Act.put,List.setIfInBounds_toArray,List.set_cons_zero,List.set_cons_succ,zS,zT]
          rfl
         refine zaF (i := 5) (N := some 37) (v := ?_) (a' := ?_) #[true,true,true,false,true,true,false,false,false] rfl rfl (zas HT_.out qg) (fun _ _ _ h => h) (Or.inl ⟨by rfl,?_⟩) ?_ ?_
         rotate_left
         ·intro w'
          go_simp
          with_reducible rfl
         rotate_left
         ·simp only [Act.put,List.setIfInBounds_toArray,List.set_cons_zero,List.set_cons_succ,zS,zT]
          rfl
         refine zaF (i := 6) (N := some 38) (v := ?_) (a' := ?_) #[true,true,true,false,true,true,true,false,false] rfl rfl (zas HT_.out qg) (fun _ _ _ h => h) (Or.inl ⟨by rfl,?_⟩) ?_ ?_
         rotate_left
         ·intro w'
          go_simp
          with_reducible rfl
         rotate_left
         ·simp only [Act.put,List.setIfInBounds_toArray,List.set_cons_zero,List.set_cons_succ,zS,zT]
          rfl
         refine zbk (i := 3) (N := some 35) (v := ?_) (a' := ?_) #[true,true,true,true,true,true,true,false,false] rfl rfl (zaL HT_.out HW_.out qg) (fun _ _ _ h => h) (Or.inl ⟨by rfl,?_⟩) hHeld ?_ ?_
         rotate_left
         ·rintro w' ⟨s0,s1,s2,s3,s4,s5⟩
          go_simp
          with_reducible rfl
         rotate_left
         ·simp only [Act.put,List.setIfInBounds_toArray,List.set_cons_zero,List.set_cons_succ,zS,zT]
          rfl
         refine zbk (i := 7) (N := some 39) (v := ?_) (a' := ?_) #[true,true,true,true,true,true,true,true,false] rfl rfl (zaL HT_.out HW_.out qg) (fun _ _ _ h => h) (Or.inl ⟨by rfl,?_⟩) hHeld ?_ ?_
         rotate_left
         ·rintro w' ⟨s0,s1,s2,s3,s4,s5⟩
          go_simp
          with_reducible rfl
         rotate_left
         ·simp only [Act.put,List.setIfInBounds_toArray,List.set_cons_zero,List.set_cons_succ,zS,zT]
          rfl
         refine zaF (i := 8) (N := some 40) (v := ?_) (a' := ?_) #[true,true,true,true,true,true,true,true,true] rfl rfl (zas HT_.out qg) (fun _ _ _ h => h) (Or.inl ⟨by rfl,?_⟩) ?_ ?_
         rotate_left
         ·intro w'
          go_simp
          with_reducible rfl
         rotate_left
         ·simp only [Act.put,List.setIfInBounds_toArray,List.set_cons_zero,List.set_cons_succ,zS,zT]
          rfl
         refine zej (zc0 HT_.out qg) ?_
         try go_wp2
         go_roundg k1
         case measure => have := HK1.out; omega
         case rel => exact ⟨(wrap64 (x5_1 + 1)),qm,H',⟨by have := HK1.out; omega⟩,⟨by repeat (first | (with_reducible first | exact HB.out | apply ze | apply zb | apply zg) | exact HB.out)⟩⟩
       ·rw [if_neg c9] at H
        exact absurd H qC
      ·rw [if_neg c8] at H
       exact absurd H qC
     ·rw [if_neg c7] at H
      have c7b0 : decide (x5_1 < (l0.length : Int)) = false := decide_eq_false c7
      clear c7
      obtain rfl := Option.some.inj H
      go_wp2
      go_ret
      exact ⟨by first | rfl | (simp [zw,zx] <;> rfl) | (simp [*,zw,zx] <;> rfl),by repeat (first | (with_reducible first | exact HB.out | apply ze | apply zb | apply zg) | exact HB.out)⟩
  ·rw [if_neg c6] at H
   have c6b0 : ((l0.length : Int) == (l1.length : Int)) = false := beq_eq_false_iff_ne.mpr c6
   have c6b1 : ((l0.length : Int) != (l1.length : Int)) = true := bne_iff_ne.mpr c6
   have c6b2 : (l0.length == l1.length) = false := by first | simpa using c6 | (simp at c6 ⊢; omega)
   obtain rfl := Option.some.inj H
   go_enter Try.func84,Try.ntmps84
   go_wp2_with (first | ((with_reducible refine zA (f := 81) rfl ?_); refine zW (some 7) rfl rfl Try.func81 qg rfl #[.slice A0 l0.length c0] rfl qb ?_; (with_reducible refine (zN.calls k _ _ l0 t221 _ ?side1 ?side2 A3.out).mono ?_); (case side1 => exact qe HR0.out); (case side2 => exact HC0.out); rintro e w' ⟨rfl,⟨nd,rfl⟩⟩; refine ⟨_,rfl,?_⟩) | ((with_reducible refine zA (f := 81) rfl ?_); refine zW (some 9) rfl rfl Try.func81 qg rfl #[.slice A1 l1.length c1] rfl qb ?_; (with_reducible refine (zN.calls k _ _ l1 t222 _ ?side1 ?side2 A4.out).mono ?_); (case side1 => exact qe HR1.out); (case side2 => exact HC1.out); rintro e w' ⟨rfl,⟨nd,rfl⟩⟩; refine ⟨_,rfl,?_⟩))
   go_ret
   exact ⟨by first | rfl | (simp [zw,zx] <;> rfl) | (simp [*,zw,zx] <;> rfl),by repeat (first | (with_reducible first | exact HB.out | apply ze | apply zb | apply zg) | exact HB.out)⟩
 ·rw [if_neg c5] at H
  have c5b0 : (t221 == t222) = false := beq_eq_false_iff_ne.mpr c5
  have c5b1 : (t221 != t222) = true := bne_iff_ne.mpr c5
  replace H := Option.bind_eq_some_iff.mp H
  obtain ⟨t223,A160,H⟩ := H
  replace H : ((zN.f k l1).bind fun t224 => (some (decide (t223 < t224)))) = some r := H
  have A16 := za.mk A160
  clear A160
  replace H := Option.bind_eq_some_iff.mp H
  obtain ⟨t224,A170,H⟩ := H
  replace H : (some (decide (t223 < t224))) = some r := H
  have A17 := za.mk A170
  clear A170
  obtain rfl := Option.some.inj H
  go_enter Try.func84,Try.ntmps84
  go_wp2_with (first | ((with_reducible refine zA (f := 81) rfl ?_); refine zW (some 7) rfl rfl Try.func81 qg rfl #[.slice A0 l0.length c0] rfl qb ?_; (with_reducible refine (zN.calls k _ _ l0 t221 _ ?side1 ?side2 A3.out).mono ?_); (case side1 => exact qe HR0.out); (case side2 => exact HC0.out); rintro e w' ⟨rfl,⟨nd,rfl⟩⟩; refine ⟨_,rfl,?_⟩) | ((with_reducible refine zA (f := 81) rfl ?_); refine zW (some 9) rfl rfl Try.func81 qg rfl #[.slice A1 l1.length c1] rfl qb ?_; (with_reducible refine (zN.calls k _ _ l1 t222 _ ?side1 ?side2 A4.out).mono ?_); (case side1 => exact qe HR1.out); (case side2 => exact HC1.out); rintro e w' ⟨rfl,⟨nd,rfl⟩⟩; refine ⟨_,rfl,?_⟩) | ((with_reducible refine zA (f := 81) rfl ?_); refine zW (some 12) rfl rfl Try.func81 qg rfl #[.slice A0 l0.length c0] rfl qb ?_; (with_reducible refine (zN.calls k _ _ l0 t223 _ ?side1 ?side2 A16.out).mono ?_); (case side1 => exact qe HR0.out); (case side2 => exact HC0.out); rintro e w' ⟨rfl,⟨nd,rfl⟩⟩; refine ⟨_,rfl,?_⟩) | ((with_reducible refine zA (f := 81) rfl ?_); refine zW (some 14) rfl rfl Try.func81 qg rfl #[.slice A1 l1.length c1] rfl qb ?_; (with_reducible refine (zN.calls k _ _ l1 t224 _ ?side1 ?side2 A17.out).mono ?_); (case side1 => exact qe HR1.out); (case side2 => exact HC1.out); rintro e w' ⟨rfl,⟨nd,rfl⟩⟩; refine ⟨_,rfl,?_⟩))
  go_ret
  exact ⟨by first | rfl | (simp [zw,zx] <;> rfl) | (simp [*,zw,zx] <;> rfl),by repeat (first | (with_reducible first | exact HB.out | apply ze | apply zb | apply zg) | exact HB.out)⟩
end Go.Proofs.Ytgmbbfmbimofoaa.P
namespace Go.Proofs.Ytgmbbfmbimofoaa.P
open Go.RowKit Go.Proofs.YtgmbbfmbimofoaaW.PrintWords Go.Proofs.YtgmbbfmbimofoaaW.PrintLast Go.Proofs.YtgmbbfmbimofoaaW.PrintMore
attribute [local go_sem] zH zI zP zO zC zB zJ zK
set_option linter.unusedVariables false
set_option linter.unusedSimpArgs false
section
variable {α : Type} {P : Program}
open Go.Proofs.YtgmbbfmbimofoaaW.PrintWords
theorem ze5 (d : Kd α) {W : World} (t ty e : TypeId) (z : Value) (bytes : Nat)
  (ht : P.underlying t = some (.slice e)) (hinfo : (P.info? e).map (fun i => (i.zero,i.size,i.bytes)) = some (some z,d.sz,bytes)) (hz : z.cells.size = d.sz) (hs0 : 0 < d.sz) (hb0 : 0 < bytes)
  (A : Option Addr) (xs : List α) (p : α) (cs : List Value) (hC : d.C W A xs.length xs) (hn : A = none → xs = []) (hp : d.K W p cs) (hKM : ∀ (w w' : World) (base : Nat) (ok : Nat → Prop) x c,d.K w x c → d.M w' base ok x c)
  (hl : (xs.length + 1) * bytes ≤ 140737488355328) :
  ∃ v1 w1,(Builtin.append_ #[t,t] ty #[.slice A xs.length xs.length, .slice (some ⟨W.heap.size,0,none⟩) 1 1]).run P (W.alloc (.cells cs.toArray e)) = .ok v1 w1 ∧ d.R e w1 W.heap.size (fun _ => True) v1 (xs ++ [p]) ∧ Below W.heap.size W w1 := by
 obtain ⟨i0,hi,hzz⟩ := Option.map_eq_some_iff.1 hinfo
 simp only [Prod.mk.injEq] at hzz
 obtain ⟨hz0,hz1,hz2⟩ := hzz
 have hlen : xs.length + 1 ≤ 140737488355328 := Nat.le_trans (Nat.le_mul_of_pos_right _ hb0) hl
 have hcl : cs.length = 1 * d.sz := by rw [d.K_len hp,Nat.one_mul]
 have hcells : ∀ j u,cs[j]? = some u → (W.alloc (.cells cs.toArray e)).cell? ((⟨W.heap.size,0,none⟩ : Addr).add j) = some u := by
  simpa using World.news_of_block (cs := cs.toArray) (t := e) (fr := (0,0)) (heap_alloc_new W (.cells cs.toArray e))
 have h63 : xs.length + 1 ≤ maxLen := by simp only [maxLen]; omega
 have hba : Below W.heap.size W (W.alloc (.cells cs.toArray e)) := ze (Below.refl _ _) _
 have fin : ∀ v1 w1 (inner : List Value),zX (fun x c => d.K W x c) d.sz xs inner → w1.ownsRow (W.alloc (.cells cs.toArray e)).heap.size e d.sz v1 (xs.length + 1) (inner ++ cs) → (W.alloc (.cells cs.toArray e)).grownBy w1 none → d.R e w1 W.heap.size (fun _ => True) v1 (xs ++ [p]) ∧ Below W.heap.size W w1 := by
  intro v1 w1 inner hr ho hg
  refine ⟨⟨fun _ _ => trivial,inner ++ cs,?_,?_⟩,?_⟩
  ·have := zfk ho (base' := W.heap.size) qC
   simpa using this
  ·exact (hr.zb5 (fun x c h => hKM _ _ _ _ x c h)).snoc (hKM _ _ _ _ _ _ hp) (by rw [hcl,Nat.one_mul])
  ·exact hba.trans ⟨hg.os,hg.tape,hg.output,hg.size,fun k hk => hg.block k qI qC⟩
 cases A with
 | none =>
  obtain rfl := hn rfl
  obtain ⟨v1,w1,hrun,hown,hg,_,_⟩ := run_append_own_at (P := P) (W.alloc (.cells cs.toArray e)) (W.alloc (.cells cs.toArray e)).heap.size t ty e i0 z d.sz bytes ht hi hz0 hz1 hz2 hz hs0 (.slice none 0 0) 0 [] (World.ownsRow_nil _ _ e d.sz) ⟨W.heap.size,0,none⟩ 1 1 cs hcl hcells (d.K_one hp) (by simpa using h63) (by simpa using hl) (Nat.le_refl _)
  obtain ⟨f1,f2⟩ := fin v1 w1 [] (zX.none _ _) (by simpa using hown) hg
  exact ⟨v1,w1,hrun,f1,f2⟩
 | some b =>
  obtain ⟨inner,hr,hc⟩ := zbh.zgf (R := fun x c => d.K W x c) hC
  have hc' : ∀ j u,inner[j]? = some u → (W.alloc (.cells cs.toArray e)).cell? (b.add j) = some u := fun j u hj => by
   have := hc j u hj
   exact (hba.cell (World.block_lt_of_cell? W _ this)).trans this
  obtain ⟨v1,w1,hrun,hown,hg⟩ := run_append_arg_grows (P := P) (W.alloc (.cells cs.toArray e)) t ty e i0 z d.sz bytes ht hi hz0 hz1 hz2 hz hs0 b xs.length xs.length inner hr.1 hc' ⟨W.heap.size,0,none⟩ 1 1 cs hcl hcells ql h63 hl
  obtain ⟨f1,f2⟩ := fin v1 w1 inner hr hown hg
  exact ⟨v1,w1,hrun,f1,f2⟩
variable {ops : Array Oper} {rest : List Oper} {o : Oper} {a : Act} {Q : Exit → Act → World → Prop} {Kc : Act → World → Prop}
theorem zcG (d : Kd α) {W : World} (hgd : o.guard = none) (s x : Operand) (t e : TypeId) (z : Value) (bytes : Nat)
  (ho : o.op = .call { callee := .builtin .append,args := #[s,x],argTypes := #[t,t] })
  (ht : P.underlying t = some (.slice e)) (hinfo : (P.info? e).map (fun i => (i.zero,i.size,i.bytes)) = some (some z,d.sz,bytes)) (hz : z.cells.size = d.sz) (hs0 : 0 < d.sz) (hb0 : 0 < bytes)
  (A : Option Addr) (xs : List α) (p : α) (cs : List Value) (hs : a.eval s = .slice A xs.length xs.length) (hx : a.eval x = .slice (some ⟨W.heap.size,0,none⟩) 1 1)
  (hC : d.C W A xs.length xs) (hn : A = none → xs = []) (hp : d.K W p cs) (hKM : ∀ (w w' : World) (base : Nat) (ok : Nat → Prop) x c,d.K w x c → d.M w' base ok x c)
  (hl : (xs.length + 1) * bytes ≤ 140737488355328)
  (h : ∀ v1 w1,d.R e w1 W.heap.size (fun _ => True) v1 (xs ++ [p]) → Below W.heap.size W w1 → wpList P ops Q rest (a.put o.dst v1) w1) :
  wpList P ops Q (o :: rest) a (W.alloc (.cells cs.toArray e)) := by
 obtain ⟨v1,w1,hr,h1,h2⟩ := ze5 (P := P) d t o.type e z bytes ht hinfo hz hs0 hb0 A xs p cs hC hn hp hKM hl
 refine wpList_plain hgd fun K hK => ?_
 unfold Oper.wp execOp
 simp only [ho,resolve,invoke,builtin,Sem.run_bind,Sem.run_pure,Result.andThen_ok,List.map_toArray,List.map_cons,List.map_nil,hs,hx,hr]
 exact hK _ _ (h v1 w1 h1 h2)
theorem zcR {d : Kd α} {W : World} {A : Option Addr} {xs : List α} (h : d.C W A xs.length xs) : A = none → xs = [] := fun e => by
 cases xs with
 | nil => rfl
 | cons x xs =>
  obtain ⟨ad,e2,_⟩ := h.2.2 qC
  rw [e] at e2; cases e2
end
end Go.Proofs.Ytgmbbfmbimofoaa.P
