-- MERGED BY A PROGRAM out of texts of this claim: hand work, and what a (turned) print of the kit has written for it
import Derived.Below
import Derived.Deep.Draws
import Derived.Deep.AppendLies
import Derived.Maps.AppendAt
import Derived.OwnWalk
import Derived.Laws.BytesArg
import Derived.Laws.MakeOwn
import Derived.Laws.OwnMore
import Derived.Deep.OwnRows
import Derived.Tactics
import Derived.Lib.ConvBytes
import Derived.Laws.Slices
import Derived.WalkKit
import Derived.KernelRfl
import Derived.RowKit3
import Derived.Deep.LoopGhost
import Derived.Deep.QuietTactic
import Derived.BigQuiet
import Derived.WideLaws
import Derived.Deep.DeepCutAuto
import Derived.Deep.CutBlock
import Derived.Deep.RegionHeld3
import Derived.Laws.Rows
import Derived.Lib.AppendStr
import Derived.ArgAppend
import Derived.Laws.IdiomCopy
import Derived.OrdersHeld
import Derived.Laws.BitsLemmas
import Derived.RowKit
import Derived.Test.YtgmbbfmbimofoaaProg
import Derived.Test.YtgmbbfmbimofoaaMk1
import Derived.Test.YtgmbbfmbimofoaaMk2
import Derived.Test.YtgmbbfmbimofoaaMk3
import Derived.Test.YtgmbbfmbimofoaaMk4
namespace Go.Proofs.Ytgmbbfmbimofoaa.P
open Go.RowKit Go.Proofs.YtgmbbfmbimofoaaW.PrintWords Go.Proofs.YtgmbbfmbimofoaaW.PrintLast Go.Proofs.YtgmbbfmbimofoaaW.PrintMore
attribute [local go_sem] zH zI zP zO zC zB zJ zK
set_option linter.unusedVariables false
set_option linter.unusedSimpArgs false
def zi6 : Option Int → Value
 | none => .nilIface
 | some c => .iface 0 (.int .i64 c)
theorem zw : zi6 none = .nilIface := rfl
theorem zx (c : Int) : zi6 (some c) = .iface 0 (.int .i64 c) := rfl
theorem info3 : (Try.prog.info? 3).map (fun i => (i.zero,i.size,i.bytes)) = some (some (.int .i64 0),1,8) := by kernel_rfl
theorem zef : (Try.prog.info? 9).map (fun i => (i.zero,i.size,i.bytes)) = some (some (.string ⟨#[]⟩),1,16) := by kernel_rfl
theorem zb4 : (Try.prog.info? 63).map (fun i => (i.zero,i.size,i.bytes)) = some (some (.agg #[(.int .i64 0),(.int .i64 0),(.string ⟨#[]⟩)]),3,32) := by kernel_rfl
def zb2 (xs : List (List ByteArray)) (i : Int) : (List ByteArray) := xs.getD i.toNat ([] : List ByteArray)
theorem ze4 {w : World} {A : Option Addr} {n : Nat} {xs : List (List ByteArray)} (h : Kd.C (Kd.slice 9 Kd.string) w A n xs) (i : Int) (h0 : 0 ≤ i) (h1 : i < n) : ∃ ad A0 c0,A = some ad ∧ w.cell? (ad.add i.toNat) = some (.slice A0 (zb2 xs i).length c0) ∧ (zb2 xs i).length ≤ c0 ∧ Kd.string.C w A0 (zb2 xs i).length (zb2 xs i) := by
 obtain ⟨ad,c,e,_,hK,hc0⟩ := Kd.ze2 h ([] : List ByteArray) i h0 h1
 have hc : ∀ j u,c[j]? = some u → w.cell? (ad.add (i.toNat * 1 + j)) = some u := hc0
 obtain ⟨A0,c0,rfl,l0,g0⟩ := hK
 exact ⟨ad,A0,c0,e,by have hq := hc 0 _ rfl; rwa [Nat.mul_one,Nat.add_zero] at hq,l0,g0⟩
structure S63 where
 f0 : Int
 f1 : Int
 f2 : ByteArray
def z63 : S63 := ⟨(0 : Int),(0 : Int),(⟨#[]⟩ : ByteArray)⟩
def k63 : Kd S63 := Kd.iso (Kd.pair (Kd.int .i64) (Kd.pair (Kd.int .i64) Kd.string)) (fun x : S63 => (x.f0,x.f1,x.f2))
theorem zct {w : World} {x : S63} {cs : List Value} (h : k63.K w x cs) : cs = [.int .i64 x.f0, .int .i64 x.f1, .string x.f2] := by
 obtain ⟨_,_,rfl,rfl,⟨_,_,rfl,rfl,rfl⟩⟩ := h
 exact rfl
theorem zd1 (w : World) (x : S63)  : k63.K w x [.int .i64 x.f0, .int .i64 x.f1, .string x.f2] := ⟨[.int .i64 x.f0],[.int .i64 x.f1, .string x.f2],rfl,rfl,⟨[.int .i64 x.f1],[.string x.f2],rfl,rfl,rfl⟩⟩
theorem zbK (w : World) (base : Nat) (ok : Nat → Prop) (x : S63)  : k63.M w base ok x [.int .i64 x.f0, .int .i64 x.f1, .string x.f2] := ⟨[.int .i64 x.f0],[.int .i64 x.f1, .string x.f2],rfl,rfl,⟨[.int .i64 x.f1],[.string x.f2],rfl,rfl,rfl⟩⟩
def zk (xs : List S63) (i : Int) : S63 := xs.getD i.toNat z63
theorem zbb {w : World} {A : Option Addr} {n : Nat} {xs : List S63} (h : Kd.C k63 w A n xs) (i : Int) (h0 : 0 ≤ i) (h1 : i < n) : ∃ ad ,A = some ad ∧ w.cell? (ad.add (i.toNat * 3)) = some (.int .i64 (zk xs i).f0) ∧ w.cell? ⟨(ad.add (i.toNat * 3)).block,(ad.add (i.toNat * 3)).off + 1,none⟩ = some (.int .i64 (zk xs i).f1) ∧ w.cell? ⟨(ad.add (i.toNat * 3)).block,(ad.add (i.toNat * 3)).off + 2,none⟩ = some (.string (zk xs i).f2) := by
 obtain ⟨ad,c,e,_,hK,hc0⟩ := Kd.ze2 h z63 i h0 h1
 have hc : ∀ j u,c[j]? = some u → w.cell? (ad.add (i.toNat * 3 + j)) = some u := hc0
 obtain rfl := zct hK
 exact ⟨ad,e,hc 0 _ rfl,by rw [← zeu _ _ 1 (by omega)]; exact hc 1 _ rfl,by rw [← zeu _ _ 2 (by omega)]; exact hc 2 _ rfl⟩
theorem qa {p q : Prop} (x0 : q) (h : q → p := by intro h0_; (with_reducible repeat (first | refine zl ?_ _ | refine zm ?_ | refine zi ?_ _)); exact h0_) : p := h x0
theorem qb {p : Prop} (h : p := by (try simp only [List.map_toArray,List.map_cons,List.map_nil]); first | done | rfl | (simp only [List.length_drop,List.length_take]; rfl)) : p := h
theorem qc {p q : Prop} (x0 : q) (h : q → p := by intro h0_; repeat (first | (with_reducible first | exact h0_ | apply ze | apply zb | apply zg) | exact h0_)) : p := h x0
theorem qd {p : Prop} (h : p := by first | (with_reducible assumption) | assumption) : p := h
theorem qe {p q : Prop} (x0 : q) (h : q → p := by intro h0_; repeat (first | exact h0_ | (with_reducible refine Kd.zZ ?_ _) | (with_reducible refine Kd.z8 ?_ _) | (with_reducible refine Kd.zah ?_))) : p := h x0
theorem qf {p q r : Prop} (x0 : q) (x1 : r) (h : q → r → p := by intro h0_ h1_; repeat (first | (with_reducible first | exact h0_ | apply ze | apply zb | apply zg | refine zh ?_ h1_) | exact h0_)) : p := h x0 x1
theorem qg {p : Prop} (h : p := by kernel_rfl) : p := h
theorem qh {p q : Prop} (x0 : q) (h : q → p := by intro h0_; (with_reducible repeat (first | refine zl ?_ _ | refine zm ?_ | refine zi ?_ _)); refine zV (cs := #[.int .i64 ((zk l0 x13_1).f0), .int .i64 ((zk l0 x13_1).f1), .string (⟨#[]⟩ : ByteArray)]) ?_ 2 _ rfl; (with_reducible repeat (first | refine zl ?_ _ | refine zm ?_ | refine zi ?_ _)); refine zV (cs := #[.int .i64 ((zk l0 x13_1).f0), .int .i64 0, .string (⟨#[]⟩ : ByteArray)]) ?_ 1 _ rfl; (with_reducible repeat (first | refine zl ?_ _ | refine zm ?_ | refine zi ?_ _)); refine zV (cs := #[.int .i64 0, .int .i64 0, .string (⟨#[]⟩ : ByteArray)]) ?_ 0 _ rfl; (with_reducible repeat (first | refine zl ?_ _ | refine zm ?_ | refine zi ?_ _)); exact h0_) : p := h x0
theorem qi {p q r s t : Prop} (x0 : q) (x1 : r) (x2 : s) (x3 : t) (h : q → r → s → t → p := by intro h0_ h1_ h2_ h3_; repeat (first | (with_reducible first | exact h0_ | apply ze | apply zb | apply zg | refine zh ?_ h1_ | refine zh ?_ h2_ | refine zh ?_ h3_) | exact h0_)) : p := h x0 x1 x2 x3
theorem qj {p q r : Prop} (x0 : q) (x1 : r) (h : q → r → p := by intro h0_ h1_; repeat (first | exact (Kd.zU h0_ h1_) | (with_reducible refine Kd.zZ ?_ _) | (with_reducible refine Kd.z8 ?_ _) | (with_reducible refine Kd.zah ?_))) : p := h x0 x1
theorem qk {p : Prop} (h : p := by first | (go_simp; done) | (go_simp; rfl)) : p := h
theorem ql {p : Prop} (h : p := by omega) : p := h
theorem qm {p : Prop} (h : p := by first | rfl | (simp; done) | (simp [*]; done)) : p := h
theorem qn {p q r s : Prop} (x0 : q) (x1 : r) (x2 : s) (h : q → r → s → p := by intro h0_ h1_ h2_; repeat (first | (with_reducible first | exact h0_ | apply ze | apply zb | apply zg | refine zh ?_ h1_ | refine zh ?_ h2_) | exact h0_)) : p := h x0 x1 x2
theorem qo {p : Prop} (h : p := by simp only [List.map_toArray,List.map_cons,List.map_nil]; rfl) : p := h
theorem qp {p q : Prop} (x0 : q) (h : q → p := by intro h0_; (with_reducible repeat (first | apply Kd.zaE | apply Kd.zau | apply Kd.zaJ)); exact h0_) : p := h x0
theorem qq {p : Prop} (h : p := by decide) : p := h
theorem qr {p q : Prop} (x0 : q) (h : q → p := by intro h0_; repeat (first | (with_reducible first | exact h0_ | apply zM.zbY | apply za2 | apply zaU | apply za4) | exact h0_)) : p := h x0
theorem qt {p q : Prop} (x0 : q) (h : q → p := by intro h0_; repeat (first | (with_reducible first | exact h0_ | apply zG.alloc | apply zG.drewN | apply zG.drew | apply zG.zbR | apply zG.zbX) | exact h0_)) : p := h x0
theorem qu {p : Prop} (h : p := by first | (rw [add_block]; exact hn117_0) | (show (Addr.add _ _).block ≠ _; rw [add_block]; exact hn117_0) | exact hn117_0) : p := h
theorem qv {p : Prop} (h : p := by first | (rw [add_block]; exact hn117_1) | (show (Addr.add _ _).block ≠ _; rw [add_block]; exact hn117_1) | exact hn117_1) : p := h
theorem qw {p : Prop} (h : p := by first | (rw [add_block]; exact hn117_2) | (show (Addr.add _ _).block ≠ _; rw [add_block]; exact hn117_2) | exact hn117_2) : p := h
theorem qx {p : Prop} (h : p := by simp only [List.length_cons]; omega) : p := h
theorem qy {p q : Prop} (x0 : q) (h : q → p := by intro h0_; (with_reducible repeat (first | refine zl ?_ _ | refine zm ?_ | refine zi ?_ _)); refine zV (cs := #[.int .i64 ((zk l1 x13_1).f0), .int .i64 ((zk l1 x13_1).f1), .string (⟨#[]⟩ : ByteArray)]) ?_ 2 _ rfl; (with_reducible repeat (first | refine zl ?_ _ | refine zm ?_ | refine zi ?_ _)); refine zV (cs := #[.int .i64 ((zk l1 x13_1).f0), .int .i64 0, .string (⟨#[]⟩ : ByteArray)]) ?_ 1 _ rfl; (with_reducible repeat (first | refine zl ?_ _ | refine zm ?_ | refine zi ?_ _)); refine zV (cs := #[.int .i64 0, .int .i64 0, .string (⟨#[]⟩ : ByteArray)]) ?_ 0 _ rfl; (with_reducible repeat (first | refine zl ?_ _ | refine zm ?_ | refine zi ?_ _)); exact h0_) : p := h x0
theorem qz {p q r : Prop} (x0 : q) (x1 : r) (h : q → r → p := by intro h0_ h1_; repeat (first | (with_reducible first | exact h0_ | apply ze | apply zb | apply zg | refine zh ?_ (zG.ge h1_)) | exact h0_)) : p := h x0 x1
theorem qA {p : Prop} (h : p := by rfl) : p := h
theorem qB {p q : Prop} (x0 : q) (h : q → p := by intro h0_; have := h0_; omega) : p := h x0
theorem qC {p : Prop} (h : p := by simp) : p := h
theorem qD {p q : Prop} (x0 : q) (h : q → p := by intro h0_; (with_reducible repeat (first | apply Kd.zaE | apply Kd.zau | apply Kd.zaJ)); exact Kd.zaB h0_ (fun _ hk => hk.2)) : p := h x0
theorem qE {p : Prop} (h : p := by simp only [zcu,Act.put,List.setIfInBounds_toArray,List.set_cons_zero,List.set_cons_succ]) : p := h
theorem qF {p : Prop} (h : p := by have := World.block_lt_of_cell? _ _ hx117_0; first | rwa [add_block] at this | exact this) : p := h
theorem qG {p : Prop} (h : p := by dsimp only; omega) : p := h
theorem qH {p q r : Prop} (x0 : q) (x1 : r) (h : q → r → p := by intro h0_ h1_; (with_reducible repeat (first | refine zl ?_ _ | refine zm ?_ | refine zi ?_ _)); refine zav ?_ h0_ _; (with_reducible repeat (first | refine zl ?_ _ | refine zm ?_ | refine zi ?_ _)); refine zav ?_ h0_ _; (with_reducible repeat (first | refine zl ?_ _ | refine zm ?_ | refine zi ?_ _)); refine zav ?_ h0_ _; (with_reducible repeat (first | refine zl ?_ _ | refine zm ?_ | refine zi ?_ _)); exact h1_) : p := h x0 x1
theorem qI {p : Prop} (h : p := by simp; omega) : p := h
theorem qJ {p : Prop} (h : p := by first | rfl | (simp; done) | (simp only [← hji10] <;> (first | rfl | simp)) | (simp [*]; done)) : p := h
theorem qK {p q : Prop} (x0 : q) (h : q → p := by intro h0_; repeat (first | exact (Kd.zbd h0_).2.2 | (with_reducible refine Kd.zZ ?_ _) | (with_reducible refine Kd.z8 ?_ _) | (with_reducible refine Kd.zah ?_))) : p := h x0
theorem qL {p : Prop} (h : p := by simp only [List.length_nil]; omega) : p := h
theorem qM {p : Prop} (h : p := by rintro cs fr he; injection he with _ he; cases he) : p := h
theorem qN {p q r s t : Prop} (x0 : q) (x1 : r) (x2 : s) (x3 : t) (h : q → r → s → t → p := by intro h0_ h1_ h2_ h3_; repeat (first | exact (Kd.zU h0_ (by repeat (first | (with_reducible first | exact h1_ | apply ze | apply zb | apply zg | refine zh ?_ h2_ | refine zh ?_ h3_) | exact h1_))) | (with_reducible refine Kd.zZ ?_ _) | (with_reducible refine Kd.z8 ?_ _) | (with_reducible refine Kd.zah ?_))) : p := h x0 x1 x2 x3
theorem qO {p : Prop} (h : p := by rw [List.length_append,List.length_singleton]; omega) : p := h
theorem qP {p : Prop} (h : p := by simp only [sz]) : p := h
theorem qQ {p : Prop} (h : p := by rintro a b he; cases he) : p := h
def stringslite_HasPrefix.f (a0 : ByteArray) (a1 : ByteArray) : Option (Bool) := if (a0.size : Int) ≥ (a1.size : Int) then (if 0 ≤ (a1.size : Int) then (if (a1.size : Int) ≤ (a0.size : Int) then (some ((a0.extract 0 ((a1.size : Int) : Int).toNat).toList == a1.toList)) else (none)) else (none)) else (some false)
set_option maxHeartbeats 8000000 in
set_option maxRecDepth 100000 in
theorem stringslite_HasPrefix.calls (a0 : ByteArray) (a1 : ByteArray) (r : Bool) (w : World) (h : stringslite_HasPrefix.f a0 a1 = some r) :
  Calls Try.prog 125 #[.string a0, .string a1] w fun e w' => e = .returned (.bool r) ∧ zz w w' := by
 have H : (if (a0.size : Int) ≥ (a1.size : Int) then (if 0 ≤ (a1.size : Int) then (if (a1.size : Int) ≤ (a0.size : Int) then (some ((a0.extract 0 ((a1.size : Int) : Int).toNat).toList == a1.toList)) else (none)) else (none)) else (some false)) = some r := h
 clear h
 by_cases c3 : (a0.size : Int) ≥ (a1.size : Int)
 ·rw [if_pos c3] at H
  have c3b0 : decide ((a1.size : Int) ≤ (a0.size : Int)) = true := decide_eq_true c3
  have c3b1 : decide (a1.size ≤ a0.size) = true := decide_eq_true (Int.ofNat_le.mp c3)
  clear c3
  by_cases c4 : 0 ≤ (a1.size : Int)
  ·rw [if_pos c4] at H
   have c4b0 := eq_true c4
   have c4b1 : decide (0 ≤ (a1.size : Int)) = true := decide_eq_true c4
   clear c4
   by_cases c5 : (a1.size : Int) ≤ (a0.size : Int)
   ·rw [if_pos c5] at H
    have c5b0 := eq_true c5
    have c5b1 : decide ((a1.size : Int) ≤ (a0.size : Int)) = true := decide_eq_true c5
    clear c5
    obtain rfl := Option.some.inj H
    go_enter Try.func125,Try.ntmps125
    go_wp2
    go_ret
    exact ⟨by first | rfl | (simp; done) | (simp [*]; done),by repeat (first | exact zz.refl _ | apply zz.step)⟩
   ·rw [if_neg c5] at H
    exact absurd H qC
  ·rw [if_neg c4] at H
   exact absurd H qC
 ·rw [if_neg c3] at H
  have c3b0 : decide ((a1.size : Int) ≤ (a0.size : Int)) = false := decide_eq_false c3
  have c3b1 : decide (a1.size ≤ a0.size) = false := decide_eq_false (fun h => c3 (Int.ofNat_le.mpr h))
  clear c3
  obtain rfl := Option.some.inj H
  go_enter Try.func125,Try.ntmps125
  go_wp2
  go_ret
  exact ⟨by first | rfl | (simp; done) | (simp [*]; done),by repeat (first | exact zz.refl _ | apply zz.step)⟩
def strings_HasPrefix.f (a0 : ByteArray) (a1 : ByteArray) : Option (Bool) := (stringslite_HasPrefix.f a0 a1).bind fun t102 => (some t102)
set_option maxHeartbeats 8000000 in
set_option maxRecDepth 100000 in
theorem strings_HasPrefix.calls (a0 : ByteArray) (a1 : ByteArray) (r : Bool) (w : World) (h : strings_HasPrefix.f a0 a1 = some r) :
  Calls Try.prog 106 #[.string a0, .string a1] w fun e w' => e = .returned (.bool r) ∧ zz w w' := by
 have H : ((stringslite_HasPrefix.f a0 a1).bind fun t102 => (some t102)) = some r := h
 clear h
 replace H := Option.bind_eq_some_iff.mp H
 obtain ⟨t102,A30,H⟩ := H
 replace H : (some t102) = some r := H
 have A3 := za.mk A30
 clear A30
 obtain rfl := Option.some.inj H
 go_enter Try.func106,Try.ntmps106
 go_wp2_with (first | ((with_reducible refine zA (f := 125) rfl ?_); refine zW (some 7) rfl rfl Try.func125 qg rfl #[.string a0, .string a1] rfl qb ?_; (with_reducible refine (stringslite_HasPrefix.calls a0 a1 t102 _ A3.out).mono ?_); rintro e w' ⟨rfl,⟨nd,rfl⟩⟩; refine ⟨_,rfl,?_⟩))
 go_ret
 exact ⟨by first | rfl | (simp; done) | (simp [*]; done),by repeat (first | exact zz.refl _ | apply zz.step)⟩
def stringslite_HasSuffix.f (a0 : ByteArray) (a1 : ByteArray) : Option (Bool) := if (a0.size : Int) ≥ (a1.size : Int) then (if 0 ≤ (wrap64 ((a0.size : Int) - (a1.size : Int))) then (if (wrap64 ((a0.size : Int) - (a1.size : Int))) ≤ (a0.size : Int) then (some ((a0.extract ((wrap64 ((a0.size : Int) - (a1.size : Int))) : Int).toNat a0.size).toList == a1.toList)) else (none)) else (none)) else (some false)
set_option maxHeartbeats 8000000 in
set_option maxRecDepth 100000 in
theorem stringslite_HasSuffix.calls (a0 : ByteArray) (a1 : ByteArray) (r : Bool) (w : World) (h : stringslite_HasSuffix.f a0 a1 = some r) :
  Calls Try.prog 126 #[.string a0, .string a1] w fun e w' => e = .returned (.bool r) ∧ zz w w' := by
 have H : (if (a0.size : Int) ≥ (a1.size : Int) then (if 0 ≤ (wrap64 ((a0.size : Int) - (a1.size : Int))) then (if (wrap64 ((a0.size : Int) - (a1.size : Int))) ≤ (a0.size : Int) then (some ((a0.extract ((wrap64 ((a0.size : Int) - (a1.size : Int))) : Int).toNat a0.size).toList == a1.toList)) else (none)) else (none)) else (some false)) = some r := h
 clear h
 by_cases c3 : (a0.size : Int) ≥ (a1.size : Int)
 ·rw [if_pos c3] at H
  have c3b0 : decide ((a1.size : Int) ≤ (a0.size : Int)) = true := decide_eq_true c3
  have c3b1 : decide (a1.size ≤ a0.size) = true := decide_eq_true (Int.ofNat_le.mp c3)
  clear c3
  obtain ⟨ji4,hji4⟩ : ∃ j_ : Int,(wrap64 ((a0.size : Int) - (a1.size : Int))) = j_ := ⟨_,rfl⟩
  replace H : (if 0 ≤ (ji4) then (if (ji4) ≤ (a0.size : Int) then (some ((a0.extract ((ji4) : Int).toNat a0.size).toList == a1.toList)) else (none)) else (none)) = some r := by first | (rw [hji4] at H; exact H) | (simp only [hji4] at H ⊢; exact H)
  have hji4w : (IntKind.i64.wrap ((a0.size : Int) - (a1.size : Int))) = ji4 := (zS _).trans hji4
  by_cases c5 : 0 ≤ (ji4)
  ·rw [if_pos c5] at H
   have c5b0 := eq_true c5
   have c5b1 : decide (0 ≤ (ji4)) = true := decide_eq_true c5
   clear c5
   by_cases c6 : (ji4) ≤ (a0.size : Int)
   ·rw [if_pos c6] at H
    have c6b0 := eq_true c6
    have c6b1 : decide ((ji4) ≤ (a0.size : Int)) = true := decide_eq_true c6
    clear c6
    obtain rfl := Option.some.inj H
    go_enter Try.func126,Try.ntmps126
    go_wp2
    go_ret
    exact ⟨by first | rfl | (simp; done) | (simp only [← hji4] <;> (first | rfl | simp)) | (simp [*]; done),by repeat (first | exact zz.refl _ | apply zz.step)⟩
   ·rw [if_neg c6] at H
    exact absurd H qC
  ·rw [if_neg c5] at H
   exact absurd H qC
 ·rw [if_neg c3] at H
  have c3b0 : decide ((a1.size : Int) ≤ (a0.size : Int)) = false := decide_eq_false c3
  have c3b1 : decide (a1.size ≤ a0.size) = false := decide_eq_false (fun h => c3 (Int.ofNat_le.mpr h))
  clear c3
  obtain rfl := Option.some.inj H
  go_enter Try.func126,Try.ntmps126
  go_wp2
  go_ret
  exact ⟨by first | rfl | (simp; done) | (simp [*]; done),by repeat (first | exact zz.refl _ | apply zz.step)⟩
def strings_HasSuffix.f (a0 : ByteArray) (a1 : ByteArray) : Option (Bool) := (stringslite_HasSuffix.f a0 a1).bind fun t103 => (some t103)
set_option maxHeartbeats 8000000 in
set_option maxRecDepth 100000 in
theorem strings_HasSuffix.calls (a0 : ByteArray) (a1 : ByteArray) (r : Bool) (w : World) (h : strings_HasSuffix.f a0 a1 = some r) :
  Calls Try.prog 107 #[.string a0, .string a1] w fun e w' => e = .returned (.bool r) ∧ zz w w' := by
 have H : ((stringslite_HasSuffix.f a0 a1).bind fun t103 => (some t103)) = some r := h
 clear h
 replace H := Option.bind_eq_some_iff.mp H
 obtain ⟨t103,A30,H⟩ := H
 replace H : (some t103) = some r := H
 have A3 := za.mk A30
 clear A30
 obtain rfl := Option.some.inj H
 go_enter Try.func107,Try.ntmps107
 go_wp2_with (first | ((with_reducible refine zA (f := 126) rfl ?_); refine zW (some 7) rfl rfl Try.func126 qg rfl #[.string a0, .string a1] rfl qb ?_; (with_reducible refine (stringslite_HasSuffix.calls a0 a1 t103 _ A3.out).mono ?_); rintro e w' ⟨rfl,⟨nd,rfl⟩⟩; refine ⟨_,rfl,?_⟩))
 go_ret
 exact ⟨by first | rfl | (simp; done) | (simp [*]; done),by repeat (first | exact zz.refl _ | apply zz.step)⟩
section
variable {P : Program} {ops : Array Oper} {Q : Exit → Act → World → Prop}
theorem zew {rest : List Oper} {oi : Oper} {a : Act} {w : World} (N : Option Tmp) (hd : oi.dst = N) (hg : oi.guard = none) {f : FuncId} {fn : Func} {x : Operand} {ops_ : Array Operand} {ts : Array TypeId} {zdN : Array Value} (hf : P.funcs[f]? = some fn) (hname : (fn.name == "runtime.NumGoroutine") = false) (hb : fn.body.isSome = true) (args : Array Value)
  (hop : oi.op = .call { callee := .value x,args := ops_,argTypes := ts }) (hx : a.eval x = .func (.func f) #[] zdN) (hargs : ops_.map a.eval ++ zdN = args)
  (h : Calls P f args w fun e w' => ∃ v,e = .returned v ∧ wpList P ops Q rest (a.put N v) w') : wpList P ops Q (oi :: rest) a w := by
 refine wpList_plain hg fun K hK => ?_
 have he := zeE hf hname hb args w
 have hrun : (execOp a.eval oi).run P w = .ok (.enter f args) w := by
  unfold execOp
  have hx' : a.eval x = .func (.func f) #[] zdN := hx
  simp [hop,resolve,Deferred.ofValue,invoke,hx',hargs,he]
 unfold Oper.wp
 rw [hrun,Oper.upon_enter]
 refine h.mono fun e w'' hh => ?_
 obtain ⟨v,rfl,hk⟩ := hh
 subst hd
 exact hK _ _ hk
theorem zfR {oi : Oper} {N : Option Tmp} {a : Act} {w : World} {K : Act → World → Prop} {f : FuncId} {fn : Func} {x : Operand} {ops_ : Array Operand} {ts : Array TypeId} {zdN : Array Value} (hf : P.funcs[f]? = some fn) (hname : (fn.name == "runtime.NumGoroutine") = false) (hb : fn.body.isSome = true) (args : Array Value)
  (hw : Region.wanted oi (yielded ops a.tmps) = true) (hN : oi.dst = N) (hop : oi.op = .call { callee := .value x,args := ops_,argTypes := ts }) (hx : a.eval x = .func (.func f) #[] zdN) (hargs : ops_.map a.eval ++ zdN = args)
  (h : Calls P f args w fun e w' => ∃ v,e = .returned v ∧ K (a.put N v) w') : if Region.wanted oi (yielded ops a.tmps) = true then Oper.wp P oi a w K Q else K (a.put N undef) w := by
 refine call_ f args hw hN ?_ h
 have he := zeE hf hname hb args w
 unfold execOp
 have hx' : a.eval x = .func (.func f) #[] zdN := hx
 simp [hop,resolve,Deferred.ofValue,invoke,hx',hargs,he]
end
def zaf.f (a0_0 : Int) (l0_1 : List (S63)) (a1_0 : Int) (a1_1 : Int) (a1_2 : ByteArray) : Option (Int × (List (S63))) := (some (([(⟨a1_0,a1_1,a1_2⟩ : S63)] : List (S63)) : List (S63))).bind fun y118 => (if y118.length + l0_1.length < 4398046511104 then ((some (y118 ++ l0_1 : List (S63))).bind fun y121 => (if a1_0 = 3 then (some (a0_0,y121)) else (some (wrap64 (a0_0 + 1),y121)))) else (none))
def zaf.T1 : Bool × List (List Nat × List Nat) := (true,[([],[]),([0],[0]),([],[]),([2],[2]),([],[]),([4],[4]),([3,5],[3,5]),([1,6],[1,6]),([],[]),([8,7,6,0,1,2,3,4,5,6,7,8],[7,8])])
def zaf.B1 : List Nat := [0,1,0,4,0,16,60,127,0,511]
theorem zaf.zfq : zbD .any (opsOf Try.f96 1) = zaf.T1 := by kernel_rfl
theorem zaf.zeH : zcD zaf.T1.2 zaf.B1 = true := by kernel_rfl
set_option maxHeartbeats 8000000 in
set_option maxRecDepth 100000 in
theorem zaf.calls (a0_0 : Int) (A0_1 : Option Addr) (c0_1 : Nat) (l0_1 : List (S63)) (a1_0 : Int) (a1_1 : Int) (a1_2 : ByteArray) (r1 : Int) (r2 : List (S63)) (w : World) (hr0_1 : Kd.C k63 w A0_1 l0_1.length l0_1) (hc0_1 : l0_1.length ≤ c0_1) (h : zaf.f a0_0 l0_1 a1_0 a1_1 a1_2 = some (r1,r2)) :
  Calls Try.prog 96 #[.agg #[.int .i64 a0_0, .slice A0_1 l0_1.length c0_1], .agg #[.int .i64 a1_0, .int .i64 a1_1, .string a1_2]] w fun e w' => ∃ v1_ : Value,e = .returned (.agg #[.int .i64 r1,v1_]) ∧ Kd.R k63 63 w' w.heap.size (fun _ => True) v1_ r2 ∧ Below w.heap.size w w' := by
 have hu134 := Try.underlying134
 have hu63 := Try.underlying63
 have HR0_1 := za.mk hr0_1
 have HC0_1 := za.mk hc0_1
 clear hr0_1 hc0_1
 have HB := za.mk (Below.refl w.heap.size w)
 have H : ((some (([(⟨a1_0,a1_1,a1_2⟩ : S63)] : List (S63)) : List (S63))).bind fun y118 => (if y118.length + l0_1.length < 4398046511104 then ((some (y118 ++ l0_1 : List (S63))).bind fun y121 => (if a1_0 = 3 then (some (a0_0,y121)) else (some (wrap64 (a0_0 + 1),y121)))) else (none))) = some (r1,r2) := h
 clear h
 obtain ⟨y118,hy118⟩ : ∃ y_ : List (S63),y_ = (([(⟨a1_0,a1_1,a1_2⟩ : S63)] : List (S63))) := ⟨_,rfl⟩
 replace H : (if y118.length + l0_1.length < 4398046511104 then ((some (y118 ++ l0_1 : List (S63))).bind fun y121 => (if a1_0 = 3 then (some (a0_0,y121)) else (some (wrap64 (a0_0 + 1),y121)))) else (none)) = some (r1,r2) := by first | (rw [hy118]; with_reducible exact H) | (have H2_ := (Option.bind_some _ _).symm.trans H; rw [hy118]; with_reducible exact H2_) | (have H2_ := (Option.bind_some _ _).symm.trans H; with_reducible exact H2_) | with_reducible exact H | (rw [hy118]; exact H) | exact H
 have Ny118 := za.mk hy118
 clear hy118
 by_cases c3 : y118.length + l0_1.length < 4398046511104
 ·rw [if_pos c3] at H
  have LMc3 := za.mk c3
  clear c3
  obtain ⟨y121,hy121⟩ : ∃ y_ : List (S63),y_ = (y118 ++ l0_1) := ⟨_,rfl⟩
  replace H : (if a1_0 = 3 then (some (a0_0,y121)) else (some (wrap64 (a0_0 + 1),y121))) = some (r1,r2) := by first | (rw [hy121]; with_reducible exact H) | (have H2_ := (Option.bind_some _ _).symm.trans H; rw [hy121]; with_reducible exact H2_) | (have H2_ := (Option.bind_some _ _).symm.trans H; with_reducible exact H2_) | with_reducible exact H | (rw [hy121]; exact H) | exact H
  have Ny121 := za.mk hy121
  clear hy121
  by_cases c4 : a1_0 = 3
  ·rw [if_pos c4] at H
   have c4b0 : (a1_0 == 3) = true := beq_iff_eq.mpr c4
   have c4b1 : (a1_0 != 3) = false := bne_eq_false_iff_eq.mpr c4
   clear c4
   simp only [Option.some.injEq,Prod.mk.injEq] at H
   obtain ⟨rfl,rfl⟩ := H
   go_enter Try.func96,Try.ntmps96
   try go_wp2_with (first | ((with_reducible refine zaa (N := 2) rfl ?_); refine zao ?hg (N := 2) ?hd (cs := #[.int .i64 a0_0, .slice A0_1 l0_1.length c0_1]) (t := 134) ?hr ?_; (case hd => rfl); (case hg => rfl); (case hr => exact qk); intro gb115 hg w5 hbox hb; have n0_ := za.mk (zo (qc HB.out) hb); have n1_ := za.mk (hbox); have n2_ := za.mk ((by rw [hg]; exact (zy (qc HB.out)) : w.heap.size ≤ gb115)); have n3_ := za.mk ((by rw [hg]; exact (zy (qc HB.out)) : w.heap.size ≤ gb115)); clear HB; have HB := n0_; have BK115 := n1_; have GW115 := n2_; have GE115 := n3_; clear n0_ n1_ n2_ n3_; clear hb hbox hg) | ((with_reducible refine zaa (N := 3) rfl ?_); refine zao ?hg (N := 3) ?hd (cs := #[.int .i64 a1_0, .int .i64 a1_1, .string a1_2]) (t := 63) ?hr ?_; (case hd => rfl); (case hg => rfl); (case hr => exact qk); intro gb116 hg w6 hbox hb; have n0_ := za.mk (zu (g := gb115) (o := .cells #[.int .i64 a0_0, .slice A0_1 l0_1.length c0_1] 134 (0,0)) (qa BK115.out) hb); have n1_ := za.mk (zo (qf HB.out GE115.out) hb); have n2_ := za.mk (hbox); have n3_ := za.mk ((by rw [hg]; exact (zy (qf HB.out GE115.out)) : w.heap.size ≤ gb116)); have n4_ := za.mk ((by rw [hg]; exact (zy (qf HB.out GE115.out)) : w.heap.size ≤ gb116)); have n5_ := za.mk ((by rw [hg]; exact Nat.ne_of_lt (zR (g := gb115) (o := .cells #[.int .i64 a0_0, .slice A0_1 l0_1.length c0_1] 134 (0,0)) (qa BK115.out)) : gb115 ≠ gb116)); have n6_ := za.mk ((by rw [hg]; exact Nat.ne_of_gt (zR (g := gb115) (o := .cells #[.int .i64 a0_0, .slice A0_1 l0_1.length c0_1] 134 (0,0)) (qa BK115.out)) : gb116 ≠ gb115)); clear BK115; clear HB; have BK115 := n0_; have HB := n1_; have BK116 := n2_; have GW116 := n3_; have GE116 := n4_; have NB115_116 := n5_; have NB116_115 := n6_; clear n0_ n1_ n2_ n3_ n4_ n5_ n6_; clear hb hbox hg) | ((with_reducible refine zaa (N := 4) rfl ?_); refine zao ?hg (N := 4) ?hd (cs := #[.int .i64 0, .slice none 0 0]) (t := 134) ?hr ?_; (case hd => rfl); (case hg => rfl); (case hr => exact qk); intro gb117 hg w7 hbox hb; have n0_ := za.mk (zu (g := gb115) (o := .cells #[.int .i64 a0_0, .slice A0_1 l0_1.length c0_1] 134 (0,0)) (qa BK115.out) hb); have n1_ := za.mk (zu (g := gb116) (o := .cells #[.int .i64 a1_0, .int .i64 a1_1, .string a1_2] 63 (0,0)) (qa BK116.out) hb); have n2_ := za.mk (zo (qn HB.out GE115.out GE116.out) hb); have n3_ := za.mk (hbox); have n4_ := za.mk ((by rw [hg]; exact (zy (qn HB.out GE115.out GE116.out)) : w.heap.size ≤ gb117)); have n5_ := za.mk ((by rw [hg]; exact (zy (qn HB.out GE115.out GE116.out)) : w.heap.size ≤ gb117)); have n6_ := za.mk ((by rw [hg]; exact Nat.ne_of_lt (zR (g := gb115) (o := .cells #[.int .i64 a0_0, .slice A0_1 l0_1.length c0_1] 134 (0,0)) (qa BK115.out)) : gb115 ≠ gb117)); have n7_ := za.mk ((by rw [hg]; exact Nat.ne_of_gt (zR (g := gb115) (o := .cells #[.int .i64 a0_0, .slice A0_1 l0_1.length c0_1] 134 (0,0)) (qa BK115.out)) : gb117 ≠ gb115)); have n8_ := za.mk ((by rw [hg]; exact Nat.ne_of_lt (zR (g := gb116) (o := .cells #[.int .i64 a1_0, .int .i64 a1_1, .string a1_2] 63 (0,0)) (qa BK116.out)) : gb116 ≠ gb117)); have n9_ := za.mk ((by rw [hg]; exact Nat.ne_of_gt (zR (g := gb116) (o := .cells #[.int .i64 a1_0, .int .i64 a1_1, .string a1_2] 63 (0,0)) (qa BK116.out)) : gb117 ≠ gb116)); clear BK115; clear BK116; clear HB; have BK115 := n0_; have BK116 := n1_; have HB := n2_; have BK117 := n3_; have GW117 := n4_; have GE117 := n5_; have NB115_117 := n6_; have NB117_115 := n7_; have NB116_117 := n8_; have NB117_116 := n9_; clear n0_ n1_ n2_ n3_ n4_ n5_ n6_ n7_ n8_ n9_; clear hb hbox hg))
   have n0_ := za.mk (zm BK115.out)
   have n1_ := za.mk (zm BK116.out)
   have n2_ := za.mk (zm BK117.out)
   have n3_ := za.mk (zg HB.out)
   clear BK115
   clear BK116
   clear BK117
   clear HB
   have BK115 := n0_
   have BK116 := n1_
   have BK117 := n2_
   have HB := n3_
   clear n0_ n1_ n2_ n3_
   refine zdx (n := 10) (S := fun w' => w'.cell? ⟨gb115,0,none⟩ = some (.int .i64 a0_0) ∧ w'.cell? ⟨gb115,1,none⟩ = some (.slice A0_1 l0_1.length c0_1) ∧ w'.cell? ⟨gb116,0,none⟩ = some (.int .i64 a1_0) ∧ w'.cell? ⟨gb116,1,none⟩ = some (.int .i64 a1_1) ∧ w'.cell? ⟨gb116,2,none⟩ = some (.string a1_2)) (ds := []) #[false,false,false,false,false,false,false,false,false,false] qg rfl rfl ⟨(zf BK115.out 0).trans rfl,(zf BK115.out 1).trans rfl,(zf BK116.out 0).trans rfl,(zf BK116.out 1).trans rfl,(zf BK116.out 2).trans rfl⟩ (fun hHeld => ?_); refine zcq zaf.zfq zaf.zeH (fun HT_ HW_ => ?_)
   generalize w7.drew = w8 at BK115 BK116 BK117 HB hHeld ⊢
   refine zaF (i := 0) (N := some 6) (v := ?_) (a' := ?_) #[true,false,false,false,false,false,false,false,false,false] rfl rfl (zas HT_.out qg) (fun _ _ _ h => h) (Or.inl ⟨by rfl,?_⟩) ?_ ?_
   rotate_left
   ·intro w'
    go_simp
    with_reducible rfl
   rotate_left
   ·simp only [Act.put,List.setIfInBounds_toArray,List.set_cons_zero,List.set_cons_succ,zS,zT]
    rfl
   refine zaF (i := 4) (N := some 10) (v := ?_) (a' := ?_) #[true,false,false,false,true,false,false,false,false,false] rfl rfl (zas HT_.out qg) (fun _ _ _ h => h) (Or.inl ⟨by rfl,?_⟩) ?_ ?_
   rotate_left
   ·intro w'
    go_simp
    with_reducible rfl
   rotate_left
   ·simp only [Act.put,List.setIfInBounds_toArray,List.set_cons_zero,List.set_cons_succ,zS,zT]
    rfl
   refine zbk (i := 1) (N := some 7) (v := ?_) (a' := ?_) #[true,true,false,false,true,false,false,false,false,false] rfl rfl (zaL HT_.out HW_.out qg) (fun _ _ _ h => h) (Or.inl ⟨by rfl,?_⟩) hHeld ?_ ?_
   rotate_left
   ·rintro w' ⟨s0,s1,s2,s3,s4⟩
    go_simp
    with_reducible rfl
   rotate_left
   ·simp only [Act.put,List.setIfInBounds_toArray,List.set_cons_zero,List.set_cons_succ,zS,zT]
    rfl
   refine zbk (i := 2) (N := some 8) (v := ?_) (a' := ?_) #[true,true,true,false,true,false,false,false,false,false] rfl rfl (zaL HT_.out HW_.out qg) (fun _ _ _ h => h) (Or.inl ⟨by rfl,?_⟩) hHeld ?_ ?_
   rotate_left
   ·rintro w' ⟨s0,s1,s2,s3,s4⟩
    go_simp
    with_reducible rfl
   rotate_left
   ·simp only [Act.put,List.setIfInBounds_toArray,List.set_cons_zero,List.set_cons_succ,zS,zT]
    rfl
   refine zbk (i := 5) (N := some 11) (v := ?_) (a' := ?_) #[true,true,true,false,true,true,false,false,false,false] rfl rfl (zaL HT_.out HW_.out qg) (fun _ _ _ h => h) (Or.inl ⟨by rfl,?_⟩) hHeld ?_ ?_
   rotate_left
   ·rintro w' ⟨s0,s1,s2,s3,s4⟩
    go_simp
    with_reducible rfl
   rotate_left
   ·simp only [Act.put,List.setIfInBounds_toArray,List.set_cons_zero,List.set_cons_succ,zS,zT]
    rfl
   refine zih (σ := Value × Value × Nat) 1 #[true,true,true,true,true,true,true,true,true,false] (fun s_ => [(9,s_.1),(12,s_.2.1),(5, .pointer (some ⟨s_.2.2,0,none⟩)),(13, .agg #[.int .i64 a0_0,s_.2.1])]) (fun s_ w' => (w'.cell? ⟨gb115,0,none⟩ = some (.int .i64 a0_0) ∧ w'.cell? ⟨gb115,1,none⟩ = some (.slice A0_1 l0_1.length c0_1) ∧ w'.cell? ⟨gb116,0,none⟩ = some (.int .i64 a1_0) ∧ w'.cell? ⟨gb116,1,none⟩ = some (.int .i64 a1_1) ∧ w'.cell? ⟨gb116,2,none⟩ = some (.string a1_2)) ∧ (Kd.R k63 63 w' w.heap.size (fun k_ => k_ ≠ gb116) s_.2.1 y121) ∧ (w'.heap[gb115]? = some (.cells #[.int .i64 a0_0, .slice A0_1 l0_1.length c0_1] 134 (0,0))) ∧ (w'.heap[gb116]? = some (.cells #[.int .i64 a1_0, .int .i64 a1_1, .string a1_2] 63 (0,0))) ∧ (w'.heap[gb117]? = some (.cells #[.int .i64 0, .slice none 0 0] 134 (0,0))) ∧ (w'.heap[s_.2.2]? = some (.cells #[.int .i64 0, .slice none 0 0] 134 (0,0))) ∧ (w.heap.size ≤ s_.2.2) ∧ (w.heap.size ≤ s_.2.2) ∧ (gb115 ≠ s_.2.2) ∧ (s_.2.2 ≠ gb115) ∧ (gb116 ≠ s_.2.2) ∧ (s_.2.2 ≠ gb116) ∧ (gb117 ≠ s_.2.2) ∧ (s_.2.2 ≠ gb117) ∧ (Below w.heap.size w w')) ?_ ?_
   rotate_left
   ·intro hCont
    refine zgX (i := 3) (j := 8) (Ni := some 9) (Nj := some 5) #[true,true,true,true,true,true,false,false,false,false] #[true,true,true,false,true,true,false,false,true,false] rfl rfl rfl rfl (zfn HT_.out qg) qq qq (fun K hK => ?_) (fun K hK => ?_)
    ·skip
     refine Kd.zcC k63 _ 63 ?hg (N := 9) ?hd (xs := ([(⟨a1_0,a1_1,a1_2⟩ : S63)] : List (S63))) (inner := [.int .i64 a1_0, .int .i64 a1_1, .string a1_2]) (ok := fun _ => True) (okp := fun _ => True) ?hr ?hp (fun _ hk => hk) trivial (Below.refl _ _) (Nat.le_refl _) qC ?_; (case hd => rfl); (case hg => rfl); (case hr => exact qk); (case hp => exact (zX.c3 (show Kd.M k63 _ _ _ (⟨a1_0,a1_1,a1_2⟩ : S63) [.int .i64 a1_0, .int .i64 a1_1, .string a1_2] from (zbK _ _ _ (⟨a1_0,a1_1,a1_2⟩ : S63) )) (zX.none _ _)))
     intro v119 w9 ho10 hb hg_ hnew_
     clear hg_ hnew_
     (first | rw [← Ny118.out] at ho10 | (simp only [Int.reduceToNat] at ho10; rw [← Ny118.out] at ho10))
     have n0_ := za.mk (Kd.zaO (Kd.zfh ho10 (g := gb116) (o := .cells #[.int .i64 a1_0, .int .i64 a1_1, .string a1_2] 63 (0,0)) (qa BK116.out)) (zy (qi HB.out GE115.out GE116.out GE117.out)))
     have n1_ := za.mk (zu (g := gb115) (o := .cells #[.int .i64 a0_0, .slice A0_1 l0_1.length c0_1] 134 (0,0)) (qa BK115.out) hb)
     have n2_ := za.mk (zu (g := gb116) (o := .cells #[.int .i64 a1_0, .int .i64 a1_1, .string a1_2] 63 (0,0)) (qa BK116.out) hb)
     have n3_ := za.mk (zu (g := gb117) (o := .cells #[.int .i64 0, .slice none 0 0] 134 (0,0)) (qa BK117.out) hb)
     have n4_ := za.mk (zo (qi HB.out GE115.out GE116.out GE117.out) hb)
     clear BK115
     clear BK116
     clear BK117
     clear HB
     have HO120 := n0_
     have BK115 := n1_
     have BK116 := n2_
     have BK117 := n3_
     have HB := n4_
     clear n0_ n1_ n2_ n3_ n4_
     clear hb ho10
     refine hK.out _ _ ⟨(zf BK115.out 0).trans rfl,(zf BK115.out 1).trans rfl,(zf BK116.out 0).trans rfl,(zf BK116.out 1).trans rfl,(zf BK116.out 2).trans rfl⟩ (fun hHeld => ?_)
     clear hK K
     refine zaX (a' := ?_) ?_ ?_
     rotate_left
     ·show Act.put _ (some 9) _ = _
      simp only [Act.put,List.setIfInBounds_toArray,List.set_cons_zero,List.set_cons_succ,zS,zT]
      rfl
     refine zgX (i := 6) (j := 8) (Ni := some 12) (Nj := some 5) #[true,true,true,true,true,true,true,false,false,false] #[true,true,true,true,true,true,false,false,true,false] rfl rfl rfl rfl (zfn HT_.out qg) qq qq (fun K hK => ?_) (fun K hK => ?_)
     ·skip
      refine Kd.za7 k63 (w0 := w) w.heap.size qA (.tmp 9) (.tmp 11) 31 63 (.agg #[(.int .i64 0),(.int .i64 0),(.string ⟨#[]⟩)]) 32 rfl Try.underlying31 zb4 rfl qq ql v119 y118 l0_1 _ _ _ (fun k_ => k_ ≠ gb116) (fun _ => False) rfl rfl ?aO ?aR (fun _ _ h => h) (fun _ h => h.elim) ?aF ?aB ?aS ?aL ?_
      (case aR => exact qj HR0_1.out HB.out)
      (case aB => exact (qi HB.out GE115.out GE116.out GE117.out))
      (case aF => exact (fun k_ hk => Kd.zbq (g := gb116) (o := .cells #[.int .i64 a1_0, .int .i64 a1_1, .string a1_2] 63 (0,0)) (qa BK116.out) k_ hk))
      (case aO => exact (qD HO120.out))
      (case aS => exact (zy (qi HB.out GE115.out GE116.out GE117.out)))
      (case aL => have := LMc3.out; omega)
      intro v122 w11 ho hb hg hat
      rw [← Ny121.out] at ho
      have n0_ := za.mk (zaD (g := gb115) (o := .cells #[.int .i64 a0_0, .slice A0_1 l0_1.length c0_1] 134 (0,0)) (qa BK115.out) hg (Kd.zcw HO120.out BK115.out qq))
      have n1_ := za.mk (zaD (g := gb116) (o := .cells #[.int .i64 a1_0, .int .i64 a1_1, .string a1_2] 63 (0,0)) (qa BK116.out) hg (Kd.zdS HO120.out (fun _ hk => hk.2)))
      have n2_ := za.mk (zaD (g := gb117) (o := .cells #[.int .i64 0, .slice none 0 0] 134 (0,0)) (qa BK117.out) hg (Kd.zcw HO120.out BK117.out qq))
      have n3_ := za.mk (hb)
      have n4_ := za.mk (ho)
      clear BK115
      clear BK116
      clear BK117
      clear HB
      clear HO120
      have BK115 := n0_
      have BK116 := n1_
      have BK117 := n2_
      have HB := n3_
      have HO123 := n4_
      clear n0_ n1_ n2_ n3_ n4_
      clear ho hb hg hat
      obtain ⟨Ao12,co12,eo12⟩ := Kd.zbc HO123.out
      (first | subst eo12 | (injection eo12 with f1_ f2_ f3_; have f4_ := f1_.symm; have f5_ := f3_.symm; clear f1_ f2_ f3_; subst f4_; subst f5_))
      refine hK.out _ _ ⟨(zf BK115.out 0).trans rfl,(zf BK115.out 1).trans rfl,(zf BK116.out 0).trans rfl,(zf BK116.out 1).trans rfl,(zf BK116.out 2).trans rfl⟩ (fun hHeld => ?_)
      clear hK K
      refine zaX (a' := ?_) ?_ ?_
      rotate_left
      ·show Act.put _ (some 12) _ = _
       simp only [Act.put,List.setIfInBounds_toArray,List.set_cons_zero,List.set_cons_succ,zS,zT]
       rfl
      refine zaF (i := 7) (N := some 13) (v := ?_) (a' := ?_) #[true,true,true,true,true,true,true,true,false,false] rfl rfl (zas HT_.out qg) (fun _ _ _ h => h) (Or.inl ⟨by rfl,?_⟩) ?_ ?_
      rotate_left
      ·intro w'
       go_simp
       with_reducible rfl
      rotate_left
      ·simp only [Act.put,List.setIfInBounds_toArray,List.set_cons_zero,List.set_cons_succ,zS,zT]
       rfl
      refine zb1 (i := 8) (N := some 5) #[true,true,true,true,true,true,true,true,true,false] rfl rfl (zbr HT_.out qg) qq (fun K hK => ?_)
      refine zc5 ?hg (N := 5) ?hd (cs := #[.int .i64 0, .slice none 0 0]) (t := 134) ?hr ?_; (case hd => rfl); (case hg => rfl); (case hr => exact qk)
      intro gb124 hg w13 hbox hb
      have n0_ := za.mk (Kd.zD (qp HO123.out) hb)
      have n1_ := za.mk (zu (g := gb115) (o := .cells #[.int .i64 a0_0, .slice A0_1 l0_1.length c0_1] 134 (0,0)) (qa BK115.out) hb)
      have n2_ := za.mk (zu (g := gb116) (o := .cells #[.int .i64 a1_0, .int .i64 a1_1, .string a1_2] 63 (0,0)) (qa BK116.out) hb)
      have n3_ := za.mk (zu (g := gb117) (o := .cells #[.int .i64 0, .slice none 0 0] 134 (0,0)) (qa BK117.out) hb)
      have n4_ := za.mk (zo (qi HB.out GE115.out GE116.out GE117.out) hb)
      have n5_ := za.mk (hbox)
      have n6_ := za.mk ((by rw [hg]; exact (zy (qi HB.out GE115.out GE116.out GE117.out)) : w.heap.size ≤ gb124))
      have n7_ := za.mk ((by rw [hg]; exact (zy (qi HB.out GE115.out GE116.out GE117.out)) : w.heap.size ≤ gb124))
      have n8_ := za.mk ((by rw [hg]; exact Nat.ne_of_lt (zR (g := gb115) (o := .cells #[.int .i64 a0_0, .slice A0_1 l0_1.length c0_1] 134 (0,0)) (qa BK115.out)) : gb115 ≠ gb124))
      have n9_ := za.mk ((by rw [hg]; exact Nat.ne_of_gt (zR (g := gb115) (o := .cells #[.int .i64 a0_0, .slice A0_1 l0_1.length c0_1] 134 (0,0)) (qa BK115.out)) : gb124 ≠ gb115))
      have n10_ := za.mk ((by rw [hg]; exact Nat.ne_of_lt (zR (g := gb116) (o := .cells #[.int .i64 a1_0, .int .i64 a1_1, .string a1_2] 63 (0,0)) (qa BK116.out)) : gb116 ≠ gb124))
      have n11_ := za.mk ((by rw [hg]; exact Nat.ne_of_gt (zR (g := gb116) (o := .cells #[.int .i64 a1_0, .int .i64 a1_1, .string a1_2] 63 (0,0)) (qa BK116.out)) : gb124 ≠ gb116))
      have n12_ := za.mk ((by rw [hg]; exact Nat.ne_of_lt (zR (g := gb117) (o := .cells #[.int .i64 0, .slice none 0 0] 134 (0,0)) (qa BK117.out)) : gb117 ≠ gb124))
      have n13_ := za.mk ((by rw [hg]; exact Nat.ne_of_gt (zR (g := gb117) (o := .cells #[.int .i64 0, .slice none 0 0] 134 (0,0)) (qa BK117.out)) : gb124 ≠ gb117))
      clear HO123
      clear BK115
      clear BK116
      clear BK117
      clear HB
      have HO123 := n0_
      have BK115 := n1_
      have BK116 := n2_
      have BK117 := n3_
      have HB := n4_
      have BK124 := n5_
      have GW124 := n6_
      have GE124 := n7_
      have NB115_124 := n8_
      have NB124_115 := n9_
      have NB116_124 := n10_
      have NB124_116 := n11_
      have NB117_124 := n12_
      have NB124_117 := n13_
      clear n0_ n1_ n2_ n3_ n4_ n5_ n6_ n7_ n8_ n9_ n10_ n11_ n12_ n13_
      clear hb hbox hg
      refine hK.out _ _ ⟨(zf BK115.out 0).trans rfl,(zf BK115.out 1).trans rfl,(zf BK116.out 0).trans rfl,(zf BK116.out 1).trans rfl,(zf BK116.out 2).trans rfl⟩ (fun hHeld => ?_)
      clear hK K
      refine zaX (a' := ?_) ?_ ?_
      rotate_left
      ·show Act.put _ (some 5) _ = _
       simp only [Act.put,List.setIfInBounds_toArray,List.set_cons_zero,List.set_cons_succ,zS,zT]
       rfl
      exact zaX qE (hCont (v119, .slice Ao12 y121.length co12,gb124) _ ⟨hHeld,(qp HO123.out),(qa BK115.out),(qa BK116.out),(qa BK117.out),(qa BK124.out),GW124.out,GE124.out,NB115_124.out,NB124_115.out,NB116_124.out,NB124_116.out,NB117_124.out,NB124_117.out,(by repeat (first | (with_reducible first | exact HB.out | apply ze | apply zb | apply zg | refine zh ?_ GE115.out | refine zh ?_ GE116.out | refine zh ?_ GE117.out | refine zh ?_ GE124.out) | exact HB.out))⟩)
     ·skip
      refine zc5 ?hg (N := 5) ?hd (cs := #[.int .i64 0, .slice none 0 0]) (t := 134) ?hr ?_; (case hd => rfl); (case hg => rfl); (case hr => exact qk)
      intro gb124 hg w11 hbox hb
      have n0_ := za.mk (Kd.zD (qp HO120.out) hb)
      have n1_ := za.mk (zu (g := gb115) (o := .cells #[.int .i64 a0_0, .slice A0_1 l0_1.length c0_1] 134 (0,0)) (qa BK115.out) hb)
      have n2_ := za.mk (zu (g := gb116) (o := .cells #[.int .i64 a1_0, .int .i64 a1_1, .string a1_2] 63 (0,0)) (qa BK116.out) hb)
      have n3_ := za.mk (zu (g := gb117) (o := .cells #[.int .i64 0, .slice none 0 0] 134 (0,0)) (qa BK117.out) hb)
      have n4_ := za.mk (zo (qi HB.out GE115.out GE116.out GE117.out) hb)
      have n5_ := za.mk (hbox)
      have n6_ := za.mk ((by rw [hg]; exact (zy (qi HB.out GE115.out GE116.out GE117.out)) : w.heap.size ≤ gb124))
      have n7_ := za.mk ((by rw [hg]; exact (zy (qi HB.out GE115.out GE116.out GE117.out)) : w.heap.size ≤ gb124))
      have n8_ := za.mk ((by rw [hg]; exact Nat.ne_of_lt (zR (g := gb115) (o := .cells #[.int .i64 a0_0, .slice A0_1 l0_1.length c0_1] 134 (0,0)) (qa BK115.out)) : gb115 ≠ gb124))
      have n9_ := za.mk ((by rw [hg]; exact Nat.ne_of_gt (zR (g := gb115) (o := .cells #[.int .i64 a0_0, .slice A0_1 l0_1.length c0_1] 134 (0,0)) (qa BK115.out)) : gb124 ≠ gb115))
      have n10_ := za.mk ((by rw [hg]; exact Nat.ne_of_lt (zR (g := gb116) (o := .cells #[.int .i64 a1_0, .int .i64 a1_1, .string a1_2] 63 (0,0)) (qa BK116.out)) : gb116 ≠ gb124))
      have n11_ := za.mk ((by rw [hg]; exact Nat.ne_of_gt (zR (g := gb116) (o := .cells #[.int .i64 a1_0, .int .i64 a1_1, .string a1_2] 63 (0,0)) (qa BK116.out)) : gb124 ≠ gb116))
      have n12_ := za.mk ((by rw [hg]; exact Nat.ne_of_lt (zR (g := gb117) (o := .cells #[.int .i64 0, .slice none 0 0] 134 (0,0)) (qa BK117.out)) : gb117 ≠ gb124))
      have n13_ := za.mk ((by rw [hg]; exact Nat.ne_of_gt (zR (g := gb117) (o := .cells #[.int .i64 0, .slice none 0 0] 134 (0,0)) (qa BK117.out)) : gb124 ≠ gb117))
      clear HO120
      clear BK115
      clear BK116
      clear BK117
      clear HB
      have HO120 := n0_
      have BK115 := n1_
      have BK116 := n2_
      have BK117 := n3_
      have HB := n4_
      have BK124 := n5_
      have GW124 := n6_
      have GE124 := n7_
      have NB115_124 := n8_
      have NB124_115 := n9_
      have NB116_124 := n10_
      have NB124_116 := n11_
      have NB117_124 := n12_
      have NB124_117 := n13_
      clear n0_ n1_ n2_ n3_ n4_ n5_ n6_ n7_ n8_ n9_ n10_ n11_ n12_ n13_
      clear hb hbox hg
      refine hK.out _ _ ⟨(zf BK115.out 0).trans rfl,(zf BK115.out 1).trans rfl,(zf BK116.out 0).trans rfl,(zf BK116.out 1).trans rfl,(zf BK116.out 2).trans rfl⟩ (fun hHeld => ?_)
      clear hK K
      refine zaX (a' := ?_) ?_ ?_
      rotate_left
      ·show Act.put _ (some 5) _ = _
       simp only [Act.put,List.setIfInBounds_toArray,List.set_cons_zero,List.set_cons_succ,zS,zT]
       rfl
      refine zb1 (i := 6) (N := some 12) #[true,true,true,true,true,true,true,false,true,false] rfl rfl (zbr HT_.out qg) qq (fun K hK => ?_)
      refine Kd.za7 k63 (w0 := w) w.heap.size qA (.tmp 9) (.tmp 11) 31 63 (.agg #[(.int .i64 0),(.int .i64 0),(.string ⟨#[]⟩)]) 32 rfl Try.underlying31 zb4 rfl qq ql v119 y118 l0_1 _ _ _ (fun k_ => k_ ≠ gb116) (fun _ => False) rfl rfl ?aO ?aR (fun _ _ h => h) (fun _ h => h.elim) ?aF ?aB ?aS ?aL ?_
      (case aR => exact qj HR0_1.out HB.out)
      (case aB => exact (by repeat (first | (with_reducible first | exact HB.out | apply ze | apply zb | apply zg | refine zh ?_ GE115.out | refine zh ?_ GE116.out | refine zh ?_ GE117.out | refine zh ?_ GE124.out) | exact HB.out)))
      (case aF => exact (fun k_ hk => Kd.zbq (g := gb116) (o := .cells #[.int .i64 a1_0, .int .i64 a1_1, .string a1_2] 63 (0,0)) (qa BK116.out) k_ hk))
      (case aO => exact (qD HO120.out))
      (case aS => exact (zy (by repeat (first | (with_reducible first | exact HB.out | apply ze | apply zb | apply zg | refine zh ?_ GE115.out | refine zh ?_ GE116.out | refine zh ?_ GE117.out | refine zh ?_ GE124.out) | exact HB.out))))
      (case aL => have := LMc3.out; omega)
      intro v122 w12 ho hb hg hat
      rw [← Ny121.out] at ho
      have n0_ := za.mk (zaD (g := gb115) (o := .cells #[.int .i64 a0_0, .slice A0_1 l0_1.length c0_1] 134 (0,0)) (qa BK115.out) hg (Kd.zcw HO120.out BK115.out qq))
      have n1_ := za.mk (zaD (g := gb116) (o := .cells #[.int .i64 a1_0, .int .i64 a1_1, .string a1_2] 63 (0,0)) (qa BK116.out) hg (Kd.zdS HO120.out (fun _ hk => hk.2)))
      have n2_ := za.mk (zaD (g := gb117) (o := .cells #[.int .i64 0, .slice none 0 0] 134 (0,0)) (qa BK117.out) hg (Kd.zcw HO120.out BK117.out qq))
      have n3_ := za.mk (zaD (g := gb124) (o := .cells #[.int .i64 0, .slice none 0 0] 134 (0,0)) (qa BK124.out) hg (Kd.zcw HO120.out BK124.out qq))
      have n4_ := za.mk (hb)
      have n5_ := za.mk (ho)
      clear BK115
      clear BK116
      clear BK117
      clear BK124
      clear HB
      clear HO120
      have BK115 := n0_
      have BK116 := n1_
      have BK117 := n2_
      have BK124 := n3_
      have HB := n4_
      have HO123 := n5_
      clear n0_ n1_ n2_ n3_ n4_ n5_
      clear ho hb hg hat
      obtain ⟨Ao13,co13,eo13⟩ := Kd.zbc HO123.out
      (first | subst eo13 | (injection eo13 with f1_ f2_ f3_; have f4_ := f1_.symm; have f5_ := f3_.symm; clear f1_ f2_ f3_; subst f4_; subst f5_))
      refine hK.out _ _ ⟨(zf BK115.out 0).trans rfl,(zf BK115.out 1).trans rfl,(zf BK116.out 0).trans rfl,(zf BK116.out 1).trans rfl,(zf BK116.out 2).trans rfl⟩ (fun hHeld => ?_)
      clear hK K
      refine zaX (a' := ?_) ?_ ?_
      rotate_left
      ·show Act.put _ (some 12) _ = _
       simp only [Act.put,List.setIfInBounds_toArray,List.set_cons_zero,List.set_cons_succ,zS,zT]
       rfl
      refine zaF (i := 7) (N := some 13) (v := ?_) (a' := ?_) #[true,true,true,true,true,true,true,true,true,false] rfl rfl (zas HT_.out qg) (fun _ _ _ h => h) (Or.inl ⟨by rfl,?_⟩) ?_ ?_
      rotate_left
      ·intro w'
       go_simp
       with_reducible rfl
      rotate_left
      ·simp only [Act.put,List.setIfInBounds_toArray,List.set_cons_zero,List.set_cons_succ,zS,zT]
       rfl
      exact zaX qE (hCont (v119, .slice Ao13 y121.length co13,gb124) _ ⟨hHeld,(qp HO123.out),(qa BK115.out),(qa BK116.out),(qa BK117.out),(qa BK124.out),GW124.out,GE124.out,NB115_124.out,NB124_115.out,NB116_124.out,NB124_116.out,NB117_124.out,NB124_117.out,(by repeat (first | (with_reducible first | exact HB.out | apply ze | apply zb | apply zg | refine zh ?_ GE115.out | refine zh ?_ GE116.out | refine zh ?_ GE117.out | refine zh ?_ GE124.out) | exact HB.out))⟩)
    ·skip
     refine zc5 ?hg (N := 5) ?hd (cs := #[.int .i64 0, .slice none 0 0]) (t := 134) ?hr ?_; (case hd => rfl); (case hg => rfl); (case hr => exact qk)
     intro gb124 hg w9 hbox hb
     have n0_ := za.mk (zu (g := gb115) (o := .cells #[.int .i64 a0_0, .slice A0_1 l0_1.length c0_1] 134 (0,0)) (qa BK115.out) hb)
     have n1_ := za.mk (zu (g := gb116) (o := .cells #[.int .i64 a1_0, .int .i64 a1_1, .string a1_2] 63 (0,0)) (qa BK116.out) hb)
     have n2_ := za.mk (zu (g := gb117) (o := .cells #[.int .i64 0, .slice none 0 0] 134 (0,0)) (qa BK117.out) hb)
     have n3_ := za.mk (zo (qi HB.out GE115.out GE116.out GE117.out) hb)
     have n4_ := za.mk (hbox)
     have n5_ := za.mk ((by rw [hg]; exact (zy (qi HB.out GE115.out GE116.out GE117.out)) : w.heap.size ≤ gb124))
     have n6_ := za.mk ((by rw [hg]; exact (zy (qi HB.out GE115.out GE116.out GE117.out)) : w.heap.size ≤ gb124))
     have n7_ := za.mk ((by rw [hg]; exact Nat.ne_of_lt (zR (g := gb115) (o := .cells #[.int .i64 a0_0, .slice A0_1 l0_1.length c0_1] 134 (0,0)) (qa BK115.out)) : gb115 ≠ gb124))
     have n8_ := za.mk ((by rw [hg]; exact Nat.ne_of_gt (zR (g := gb115) (o := .cells #[.int .i64 a0_0, .slice A0_1 l0_1.length c0_1] 134 (0,0)) (qa BK115.out)) : gb124 ≠ gb115))
     have n9_ := za.mk ((by rw [hg]; exact Nat.ne_of_lt (zR (g := gb116) (o := .cells #[.int .i64 a1_0, .int .i64 a1_1, .string a1_2] 63 (0,0)) (qa BK116.out)) : gb116 ≠ gb124))
     have n10_ := za.mk ((by rw [hg]; exact Nat.ne_of_gt (zR (g := gb116) (o := .cells #[.int .i64 a1_0, .int .i64 a1_1, .string a1_2] 63 (0,0)) (qa BK116.out)) : gb124 ≠ gb116))
     have n11_ := za.mk ((by rw [hg]; exact Nat.ne_of_lt (zR (g := gb117) (o := .cells #[.int .i64 0, .slice none 0 0] 134 (0,0)) (qa BK117.out)) : gb117 ≠ gb124))
     have n12_ := za.mk ((by rw [hg]; exact Nat.ne_of_gt (zR (g := gb117) (o := .cells #[.int .i64 0, .slice none 0 0] 134 (0,0)) (qa BK117.out)) : gb124 ≠ gb117))
     clear BK115
     clear BK116
     clear BK117
     clear HB
     have BK115 := n0_
     have BK116 := n1_
     have BK117 := n2_
     have HB := n3_
     have BK124 := n4_
     have GW124 := n5_
     have GE124 := n6_
     have NB115_124 := n7_
     have NB124_115 := n8_
     have NB116_124 := n9_
     have NB124_116 := n10_
     have NB117_124 := n11_
     have NB124_117 := n12_
     clear n0_ n1_ n2_ n3_ n4_ n5_ n6_ n7_ n8_ n9_ n10_ n11_ n12_
     clear hb hbox hg
     refine hK.out _ _ ⟨(zf BK115.out 0).trans rfl,(zf BK115.out 1).trans rfl,(zf BK116.out 0).trans rfl,(zf BK116.out 1).trans rfl,(zf BK116.out 2).trans rfl⟩ (fun hHeld => ?_)
     clear hK K
     refine zaX (a' := ?_) ?_ ?_
     rotate_left
     ·show Act.put _ (some 5) _ = _
      simp only [Act.put,List.setIfInBounds_toArray,List.set_cons_zero,List.set_cons_succ,zS,zT]
      rfl
     refine zb1 (i := 3) (N := some 9) #[true,true,true,true,true,true,false,false,true,false] rfl rfl (zbr HT_.out qg) qq (fun K hK => ?_)
     refine Kd.zcC k63 _ 63 ?hg (N := 9) ?hd (xs := ([(⟨a1_0,a1_1,a1_2⟩ : S63)] : List (S63))) (inner := [.int .i64 a1_0, .int .i64 a1_1, .string a1_2]) (ok := fun _ => True) (okp := fun _ => True) ?hr ?hp (fun _ hk => hk) trivial (Below.refl _ _) (Nat.le_refl _) qC ?_; (case hd => rfl); (case hg => rfl); (case hr => exact qk); (case hp => exact (zX.c3 (show Kd.M k63 _ _ _ (⟨a1_0,a1_1,a1_2⟩ : S63) [.int .i64 a1_0, .int .i64 a1_1, .string a1_2] from (zbK _ _ _ (⟨a1_0,a1_1,a1_2⟩ : S63) )) (zX.none _ _)))
     intro v119 w10 ho11 hb hg_ hnew_
     clear hg_ hnew_
     (first | rw [← Ny118.out] at ho11 | (simp only [Int.reduceToNat] at ho11; rw [← Ny118.out] at ho11))
     have n0_ := za.mk (Kd.zaO (Kd.zfh ho11 (g := gb116) (o := .cells #[.int .i64 a1_0, .int .i64 a1_1, .string a1_2] 63 (0,0)) (qa BK116.out)) (zy (by repeat (first | (with_reducible first | exact HB.out | apply ze | apply zb | apply zg | refine zh ?_ GE115.out | refine zh ?_ GE116.out | refine zh ?_ GE117.out | refine zh ?_ GE124.out) | exact HB.out))))
     have n1_ := za.mk (zu (g := gb115) (o := .cells #[.int .i64 a0_0, .slice A0_1 l0_1.length c0_1] 134 (0,0)) (qa BK115.out) hb)
     have n2_ := za.mk (zu (g := gb116) (o := .cells #[.int .i64 a1_0, .int .i64 a1_1, .string a1_2] 63 (0,0)) (qa BK116.out) hb)
     have n3_ := za.mk (zu (g := gb117) (o := .cells #[.int .i64 0, .slice none 0 0] 134 (0,0)) (qa BK117.out) hb)
     have n4_ := za.mk (zu (g := gb124) (o := .cells #[.int .i64 0, .slice none 0 0] 134 (0,0)) (qa BK124.out) hb)
     have n5_ := za.mk (zo (by repeat (first | (with_reducible first | exact HB.out | apply ze | apply zb | apply zg | refine zh ?_ GE115.out | refine zh ?_ GE116.out | refine zh ?_ GE117.out | refine zh ?_ GE124.out) | exact HB.out)) hb)
     clear BK115
     clear BK116
     clear BK117
     clear BK124
     clear HB
     have HO120 := n0_
     have BK115 := n1_
     have BK116 := n2_
     have BK117 := n3_
     have BK124 := n4_
     have HB := n5_
     clear n0_ n1_ n2_ n3_ n4_ n5_
     clear hb ho11
     refine hK.out _ _ ⟨(zf BK115.out 0).trans rfl,(zf BK115.out 1).trans rfl,(zf BK116.out 0).trans rfl,(zf BK116.out 1).trans rfl,(zf BK116.out 2).trans rfl⟩ (fun hHeld => ?_)
     clear hK K
     refine zaX (a' := ?_) ?_ ?_
     rotate_left
     ·show Act.put _ (some 9) _ = _
      simp only [Act.put,List.setIfInBounds_toArray,List.set_cons_zero,List.set_cons_succ,zS,zT]
      rfl
     refine zb1 (i := 6) (N := some 12) #[true,true,true,true,true,true,true,false,true,false] rfl rfl (zbr HT_.out qg) qq (fun K hK => ?_)
     refine Kd.za7 k63 (w0 := w) w.heap.size qA (.tmp 9) (.tmp 11) 31 63 (.agg #[(.int .i64 0),(.int .i64 0),(.string ⟨#[]⟩)]) 32 rfl Try.underlying31 zb4 rfl qq ql v119 y118 l0_1 _ _ _ (fun k_ => k_ ≠ gb116) (fun _ => False) rfl rfl ?aO ?aR (fun _ _ h => h) (fun _ h => h.elim) ?aF ?aB ?aS ?aL ?_
     (case aR => exact qj HR0_1.out HB.out)
     (case aB => exact (by repeat (first | (with_reducible first | exact HB.out | apply ze | apply zb | apply zg | refine zh ?_ GE115.out | refine zh ?_ GE116.out | refine zh ?_ GE117.out | refine zh ?_ GE124.out) | exact HB.out)))
     (case aF => exact (fun k_ hk => Kd.zbq (g := gb116) (o := .cells #[.int .i64 a1_0, .int .i64 a1_1, .string a1_2] 63 (0,0)) (qa BK116.out) k_ hk))
     (case aO => exact (qD HO120.out))
     (case aS => exact (zy (by repeat (first | (with_reducible first | exact HB.out | apply ze | apply zb | apply zg | refine zh ?_ GE115.out | refine zh ?_ GE116.out | refine zh ?_ GE117.out | refine zh ?_ GE124.out) | exact HB.out))))
     (case aL => have := LMc3.out; omega)
     intro v122 w12 ho hb hg hat
     rw [← Ny121.out] at ho
     have n0_ := za.mk (zaD (g := gb115) (o := .cells #[.int .i64 a0_0, .slice A0_1 l0_1.length c0_1] 134 (0,0)) (qa BK115.out) hg (Kd.zcw HO120.out BK115.out qq))
     have n1_ := za.mk (zaD (g := gb116) (o := .cells #[.int .i64 a1_0, .int .i64 a1_1, .string a1_2] 63 (0,0)) (qa BK116.out) hg (Kd.zdS HO120.out (fun _ hk => hk.2)))
     have n2_ := za.mk (zaD (g := gb117) (o := .cells #[.int .i64 0, .slice none 0 0] 134 (0,0)) (qa BK117.out) hg (Kd.zcw HO120.out BK117.out qq))
     have n3_ := za.mk (zaD (g := gb124) (o := .cells #[.int .i64 0, .slice none 0 0] 134 (0,0)) (qa BK124.out) hg (Kd.zcw HO120.out BK124.out qq))
     have n4_ := za.mk (hb)
     have n5_ := za.mk (ho)
     clear BK115
     clear BK116
     clear BK117
     clear BK124
     clear HB
     clear HO120
     have BK115 := n0_
     have BK116 := n1_
     have BK117 := n2_
     have BK124 := n3_
     have HB := n4_
     have HO123 := n5_
     clear n0_ n1_ n2_ n3_ n4_ n5_
     clear ho hb hg hat
     obtain ⟨Ao13,co13,eo13⟩ := Kd.zbc HO123.out
     (first | subst eo13 | (injection eo13 with f1_ f2_ f3_; have f4_ := f1_.symm; have f5_ := f3_.symm; clear f1_ f2_ f3_; subst f4_; subst f5_))
     refine hK.out _ _ ⟨(zf BK115.out 0).trans rfl,(zf BK115.out 1).trans rfl,(zf BK116.out 0).trans rfl,(zf BK116.out 1).trans rfl,(zf BK116.out 2).trans rfl⟩ (fun hHeld => ?_)
     clear hK K
     refine zaX (a' := ?_) ?_ ?_
     rotate_left
     ·show Act.put _ (some 12) _ = _
      simp only [Act.put,List.setIfInBounds_toArray,List.set_cons_zero,List.set_cons_succ,zS,zT]
      rfl
     refine zaF (i := 7) (N := some 13) (v := ?_) (a' := ?_) #[true,true,true,true,true,true,true,true,true,false] rfl rfl (zas HT_.out qg) (fun _ _ _ h => h) (Or.inl ⟨by rfl,?_⟩) ?_ ?_
     rotate_left
     ·intro w'
      go_simp
      with_reducible rfl
     rotate_left
     ·simp only [Act.put,List.setIfInBounds_toArray,List.set_cons_zero,List.set_cons_succ,zS,zT]
      rfl
     exact zaX qE (hCont (v119, .slice Ao13 y121.length co13,gb124) _ ⟨hHeld,(qp HO123.out),(qa BK115.out),(qa BK116.out),(qa BK117.out),(qa BK124.out),GW124.out,GE124.out,NB115_124.out,NB124_115.out,NB116_124.out,NB124_116.out,NB117_124.out,NB124_117.out,(by repeat (first | (with_reducible first | exact HB.out | apply ze | apply zb | apply zg | refine zh ?_ GE115.out | refine zh ?_ GE116.out | refine zh ?_ GE117.out | refine zh ?_ GE124.out) | exact HB.out))⟩)
   rintro ⟨v119,v122,gb124⟩ w14 ⟨hS_,h0_,h1_,h2_,h3_,h4_,h5_,h6_,h7_,h8_,h9_,h10_,h11_,h12_,h13_⟩
   have n0_ : za (Kd.R k63 63 w14 w.heap.size (fun k_ => k_ ≠ gb116) v122 y121) := ⟨h0_⟩
   have n1_ : za (w14.heap[gb115]? = some (.cells #[.int .i64 a0_0, .slice A0_1 l0_1.length c0_1] 134 (0,0))) := ⟨h1_⟩
   have n2_ : za (w14.heap[gb116]? = some (.cells #[.int .i64 a1_0, .int .i64 a1_1, .string a1_2] 63 (0,0))) := ⟨h2_⟩
   have n3_ : za (w14.heap[gb117]? = some (.cells #[.int .i64 0, .slice none 0 0] 134 (0,0))) := ⟨h3_⟩
   have n4_ : za (w14.heap[gb124]? = some (.cells #[.int .i64 0, .slice none 0 0] 134 (0,0))) := ⟨h4_⟩
   have n5_ : za (w.heap.size ≤ gb124) := ⟨h5_⟩
   have n6_ : za (w.heap.size ≤ gb124) := ⟨h6_⟩
   have n7_ : za (gb115 ≠ gb124) := ⟨h7_⟩
   have n8_ : za (gb124 ≠ gb115) := ⟨h8_⟩
   have n9_ : za (gb116 ≠ gb124) := ⟨h9_⟩
   have n10_ : za (gb124 ≠ gb116) := ⟨h10_⟩
   have n11_ : za (gb117 ≠ gb124) := ⟨h11_⟩
   have n12_ : za (gb124 ≠ gb117) := ⟨h12_⟩
   have n13_ : za (Below w.heap.size w w14) := ⟨h13_⟩
   clear BK115
   clear BK116
   clear BK117
   clear HB
   clear h0_ h1_ h2_ h3_ h4_ h5_ h6_ h7_ h8_ h9_ h10_ h11_ h12_ h13_
   have HO123 := n0_
   have BK115 := n1_
   have BK116 := n2_
   have BK117 := n3_
   have BK124 := n4_
   have GW124 := n5_
   have GE124 := n6_
   have NB115_124 := n7_
   have NB124_115 := n8_
   have NB116_124 := n9_
   have NB124_116 := n10_
   have NB117_124 := n11_
   have NB124_117 := n12_
   have HB := n13_
   clear n0_ n1_ n2_ n3_ n4_ n5_ n6_ n7_ n8_ n9_ n10_ n11_ n12_ n13_
   have hHeld : w14.cell? ⟨gb115,0,none⟩ = some (.int .i64 a0_0) ∧ w14.cell? ⟨gb115,1,none⟩ = some (.slice A0_1 l0_1.length c0_1) ∧ w14.cell? ⟨gb116,0,none⟩ = some (.int .i64 a1_0) ∧ w14.cell? ⟨gb116,1,none⟩ = some (.int .i64 a1_1) ∧ w14.cell? ⟨gb116,2,none⟩ = some (.string a1_2) := hS_
   obtain ⟨Ao15,co15,eo15⟩ := Kd.zbc HO123.out
   (first | subst eo15 | (injection eo15 with f1_ f2_ f3_; have f4_ := f1_.symm; have f5_ := f3_.symm; clear f1_ f2_ f3_; subst f4_; subst f5_))
   refine zaX (a' := ?_) ?_ ?_
   rotate_left
   ·simp only [zcu,Act.put,List.setIfInBounds_toArray,List.set_cons_zero,List.set_cons_succ]
    rfl
   refine zb1 (i := 9) (N := none) #[true,true,true,true,true,true,true,true,true,true] rfl rfl (zbr HT_.out qg) qq (fun K hK => ?_)
   have hs16 : w14.cell? ⟨gb124,0,none⟩ = some (.int .i64 0) := (zf BK124.out 0).trans rfl
   have hfs16 := zn BK124.out 0
   have hns16_0 := NB115_124.out
   have hns16_1 := NB116_124.out
   have hns16_2 := NB117_124.out
   have hms16_0 := NB124_115.out
   have hms16_1 := NB124_116.out
   have hms16_2 := NB124_117.out
   have hs17 : w14.cell? ⟨gb124,1,none⟩ = some (.slice none 0 0) := (zf BK124.out 1).trans rfl
   have hfs17 := zn BK124.out 1
   have hns17_0 := NB115_124.out
   have hns17_1 := NB116_124.out
   have hns17_2 := NB117_124.out
   have hms17_0 := NB124_115.out
   have hms17_1 := NB124_116.out
   have hms17_2 := NB124_117.out
   refine zif (w1 := ?_) qA rfl ?_ ?_
   rotate_left
   ·go_simp
    rfl
   refine hK.out _ _ ⟨((cell_far (p := ⟨gb124,_,none⟩) NB115_124.out _).trans (((cell_far (p := ⟨gb124,_,none⟩) NB115_124.out _).trans (hHeld.1)))),((cell_far (p := ⟨gb124,_,none⟩) NB115_124.out _).trans (((cell_far (p := ⟨gb124,_,none⟩) NB115_124.out _).trans (hHeld.2.1)))),((cell_far (p := ⟨gb124,_,none⟩) NB116_124.out _).trans (((cell_far (p := ⟨gb124,_,none⟩) NB116_124.out _).trans (hHeld.2.2.1)))),((cell_far (p := ⟨gb124,_,none⟩) NB116_124.out _).trans (((cell_far (p := ⟨gb124,_,none⟩) NB116_124.out _).trans (hHeld.2.2.2.1)))),((cell_far (p := ⟨gb124,_,none⟩) NB116_124.out _).trans (((cell_far (p := ⟨gb124,_,none⟩) NB116_124.out _).trans (hHeld.2.2.2.2))))⟩ (fun hHeld => ?_)
   clear hK K
   refine zej (zc0 HT_.out qg) ?_
   have hnb18 := NB116_115.out
   have hnc18 := NB115_116.out
   have hnb19 := NB116_117.out
   have hnc19 := NB117_116.out
   have hnb20 := NB116_124.out
   have hnc20 := NB124_116.out
   have hcz21_0 : w14.cell? ⟨gb116,0,none⟩ = some (.int .i64 a1_0) := (zf BK116.out 0).trans rfl
   have hcz21_1 : w14.cell? ⟨gb116,1,none⟩ = some (.int .i64 a1_1) := (zf BK116.out 1).trans rfl
   have hcz21_2 : w14.cell? ⟨gb116,2,none⟩ = some (.string a1_2) := (zf BK116.out 2).trans rfl
   have hfz21_0 := zn BK116.out 0
   have hfz21_1 := zn BK116.out 1
   have hfz21_2 := zn BK116.out 2
   have hnb22 := NB124_115.out
   have hnc22 := NB115_124.out
   have hnb23 := NB124_117.out
   have hnc23 := NB117_124.out
   have hcz24_0 : w14.cell? ⟨gb124,0,none⟩ = some (.int .i64 0) := (zf BK124.out 0).trans rfl
   have hcz24_1 : w14.cell? ⟨gb124,1,none⟩ = some (.slice none 0 0) := (zf BK124.out 1).trans rfl
   have hfz24_0 := zn BK124.out 0
   have hfz24_1 := zn BK124.out 1
   have hnb25 := NB117_115.out
   have hnc25 := NB115_117.out
   have hcz26_0 : w14.cell? ⟨gb117,0,none⟩ = some (.int .i64 0) := (zf BK117.out 0).trans rfl
   have hcz26_1 : w14.cell? ⟨gb117,1,none⟩ = some (.slice none 0 0) := (zf BK117.out 1).trans rfl
   have hfz26_0 := zn BK117.out 0
   have hfz26_1 := zn BK117.out 1
   try go_wp2
   refine bodyPost_ret (results_cell_row rfl _ _ gb117 134 #[.int .i64 a0_0, .slice Ao15 y121.length co15] (0,0) _ rfl (by (with_reducible repeat (first | refine zl ?_ _ | refine zm ?_ | refine zi ?_ _)); refine zV (cs := #[.int .i64 a0_0, .slice none 0 0]) ?_ 1 _ rfl; (with_reducible repeat (first | refine zl ?_ _ | refine zm ?_ | refine zi ?_ _)); refine zV (cs := #[.int .i64 0, .slice none 0 0]) ?_ 0 _ rfl; (with_reducible repeat (first | refine zl ?_ _ | refine zm ?_ | refine zi ?_ _)); refine zav ?_ NB117_124.out _; (with_reducible repeat (first | refine zl ?_ _ | refine zm ?_ | refine zi ?_ _)); refine zav ?_ NB117_124.out _; (with_reducible repeat (first | refine zl ?_ _ | refine zm ?_ | refine zi ?_ _)); exact BK117.out) Try.underlying134 rfl qg) rfl ?_
   exact ⟨_,by first | rfl | (simp [zw,zx] <;> rfl) | (simp [*,zw,zx] <;> rfl),by (with_reducible repeat (first | apply Kd.zaE | apply Kd.zau | apply Kd.zaJ)); exact Kd.zaB (Kd.zcI (p := ⟨gb117,1,none⟩) (Kd.zcI (p := ⟨gb117,0,none⟩) (Kd.zcI (p := ⟨gb124,1,none⟩) (Kd.zcI (p := ⟨gb124,0,none⟩) (Kd.zdv (Kd.zdv HO123.out BK124.out qq) BK117.out qq) (fun _ hk => hk.1.2) (.int .i64 a0_0)) (fun _ hk => hk.1.2) (.slice Ao15 y121.length co15)) (fun _ hk => hk.2) (.int .i64 a0_0)) (fun _ hk => hk.2) (.slice Ao15 y121.length co15)) (fun _ hk => trivial),by repeat (first | (with_reducible first | exact HB.out | apply ze | apply zb | apply zg | refine zh ?_ GE115.out | refine zh ?_ GE116.out | refine zh ?_ GE117.out | refine zh ?_ GE124.out) | exact HB.out)⟩
  ·rw [if_neg c4] at H
   have c4b0 : (a1_0 == 3) = false := beq_eq_false_iff_ne.mpr c4
   have c4b1 : (a1_0 != 3) = true := bne_iff_ne.mpr c4
   simp only [Option.some.injEq,Prod.mk.injEq] at H
   obtain ⟨rfl,rfl⟩ := H
   go_enter Try.func96,Try.ntmps96
   try go_wp2_with (first | ((with_reducible refine zaa (N := 2) rfl ?_); refine zao ?hg (N := 2) ?hd (cs := #[.int .i64 a0_0, .slice A0_1 l0_1.length c0_1]) (t := 134) ?hr ?_; (case hd => rfl); (case hg => rfl); (case hr => exact qk); intro gb115 hg w27 hbox hb; have n0_ := za.mk (zo (qc HB.out) hb); have n1_ := za.mk (hbox); have n2_ := za.mk ((by rw [hg]; exact (zy (qc HB.out)) : w.heap.size ≤ gb115)); have n3_ := za.mk ((by rw [hg]; exact (zy (qc HB.out)) : w.heap.size ≤ gb115)); clear HB; have HB := n0_; have BK115 := n1_; have GW115 := n2_; have GE115 := n3_; clear n0_ n1_ n2_ n3_; clear hb hbox hg) | ((with_reducible refine zaa (N := 3) rfl ?_); refine zao ?hg (N := 3) ?hd (cs := #[.int .i64 a1_0, .int .i64 a1_1, .string a1_2]) (t := 63) ?hr ?_; (case hd => rfl); (case hg => rfl); (case hr => exact qk); intro gb116 hg w28 hbox hb; have n0_ := za.mk (zu (g := gb115) (o := .cells #[.int .i64 a0_0, .slice A0_1 l0_1.length c0_1] 134 (0,0)) (qa BK115.out) hb); have n1_ := za.mk (zo (qf HB.out GE115.out) hb); have n2_ := za.mk (hbox); have n3_ := za.mk ((by rw [hg]; exact (zy (qf HB.out GE115.out)) : w.heap.size ≤ gb116)); have n4_ := za.mk ((by rw [hg]; exact (zy (qf HB.out GE115.out)) : w.heap.size ≤ gb116)); have n5_ := za.mk ((by rw [hg]; exact Nat.ne_of_lt (zR (g := gb115) (o := .cells #[.int .i64 a0_0, .slice A0_1 l0_1.length c0_1] 134 (0,0)) (qa BK115.out)) : gb115 ≠ gb116)); have n6_ := za.mk ((by rw [hg]; exact Nat.ne_of_gt (zR (g := gb115) (o := .cells #[.int .i64 a0_0, .slice A0_1 l0_1.length c0_1] 134 (0,0)) (qa BK115.out)) : gb116 ≠ gb115)); clear BK115; clear HB; have BK115 := n0_; have HB := n1_; have BK116 := n2_; have GW116 := n3_; have GE116 := n4_; have NB115_116 := n5_; have NB116_115 := n6_; clear n0_ n1_ n2_ n3_ n4_ n5_ n6_; clear hb hbox hg) | ((with_reducible refine zaa (N := 4) rfl ?_); refine zao ?hg (N := 4) ?hd (cs := #[.int .i64 0, .slice none 0 0]) (t := 134) ?hr ?_; (case hd => rfl); (case hg => rfl); (case hr => exact qk); intro gb117 hg w29 hbox hb; have n0_ := za.mk (zu (g := gb115) (o := .cells #[.int .i64 a0_0, .slice A0_1 l0_1.length c0_1] 134 (0,0)) (qa BK115.out) hb); have n1_ := za.mk (zu (g := gb116) (o := .cells #[.int .i64 a1_0, .int .i64 a1_1, .string a1_2] 63 (0,0)) (qa BK116.out) hb); have n2_ := za.mk (zo (qn HB.out GE115.out GE116.out) hb); have n3_ := za.mk (hbox); have n4_ := za.mk ((by rw [hg]; exact (zy (qn HB.out GE115.out GE116.out)) : w.heap.size ≤ gb117)); have n5_ := za.mk ((by rw [hg]; exact (zy (qn HB.out GE115.out GE116.out)) : w.heap.size ≤ gb117)); have n6_ := za.mk ((by rw [hg]; exact Nat.ne_of_lt (zR (g := gb115) (o := .cells #[.int .i64 a0_0, .slice A0_1 l0_1.length c0_1] 134 (0,0)) (qa BK115.out)) : gb115 ≠ gb117)); have n7_ := za.mk ((by rw [hg]; exact Nat.ne_of_gt (zR (g := gb115) (o := .cells #[.int .i64 a0_0, .slice A0_1 l0_1.length c0_1] 134 (0,0)) (qa BK115.out)) : gb117 ≠ gb115)); have n8_ := za.mk ((by rw [hg]; exact Nat.ne_of_lt (zR (g := gb116) (o := .cells #[.int .i64 a1_0, .int .i64 a1_1, .string a1_2] 63 (0,0)) (qa BK116.out)) : gb116 ≠ gb117)); have n9_ := za.mk ((by rw [hg]; exact Nat.ne_of_gt (zR (g := gb116) (o := .cells #[.int .i64 a1_0, .int .i64 a1_1, .string a1_2] 63 (0,0)) (qa BK116.out)) : gb117 ≠ gb116)); clear BK115; clear BK116; clear HB; have BK115 := n0_; have BK116 := n1_; have HB := n2_; have BK117 := n3_; have GW117 := n4_; have GE117 := n5_; have NB115_117 := n6_; have NB117_115 := n7_; have NB116_117 := n8_; have NB117_116 := n9_; clear n0_ n1_ n2_ n3_ n4_ n5_ n6_ n7_ n8_ n9_; clear hb hbox hg))
   have n0_ := za.mk (zm BK115.out)
   have n1_ := za.mk (zm BK116.out)
   have n2_ := za.mk (zm BK117.out)
   have n3_ := za.mk (zg HB.out)
   clear BK115
   clear BK116
   clear BK117
   clear HB
   have BK115 := n0_
   have BK116 := n1_
   have BK117 := n2_
   have HB := n3_
   clear n0_ n1_ n2_ n3_
   refine zdx (n := 10) (S := fun w' => w'.cell? ⟨gb115,0,none⟩ = some (.int .i64 a0_0) ∧ w'.cell? ⟨gb115,1,none⟩ = some (.slice A0_1 l0_1.length c0_1) ∧ w'.cell? ⟨gb116,0,none⟩ = some (.int .i64 a1_0) ∧ w'.cell? ⟨gb116,1,none⟩ = some (.int .i64 a1_1) ∧ w'.cell? ⟨gb116,2,none⟩ = some (.string a1_2)) (ds := []) #[false,false,false,false,false,false,false,false,false,false] qg rfl rfl ⟨(zf BK115.out 0).trans rfl,(zf BK115.out 1).trans rfl,(zf BK116.out 0).trans rfl,(zf BK116.out 1).trans rfl,(zf BK116.out 2).trans rfl⟩ (fun hHeld => ?_); refine zcq zaf.zfq zaf.zeH (fun HT_ HW_ => ?_)
   generalize w29.drew = w30 at BK115 BK116 BK117 HB hHeld ⊢
   refine zaF (i := 0) (N := some 6) (v := ?_) (a' := ?_) #[true,false,false,false,false,false,false,false,false,false] rfl rfl (zas HT_.out qg) (fun _ _ _ h => h) (Or.inl ⟨by rfl,?_⟩) ?_ ?_
   rotate_left
   ·intro w'
    go_simp
    with_reducible rfl
   rotate_left
   ·simp only [Act.put,List.setIfInBounds_toArray,List.set_cons_zero,List.set_cons_succ,zS,zT]
    rfl
   refine zaF (i := 4) (N := some 10) (v := ?_) (a' := ?_) #[true,false,false,false,true,false,false,false,false,false] rfl rfl (zas HT_.out qg) (fun _ _ _ h => h) (Or.inl ⟨by rfl,?_⟩) ?_ ?_
   rotate_left
   ·intro w'
    go_simp
    with_reducible rfl
   rotate_left
   ·simp only [Act.put,List.setIfInBounds_toArray,List.set_cons_zero,List.set_cons_succ,zS,zT]
    rfl
   refine zbk (i := 1) (N := some 7) (v := ?_) (a' := ?_) #[true,true,false,false,true,false,false,false,false,false] rfl rfl (zaL HT_.out HW_.out qg) (fun _ _ _ h => h) (Or.inl ⟨by rfl,?_⟩) hHeld ?_ ?_
   rotate_left
   ·rintro w' ⟨s0,s1,s2,s3,s4⟩
    go_simp
    with_reducible rfl
   rotate_left
   ·simp only [Act.put,List.setIfInBounds_toArray,List.set_cons_zero,List.set_cons_succ,zS,zT]
    rfl
   refine zbk (i := 2) (N := some 8) (v := ?_) (a' := ?_) #[true,true,true,false,true,false,false,false,false,false] rfl rfl (zaL HT_.out HW_.out qg) (fun _ _ _ h => h) (Or.inl ⟨by rfl,?_⟩) hHeld ?_ ?_
   rotate_left
   ·rintro w' ⟨s0,s1,s2,s3,s4⟩
    go_simp
    with_reducible rfl
   rotate_left
   ·simp only [Act.put,List.setIfInBounds_toArray,List.set_cons_zero,List.set_cons_succ,zS,zT]
    rfl
   refine zbk (i := 5) (N := some 11) (v := ?_) (a' := ?_) #[true,true,true,false,true,true,false,false,false,false] rfl rfl (zaL HT_.out HW_.out qg) (fun _ _ _ h => h) (Or.inl ⟨by rfl,?_⟩) hHeld ?_ ?_
   rotate_left
   ·rintro w' ⟨s0,s1,s2,s3,s4⟩
    go_simp
    with_reducible rfl
   rotate_left
   ·simp only [Act.put,List.setIfInBounds_toArray,List.set_cons_zero,List.set_cons_succ,zS,zT]
    rfl
   refine zih (σ := Value × Value × Nat) 1 #[true,true,true,true,true,true,true,true,true,false] (fun s_ => [(9,s_.1),(12,s_.2.1),(5, .pointer (some ⟨s_.2.2,0,none⟩)),(13, .agg #[.int .i64 a0_0,s_.2.1])]) (fun s_ w' => (w'.cell? ⟨gb115,0,none⟩ = some (.int .i64 a0_0) ∧ w'.cell? ⟨gb115,1,none⟩ = some (.slice A0_1 l0_1.length c0_1) ∧ w'.cell? ⟨gb116,0,none⟩ = some (.int .i64 a1_0) ∧ w'.cell? ⟨gb116,1,none⟩ = some (.int .i64 a1_1) ∧ w'.cell? ⟨gb116,2,none⟩ = some (.string a1_2)) ∧ (Kd.R k63 63 w' w.heap.size (fun k_ => k_ ≠ gb116) s_.2.1 y121) ∧ (w'.heap[gb115]? = some (.cells #[.int .i64 a0_0, .slice A0_1 l0_1.length c0_1] 134 (0,0))) ∧ (w'.heap[gb116]? = some (.cells #[.int .i64 a1_0, .int .i64 a1_1, .string a1_2] 63 (0,0))) ∧ (w'.heap[gb117]? = some (.cells #[.int .i64 0, .slice none 0 0] 134 (0,0))) ∧ (w'.heap[s_.2.2]? = some (.cells #[.int .i64 0, .slice none 0 0] 134 (0,0))) ∧ (w.heap.size ≤ s_.2.2) ∧ (w.heap.size ≤ s_.2.2) ∧ (gb115 ≠ s_.2.2) ∧ (s_.2.2 ≠ gb115) ∧ (gb116 ≠ s_.2.2) ∧ (s_.2.2 ≠ gb116) ∧ (gb117 ≠ s_.2.2) ∧ (s_.2.2 ≠ gb117) ∧ (Below w.heap.size w w')) ?_ ?_
   rotate_left
   ·intro hCont
    refine zgX (i := 3) (j := 8) (Ni := some 9) (Nj := some 5) #[true,true,true,true,true,true,false,false,false,false] #[true,true,true,false,true,true,false,false,true,false] rfl rfl rfl rfl (zfn HT_.out qg) qq qq (fun K hK => ?_) (fun K hK => ?_)
    ·skip
     refine Kd.zcC k63 _ 63 ?hg (N := 9) ?hd (xs := ([(⟨a1_0,a1_1,a1_2⟩ : S63)] : List (S63))) (inner := [.int .i64 a1_0, .int .i64 a1_1, .string a1_2]) (ok := fun _ => True) (okp := fun _ => True) ?hr ?hp (fun _ hk => hk) trivial (Below.refl _ _) (Nat.le_refl _) qC ?_; (case hd => rfl); (case hg => rfl); (case hr => exact qk); (case hp => exact (zX.c3 (show Kd.M k63 _ _ _ (⟨a1_0,a1_1,a1_2⟩ : S63) [.int .i64 a1_0, .int .i64 a1_1, .string a1_2] from (zbK _ _ _ (⟨a1_0,a1_1,a1_2⟩ : S63) )) (zX.none _ _)))
     intro v119 w31 ho32 hb hg_ hnew_
     clear hg_ hnew_
     (first | rw [← Ny118.out] at ho32 | (simp only [Int.reduceToNat] at ho32; rw [← Ny118.out] at ho32))
     have n0_ := za.mk (Kd.zaO (Kd.zfh ho32 (g := gb116) (o := .cells #[.int .i64 a1_0, .int .i64 a1_1, .string a1_2] 63 (0,0)) (qa BK116.out)) (zy (qi HB.out GE115.out GE116.out GE117.out)))
     have n1_ := za.mk (zu (g := gb115) (o := .cells #[.int .i64 a0_0, .slice A0_1 l0_1.length c0_1] 134 (0,0)) (qa BK115.out) hb)
     have n2_ := za.mk (zu (g := gb116) (o := .cells #[.int .i64 a1_0, .int .i64 a1_1, .string a1_2] 63 (0,0)) (qa BK116.out) hb)
     have n3_ := za.mk (zu (g := gb117) (o := .cells #[.int .i64 0, .slice none 0 0] 134 (0,0)) (qa BK117.out) hb)
     have n4_ := za.mk (zo (qi HB.out GE115.out GE116.out GE117.out) hb)
     clear BK115
     clear BK116
     clear BK117
     clear HB
     have HO120 := n0_
     have BK115 := n1_
     have BK116 := n2_
     have BK117 := n3_
     have HB := n4_
     clear n0_ n1_ n2_ n3_ n4_
     clear hb ho32
     refine hK.out _ _ ⟨(zf BK115.out 0).trans rfl,(zf BK115.out 1).trans rfl,(zf BK116.out 0).trans rfl,(zf BK116.out 1).trans rfl,(zf BK116.out 2).trans rfl⟩ (fun hHeld => ?_)
     clear hK K
     refine zaX (a' := ?_) ?_ ?_
     rotate_left
     ·show Act.put _ (some 9) _ = _
      simp only [Act.put,List.setIfInBounds_toArray,List.set_cons_zero,List.set_cons_succ,zS,zT]
      rfl
     refine zgX (i := 6) (j := 8) (Ni := some 12) (Nj := some 5) #[true,true,true,true,true,true,true,false,false,false] #[true,true,true,true,true,true,false,false,true,false] rfl rfl rfl rfl (zfn HT_.out qg) qq qq (fun K hK => ?_) (fun K hK => ?_)
     ·skip
      refine Kd.za7 k63 (w0 := w) w.heap.size qA (.tmp 9) (.tmp 11) 31 63 (.agg #[(.int .i64 0),(.int .i64 0),(.string ⟨#[]⟩)]) 32 rfl Try.underlying31 zb4 rfl qq ql v119 y118 l0_1 _ _ _ (fun k_ => k_ ≠ gb116) (fun _ => False) rfl rfl ?aO ?aR (fun _ _ h => h) (fun _ h => h.elim) ?aF ?aB ?aS ?aL ?_
      (case aR => exact qj HR0_1.out HB.out)
      (case aB => exact (qi HB.out GE115.out GE116.out GE117.out))
      (case aF => exact (fun k_ hk => Kd.zbq (g := gb116) (o := .cells #[.int .i64 a1_0, .int .i64 a1_1, .string a1_2] 63 (0,0)) (qa BK116.out) k_ hk))
      (case aO => exact (qD HO120.out))
      (case aS => exact (zy (qi HB.out GE115.out GE116.out GE117.out)))
      (case aL => have := LMc3.out; omega)
      intro v122 w33 ho hb hg hat
      rw [← Ny121.out] at ho
      have n0_ := za.mk (zaD (g := gb115) (o := .cells #[.int .i64 a0_0, .slice A0_1 l0_1.length c0_1] 134 (0,0)) (qa BK115.out) hg (Kd.zcw HO120.out BK115.out qq))
      have n1_ := za.mk (zaD (g := gb116) (o := .cells #[.int .i64 a1_0, .int .i64 a1_1, .string a1_2] 63 (0,0)) (qa BK116.out) hg (Kd.zdS HO120.out (fun _ hk => hk.2)))
      have n2_ := za.mk (zaD (g := gb117) (o := .cells #[.int .i64 0, .slice none 0 0] 134 (0,0)) (qa BK117.out) hg (Kd.zcw HO120.out BK117.out qq))
      have n3_ := za.mk (hb)
      have n4_ := za.mk (ho)
      clear BK115
      clear BK116
      clear BK117
      clear HB
      clear HO120
      have BK115 := n0_
      have BK116 := n1_
      have BK117 := n2_
      have HB := n3_
      have HO123 := n4_
      clear n0_ n1_ n2_ n3_ n4_
      clear ho hb hg hat
      obtain ⟨Ao34,co34,eo34⟩ := Kd.zbc HO123.out
      (first | subst eo34 | (injection eo34 with f1_ f2_ f3_; have f4_ := f1_.symm; have f5_ := f3_.symm; clear f1_ f2_ f3_; subst f4_; subst f5_))
      refine hK.out _ _ ⟨(zf BK115.out 0).trans rfl,(zf BK115.out 1).trans rfl,(zf BK116.out 0).trans rfl,(zf BK116.out 1).trans rfl,(zf BK116.out 2).trans rfl⟩ (fun hHeld => ?_)
      clear hK K
      refine zaX (a' := ?_) ?_ ?_
      rotate_left
      ·show Act.put _ (some 12) _ = _
       simp only [Act.put,List.setIfInBounds_toArray,List.set_cons_zero,List.set_cons_succ,zS,zT]
       rfl
      refine zaF (i := 7) (N := some 13) (v := ?_) (a' := ?_) #[true,true,true,true,true,true,true,true,false,false] rfl rfl (zas HT_.out qg) (fun _ _ _ h => h) (Or.inl ⟨by rfl,?_⟩) ?_ ?_
      rotate_left
      ·intro w'
       go_simp
       with_reducible rfl
      rotate_left
      ·simp only [Act.put,List.setIfInBounds_toArray,List.set_cons_zero,List.set_cons_succ,zS,zT]
       rfl
      refine zb1 (i := 8) (N := some 5) #[true,true,true,true,true,true,true,true,true,false] rfl rfl (zbr HT_.out qg) qq (fun K hK => ?_)
      refine zc5 ?hg (N := 5) ?hd (cs := #[.int .i64 0, .slice none 0 0]) (t := 134) ?hr ?_; (case hd => rfl); (case hg => rfl); (case hr => exact qk)
      intro gb124 hg w35 hbox hb
      have n0_ := za.mk (Kd.zD (qp HO123.out) hb)
      have n1_ := za.mk (zu (g := gb115) (o := .cells #[.int .i64 a0_0, .slice A0_1 l0_1.length c0_1] 134 (0,0)) (qa BK115.out) hb)
      have n2_ := za.mk (zu (g := gb116) (o := .cells #[.int .i64 a1_0, .int .i64 a1_1, .string a1_2] 63 (0,0)) (qa BK116.out) hb)
      have n3_ := za.mk (zu (g := gb117) (o := .cells #[.int .i64 0, .slice none 0 0] 134 (0,0)) (qa BK117.out) hb)
      have n4_ := za.mk (zo (qi HB.out GE115.out GE116.out GE117.out) hb)
      have n5_ := za.mk (hbox)
      have n6_ := za.mk ((by rw [hg]; exact (zy (qi HB.out GE115.out GE116.out GE117.out)) : w.heap.size ≤ gb124))
      have n7_ := za.mk ((by rw [hg]; exact (zy (qi HB.out GE115.out GE116.out GE117.out)) : w.heap.size ≤ gb124))
      have n8_ := za.mk ((by rw [hg]; exact Nat.ne_of_lt (zR (g := gb115) (o := .cells #[.int .i64 a0_0, .slice A0_1 l0_1.length c0_1] 134 (0,0)) (qa BK115.out)) : gb115 ≠ gb124))
      have n9_ := za.mk ((by rw [hg]; exact Nat.ne_of_gt (zR (g := gb115) (o := .cells #[.int .i64 a0_0, .slice A0_1 l0_1.length c0_1] 134 (0,0)) (qa BK115.out)) : gb124 ≠ gb115))
      have n10_ := za.mk ((by rw [hg]; exact Nat.ne_of_lt (zR (g := gb116) (o := .cells #[.int .i64 a1_0, .int .i64 a1_1, .string a1_2] 63 (0,0)) (qa BK116.out)) : gb116 ≠ gb124))
      have n11_ := za.mk ((by rw [hg]; exact Nat.ne_of_gt (zR (g := gb116) (o := .cells #[.int .i64 a1_0, .int .i64 a1_1, .string a1_2] 63 (0,0)) (qa BK116.out)) : gb124 ≠ gb116))
      have n12_ := za.mk ((by rw [hg]; exact Nat.ne_of_lt (zR (g := gb117) (o := .cells #[.int .i64 0, .slice none 0 0] 134 (0,0)) (qa BK117.out)) : gb117 ≠ gb124))
      have n13_ := za.mk ((by rw [hg]; exact Nat.ne_of_gt (zR (g := gb117) (o := .cells #[.int .i64 0, .slice none 0 0] 134 (0,0)) (qa BK117.out)) : gb124 ≠ gb117))
      clear HO123
      clear BK115
      clear BK116
      clear BK117
      clear HB
      have HO123 := n0_
      have BK115 := n1_
      have BK116 := n2_
      have BK117 := n3_
      have HB := n4_
      have BK124 := n5_
      have GW124 := n6_
      have GE124 := n7_
      have NB115_124 := n8_
      have NB124_115 := n9_
      have NB116_124 := n10_
      have NB124_116 := n11_
      have NB117_124 := n12_
      have NB124_117 := n13_
      clear n0_ n1_ n2_ n3_ n4_ n5_ n6_ n7_ n8_ n9_ n10_ n11_ n12_ n13_
      clear hb hbox hg
      refine hK.out _ _ ⟨(zf BK115.out 0).trans rfl,(zf BK115.out 1).trans rfl,(zf BK116.out 0).trans rfl,(zf BK116.out 1).trans rfl,(zf BK116.out 2).trans rfl⟩ (fun hHeld => ?_)
      clear hK K
      refine zaX (a' := ?_) ?_ ?_
      rotate_left
      ·show Act.put _ (some 5) _ = _
       simp only [Act.put,List.setIfInBounds_toArray,List.set_cons_zero,List.set_cons_succ,zS,zT]
       rfl
      exact zaX qE (hCont (v119, .slice Ao34 y121.length co34,gb124) _ ⟨hHeld,(qp HO123.out),(qa BK115.out),(qa BK116.out),(qa BK117.out),(qa BK124.out),GW124.out,GE124.out,NB115_124.out,NB124_115.out,NB116_124.out,NB124_116.out,NB117_124.out,NB124_117.out,(by repeat (first | (with_reducible first | exact HB.out | apply ze | apply zb | apply zg | refine zh ?_ GE115.out | refine zh ?_ GE116.out | refine zh ?_ GE117.out | refine zh ?_ GE124.out) | exact HB.out))⟩)
     ·skip
      refine zc5 ?hg (N := 5) ?hd (cs := #[.int .i64 0, .slice none 0 0]) (t := 134) ?hr ?_; (case hd => rfl); (case hg => rfl); (case hr => exact qk)
      intro gb124 hg w33 hbox hb
      have n0_ := za.mk (Kd.zD (qp HO120.out) hb)
      have n1_ := za.mk (zu (g := gb115) (o := .cells #[.int .i64 a0_0, .slice A0_1 l0_1.length c0_1] 134 (0,0)) (qa BK115.out) hb)
      have n2_ := za.mk (zu (g := gb116) (o := .cells #[.int .i64 a1_0, .int .i64 a1_1, .string a1_2] 63 (0,0)) (qa BK116.out) hb)
      have n3_ := za.mk (zu (g := gb117) (o := .cells #[.int .i64 0, .slice none 0 0] 134 (0,0)) (qa BK117.out) hb)
      have n4_ := za.mk (zo (qi HB.out GE115.out GE116.out GE117.out) hb)
      have n5_ := za.mk (hbox)
      have n6_ := za.mk ((by rw [hg]; exact (zy (qi HB.out GE115.out GE116.out GE117.out)) : w.heap.size ≤ gb124))
      have n7_ := za.mk ((by rw [hg]; exact (zy (qi HB.out GE115.out GE116.out GE117.out)) : w.heap.size ≤ gb124))
      have n8_ := za.mk ((by rw [hg]; exact Nat.ne_of_lt (zR (g := gb115) (o := .cells #[.int .i64 a0_0, .slice A0_1 l0_1.length c0_1] 134 (0,0)) (qa BK115.out)) : gb115 ≠ gb124))
      have n9_ := za.mk ((by rw [hg]; exact Nat.ne_of_gt (zR (g := gb115) (o := .cells #[.int .i64 a0_0, .slice A0_1 l0_1.length c0_1] 134 (0,0)) (qa BK115.out)) : gb124 ≠ gb115))
      have n10_ := za.mk ((by rw [hg]; exact Nat.ne_of_lt (zR (g := gb116) (o := .cells #[.int .i64 a1_0, .int .i64 a1_1, .string a1_2] 63 (0,0)) (qa BK116.out)) : gb116 ≠ gb124))
      have n11_ := za.mk ((by rw [hg]; exact Nat.ne_of_gt (zR (g := gb116) (o := .cells #[.int .i64 a1_0, .int .i64 a1_1, .string a1_2] 63 (0,0)) (qa BK116.out)) : gb124 ≠ gb116))
      have n12_ := za.mk ((by rw [hg]; exact Nat.ne_of_lt (zR (g := gb117) (o := .cells #[.int .i64 0, .slice none 0 0] 134 (0,0)) (qa BK117.out)) : gb117 ≠ gb124))
      have n13_ := za.mk ((by rw [hg]; exact Nat.ne_of_gt (zR (g := gb117) (o := .cells #[.int .i64 0, .slice none 0 0] 134 (0,0)) (qa BK117.out)) : gb124 ≠ gb117))
      clear HO120
      clear BK115
      clear BK116
      clear BK117
      clear HB
      have HO120 := n0_
      have BK115 := n1_
      have BK116 := n2_
      have BK117 := n3_
      have HB := n4_
      have BK124 := n5_
      have GW124 := n6_
      have GE124 := n7_
      have NB115_124 := n8_
      have NB124_115 := n9_
      have NB116_124 := n10_
      have NB124_116 := n11_
      have NB117_124 := n12_
      have NB124_117 := n13_
      clear n0_ n1_ n2_ n3_ n4_ n5_ n6_ n7_ n8_ n9_ n10_ n11_ n12_ n13_
      clear hb hbox hg
      refine hK.out _ _ ⟨(zf BK115.out 0).trans rfl,(zf BK115.out 1).trans rfl,(zf BK116.out 0).trans rfl,(zf BK116.out 1).trans rfl,(zf BK116.out 2).trans rfl⟩ (fun hHeld => ?_)
      clear hK K
      refine zaX (a' := ?_) ?_ ?_
      rotate_left
      ·show Act.put _ (some 5) _ = _
       simp only [Act.put,List.setIfInBounds_toArray,List.set_cons_zero,List.set_cons_succ,zS,zT]
       rfl
      refine zb1 (i := 6) (N := some 12) #[true,true,true,true,true,true,true,false,true,false] rfl rfl (zbr HT_.out qg) qq (fun K hK => ?_)
      refine Kd.za7 k63 (w0 := w) w.heap.size qA (.tmp 9) (.tmp 11) 31 63 (.agg #[(.int .i64 0),(.int .i64 0),(.string ⟨#[]⟩)]) 32 rfl Try.underlying31 zb4 rfl qq ql v119 y118 l0_1 _ _ _ (fun k_ => k_ ≠ gb116) (fun _ => False) rfl rfl ?aO ?aR (fun _ _ h => h) (fun _ h => h.elim) ?aF ?aB ?aS ?aL ?_
      (case aR => exact qj HR0_1.out HB.out)
      (case aB => exact (by repeat (first | (with_reducible first | exact HB.out | apply ze | apply zb | apply zg | refine zh ?_ GE115.out | refine zh ?_ GE116.out | refine zh ?_ GE117.out | refine zh ?_ GE124.out) | exact HB.out)))
      (case aF => exact (fun k_ hk => Kd.zbq (g := gb116) (o := .cells #[.int .i64 a1_0, .int .i64 a1_1, .string a1_2] 63 (0,0)) (qa BK116.out) k_ hk))
      (case aO => exact (qD HO120.out))
      (case aS => exact (zy (by repeat (first | (with_reducible first | exact HB.out | apply ze | apply zb | apply zg | refine zh ?_ GE115.out | refine zh ?_ GE116.out | refine zh ?_ GE117.out | refine zh ?_ GE124.out) | exact HB.out))))
      (case aL => have := LMc3.out; omega)
      intro v122 w34 ho hb hg hat
      rw [← Ny121.out] at ho
      have n0_ := za.mk (zaD (g := gb115) (o := .cells #[.int .i64 a0_0, .slice A0_1 l0_1.length c0_1] 134 (0,0)) (qa BK115.out) hg (Kd.zcw HO120.out BK115.out qq))
      have n1_ := za.mk (zaD (g := gb116) (o := .cells #[.int .i64 a1_0, .int .i64 a1_1, .string a1_2] 63 (0,0)) (qa BK116.out) hg (Kd.zdS HO120.out (fun _ hk => hk.2)))
      have n2_ := za.mk (zaD (g := gb117) (o := .cells #[.int .i64 0, .slice none 0 0] 134 (0,0)) (qa BK117.out) hg (Kd.zcw HO120.out BK117.out qq))
      have n3_ := za.mk (zaD (g := gb124) (o := .cells #[.int .i64 0, .slice none 0 0] 134 (0,0)) (qa BK124.out) hg (Kd.zcw HO120.out BK124.out qq))
      have n4_ := za.mk (hb)
      have n5_ := za.mk (ho)
      clear BK115
      clear BK116
      clear BK117
      clear BK124
      clear HB
      clear HO120
      have BK115 := n0_
      have BK116 := n1_
      have BK117 := n2_
      have BK124 := n3_
      have HB := n4_
      have HO123 := n5_
      clear n0_ n1_ n2_ n3_ n4_ n5_
      clear ho hb hg hat
      obtain ⟨Ao35,co35,eo35⟩ := Kd.zbc HO123.out
      (first | subst eo35 | (injection eo35 with f1_ f2_ f3_; have f4_ := f1_.symm; have f5_ := f3_.symm; clear f1_ f2_ f3_; subst f4_; subst f5_))
      refine hK.out _ _ ⟨(zf BK115.out 0).trans rfl,(zf BK115.out 1).trans rfl,(zf BK116.out 0).trans rfl,(zf BK116.out 1).trans rfl,(zf BK116.out 2).trans rfl⟩ (fun hHeld => ?_)
      clear hK K
      refine zaX (a' := ?_) ?_ ?_
      rotate_left
      ·show Act.put _ (some 12) _ = _
       simp only [Act.put,List.setIfInBounds_toArray,List.set_cons_zero,List.set_cons_succ,zS,zT]
       rfl
      refine zaF (i := 7) (N := some 13) (v := ?_) (a' := ?_) #[true,true,true,true,true,true,true,true,true,false] rfl rfl (zas HT_.out qg) (fun _ _ _ h => h) (Or.inl ⟨by rfl,?_⟩) ?_ ?_
      rotate_left
      ·intro w'
       go_simp
       with_reducible rfl
      rotate_left
      ·simp only [Act.put,List.setIfInBounds_toArray,List.set_cons_zero,List.set_cons_succ,zS,zT]
       rfl
      exact zaX qE (hCont (v119, .slice Ao35 y121.length co35,gb124) _ ⟨hHeld,(qp HO123.out),(qa BK115.out),(qa BK116.out),(qa BK117.out),(qa BK124.out),GW124.out,GE124.out,NB115_124.out,NB124_115.out,NB116_124.out,NB124_116.out,NB117_124.out,NB124_117.out,(by repeat (first | (with_reducible first | exact HB.out | apply ze | apply zb | apply zg | refine zh ?_ GE115.out | refine zh ?_ GE116.out | refine zh ?_ GE117.out | refine zh ?_ GE124.out) | exact HB.out))⟩)
    ·skip
     refine zc5 ?hg (N := 5) ?hd (cs := #[.int .i64 0, .slice none 0 0]) (t := 134) ?hr ?_; (case hd => rfl); (case hg => rfl); (case hr => exact qk)
     intro gb124 hg w31 hbox hb
     have n0_ := za.mk (zu (g := gb115) (o := .cells #[.int .i64 a0_0, .slice A0_1 l0_1.length c0_1] 134 (0,0)) (qa BK115.out) hb)
     have n1_ := za.mk (zu (g := gb116) (o := .cells #[.int .i64 a1_0, .int .i64 a1_1, .string a1_2] 63 (0,0)) (qa BK116.out) hb)
     have n2_ := za.mk (zu (g := gb117) (o := .cells #[.int .i64 0, .slice none 0 0] 134 (0,0)) (qa BK117.out) hb)
     have n3_ := za.mk (zo (qi HB.out GE115.out GE116.out GE117.out) hb)
     have n4_ := za.mk (hbox)
     have n5_ := za.mk ((by rw [hg]; exact (zy (qi HB.out GE115.out GE116.out GE117.out)) : w.heap.size ≤ gb124))
     have n6_ := za.mk ((by rw [hg]; exact (zy (qi HB.out GE115.out GE116.out GE117.out)) : w.heap.size ≤ gb124))
     have n7_ := za.mk ((by rw [hg]; exact Nat.ne_of_lt (zR (g := gb115) (o := .cells #[.int .i64 a0_0, .slice A0_1 l0_1.length c0_1] 134 (0,0)) (qa BK115.out)) : gb115 ≠ gb124))
     have n8_ := za.mk ((by rw [hg]; exact Nat.ne_of_gt (zR (g := gb115) (o := .cells #[.int .i64 a0_0, .slice A0_1 l0_1.length c0_1] 134 (0,0)) (qa BK115.out)) : gb124 ≠ gb115))
     have n9_ := za.mk ((by rw [hg]; exact Nat.ne_of_lt (zR (g := gb116) (o := .cells #[.int .i64 a1_0, .int .i64 a1_1, .string a1_2] 63 (0,0)) (qa BK116.out)) : gb116 ≠ gb124))
     have n10_ := za.mk ((by rw [hg]; exact Nat.ne_of_gt (zR (g := gb116) (o := .cells #[.int .i64 a1_0, .int .i64 a1_1, .string a1_2] 63 (0,0)) (qa BK116.out)) : gb124 ≠ gb116))
     have n11_ := za.mk ((by rw [hg]; exact Nat.ne_of_lt (zR (g := gb117) (o := .cells #[.int .i64 0, .slice none 0 0] 134 (0,0)) (qa BK117.out)) : gb117 ≠ gb124))
     have n12_ := za.mk ((by rw [hg]; exact Nat.ne_of_gt (zR (g := gb117) (o := .cells #[.int .i64 0, .slice none 0 0] 134 (0,0)) (qa BK117.out)) : gb124 ≠ gb117))
     clear BK115
     clear BK116
     clear BK117
     clear HB
     have BK115 := n0_
     have BK116 := n1_
     have BK117 := n2_
     have HB := n3_
     have BK124 := n4_
     have GW124 := n5_
     have GE124 := n6_
     have NB115_124 := n7_
     have NB124_115 := n8_
     have NB116_124 := n9_
     have NB124_116 := n10_
     have NB117_124 := n11_
     have NB124_117 := n12_
     clear n0_ n1_ n2_ n3_ n4_ n5_ n6_ n7_ n8_ n9_ n10_ n11_ n12_
     clear hb hbox hg
     refine hK.out _ _ ⟨(zf BK115.out 0).trans rfl,(zf BK115.out 1).trans rfl,(zf BK116.out 0).trans rfl,(zf BK116.out 1).trans rfl,(zf BK116.out 2).trans rfl⟩ (fun hHeld => ?_)
     clear hK K
     refine zaX (a' := ?_) ?_ ?_
     rotate_left
     ·show Act.put _ (some 5) _ = _
      simp only [Act.put,List.setIfInBounds_toArray,List.set_cons_zero,List.set_cons_succ,zS,zT]
      rfl
     refine zb1 (i := 3) (N := some 9) #[true,true,true,true,true,true,false,false,true,false] rfl rfl (zbr HT_.out qg) qq (fun K hK => ?_)
     refine Kd.zcC k63 _ 63 ?hg (N := 9) ?hd (xs := ([(⟨a1_0,a1_1,a1_2⟩ : S63)] : List (S63))) (inner := [.int .i64 a1_0, .int .i64 a1_1, .string a1_2]) (ok := fun _ => True) (okp := fun _ => True) ?hr ?hp (fun _ hk => hk) trivial (Below.refl _ _) (Nat.le_refl _) qC ?_; (case hd => rfl); (case hg => rfl); (case hr => exact qk); (case hp => exact (zX.c3 (show Kd.M k63 _ _ _ (⟨a1_0,a1_1,a1_2⟩ : S63) [.int .i64 a1_0, .int .i64 a1_1, .string a1_2] from (zbK _ _ _ (⟨a1_0,a1_1,a1_2⟩ : S63) )) (zX.none _ _)))
     intro v119 w32 ho33 hb hg_ hnew_
     clear hg_ hnew_
     (first | rw [← Ny118.out] at ho33 | (simp only [Int.reduceToNat] at ho33; rw [← Ny118.out] at ho33))
     have n0_ := za.mk (Kd.zaO (Kd.zfh ho33 (g := gb116) (o := .cells #[.int .i64 a1_0, .int .i64 a1_1, .string a1_2] 63 (0,0)) (qa BK116.out)) (zy (by repeat (first | (with_reducible first | exact HB.out | apply ze | apply zb | apply zg | refine zh ?_ GE115.out | refine zh ?_ GE116.out | refine zh ?_ GE117.out | refine zh ?_ GE124.out) | exact HB.out))))
     have n1_ := za.mk (zu (g := gb115) (o := .cells #[.int .i64 a0_0, .slice A0_1 l0_1.length c0_1] 134 (0,0)) (qa BK115.out) hb)
     have n2_ := za.mk (zu (g := gb116) (o := .cells #[.int .i64 a1_0, .int .i64 a1_1, .string a1_2] 63 (0,0)) (qa BK116.out) hb)
     have n3_ := za.mk (zu (g := gb117) (o := .cells #[.int .i64 0, .slice none 0 0] 134 (0,0)) (qa BK117.out) hb)
     have n4_ := za.mk (zu (g := gb124) (o := .cells #[.int .i64 0, .slice none 0 0] 134 (0,0)) (qa BK124.out) hb)
     have n5_ := za.mk (zo (by repeat (first | (with_reducible first | exact HB.out | apply ze | apply zb | apply zg | refine zh ?_ GE115.out | refine zh ?_ GE116.out | refine zh ?_ GE117.out | refine zh ?_ GE124.out) | exact HB.out)) hb)
     clear BK115
     clear BK116
     clear BK117
     clear BK124
     clear HB
     have HO120 := n0_
     have BK115 := n1_
     have BK116 := n2_
     have BK117 := n3_
     have BK124 := n4_
     have HB := n5_
     clear n0_ n1_ n2_ n3_ n4_ n5_
     clear hb ho33
     refine hK.out _ _ ⟨(zf BK115.out 0).trans rfl,(zf BK115.out 1).trans rfl,(zf BK116.out 0).trans rfl,(zf BK116.out 1).trans rfl,(zf BK116.out 2).trans rfl⟩ (fun hHeld => ?_)
     clear hK K
     refine zaX (a' := ?_) ?_ ?_
     rotate_left
     ·show Act.put _ (some 9) _ = _
      simp only [Act.put,List.setIfInBounds_toArray,List.set_cons_zero,List.set_cons_succ,zS,zT]
      rfl
     refine zb1 (i := 6) (N := some 12) #[true,true,true,true,true,true,true,false,true,false] rfl rfl (zbr HT_.out qg) qq (fun K hK => ?_)
     refine Kd.za7 k63 (w0 := w) w.heap.size qA (.tmp 9) (.tmp 11) 31 63 (.agg #[(.int .i64 0),(.int .i64 0),(.string ⟨#[]⟩)]) 32 rfl Try.underlying31 zb4 rfl qq ql v119 y118 l0_1 _ _ _ (fun k_ => k_ ≠ gb116) (fun _ => False) rfl rfl ?aO ?aR (fun _ _ h => h) (fun _ h => h.elim) ?aF ?aB ?aS ?aL ?_
     (case aR => exact qj HR0_1.out HB.out)
     (case aB => exact (by repeat (first | (with_reducible first | exact HB.out | apply ze | apply zb | apply zg | refine zh ?_ GE115.out | refine zh ?_ GE116.out | refine zh ?_ GE117.out | refine zh ?_ GE124.out) | exact HB.out)))
     (case aF => exact (fun k_ hk => Kd.zbq (g := gb116) (o := .cells #[.int .i64 a1_0, .int .i64 a1_1, .string a1_2] 63 (0,0)) (qa BK116.out) k_ hk))
     (case aO => exact (qD HO120.out))
     (case aS => exact (zy (by repeat (first | (with_reducible first | exact HB.out | apply ze | apply zb | apply zg | refine zh ?_ GE115.out | refine zh ?_ GE116.out | refine zh ?_ GE117.out | refine zh ?_ GE124.out) | exact HB.out))))
     (case aL => have := LMc3.out; omega)
     intro v122 w34 ho hb hg hat
     rw [← Ny121.out] at ho
     have n0_ := za.mk (zaD (g := gb115) (o := .cells #[.int .i64 a0_0, .slice A0_1 l0_1.length c0_1] 134 (0,0)) (qa BK115.out) hg (Kd.zcw HO120.out BK115.out qq))
     have n1_ := za.mk (zaD (g := gb116) (o := .cells #[.int .i64 a1_0, .int .i64 a1_1, .string a1_2] 63 (0,0)) (qa BK116.out) hg (Kd.zdS HO120.out (fun _ hk => hk.2)))
     have n2_ := za.mk (zaD (g := gb117) (o := .cells #[.int .i64 0, .slice none 0 0] 134 (0,0)) (qa BK117.out) hg (Kd.zcw HO120.out BK117.out qq))
     have n3_ := za.mk (zaD (g := gb124) (o := .cells #[.int .i64 0, .slice none 0 0] 134 (0,0)) (qa BK124.out) hg (Kd.zcw HO120.out BK124.out qq))
     have n4_ := za.mk (hb)
     have n5_ := za.mk (ho)
     clear BK115
     clear BK116
     clear BK117
     clear BK124
     clear HB
     clear HO120
     have BK115 := n0_
     have BK116 := n1_
     have BK117 := n2_
     have BK124 := n3_
     have HB := n4_
     have HO123 := n5_
     clear n0_ n1_ n2_ n3_ n4_ n5_
     clear ho hb hg hat
     obtain ⟨Ao35,co35,eo35⟩ := Kd.zbc HO123.out
     (first | subst eo35 | (injection eo35 with f1_ f2_ f3_; have f4_ := f1_.symm; have f5_ := f3_.symm; clear f1_ f2_ f3_; subst f4_; subst f5_))
     refine hK.out _ _ ⟨(zf BK115.out 0).trans rfl,(zf BK115.out 1).trans rfl,(zf BK116.out 0).trans rfl,(zf BK116.out 1).trans rfl,(zf BK116.out 2).trans rfl⟩ (fun hHeld => ?_)
     clear hK K
     refine zaX (a' := ?_) ?_ ?_
     rotate_left
     ·show Act.put _ (some 12) _ = _
      simp only [Act.put,List.setIfInBounds_toArray,List.set_cons_zero,List.set_cons_succ,zS,zT]
      rfl
     refine zaF (i := 7) (N := some 13) (v := ?_) (a' := ?_) #[true,true,true,true,true,true,true,true,true,false] rfl rfl (zas HT_.out qg) (fun _ _ _ h => h) (Or.inl ⟨by rfl,?_⟩) ?_ ?_
     rotate_left
     ·intro w'
      go_simp
      with_reducible rfl
     rotate_left
     ·simp only [Act.put,List.setIfInBounds_toArray,List.set_cons_zero,List.set_cons_succ,zS,zT]
      rfl
     exact zaX qE (hCont (v119, .slice Ao35 y121.length co35,gb124) _ ⟨hHeld,(qp HO123.out),(qa BK115.out),(qa BK116.out),(qa BK117.out),(qa BK124.out),GW124.out,GE124.out,NB115_124.out,NB124_115.out,NB116_124.out,NB124_116.out,NB117_124.out,NB124_117.out,(by repeat (first | (with_reducible first | exact HB.out | apply ze | apply zb | apply zg | refine zh ?_ GE115.out | refine zh ?_ GE116.out | refine zh ?_ GE117.out | refine zh ?_ GE124.out) | exact HB.out))⟩)
   rintro ⟨v119,v122,gb124⟩ w36 ⟨hS_,h0_,h1_,h2_,h3_,h4_,h5_,h6_,h7_,h8_,h9_,h10_,h11_,h12_,h13_⟩
   have n0_ : za (Kd.R k63 63 w36 w.heap.size (fun k_ => k_ ≠ gb116) v122 y121) := ⟨h0_⟩
   have n1_ : za (w36.heap[gb115]? = some (.cells #[.int .i64 a0_0, .slice A0_1 l0_1.length c0_1] 134 (0,0))) := ⟨h1_⟩
   have n2_ : za (w36.heap[gb116]? = some (.cells #[.int .i64 a1_0, .int .i64 a1_1, .string a1_2] 63 (0,0))) := ⟨h2_⟩
   have n3_ : za (w36.heap[gb117]? = some (.cells #[.int .i64 0, .slice none 0 0] 134 (0,0))) := ⟨h3_⟩
   have n4_ : za (w36.heap[gb124]? = some (.cells #[.int .i64 0, .slice none 0 0] 134 (0,0))) := ⟨h4_⟩
   have n5_ : za (w.heap.size ≤ gb124) := ⟨h5_⟩
   have n6_ : za (w.heap.size ≤ gb124) := ⟨h6_⟩
   have n7_ : za (gb115 ≠ gb124) := ⟨h7_⟩
   have n8_ : za (gb124 ≠ gb115) := ⟨h8_⟩
   have n9_ : za (gb116 ≠ gb124) := ⟨h9_⟩
   have n10_ : za (gb124 ≠ gb116) := ⟨h10_⟩
   have n11_ : za (gb117 ≠ gb124) := ⟨h11_⟩
   have n12_ : za (gb124 ≠ gb117) := ⟨h12_⟩
   have n13_ : za (Below w.heap.size w w36) := ⟨h13_⟩
   clear BK115
   clear BK116
   clear BK117
   clear HB
   clear h0_ h1_ h2_ h3_ h4_ h5_ h6_ h7_ h8_ h9_ h10_ h11_ h12_ h13_
   have HO123 := n0_
   have BK115 := n1_
   have BK116 := n2_
   have BK117 := n3_
   have BK124 := n4_
   have GW124 := n5_
   have GE124 := n6_
   have NB115_124 := n7_
   have NB124_115 := n8_
   have NB116_124 := n9_
   have NB124_116 := n10_
   have NB117_124 := n11_
   have NB124_117 := n12_
   have HB := n13_
   clear n0_ n1_ n2_ n3_ n4_ n5_ n6_ n7_ n8_ n9_ n10_ n11_ n12_ n13_
   have hHeld : w36.cell? ⟨gb115,0,none⟩ = some (.int .i64 a0_0) ∧ w36.cell? ⟨gb115,1,none⟩ = some (.slice A0_1 l0_1.length c0_1) ∧ w36.cell? ⟨gb116,0,none⟩ = some (.int .i64 a1_0) ∧ w36.cell? ⟨gb116,1,none⟩ = some (.int .i64 a1_1) ∧ w36.cell? ⟨gb116,2,none⟩ = some (.string a1_2) := hS_
   obtain ⟨Ao37,co37,eo37⟩ := Kd.zbc HO123.out
   (first | subst eo37 | (injection eo37 with f1_ f2_ f3_; have f4_ := f1_.symm; have f5_ := f3_.symm; clear f1_ f2_ f3_; subst f4_; subst f5_))
   refine zaX (a' := ?_) ?_ ?_
   rotate_left
   ·simp only [zcu,Act.put,List.setIfInBounds_toArray,List.set_cons_zero,List.set_cons_succ]
    rfl
   refine zb1 (i := 9) (N := none) #[true,true,true,true,true,true,true,true,true,true] rfl rfl (zbr HT_.out qg) qq (fun K hK => ?_)
   have hs38 : w36.cell? ⟨gb124,0,none⟩ = some (.int .i64 0) := (zf BK124.out 0).trans rfl
   have hfs38 := zn BK124.out 0
   have hns38_0 := NB115_124.out
   have hns38_1 := NB116_124.out
   have hns38_2 := NB117_124.out
   have hms38_0 := NB124_115.out
   have hms38_1 := NB124_116.out
   have hms38_2 := NB124_117.out
   have hs39 : w36.cell? ⟨gb124,1,none⟩ = some (.slice none 0 0) := (zf BK124.out 1).trans rfl
   have hfs39 := zn BK124.out 1
   have hns39_0 := NB115_124.out
   have hns39_1 := NB116_124.out
   have hns39_2 := NB117_124.out
   have hms39_0 := NB124_115.out
   have hms39_1 := NB124_116.out
   have hms39_2 := NB124_117.out
   refine zif (w1 := ?_) qA rfl ?_ ?_
   rotate_left
   ·go_simp
    rfl
   refine hK.out _ _ ⟨((cell_far (p := ⟨gb124,_,none⟩) NB115_124.out _).trans (((cell_far (p := ⟨gb124,_,none⟩) NB115_124.out _).trans (hHeld.1)))),((cell_far (p := ⟨gb124,_,none⟩) NB115_124.out _).trans (((cell_far (p := ⟨gb124,_,none⟩) NB115_124.out _).trans (hHeld.2.1)))),((cell_far (p := ⟨gb124,_,none⟩) NB116_124.out _).trans (((cell_far (p := ⟨gb124,_,none⟩) NB116_124.out _).trans (hHeld.2.2.1)))),((cell_far (p := ⟨gb124,_,none⟩) NB116_124.out _).trans (((cell_far (p := ⟨gb124,_,none⟩) NB116_124.out _).trans (hHeld.2.2.2.1)))),((cell_far (p := ⟨gb124,_,none⟩) NB116_124.out _).trans (((cell_far (p := ⟨gb124,_,none⟩) NB116_124.out _).trans (hHeld.2.2.2.2))))⟩ (fun hHeld => ?_)
   clear hK K
   refine zej (zc0 HT_.out qg) ?_
   have hnb40 := NB116_115.out
   have hnc40 := NB115_116.out
   have hnb41 := NB116_117.out
   have hnc41 := NB117_116.out
   have hnb42 := NB116_124.out
   have hnc42 := NB124_116.out
   have hcz43_0 : w36.cell? ⟨gb116,0,none⟩ = some (.int .i64 a1_0) := (zf BK116.out 0).trans rfl
   have hcz43_1 : w36.cell? ⟨gb116,1,none⟩ = some (.int .i64 a1_1) := (zf BK116.out 1).trans rfl
   have hcz43_2 : w36.cell? ⟨gb116,2,none⟩ = some (.string a1_2) := (zf BK116.out 2).trans rfl
   have hfz43_0 := zn BK116.out 0
   have hfz43_1 := zn BK116.out 1
   have hfz43_2 := zn BK116.out 2
   have hnb44 := NB124_115.out
   have hnc44 := NB115_124.out
   have hnb45 := NB124_117.out
   have hnc45 := NB117_124.out
   have hcz46_0 : w36.cell? ⟨gb124,0,none⟩ = some (.int .i64 0) := (zf BK124.out 0).trans rfl
   have hcz46_1 : w36.cell? ⟨gb124,1,none⟩ = some (.slice none 0 0) := (zf BK124.out 1).trans rfl
   have hfz46_0 := zn BK124.out 0
   have hfz46_1 := zn BK124.out 1
   have hnb47 := NB117_115.out
   have hnc47 := NB115_117.out
   have hcz48_0 : w36.cell? ⟨gb117,0,none⟩ = some (.int .i64 0) := (zf BK117.out 0).trans rfl
   have hcz48_1 : w36.cell? ⟨gb117,1,none⟩ = some (.slice none 0 0) := (zf BK117.out 1).trans rfl
   have hfz48_0 := zn BK117.out 0
   have hfz48_1 := zn BK117.out 1
   try go_wp2
   refine bodyPost_ret (results_cell_row rfl _ _ gb117 134 #[.int .i64 (wrap64 (a0_0 + 1)), .slice Ao37 y121.length co37] (0,0) _ rfl (by (with_reducible repeat (first | refine zl ?_ _ | refine zm ?_ | refine zi ?_ _)); refine zV (cs := #[.int .i64 (wrap64 (a0_0 + 1)), .slice none 0 0]) ?_ 1 _ rfl; (with_reducible repeat (first | refine zl ?_ _ | refine zm ?_ | refine zi ?_ _)); refine zV (cs := #[.int .i64 0, .slice none 0 0]) ?_ 0 _ rfl; (with_reducible repeat (first | refine zl ?_ _ | refine zm ?_ | refine zi ?_ _)); refine zav ?_ NB117_124.out _; (with_reducible repeat (first | refine zl ?_ _ | refine zm ?_ | refine zi ?_ _)); refine zav ?_ NB117_124.out _; (with_reducible repeat (first | refine zl ?_ _ | refine zm ?_ | refine zi ?_ _)); refine zav ?_ NB117_124.out _; (with_reducible repeat (first | refine zl ?_ _ | refine zm ?_ | refine zi ?_ _)); exact BK117.out) Try.underlying134 rfl qg) rfl ?_
   exact ⟨_,by first | rfl | (simp [zw,zx] <;> rfl) | (simp [*,zw,zx] <;> rfl),by (with_reducible repeat (first | apply Kd.zaE | apply Kd.zau | apply Kd.zaJ)); exact Kd.zaB (Kd.zcI (p := ⟨gb117,1,none⟩) (Kd.zcI (p := ⟨gb117,0,none⟩) (Kd.zcI (p := ⟨gb124,0,none⟩) (Kd.zcI (p := ⟨gb124,1,none⟩) (Kd.zcI (p := ⟨gb124,0,none⟩) (Kd.zdv (Kd.zdv HO123.out BK124.out qq) BK117.out qq) (fun _ hk => hk.1.2) (.int .i64 a0_0)) (fun _ hk => hk.1.2) (.slice Ao37 y121.length co37)) (fun _ hk => hk.1.2) (.int .i64 (wrap64 (a0_0 + 1)))) (fun _ hk => hk.2) (.int .i64 (wrap64 (a0_0 + 1)))) (fun _ hk => hk.2) (.slice Ao37 y121.length co37)) (fun _ hk => trivial),by repeat (first | (with_reducible first | exact HB.out | apply ze | apply zb | apply zg | refine zh ?_ GE115.out | refine zh ?_ GE116.out | refine zh ?_ GE117.out | refine zh ?_ GE124.out) | exact HB.out)⟩
 ·rw [if_neg c3] at H
  exact absurd H qC
section held
variable {Pg : Program} {ops : Array Oper} {Q : Exit → Act → World → Prop} {md : Region.Mode} {S : World → Prop} {ks : List Nat}
def zbq (ks : List Nat) (listed : Array Bool) : Bool := ks.all fun t => !(listed.getD t false)
def zfl (md : Region.Mode) (ops : Array Oper) (ks : List Nat) (i : Nat) : Bool := ks.all fun t => ((ops[t]?).map fun o => o.after.any fun e => Region.binds md e && e.on == i).getD false
def zbu (P : Program) (md : Region.Mode) (ops : Array Oper) (Q : Exit → Act → World → Prop) (S : World → Prop) (ks : List Nat) : Nat → Array Bool → Act → World → Prop
 | 0,listed,a,w => Region.ready md ops listed = [] ∧ Q .normal a w
 | fuel + 1,listed,a,w =>
  (Region.ready md ops listed = [] → Q .normal a w) ∧
  ∀ i ∈ Region.ready md ops listed,wpOp P ops Q i (fun a' w' => (zbq ks (listed.setIfInBounds i true) = true → S w') ∧ zbu P md ops Q S ks fuel (listed.setIfInBounds i true) a' w') a w
theorem zfg : ∀ (fuel : Nat) (listed : Array Bool) (a : Act) (w : World),zbu Pg md ops Q S ks fuel listed a w → wpAny Pg md ops Q fuel listed a w
 | 0,_,_,_,h => h
 | fuel + 1,_,_,_,h => ⟨h.1,fun i hi => wpOp_mono (fun a' w' h' => zfg fuel _ a' w' h'.2) (h.2 i hi)⟩
theorem zem {listed : Array Bool} {j : Nat} (hj : j ∉ ks) : zbq ks (listed.setIfInBounds j true) = zbq ks listed := by
 unfold zbq
 rw [Bool.eq_iff_iff,List.all_eq_true,List.all_eq_true]
 refine forall_congr' fun t => forall_congr' fun ht => ?_
 have hne : j ≠ t := fun e => hj (e ▸ ht)
 rw [getD_set_false hne]
where
 getD_set_false {l : Array Bool} {j t : Nat} (hne : j ≠ t) : (l.setIfInBounds j true).getD t false = l.getD t false := by
  rw [Array.getD_eq_getD_getElem?,Array.getD_eq_getD_getElem?,Array.getElem?_setIfInBounds_ne hne]
theorem zgd {listed : Array Bool} {j : Nat} (h : j ∈ Region.ready md ops listed) {e : Edge} {o : Oper} (ho : ops[j]? = some o) (he : e ∈ o.after) (hb : Region.binds md e = true) : listed.getD e.on false = true := by
 obtain ⟨_,oj,hoj,hall⟩ := mem_ready.1 h
 rw [ho] at hoj
 cases hoj
 exact hall e he hb
theorem zd7 {listed : Array Bool} {i j : Nat} (hk : zfl md ops ks i = true) (hi : listed.getD i true = false) (hj : j ∈ Region.ready md ops listed) : j ∉ ks := fun hm => by
 have h1 := List.all_eq_true.1 hk j hm
 cases ho : ops[j]? with
 | none => rw [ho] at h1; cases h1
 | some o =>
  rw [ho] at h1
  simp only [Option.map_some,Option.getD_some,Array.any_eq_true,Bool.and_eq_true,beq_iff_eq] at h1
  obtain ⟨n,hn,hb,he⟩ := h1
  have h2 := zgd hj ho (Array.getElem_mem hn) hb
  rw [he] at h2
  rcases Nat.lt_or_ge i listed.size with h' | h'
  ·simp [h'] at hi h2; rw [hi] at h2; cases h2
  ·simp [Array.getElem?_eq_none h'] at h2
theorem zf3 {i : Nat} {oi : Oper} {v : Value} (hi : ops[i]? = some oi) (hsel : ∀ (j : Nat) (o : Oper) cs b,ops[j]? = some o → o.op ≠ .select cs b)
  (hQ : ∀ c a w,Q (.panic c) (a.put oi.dst v) w → Q (.panic c) a w) (hk : zfl md ops ks i = true) :
  ∀ (fuel : Nat) (listed : Array Bool) (a : Act) (w : World),
   (∀ j oj,ops[j]? = some oj → j ≠ i → listed.getD j true = false → (∀ e ∈ oj.after,Region.binds md e = true → e.on ≠ i) → oi.apart ops oj = true) →
   i ∈ Region.ready md ops listed → zbq ks listed = true → YieldsIf Pg ops S oi v a → S w →
   zbu Pg md ops Q S ks fuel (listed.setIfInBounds i true) (a.put oi.dst v) w → zbu Pg md ops Q S ks (fuel + 1) listed a w := by
 intro fuel
 induction fuel with
 | zero =>
  intro listed a w _ hr hf hy hS H
  have hni := zd7 hk (mem_ready.1 hr).1 hr
  refine ⟨fun h => (by rw [h] at hr; cases hr),fun j hj => ?_⟩
  by_cases hji : j = i
  ·subst hji; exact hy.wpOp hi hS ⟨fun _ => hS,H⟩
  ·have := ready_mono hj hji
   rw [H.1] at this
   cases this
 | succ fuel ih =>
  intro listed a w hfree hr hf hy hS H
  have hun := (mem_ready.1 hr).1
  have hni := zd7 hk hun hr
  refine ⟨fun h => (by rw [h] at hr; cases hr),fun j hj => ?_⟩
  by_cases hji : j = i
  ·subst hji; exact hy.wpOp hi hS ⟨fun _ => hS,H⟩
  ·have h1 := H.2 j (ready_mono hj hji)
   have hnj := zd7 hk hun hj
   obtain ⟨hjun,oj,hoj,hall⟩ := mem_ready.1 hj
   have hnot : ∀ e ∈ oj.after,Region.binds md e = true → e.on ≠ i := fun e he hb heq => by
    have h1 := hall e he hb
    have h0 := hun
    rw [heq] at h1
    rcases Nat.lt_or_ge i listed.size with h' | h'
    ·simp [h'] at h0 h1; rw [h0] at h1; cases h1
    ·simp [Array.getElem?_eq_none h'] at h1
   have h2 := wpOp_putIf hoj (hfree j oj hoj hji hjun hnot) (fun cs b => hsel i oi cs b hi) (fun cs b => hsel j oj cs b hoj) hQ hy h1
   have hfree' : ∀ k ok,ops[k]? = some ok → k ≠ i → (listed.setIfInBounds j true).getD k true = false →
     (∀ e ∈ ok.after,Region.binds md e = true → e.on ≠ i) → oi.apart ops ok = true := fun k ok hk hki hun hno => by
    refine hfree k ok hk hki ?_ hno
    by_cases hjk : j = k
    ·subst hjk; exact hjun
    ·rw [getD_set_ne true hjk] at hun; exact hun
   have hf2 : zbq ks (listed.setIfInBounds j true) = true := by rw [zem hnj]; exact hf
   have hf3 : zbq ks ((listed.setIfInBounds i true).setIfInBounds j true) = true := by rw [zem hnj,zem hni]; exact hf
   refine wpOp_mono (fun a' w' h3 => ⟨fun _ => h3.2.1 hf3,ih (listed.setIfInBounds j true) a' w' hfree' (ready_mono hr (Ne.symm hji)) hf2 h3.1 (h3.2.1 hf3) ?_⟩) h2
   rw [Array.setIfInBounds_comm _ _ hji]
   exact h3.2.2
theorem zdO {i : Nat} {oi : Oper} {v : Value} {fuel : Nat} {listed : Array Bool} {a : Act} {w : World} (hi : ops[i]? = some oi)
  (hs : Region.noSelect ops = true) (hf : Region.free md ops listed i = true) (hr : (Region.ready md ops listed).contains i = true) (hk : zfl md ops ks i = true) (hfr : zbq ks listed = true)
  (hQ : ∀ c a w,Q (.panic c) (a.put oi.dst v) w → Q (.panic c) a w) (hy : YieldsIf Pg ops S oi v a) (hS : S w)
  (h : zbu Pg md ops Q S ks fuel (listed.setIfInBounds i true) (a.put oi.dst v) w) : zbu Pg md ops Q S ks (fuel + 1) listed a w :=
 zf3 hi (Region.noSelect_spec hs) hQ hk fuel listed a w (Region.free_spec hi hf) (by simpa using hr) hfr hy hS h
theorem zgY {i : Nat} {o : Oper} {fuel : Nat} {listed : Array Bool} {a : Act} {w : World} (hr : Region.ready md ops listed = [i]) (ho : ops[i]? = some o)
  (h : ∀ K : Act → World → Prop,za (∀ a' w',(zbq ks (listed.setIfInBounds i true) = true → S w') → zbu Pg md ops Q S ks fuel (listed.setIfInBounds i true) a' w' → K a' w') →
   if Region.wanted o (yielded ops a.tmps) = true then Oper.wp Pg o a w K Q else K (a.put o.dst undef) w) : zbu Pg md ops Q S ks (fuel + 1) listed a w := by
 refine ⟨fun h0 => (by rw [h0] at hr; cases hr),fun j hj => ?_⟩
 rw [hr] at hj
 obtain rfl := List.mem_singleton.1 hj
 exact wpOp_step ho (fun K hK => h K ⟨fun a' w' h1 h2 => hK a' w' ⟨h1,h2⟩⟩)
theorem zac {listed : Array Bool} {a : Act} {w : World} (hr : Region.ready md ops listed = []) (h : Q .normal a w) : ∀ fuel,zbu Pg md ops Q S ks fuel listed a w
 | 0 => ⟨hr,h⟩
 | _ + 1 => ⟨fun _ => h,by rw [hr]; simp⟩
theorem zal {id : Nat} {a : Act} {w : World} (S : World → Prop) (ks : List Nat) (hm : Pg.follows .mixedOrders = true)
  (h : zbu Pg .any ops Q S ks ops.size (Array.replicate ops.size false) a w.drew) : (Code.region id ops true).wp Pg Q a w :=
 wp_region_any hm (zfg _ _ _ _ h)
end held
section held2
variable {Pg : Program} {ops : Array Oper} {Q : Exit → Act → World → Prop} {md : Region.Mode} {S : World → Prop} {ks : List Nat}
theorem zfj {i j : Nat} {oi oj : Oper} {fuel : Nat} {listed : Array Bool} {a : Act} {w : World} (hr : Region.ready md ops listed = [i,j]) (hi : ops[i]? = some oi) (hj : ops[j]? = some oj)
  (h1 : ∀ K : Act → World → Prop,za (∀ a' w',(zbq ks (listed.setIfInBounds i true) = true → S w') → zbu Pg md ops Q S ks fuel (listed.setIfInBounds i true) a' w' → K a' w') →
   if Region.wanted oi (yielded ops a.tmps) = true then Oper.wp Pg oi a w K Q else K (a.put oi.dst undef) w)
  (h2 : ∀ K : Act → World → Prop,za (∀ a' w',(zbq ks (listed.setIfInBounds j true) = true → S w') → zbu Pg md ops Q S ks fuel (listed.setIfInBounds j true) a' w' → K a' w') →
   if Region.wanted oj (yielded ops a.tmps) = true then Oper.wp Pg oj a w K Q else K (a.put oj.dst undef) w) : zbu Pg md ops Q S ks (fuel + 1) listed a w := by
 refine ⟨fun h0 => (by rw [h0] at hr; cases hr),fun k hk => ?_⟩
 rw [hr] at hk
 rcases List.mem_cons.1 hk with rfl | hk
 ·exact wpOp_step hi (fun K hK => h1 K ⟨fun a' w' h1 h2 => hK a' w' ⟨h1,h2⟩⟩)
 ·obtain rfl := List.mem_singleton.1 hk
  exact wpOp_step hj (fun K hK => h2 K ⟨fun a' w' h1 h2 => hK a' w' ⟨h1,h2⟩⟩)
end held2
def opAt : List Oper → Nat → Option Oper
 | [],_ => none
 | o :: _,0 => some o
 | _ :: l,n + 1 => opAt l n
theorem zed : ∀ (l : List Oper) (i : Nat) (o : Oper),opAt l i = some o → l[i]? = some o
 | [],_,_,h => by simp [opAt] at h
 | _ :: _,0,_,h => by simpa [opAt] using h
 | _ :: l,n + 1,o,h => by rw [List.getElem?_cons_succ]; exact zed l n o h
def tkB (md : Region.Mode) (ops : Array Oper) (ks : List Nat) (listed : Array Bool) (i : Nat) : Bool :=
 Region.noSelect ops && Region.free md ops listed i && (Region.ready md ops listed).contains i && zfl md ops ks i && zbq ks listed
section held3
variable {Pg : Program} {ops : Array Oper} {Q : Exit → Act → World → Prop} {md : Region.Mode} {S : World → Prop} {ks : List Nat}
theorem tk (i : Nat) {oi : Oper} {v : Value} {fuel : Nat} {listed : Array Bool} {a : Act} {w : World} (h : zbu Pg md ops Q S ks fuel (listed.setIfInBounds i true) (a.put oi.dst v) w)
  (hi : opAt ops.toList i = some oi := by rfl) (hc : tkB md ops ks listed i = true := by kernel_rfl) (hw : Region.wanted oi (yielded ops a.tmps) = true := by rfl) (hS : S w := by assumption)
  (hQ : ∀ c a w,Q (.panic c) (a.put oi.dst v) w → Q (.panic c) a w := by exact fun _ _ _ h => h)
  (hy : ∀ w,S w → (execOp a.eval oi).run Pg w = .ok (.value v) w := by intro w_ hS_; (try dsimp only at hS_); go_simp; all_goals (with_reducible rfl)) : zbu Pg md ops Q S ks (fuel + 1) listed a w := by
 simp only [tkB,Bool.and_eq_true] at hc
 obtain ⟨⟨⟨⟨h1,h2⟩,h3⟩,h4⟩,h5⟩ := hc
 exact zdO (by simpa using zed _ _ _ hi) h1 h2 h3 h4 h5 hQ (.inl ⟨hw,hy⟩) hS h
theorem tkn (i : Nat) {oi : Oper} {fuel : Nat} {listed : Array Bool} {a : Act} {w : World} (h : zbu Pg md ops Q S ks fuel (listed.setIfInBounds i true) (a.put oi.dst undef) w)
  (hi : opAt ops.toList i = some oi := by rfl) (hc : tkB md ops ks listed i = true := by kernel_rfl) (hw : Region.wanted oi (yielded ops a.tmps) = false := by rfl) (hS : S w := by assumption)
  (hQ : ∀ c a w,Q (.panic c) (a.put oi.dst undef) w → Q (.panic c) a w := by exact fun _ _ _ h => h) : zbu Pg md ops Q S ks (fuel + 1) listed a w := by
 simp only [tkB,Bool.and_eq_true] at hc
 obtain ⟨⟨⟨⟨h1,h2⟩,h3⟩,h4⟩,h5⟩ := hc
 exact zdO (by simpa using zed _ _ _ hi) h1 h2 h3 h4 h5 hQ (.inr ⟨hw,rfl⟩) hS h
theorem on1 (i : Nat) {o : Oper} {fuel : Nat} {listed : Array Bool} {a : Act} {w : World}
  (h : ∀ K : Act → World → Prop,za (∀ a' w',(zbq ks (listed.setIfInBounds i true) = true → S w') → zbu Pg md ops Q S ks fuel (listed.setIfInBounds i true) a' w' → K a' w') →
   if Region.wanted o (yielded ops a.tmps) = true then Oper.wp Pg o a w K Q else K (a.put o.dst undef) w)
  (ho : opAt ops.toList i = some o := by rfl) (hr : Region.ready md ops listed = [i] := by kernel_rfl) : zbu Pg md ops Q S ks (fuel + 1) listed a w :=
 zgY hr (by simpa using zed _ _ _ ho) h
end held3
theorem pu0 (a : Act) (n : Nat) (v : Value) : a.put (some n) v = { a with tmps := a.tmps.setIfInBounds n v } := rfl
theorem pu1 (a : Act) (v : Value) : a.put none v = a := rfl
theorem pu2 {α : Type} (l : List α) (i : Nat) (x : α) : l.toArray.setIfInBounds i x = (l.set i x).toArray := by simp
theorem pu3 {α : Type} (x y : α) (l : List α) : (x :: l).set 0 y = y :: l := rfl
theorem pu4 {α : Type} (x y : α) (l : List α) (n : Nat) : (x :: l).set (n + 1) y = x :: l.set n y := rfl
theorem zff (d : Nat) (w : World) (x0 y0 : Int) (x1 y1 : Int) (x2 y2 : ByteArray) :
  (Op.equalIn (d + 2) 63 (.agg #[.int .i64 x0, .int .i64 x1, .string x2]) (.agg #[.int .i64 y0, .int .i64 y1, .string y2])).run Try.prog w = .ok (x0 == y0 && (x1 == y1 && (x2.toList == y2.toList))) w := by
 refine ziZ Try.underlying63 qg ?_
 refine zge qA (by go_simp; rfl) (by go_simp; rfl) (by go_simp) ?_
 refine zge qA (by go_simp; rfl) (by go_simp; rfl) (by go_simp) ?_
 exact zh7 qA (by go_simp; rfl) (by go_simp; rfl) (by go_simp)
end Go.Proofs.Ytgmbbfmbimofoaa.P
namespace Go.Proofs.Ytgmbbfmbimofoaa.P
open Go.RowKit Go.Proofs.YtgmbbfmbimofoaaW.PrintWords Go.Proofs.YtgmbbfmbimofoaaW.PrintLast Go.Proofs.YtgmbbfmbimofoaaW.PrintMore
attribute [local go_sem] zH zI zP zO zC zB zJ zK
set_option linter.unusedVariables false
set_option linter.unusedSimpArgs false
attribute [local go_sem high] zff
def zae.l0 : Nat → List (S63) → List (S63) → Int → Option (Bool)
 | 0,_,_,_ => none
 | k + 1,x0,x1,x5 => if x5 < (x0.length : Int) then (if 0 ≤ x5 then (if x5 < (x1.length : Int) then (if (!(((zk x0 x5).f0) == ((zk x1 x5).f0)) || (!(((zk x0 x5).f1) == ((zk x1 x5).f1)) || (!((((zk x0 x5).f2).toList) == (((zk x1 x5).f2).toList))))) = true then (some false) else (zae.l0 k x0 x1 (wrap64 (x5 + 1)))) else (none)) else (none)) else (some true)
def zae.f (k : Nat) (l0 : List (S63)) (l1 : List (S63)) : Option (Bool) := if (l0.length : Int) = (l1.length : Int) then (zae.l0 k l0 l1 0) else (some false)
set_option maxHeartbeats 8000000 in
set_option maxRecDepth 100000 in
theorem zae.calls (k : Nat) (A0 : Option Addr) (c0 : Nat) (l0 : List (S63)) (A1 : Option Addr) (c1 : Nat) (l1 : List (S63)) (r : Bool) (w : World) (hr0 : Kd.C k63 w A0 l0.length l0) (hc0 : l0.length ≤ c0) (hr1 : Kd.C k63 w A1 l1.length l1) (hc1 : l1.length ≤ c1) (h : zae.f k l0 l1 = some r) :
  Calls Try.prog 24 #[.slice A0 l0.length c0, .slice A1 l1.length c1] w fun e w' => e = .returned (.bool r) ∧ zz w w' := by
 have hu63 := Try.underlying63
 have HR0 := za.mk hr0
 have HC0 := za.mk hc0
 clear hr0 hc0
 have HR1 := za.mk hr1
 have HC1 := za.mk hc1
 clear hr1 hc1
 have H : (if (l0.length : Int) = (l1.length : Int) then (zae.l0 k l0 l1 0) else (some false)) = some r := h
 clear h
 by_cases c3 : (l0.length : Int) = (l1.length : Int)
 ·rw [if_pos c3] at H
  have c3b0 : ((l0.length : Int) == (l1.length : Int)) = true := beq_iff_eq.mpr c3
  have c3b1 : ((l0.length : Int) != (l1.length : Int)) = false := bne_eq_false_iff_eq.mpr c3
  have c3b2 : (l0.length == l1.length) = true := by first | simpa using c3 | (simp at c3 ⊢; omega)
  clear c3
  have H' := za.mk H
  clear H
  go_enter Try.func24,Try.ntmps24
  go_wp2
  repeat (go_quiet (fail); try go_wp2)
  go_loopg [5] k (fun kq v5 w' => ∃ (x5_1 : Int),v5 = .int .i64 x5_1 ∧ za (zae.l0 kq l0 l1 x5_1 = some r) ∧ za (kq ≤ k) ∧ zz w w')
  case atStart => exact ⟨(0),qm,H',⟨Nat.le_refl _⟩,by repeat (first | exact zz.refl _ | apply zz.step)⟩
  case round =>
   clear H'
   try clear c1
   try clear c2
   try clear p2
   try clear c3
   try clear c3b0
   try clear c3b1
   try clear c3b2
   obtain ⟨x5_1,rfl,HA,HK1,⟨m1,rfl⟩⟩ := hrel
   cases gk with
   | zero => exact absurd HA.out (by simp [zae.l0])
   | succ k1 =>
    have H := HA.out
    clear HA
    simp only [zae.l0] at H
    by_cases c4 : x5_1 < (l0.length : Int)
    ·rw [if_pos c4] at H
     have c4b0 : decide (x5_1 < (l0.length : Int)) = true := decide_eq_true c4
     clear c4
     by_cases c5 : 0 ≤ x5_1
     ·rw [if_pos c5] at H
      have c5b0 : decide (0 ≤ x5_1) = true := decide_eq_true c5
      clear c5
      by_cases c6 : x5_1 < (l1.length : Int)
      ·rw [if_pos c6] at H
       have c6b0 : decide (x5_1 < (l1.length : Int)) = true := decide_eq_true c6
       clear c6
       by_cases c7 : (!(((zk l0 x5_1).f0) == ((zk l1 x5_1).f0)) || (!(((zk l0 x5_1).f1) == ((zk l1 x5_1).f1)) || (!((((zk l0 x5_1).f2).toList) == (((zk l1 x5_1).f2).toList))))) = true
       ·rw [if_pos c7] at H
        have c7b0 : (!(((zk l0 x5_1).f0) == ((zk l1 x5_1).f0)) || (!(((zk l0 x5_1).f1) == ((zk l1 x5_1).f1)) || (!((((zk l0 x5_1).f2).toList) == (((zk l1 x5_1).f2).toList))))) = true := c7
        clear c7
        obtain rfl := Option.some.inj H
        have p111 : 0 ≤ (x5_1 : Int) := of_decide_eq_true qd
        have q111 : x5_1 < (l0.length : Int) := of_decide_eq_true qd
        obtain ⟨ad111,e111,hx111_0,hx111_1,hx111_2⟩ := zbb HR0.out x5_1 p111 q111
        cases e111
        replace p111 := eq_true p111
        replace q111 := eq_true q111
        have p112 : 0 ≤ (x5_1 : Int) := of_decide_eq_true qd
        have q112 : x5_1 < (l1.length : Int) := of_decide_eq_true qd
        obtain ⟨ad112,e112,hx112_0,hx112_1,hx112_2⟩ := zbb HR1.out x5_1 p112 q112
        cases e112
        replace p112 := eq_true p112
        replace q112 := eq_true q112
        go_wp2
        repeat (go_quiet (fail); try go_wp2)
        go_ret
        exact ⟨by first | rfl | (simp; done) | (simp [*]; done),by repeat (first | exact zz.refl _ | apply zz.step)⟩
       ·rw [if_neg c7] at H
        have c7b0 : (!(((zk l0 x5_1).f0) == ((zk l1 x5_1).f0)) || (!(((zk l0 x5_1).f1) == ((zk l1 x5_1).f1)) || (!((((zk l0 x5_1).f2).toList) == (((zk l1 x5_1).f2).toList))))) = false := by simpa using c7
        clear c7
        have H' := za.mk H
        clear H
        have p111 : 0 ≤ (x5_1 : Int) := of_decide_eq_true qd
        have q111 : x5_1 < (l0.length : Int) := of_decide_eq_true qd
        obtain ⟨ad111,e111,hx111_0,hx111_1,hx111_2⟩ := zbb HR0.out x5_1 p111 q111
        cases e111
        replace p111 := eq_true p111
        replace q111 := eq_true q111
        have p112 : 0 ≤ (x5_1 : Int) := of_decide_eq_true qd
        have q112 : x5_1 < (l1.length : Int) := of_decide_eq_true qd
        obtain ⟨ad112,e112,hx112_0,hx112_1,hx112_2⟩ := zbb HR1.out x5_1 p112 q112
        cases e112
        replace p112 := eq_true p112
        replace q112 := eq_true q112
        go_wp2
        repeat (go_quiet (fail); try go_wp2)
        go_roundg k1
        case measure => have := HK1.out; omega
        case rel => exact ⟨(wrap64 (x5_1 + 1)),qm,H',⟨by have := HK1.out; omega⟩,by repeat (first | exact zz.refl _ | apply zz.step)⟩
      ·rw [if_neg c6] at H
       exact absurd H qC
     ·rw [if_neg c5] at H
      exact absurd H qC
    ·rw [if_neg c4] at H
     have c4b0 : decide (x5_1 < (l0.length : Int)) = false := decide_eq_false c4
     clear c4
     obtain rfl := Option.some.inj H
     go_wp2
     repeat (go_quiet (fail); try go_wp2)
     go_ret
     exact ⟨by first | rfl | (simp; done) | (simp [*]; done),by repeat (first | exact zz.refl _ | apply zz.step)⟩
 ·rw [if_neg c3] at H
  have c3b0 : ((l0.length : Int) == (l1.length : Int)) = false := beq_eq_false_iff_ne.mpr c3
  have c3b1 : ((l0.length : Int) != (l1.length : Int)) = true := bne_iff_ne.mpr c3
  have c3b2 : (l0.length == l1.length) = false := by first | simpa using c3 | (simp at c3 ⊢; omega)
  obtain rfl := Option.some.inj H
  go_enter Try.func24,Try.ntmps24
  go_wp2
  repeat (go_quiet (fail); try go_wp2)
  go_ret
  exact ⟨by first | rfl | (simp; done) | (simp [*]; done),by repeat (first | exact zz.refl _ | apply zz.step)⟩
def zaA.l0 : Nat → List ByteArray → List ByteArray → Int → Option (Bool)
 | 0,_,_,_ => none
 | k + 1,x0,x1,x5 => if x5 < (x0.length : Int) then (if 0 ≤ x5 then (if x5 < (x1.length : Int) then (if (zaC ByteArray.empty x0 x5).toList = (zaC ByteArray.empty x1 x5).toList then (zaA.l0 k x0 x1 (wrap64 (x5 + 1))) else (some false)) else (none)) else (none)) else (some true)
def zaA.f (k : Nat) (l0 : List ByteArray) (l1 : List ByteArray) : Option (Bool) := if (l0.length : Int) = (l1.length : Int) then (zaA.l0 k l0 l1 0) else (some false)
set_option maxHeartbeats 8000000 in
set_option maxRecDepth 100000 in
theorem zaA.calls (k : Nat) (A0 : Option Addr) (c0 : Nat) (l0 : List ByteArray) (A1 : Option Addr) (c1 : Nat) (l1 : List ByteArray) (r : Bool) (w : World) (hr0 : Kd.C Kd.string w A0 l0.length l0) (hc0 : l0.length ≤ c0) (hr1 : Kd.C Kd.string w A1 l1.length l1) (hc1 : l1.length ≤ c1) (h : zaA.f k l0 l1 = some r) :
  Calls Try.prog 25 #[.slice A0 l0.length c0, .slice A1 l1.length c1] w fun e w' => e = .returned (.bool r) ∧ zz w w' := by
 have HR0 := za.mk hr0
 have HC0 := za.mk hc0
 clear hr0 hc0
 have HR1 := za.mk hr1
 have HC1 := za.mk hc1
 clear hr1 hc1
 have H : (if (l0.length : Int) = (l1.length : Int) then (zaA.l0 k l0 l1 0) else (some false)) = some r := h
 clear h
 by_cases c3 : (l0.length : Int) = (l1.length : Int)
 ·rw [if_pos c3] at H
  have c3b0 : ((l0.length : Int) == (l1.length : Int)) = true := beq_iff_eq.mpr c3
  have c3b1 : ((l0.length : Int) != (l1.length : Int)) = false := bne_eq_false_iff_eq.mpr c3
  have c3b2 : (l0.length == l1.length) = true := by first | simpa using c3 | (simp at c3 ⊢; omega)
  clear c3
  have H' := za.mk H
  clear H
  go_enter Try.func25,Try.ntmps25
  go_wp2
  repeat (go_quiet (fail); try go_wp2)
  go_loopg [5] k (fun kq v5 w' => ∃ (x5_1 : Int),v5 = .int .i64 x5_1 ∧ za (zaA.l0 kq l0 l1 x5_1 = some r) ∧ za (kq ≤ k) ∧ zz w w')
  case atStart => exact ⟨(0),qm,H',⟨Nat.le_refl _⟩,by repeat (first | exact zz.refl _ | apply zz.step)⟩
  case round =>
   clear H'
   try clear c1
   try clear c2
   try clear p2
   try clear c3
   try clear c3b0
   try clear c3b1
   try clear c3b2
   obtain ⟨x5_1,rfl,HA,HK1,⟨m1,rfl⟩⟩ := hrel
   cases gk with
   | zero => exact absurd HA.out (by simp [zaA.l0])
   | succ k1 =>
    have H := HA.out
    clear HA
    simp only [zaA.l0] at H
    by_cases c4 : x5_1 < (l0.length : Int)
    ·rw [if_pos c4] at H
     have c4b0 : decide (x5_1 < (l0.length : Int)) = true := decide_eq_true c4
     clear c4
     by_cases c5 : 0 ≤ x5_1
     ·rw [if_pos c5] at H
      have c5b0 : decide (0 ≤ x5_1) = true := decide_eq_true c5
      clear c5
      by_cases c6 : x5_1 < (l1.length : Int)
      ·rw [if_pos c6] at H
       have c6b0 : decide (x5_1 < (l1.length : Int)) = true := decide_eq_true c6
       clear c6
       by_cases c7 : (zaC ByteArray.empty l0 x5_1).toList = (zaC ByteArray.empty l1 x5_1).toList
       ·rw [if_pos c7] at H
        have c7b0 : ((zaC ByteArray.empty l0 x5_1).toList == (zaC ByteArray.empty l1 x5_1).toList) = true := beq_iff_eq.mpr c7
        have c7b1 : ((zaC ByteArray.empty l0 x5_1).toList != (zaC ByteArray.empty l1 x5_1).toList) = false := bne_eq_false_iff_eq.mpr c7
        clear c7
        have H' := za.mk H
        clear H
        have p113 : 0 ≤ (x5_1 : Int) := of_decide_eq_true qd
        have q113 : x5_1 < (l0.length : Int) := of_decide_eq_true qd
        obtain ⟨ad113,e113,hx113_0⟩ := Kd.zaV HR0.out x5_1 p113 q113
        cases e113
        replace p113 := eq_true p113
        replace q113 := eq_true q113
        have p114 : 0 ≤ (x5_1 : Int) := of_decide_eq_true qd
        have q114 : x5_1 < (l1.length : Int) := of_decide_eq_true qd
        obtain ⟨ad114,e114,hx114_0⟩ := Kd.zaV HR1.out x5_1 p114 q114
        cases e114
        replace p114 := eq_true p114
        replace q114 := eq_true q114
        go_wp2
        repeat (go_quiet (fail); try go_wp2)
        go_roundg k1
        case measure => have := HK1.out; omega
        case rel => exact ⟨(wrap64 (x5_1 + 1)),qm,H',⟨by have := HK1.out; omega⟩,by repeat (first | exact zz.refl _ | apply zz.step)⟩
       ·rw [if_neg c7] at H
        have c7b0 : ((zaC ByteArray.empty l0 x5_1).toList == (zaC ByteArray.empty l1 x5_1).toList) = false := beq_eq_false_iff_ne.mpr c7
        have c7b1 : ((zaC ByteArray.empty l0 x5_1).toList != (zaC ByteArray.empty l1 x5_1).toList) = true := bne_iff_ne.mpr c7
        obtain rfl := Option.some.inj H
        have p113 : 0 ≤ (x5_1 : Int) := of_decide_eq_true qd
        have q113 : x5_1 < (l0.length : Int) := of_decide_eq_true qd
        obtain ⟨ad113,e113,hx113_0⟩ := Kd.zaV HR0.out x5_1 p113 q113
        cases e113
        replace p113 := eq_true p113
        replace q113 := eq_true q113
        have p114 : 0 ≤ (x5_1 : Int) := of_decide_eq_true qd
        have q114 : x5_1 < (l1.length : Int) := of_decide_eq_true qd
        obtain ⟨ad114,e114,hx114_0⟩ := Kd.zaV HR1.out x5_1 p114 q114
        cases e114
        replace p114 := eq_true p114
        replace q114 := eq_true q114
        go_wp2
        repeat (go_quiet (fail); try go_wp2)
        go_ret
        exact ⟨by first | rfl | (simp; done) | (simp [*]; done),by repeat (first | exact zz.refl _ | apply zz.step)⟩
      ·rw [if_neg c6] at H
       exact absurd H qC
     ·rw [if_neg c5] at H
      exact absurd H qC
    ·rw [if_neg c4] at H
     have c4b0 : decide (x5_1 < (l0.length : Int)) = false := decide_eq_false c4
     clear c4
     obtain rfl := Option.some.inj H
     go_wp2
     repeat (go_quiet (fail); try go_wp2)
     go_ret
     exact ⟨by first | rfl | (simp; done) | (simp [*]; done),by repeat (first | exact zz.refl _ | apply zz.step)⟩
 ·rw [if_neg c3] at H
  have c3b0 : ((l0.length : Int) == (l1.length : Int)) = false := beq_eq_false_iff_ne.mpr c3
  have c3b1 : ((l0.length : Int) != (l1.length : Int)) = true := bne_iff_ne.mpr c3
  have c3b2 : (l0.length == l1.length) = false := by first | simpa using c3 | (simp at c3 ⊢; omega)
  obtain rfl := Option.some.inj H
  go_enter Try.func25,Try.ntmps25
  go_wp2
  repeat (go_quiet (fail); try go_wp2)
  go_ret
  exact ⟨by first | rfl | (simp; done) | (simp [*]; done),by repeat (first | exact zz.refl _ | apply zz.step)⟩
end Go.Proofs.Ytgmbbfmbimofoaa.P
namespace Go.Proofs.Ytgmbbfmbimofoaa.P
open Go.RowKit Go.Proofs.YtgmbbfmbimofoaaW.PrintWords Go.Proofs.YtgmbbfmbimofoaaW.PrintLast Go.Proofs.YtgmbbfmbimofoaaW.PrintMore
attribute [local go_sem] zH zI zP zO zC zB zJ zK
set_option linter.unusedVariables false
set_option linter.unusedSimpArgs false
def zG (w0 W : World) (g : Nat) (f0 : List Int) (f1 : Int) (f2 : Int) : Prop := ∃ A0 c0,W.heap[g]? = some (.cells #[.slice A0 f0.length c0, .int .i64 f1, .int .u64 f2] 93 (0,0)) ∧ w0.heap.size ≤ g ∧ Kd.C (Kd.int .i64) w0 A0 f0.length f0
theorem zG.grown {w0 W : World} {g : Nat} {f0 : List Int} {f1 : Int} {f2 : Int} {W1 : World} {row : Option Nat} (h : zG w0 W g f0 f1 f2) (hw : W.grownBy W1 row) (hne : some g ≠ row) : zG w0 W1 g f0 f1 f2 := by
 obtain ⟨A0,c0,hb,hg,hr0⟩ := h
 exact ⟨A0,c0,zaD hb hw hne,hg,hr0⟩
theorem zG.fresh {w0 W : World} {g : Nat} {f0 : List Int} {f1 : Int} {f2 : Int} (h : zG w0 W g f0 f1 f2) : ∀ k,W.heap.size ≤ k → k ≠ g := by
 obtain ⟨A0,c0,hb,hg,hr0⟩ := h
 exact Kd.zbq hb
theorem zG.kept {w0 W : World} {g : Nat} {f0 : List Int} {f1 : Int} {f2 : Int} {W1 : World} {S : Nat → Prop} (h : zG w0 W g f0 f1 f2) (hk : Kept W W1 S) (hne : ¬ S g) : zG w0 W1 g f0 f1 f2 := by
 obtain ⟨A0,c0,hb,hg,hr0⟩ := h
 exact ⟨A0,c0,zhW hb hk hne,hg,hr0⟩
theorem zG.below {w0 W : World} {g : Nat} {f0 : List Int} {f1 : Int} {f2 : Int} {W1 : World} (h : zG w0 W g f0 f1 f2) (hw : Below W.heap.size W W1) : zG w0 W1 g f0 f1 f2 := h.grown (zdR hw none) qC
theorem zG.alloc {w0 W : World} {g : Nat} {f0 : List Int} {f1 : Int} {f2 : Int} (h : zG w0 W g f0 f1 f2) (o : Obj) : zG w0 (W.alloc o) g f0 f1 f2 := h.below (ze (Below.refl _ _) o)
theorem zG.drewN {w0 W : World} {g : Nat} {f0 : List Int} {f1 : Int} {f2 : Int} (h : zG w0 W g f0 f1 f2) (m : Nat) : zG w0 (W.drewN m) g f0 f1 f2 := h
theorem zG.drew {w0 W : World} {g : Nat} {f0 : List Int} {f1 : Int} {f2 : Int} (h : zG w0 W g f0 f1 f2) : zG w0 W.drew g f0 f1 f2 := h
theorem zG.apart {w0 W : World} {g : Nat} {f0 : List Int} {f1 : Int} {f2 : Int} {α : Type} {d : Kd α} {e : Nat} {base : Nat} {ok : Nat → Prop} {v : Value} {xs : List α} (h : zG w0 W g f0 f1 f2) (ho : d.R e W base ok v xs) (ht : ∀ q,q ∈ e :: d.E → q ≠ 93) : d.R e W base (fun k => ok k ∧ k ≠ g) v xs := by
 obtain ⟨A0,c0,hb,hg,hr0⟩ := h
 exact Kd.zdv ho hb ht
theorem zG.own_ne {w0 W : World} {g : Nat} {f0 : List Int} {f1 : Int} {f2 : Int} {α : Type} {d : Kd α} {e : Nat} {base : Nat} {ok : Nat → Prop} {v : Value} {xs : List α} (h : zG w0 W g f0 f1 f2) (ho : d.R e W base ok v xs) (ht : e ≠ 93) : some g ≠ v.ownBlock := by
 obtain ⟨A0,c0,hb,hg,hr0⟩ := h
 exact Kd.zcw ho hb ht
theorem zG.lt {w0 W : World} {g : Nat} {f0 : List Int} {f1 : Int} {f2 : Int} (h : zG w0 W g f0 f1 f2) : g < W.heap.size := by
 obtain ⟨A0,c0,hb,hg,hr0⟩ := h
 exact zR hb
theorem zG.ge {w0 W : World} {g : Nat} {f0 : List Int} {f1 : Int} {f2 : Int} (h : zG w0 W g f0 f1 f2) : w0.heap.size ≤ g := by
 obtain ⟨A0,c0,hb,hg,hr0⟩ := h
 exact hg
theorem zfB {W : World} {g : Nat} {A0 : Option Addr} {c0 : Nat} {f0 : List Int} {f1 : Int} {f2 : Int} (h : W.heap[g]? = some (.cells #[.slice A0 f0.length c0, .int .i64 f1, .int .u64 f2] 93 (0,0))) : W.cell? ⟨g,0,none⟩ = some (.slice A0 f0.length c0) := (zf h 0).trans rfl
theorem zhJ {W : World} {g : Nat} {A0 : Option Addr} {c0 : Nat} {f0 : List Int} {f1 : Int} {f2 : Int} (h : W.heap[g]? = some (.cells #[.slice A0 f0.length c0, .int .i64 f1, .int .u64 f2] 93 (0,0))) : W.cell? ⟨g,1,none⟩ = some (.int .i64 f1) := (zf h 1).trans rfl
theorem zG.zbR {w0 W : World} {g : Nat} {f0 : List Int} {f1 : Int} {f2 : Int} (h : zG w0 W g f0 f1 f2) (x : Int) : zG w0 (W.setCell ⟨g,1,none⟩ (.int .i64 x)) g f0 x f2 := by
 obtain ⟨A0,c0,hb,hg,hr0⟩ := h
 exact ⟨A0,c0,by simpa using zar hb 1 (.int .i64 x),hg,hr0⟩
theorem zhK {W : World} {g : Nat} {A0 : Option Addr} {c0 : Nat} {f0 : List Int} {f1 : Int} {f2 : Int} (h : W.heap[g]? = some (.cells #[.slice A0 f0.length c0, .int .i64 f1, .int .u64 f2] 93 (0,0))) : W.cell? ⟨g,2,none⟩ = some (.int .u64 f2) := (zf h 2).trans rfl
theorem zG.zbX {w0 W : World} {g : Nat} {f0 : List Int} {f1 : Int} {f2 : Int} (h : zG w0 W g f0 f1 f2) (x : Int) : zG w0 (W.setCell ⟨g,2,none⟩ (.int .u64 x)) g f0 f1 x := by
 obtain ⟨A0,c0,hb,hg,hr0⟩ := h
 exact ⟨A0,c0,by simpa using zar hb 2 (.int .u64 x),hg,hr0⟩
theorem zG.new (w0 W : World) (A0 : Option Addr) (c0 : Nat) (f0 : List Int) (f1 : Int) (f2 : Int) (hB : Below w0.heap.size w0 W) (hr0 : Kd.C (Kd.int .i64) w0 A0 f0.length f0) : zG w0 (W.alloc (.cells #[.slice A0 f0.length c0, .int .i64 f1, .int .u64 f2] 93)) W.heap.size f0 f1 f2 := ⟨A0,c0,by simpa using heap_alloc_new W _,hB.size,hr0⟩
def zb8.f (l0 : List Int) : Option (List Int × Int × Int) := some (l0,0,11400714819323198485)
set_option maxHeartbeats 8000000 in
set_option maxRecDepth 100000 in
theorem zb8.calls (A0 : Option Addr) (c0 : Nat) (l0 : List Int) (r1 : List Int) (r2 : Int) (r3 : Int) (w0 w : World) (hB : Below w0.heap.size w0 w) (hr0 : Kd.C (Kd.int .i64) w0 A0 l0.length l0) (hc0 : l0.length ≤ c0) (h : zb8.f l0 = some (r1,r2,r3)) :
  Calls Try.prog 19 #[.slice A0 l0.length c0] w fun e w' => ∃ g_ : Nat,e = .returned (.pointer (some ⟨g_,0,none⟩)) ∧ zG w0 w' g_ r1 r2 r3 ∧ Below w0.heap.size w0 w' ∧ Below w.heap.size w w' := by
 have hu93 := Try.underlying93
 have HR0 := za.mk hr0
 have HC0 := za.mk hc0
 clear hr0 hc0
 have HBW := za.mk (Below.refl w.heap.size w)
 have HW0 := za.mk hB.size
 have HB := za.mk hB
 clear hB
 have H : (some (l0,0,11400714819323198485)) = some (r1,r2,r3) := h
 clear h
 simp only [Option.some.injEq,Prod.mk.injEq] at H
 obtain ⟨rfl,rfl,rfl⟩ := H
 go_enter Try.func19,Try.ntmps19
 go_wp2_with (first | ((with_reducible refine zaa (N := 5) rfl ?_); refine zao ?hg (N := 5) ?hd (cs := #[.slice A0 l0.length c0, .int .i64 0, .int .u64 11400714819323198485]) (t := 93) ?hr ?_; (case hd => rfl); (case hg => rfl); (case hr => exact qk); intro gb187 hg w2 hbox hb; have n0_ := za.mk (zo HBW.out hb); have n1_ := za.mk (zo (qc HB.out) hb); have n2_ := za.mk (hbox); have n3_ := za.mk ((by rw [hg]; exact (zy (qc HBW.out)) : w.heap.size ≤ gb187)); have n4_ := za.mk ((Nat.le_trans HW0.out (by rw [hg]; exact (zy (qc HBW.out)) : w.heap.size ≤ gb187) : w0.heap.size ≤ gb187)); clear HBW; clear HB; have HBW := n0_; have HB := n1_; have BK187 := n2_; have GW187 := n3_; have GE187 := n4_; clear n0_ n1_ n2_ n3_ n4_; clear hb hbox hg))
 go_ret
 exact ⟨_,rfl,(show zG w0 _ gb187 l0 0 11400714819323198485 from ⟨_,_,by (with_reducible repeat (first | refine zl ?_ _ | refine zm ?_ | refine zi ?_ _)); exact BK187.out,GE187.out,HR0.out⟩),by repeat (first | (with_reducible first | exact HB.out | apply ze | apply zb | apply zg | refine zh ?_ GE187.out) | exact HB.out),by repeat (first | (with_reducible first | exact HBW.out | apply ze | apply zb | apply zg | refine zh ?_ GW187.out) | exact HBW.out)⟩
structure zbn (w0 w W : World) (g : Nat) (s0 : List Int) (a s : Int) : Prop where
 is : zG w0 W g s0 a s
 below : Below w0.heap.size w0 W
 keep : zM w W g none
theorem zbn.seed {w0 w W : World} {g : Nat} {s0 : List Int} {a s : Int} (h : zbn w0 w W g s0 a s) (x : Int) : zbn w0 w (W.setCell ⟨g,2,none⟩ (.int .u64 x)).drew g s0 a x :=
 ⟨(h.is.zbX x).drew,(h.below.setCell (p := ⟨g,2,none⟩) h.is.ge (.int .u64 x)).drew,zaU (zM.zbY h.keep 2 (.int .u64 x))⟩
theorem zbn.at {w0 w W : World} {g : Nat} {s0 : List Int} {a s : Int} (h : zbn w0 w W g s0 a s) (x : Int) : zbn w0 w (W.setCell ⟨g,1,none⟩ (.int .i64 x)) g s0 x s :=
 ⟨h.is.zbR x,h.below.setCell (p := ⟨g,1,none⟩) h.is.ge (.int .i64 x),zM.zbY h.keep 1 (.int .i64 x)⟩
theorem zbn.drew {w0 w W : World} {g : Nat} {s0 : List Int} {a s : Int} (h : zbn w0 w W g s0 a s) : zbn w0 w W.drew g s0 a s := ⟨h.is.drew,h.below.drew,zaU h.keep⟩
theorem zbn.c2 {w0 w W : World} {g : Nat} {s0 : List Int} {a s : Int} (h : zbn w0 w W g s0 a s) : W.cell? ⟨g,2,none⟩ = some (.int .u64 s) := by
 obtain ⟨A_,c_,hb_,_⟩ := h.is; exact zhK hb_
theorem zbn.f2 {w0 w W : World} {g : Nat} {s0 : List Int} {a s : Int} (h : zbn w0 w W g s0 a s) : W.frozen? ⟨g,2,none⟩ = false := by
 obtain ⟨A_,c_,hb_,_⟩ := h.is; exact zn hb_ 2
theorem zbn.c1 {w0 w W : World} {g : Nat} {s0 : List Int} {a s : Int} (h : zbn w0 w W g s0 a s) : W.cell? ⟨g,1,none⟩ = some (.int .i64 a) := by
 obtain ⟨A_,c_,hb_,_⟩ := h.is; exact zhJ hb_
theorem zbn.f1 {w0 w W : World} {g : Nat} {s0 : List Int} {a s : Int} (h : zbn w0 w W g s0 a s) : W.frozen? ⟨g,1,none⟩ = false := by
 obtain ⟨A_,c_,hb_,_⟩ := h.is; exact zn hb_ 1
def zbQ (s : Int) : Int :=
 bits BinOp.xor IntKind.u64 (bits BinOp.xor IntKind.u64 (bits BinOp.xor IntKind.u64 s (IntKind.u64.wrap (s * 8192))) (bits BinOp.xor IntKind.u64 s (IntKind.u64.wrap (s * 8192)) / 128))
  (IntKind.u64.wrap (bits BinOp.xor IntKind.u64 (bits BinOp.xor IntKind.u64 s (IntKind.u64.wrap (s * 8192))) (bits BinOp.xor IntKind.u64 s (IntKind.u64.wrap (s * 8192)) / 128) * 131072))
def zeD (x : Int) : Int :=
 bits BinOp.xor IntKind.u64 (IntKind.u64.wrap (bits BinOp.xor IntKind.u64 x (x / 1073741824) * 10723151780598845931)) (IntKind.u64.wrap (bits BinOp.xor IntKind.u64 x (x / 1073741824) * 10723151780598845931) / 2147483648)
def zdW (x n : Int) : Int := IntKind.u64.wrap (x + IntKind.u64.wrap (IntKind.u64.wrap n * 13787848793156543929))
def zaR.f (s0_0 : List Int) (s0_1 : Int) (s0_2 : Int) : Option (Int × Int × Int) :=
 if 0 ≤ s0_1 ∧ s0_0.length ≤ 17592186044416 then
  (if s0_1 < (s0_0.length : Int) then some (zeD (zdW (zbQ s0_2) (rd s0_0 s0_1)),s0_1 + 1,zdW (zbQ s0_2) (rd s0_0 s0_1)) else some (zeD (zbQ s0_2),s0_1,zbQ s0_2))
 else none
set_option maxHeartbeats 1000000 in
set_option maxRecDepth 100000 in
theorem ziX (g : Nat) (s0 : List Int) (s1 s2 : Int) (w0 w : World) (hIw : zG w0 w g s0 s1 s2) (hBw : Below w0.heap.size w0 w) (h0 : 0 ≤ s1) (h1 : (s0.length : Int) ≤ s1) (hl : s0.length ≤ 17592186044416) :
  Calls Try.prog 66 #[.pointer (some ⟨g,0,none⟩)] w fun e w' => e = .returned (.int .u64 (zeD (zbQ s2))) ∧ zG w0 w' g s0 (s1) (zbQ s2) ∧ Below w0.heap.size w0 w' ∧ zM w w' g none := by
 have Hw := za.mk (zbn.mk (w := w) hIw hBw (zM.refl w g none))
 clear hIw hBw
 have hc2 := Hw.out.c2
 have hf2 := Hw.out.f2
 go_enter Try.func66,Try.ntmps66
 go_wp2_with fail
 refine zal (fun W' => W'.cell? ⟨g,2,none⟩ = some (.int .u64 s2)) [13] qg ?_
 have HS : w.drew.cell? ⟨g,2,none⟩ = some (.int .u64 s2) := hc2
 refine tk 0 ?_
 (try simp only [pu0,pu1,pu2,pu3,pu4])
 refine tk 1 ?_
 (try simp only [pu0,pu1,pu2,pu3,pu4])
 refine tk 2 ?_
 (try simp only [pu0,pu1,pu2,pu3,pu4])
 refine tk 3 ?_
 (try simp only [pu0,pu1,pu2,pu3,pu4])
 refine tk 4 ?_
 (try simp only [pu0,pu1,pu2,pu3,pu4])
 refine tk 5 ?_
 (try simp only [pu0,pu1,pu2,pu3,pu4])
 refine tk 6 ?_
 (try simp only [pu0,pu1,pu2,pu3,pu4])
 refine tk 7 ?_
 (try simp only [pu0,pu1,pu2,pu3,pu4])
 refine tk 8 ?_
 (try simp only [pu0,pu1,pu2,pu3,pu4])
 refine tk 9 ?_
 (try simp only [pu0,pu1,pu2,pu3,pu4])
 refine tk 10 ?_
 (try simp only [pu0,pu1,pu2,pu3,pu4])
 refine on1 11 fun K hK => ?_
 go_simp
 refine hK.out _ _ (fun _ => HS) ?_
 clear hK K
 (try simp only [pu0,pu1,pu2,pu3,pu4])
 refine tk 12 ?_
 (try simp only [pu0,pu1,pu2,pu3,pu4])
 refine on1 13 fun K hK => ?_
 clear HS
 go_simp
 refine hK.out _ _ (fun h => absurd h qq) ?_
 clear hK K
 refine zac qg ?_ _
 obtain ⟨x1,hx1⟩ : ∃ x_,bits BinOp.xor IntKind.u64 s2 (IntKind.u64.wrap (s2 * 8192)) = x_ := ⟨_,rfl⟩
 rw [hx1]
 have HW1 := za.mk (zbn.seed Hw.out x1)
 obtain ⟨W1,hW⟩ : ∃ W_,(w.setCell ⟨g,2,none⟩ (.int .u64 x1)).drew = W_ := ⟨_,rfl⟩
 rw [hW] at HW1 ⊢
 clear hW hc2 hf2
 have hc2 := HW1.out.c2
 have hf2 := HW1.out.f2
 go_wp2_with fail
 refine zal (fun W' => W'.cell? ⟨g,2,none⟩ = some (.int .u64 x1)) [13] qg ?_
 have HS : W1.drew.cell? ⟨g,2,none⟩ = some (.int .u64 x1) := hc2
 refine tk 0 ?_
 (try simp only [pu0,pu1,pu2,pu3,pu4])
 refine tk 1 ?_
 (try simp only [pu0,pu1,pu2,pu3,pu4])
 refine tk 2 ?_
 (try simp only [pu0,pu1,pu2,pu3,pu4])
 refine tk 3 ?_
 (try simp only [pu0,pu1,pu2,pu3,pu4])
 refine tk 4 ?_
 (try simp only [pu0,pu1,pu2,pu3,pu4])
 refine tk 5 ?_
 (try simp only [pu0,pu1,pu2,pu3,pu4])
 refine tk 6 ?_
 (try simp only [pu0,pu1,pu2,pu3,pu4])
 refine tk 7 ?_
 (try simp only [pu0,pu1,pu2,pu3,pu4])
 refine tk 8 ?_
 (try simp only [pu0,pu1,pu2,pu3,pu4])
 refine tk 9 ?_
 (try simp only [pu0,pu1,pu2,pu3,pu4])
 refine tk 10 ?_
 (try simp only [pu0,pu1,pu2,pu3,pu4])
 refine on1 11 fun K hK => ?_
 go_simp
 refine hK.out _ _ (fun _ => HS) ?_
 clear hK K
 (try simp only [pu0,pu1,pu2,pu3,pu4])
 refine tk 12 ?_
 (try simp only [pu0,pu1,pu2,pu3,pu4])
 refine on1 13 fun K hK => ?_
 clear HS
 go_simp
 refine hK.out _ _ (fun h => absurd h qq) ?_
 clear hK K
 refine zac qg ?_ _
 obtain ⟨x2,hx2⟩ : ∃ x_,bits BinOp.xor IntKind.u64 x1 (x1 / 128) = x_ := ⟨_,rfl⟩
 rw [hx2]
 have HW2 := za.mk (zbn.seed HW1.out x2)
 obtain ⟨W2,hW⟩ : ∃ W_,(W1.setCell ⟨g,2,none⟩ (.int .u64 x2)).drew = W_ := ⟨_,rfl⟩
 rw [hW] at HW2 ⊢
 clear hW hc2 hf2
 have hc2 := HW2.out.c2
 have hf2 := HW2.out.f2
 go_wp2_with fail
 refine zal (fun W' => W'.cell? ⟨g,2,none⟩ = some (.int .u64 x2)) [13] qg ?_
 have HS : W2.drew.cell? ⟨g,2,none⟩ = some (.int .u64 x2) := hc2
 refine tk 0 ?_
 (try simp only [pu0,pu1,pu2,pu3,pu4])
 refine tk 1 ?_
 (try simp only [pu0,pu1,pu2,pu3,pu4])
 refine tk 2 ?_
 (try simp only [pu0,pu1,pu2,pu3,pu4])
 refine tk 3 ?_
 (try simp only [pu0,pu1,pu2,pu3,pu4])
 refine tk 4 ?_
 (try simp only [pu0,pu1,pu2,pu3,pu4])
 refine tk 5 ?_
 (try simp only [pu0,pu1,pu2,pu3,pu4])
 refine tk 6 ?_
 (try simp only [pu0,pu1,pu2,pu3,pu4])
 refine tk 7 ?_
 (try simp only [pu0,pu1,pu2,pu3,pu4])
 refine tk 8 ?_
 (try simp only [pu0,pu1,pu2,pu3,pu4])
 refine tk 9 ?_
 (try simp only [pu0,pu1,pu2,pu3,pu4])
 refine tk 10 ?_
 (try simp only [pu0,pu1,pu2,pu3,pu4])
 refine on1 11 fun K hK => ?_
 go_simp
 refine hK.out _ _ (fun _ => HS) ?_
 clear hK K
 (try simp only [pu0,pu1,pu2,pu3,pu4])
 refine tk 12 ?_
 (try simp only [pu0,pu1,pu2,pu3,pu4])
 refine on1 13 fun K hK => ?_
 clear HS
 go_simp
 refine hK.out _ _ (fun h => absurd h qq) ?_
 clear hK K
 refine zac qg ?_ _
 obtain ⟨x3,hx3⟩ : ∃ x_,bits BinOp.xor IntKind.u64 x2 (IntKind.u64.wrap (x2 * 131072)) = x_ := ⟨_,rfl⟩
 rw [hx3]
 have HW3 := za.mk (zbn.seed HW2.out x3)
 obtain ⟨W3,hW⟩ : ∃ W_,(W2.setCell ⟨g,2,none⟩ (.int .u64 x3)).drew = W_ := ⟨_,rfl⟩
 rw [hW] at HW3 ⊢
 clear hW hc2 hf2
 have hc2 := HW3.out.c2
 have hf2 := HW3.out.f2
 go_wp2_with fail
 have hc1 := HW3.out.c1
 have hf1 := HW3.out.f1
 obtain ⟨A0,c0,hb0,_,hr0⟩ := HW3.out.is
 have hc0 := zfB hb0
 clear hb0
 have HR := za.mk hr0
 clear hr0
 have hge : decide (s1 < (s0.length : Int)) = false := decide_eq_false ql
 refine zal (fun W' => W'.cell? ⟨g,0,none⟩ = some (.slice A0 s0.length c0) ∧ W'.cell? ⟨g,1,none⟩ = some (.int .i64 s1)) [] qg ?_
 have HS : W3.drew.cell? ⟨g,0,none⟩ = some (.slice A0 s0.length c0) ∧ W3.drew.cell? ⟨g,1,none⟩ = some (.int .i64 s1) := ⟨hc0,hc1⟩
 refine tk 0 ?_
 (try simp only [pu0,pu1,pu2,pu3,pu4])
 refine tk 1 ?_
 (try simp only [pu0,pu1,pu2,pu3,pu4])
 refine tk 2 ?_
 (try simp only [pu0,pu1,pu2,pu3,pu4])
 refine tk 3 ?_
 (try simp only [pu0,pu1,pu2,pu3,pu4])
 refine tk 4 ?_
 (try simp only [pu0,pu1,pu2,pu3,pu4])
 refine tk 5 ?_
 (try simp only [pu0,pu1,pu2,pu3,pu4])
 refine tk 6 ?_
 (try simp only [pu0,pu1,pu2,pu3,pu4])
 refine tk 7 ?_
 (try simp only [pu0,pu1,pu2,pu3,pu4])
 refine tk 8 ?_
 (try simp only [pu0,pu1,pu2,pu3,pu4])
 refine tk 9 ?_
 (try simp only [pu0,pu1,pu2,pu3,pu4])
 refine zac qg ?_ _
 clear HS
 go_wp2
 go_ret
 have hm : zbQ s2 = x3 := by unfold zbQ; rw [hx1,hx2,hx3]
 rw [hm]
 exact ⟨rfl,HW3.out.is.drew,HW3.out.below.drew,zaU HW3.out.keep⟩
set_option maxHeartbeats 1000000 in
set_option maxRecDepth 100000 in
theorem ziU (g : Nat) (s0 : List Int) (s1 s2 : Int) (w0 w : World) (hIw : zG w0 w g s0 s1 s2) (hBw : Below w0.heap.size w0 w) (h0 : 0 ≤ s1) (h1 : s1 < (s0.length : Int)) (hl : s0.length ≤ 17592186044416) :
  Calls Try.prog 66 #[.pointer (some ⟨g,0,none⟩)] w fun e w' => e = .returned (.int .u64 (zeD (zdW (zbQ s2) (rd s0 s1)))) ∧ zG w0 w' g s0 (s1 + 1) (zdW (zbQ s2) (rd s0 s1)) ∧ Below w0.heap.size w0 w' ∧ zM w w' g none := by
 have Hw := za.mk (zbn.mk (w := w) hIw hBw (zM.refl w g none))
 clear hIw hBw
 have hc2 := Hw.out.c2
 have hf2 := Hw.out.f2
 go_enter Try.func66,Try.ntmps66
 go_wp2_with fail
 refine zal (fun W' => W'.cell? ⟨g,2,none⟩ = some (.int .u64 s2)) [13] qg ?_
 have HS : w.drew.cell? ⟨g,2,none⟩ = some (.int .u64 s2) := hc2
 refine tk 0 ?_
 (try simp only [pu0,pu1,pu2,pu3,pu4])
 refine tk 1 ?_
 (try simp only [pu0,pu1,pu2,pu3,pu4])
 refine tk 2 ?_
 (try simp only [pu0,pu1,pu2,pu3,pu4])
 refine tk 3 ?_
 (try simp only [pu0,pu1,pu2,pu3,pu4])
 refine tk 4 ?_
 (try simp only [pu0,pu1,pu2,pu3,pu4])
 refine tk 5 ?_
 (try simp only [pu0,pu1,pu2,pu3,pu4])
 refine tk 6 ?_
 (try simp only [pu0,pu1,pu2,pu3,pu4])
 refine tk 7 ?_
 (try simp only [pu0,pu1,pu2,pu3,pu4])
 refine tk 8 ?_
 (try simp only [pu0,pu1,pu2,pu3,pu4])
 refine tk 9 ?_
 (try simp only [pu0,pu1,pu2,pu3,pu4])
 refine tk 10 ?_
 (try simp only [pu0,pu1,pu2,pu3,pu4])
 refine on1 11 fun K hK => ?_
 go_simp
 refine hK.out _ _ (fun _ => HS) ?_
 clear hK K
 (try simp only [pu0,pu1,pu2,pu3,pu4])
 refine tk 12 ?_
 (try simp only [pu0,pu1,pu2,pu3,pu4])
 refine on1 13 fun K hK => ?_
 clear HS
 go_simp
 refine hK.out _ _ (fun h => absurd h qq) ?_
 clear hK K
 refine zac qg ?_ _
 obtain ⟨x1,hx1⟩ : ∃ x_,bits BinOp.xor IntKind.u64 s2 (IntKind.u64.wrap (s2 * 8192)) = x_ := ⟨_,rfl⟩
 rw [hx1]
 have HW1 := za.mk (zbn.seed Hw.out x1)
 obtain ⟨W1,hW⟩ : ∃ W_,(w.setCell ⟨g,2,none⟩ (.int .u64 x1)).drew = W_ := ⟨_,rfl⟩
 rw [hW] at HW1 ⊢
 clear hW hc2 hf2
 have hc2 := HW1.out.c2
 have hf2 := HW1.out.f2
 go_wp2_with fail
 refine zal (fun W' => W'.cell? ⟨g,2,none⟩ = some (.int .u64 x1)) [13] qg ?_
 have HS : W1.drew.cell? ⟨g,2,none⟩ = some (.int .u64 x1) := hc2
 refine tk 0 ?_
 (try simp only [pu0,pu1,pu2,pu3,pu4])
 refine tk 1 ?_
 (try simp only [pu0,pu1,pu2,pu3,pu4])
 refine tk 2 ?_
 (try simp only [pu0,pu1,pu2,pu3,pu4])
 refine tk 3 ?_
 (try simp only [pu0,pu1,pu2,pu3,pu4])
 refine tk 4 ?_
 (try simp only [pu0,pu1,pu2,pu3,pu4])
 refine tk 5 ?_
 (try simp only [pu0,pu1,pu2,pu3,pu4])
 refine tk 6 ?_
 (try simp only [pu0,pu1,pu2,pu3,pu4])
 refine tk 7 ?_
 (try simp only [pu0,pu1,pu2,pu3,pu4])
 refine tk 8 ?_
 (try simp only [pu0,pu1,pu2,pu3,pu4])
 refine tk 9 ?_
 (try simp only [pu0,pu1,pu2,pu3,pu4])
 refine tk 10 ?_
 (try simp only [pu0,pu1,pu2,pu3,pu4])
 refine on1 11 fun K hK => ?_
 go_simp
 refine hK.out _ _ (fun _ => HS) ?_
 clear hK K
 (try simp only [pu0,pu1,pu2,pu3,pu4])
 refine tk 12 ?_
 (try simp only [pu0,pu1,pu2,pu3,pu4])
 refine on1 13 fun K hK => ?_
 clear HS
 go_simp
 refine hK.out _ _ (fun h => absurd h qq) ?_
 clear hK K
 refine zac qg ?_ _
 obtain ⟨x2,hx2⟩ : ∃ x_,bits BinOp.xor IntKind.u64 x1 (x1 / 128) = x_ := ⟨_,rfl⟩
 rw [hx2]
 have HW2 := za.mk (zbn.seed HW1.out x2)
 obtain ⟨W2,hW⟩ : ∃ W_,(W1.setCell ⟨g,2,none⟩ (.int .u64 x2)).drew = W_ := ⟨_,rfl⟩
 rw [hW] at HW2 ⊢
 clear hW hc2 hf2
 have hc2 := HW2.out.c2
 have hf2 := HW2.out.f2
 go_wp2_with fail
 refine zal (fun W' => W'.cell? ⟨g,2,none⟩ = some (.int .u64 x2)) [13] qg ?_
 have HS : W2.drew.cell? ⟨g,2,none⟩ = some (.int .u64 x2) := hc2
 refine tk 0 ?_
 (try simp only [pu0,pu1,pu2,pu3,pu4])
 refine tk 1 ?_
 (try simp only [pu0,pu1,pu2,pu3,pu4])
 refine tk 2 ?_
 (try simp only [pu0,pu1,pu2,pu3,pu4])
 refine tk 3 ?_
 (try simp only [pu0,pu1,pu2,pu3,pu4])
 refine tk 4 ?_
 (try simp only [pu0,pu1,pu2,pu3,pu4])
 refine tk 5 ?_
 (try simp only [pu0,pu1,pu2,pu3,pu4])
 refine tk 6 ?_
 (try simp only [pu0,pu1,pu2,pu3,pu4])
 refine tk 7 ?_
 (try simp only [pu0,pu1,pu2,pu3,pu4])
 refine tk 8 ?_
 (try simp only [pu0,pu1,pu2,pu3,pu4])
 refine tk 9 ?_
 (try simp only [pu0,pu1,pu2,pu3,pu4])
 refine tk 10 ?_
 (try simp only [pu0,pu1,pu2,pu3,pu4])
 refine on1 11 fun K hK => ?_
 go_simp
 refine hK.out _ _ (fun _ => HS) ?_
 clear hK K
 (try simp only [pu0,pu1,pu2,pu3,pu4])
 refine tk 12 ?_
 (try simp only [pu0,pu1,pu2,pu3,pu4])
 refine on1 13 fun K hK => ?_
 clear HS
 go_simp
 refine hK.out _ _ (fun h => absurd h qq) ?_
 clear hK K
 refine zac qg ?_ _
 obtain ⟨x3,hx3⟩ : ∃ x_,bits BinOp.xor IntKind.u64 x2 (IntKind.u64.wrap (x2 * 131072)) = x_ := ⟨_,rfl⟩
 rw [hx3]
 have HW3 := za.mk (zbn.seed HW2.out x3)
 obtain ⟨W3,hW⟩ : ∃ W_,(W2.setCell ⟨g,2,none⟩ (.int .u64 x3)).drew = W_ := ⟨_,rfl⟩
 rw [hW] at HW3 ⊢
 clear hW hc2 hf2
 have hc2 := HW3.out.c2
 have hf2 := HW3.out.f2
 go_wp2_with fail
 have hc1 := HW3.out.c1
 have hf1 := HW3.out.f1
 obtain ⟨A0,c0,hb0,_,hr0⟩ := HW3.out.is
 have hc0 := zfB hb0
 clear hb0
 have HR := za.mk hr0
 clear hr0
 have hlt : decide (s1 < (s0.length : Int)) = true := decide_eq_true ql
 obtain ⟨ad,e,hcl⟩ := zaI.at_ (Kd.zcQ (d := (0 : Int)) HR.out) s1 h0 h1
 cases e
 have hcl : W3.cell? (ad.add s1.toNat) = some (.int .i64 (rd s0 s1)) := (HW3.out.below.cell (World.block_lt_of_cell? w0 _ hcl)).trans hcl
 have p5 := eq_true h0
 have q5 := eq_true h1
 refine zal (fun W' => W'.cell? ⟨g,0,none⟩ = some (.slice (some ad) s0.length c0) ∧ W'.cell? ⟨g,1,none⟩ = some (.int .i64 s1)) [] qg ?_
 have HS : W3.drew.cell? ⟨g,0,none⟩ = some (.slice (some ad) s0.length c0) ∧ W3.drew.cell? ⟨g,1,none⟩ = some (.int .i64 s1) := ⟨hc0,hc1⟩
 refine tk 0 ?_
 (try simp only [pu0,pu1,pu2,pu3,pu4])
 refine tk 1 ?_
 (try simp only [pu0,pu1,pu2,pu3,pu4])
 refine tk 2 ?_
 (try simp only [pu0,pu1,pu2,pu3,pu4])
 refine tk 3 ?_
 (try simp only [pu0,pu1,pu2,pu3,pu4])
 refine tk 4 ?_
 (try simp only [pu0,pu1,pu2,pu3,pu4])
 refine tk 5 ?_
 (try simp only [pu0,pu1,pu2,pu3,pu4])
 refine tk 6 ?_
 (try simp only [pu0,pu1,pu2,pu3,pu4])
 refine tk 7 ?_
 (try simp only [pu0,pu1,pu2,pu3,pu4])
 refine tk 8 ?_
 (try simp only [pu0,pu1,pu2,pu3,pu4])
 refine tk 9 ?_
 (try simp only [pu0,pu1,pu2,pu3,pu4])
 refine zac qg ?_ _
 clear HS
 have HW4 := za.mk HW3.out.drew
 obtain ⟨W4,hW⟩ : ∃ W_,W3.drew = W_ := ⟨_,rfl⟩
 have hcl4 : W3.drew.cell? (ad.add s1.toNat) = some (.int .i64 (rd s0 s1)) := hcl
 have hc04 : W3.drew.cell? ⟨g,0,none⟩ = some (.slice (some ad) s0.length c0) := hc0
 rw [hW] at HW4 hcl4 hc04 ⊢
 clear hW hc0 hc1 hc2 hf1 hf2 hcl
 have hc2 := HW4.out.c2
 have hf2 := HW4.out.f2
 have hc1 := HW4.out.c1
 have hf1 := HW4.out.f1
 have hc0 := hc04
 have hcl := hcl4
 clear hc04 hcl4
 go_wp2_with fail
 refine zal (fun W' => W'.cell? ⟨g,0,none⟩ = some (.slice (some ad) s0.length c0) ∧ W'.cell? ⟨g,1,none⟩ = some (.int .i64 s1) ∧ W'.cell? ⟨g,2,none⟩ = some (.int .u64 x3) ∧ W'.cell? (ad.add s1.toNat) = some (.int .i64 (rd s0 s1))) [20] qg ?_
 have HS : W4.drew.cell? ⟨g,0,none⟩ = some (.slice (some ad) s0.length c0) ∧ W4.drew.cell? ⟨g,1,none⟩ = some (.int .i64 s1) ∧ W4.drew.cell? ⟨g,2,none⟩ = some (.int .u64 x3) ∧ W4.drew.cell? (ad.add s1.toNat) = some (.int .i64 (rd s0 s1)) := ⟨hc0,hc1,hc2,hcl⟩
 refine tk 0 ?_
 (try simp only [pu0,pu1,pu2,pu3,pu4])
 refine tk 1 ?_
 (try simp only [pu0,pu1,pu2,pu3,pu4])
 refine tk 2 ?_
 (try simp only [pu0,pu1,pu2,pu3,pu4])
 refine tk 3 ?_
 (try simp only [pu0,pu1,pu2,pu3,pu4])
 refine tk 4 ?_
 (try simp only [pu0,pu1,pu2,pu3,pu4])
 refine tk 5 ?_
 (try simp only [pu0,pu1,pu2,pu3,pu4])
 refine tk 6 ?_
 (try simp only [pu0,pu1,pu2,pu3,pu4])
 refine tk 7 ?_
 (try simp only [pu0,pu1,pu2,pu3,pu4])
 refine tk 8 ?_
 (try simp only [pu0,pu1,pu2,pu3,pu4])
 refine tk 9 ?_
 (try simp only [pu0,pu1,pu2,pu3,pu4])
 refine tk 10 ?_
 (try simp only [pu0,pu1,pu2,pu3,pu4])
 refine tk 11 ?_
 (try simp only [pu0,pu1,pu2,pu3,pu4])
 refine tk 12 ?_
 (try simp only [pu0,pu1,pu2,pu3,pu4])
 refine tk 13 ?_
 (try simp only [pu0,pu1,pu2,pu3,pu4])
 refine tk 14 ?_
 (try simp only [pu0,pu1,pu2,pu3,pu4])
 refine tk 15 ?_
 (try simp only [pu0,pu1,pu2,pu3,pu4])
 refine tk 16 ?_
 (try simp only [pu0,pu1,pu2,pu3,pu4])
 refine tk 17 ?_
 (try simp only [pu0,pu1,pu2,pu3,pu4])
 refine on1 18 fun K hK => ?_
 go_simp
 refine hK.out _ _ (fun _ => HS) ?_
 clear hK K
 (try simp only [pu0,pu1,pu2,pu3,pu4])
 refine tk 19 ?_
 (try simp only [pu0,pu1,pu2,pu3,pu4])
 refine on1 20 fun K hK => ?_
 clear HS
 go_simp
 refine hK.out _ _ (fun h => absurd h qq) ?_
 clear hK K
 refine zac qg ?_ _
 obtain ⟨x4,hx4⟩ : ∃ x_,IntKind.u64.wrap (x3 + IntKind.u64.wrap (IntKind.u64.wrap (rd s0 s1) * 13787848793156543929)) = x_ := ⟨_,rfl⟩
 rw [hx4]
 have HW5 := za.mk (zbn.seed HW4.out x4)
 obtain ⟨W5,hW⟩ : ∃ W_,(W4.setCell ⟨g,2,none⟩ (.int .u64 x4)).drew = W_ := ⟨_,rfl⟩
 rw [hW] at HW5 ⊢
 clear hW hc1 hf1 hc2 hf2
 have hc1 := HW5.out.c1
 have hf1 := HW5.out.f1
 have hc2 := HW5.out.c2
 have hwr : IntKind.i64.wrap (s1 + 1) = s1 + 1 := IntWalk.i64_in _ ql
 have hc2' : (W5.setCell ⟨g,1,none⟩ (.int .i64 (s1 + 1))).cell? ⟨g,2,none⟩ = some (.int .u64 x4) := (HW5.out.at (s1 + 1)).c2
 go_wp2
 go_ret
 have hm : zbQ s2 = x3 := by unfold zbQ; rw [hx1,hx2,hx3]
 have ha : zdW x3 (rd s0 s1) = x4 := hx4
 rw [hm,ha]
 exact ⟨rfl,(HW5.out.at _).is,(HW5.out.at _).below,(HW5.out.at _).keep⟩
theorem zaR.calls (g : Nat) (s0_0 : List Int) (s0_1 : Int) (s0_2 : Int) (r1 : Int) (r2 : Int) (r3 : Int) (w0 w : World) (hI : zG w0 w g s0_0 s0_1 s0_2) (hB : Below w0.heap.size w0 w) (h : zaR.f s0_0 s0_1 s0_2 = some (r1,r2,r3)) :
  Calls Try.prog 66 #[.pointer (some ⟨g,0,none⟩)] w fun e w' => e = .returned (.int .u64 r1) ∧ zG w0 w' g s0_0 r2 r3 ∧ Below w0.heap.size w0 w' ∧ zM w w' g none := by
 unfold zaR.f at h
 split at h
 case isFalse => cases h
 rename_i hb
 split at h
 ·rename_i hlt
  obtain ⟨rfl,rfl,rfl⟩ : _ ∧ _ ∧ _ := by simpa only [Option.some.injEq,Prod.mk.injEq] using h
  exact ziU g s0_0 s0_1 s0_2 w0 w hI hB hb.1 hlt hb.2
 ·rename_i hlt
  obtain ⟨rfl,rfl,rfl⟩ : _ ∧ _ ∧ _ := by simpa only [Option.some.injEq,Prod.mk.injEq] using h
  exact ziX g s0_0 s0_1 s0_2 w0 w hI hB hb.1 ql hb.2
def zaH.f (s0_0 : List Int) (s0_1 : Int) (s0_2 : Int) (a1 : Int) : Option (Int × Int × Int) := if a1 < 1 then (some (0,s0_1,s0_2)) else ((zaR.f s0_0 s0_1 s0_2).bind fun bt188 => (if (IntKind.u64.wrap (wrap64 (a1 + 1))) = 0 then (none) else (some (wrap64 (Int.tmod (bt188.1 / 65536) (IntKind.u64.wrap (wrap64 (a1 + 1)))),bt188.2.1,bt188.2.2))))
set_option maxHeartbeats 8000000 in
set_option maxRecDepth 100000 in
theorem zaH.calls (g : Nat) (s0_0 : List Int) (s0_1 : Int) (s0_2 : Int) (a1 : Int) (r1 : Int) (r2 : Int) (r3 : Int) (w0 w : World) (hI : zG w0 w g s0_0 s0_1 s0_2) (hB : Below w0.heap.size w0 w) (h : zaH.f s0_0 s0_1 s0_2 a1 = some (r1,r2,r3)) :
  Calls Try.prog 28 #[.pointer (some ⟨g,0,none⟩), .int .i64 a1] w fun e w' => e = .returned (.int .i64 r1) ∧ zG w0 w' g s0_0 r2 r3 ∧ Below w0.heap.size w0 w' ∧ zM w w' g none := by
 have HI0 := za.mk hI
 have HK := za.mk (zM.refl w g none)
 have HL := za.mk hB.size
 clear hI
 have HW0 := za.mk hB.size
 have HB := za.mk hB
 clear hB
 have H : (if a1 < 1 then (some (0,s0_1,s0_2)) else ((zaR.f s0_0 s0_1 s0_2).bind fun bt188 => (if (IntKind.u64.wrap (wrap64 (a1 + 1))) = 0 then (none) else (some (wrap64 (Int.tmod (bt188.1 / 65536) (IntKind.u64.wrap (wrap64 (a1 + 1)))),bt188.2.1,bt188.2.2))))) = some (r1,r2,r3) := h
 clear h
 by_cases c3 : a1 < 1
 ·rw [if_pos c3] at H
  have c3b0 : decide (a1 < 1) = true := decide_eq_true c3
  clear c3
  simp only [Option.some.injEq,Prod.mk.injEq] at H
  obtain ⟨rfl,rfl,rfl⟩ := H
  go_enter Try.func28,Try.ntmps28
  go_wp2
  go_ret
  exact ⟨by first | rfl | (simp [zw,zx] <;> rfl) | (simp [*,zw,zx] <;> rfl),by repeat (first | (with_reducible first | exact HI0.out | apply zG.alloc | apply zG.drewN | apply zG.drew | apply zG.zbR | apply zG.zbX) | exact HI0.out),by repeat (first | (with_reducible first | exact HB.out | apply ze | apply zb | apply zg | refine zh ?_ (zG.ge HI0.out)) | exact HB.out),by repeat (first | (with_reducible first | exact HK.out | apply zM.zbY | apply za2 | apply zaU | apply za4) | exact HK.out)⟩
 ·rw [if_neg c3] at H
  have c3b0 : decide (a1 < 1) = false := decide_eq_false c3
  clear c3
  replace H := Option.bind_eq_some_iff.mp H
  obtain ⟨⟨t188,t189,t190⟩,A40,H⟩ := H
  replace H : (if (IntKind.u64.wrap (wrap64 (a1 + 1))) = 0 then (none) else (some (wrap64 (Int.tmod (t188 / 65536) (IntKind.u64.wrap (wrap64 (a1 + 1)))),t189,t190))) = some (r1,r2,r3) := H
  have A4 := za.mk A40
  clear A40
  by_cases c5 : (IntKind.u64.wrap (wrap64 (a1 + 1))) = 0
  ·rw [if_pos c5] at H
   exact absurd H qC
  ·rw [if_neg c5] at H
   have c5b0 : ((IntKind.u64.wrap (wrap64 (a1 + 1))) == 0) = false := beq_eq_false_iff_ne.mpr c5
   have c5b1 : ((IntKind.u64.wrap (wrap64 (a1 + 1))) != 0) = true := bne_iff_ne.mpr c5
   simp only [Option.some.injEq,Prod.mk.injEq] at H
   obtain ⟨rfl,rfl,rfl⟩ := H
   go_enter Try.func28,Try.ntmps28
   go_wp2_with (first | ((with_reducible refine zA (f := 66) rfl ?_); refine zW (some 8) rfl rfl Try.func66 qg rfl #[.pointer (some ⟨g,0,none⟩)] rfl qb ?_; (with_reducible refine (zaR.calls g s0_0 s0_1 s0_2 t188 t189 t190 w0 _ ?side1 ?side2 A4.out).mono ?_); (case side1 => exact qt HI0.out); (case side2 => exact qz HB.out HI0.out); rintro e w6 ⟨rfl,hi,hb,hk⟩; refine ⟨_,rfl,?_⟩; have n0_ := za.mk (zM.trans (qr HK.out) hk (.inl rfl)); have n1_ := za.mk (hb); have n2_ := za.mk (hi); clear HK; clear HB; clear HI0; have HK := n0_; have HB := n1_; have HI0 := n2_; clear n0_ n1_ n2_; (try clear hb); (try clear hb2); (try clear hk); (try clear hi)))
   go_ret
   exact ⟨by first | rfl | (simp [zw,zx] <;> rfl) | (simp [*,zw,zx] <;> rfl),by repeat (first | (with_reducible first | exact HI0.out | apply zG.alloc | apply zG.drewN | apply zG.drew | apply zG.zbR | apply zG.zbX) | exact HI0.out),by repeat (first | (with_reducible first | exact HB.out | apply ze | apply zb | apply zg | refine zh ?_ (zG.ge HI0.out)) | exact HB.out),by repeat (first | (with_reducible first | exact HK.out | apply zM.zbY | apply za2 | apply zaU | apply za4) | exact HK.out)⟩
def zaN.f (s0_0 : List Int) (s0_1 : Int) (s0_2 : Int) (l1 : List ByteArray) : Option (ByteArray × Int × Int) := (zaH.f s0_0 s0_1 s0_2 (wrap64 ((l1.length : Int) - 1))).bind fun bt191 => (if 0 ≤ bt191.1 then (if bt191.1 < (l1.length : Int) then (some (zaC ByteArray.empty l1 bt191.1,bt191.2.1,bt191.2.2)) else (none)) else (none))
set_option maxHeartbeats 8000000 in
set_option maxRecDepth 100000 in
theorem zaN.calls (g : Nat) (s0_0 : List Int) (s0_1 : Int) (s0_2 : Int) (A1 : Option Addr) (c1 : Nat) (l1 : List ByteArray) (r1 : ByteArray) (r2 : Int) (r3 : Int) (w0 w : World) (hI : zG w0 w g s0_0 s0_1 s0_2) (hB : Below w0.heap.size w0 w) (hr1 : Kd.C Kd.string w A1 l1.length l1) (hc1 : l1.length ≤ c1) (hf1 : ∀ ad,A1 = some ad → 0 < l1.length → ad.block ≠ g) (h : zaN.f s0_0 s0_1 s0_2 l1 = some (r1,r2,r3)) :
  Calls Try.prog 72 #[.pointer (some ⟨g,0,none⟩), .slice A1 l1.length c1] w fun e w' => e = .returned (.string r1) ∧ zG w0 w' g s0_0 r2 r3 ∧ Below w0.heap.size w0 w' ∧ zM w w' g none := by
 have HR1 := za.mk hr1
 have HC1 := za.mk hc1
 clear hr1 hc1
 have HI0 := za.mk hI
 have HK := za.mk (zM.refl w g none)
 have HL := za.mk hB.size
 clear hI
 have HW0 := za.mk hB.size
 have HB := za.mk hB
 clear hB
 have H : ((zaH.f s0_0 s0_1 s0_2 (wrap64 ((l1.length : Int) - 1))).bind fun bt191 => (if 0 ≤ bt191.1 then (if bt191.1 < (l1.length : Int) then (some (zaC ByteArray.empty l1 bt191.1,bt191.2.1,bt191.2.2)) else (none)) else (none))) = some (r1,r2,r3) := h
 clear h
 replace H := Option.bind_eq_some_iff.mp H
 obtain ⟨⟨t191,t192,t193⟩,A30,H⟩ := H
 replace H : (if 0 ≤ t191 then (if t191 < (l1.length : Int) then (some (zaC ByteArray.empty l1 t191,t192,t193)) else (none)) else (none)) = some (r1,r2,r3) := H
 have A3 := za.mk A30
 clear A30
 by_cases c4 : 0 ≤ t191
 ·rw [if_pos c4] at H
  have c4b0 : decide (0 ≤ t191) = true := decide_eq_true c4
  clear c4
  by_cases c5 : t191 < (l1.length : Int)
  ·rw [if_pos c5] at H
   have c5b0 : decide (t191 < (l1.length : Int)) = true := decide_eq_true c5
   clear c5
   simp only [Option.some.injEq,Prod.mk.injEq] at H
   obtain ⟨rfl,rfl,rfl⟩ := H
   go_enter Try.func72,Try.ntmps72
   go_wp2_with (first | ((with_reducible refine zA (f := 28) rfl ?_); refine zW (some 10) rfl rfl Try.func28 qg rfl #[.pointer (some ⟨g,0,none⟩), .int .i64 (wrap64 ((l1.length : Int) - 1))] rfl qb ?_; (with_reducible refine (zaH.calls g s0_0 s0_1 s0_2 (wrap64 ((l1.length : Int) - 1)) t191 t192 t193 w0 _ ?side1 ?side2 A3.out).mono ?_); (case side1 => exact qt HI0.out); (case side2 => exact qz HB.out HI0.out); rintro e w6 ⟨rfl,hi,hb,hk⟩; refine ⟨_,rfl,?_⟩; have n0_ := za.mk (zM.trans (qr HK.out) hk (.inl rfl)); have n1_ := za.mk (hb); have n2_ := za.mk (hi); clear HK; clear HB; clear HI0; have HK := n0_; have HB := n1_; have HI0 := n2_; clear n0_ n1_ n2_; (try clear hb); (try clear hb2); (try clear hk); (try clear hi); have p194 : 0 ≤ (t191 : Int) := of_decide_eq_true qd; have q194 : t191 < (l1.length : Int) := of_decide_eq_true qd; obtain ⟨ad194,e194,hx194_0⟩ := Kd.zaV HR1.out t191 p194 q194; cases e194; replace hx194_0 := zep HK.out hx194_0 (by first | (rw [add_block]; exact hf1 _ rfl ql) | exact hf1 _ rfl ql | exact hf1 ad194 rfl ql); replace p194 := eq_true p194; replace q194 := eq_true q194))
   go_ret
   exact ⟨by first | rfl | (simp [zw,zx] <;> rfl) | (simp [*,zw,zx] <;> rfl),by repeat (first | (with_reducible first | exact HI0.out | apply zG.alloc | apply zG.drewN | apply zG.drew | apply zG.zbR | apply zG.zbX) | exact HI0.out),by repeat (first | (with_reducible first | exact HB.out | apply ze | apply zb | apply zg | refine zh ?_ (zG.ge HI0.out)) | exact HB.out),by repeat (first | (with_reducible first | exact HK.out | apply zM.zbY | apply za2 | apply zaU | apply za4) | exact HK.out)⟩
  ·rw [if_neg c5] at H
   exact absurd H qC
 ·rw [if_neg c4] at H
  exact absurd H qC
def zbp.f (s0_0 : List Int) (s0_1 : Int) (s0_2 : Int) : Option (ByteArray × Int × Int) := (zaN.f s0_0 s0_1 s0_2 (([(⟨#[97]⟩ : ByteArray),(⟨#[98]⟩ : ByteArray),(⟨#[99]⟩ : ByteArray),(⟨#[97,110,32,49]⟩ : ByteArray),(⟨#[98,101,110]⟩ : ByteArray),(⟨#[99,121,100,32,49,50]⟩ : ByteArray)] : List ByteArray))).bind fun bt198 => (some (bt198.1,bt198.2.1,bt198.2.2))
set_option maxHeartbeats 8000000 in
set_option maxRecDepth 100000 in
theorem zbp.calls (g : Nat) (s0_0 : List Int) (s0_1 : Int) (s0_2 : Int) (r1 : ByteArray) (r2 : Int) (r3 : Int) (w0 w : World) (hI : zG w0 w g s0_0 s0_1 s0_2) (hB : Below w0.heap.size w0 w) (h : zbp.f s0_0 s0_1 s0_2 = some (r1,r2,r3)) :
  Calls Try.prog 35 #[.pointer (some ⟨g,0,none⟩)] w fun e w' => e = .returned (.string r1) ∧ zG w0 w' g s0_0 r2 r3 ∧ Below w0.heap.size w0 w' ∧ zM w w' g none := by
 have HI0 := za.mk hI
 have HK := za.mk (zM.refl w g none)
 have HL := za.mk hB.size
 clear hI
 have HW0 := za.mk hB.size
 have HB := za.mk hB
 clear hB
 have H : ((zaN.f s0_0 s0_1 s0_2 (([(⟨#[97]⟩ : ByteArray),(⟨#[98]⟩ : ByteArray),(⟨#[99]⟩ : ByteArray),(⟨#[97,110,32,49]⟩ : ByteArray),(⟨#[98,101,110]⟩ : ByteArray),(⟨#[99,121,100,32,49,50]⟩ : ByteArray)] : List ByteArray))).bind fun bt198 => (some (bt198.1,bt198.2.1,bt198.2.2))) = some (r1,r2,r3) := h
 clear h
 obtain ⟨y195,hy195⟩ : ∃ y_ : List ByteArray,y_ = (([(⟨#[97]⟩ : ByteArray),(⟨#[98]⟩ : ByteArray),(⟨#[99]⟩ : ByteArray),(⟨#[97,110,32,49]⟩ : ByteArray),(⟨#[98,101,110]⟩ : ByteArray),(⟨#[99,121,100,32,49,50]⟩ : ByteArray)] : List ByteArray)) := ⟨_,rfl⟩
 replace H : ((zaN.f s0_0 s0_1 s0_2 y195).bind fun bt198 => (some (bt198.1,bt198.2.1,bt198.2.2))) = some (r1,r2,r3) := by first | (rw [hy195]; with_reducible exact H) | (have H2_ := (Option.bind_some _ _).symm.trans H; rw [hy195]; with_reducible exact H2_) | (have H2_ := (Option.bind_some _ _).symm.trans H; with_reducible exact H2_) | with_reducible exact H | (rw [hy195]; exact H) | exact H
 have Ny195 := za.mk hy195
 clear hy195
 replace H := Option.bind_eq_some_iff.mp H
 obtain ⟨⟨t198,t199,t200⟩,A20,H⟩ := H
 replace H : (some (t198,t199,t200)) = some (r1,r2,r3) := H
 have A2 := za.mk A20
 clear A20
 simp only [Option.some.injEq,Prod.mk.injEq] at H
 obtain ⟨rfl,rfl,rfl⟩ := H
 go_enter Try.func35,Try.ntmps35
 go_wp2_with (first | ((with_reducible refine zaa (N := 4) rfl ?_); refine Kd.zdq Kd.string _ 9 ?hg (N := 4) ?hd (xs := ([(⟨#[97]⟩ : ByteArray),(⟨#[98]⟩ : ByteArray),(⟨#[99]⟩ : ByteArray),(⟨#[97,110,32,49]⟩ : ByteArray),(⟨#[98,101,110]⟩ : ByteArray),(⟨#[99,121,100,32,49,50]⟩ : ByteArray)] : List ByteArray)) (inner := [.string (⟨#[97]⟩ : ByteArray), .string (⟨#[98]⟩ : ByteArray), .string (⟨#[99]⟩ : ByteArray), .string (⟨#[97,110,32,49]⟩ : ByteArray), .string (⟨#[98,101,110]⟩ : ByteArray), .string (⟨#[99,121,100,32,49,50]⟩ : ByteArray)]) (ok := fun _ => True) (okp := fun _ => True) ?hr ?hp (fun _ hk => hk) trivial (Below.refl _ _) (Nat.le_refl _) qC ?_; (case hd => rfl); (case hg => rfl); (case hr => exact qk); (case hp => exact (zX.one (show Kd.M Kd.string _ _ _ (⟨#[97]⟩ : ByteArray) [.string (⟨#[97]⟩ : ByteArray)] from rfl) (zX.one (show Kd.M Kd.string _ _ _ (⟨#[98]⟩ : ByteArray) [.string (⟨#[98]⟩ : ByteArray)] from rfl) (zX.one (show Kd.M Kd.string _ _ _ (⟨#[99]⟩ : ByteArray) [.string (⟨#[99]⟩ : ByteArray)] from rfl) (zX.one (show Kd.M Kd.string _ _ _ (⟨#[97,110,32,49]⟩ : ByteArray) [.string (⟨#[97,110,32,49]⟩ : ByteArray)] from rfl) (zX.one (show Kd.M Kd.string _ _ _ (⟨#[98,101,110]⟩ : ByteArray) [.string (⟨#[98,101,110]⟩ : ByteArray)] from rfl) (zX.one (show Kd.M Kd.string _ _ _ (⟨#[99,121,100,32,49,50]⟩ : ByteArray) [.string (⟨#[99,121,100,32,49,50]⟩ : ByteArray)] from rfl) (zX.none _ _)))))))); intro v196 w3 ho4 hb hg_ hnew_; clear hg_ hnew_; (first | rw [← Ny195.out] at ho4 | (simp only [Int.reduceToNat] at ho4; rw [← Ny195.out] at ho4)); have n0_ := za.mk (Kd.zaO ho4 (zfF (w := w) (g := g) (row := none) (qr HK.out))); have n1_ := za.mk (zG.below (qt HI0.out) hb); have n2_ := za.mk (zM.trans (qr HK.out) (zM.of_below hb g none) (.inl rfl)); have n3_ := za.mk (zo (qz HB.out HI0.out) hb); clear HI0; clear HK; clear HB; have HO197 := n0_; have HI0 := n1_; have HK := n2_; have HB := n3_; clear n0_ n1_ n2_ n3_; clear hb ho4; obtain ⟨Ao5,co5,eo5⟩ := Kd.zbc HO197.out; subst eo5) | ((with_reducible refine zA (f := 72) rfl ?_); refine zW (some 5) rfl rfl Try.func72 qg rfl #[.pointer (some ⟨g,0,none⟩), .slice Ao5 y195.length co5] rfl qb ?_; (with_reducible refine (zaN.calls g s0_0 s0_1 s0_2 _ _ y195 t198 t199 t200 w0 _ ?side1 ?side2 ?side3 ?side4 ?side5 A2.out).mono ?_); (case side1 => exact qt HI0.out); (case side2 => exact qz HB.out HI0.out); (case side3 => exact qK HO197.out); (case side4 => exact (Kd.zbd HO197.out).2.1); (case side5 => exact zhs (zG.own_ne HI0.out HO197.out qq)); rintro e w6 ⟨rfl,hi,hb,hk⟩; refine ⟨_,rfl,?_⟩; have n0_ := za.mk (Kd.zaB (Kd.zf9 (zG.apart (show zG w0 _ g s0_0 s0_1 s0_2 from by repeat (first | (with_reducible first | exact HI0.out | apply zG.alloc | apply zG.drewN | apply zG.drew | apply zG.zbR | apply zG.zbX) | exact HI0.out)) (qp HO197.out) qq) hk (fun _ h => h.2)) (fun _ h => h.1)); have n1_ := za.mk (zM.trans (qr HK.out) hk (.inl rfl)); have n2_ := za.mk (hb); have n3_ := za.mk (hi); clear HO197; clear HK; clear HB; clear HI0; have HO197 := n0_; have HK := n1_; have HB := n2_; have HI0 := n3_; clear n0_ n1_ n2_ n3_; (try clear hb); (try clear hb2); (try clear hk); (try clear hi)))
 go_ret
 exact ⟨by first | rfl | (simp [zw,zx] <;> rfl) | (simp [*,zw,zx] <;> rfl),by repeat (first | (with_reducible first | exact HI0.out | apply zG.alloc | apply zG.drewN | apply zG.drew | apply zG.zbR | apply zG.zbX) | exact HI0.out),by repeat (first | (with_reducible first | exact HB.out | apply ze | apply zb | apply zg | refine zh ?_ (zG.ge HI0.out)) | exact HB.out),by repeat (first | (with_reducible first | exact HK.out | apply zM.zbY | apply za2 | apply zaU | apply za4) | exact HK.out)⟩
def zab.l0 : Nat → List ByteArray → Int → List Int → Int → Int → Option (List ByteArray × Int × Int)
 | 0,_,_,_,_,_ => none
 | k + 1,x5,x6,x1000,x1001,x1002 => if x6 > 0 then ((zbp.f x1000 x1001 x1002).bind fun bt204 => (if x5.length < 8796093022208 then (zab.l0 k (x5 ++ [bt204.1]) (wrap64 (x6 - 1)) x1000 bt204.2.1 bt204.2.2) else (none))) else (some (x5,x1001,x1002))
def zab.f (k : Nat) (s0_0 : List Int) (s0_1 : Int) (s0_2 : Int) (a1 : Int) : Option (List ByteArray × Int × Int) := (zaH.f s0_0 s0_1 s0_2 a1).bind fun bt201 => (zab.l0 k ([] : List ByteArray) bt201.1 s0_0 bt201.2.1 bt201.2.2)
set_option maxHeartbeats 8000000 in
set_option maxRecDepth 100000 in
theorem zab.calls (k : Nat) (g : Nat) (s0_0 : List Int) (s0_1 : Int) (s0_2 : Int) (a1 : Int) (r1 : List ByteArray) (r2 : Int) (r3 : Int) (w0 w : World) (hI : zG w0 w g s0_0 s0_1 s0_2) (hB : Below w0.heap.size w0 w) (h : zab.f k s0_0 s0_1 s0_2 a1 = some (r1,r2,r3)) :
  Calls Try.prog 20 #[.pointer (some ⟨g,0,none⟩), .int .i64 a1] w fun e w' => ∃ v0_ : Value,e = .returned (v0_) ∧ Kd.R Kd.string 9 w' w.heap.size (fun _ => True) v0_ r1 ∧ zG w0 w' g s0_0 r2 r3 ∧ Below w0.heap.size w0 w' ∧ zM w w' g none := by
 have HI0 := za.mk hI
 have HK := za.mk (zM.refl w g none)
 have HL := za.mk hB.size
 clear hI
 have HW0 := za.mk hB.size
 have HB := za.mk hB
 clear hB
 have H : ((zaH.f s0_0 s0_1 s0_2 a1).bind fun bt201 => (zab.l0 k ([] : List ByteArray) bt201.1 s0_0 bt201.2.1 bt201.2.2)) = some (r1,r2,r3) := h
 clear h
 replace H := Option.bind_eq_some_iff.mp H
 obtain ⟨⟨t201,t202,t203⟩,A30,H⟩ := H
 replace H : (zab.l0 k ([] : List ByteArray) t201 s0_0 t202 t203) = some (r1,r2,r3) := H
 have A3 := za.mk A30
 clear A30
 have H' := za.mk H
 clear H
 go_enter Try.func20,Try.ntmps20
 go_wp2_with (first | ((with_reducible refine zA (f := 28) rfl ?_); refine zW (some 9) rfl rfl Try.func28 qg rfl #[.pointer (some ⟨g,0,none⟩), .int .i64 a1] rfl qb ?_; (with_reducible refine (zaH.calls g s0_0 s0_1 s0_2 a1 t201 t202 t203 w0 _ ?side1 ?side2 A3.out).mono ?_); (case side1 => exact qt HI0.out); (case side2 => exact qz HB.out HI0.out); rintro e w4 ⟨rfl,hi,hb,hk⟩; refine ⟨_,rfl,?_⟩; have n0_ := za.mk (zM.trans (qr HK.out) hk (.inl rfl)); have n1_ := za.mk (hb); have n2_ := za.mk (hi); clear HK; clear HB; clear HI0; have HK := n0_; have HB := n1_; have HI0 := n2_; clear n0_ n1_ n2_; (try clear hb); (try clear hb2); (try clear hk); (try clear hi)))
 go_loopg [5,6] k (fun kq v5 v6 w' => ∃ (x5_1 : List ByteArray) (x6_1 : Int) (x1001_1 : Int) (x1002_1 : Int),v6 = .int .i64 x6_1 ∧ za (zab.l0 kq x5_1 x6_1 s0_0 x1001_1 x1002_1 = some (r1,r2,r3)) ∧ za (kq ≤ k) ∧ za (Kd.R Kd.string 9 w' w.heap.size (fun _ => True) v5 x5_1) ∧ za (zG w0 w' g s0_0 x1001_1 x1002_1) ∧ za (zM w w' g none) ∧ za (Below w0.heap.size w0 w'))
 case atStart => exact ⟨(([] : List ByteArray)),(t201),(t202),(t203),qm,H',⟨Nat.le_refl _⟩,⟨by first | exact Kd.zbG _ _ _ _ _ | exact Kd.zd8 _ _ _ _ _ | exact Kd.zd4 _ _ _ _ _ | exact Kd.zeh _ _ _ _ _ | exact Kd.zd5 _ _ _ _ _⟩,⟨by repeat (first | (with_reducible first | exact HI0.out | apply zG.alloc | apply zG.drewN | apply zG.drew | apply zG.zbR | apply zG.zbX) | exact HI0.out)⟩,⟨by repeat (first | (with_reducible first | exact HK.out | apply zM.zbY | apply za2 | apply zaU | apply za4) | exact HK.out)⟩,⟨by repeat (first | (with_reducible first | exact HB.out | apply ze | apply zb | apply zg | refine zh ?_ (zG.ge HI0.out)) | exact HB.out)⟩⟩
 case round =>
  clear H'
  try clear c2
  try clear p2
  obtain ⟨x5_1,x6_1,x1001_1,x1002_1,rfl,HA,HK1,HO_5,HI0,HK,HB⟩ := hrel
  cases gk with
  | zero => exact absurd HA.out (by simp [zab.l0])
  | succ k1 =>
   have H := HA.out
   clear HA
   simp only [zab.l0] at H
   by_cases c5 : x6_1 > 0
   ·rw [if_pos c5] at H
    have c5b0 : decide (0 < x6_1) = true := decide_eq_true c5
    clear c5
    replace H := Option.bind_eq_some_iff.mp H
    obtain ⟨⟨t204,t205,t206⟩,A60,H⟩ := H
    replace H : (if x5_1.length < 8796093022208 then (zab.l0 k1 (x5_1 ++ [t204]) (wrap64 (x6_1 - 1)) s0_0 t205 t206) else (none)) = some (r1,r2,r3) := H
    have A6 := za.mk A60
    clear A60
    by_cases c7 : x5_1.length < 8796093022208
    ·rw [if_pos c7] at H
     have LMc7 := za.mk c7
     clear c7
     obtain ⟨y207,hy207⟩ : ∃ y_ : List ByteArray,y_ = (x5_1 ++ [t204]) := ⟨_,rfl⟩
     replace H : (zab.l0 k1 y207 (wrap64 (x6_1 - 1)) s0_0 t205 t206) = some (r1,r2,r3) := by first | (rw [hy207]; with_reducible exact H) | (have H2_ := (Option.bind_some _ _).symm.trans H; rw [hy207]; with_reducible exact H2_) | (have H2_ := (Option.bind_some _ _).symm.trans H; with_reducible exact H2_) | with_reducible exact H | (rw [hy207]; exact H) | exact H
     have Ny207 := za.mk hy207
     clear hy207
     have H' := za.mk H
     clear H
     go_wp2_with (first | ((with_reducible refine zA (f := 35) rfl ?_); refine zW (some 16) rfl rfl Try.func35 qg rfl #[.pointer (some ⟨g,0,none⟩)] rfl qb ?_; (with_reducible refine (zbp.calls g s0_0 x1001_1 x1002_1 t204 t205 t206 w0 _ ?side1 ?side2 A6.out).mono ?_); (case side1 => exact qt HI0.out); (case side2 => exact qz HB.out HI0.out); rintro e w8 ⟨rfl,hi,hb,hk⟩; refine ⟨_,rfl,?_⟩; have n0_ := za.mk (Kd.zaB (Kd.zf9 (zG.apart (show zG w0 _ g s0_0 x1001_1 x1002_1 from by repeat (first | (with_reducible first | exact HI0.out | apply zG.alloc | apply zG.drewN | apply zG.drew | apply zG.zbR | apply zG.zbX) | exact HI0.out)) (qp HO_5.out) qq) hk (fun _ h => h.2)) (fun _ h => h.1)); have n1_ := za.mk (zM.trans (qr HK.out) hk (.inl rfl)); have n2_ := za.mk (hb); have n3_ := za.mk (hi); clear HO_5; clear HK; clear HB; clear HI0; have HO_5 := n0_; have HK := n1_; have HB := n2_; have HI0 := n3_; clear n0_ n1_ n2_ n3_; (try clear hb); (try clear hb2); (try clear hk); (try clear hi)) | ((with_reducible refine za1 (b := .append) (xs := #[.tmp 14, .tmp 17]) rfl ?_); at_builtin; refine Kd.zc4 Kd.string w.heap.size rfl (.tmp 14) (.tmp 17) 22 9 (.string ⟨#[]⟩) 16 rfl Try.underlying22 zef rfl qq ql u5 x5_1 t204 [.string t204] (fun _ => True) (fun _ => False) rfl rfl ?aP (fun _ hk => hk.elim) ?aF ?aO (Below.refl _ _) ?aS ?aL ?_; (case aP => exact rfl); (case aF => exact (fun _ _ => trivial)); (case aO => exact (qp HO_5.out)); (case aS => exact (zfF (w := w) (g := g) (row := none) (qr HK.out))); (case aL => have := LMc7.out; omega); intro v208 w9 ho hb hg hat; rw [← Ny207.out] at ho; have n0_ := za.mk (zG.grown (qt HI0.out) hg (zG.own_ne HI0.out HO_5.out qq)); have n1_ := za.mk (zcs (qz HB.out HI0.out) HL.out hb); have n2_ := za.mk (zM.trans (qr HK.out) (zM.zgj hg g) (Kd.ziR HO_5.out)); have n3_ := za.mk (ho); clear HI0; clear HB; clear HK; clear HO_5; have HI0 := n0_; have HB := n1_; have HK := n2_; have HO209 := n3_; clear n0_ n1_ n2_ n3_; clear ho hb hg hat))
     go_roundg k1
     case measure => have := HK1.out; omega
     case rel => exact ⟨(y207),(wrap64 (x6_1 - 1)),(t205),(t206),qm,H',⟨by have := HK1.out; omega⟩,⟨by (with_reducible repeat (first | apply Kd.zaE | apply Kd.zau | apply Kd.zaJ)); exact HO209.out⟩,⟨by repeat (first | (with_reducible first | exact HI0.out | apply zG.alloc | apply zG.drewN | apply zG.drew | apply zG.zbR | apply zG.zbX) | exact HI0.out)⟩,⟨by repeat (first | (with_reducible first | exact HK.out | apply zM.zbY | apply za2 | apply zaU | apply za4) | exact HK.out)⟩,⟨by repeat (first | (with_reducible first | exact HB.out | apply ze | apply zb | apply zg | refine zh ?_ (zG.ge HI0.out)) | exact HB.out)⟩⟩
    ·rw [if_neg c7] at H
     exact absurd H qC
   ·rw [if_neg c5] at H
    have c5b0 : decide (0 < x6_1) = false := decide_eq_false c5
    clear c5
    simp only [Option.some.injEq,Prod.mk.injEq] at H
    obtain ⟨rfl,rfl,rfl⟩ := H
    go_wp2
    go_ret
    exact ⟨_,by first | rfl | (simp [zw,zx] <;> rfl) | (simp [*,zw,zx] <;> rfl),by (with_reducible repeat (first | apply Kd.zaE | apply Kd.zau | apply Kd.zaJ)); exact HO_5.out,by repeat (first | (with_reducible first | exact HI0.out | apply zG.alloc | apply zG.drewN | apply zG.drew | apply zG.zbR | apply zG.zbX) | exact HI0.out),by repeat (first | (with_reducible first | exact HB.out | apply ze | apply zb | apply zg | refine zh ?_ (zG.ge HI0.out)) | exact HB.out),by repeat (first | (with_reducible first | exact HK.out | apply zM.zbY | apply za2 | apply zaU | apply za4) | exact HK.out)⟩
def zN.l0 : Nat → List (S63) → Int → Int → Option (Int)
 | 0,_,_,_ => none
 | k + 1,x0,x3,x4 => if x4 < (x0.length : Int) then (if 0 ≤ x4 then (if ((zk x0 x4).f0) = 3 then (zN.l0 k x0 x3 (wrap64 (x4 + 1))) else (zN.l0 k x0 (wrap64 (x3 + 1)) (wrap64 (x4 + 1)))) else (none)) else (some x3)
def zN.f (k : Nat) (l0 : List (S63)) : Option (Int) := zN.l0 k l0 0 0
set_option maxHeartbeats 8000000 in
set_option maxRecDepth 100000 in
theorem zN.calls (k : Nat) (A0 : Option Addr) (c0 : Nat) (l0 : List (S63)) (r : Int) (w : World) (hr0 : Kd.C k63 w A0 l0.length l0) (hc0 : l0.length ≤ c0) (h : zN.f k l0 = some r) :
  Calls Try.prog 81 #[.slice A0 l0.length c0] w fun e w' => e = .returned (.int .i64 r) ∧ zz w w' := by
 have HR0 := za.mk hr0
 have HC0 := za.mk hc0
 clear hr0 hc0
 have H : (zN.l0 k l0 0 0) = some r := h
 clear h
 have H' := za.mk H
 clear H
 go_enter Try.func81,Try.ntmps81
 go_wp2
 go_loopg [3,4] k (fun kq v3 v4 w' => ∃ (x3_1 : Int) (x4_1 : Int),v3 = .int .i64 x3_1 ∧ v4 = .int .i64 x4_1 ∧ za (zN.l0 kq l0 x3_1 x4_1 = some r) ∧ za (kq ≤ k) ∧ zz w w')
 case atStart => exact ⟨(0),(0),qm,qm,H',⟨Nat.le_refl _⟩,by repeat (first | exact zz.refl _ | apply zz.step)⟩
 case round =>
  clear H'
  obtain ⟨x3_1,x4_1,rfl,rfl,HA,HK1,⟨m1,rfl⟩⟩ := hrel
  cases gk with
  | zero => exact absurd HA.out (by simp [zN.l0])
  | succ k1 =>
   have H := HA.out
   clear HA
   simp only [zN.l0] at H
   by_cases c2 : x4_1 < (l0.length : Int)
   ·rw [if_pos c2] at H
    have c2b0 : decide (x4_1 < (l0.length : Int)) = true := decide_eq_true c2
    clear c2
    by_cases c3 : 0 ≤ x4_1
    ·rw [if_pos c3] at H
     have c3b0 : decide (0 ≤ x4_1) = true := decide_eq_true c3
     clear c3
     by_cases c4 : ((zk l0 x4_1).f0) = 3
     ·rw [if_pos c4] at H
      have c4b0 : (((zk l0 x4_1).f0) == 3) = true := beq_iff_eq.mpr c4
      have c4b1 : (((zk l0 x4_1).f0) != 3) = false := bne_eq_false_iff_eq.mpr c4
      clear c4
      have H' := za.mk H
      clear H
      have p218 : 0 ≤ (x4_1 : Int) := of_decide_eq_true qd
      have q218 : x4_1 < (l0.length : Int) := of_decide_eq_true qd
      obtain ⟨ad218,e218,hx218_0,hx218_1,hx218_2⟩ := zbb HR0.out x4_1 p218 q218
      cases e218
      replace p218 := eq_true p218
      replace q218 := eq_true q218
      go_wp2
      go_roundg k1
      case measure => have := HK1.out; omega
      case rel => exact ⟨(x3_1),(wrap64 (x4_1 + 1)),qm,qm,H',⟨by have := HK1.out; omega⟩,by repeat (first | exact zz.refl _ | apply zz.step)⟩
     ·rw [if_neg c4] at H
      have c4b0 : (((zk l0 x4_1).f0) == 3) = false := beq_eq_false_iff_ne.mpr c4
      have c4b1 : (((zk l0 x4_1).f0) != 3) = true := bne_iff_ne.mpr c4
      have H' := za.mk H
      clear H
      have p218 : 0 ≤ (x4_1 : Int) := of_decide_eq_true qd
      have q218 : x4_1 < (l0.length : Int) := of_decide_eq_true qd
      obtain ⟨ad218,e218,hx218_0,hx218_1,hx218_2⟩ := zbb HR0.out x4_1 p218 q218
      cases e218
      replace p218 := eq_true p218
      replace q218 := eq_true q218
      go_wp2
      go_roundg k1
      case measure => have := HK1.out; omega
      case rel => exact ⟨(wrap64 (x3_1 + 1)),(wrap64 (x4_1 + 1)),qm,qm,H',⟨by have := HK1.out; omega⟩,by repeat (first | exact zz.refl _ | apply zz.step)⟩
    ·rw [if_neg c3] at H
     exact absurd H qC
   ·rw [if_neg c2] at H
    have c2b0 : decide (x4_1 < (l0.length : Int)) = false := decide_eq_false c2
    clear c2
    obtain rfl := Option.some.inj H
    go_wp2
    go_ret
    exact ⟨by first | rfl | (simp; done) | (simp [*]; done),by repeat (first | exact zz.refl _ | apply zz.step)⟩
def zbf.f (a0_0 : Int) (a0_1 : Int) (a0_2 : ByteArray) (a1_0 : Int) (a1_1 : Int) (a1_2 : ByteArray) : Option (Bool) := if a0_1 = a1_1 then (if a0_0 = a1_0 then (some (Op.bytesLess a0_2.toList a1_2.toList)) else (some (decide (a0_0 < a1_0)))) else (some (decide (a0_1 < a1_1)))
set_option maxHeartbeats 8000000 in
set_option maxRecDepth 100000 in
theorem zbf.calls (a0_0 : Int) (a0_1 : Int) (a0_2 : ByteArray) (a1_0 : Int) (a1_1 : Int) (a1_2 : ByteArray) (r : Bool) (w : World) (h : zbf.f a0_0 a0_1 a0_2 a1_0 a1_1 a1_2 = some r) :
  Calls Try.prog 108 #[.agg #[.int .i64 a0_0, .int .i64 a0_1, .string a0_2], .agg #[.int .i64 a1_0, .int .i64 a1_1, .string a1_2]] w fun e w' => e = .returned (.bool r) ∧ Below w.heap.size w w' := by
 have hu63 := Try.underlying63
 have HB := za.mk (Below.refl w.heap.size w)
 have H : (if a0_1 = a1_1 then (if a0_0 = a1_0 then (some (Op.bytesLess a0_2.toList a1_2.toList)) else (some (decide (a0_0 < a1_0)))) else (some (decide (a0_1 < a1_1)))) = some r := h
 clear h
 by_cases c3 : a0_1 = a1_1
 ·rw [if_pos c3] at H
  have c3b0 : (a0_1 == a1_1) = true := beq_iff_eq.mpr c3
  have c3b1 : (a0_1 != a1_1) = false := bne_eq_false_iff_eq.mpr c3
  clear c3
  by_cases c4 : a0_0 = a1_0
  ·rw [if_pos c4] at H
   have c4b0 : (a0_0 == a1_0) = true := beq_iff_eq.mpr c4
   have c4b1 : (a0_0 != a1_0) = false := bne_eq_false_iff_eq.mpr c4
   clear c4
   obtain rfl := Option.some.inj H
   go_enter Try.func108,Try.ntmps108
   go_wp2_with (first | ((with_reducible refine zaa (N := 2) rfl ?_); refine zao ?hg (N := 2) ?hd (cs := #[.int .i64 a0_0, .int .i64 a0_1, .string a0_2]) (t := 63) ?hr ?_; (case hd => rfl); (case hg => rfl); (case hr => exact qk); intro gb219 hg w5 hbox hb; have n0_ := za.mk (zo (qc HB.out) hb); have n1_ := za.mk (hbox); have n2_ := za.mk ((by rw [hg]; exact (zy (qc HB.out)) : w.heap.size ≤ gb219)); have n3_ := za.mk ((by rw [hg]; exact (zy (qc HB.out)) : w.heap.size ≤ gb219)); clear HB; have HB := n0_; have BK219 := n1_; have GW219 := n2_; have GE219 := n3_; clear n0_ n1_ n2_ n3_; clear hb hbox hg) | ((with_reducible refine zaa (N := 3) rfl ?_); refine zao ?hg (N := 3) ?hd (cs := #[.int .i64 a1_0, .int .i64 a1_1, .string a1_2]) (t := 63) ?hr ?_; (case hd => rfl); (case hg => rfl); (case hr => exact qk); intro gb220 hg w6 hbox hb; have n0_ := za.mk (zu (g := gb219) (o := .cells #[.int .i64 a0_0, .int .i64 a0_1, .string a0_2] 63 (0,0)) (qa BK219.out) hb); have n1_ := za.mk (zo (qf HB.out GE219.out) hb); have n2_ := za.mk (hbox); have n3_ := za.mk ((by rw [hg]; exact (zy (qf HB.out GE219.out)) : w.heap.size ≤ gb220)); have n4_ := za.mk ((by rw [hg]; exact (zy (qf HB.out GE219.out)) : w.heap.size ≤ gb220)); have n5_ := za.mk ((by rw [hg]; exact Nat.ne_of_lt (zR (g := gb219) (o := .cells #[.int .i64 a0_0, .int .i64 a0_1, .string a0_2] 63 (0,0)) (qa BK219.out)) : gb219 ≠ gb220)); have n6_ := za.mk ((by rw [hg]; exact Nat.ne_of_gt (zR (g := gb219) (o := .cells #[.int .i64 a0_0, .int .i64 a0_1, .string a0_2] 63 (0,0)) (qa BK219.out)) : gb220 ≠ gb219)); clear BK219; clear HB; have BK219 := n0_; have HB := n1_; have BK220 := n2_; have GW220 := n3_; have GE220 := n4_; have NB219_220 := n5_; have NB220_219 := n6_; clear n0_ n1_ n2_ n3_ n4_ n5_ n6_; clear hb hbox hg; have hnb7 := NB219_220.out; have hnc7 := NB220_219.out; have hcz8_0 : w6.cell? ⟨gb219,0,none⟩ = some (.int .i64 a0_0) := (zf BK219.out 0).trans rfl; have hcz8_1 : w6.cell? ⟨gb219,1,none⟩ = some (.int .i64 a0_1) := (zf BK219.out 1).trans rfl; have hcz8_2 : w6.cell? ⟨gb219,2,none⟩ = some (.string a0_2) := (zf BK219.out 2).trans rfl; have hfz8_0 := zn BK219.out 0; have hfz8_1 := zn BK219.out 1; have hfz8_2 := zn BK219.out 2; have hcz9_0 : w6.cell? ⟨gb220,0,none⟩ = some (.int .i64 a1_0) := (zf BK220.out 0).trans rfl; have hcz9_1 : w6.cell? ⟨gb220,1,none⟩ = some (.int .i64 a1_1) := (zf BK220.out 1).trans rfl; have hcz9_2 : w6.cell? ⟨gb220,2,none⟩ = some (.string a1_2) := (zf BK220.out 2).trans rfl; have hfz9_0 := zn BK220.out 0; have hfz9_1 := zn BK220.out 1; have hfz9_2 := zn BK220.out 2))
   go_ret
   exact ⟨by first | rfl | (simp [zw,zx] <;> rfl) | (simp [*,zw,zx] <;> rfl),by repeat (first | (with_reducible first | exact HB.out | apply ze | apply zb | apply zg | refine zh ?_ GE219.out | refine zh ?_ GE220.out) | exact HB.out)⟩
  ·rw [if_neg c4] at H
   have c4b0 : (a0_0 == a1_0) = false := beq_eq_false_iff_ne.mpr c4
   have c4b1 : (a0_0 != a1_0) = true := bne_iff_ne.mpr c4
   obtain rfl := Option.some.inj H
   go_enter Try.func108,Try.ntmps108
   go_wp2_with (first | ((with_reducible refine zaa (N := 2) rfl ?_); refine zao ?hg (N := 2) ?hd (cs := #[.int .i64 a0_0, .int .i64 a0_1, .string a0_2]) (t := 63) ?hr ?_; (case hd => rfl); (case hg => rfl); (case hr => exact qk); intro gb219 hg w10 hbox hb; have n0_ := za.mk (zo (qc HB.out) hb); have n1_ := za.mk (hbox); have n2_ := za.mk ((by rw [hg]; exact (zy (qc HB.out)) : w.heap.size ≤ gb219)); have n3_ := za.mk ((by rw [hg]; exact (zy (qc HB.out)) : w.heap.size ≤ gb219)); clear HB; have HB := n0_; have BK219 := n1_; have GW219 := n2_; have GE219 := n3_; clear n0_ n1_ n2_ n3_; clear hb hbox hg) | ((with_reducible refine zaa (N := 3) rfl ?_); refine zao ?hg (N := 3) ?hd (cs := #[.int .i64 a1_0, .int .i64 a1_1, .string a1_2]) (t := 63) ?hr ?_; (case hd => rfl); (case hg => rfl); (case hr => exact qk); intro gb220 hg w11 hbox hb; have n0_ := za.mk (zu (g := gb219) (o := .cells #[.int .i64 a0_0, .int .i64 a0_1, .string a0_2] 63 (0,0)) (qa BK219.out) hb); have n1_ := za.mk (zo (qf HB.out GE219.out) hb); have n2_ := za.mk (hbox); have n3_ := za.mk ((by rw [hg]; exact (zy (qf HB.out GE219.out)) : w.heap.size ≤ gb220)); have n4_ := za.mk ((by rw [hg]; exact (zy (qf HB.out GE219.out)) : w.heap.size ≤ gb220)); have n5_ := za.mk ((by rw [hg]; exact Nat.ne_of_lt (zR (g := gb219) (o := .cells #[.int .i64 a0_0, .int .i64 a0_1, .string a0_2] 63 (0,0)) (qa BK219.out)) : gb219 ≠ gb220)); have n6_ := za.mk ((by rw [hg]; exact Nat.ne_of_gt (zR (g := gb219) (o := .cells #[.int .i64 a0_0, .int .i64 a0_1, .string a0_2] 63 (0,0)) (qa BK219.out)) : gb220 ≠ gb219)); clear BK219; clear HB; have BK219 := n0_; have HB := n1_; have BK220 := n2_; have GW220 := n3_; have GE220 := n4_; have NB219_220 := n5_; have NB220_219 := n6_; clear n0_ n1_ n2_ n3_ n4_ n5_ n6_; clear hb hbox hg; have hnb12 := NB219_220.out; have hnc12 := NB220_219.out; have hcz13_0 : w11.cell? ⟨gb219,0,none⟩ = some (.int .i64 a0_0) := (zf BK219.out 0).trans rfl; have hcz13_1 : w11.cell? ⟨gb219,1,none⟩ = some (.int .i64 a0_1) := (zf BK219.out 1).trans rfl; have hcz13_2 : w11.cell? ⟨gb219,2,none⟩ = some (.string a0_2) := (zf BK219.out 2).trans rfl; have hfz13_0 := zn BK219.out 0; have hfz13_1 := zn BK219.out 1; have hfz13_2 := zn BK219.out 2; have hcz14_0 : w11.cell? ⟨gb220,0,none⟩ = some (.int .i64 a1_0) := (zf BK220.out 0).trans rfl; have hcz14_1 : w11.cell? ⟨gb220,1,none⟩ = some (.int .i64 a1_1) := (zf BK220.out 1).trans rfl; have hcz14_2 : w11.cell? ⟨gb220,2,none⟩ = some (.string a1_2) := (zf BK220.out 2).trans rfl; have hfz14_0 := zn BK220.out 0; have hfz14_1 := zn BK220.out 1; have hfz14_2 := zn BK220.out 2))
   go_ret
   exact ⟨by first | rfl | (simp [zw,zx] <;> rfl) | (simp [*,zw,zx] <;> rfl),by repeat (first | (with_reducible first | exact HB.out | apply ze | apply zb | apply zg | refine zh ?_ GE219.out | refine zh ?_ GE220.out) | exact HB.out)⟩
 ·rw [if_neg c3] at H
  have c3b0 : (a0_1 == a1_1) = false := beq_eq_false_iff_ne.mpr c3
  have c3b1 : (a0_1 != a1_1) = true := bne_iff_ne.mpr c3
  obtain rfl := Option.some.inj H
  go_enter Try.func108,Try.ntmps108
  go_wp2_with (first | ((with_reducible refine zaa (N := 2) rfl ?_); refine zao ?hg (N := 2) ?hd (cs := #[.int .i64 a0_0, .int .i64 a0_1, .string a0_2]) (t := 63) ?hr ?_; (case hd => rfl); (case hg => rfl); (case hr => exact qk); intro gb219 hg w15 hbox hb; have n0_ := za.mk (zo (qc HB.out) hb); have n1_ := za.mk (hbox); have n2_ := za.mk ((by rw [hg]; exact (zy (qc HB.out)) : w.heap.size ≤ gb219)); have n3_ := za.mk ((by rw [hg]; exact (zy (qc HB.out)) : w.heap.size ≤ gb219)); clear HB; have HB := n0_; have BK219 := n1_; have GW219 := n2_; have GE219 := n3_; clear n0_ n1_ n2_ n3_; clear hb hbox hg) | ((with_reducible refine zaa (N := 3) rfl ?_); refine zao ?hg (N := 3) ?hd (cs := #[.int .i64 a1_0, .int .i64 a1_1, .string a1_2]) (t := 63) ?hr ?_; (case hd => rfl); (case hg => rfl); (case hr => exact qk); intro gb220 hg w16 hbox hb; have n0_ := za.mk (zu (g := gb219) (o := .cells #[.int .i64 a0_0, .int .i64 a0_1, .string a0_2] 63 (0,0)) (qa BK219.out) hb); have n1_ := za.mk (zo (qf HB.out GE219.out) hb); have n2_ := za.mk (hbox); have n3_ := za.mk ((by rw [hg]; exact (zy (qf HB.out GE219.out)) : w.heap.size ≤ gb220)); have n4_ := za.mk ((by rw [hg]; exact (zy (qf HB.out GE219.out)) : w.heap.size ≤ gb220)); have n5_ := za.mk ((by rw [hg]; exact Nat.ne_of_lt (zR (g := gb219) (o := .cells #[.int .i64 a0_0, .int .i64 a0_1, .string a0_2] 63 (0,0)) (qa BK219.out)) : gb219 ≠ gb220)); have n6_ := za.mk ((by rw [hg]; exact Nat.ne_of_gt (zR (g := gb219) (o := .cells #[.int .i64 a0_0, .int .i64 a0_1, .string a0_2] 63 (0,0)) (qa BK219.out)) : gb220 ≠ gb219)); clear BK219; clear HB; have BK219 := n0_; have HB := n1_; have BK220 := n2_; have GW220 := n3_; have GE220 := n4_; have NB219_220 := n5_; have NB220_219 := n6_; clear n0_ n1_ n2_ n3_ n4_ n5_ n6_; clear hb hbox hg; have hnb17 := NB219_220.out; have hnc17 := NB220_219.out; have hcz18_0 : w16.cell? ⟨gb219,0,none⟩ = some (.int .i64 a0_0) := (zf BK219.out 0).trans rfl; have hcz18_1 : w16.cell? ⟨gb219,1,none⟩ = some (.int .i64 a0_1) := (zf BK219.out 1).trans rfl; have hcz18_2 : w16.cell? ⟨gb219,2,none⟩ = some (.string a0_2) := (zf BK219.out 2).trans rfl; have hfz18_0 := zn BK219.out 0; have hfz18_1 := zn BK219.out 1; have hfz18_2 := zn BK219.out 2; have hcz19_0 : w16.cell? ⟨gb220,0,none⟩ = some (.int .i64 a1_0) := (zf BK220.out 0).trans rfl; have hcz19_1 : w16.cell? ⟨gb220,1,none⟩ = some (.int .i64 a1_1) := (zf BK220.out 1).trans rfl; have hcz19_2 : w16.cell? ⟨gb220,2,none⟩ = some (.string a1_2) := (zf BK220.out 2).trans rfl; have hfz19_0 := zn BK220.out 0; have hfz19_1 := zn BK220.out 1; have hfz19_2 := zn BK220.out 2))
  go_ret
  exact ⟨by first | rfl | (simp [zw,zx] <;> rfl) | (simp [*,zw,zx] <;> rfl),by repeat (first | (with_reducible first | exact HB.out | apply ze | apply zb | apply zg | refine zh ?_ GE219.out | refine zh ?_ GE220.out) | exact HB.out)⟩
theorem zdI (op : BinOp) (x y : Int) : 0 ≤ bits op .u64 x y := by
 have h : ∀ n : Int,0 ≤ IntKind.u64.wrap n := fun n => by
  simp only [IntKind.wrap,IntKind.bits,IntKind.signed,Bool.false_and]
  simp only [Bool.false_eq_true,if_false]
  omega
 unfold bits
 split <;> first | exact h _ | exact Int.le_refl _ | omega
theorem zi1 (l : List Int) (s1 s2 : Int) (h1 : 0 ≤ s1) (hl : l.length ≤ 17592186044416) : ∃ r t1 t2,zaR.f l s1 s2 = some (r,t1,t2) ∧ 0 ≤ r ∧ 0 ≤ t1 := by
 unfold zaR.f
 rw [if_pos ⟨h1,hl⟩]
 split
 ·exact ⟨_,_,_,rfl,zdI _ _ _,by omega⟩
 ·exact ⟨_,_,_,rfl,zdI _ _ _,h1⟩
theorem zio (l : List Int) (s1 s2 : Int) (h1 : 0 ≤ s1) (hl : l.length ≤ 17592186044416) (n : Int) (h0 : 0 ≤ n) (hn : n ≤ 1000) : ∃ r t1 t2,zaH.f l s1 s2 n = some (r,t1,t2) ∧ 0 ≤ r ∧ r ≤ n ∧ 0 ≤ t1 := by
 unfold zaH.f
 by_cases hc : n < 1
 ·rw [if_pos hc]; exact ⟨0,s1,s2,rfl,Int.le_refl _,h0,h1⟩
 ·rw [if_neg hc]
  obtain ⟨r,t1,t2,hr,hr0,ht⟩ := zi1 l s1 s2 h1 hl
  have hw : IntKind.u64.wrap (wrap64 (n + 1)) = n + 1 := by
   have : wrap64 (n + 1) = n + 1 := by unfold wrap64; omega
   rw [this]
   simp only [IntKind.wrap,IntKind.bits,IntKind.signed,Bool.false_and]
   simp only [Bool.false_eq_true,if_false]
   omega
  rw [hr,Option.bind_some,hw,if_neg ql]
  have hq : 0 ≤ r / 65536 := by omega
  have hm : Int.tmod (r / 65536) (n + 1) = (r / 65536) % (n + 1) := Int.tmod_eq_emod_of_nonneg hq
  have h2 := Int.emod_nonneg (r / 65536) (show n + 1 ≠ 0 by omega)
  have h3 := Int.emod_lt_of_pos (r / 65536) (show 0 < n + 1 by omega)
  refine ⟨_,t1,t2,rfl,?_,?_,ht⟩
  ·rw [hm]; unfold wrap64; omega
  ·rw [hm]; unfold wrap64; omega
theorem ziy (l : List Int) (s1 s2 : Int) (h1 : 0 ≤ s1) (hl : l.length ≤ 17592186044416) (ws : List ByteArray) (hw : 0 < ws.length) (hw1 : ws.length ≤ 1000) : ∃ x t1 t2,zaN.f l s1 s2 ws = some (x,t1,t2) ∧ x ∈ ws ∧ 0 ≤ t1 := by
 unfold zaN.f
 have e : wrap64 ((ws.length : Int) - 1) = (ws.length : Int) - 1 := by unfold wrap64; omega
 obtain ⟨r,t1,t2,hr,h2,h3,h4⟩ := zio l s1 s2 h1 hl ((ws.length : Int) - 1) ql ql
 rw [e,hr,Option.bind_some,if_pos h2,if_pos qG]
 refine ⟨_,t1,t2,rfl,?_,h4⟩
 have hlt : r.toNat < ws.length := by omega
 dsimp only
 simp only [zaC,List.getD_eq_getElem?_getD,List.getElem?_eq_getElem hlt,Option.getD_some]
 exact List.getElem_mem _
def zcv : List ByteArray := [(⟨#[97]⟩ : ByteArray),(⟨#[98]⟩ : ByteArray),(⟨#[99]⟩ : ByteArray),(⟨#[97,110,32,49]⟩ : ByteArray),(⟨#[98,101,110]⟩ : ByteArray),(⟨#[99,121,100,32,49,50]⟩ : ByteArray)]
theorem ziI (l : List Int) (s1 s2 : Int) (h1 : 0 ≤ s1) (hl : l.length ≤ 17592186044416) : ∃ x t1 t2,zbp.f l s1 s2 = some (x,t1,t2) ∧ x ∈ zcv ∧ 0 ≤ t1 := by
 obtain ⟨x,t1,t2,h,hx,ht⟩ := ziy l s1 s2 h1 hl zcv qq qq
 unfold zbp.f
 refine ⟨x,t1,t2,?_,hx,ht⟩
 exact (congrArg (fun o : Option (ByteArray × Int × Int) => o.bind fun bt198 => some (bt198.1,bt198.2.1,bt198.2.2)) h)
theorem zeV (l : List Int) (hl : l.length ≤ 17592186044416) : ∀ (m k : Nat) (p : List ByteArray) (s1 s2 : Int),m < k → 0 ≤ s1 → p.length + m ≤ 1000 → (∀ x ∈ p,x ∈ zcv) →
  ∃ q t1 t2,zab.l0 k p (m : Int) l s1 s2 = some (q,t1,t2) ∧ q.length = p.length + m ∧ (∀ x ∈ q,x ∈ zcv) ∧ 0 ≤ t1
 | 0,k,p,s1,s2,hk,h1,hp,hw => by
  obtain ⟨k',rfl⟩ : ∃ k',k = k' + 1 := ⟨k - 1,by omega⟩
  rw [zab.l0,if_neg ql]
  exact ⟨p,s1,s2,rfl,rfl,hw,h1⟩
 | m + 1,k,p,s1,s2,hk,h1,hp,hw => by
  obtain ⟨k',rfl⟩ : ∃ k',k = k' + 1 := ⟨k - 1,by omega⟩
  obtain ⟨x,t1,t2,hx,hxw,ht⟩ := ziI l s1 s2 h1 hl
  have e : wrap64 (((m + 1 : Nat) : Int) - 1) = (m : Int) := by unfold wrap64; omega
  rw [zab.l0,if_pos ql,hx,Option.bind_some,if_pos ql,e]
  obtain ⟨q,u1,u2,h2,h3,h4,h5⟩ := zeV l hl m k' (p ++ [x]) t1 t2 ql ht qO (fun y hy => by
   rcases List.mem_append.1 hy with hy | hy
   ·exact hw y hy
   ·rw [List.mem_singleton.1 hy]; exact hxw)
  exact ⟨q,u1,u2,h2,by rw [h3,List.length_append,List.length_singleton]; omega,h4,h5⟩
theorem zgH (l : List Int) (s1 s2 : Int) (h1 : 0 ≤ s1) (hl : l.length ≤ 17592186044416) (n : Nat) (hn : n ≤ 100) (k : Nat) (hk : 200 ≤ k) : ∃ q t1 t2,zab.f k l s1 s2 (n : Int) = some (q,t1,t2) ∧ q.length ≤ n ∧ (∀ x ∈ q,x ∈ zcv) ∧ 0 ≤ t1 := by
 obtain ⟨r,t1,t2,hr,h2,h3,h4⟩ := zio l s1 s2 h1 hl n ql ql
 obtain ⟨m,rfl⟩ := Int.eq_ofNat_of_zero_le h2
 obtain ⟨q,u1,u2,h5,h6,h7,h8⟩ := zeV l hl m k [] t1 t2 ql h4 qI qC
 unfold zab.f
 rw [hr,Option.bind_some]
 exact ⟨q,u1,u2,h5,by rw [h6]; simp; omega,h7,h8⟩
def zaj.l0 : Nat → List ByteArray → ByteArray → Int → Int → Option (Int)
 | 0,_,_,_,_ => none
 | k + 1,x0,x1,x7,x8 => if x8 < x7 then (if 0 ≤ x8 then (if x8 < (x0.length : Int) then (if x1.toList = (zaC ByteArray.empty x0 x8).toList then (some x8) else (zaj.l0 k x0 x1 x7 (wrap64 (x8 + 1)))) else (none)) else (none)) else (some (-1))
def zaj.f (k : Nat) (l0 : List ByteArray) (a1 : ByteArray) : Option (Int) := zaj.l0 k l0 a1 (l0.length : Int) 0
set_option maxHeartbeats 8000000 in
set_option maxRecDepth 100000 in
theorem zaj.calls (k : Nat) (A0 : Option Addr) (c0 : Nat) (l0 : List ByteArray) (a1 : ByteArray) (r : Int) (w : World) (hr0 : Kd.C Kd.string w A0 l0.length l0) (hc0 : l0.length ≤ c0) (h : zaj.f k l0 a1 = some r) :
  Calls Try.prog 104 #[.slice A0 l0.length c0, .string a1] w fun e w' => e = .returned (.int .i64 r) ∧ zz w w' := by
 have HR0 := za.mk hr0
 have HC0 := za.mk hc0
 clear hr0 hc0
 have H : (zaj.l0 k l0 a1 (l0.length : Int) 0) = some r := h
 clear h
 have H' := za.mk H
 clear H
 go_enter Try.func104,Try.ntmps104
 go_wp2
 go_loopg [8] k (fun kq v8 w' => ∃ (x8_1 : Int),v8 = .int .i64 x8_1 ∧ za (zaj.l0 kq l0 a1 (l0.length : Int) x8_1 = some r) ∧ za (kq ≤ k) ∧ zz w w')
 case atStart => exact ⟨(0),qm,H',⟨Nat.le_refl _⟩,by repeat (first | exact zz.refl _ | apply zz.step)⟩
 case round =>
  clear H'
  try clear c1
  try clear p2
  obtain ⟨x8_1,rfl,HA,HK1,⟨m1,rfl⟩⟩ := hrel
  cases gk with
  | zero => exact absurd HA.out (by simp [zaj.l0])
  | succ k1 =>
   have H := HA.out
   clear HA
   simp only [zaj.l0] at H
   by_cases c3 : x8_1 < (l0.length : Int)
   ·rw [if_pos c3] at H
    have c3b0 : decide (x8_1 < (l0.length : Int)) = true := decide_eq_true c3
    clear c3
    by_cases c4 : 0 ≤ x8_1
    ·rw [if_pos c4] at H
     have c4b0 : decide (0 ≤ x8_1) = true := decide_eq_true c4
     clear c4
     by_cases c5 : x8_1 < (l0.length : Int)
     ·rw [if_pos c5] at H
      have c5b0 : decide (x8_1 < (l0.length : Int)) = true := decide_eq_true c5
      clear c5
      by_cases c6 : a1.toList = (zaC ByteArray.empty l0 x8_1).toList
      ·rw [if_pos c6] at H
       have c6b0 : (a1.toList == (zaC ByteArray.empty l0 x8_1).toList) = true := beq_iff_eq.mpr c6
       have c6b1 : (a1.toList != (zaC ByteArray.empty l0 x8_1).toList) = false := bne_eq_false_iff_eq.mpr c6
       clear c6
       obtain rfl := Option.some.inj H
       have p132 : 0 ≤ (x8_1 : Int) := of_decide_eq_true qd
       have q132 : x8_1 < (l0.length : Int) := of_decide_eq_true qd
       obtain ⟨ad132,e132,hx132_0⟩ := Kd.zaV HR0.out x8_1 p132 q132
       cases e132
       replace p132 := eq_true p132
       replace q132 := eq_true q132
       go_wp2
       go_ret
       exact ⟨by first | rfl | (simp; done) | (simp [*]; done),by repeat (first | exact zz.refl _ | apply zz.step)⟩
      ·rw [if_neg c6] at H
       have c6b0 : (a1.toList == (zaC ByteArray.empty l0 x8_1).toList) = false := beq_eq_false_iff_ne.mpr c6
       have c6b1 : (a1.toList != (zaC ByteArray.empty l0 x8_1).toList) = true := bne_iff_ne.mpr c6
       have H' := za.mk H
       clear H
       have p132 : 0 ≤ (x8_1 : Int) := of_decide_eq_true qd
       have q132 : x8_1 < (l0.length : Int) := of_decide_eq_true qd
       obtain ⟨ad132,e132,hx132_0⟩ := Kd.zaV HR0.out x8_1 p132 q132
       cases e132
       replace p132 := eq_true p132
       replace q132 := eq_true q132
       go_wp2
       go_roundg k1
       case measure => have := HK1.out; omega
       case rel => exact ⟨(wrap64 (x8_1 + 1)),qm,H',⟨by have := HK1.out; omega⟩,by repeat (first | exact zz.refl _ | apply zz.step)⟩
     ·rw [if_neg c5] at H
      exact absurd H qC
    ·rw [if_neg c4] at H
     exact absurd H qC
   ·rw [if_neg c3] at H
    have c3b0 : decide (x8_1 < (l0.length : Int)) = false := decide_eq_false c3
    clear c3
    obtain rfl := Option.some.inj H
    go_wp2
    go_ret
    exact ⟨by first | rfl | (simp; done) | (simp [*]; done),by repeat (first | exact zz.refl _ | apply zz.step)⟩
def zaG.f (k : Nat) (l0 : List ByteArray) (a1 : ByteArray) : Option (Bool) := (zaj.f k l0 a1).bind fun t133 => (some (decide (t133 ≥ 0)))
set_option maxHeartbeats 8000000 in
set_option maxRecDepth 100000 in
theorem zaG.calls (k : Nat) (A0 : Option Addr) (c0 : Nat) (l0 : List ByteArray) (a1 : ByteArray) (r : Bool) (w : World) (hr0 : Kd.C Kd.string w A0 l0.length l0) (hc0 : l0.length ≤ c0) (h : zaG.f k l0 a1 = some r) :
  Calls Try.prog 74 #[.slice A0 l0.length c0, .string a1] w fun e w' => e = .returned (.bool r) ∧ zz w w' := by
 have HR0 := za.mk hr0
 have HC0 := za.mk hc0
 clear hr0 hc0
 have H : ((zaj.f k l0 a1).bind fun t133 => (some (decide (t133 ≥ 0)))) = some r := h
 clear h
 replace H := Option.bind_eq_some_iff.mp H
 obtain ⟨t133,A30,H⟩ := H
 replace H : (some (decide (t133 ≥ 0))) = some r := H
 have A3 := za.mk A30
 clear A30
 obtain rfl := Option.some.inj H
 go_enter Try.func74,Try.ntmps74
 go_wp2_with (first | ((with_reducible refine zA (f := 104) rfl ?_); refine zW (some 7) rfl rfl Try.func104 qg rfl #[.slice A0 l0.length c0, .string a1] rfl qb ?_; (with_reducible refine (zaj.calls k _ _ l0 a1 t133 _ ?side1 ?side2 A3.out).mono ?_); (case side1 => exact qe HR0.out); (case side2 => exact HC0.out); rintro e w' ⟨rfl,⟨nd,rfl⟩⟩; refine ⟨_,rfl,?_⟩))
 go_ret
 exact ⟨by first | rfl | (simp; done) | (simp [*]; done),by repeat (first | exact zz.refl _ | apply zz.step)⟩
def zaQ.l0 : Nat → List (List ByteArray) → ByteArray → Int → Option (Int)
 | 0,_,_,_ => none
 | k + 1,x0,x1,x5 => if x5 ≥ 0 then (if 0 ≤ x5 then (if x5 < (x0.length : Int) then ((zaG.f k (zb2 x0 x5) x1).bind fun t135 => (if t135 = true then (some x5) else (zaQ.l0 k x0 x1 (wrap64 (x5 - 1))))) else (none)) else (none)) else (some (-1))
def zaQ.f (k : Nat) (l0 : List (List ByteArray)) (a1 : ByteArray) : Option (Int) := zaQ.l0 k l0 a1 (wrap64 ((l0.length : Int) - 1))
set_option maxHeartbeats 8000000 in
set_option maxRecDepth 100000 in
theorem zaQ.calls (k : Nat) (A0 : Option Addr) (c0 : Nat) (l0 : List (List ByteArray)) (a1 : ByteArray) (r : Int) (w : World) (hr0 : Kd.C (Kd.slice 9 Kd.string) w A0 l0.length l0) (hc0 : l0.length ≤ c0) (h : zaQ.f k l0 a1 = some r) :
  Calls Try.prog 75 #[.slice A0 l0.length c0, .string a1] w fun e w' => e = .returned (.int .i64 r) ∧ zz w w' := by
 have HR0 := za.mk hr0
 have HC0 := za.mk hc0
 clear hr0 hc0
 have H : (zaQ.l0 k l0 a1 (wrap64 ((l0.length : Int) - 1))) = some r := h
 clear h
 have H' := za.mk H
 clear H
 go_enter Try.func75,Try.ntmps75
 go_wp2
 go_loopg [5] k (fun kq v5 w' => ∃ (x5_1 : Int),v5 = .int .i64 x5_1 ∧ za (zaQ.l0 kq l0 a1 x5_1 = some r) ∧ za (kq ≤ k) ∧ zz w w')
 case atStart => exact ⟨(wrap64 ((l0.length : Int) - 1)),qm,H',⟨Nat.le_refl _⟩,by repeat (first | exact zz.refl _ | apply zz.step)⟩
 case round =>
  clear H'
  try clear p2
  obtain ⟨x5_1,rfl,HA,HK1,⟨m1,rfl⟩⟩ := hrel
  cases gk with
  | zero => exact absurd HA.out (by simp [zaQ.l0])
  | succ k1 =>
   have H := HA.out
   clear HA
   simp only [zaQ.l0] at H
   by_cases c3 : x5_1 ≥ 0
   ·rw [if_pos c3] at H
    have c3b0 : decide (0 ≤ x5_1) = true := decide_eq_true c3
    clear c3
    by_cases c4 : 0 ≤ x5_1
    ·rw [if_pos c4] at H
     have c4b0 : decide (0 ≤ x5_1) = true := decide_eq_true c4
     clear c4
     by_cases c5 : x5_1 < (l0.length : Int)
     ·rw [if_pos c5] at H
      have c5b0 : decide (x5_1 < (l0.length : Int)) = true := decide_eq_true c5
      clear c5
      replace H := Option.bind_eq_some_iff.mp H
      obtain ⟨t135,A60,H⟩ := H
      replace H : (if t135 = true then (some x5_1) else (zaQ.l0 k1 l0 a1 (wrap64 (x5_1 - 1)))) = some r := H
      have A6 := za.mk A60
      clear A60
      by_cases c7 : t135 = true
      ·subst c7
       have H1 : (some x5_1) = some r := by rw [if_pos rfl] at H; exact H
       clear H
       have H := H1
       clear H1
       obtain rfl := Option.some.inj H
       have p134 : 0 ≤ (x5_1 : Int) := of_decide_eq_true qd
       have q134 : x5_1 < (l0.length : Int) := of_decide_eq_true qd
       obtain ⟨ad134,A134_0,c134_0,e134,hx134_0,hl134_0,hi134_0⟩ := ze4 HR0.out x5_1 p134 q134
       cases e134
       have HR134_0 := za.mk hi134_0
       have HC134_0 := za.mk hl134_0
       clear hi134_0 hl134_0
       replace p134 := eq_true p134
       replace q134 := eq_true q134
       go_wp2_with (first | ((with_reducible refine zA (f := 74) rfl ?_); refine zW (some 18) rfl rfl Try.func74 qg rfl #[.slice A134_0 (zb2 l0 x5_1).length c134_0, .string a1] rfl qb ?_; (with_reducible refine (zaG.calls k1 _ _ (zb2 l0 x5_1) a1 true _ ?side1 ?side2 A6.out).mono ?_); (case side1 => exact qe HR134_0.out); (case side2 => exact HC134_0.out); rintro e w' ⟨rfl,⟨nd,rfl⟩⟩; refine ⟨_,rfl,?_⟩))
       go_ret
       exact ⟨by first | rfl | (simp; done) | (simp [*]; done),by repeat (first | exact zz.refl _ | apply zz.step)⟩
      ·replace c7 := Bool.eq_false_iff.mpr c7
       subst c7
       have H1 : (zaQ.l0 k1 l0 a1 (wrap64 (x5_1 - 1))) = some r := by rw [if_neg (show ¬ (false = true) by decide)] at H; exact H
       clear H
       have H := H1
       clear H1
       have H' := za.mk H
       clear H
       have p134 : 0 ≤ (x5_1 : Int) := of_decide_eq_true qd
       have q134 : x5_1 < (l0.length : Int) := of_decide_eq_true qd
       obtain ⟨ad134,A134_0,c134_0,e134,hx134_0,hl134_0,hi134_0⟩ := ze4 HR0.out x5_1 p134 q134
       cases e134
       have HR134_0 := za.mk hi134_0
       have HC134_0 := za.mk hl134_0
       clear hi134_0 hl134_0
       replace p134 := eq_true p134
       replace q134 := eq_true q134
       go_wp2_with (first | ((with_reducible refine zA (f := 74) rfl ?_); refine zW (some 18) rfl rfl Try.func74 qg rfl #[.slice A134_0 (zb2 l0 x5_1).length c134_0, .string a1] rfl qb ?_; (with_reducible refine (zaG.calls k1 _ _ (zb2 l0 x5_1) a1 false _ ?side1 ?side2 A6.out).mono ?_); (case side1 => exact qe HR134_0.out); (case side2 => exact HC134_0.out); rintro e w' ⟨rfl,⟨nd,rfl⟩⟩; refine ⟨_,rfl,?_⟩))
       go_roundg k1
       case measure => have := HK1.out; omega
       case rel => exact ⟨(wrap64 (x5_1 - 1)),qm,H',⟨by have := HK1.out; omega⟩,by repeat (first | exact zz.refl _ | apply zz.step)⟩
     ·rw [if_neg c5] at H
      exact absurd H qC
    ·rw [if_neg c4] at H
     exact absurd H qC
   ·rw [if_neg c3] at H
    have c3b0 : decide (0 ≤ x5_1) = false := decide_eq_false c3
    clear c3
    obtain rfl := Option.some.inj H
    go_wp2
    go_ret
    exact ⟨by first | rfl | (simp; done) | (simp [*]; done),by repeat (first | exact zz.refl _ | apply zz.step)⟩
mutual
def zQ.l0 : Nat → List ByteArray → List ByteArray → List Int → Int → Option (Int)
 | 0,_,_,_,_ => none
 | k + 1,x0,x1,x5,x6 => if x6 < (x0.length : Int) then (zQ.l1 k x0 x1 x5 x6 0 0) else (if 0 ≤ (x1.length : Int) then (if (x1.length : Int) < (x5.length : Int) then (some (rd x5 (x1.length : Int))) else (none)) else (none))
def zQ.l1 : Nat → List ByteArray → List ByteArray → List Int → Int → Int → Int → Option (Int)
 | 0,_,_,_,_,_,_ => none
 | k + 1,x0,x1,x5,x6,x7,x8 => if x8 < (x1.length : Int) then (if 0 ≤ (wrap64 (x8 + 1)) then (if (wrap64 (x8 + 1)) < (x5.length : Int) then (if 0 ≤ x6 then (if x6 < (x0.length : Int) then (if 0 ≤ x8 then (if (zaC ByteArray.empty x0 x6).toList = (zaC ByteArray.empty x1 x8).toList then (zQ.l1 k x0 x1 (x5.set ((wrap64 (x8 + 1)) : Int).toNat (wrap64 (x7 + 1))) x6 (rd x5 (wrap64 (x8 + 1))) (wrap64 (x8 + 1))) else (if x8 < (x5.length : Int) then (zQ.l1 k x0 x1 (x5.set ((wrap64 (x8 + 1)) : Int).toNat (mx (rd x5 (wrap64 (x8 + 1))) (rd x5 x8))) x6 (rd x5 (wrap64 (x8 + 1))) (wrap64 (x8 + 1))) else (none))) else (none)) else (none)) else (none)) else (none)) else (none)) else (zQ.l0 k x0 x1 x5 (wrap64 (x6 + 1)))
end
def zQ.f (k : Nat) (l0 : List ByteArray) (l1 : List ByteArray) : Option (Int) := if 0 ≤ (wrap64 ((l1.length : Int) + 1)) then (if (wrap64 ((l1.length : Int) + 1) : Int).toNat ≤ 35184372088832 then (zQ.l0 k l0 l1 (List.replicate (wrap64 ((l1.length : Int) + 1) : Int).toNat 0) 0) else (none)) else (none)
set_option maxHeartbeats 8000000 in
set_option maxRecDepth 100000 in
theorem zQ.calls (k : Nat) (A0 : Option Addr) (c0 : Nat) (l0 : List ByteArray) (A1 : Option Addr) (c1 : Nat) (l1 : List ByteArray) (r : Int) (w : World) (hr0 : Kd.C Kd.string w A0 l0.length l0) (hc0 : l0.length ≤ c0) (hr1 : Kd.C Kd.string w A1 l1.length l1) (hc1 : l1.length ≤ c1) (h : zQ.f k l0 l1 = some r) :
  Calls Try.prog 43 #[.slice A0 l0.length c0, .slice A1 l1.length c1] w fun e w' => e = .returned (.int .i64 r) ∧ Below w.heap.size w w' := by
 have HR0 := za.mk hr0
 have HC0 := za.mk hc0
 clear hr0 hc0
 have HR1 := za.mk hr1
 have HC1 := za.mk hc1
 clear hr1 hc1
 have HB := za.mk (Below.refl w.heap.size w)
 have H : (if 0 ≤ (wrap64 ((l1.length : Int) + 1)) then (if (wrap64 ((l1.length : Int) + 1) : Int).toNat ≤ 35184372088832 then (zQ.l0 k l0 l1 (List.replicate (wrap64 ((l1.length : Int) + 1) : Int).toNat 0) 0) else (none)) else (none)) = some r := h
 clear h
 obtain ⟨ji3,hji3⟩ : ∃ j_ : Int,(wrap64 ((l1.length : Int) + 1)) = j_ := ⟨_,rfl⟩
 replace H : (if 0 ≤ (ji3) then (if (ji3 : Int).toNat ≤ 35184372088832 then (zQ.l0 k l0 l1 (List.replicate (ji3 : Int).toNat 0) 0) else (none)) else (none)) = some r := by first | (rw [hji3] at H; exact H) | (simp only [hji3] at H ⊢; exact H)
 have hji3w : (IntKind.i64.wrap ((l1.length : Int) + 1)) = ji3 := (zS _).trans hji3
 by_cases c4 : 0 ≤ (ji3)
 ·rw [if_pos c4] at H
  have c4b0 := eq_true c4
  have c4b1 : decide (0 ≤ (ji3)) = true := decide_eq_true c4
  clear c4
  by_cases c5 : (ji3 : Int).toNat ≤ 35184372088832
  ·rw [if_pos c5] at H
   have c5b0 := eq_true c5
   have c5b1 : decide ((ji3 : Int).toNat ≤ 35184372088832) = true := decide_eq_true c5
   clear c5
   obtain ⟨y534,hy534⟩ : ∃ y_ : List Int,y_ = (List.replicate (ji3 : Int).toNat 0) := ⟨_,rfl⟩
   replace H : (zQ.l0 k l0 l1 y534 0) = some r := by first | (rw [hy534]; with_reducible exact H) | (have H2_ := (Option.bind_some _ _).symm.trans H; rw [hy534]; with_reducible exact H2_) | (have H2_ := (Option.bind_some _ _).symm.trans H; with_reducible exact H2_) | with_reducible exact H | (rw [hy534]; exact H) | exact H
   have Ny534 := za.mk hy534
   clear hy534
   have H' := za.mk H
   clear H
   go_enter Try.func43,Try.ntmps43
   go_wp2_with (first | ((with_reducible refine zaa (N := 13) rfl ?_); refine Kd.zfV (Kd.int .i64) _ 3 rfl (N := 13) rfl 23 _ _ rfl ji3 rfl rfl Try.underlying23 (.int .i64 0) 8 info3 rfl qq ql 0 (ok := fun _ => True) (okp := fun _ => True) rfl (fun _ hk => hk) trivial (of_decide_eq_true qd) (Nat.le_trans (Nat.mul_le_mul_right _ (of_decide_eq_true qd : ji3.toNat ≤ 35184372088832)) ql) (Below.refl _ _) (Nat.le_refl _) ?_; intro v535 w6 ho7 hb hg_ hnew_; clear hg_ hnew_; (first | rw [← Ny534.out] at ho7 | (simp only [Int.reduceToNat] at ho7; rw [← Ny534.out] at ho7)); have n0_ := za.mk (Kd.zaO ho7 (zy (qc HB.out))); have n1_ := za.mk (zo (qc HB.out) hb); clear HB; have HO536 := n0_; have HB := n1_; clear n0_ n1_; clear hb ho7))
   repeat (go_quiet (first | ((with_reducible refine zaa (N := 13) rfl ?_); refine Kd.zfV (Kd.int .i64) _ 3 rfl (N := 13) rfl 23 _ _ rfl ji3 rfl rfl Try.underlying23 (.int .i64 0) 8 info3 rfl qq ql 0 (ok := fun _ => True) (okp := fun _ => True) rfl (fun _ hk => hk) trivial (of_decide_eq_true qd) (Nat.le_trans (Nat.mul_le_mul_right _ (of_decide_eq_true qd : ji3.toNat ≤ 35184372088832)) ql) (Below.refl _ _) (Nat.le_refl _) ?_; intro v535 w6 ho7 hb hg_ hnew_; clear hg_ hnew_; (first | rw [← Ny534.out] at ho7 | (simp only [Int.reduceToNat] at ho7; rw [← Ny534.out] at ho7)); have n0_ := za.mk (Kd.zaO ho7 (zy (qc HB.out))); have n1_ := za.mk (zo (qc HB.out) hb); clear HB; have HO536 := n0_; have HB := n1_; clear n0_ n1_; clear hb ho7)); try go_wp2_with (first | ((with_reducible refine zaa (N := 13) rfl ?_); refine Kd.zfV (Kd.int .i64) _ 3 rfl (N := 13) rfl 23 _ _ rfl ji3 rfl rfl Try.underlying23 (.int .i64 0) 8 info3 rfl qq ql 0 (ok := fun _ => True) (okp := fun _ => True) rfl (fun _ hk => hk) trivial (of_decide_eq_true qd) (Nat.le_trans (Nat.mul_le_mul_right _ (of_decide_eq_true qd : ji3.toNat ≤ 35184372088832)) ql) (Below.refl _ _) (Nat.le_refl _) ?_; intro v535 w6 ho7 hb hg_ hnew_; clear hg_ hnew_; (first | rw [← Ny534.out] at ho7 | (simp only [Int.reduceToNat] at ho7; rw [← Ny534.out] at ho7)); have n0_ := za.mk (Kd.zaO ho7 (zy (qc HB.out))); have n1_ := za.mk (zo (qc HB.out) hb); clear HB; have HO536 := n0_; have HB := n1_; clear n0_ n1_; clear hb ho7)))
   go_loopg [6] k (fun kq v6 w' => ∃ (x5_1 : List Int) (x6_1 : Int),v6 = .int .i64 x6_1 ∧ za (zQ.l0 kq l0 l1 x5_1 x6_1 = some r) ∧ za (kq ≤ k) ∧ za (Kd.R (Kd.int .i64) 3 w' w.heap.size (fun _ => True) v535 x5_1) ∧ za (Below w.heap.size w w'))
   case atStart => exact ⟨(y534),(0),qm,H',⟨Nat.le_refl _⟩,⟨by (with_reducible repeat (first | apply Kd.zaE | apply Kd.zau | apply Kd.zaJ)); exact HO536.out⟩,⟨by repeat (first | (with_reducible first | exact HB.out | apply ze | apply zb | apply zg) | exact HB.out)⟩⟩
   case round =>
    clear H'
    try clear c1
    try clear p2
    try clear c4
    try clear c4b0
    try clear c4b1
    try clear c5
    try clear c5b0
    try clear c5b1
    try clear p6
    obtain ⟨x5_1,x6_1,rfl,HA,HK1,HO_5,HB⟩ := hrel
    cases gk with
    | zero => exact absurd HA.out (by simp [zQ.l0])
    | succ k1 =>
     have H := HA.out
     clear HA
     simp only [zQ.l0] at H
     by_cases c8 : x6_1 < (l0.length : Int)
     ·rw [if_pos c8] at H
      have c8b0 : decide (x6_1 < (l0.length : Int)) = true := decide_eq_true c8
      clear c8
      have H' := za.mk H
      clear H
      go_wp2
      repeat (go_quiet (fail); try go_wp2)
      go_loopg [7,8] k1 (fun kq v7 v8 w' => ∃ (x5_2 : List Int) (x7_2 : Int) (x8_2 : Int),v7 = .int .i64 x7_2 ∧ v8 = .int .i64 x8_2 ∧ za (zQ.l1 kq l0 l1 x5_2 x6_1 x7_2 x8_2 = some r) ∧ za (kq ≤ k1) ∧ za (Kd.R (Kd.int .i64) 3 w' w.heap.size (fun _ => True) v535 x5_2) ∧ za (Below w.heap.size w w'))
      case atStart => exact ⟨(x5_1),(0),(0),qm,qm,H',⟨Nat.le_refl _⟩,⟨by (with_reducible repeat (first | apply Kd.zaE | apply Kd.zau | apply Kd.zaJ)); exact HO_5.out⟩,⟨by repeat (first | (with_reducible first | exact HB.out | apply ze | apply zb | apply zg) | exact HB.out)⟩⟩
      case round =>
       clear H'
       try clear c1
       try clear p2
       try clear c4
       try clear c4b0
       try clear c4b1
       try clear c5
       try clear c5b0
       try clear c5b1
       try clear p6
       try clear c8
       try clear c8b0
       try clear p2
       try clear p6
       obtain ⟨x5_2,x7_2,x8_2,rfl,rfl,HA,HK2,HO_5,HB⟩ := hrel
       cases gk with
       | zero => exact absurd HA.out (by simp [zQ.l1])
       | succ k2 =>
        have H := HA.out
        clear HA
        simp only [zQ.l1] at H
        by_cases c9 : x8_2 < (l1.length : Int)
        ·rw [if_pos c9] at H
         have c9b0 : decide (x8_2 < (l1.length : Int)) = true := decide_eq_true c9
         clear c9
         obtain ⟨ji10,hji10⟩ : ∃ j_ : Int,(wrap64 (x8_2 + 1)) = j_ := ⟨_,rfl⟩
         replace H : (if 0 ≤ (ji10) then (if (ji10) < (x5_2.length : Int) then (if 0 ≤ x6_1 then (if x6_1 < (l0.length : Int) then (if 0 ≤ x8_2 then (if (zaC ByteArray.empty l0 x6_1).toList = (zaC ByteArray.empty l1 x8_2).toList then (zQ.l1 k2 l0 l1 (x5_2.set ((ji10) : Int).toNat (wrap64 (x7_2 + 1))) x6_1 (rd x5_2 (ji10)) ji10) else (if x8_2 < (x5_2.length : Int) then (zQ.l1 k2 l0 l1 (x5_2.set ((ji10) : Int).toNat (mx (rd x5_2 (ji10)) (rd x5_2 x8_2))) x6_1 (rd x5_2 (ji10)) ji10) else (none))) else (none)) else (none)) else (none)) else (none)) else (none)) = some r := by first | (rw [hji10] at H; exact H) | (simp only [hji10] at H ⊢; exact H)
         have hji10w : (IntKind.i64.wrap (x8_2 + 1)) = ji10 := (zS _).trans hji10
         by_cases c11 : 0 ≤ (ji10)
         ·rw [if_pos c11] at H
          have c11b0 : decide (0 ≤ (ji10)) = true := decide_eq_true c11
          clear c11
          by_cases c12 : (ji10) < (x5_2.length : Int)
          ·rw [if_pos c12] at H
           have c12b0 : decide ((ji10) < (x5_2.length : Int)) = true := decide_eq_true c12
           clear c12
           by_cases c13 : 0 ≤ x6_1
           ·rw [if_pos c13] at H
            have c13b0 : decide (0 ≤ x6_1) = true := decide_eq_true c13
            clear c13
            by_cases c14 : x6_1 < (l0.length : Int)
            ·rw [if_pos c14] at H
             have c14b0 : decide (x6_1 < (l0.length : Int)) = true := decide_eq_true c14
             clear c14
             by_cases c15 : 0 ≤ x8_2
             ·rw [if_pos c15] at H
              have c15b0 : decide (0 ≤ x8_2) = true := decide_eq_true c15
              clear c15
              by_cases c16 : (zaC ByteArray.empty l0 x6_1).toList = (zaC ByteArray.empty l1 x8_2).toList
              ·rw [if_pos c16] at H
               have c16b0 : ((zaC ByteArray.empty l0 x6_1).toList == (zaC ByteArray.empty l1 x8_2).toList) = true := beq_iff_eq.mpr c16
               have c16b1 : ((zaC ByteArray.empty l0 x6_1).toList != (zaC ByteArray.empty l1 x8_2).toList) = false := bne_eq_false_iff_eq.mpr c16
               clear c16
               obtain ⟨y541,hy541⟩ : ∃ y_ : List Int,y_ = (x5_2.set ((ji10) : Int).toNat (wrap64 (x7_2 + 1))) := ⟨_,rfl⟩
               replace H : (zQ.l1 k2 l0 l1 y541 x6_1 (rd x5_2 (ji10)) ji10) = some r := by first | (rw [hy541]; with_reducible exact H) | (have H2_ := (Option.bind_some _ _).symm.trans H; rw [hy541]; with_reducible exact H2_) | (have H2_ := (Option.bind_some _ _).symm.trans H; with_reducible exact H2_) | with_reducible exact H | (rw [hy541]; exact H) | exact H
               have Ny541 := za.mk hy541
               clear hy541
               have H' := za.mk H
               clear H
               obtain ⟨Ao18,co18,eo18⟩ := Kd.zbc HO_5.out
               subst eo18
               have p538 : 0 ≤ ((ji10) : Int) := of_decide_eq_true qd
               have q538 : (ji10) < (x5_2.length : Int) := of_decide_eq_true qd
               obtain ⟨ad538,e538,hx538_0⟩ := Kd.zch (Kd.zbd HO_5.out).2.2 (ji10) p538 q538
               cases e538
               replace p538 := eq_true p538
               replace q538 := eq_true q538
               have p539 : 0 ≤ (x6_1 : Int) := of_decide_eq_true qd
               have q539 : x6_1 < (l0.length : Int) := of_decide_eq_true qd
               obtain ⟨ad539,e539,hx539_0⟩ := Kd.zaV HR0.out x6_1 p539 q539
               cases e539
               replace hx539_0 := (HB.out.cell (World.block_lt_of_cell? w _ hx539_0)).trans hx539_0
               replace p539 := eq_true p539
               replace q539 := eq_true q539
               have p540 : 0 ≤ (x8_2 : Int) := of_decide_eq_true qd
               have q540 : x8_2 < (l1.length : Int) := of_decide_eq_true qd
               obtain ⟨ad540,e540,hx540_0⟩ := Kd.zaV HR1.out x8_2 p540 q540
               cases e540
               replace hx540_0 := (HB.out.cell (World.block_lt_of_cell? w _ hx540_0)).trans hx540_0
               replace p540 := eq_true p540
               replace q540 := eq_true q540
               have p17 : 0 ≤ ((ji10) : Int) := of_decide_eq_true qd
               have q17 : ((ji10) : Int) < ((x5_2.length : Int) : Int) := of_decide_eq_true qd
               obtain ⟨go17,co17,eo17,gb17,gl17,cl17,HG17⟩ := Kd.zhu HO_5.out ql
               (first | cases eo17 | (injection eo17 with ea_ en_ ec_; (first | subst ea_ | (injection ea_ with ea_; subst ea_)); subst ec_; clear en_))
               have GB17 := za.mk gb17
               have GG17 := za.mk HG17
               clear gb17 gl17 HG17
               (first | simp only [add_plain] at hx538_0 | skip)
               obtain ⟨hx17_0,hf17_0⟩ := Kd.zgQ 0 HO_5.out ((ji10) : Int) p17 q17
               replace p17 := eq_true p17
               replace q17 := eq_true q17
               have HP19 := Kd.zcf HO_5.out ((ji10) : Int) (wrap64 (x7_2 + 1))
               go_wp2_with (first | ((with_reducible refine zcA (t := 3) (p := 45) rfl ?_); (try (rw [zcB wr]; generalize hq_ : World.drewN wr _ = wr; have n0_ := za.mk (Kd.zfp hq_ HO_5.out); have n1_ := za.mk (zcZ hq_ HB.out); clear hq_ HO_5 HB; have HO_5 := n0_; have HB := n1_; clear n0_ n1_; (try (have HP19 := Kd.zcf HO_5.out ((ji10) : Int) (wrap64 (x7_2 + 1)))))); refine zcm (t := 3) (p := 45) (v := ?vo_w20) (w1 := (wr.setCell ⟨go17,((ji10) : Int).toNat,none⟩ (.int .i64 (wrap64 (x7_2 + 1))))) ?hg ?ho ?hn ?hr ?_; (case ho => rfl); (case hg => rfl); (case hn => rfl); (case hr => exact qk); intro w20 hw; have hg : wr.grownBy w20 (some go17) := (by rw [hw]; exact HP19.2); have hp_ : Kd.R (Kd.int .i64) 3 w20 w.heap.size (fun _ => True) (.slice (some ⟨go17,0,none⟩) x5_2.length co18) y541 := (by rw [hw,Ny541.out]; exact HP19.1); clear HP19; have n0_ := za.mk (hp_); have n1_ := za.mk ((by rw [hw]; exact zh (HB.out) GB17.out : Below w.heap.size w w20)); clear HO_5; clear HB; have HO_5 := n0_; have HB := n1_; clear n0_ n1_; clear hg hw hp_))
               repeat (go_quiet (first | ((with_reducible refine zcA (t := 3) (p := 45) rfl ?_); (try (rw [zcB wr]; generalize hq_ : World.drewN wr _ = wr; have n0_ := za.mk (Kd.zfp hq_ HO_5.out); have n1_ := za.mk (zcZ hq_ HB.out); clear hq_ HO_5 HB; have HO_5 := n0_; have HB := n1_; clear n0_ n1_; (try (have HP19 := Kd.zcf HO_5.out ((ji10) : Int) (wrap64 (x7_2 + 1)))))); refine zcm (t := 3) (p := 45) (v := ?vo_w20) (w1 := (wr.setCell ⟨go17,((ji10) : Int).toNat,none⟩ (.int .i64 (wrap64 (x7_2 + 1))))) ?hg ?ho ?hn ?hr ?_; (case ho => rfl); (case hg => rfl); (case hn => rfl); (case hr => exact qk); intro w20 hw; have hg : wr.grownBy w20 (some go17) := (by rw [hw]; exact HP19.2); have hp_ : Kd.R (Kd.int .i64) 3 w20 w.heap.size (fun _ => True) (.slice (some ⟨go17,0,none⟩) x5_2.length co18) y541 := (by rw [hw,Ny541.out]; exact HP19.1); clear HP19; have n0_ := za.mk (hp_); have n1_ := za.mk ((by rw [hw]; exact zh (HB.out) GB17.out : Below w.heap.size w w20)); clear HO_5; clear HB; have HO_5 := n0_; have HB := n1_; clear n0_ n1_; clear hg hw hp_)); try go_wp2_with (first | ((with_reducible refine zcA (t := 3) (p := 45) rfl ?_); (try (rw [zcB wr]; generalize hq_ : World.drewN wr _ = wr; have n0_ := za.mk (Kd.zfp hq_ HO_5.out); have n1_ := za.mk (zcZ hq_ HB.out); clear hq_ HO_5 HB; have HO_5 := n0_; have HB := n1_; clear n0_ n1_; (try (have HP19 := Kd.zcf HO_5.out ((ji10) : Int) (wrap64 (x7_2 + 1)))))); refine zcm (t := 3) (p := 45) (v := ?vo_w20) (w1 := (wr.setCell ⟨go17,((ji10) : Int).toNat,none⟩ (.int .i64 (wrap64 (x7_2 + 1))))) ?hg ?ho ?hn ?hr ?_; (case ho => rfl); (case hg => rfl); (case hn => rfl); (case hr => exact qk); intro w20 hw; have hg : wr.grownBy w20 (some go17) := (by rw [hw]; exact HP19.2); have hp_ : Kd.R (Kd.int .i64) 3 w20 w.heap.size (fun _ => True) (.slice (some ⟨go17,0,none⟩) x5_2.length co18) y541 := (by rw [hw,Ny541.out]; exact HP19.1); clear HP19; have n0_ := za.mk (hp_); have n1_ := za.mk ((by rw [hw]; exact zh (HB.out) GB17.out : Below w.heap.size w w20)); clear HO_5; clear HB; have HO_5 := n0_; have HB := n1_; clear n0_ n1_; clear hg hw hp_)))
               go_roundg k2
               case measure => have := HK1.out; have := HK2.out; omega
               case rel => exact ⟨(y541),(rd x5_2 (ji10)),(ji10),qJ,qJ,H',⟨by have := HK1.out; have := HK2.out; omega⟩,⟨by first | exact HO_5.out | (rw [Ny541.out]; exact (Kd.zcf (Kd.zau HO_5.out _) ((ji10) : Int) (wrap64 (x7_2 + 1))).1) | (rw [Ny541.out]; exact (Kd.zcf HO_5.out ((ji10) : Int) (wrap64 (x7_2 + 1))).1)⟩,⟨by first | exact HB.out | exact zh (zb HB.out _) GB17.out | exact zh HB.out GB17.out⟩⟩
              ·rw [if_neg c16] at H
               have c16b0 : ((zaC ByteArray.empty l0 x6_1).toList == (zaC ByteArray.empty l1 x8_2).toList) = false := beq_eq_false_iff_ne.mpr c16
               have c16b1 : ((zaC ByteArray.empty l0 x6_1).toList != (zaC ByteArray.empty l1 x8_2).toList) = true := bne_iff_ne.mpr c16
               by_cases c21 : x8_2 < (x5_2.length : Int)
               ·rw [if_pos c21] at H
                have c21b0 : decide (x8_2 < (x5_2.length : Int)) = true := decide_eq_true c21
                clear c21
                obtain ⟨ji22,hji22⟩ : ∃ j_ : Int,(mx (rd x5_2 (ji10)) (rd x5_2 x8_2)) = j_ := ⟨_,rfl⟩
                replace H : (zQ.l1 k2 l0 l1 (x5_2.set ((ji10) : Int).toNat (ji22)) x6_1 (rd x5_2 (ji10)) ji10) = some r := by first | (rw [hji22] at H; exact H) | (simp only [hji22] at H ⊢; exact H)
                have hji22_ : (if (rd x5_2 (ji10)) < (rd x5_2 x8_2) then (rd x5_2 x8_2) else (rd x5_2 (ji10))) = ji22 := hji22
                obtain ⟨y543,hy543⟩ : ∃ y_ : List Int,y_ = (x5_2.set ((ji10) : Int).toNat (ji22)) := ⟨_,rfl⟩
                replace H : (zQ.l1 k2 l0 l1 y543 x6_1 (rd x5_2 (ji10)) ji10) = some r := by first | (rw [hy543]; with_reducible exact H) | (have H2_ := (Option.bind_some _ _).symm.trans H; rw [hy543]; with_reducible exact H2_) | (have H2_ := (Option.bind_some _ _).symm.trans H; with_reducible exact H2_) | with_reducible exact H | (rw [hy543]; exact H) | exact H
                have Ny543 := za.mk hy543
                clear hy543
                have H' := za.mk H
                clear H
                obtain ⟨Ao24,co24,eo24⟩ := Kd.zbc HO_5.out
                subst eo24
                have p538 : 0 ≤ ((ji10) : Int) := of_decide_eq_true qd
                have q538 : (ji10) < (x5_2.length : Int) := of_decide_eq_true qd
                obtain ⟨ad538,e538,hx538_0⟩ := Kd.zch (Kd.zbd HO_5.out).2.2 (ji10) p538 q538
                cases e538
                replace p538 := eq_true p538
                replace q538 := eq_true q538
                have p539 : 0 ≤ (x6_1 : Int) := of_decide_eq_true qd
                have q539 : x6_1 < (l0.length : Int) := of_decide_eq_true qd
                obtain ⟨ad539,e539,hx539_0⟩ := Kd.zaV HR0.out x6_1 p539 q539
                cases e539
                replace hx539_0 := (HB.out.cell (World.block_lt_of_cell? w _ hx539_0)).trans hx539_0
                replace p539 := eq_true p539
                replace q539 := eq_true q539
                have p540 : 0 ≤ (x8_2 : Int) := of_decide_eq_true qd
                have q540 : x8_2 < (l1.length : Int) := of_decide_eq_true qd
                obtain ⟨ad540,e540,hx540_0⟩ := Kd.zaV HR1.out x8_2 p540 q540
                cases e540
                replace hx540_0 := (HB.out.cell (World.block_lt_of_cell? w _ hx540_0)).trans hx540_0
                replace p540 := eq_true p540
                replace q540 := eq_true q540
                have p542 : 0 ≤ (x8_2 : Int) := of_decide_eq_true qd
                have q542 : x8_2 < (x5_2.length : Int) := of_decide_eq_true qd
                obtain ⟨ad542,e542,hx542_0⟩ := Kd.zch (Kd.zbd HO_5.out).2.2 x8_2 p542 q542
                obtain rfl : ad538 = ad542 := (by injection e542)
                replace p542 := eq_true p542
                replace q542 := eq_true q542
                have p23 : 0 ≤ ((ji10) : Int) := of_decide_eq_true qd
                have q23 : ((ji10) : Int) < ((x5_2.length : Int) : Int) := of_decide_eq_true qd
                obtain ⟨go23,co23,eo23,gb23,gl23,cl23,HG23⟩ := Kd.zhu HO_5.out ql
                (first | cases eo23 | (injection eo23 with ea_ en_ ec_; (first | subst ea_ | (injection ea_ with ea_; subst ea_)); subst ec_; clear en_))
                have GB23 := za.mk gb23
                have GG23 := za.mk HG23
                clear gb23 gl23 HG23
                (first | simp only [add_plain] at hx538_0 | skip)
                (first | simp only [add_plain] at hx542_0 | skip)
                obtain ⟨hx23_0,hf23_0⟩ := Kd.zgQ 0 HO_5.out ((ji10) : Int) p23 q23
                replace p23 := eq_true p23
                replace q23 := eq_true q23
                have HP25 := Kd.zcf HO_5.out ((ji10) : Int) ji22
                go_wp2_with (first | ((with_reducible refine zcA (t := 3) (p := 55) rfl ?_); (try (rw [zcB wr]; generalize hq_ : World.drewN wr _ = wr; have n0_ := za.mk (Kd.zfp hq_ HO_5.out); have n1_ := za.mk (zcZ hq_ HB.out); clear hq_ HO_5 HB; have HO_5 := n0_; have HB := n1_; clear n0_ n1_; (try (have HP25 := Kd.zcf HO_5.out ((ji10) : Int) ji22)))); refine zcm (t := 3) (p := 55) (v := ?vo_w26) (w1 := (wr.setCell ⟨go23,((ji10) : Int).toNat,none⟩ (.int .i64 ji22))) ?hg ?ho ?hn ?hr ?_; (case ho => rfl); (case hg => rfl); (case hn => rfl); (case hr => exact qk); intro w26 hw; have hg : wr.grownBy w26 (some go23) := (by rw [hw]; exact HP25.2); have hp_ : Kd.R (Kd.int .i64) 3 w26 w.heap.size (fun _ => True) (.slice (some ⟨go23,0,none⟩) x5_2.length co24) y543 := (by rw [hw,Ny543.out]; exact HP25.1); clear HP25; have n0_ := za.mk (hp_); have n1_ := za.mk ((by rw [hw]; exact zh (HB.out) GB23.out : Below w.heap.size w w26)); clear HO_5; clear HB; have HO_5 := n0_; have HB := n1_; clear n0_ n1_; clear hg hw hp_))
                repeat (go_quiet (first | ((with_reducible refine zcA (t := 3) (p := 55) rfl ?_); (try (rw [zcB wr]; generalize hq_ : World.drewN wr _ = wr; have n0_ := za.mk (Kd.zfp hq_ HO_5.out); have n1_ := za.mk (zcZ hq_ HB.out); clear hq_ HO_5 HB; have HO_5 := n0_; have HB := n1_; clear n0_ n1_; (try (have HP25 := Kd.zcf HO_5.out ((ji10) : Int) ji22)))); refine zcm (t := 3) (p := 55) (v := ?vo_w26) (w1 := (wr.setCell ⟨go23,((ji10) : Int).toNat,none⟩ (.int .i64 ji22))) ?hg ?ho ?hn ?hr ?_; (case ho => rfl); (case hg => rfl); (case hn => rfl); (case hr => exact qk); intro w26 hw; have hg : wr.grownBy w26 (some go23) := (by rw [hw]; exact HP25.2); have hp_ : Kd.R (Kd.int .i64) 3 w26 w.heap.size (fun _ => True) (.slice (some ⟨go23,0,none⟩) x5_2.length co24) y543 := (by rw [hw,Ny543.out]; exact HP25.1); clear HP25; have n0_ := za.mk (hp_); have n1_ := za.mk ((by rw [hw]; exact zh (HB.out) GB23.out : Below w.heap.size w w26)); clear HO_5; clear HB; have HO_5 := n0_; have HB := n1_; clear n0_ n1_; clear hg hw hp_)); try go_wp2_with (first | ((with_reducible refine zcA (t := 3) (p := 55) rfl ?_); (try (rw [zcB wr]; generalize hq_ : World.drewN wr _ = wr; have n0_ := za.mk (Kd.zfp hq_ HO_5.out); have n1_ := za.mk (zcZ hq_ HB.out); clear hq_ HO_5 HB; have HO_5 := n0_; have HB := n1_; clear n0_ n1_; (try (have HP25 := Kd.zcf HO_5.out ((ji10) : Int) ji22)))); refine zcm (t := 3) (p := 55) (v := ?vo_w26) (w1 := (wr.setCell ⟨go23,((ji10) : Int).toNat,none⟩ (.int .i64 ji22))) ?hg ?ho ?hn ?hr ?_; (case ho => rfl); (case hg => rfl); (case hn => rfl); (case hr => exact qk); intro w26 hw; have hg : wr.grownBy w26 (some go23) := (by rw [hw]; exact HP25.2); have hp_ : Kd.R (Kd.int .i64) 3 w26 w.heap.size (fun _ => True) (.slice (some ⟨go23,0,none⟩) x5_2.length co24) y543 := (by rw [hw,Ny543.out]; exact HP25.1); clear HP25; have n0_ := za.mk (hp_); have n1_ := za.mk ((by rw [hw]; exact zh (HB.out) GB23.out : Below w.heap.size w w26)); clear HO_5; clear HB; have HO_5 := n0_; have HB := n1_; clear n0_ n1_; clear hg hw hp_)))
                go_roundg k2
                case measure => have := HK1.out; have := HK2.out; omega
                case rel => exact ⟨(y543),(rd x5_2 (ji10)),(ji10),qJ,qJ,H',⟨by have := HK1.out; have := HK2.out; omega⟩,⟨by first | exact HO_5.out | (rw [Ny543.out]; exact (Kd.zcf (Kd.zau HO_5.out _) ((ji10) : Int) ji22).1) | (rw [Ny543.out]; exact (Kd.zcf HO_5.out ((ji10) : Int) ji22).1)⟩,⟨by first | exact HB.out | exact zh (zb HB.out _) GB23.out | exact zh HB.out GB23.out⟩⟩
               ·rw [if_neg c21] at H
                exact absurd H qC
             ·rw [if_neg c15] at H
              exact absurd H qC
            ·rw [if_neg c14] at H
             exact absurd H qC
           ·rw [if_neg c13] at H
            exact absurd H qC
          ·rw [if_neg c12] at H
           exact absurd H qC
         ·rw [if_neg c11] at H
          exact absurd H qC
        ·rw [if_neg c9] at H
         have c9b0 : decide (x8_2 < (l1.length : Int)) = false := decide_eq_false c9
         clear c9
         have H' := za.mk H
         clear H
         go_wp2
         repeat (go_quiet (fail); try go_wp2)
         go_roundg k2
         case measure => have := HK1.out; have := HK2.out; omega
         case rel => exact ⟨(x5_2),(wrap64 (x6_1 + 1)),qm,H',⟨by have := HK1.out; have := HK2.out; omega⟩,⟨by (with_reducible repeat (first | apply Kd.zaE | apply Kd.zau | apply Kd.zaJ)); exact HO_5.out⟩,⟨by repeat (first | (with_reducible first | exact HB.out | apply ze | apply zb | apply zg) | exact HB.out)⟩⟩
     ·rw [if_neg c8] at H
      have c8b0 : decide (x6_1 < (l0.length : Int)) = false := decide_eq_false c8
      clear c8
      by_cases c27 : 0 ≤ (l1.length : Int)
      ·rw [if_pos c27] at H
       have c27b0 : decide (0 ≤ (l1.length : Int)) = true := decide_eq_true c27
       have c27b1 : decide (0 ≤ l1.length) = true := decide_eq_true ql
       clear c27
       by_cases c28 : (l1.length : Int) < (x5_1.length : Int)
       ·rw [if_pos c28] at H
        have c28b0 : decide ((l1.length : Int) < (x5_1.length : Int)) = true := decide_eq_true c28
        have c28b1 : decide (l1.length < x5_1.length) = true := decide_eq_true (Int.ofNat_lt.mp c28)
        clear c28
        obtain rfl := Option.some.inj H
        obtain ⟨Ao29,co29,eo29⟩ := Kd.zbc HO_5.out
        subst eo29
        have p537 : 0 ≤ ((l1.length : Int) : Int) := of_decide_eq_true qd
        have q537 : (l1.length : Int) < (x5_1.length : Int) := of_decide_eq_true qd
        obtain ⟨ad537,e537,hx537_0⟩ := Kd.zch (Kd.zbd HO_5.out).2.2 (l1.length : Int) p537 q537
        cases e537
        (try simp only [Go.IntWalk.toNatUp] at hx537_0)
        replace p537 := eq_true p537
        replace q537 := eq_true q537
        go_wp2
        repeat (go_quiet (fail); try go_wp2)
        go_ret
        exact ⟨by first | rfl | (simp [zw,zx] <;> rfl) | (simp only [← hji3]; first | rfl | (simp [zw,zx] <;> rfl)) | (simp [*,zw,zx] <;> rfl),by repeat (first | (with_reducible first | exact HB.out | apply ze | apply zb | apply zg) | exact HB.out)⟩
       ·rw [if_neg c28] at H
        exact absurd H qC
      ·rw [if_neg c27] at H
       exact absurd H qC
  ·rw [if_neg c5] at H
   exact absurd H qC
 ·rw [if_neg c4] at H
  exact absurd H qC
theorem flat_get {α : Type} (sz : Nat) (chunk : α → List Value) : ∀ (xs : List α),(∀ x ∈ xs,(chunk x).length = sz) → ∀ (j : Nat) (p : α),xs[j]? = some p → ∀ (i : Nat) (u : Value),(chunk p)[i]? = some u → (xs.flatMap chunk)[j * sz + i]? = some u
 | [],_,j,p,hj,_,_,_ => by simp at hj
 | x :: xs,hl,0,p,hj,i,u,hi => by
  simp only [List.getElem?_cons_zero,Option.some.injEq] at hj
  subst hj
  rw [List.flatMap_cons,Nat.zero_mul,Nat.zero_add,List.getElem?_append_left]
  ·exact hi
  ·exact (List.getElem?_eq_some_iff.1 hi).1
 | x :: xs,hl,j + 1,p,hj,i,u,hi => by
  rw [List.getElem?_cons_succ] at hj
  have hx := hl x List.mem_cons_self
  rw [List.flatMap_cons,List.getElem?_append_right (by rw [hx,Nat.succ_mul]; omega),hx]
  have e : (j + 1) * sz + i - sz = j * sz + i := by rw [Nat.succ_mul]; omega
  rw [e]
  exact flat_get sz chunk xs (fun y hy => hl y (List.mem_cons_of_mem _ hy)) j p hj i u hi
theorem zeg {α : Type} (d : Kd α) {W : World} {g e : Nat} {cs : Array Value} {xs : List α} (hb : W.heap[g]? = some (.cells cs e (0,0))) (chunk : α → List Value) (hK : ∀ x ∈ xs,d.K W x (chunk x)) (hcs : cs.toList = xs.flatMap chunk) (hmax : xs.length ≤ maxLen) : d.C W (some ⟨g,0,none⟩) xs.length xs := by
 refine ⟨rfl,hmax,fun _ => ⟨⟨g,0,none⟩,rfl,fun j p hj => ?_⟩⟩
 have hp := List.mem_of_getElem? hj
 refine ⟨chunk p,d.K_len (hK p hp),hK p hp,fun i u hi => ?_⟩
 have h1 := flat_get d.sz chunk xs (fun x hx => d.K_len (hK x hx)) j p hj i u hi
 rw [← hcs] at h1
 have h2 := World.news_of_block hb (j * d.sz + i) u h1
 exact h2
theorem zfi {W : World} {g : Nat} {xs : List ByteArray} {cs : Array Value} (hb : W.heap[g]? = some (.cells cs 9 (0,0))) (hcs : cs.toList = xs.flatMap fun x => [Value.string x]) (hmax : xs.length ≤ maxLen) : Kd.string.C W (some ⟨g,0,none⟩) xs.length xs :=
 zeg Kd.string hb (fun x => [Value.string x]) (fun _ _ => rfl) hcs hmax
theorem zhh {W : World} {g : Nat} {xs : List Int} {cs : Array Value} (hb : W.heap[g]? = some (.cells cs 3 (0,0))) (hcs : cs.toList = xs.flatMap fun x => [Value.int .i64 x]) (hmax : xs.length ≤ maxLen) : (Kd.int .i64).C W (some ⟨g,0,none⟩) xs.length xs :=
 zeg (Kd.int .i64) hb (fun x => [Value.int .i64 x]) (fun _ _ => rfl) hcs hmax
theorem zgG {W : World} {g : Nat} {xs : List S63} {cs : Array Value} (hb : W.heap[g]? = some (.cells cs 63 (0,0))) (hcs : cs.toList = xs.flatMap fun x => [Value.int .i64 x.f0, .int .i64 x.f1, .string x.f2]) (hmax : xs.length ≤ maxLen) : k63.C W (some ⟨g,0,none⟩) xs.length xs :=
 zeg k63 hb (fun x => [Value.int .i64 x.f0, .int .i64 x.f1, .string x.f2]) (fun x _ => zd1 W x) hcs hmax
theorem zaK {α : Type} {d : Kd α} {e : Nat} {w : World} {base : Nat} {ok : Nat → Prop} {A : Option Addr} {n c : Nat} {xs : List α} (h : d.R e w base ok (.slice A n c) xs) : d.C w A xs.length xs ∧ xs.length ≤ c := by
 obtain ⟨A',c',e1,hl,hC⟩ := Kd.zak h
 injection e1 with h1 _ h3
 subst h1; subst h3
 exact ⟨hC,hl⟩
def zbz.f  : Option (List ByteArray) := some (([(⟨#[97,110,110,97]⟩ : ByteArray),(⟨#[98,101,110]⟩ : ByteArray),(⟨#[99,121,100]⟩ : ByteArray)] : List ByteArray))
set_option maxHeartbeats 8000000 in
set_option maxRecDepth 100000 in
theorem zbz.calls  (r : List ByteArray) (w : World) (h : zbz.f  = some r) :
  Calls Try.prog 59 #[] w fun e w' => ∃ v0_ : Value,e = .returned (v0_) ∧ Kd.R Kd.string 9 w' w.heap.size (fun _ => True) v0_ r ∧ Below w.heap.size w w' := by
 have HB := za.mk (Below.refl w.heap.size w)
 have H : (some (([(⟨#[97,110,110,97]⟩ : ByteArray),(⟨#[98,101,110]⟩ : ByteArray),(⟨#[99,121,100]⟩ : ByteArray)] : List ByteArray))) = some r := h
 clear h
 obtain ⟨y163,hy163⟩ : ∃ y_ : List ByteArray,y_ = (([(⟨#[97,110,110,97]⟩ : ByteArray),(⟨#[98,101,110]⟩ : ByteArray),(⟨#[99,121,100]⟩ : ByteArray)] : List ByteArray)) := ⟨_,rfl⟩
 replace H : (some y163) = some r := by first | (rw [hy163]; with_reducible exact H) | (have H2_ := (Option.bind_some _ _).symm.trans H; rw [hy163]; with_reducible exact H2_) | (have H2_ := (Option.bind_some _ _).symm.trans H; with_reducible exact H2_) | with_reducible exact H | (rw [hy163]; exact H) | exact H
 have Ny163 := za.mk hy163
 clear hy163
 obtain rfl := Option.some.inj H
 go_enter Try.func59,Try.ntmps59
 go_wp2_with (first | ((with_reducible refine zaa (N := 1) rfl ?_); refine Kd.zdq Kd.string _ 9 ?hg (N := 1) ?hd (xs := ([(⟨#[97,110,110,97]⟩ : ByteArray),(⟨#[98,101,110]⟩ : ByteArray),(⟨#[99,121,100]⟩ : ByteArray)] : List ByteArray)) (inner := [.string (⟨#[97,110,110,97]⟩ : ByteArray), .string (⟨#[98,101,110]⟩ : ByteArray), .string (⟨#[99,121,100]⟩ : ByteArray)]) (ok := fun _ => True) (okp := fun _ => True) ?hr ?hp (fun _ hk => hk) trivial (Below.refl _ _) (Nat.le_refl _) qC ?_; (case hd => rfl); (case hg => rfl); (case hr => exact qk); (case hp => exact (zX.one (show Kd.M Kd.string _ _ _ (⟨#[97,110,110,97]⟩ : ByteArray) [.string (⟨#[97,110,110,97]⟩ : ByteArray)] from rfl) (zX.one (show Kd.M Kd.string _ _ _ (⟨#[98,101,110]⟩ : ByteArray) [.string (⟨#[98,101,110]⟩ : ByteArray)] from rfl) (zX.one (show Kd.M Kd.string _ _ _ (⟨#[99,121,100]⟩ : ByteArray) [.string (⟨#[99,121,100]⟩ : ByteArray)] from rfl) (zX.none _ _))))); intro v164 w1 ho2 hb hg_ hnew_; clear hg_ hnew_; (first | rw [← Ny163.out] at ho2 | (simp only [Int.reduceToNat] at ho2; rw [← Ny163.out] at ho2)); have n0_ := za.mk (Kd.zaO ho2 (zy (qc HB.out))); have n1_ := za.mk (zo (qc HB.out) hb); clear HB; have HO165 := n0_; have HB := n1_; clear n0_ n1_; clear hb ho2))
 go_ret
 exact ⟨_,by first | rfl | (simp [zw,zx] <;> rfl) | (simp [*,zw,zx] <;> rfl),by (with_reducible repeat (first | apply Kd.zaE | apply Kd.zau | apply Kd.zaJ)); exact HO165.out,by repeat (first | (with_reducible first | exact HB.out | apply ze | apply zb | apply zg) | exact HB.out)⟩
def za3.f (a0 : Int) (a1 : ByteArray) : Option (Int × Int × ByteArray) := some (1,a0,a1)
set_option maxHeartbeats 8000000 in
set_option maxRecDepth 100000 in
theorem za3.calls (a0 : Int) (a1 : ByteArray) (r1 : Int) (r2 : Int) (r3 : ByteArray) (w : World) (h : za3.f a0 a1 = some (r1,r2,r3)) :
  Calls Try.prog 61 #[.int .i64 a0, .string a1] w fun e w' => e = .returned (.agg #[.int .i64 r1, .int .i64 r2, .string r3]) ∧ Below w.heap.size w w' := by
 have hu63 := Try.underlying63
 have HB := za.mk (Below.refl w.heap.size w)
 have H : (some (1,a0,a1)) = some (r1,r2,r3) := h
 clear h
 simp only [Option.some.injEq,Prod.mk.injEq] at H
 obtain ⟨rfl,rfl,rfl⟩ := H
 go_enter Try.func61,Try.ntmps61
 go_wp2_with (first | ((with_reducible refine zaa (N := 4) rfl ?_); refine zao ?hg (N := 4) ?hd (cs := #[.int .i64 0, .int .i64 0, .string (⟨#[]⟩ : ByteArray)]) (t := 63) ?hr ?_; (case hd => rfl); (case hg => rfl); (case hr => exact qk); intro gb166 hg w3 hbox hb; have n0_ := za.mk (zo (qc HB.out) hb); have n1_ := za.mk (hbox); have n2_ := za.mk ((by rw [hg]; exact (zy (qc HB.out)) : w.heap.size ≤ gb166)); have n3_ := za.mk ((by rw [hg]; exact (zy (qc HB.out)) : w.heap.size ≤ gb166)); clear HB; have HB := n0_; have BK166 := n1_; have GW166 := n2_; have GE166 := n3_; clear n0_ n1_ n2_ n3_; clear hb hbox hg; have hcz4_0 : w3.cell? ⟨gb166,0,none⟩ = some (.int .i64 0) := (zf BK166.out 0).trans rfl; have hcz4_1 : w3.cell? ⟨gb166,1,none⟩ = some (.int .i64 0) := (zf BK166.out 1).trans rfl; have hcz4_2 : w3.cell? ⟨gb166,2,none⟩ = some (.string (⟨#[]⟩ : ByteArray)) := (zf BK166.out 2).trans rfl; have hfz4_0 := zn BK166.out 0; have hfz4_1 := zn BK166.out 1; have hfz4_2 := zn BK166.out 2))
 refine bodyPost_ret (results_cell_row rfl _ _ gb166 63 #[.int .i64 1, .int .i64 a0, .string a1] (0,0) _ rfl (by (with_reducible repeat (first | refine zl ?_ _ | refine zm ?_ | refine zi ?_ _)); refine zV (cs := #[.int .i64 1, .int .i64 a0, .string (⟨#[]⟩ : ByteArray)]) ?_ 2 _ rfl; (with_reducible repeat (first | refine zl ?_ _ | refine zm ?_ | refine zi ?_ _)); refine zV (cs := #[.int .i64 1, .int .i64 0, .string (⟨#[]⟩ : ByteArray)]) ?_ 1 _ rfl; (with_reducible repeat (first | refine zl ?_ _ | refine zm ?_ | refine zi ?_ _)); refine zV (cs := #[.int .i64 0, .int .i64 0, .string (⟨#[]⟩ : ByteArray)]) ?_ 0 _ rfl; (with_reducible repeat (first | refine zl ?_ _ | refine zm ?_ | refine zi ?_ _)); exact BK166.out) Try.underlying63 rfl qg) rfl ?_
 exact ⟨by first | rfl | (simp [zw,zx] <;> rfl) | (simp [*,zw,zx] <;> rfl),by repeat (first | (with_reducible first | exact HB.out | apply ze | apply zb | apply zg | refine zh ?_ GE166.out) | exact HB.out)⟩
def zbi.f (a0 : Int) (a1 : ByteArray) : Option (Int × Int × ByteArray) := some (2,a0,a1)
set_option maxHeartbeats 8000000 in
set_option maxRecDepth 100000 in
theorem zbi.calls (a0 : Int) (a1 : ByteArray) (r1 : Int) (r2 : Int) (r3 : ByteArray) (w : World) (h : zbi.f a0 a1 = some (r1,r2,r3)) :
  Calls Try.prog 85 #[.int .i64 a0, .string a1] w fun e w' => e = .returned (.agg #[.int .i64 r1, .int .i64 r2, .string r3]) ∧ Below w.heap.size w w' := by
 have hu63 := Try.underlying63
 have HB := za.mk (Below.refl w.heap.size w)
 have H : (some (2,a0,a1)) = some (r1,r2,r3) := h
 clear h
 simp only [Option.some.injEq,Prod.mk.injEq] at H
 obtain ⟨rfl,rfl,rfl⟩ := H
 go_enter Try.func85,Try.ntmps85
 go_wp2_with (first | ((with_reducible refine zaa (N := 4) rfl ?_); refine zao ?hg (N := 4) ?hd (cs := #[.int .i64 0, .int .i64 0, .string (⟨#[]⟩ : ByteArray)]) (t := 63) ?hr ?_; (case hd => rfl); (case hg => rfl); (case hr => exact qk); intro gb167 hg w3 hbox hb; have n0_ := za.mk (zo (qc HB.out) hb); have n1_ := za.mk (hbox); have n2_ := za.mk ((by rw [hg]; exact (zy (qc HB.out)) : w.heap.size ≤ gb167)); have n3_ := za.mk ((by rw [hg]; exact (zy (qc HB.out)) : w.heap.size ≤ gb167)); clear HB; have HB := n0_; have BK167 := n1_; have GW167 := n2_; have GE167 := n3_; clear n0_ n1_ n2_ n3_; clear hb hbox hg; have hcz4_0 : w3.cell? ⟨gb167,0,none⟩ = some (.int .i64 0) := (zf BK167.out 0).trans rfl; have hcz4_1 : w3.cell? ⟨gb167,1,none⟩ = some (.int .i64 0) := (zf BK167.out 1).trans rfl; have hcz4_2 : w3.cell? ⟨gb167,2,none⟩ = some (.string (⟨#[]⟩ : ByteArray)) := (zf BK167.out 2).trans rfl; have hfz4_0 := zn BK167.out 0; have hfz4_1 := zn BK167.out 1; have hfz4_2 := zn BK167.out 2))
 refine bodyPost_ret (results_cell_row rfl _ _ gb167 63 #[.int .i64 2, .int .i64 a0, .string a1] (0,0) _ rfl (by (with_reducible repeat (first | refine zl ?_ _ | refine zm ?_ | refine zi ?_ _)); refine zV (cs := #[.int .i64 2, .int .i64 a0, .string (⟨#[]⟩ : ByteArray)]) ?_ 2 _ rfl; (with_reducible repeat (first | refine zl ?_ _ | refine zm ?_ | refine zi ?_ _)); refine zV (cs := #[.int .i64 2, .int .i64 0, .string (⟨#[]⟩ : ByteArray)]) ?_ 1 _ rfl; (with_reducible repeat (first | refine zl ?_ _ | refine zm ?_ | refine zi ?_ _)); refine zV (cs := #[.int .i64 0, .int .i64 0, .string (⟨#[]⟩ : ByteArray)]) ?_ 0 _ rfl; (with_reducible repeat (first | refine zl ?_ _ | refine zm ?_ | refine zi ?_ _)); exact BK167.out) Try.underlying63 rfl qg) rfl ?_
 exact ⟨by first | rfl | (simp [zw,zx] <;> rfl) | (simp [*,zw,zx] <;> rfl),by repeat (first | (with_reducible first | exact HB.out | apply ze | apply zb | apply zg | refine zh ?_ GE167.out) | exact HB.out)⟩
def zbN.f  : Option ((List (S63))) := (za3.f 1 (⟨#[98,101,97]⟩ : ByteArray)).bind fun bt168 => ((zbi.f 2 (⟨#[99,105,100]⟩ : ByteArray)).bind fun bt171 => (some (([(⟨bt168.1,bt168.2.1,bt168.2.2⟩ : S63),(⟨bt171.1,bt171.2.1,bt171.2.2⟩ : S63)] : List (S63)))))
set_option maxHeartbeats 8000000 in
set_option maxRecDepth 100000 in
theorem zbN.calls  (r : List (S63)) (w : World) (h : zbN.f  = some r) :
  Calls Try.prog 60 #[] w fun e w' => ∃ v0_ : Value,e = .returned (v0_) ∧ Kd.R k63 63 w' w.heap.size (fun _ => True) v0_ r ∧ Below w.heap.size w w' := by
 have HB := za.mk (Below.refl w.heap.size w)
 have H : ((za3.f 1 (⟨#[98,101,97]⟩ : ByteArray)).bind fun bt168 => ((zbi.f 2 (⟨#[99,105,100]⟩ : ByteArray)).bind fun bt171 => (some (([(⟨bt168.1,bt168.2.1,bt168.2.2⟩ : S63),(⟨bt171.1,bt171.2.1,bt171.2.2⟩ : S63)] : List (S63)))))) = some r := h
 clear h
 replace H := Option.bind_eq_some_iff.mp H
 obtain ⟨⟨t168,t169,t170⟩,A10,H⟩ := H
 replace H : ((zbi.f 2 (⟨#[99,105,100]⟩ : ByteArray)).bind fun bt171 => (some (([(⟨t168,t169,t170⟩ : S63),(⟨bt171.1,bt171.2.1,bt171.2.2⟩ : S63)] : List (S63))))) = some r := H
 have A1 := za.mk A10
 clear A10
 replace H := Option.bind_eq_some_iff.mp H
 obtain ⟨⟨t171,t172,t173⟩,A20,H⟩ := H
 replace H : (some (([(⟨t168,t169,t170⟩ : S63),(⟨t171,t172,t173⟩ : S63)] : List (S63)))) = some r := H
 have A2 := za.mk A20
 clear A20
 obtain ⟨y174,hy174⟩ : ∃ y_ : List (S63),y_ = (([(⟨t168,t169,t170⟩ : S63),(⟨t171,t172,t173⟩ : S63)] : List (S63))) := ⟨_,rfl⟩
 replace H : (some y174) = some r := by first | (rw [hy174]; with_reducible exact H) | (have H2_ := (Option.bind_some _ _).symm.trans H; rw [hy174]; with_reducible exact H2_) | (have H2_ := (Option.bind_some _ _).symm.trans H; with_reducible exact H2_) | with_reducible exact H | (rw [hy174]; exact H) | exact H
 have Ny174 := za.mk hy174
 clear hy174
 obtain rfl := Option.some.inj H
 go_enter Try.func60,Try.ntmps60
 go_wp2_with (first | ((with_reducible refine zA (f := 61) rfl ?_); refine zW (some 1) rfl rfl Try.func61 qg rfl #[.int .i64 1, .string (⟨#[98,101,97]⟩ : ByteArray)] rfl qb ?_; (with_reducible refine (za3.calls 1 (⟨#[98,101,97]⟩ : ByteArray) t168 t169 t170 _ A1.out).mono ?_); rintro e w3 ⟨rfl,hb⟩; refine ⟨_,rfl,?_⟩; have n0_ := za.mk (zo (qc HB.out) hb); clear HB; have HB := n0_; clear n0_; (try clear hb); (try clear hb2); (try clear hk); (try clear hi)) | ((with_reducible refine zA (f := 85) rfl ?_); refine zW (some 2) rfl rfl Try.func85 qg rfl #[.int .i64 2, .string (⟨#[99,105,100]⟩ : ByteArray)] rfl qb ?_; (with_reducible refine (zbi.calls 2 (⟨#[99,105,100]⟩ : ByteArray) t171 t172 t173 _ A2.out).mono ?_); rintro e w4 ⟨rfl,hb⟩; refine ⟨_,rfl,?_⟩; have n0_ := za.mk (zo (qc HB.out) hb); clear HB; have HB := n0_; clear n0_; (try clear hb); (try clear hb2); (try clear hk); (try clear hi)) | ((with_reducible refine zaa (N := 3) rfl ?_); refine Kd.zdq k63 _ 63 ?hg (N := 3) ?hd (xs := ([(⟨t168,t169,t170⟩ : S63),(⟨t171,t172,t173⟩ : S63)] : List (S63))) (inner := [.int .i64 t168, .int .i64 t169, .string t170, .int .i64 t171, .int .i64 t172, .string t173]) (ok := fun _ => True) (okp := fun _ => True) ?hr ?hp (fun _ hk => hk) trivial (Below.refl _ _) (Nat.le_refl _) qC ?_; (case hd => rfl); (case hg => rfl); (case hr => exact qk); (case hp => exact (zX.c3 (show Kd.M k63 _ _ _ (⟨t168,t169,t170⟩ : S63) [.int .i64 t168, .int .i64 t169, .string t170] from (zbK _ _ _ (⟨t168,t169,t170⟩ : S63) )) (zX.c3 (show Kd.M k63 _ _ _ (⟨t171,t172,t173⟩ : S63) [.int .i64 t171, .int .i64 t172, .string t173] from (zbK _ _ _ (⟨t171,t172,t173⟩ : S63) )) (zX.none _ _)))); intro v175 w5 ho6 hb hg_ hnew_; clear hg_ hnew_; (first | rw [← Ny174.out] at ho6 | (simp only [Int.reduceToNat] at ho6; rw [← Ny174.out] at ho6)); have n0_ := za.mk (Kd.zaO ho6 (zy (qc HB.out))); have n1_ := za.mk (zo (qc HB.out) hb); clear HB; have HO176 := n0_; have HB := n1_; clear n0_ n1_; clear hb ho6))
 go_ret
 exact ⟨_,by first | rfl | (simp [zw,zx] <;> rfl) | (simp [*,zw,zx] <;> rfl),by (with_reducible repeat (first | apply Kd.zaE | apply Kd.zau | apply Kd.zaJ)); exact HO176.out,by repeat (first | (with_reducible first | exact HB.out | apply ze | apply zb | apply zg) | exact HB.out)⟩
def zbs.f (a0 : Int) : Option (Int × Int × ByteArray) := some (3,a0,(⟨#[]⟩ : ByteArray))
set_option maxHeartbeats 8000000 in
set_option maxRecDepth 100000 in
theorem zbs.calls (a0 : Int) (r1 : Int) (r2 : Int) (r3 : ByteArray) (w : World) (h : zbs.f a0 = some (r1,r2,r3)) :
  Calls Try.prog 62 #[.int .i64 a0] w fun e w' => e = .returned (.agg #[.int .i64 r1, .int .i64 r2, .string r3]) ∧ Below w.heap.size w w' := by
 have hu63 := Try.underlying63
 have HB := za.mk (Below.refl w.heap.size w)
 have H : (some (3,a0,(⟨#[]⟩ : ByteArray))) = some (r1,r2,r3) := h
 clear h
 simp only [Option.some.injEq,Prod.mk.injEq] at H
 obtain ⟨rfl,rfl,rfl⟩ := H
 go_enter Try.func62,Try.ntmps62
 go_wp2_with (first | ((with_reducible refine zaa (N := 2) rfl ?_); refine zao ?hg (N := 2) ?hd (cs := #[.int .i64 0, .int .i64 0, .string (⟨#[]⟩ : ByteArray)]) (t := 63) ?hr ?_; (case hd => rfl); (case hg => rfl); (case hr => exact qk); intro gb177 hg w2 hbox hb; have n0_ := za.mk (zo (qc HB.out) hb); have n1_ := za.mk (hbox); have n2_ := za.mk ((by rw [hg]; exact (zy (qc HB.out)) : w.heap.size ≤ gb177)); have n3_ := za.mk ((by rw [hg]; exact (zy (qc HB.out)) : w.heap.size ≤ gb177)); clear HB; have HB := n0_; have BK177 := n1_; have GW177 := n2_; have GE177 := n3_; clear n0_ n1_ n2_ n3_; clear hb hbox hg; have hcz3_0 : w2.cell? ⟨gb177,0,none⟩ = some (.int .i64 0) := (zf BK177.out 0).trans rfl; have hcz3_1 : w2.cell? ⟨gb177,1,none⟩ = some (.int .i64 0) := (zf BK177.out 1).trans rfl; have hcz3_2 : w2.cell? ⟨gb177,2,none⟩ = some (.string (⟨#[]⟩ : ByteArray)) := (zf BK177.out 2).trans rfl; have hfz3_0 := zn BK177.out 0; have hfz3_1 := zn BK177.out 1; have hfz3_2 := zn BK177.out 2))
 refine bodyPost_ret (results_cell_row rfl _ _ gb177 63 #[.int .i64 3, .int .i64 a0, .string (⟨#[]⟩ : ByteArray)] (0,0) _ rfl (by (with_reducible repeat (first | refine zl ?_ _ | refine zm ?_ | refine zi ?_ _)); refine zV (cs := #[.int .i64 3, .int .i64 a0, .string (⟨#[]⟩ : ByteArray)]) ?_ 2 _ rfl; (with_reducible repeat (first | refine zl ?_ _ | refine zm ?_ | refine zi ?_ _)); refine zV (cs := #[.int .i64 3, .int .i64 0, .string (⟨#[]⟩ : ByteArray)]) ?_ 1 _ rfl; (with_reducible repeat (first | refine zl ?_ _ | refine zm ?_ | refine zi ?_ _)); refine zV (cs := #[.int .i64 0, .int .i64 0, .string (⟨#[]⟩ : ByteArray)]) ?_ 0 _ rfl; (with_reducible repeat (first | refine zl ?_ _ | refine zm ?_ | refine zi ?_ _)); exact BK177.out) Try.underlying63 rfl qg) rfl ?_
 exact ⟨by first | rfl | (simp [zw,zx] <;> rfl) | (simp [*,zw,zx] <;> rfl),by repeat (first | (with_reducible first | exact HB.out | apply ze | apply zb | apply zg | refine zh ?_ GE177.out) | exact HB.out)⟩
end Go.Proofs.Ytgmbbfmbimofoaa.P
