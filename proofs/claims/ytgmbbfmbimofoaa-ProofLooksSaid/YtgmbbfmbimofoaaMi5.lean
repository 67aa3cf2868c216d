-- MERGED BY A PROGRAM out of texts of this claim: hand work, and what a (turned) print of the kit has written for it
import Derived.Below
import Derived.Deep.Draws
import Derived.Deep.AppendLies
import Derived.Maps.AppendAt
import Derived.OwnWalk
import Derived.Laws.BytesArg
import Derived.Laws.MakeOwn
import Derived.Laws.OwnMore
import Derived.Deep.OwnRows
import Derived.Tactics
import Derived.Lib.ConvBytes
import Derived.Laws.Slices
import Derived.WalkKit
import Derived.KernelRfl
import Derived.RowKit3
import Derived.Deep.LoopGhost
import Derived.Deep.QuietTactic
import Derived.BigQuiet
import Derived.WideLaws
import Derived.Deep.DeepCutAuto
import Derived.Deep.CutBlock
import Derived.Deep.RegionHeld3
import Derived.Laws.Rows
import Derived.Lib.AppendStr
import Derived.ArgAppend
import Derived.Laws.IdiomCopy
import Derived.OrdersHeld
import Derived.Laws.BitsLemmas
import Derived.RowKit
import Derived.Test.YtgmbbfmbimofoaaProg
import Derived.Test.YtgmbbfmbimofoaaMi1
import Derived.Test.YtgmbbfmbimofoaaMi2
import Derived.Test.YtgmbbfmbimofoaaMi3
import Derived.Test.YtgmbbfmbimofoaaMi4
namespace Go.Proofs.Ytgmbbfmbimofoaa.P
open Go.RowKit Go.Proofs.YtgmbbfmbimofoaaW.PrintWords Go.Proofs.YtgmbbfmbimofoaaW.PrintLast Go.Proofs.YtgmbbfmbimofoaaW.PrintMore
attribute [local go_sem] zM zN zV zU zI zH zO zP
set_option linter.unusedVariables false
set_option linter.unusedSimpArgs false
def zkX : Option Int → Value
 | none => .nilIface
 | some c => .iface 0 (.int .i64 c)
theorem zy : zkX none = .nilIface := rfl
theorem zx (c : Int) : zkX (some c) = .iface 0 (.int .i64 c) := rfl
theorem info3 : (Try.prog.info? 3).map (fun i => (i.zero,i.size,i.bytes)) = some (some (.int .i64 0),1,8) := by kernel_rfl
theorem zdb : (Try.prog.info? 9).map (fun i => (i.zero,i.size,i.bytes)) = some (some (.string ⟨#[]⟩),1,16) := by kernel_rfl
theorem zhn : (Try.prog.info? 22).map (fun i => (i.zero,i.size,i.bytes)) = some (some (.slice none 0 0),1,24) := by kernel_rfl
theorem zcg : (Try.prog.info? 63).map (fun i => (i.zero,i.size,i.bytes)) = some (some (.agg #[(.int .i64 0),(.int .i64 0),(.string ⟨#[]⟩)]),3,32) := by kernel_rfl
def zaK (xs : List (List ByteArray)) (i : Int) : (List ByteArray) := xs.getD i.toNat ([] : List ByteArray)
theorem zco {w : World} {A : Option Addr} {n : Nat} {xs : List (List ByteArray)} (h : Kd.C (Kd.slice 9 Kd.string) w A n xs) (i : Int) (h0 : 0 ≤ i) (h1 : i < n) : ∃ ad A0 c0,A = some ad ∧ w.cell? (ad.add i.toNat) = some (.slice A0 (zaK xs i).length c0) ∧ (zaK xs i).length ≤ c0 ∧ Kd.string.C w A0 (zaK xs i).length (zaK xs i) := by
 obtain ⟨ad,c,e,_,hK,hc0⟩ := Kd.zgc h ([] : List ByteArray) i h0 h1
 have hc : ∀ j u,c[j]? = some u → w.cell? (ad.add (i.toNat * 1 + j)) = some u := hc0
 obtain ⟨A0,c0,rfl,l0,g0⟩ := hK
 exact ⟨ad,A0,c0,e,by have hq := hc 0 _ rfl; rwa [Nat.mul_one,Nat.add_zero] at hq,l0,g0⟩
structure S63 where
 f0 : Int
 f1 : Int
 f2 : ByteArray
def z63 : S63 := ⟨(0 : Int),(0 : Int),(⟨#[]⟩ : ByteArray)⟩
def k63 : Kd S63 := Kd.iso (Kd.pair (Kd.int .i64) (Kd.pair (Kd.int .i64) Kd.string)) (fun x : S63 => (x.f0,x.f1,x.f2))
theorem zcC {w : World} {x : S63} {cs : List Value} (h : k63.K w x cs) : cs = [.int .i64 x.f0, .int .i64 x.f1, .string x.f2] := by
 obtain ⟨_,_,rfl,rfl,⟨_,_,rfl,rfl,rfl⟩⟩ := h
 exact rfl
theorem zjb (w : World) (x : S63)  : k63.K w x [.int .i64 x.f0, .int .i64 x.f1, .string x.f2] := ⟨[.int .i64 x.f0],[.int .i64 x.f1, .string x.f2],rfl,rfl,⟨[.int .i64 x.f1],[.string x.f2],rfl,rfl,rfl⟩⟩
theorem zbs (w : World) (base : Nat) (ok : Nat → Prop) (x : S63)  : k63.M w base ok x [.int .i64 x.f0, .int .i64 x.f1, .string x.f2] := ⟨[.int .i64 x.f0],[.int .i64 x.f1, .string x.f2],rfl,rfl,⟨[.int .i64 x.f1],[.string x.f2],rfl,rfl,rfl⟩⟩
def zg (xs : List S63) (i : Int) : S63 := xs.getD i.toNat z63
theorem za8 {w : World} {A : Option Addr} {n : Nat} {xs : List S63} (h : Kd.C k63 w A n xs) (i : Int) (h0 : 0 ≤ i) (h1 : i < n) : ∃ ad ,A = some ad ∧ w.cell? (ad.add (i.toNat * 3)) = some (.int .i64 (zg xs i).f0) ∧ w.cell? ⟨(ad.add (i.toNat * 3)).block,(ad.add (i.toNat * 3)).off + 1,none⟩ = some (.int .i64 (zg xs i).f1) ∧ w.cell? ⟨(ad.add (i.toNat * 3)).block,(ad.add (i.toNat * 3)).off + 2,none⟩ = some (.string (zg xs i).f2) := by
 obtain ⟨ad,c,e,_,hK,hc0⟩ := Kd.zgc h z63 i h0 h1
 have hc : ∀ j u,c[j]? = some u → w.cell? (ad.add (i.toNat * 3 + j)) = some u := hc0
 obtain rfl := zcC hK
 exact ⟨ad,e,hc 0 _ rfl,by rw [← zfv _ _ 1 (by omega)]; exact hc 1 _ rfl,by rw [← zfv _ _ 2 (by omega)]; exact hc 2 _ rfl⟩
theorem qa {p : Prop} (h : p := by (try simp only [List.map_toArray,List.map_cons,List.map_nil]); first | done | rfl | (simp only [List.length_drop,List.length_take]; rfl)) : p := h
theorem qb {p q : Prop} (x0 : q) (h : q → p := by intro h0_; (with_reducible repeat (first | refine zm ?_ _ | refine zn ?_ | refine zl ?_ _)); exact h0_) : p := h x0
theorem qc {p q : Prop} (x0 : q) (h : q → p := by intro h0_; repeat (first | (with_reducible first | exact h0_ | apply ze | apply zb | apply zf) | exact h0_)) : p := h x0
theorem qd {p : Prop} (h : p := by first | (with_reducible assumption) | assumption) : p := h
theorem qe {p q : Prop} (x0 : q) (h : q → p := by intro h0_; repeat (first | exact h0_ | (with_reducible refine Kd.zaa ?_ _) | (with_reducible refine Kd.z8 ?_ _) | (with_reducible refine Kd.zai ?_))) : p := h x0
theorem qf {p : Prop} (h : p := by first | rfl | (simp; done) | (simp [*]; done)) : p := h
theorem qg {p q : Prop} (x0 : q) (h : q → p := by intro h0_; repeat (first | (with_reducible first | exact h0_ | apply zu.zaQ | apply zR | apply zW | apply zS) | exact h0_)) : p := h x0
theorem qh {p q : Prop} (x0 : q) (h : q → p := by intro h0_; repeat (first | (with_reducible first | exact h0_ | apply zk.alloc | apply zk.drewN | apply zk.drew | apply zk.zao | apply zk.zaq) | exact h0_)) : p := h x0
theorem qi {p : Prop} (h : p := by kernel_rfl) : p := h
theorem qj {p : Prop} (h : p := by omega) : p := h
theorem qk {p q r : Prop} (x0 : q) (x1 : r) (h : q → r → p := by intro h0_ h1_; repeat (first | (with_reducible first | exact h0_ | apply ze | apply zb | apply zf | refine zi ?_ h1_) | exact h0_)) : p := h x0 x1
theorem ql {p q r : Prop} (x0 : q) (x1 : r) (h : q → r → p := by intro h0_ h1_; repeat (first | exact (Kd.zY h0_ h1_) | (with_reducible refine Kd.zaa ?_ _) | (with_reducible refine Kd.z8 ?_ _) | (with_reducible refine Kd.zai ?_))) : p := h x0 x1
theorem qm {p q r : Prop} (x0 : q) (x1 : r) (h : q → r → p := by intro h0_ h1_; repeat (first | (with_reducible first | exact h0_ | apply ze | apply zb | apply zf | refine zi ?_ (zk.ge h1_)) | exact h0_)) : p := h x0 x1
theorem qn {p q : Prop} (x0 : q) (h : q → p := by intro h0_; (with_reducible repeat (first | refine zm ?_ _ | refine zn ?_ | refine zl ?_ _)); refine zah (cs := #[.int .i64 ((zg l0 x13_1).f0), .int .i64 ((zg l0 x13_1).f1), .string (⟨#[]⟩ : ByteArray)]) ?_ 2 _ rfl; (with_reducible repeat (first | refine zm ?_ _ | refine zn ?_ | refine zl ?_ _)); refine zah (cs := #[.int .i64 ((zg l0 x13_1).f0), .int .i64 0, .string (⟨#[]⟩ : ByteArray)]) ?_ 1 _ rfl; (with_reducible repeat (first | refine zm ?_ _ | refine zn ?_ | refine zl ?_ _)); refine zah (cs := #[.int .i64 0, .int .i64 0, .string (⟨#[]⟩ : ByteArray)]) ?_ 0 _ rfl; (with_reducible repeat (first | refine zm ?_ _ | refine zn ?_ | refine zl ?_ _)); exact h0_) : p := h x0
theorem qo {p q r s t : Prop} (x0 : q) (x1 : r) (x2 : s) (x3 : t) (h : q → r → s → t → p := by intro h0_ h1_ h2_ h3_; repeat (first | (with_reducible first | exact h0_ | apply ze | apply zb | apply zf | refine zi ?_ h1_ | refine zi ?_ h2_ | refine zi ?_ h3_) | exact h0_)) : p := h x0 x1 x2 x3
theorem qp {p q : Prop} (x0 : q) (h : q → p := by intro h0_; (with_reducible repeat (first | apply Kd.zal | apply Kd.zam | apply Kd.zau)); exact h0_) : p := h x0
theorem qq {p : Prop} (h : p := by first | (go_simp; done) | (go_simp; rfl)) : p := h
theorem qr {p : Prop} (h : p := by simp only [List.map_toArray,List.map_cons,List.map_nil]; rfl) : p := h
theorem qt {p : Prop} (h : p := by decide) : p := h
theorem qu {p q r s : Prop} (x0 : q) (x1 : r) (x2 : s) (h : q → r → s → p := by intro h0_ h1_ h2_; repeat (first | (with_reducible first | exact h0_ | apply ze | apply zb | apply zf | refine zi ?_ h1_ | refine zi ?_ h2_) | exact h0_)) : p := h x0 x1 x2
theorem qv {p q : Prop} (x0 : q) (h : q → p := by intro h0_; (with_reducible repeat (first | apply Kd.zbh | apply Kd.zbi | apply Kd.zbu)); exact h0_) : p := h x0
theorem qw {p q : Prop} (x0 : q) (h : q → p := by intro h0_; (with_reducible repeat (first | apply Kd.zbd | apply Kd.zbc | apply Kd.zbm)); exact h0_) : p := h x0
theorem qx {p : Prop} (h : p := by (try simp only [List.map_toArray,List.map_cons,List.map_nil]); first | done | rfl) : p := h
theorem qy {p : Prop} (h : p := by rfl) : p := h
theorem qz {p : Prop} (h : p := by simp) : p := h
theorem qA {p : Prop} (h : p := by first | (rw [add_block]; exact hn117_0) | (show (Addr.add _ _).block ≠ _; rw [add_block]; exact hn117_0) | exact hn117_0) : p := h
theorem qB {p : Prop} (h : p := by first | (rw [add_block]; exact hn117_1) | (show (Addr.add _ _).block ≠ _; rw [add_block]; exact hn117_1) | exact hn117_1) : p := h
theorem qC {p : Prop} (h : p := by first | (rw [add_block]; exact hn117_2) | (show (Addr.add _ _).block ≠ _; rw [add_block]; exact hn117_2) | exact hn117_2) : p := h
theorem qD {p q : Prop} (x0 : q) (h : q → p := by intro h0_; (with_reducible repeat (first | refine zm ?_ _ | refine zn ?_ | refine zl ?_ _)); refine zah (cs := #[.int .i64 ((zg l1 x13_1).f0), .int .i64 ((zg l1 x13_1).f1), .string (⟨#[]⟩ : ByteArray)]) ?_ 2 _ rfl; (with_reducible repeat (first | refine zm ?_ _ | refine zn ?_ | refine zl ?_ _)); refine zah (cs := #[.int .i64 ((zg l1 x13_1).f0), .int .i64 0, .string (⟨#[]⟩ : ByteArray)]) ?_ 1 _ rfl; (with_reducible repeat (first | refine zm ?_ _ | refine zn ?_ | refine zl ?_ _)); refine zah (cs := #[.int .i64 0, .int .i64 0, .string (⟨#[]⟩ : ByteArray)]) ?_ 0 _ rfl; (with_reducible repeat (first | refine zm ?_ _ | refine zn ?_ | refine zl ?_ _)); exact h0_) : p := h x0
theorem qE {p q : Prop} (x0 : q) (h : q → p := by intro h0_; (with_reducible repeat (first | apply Kd.zal | apply Kd.zam | apply Kd.zau)); exact Kd.zaA h0_ (fun _ hk => hk.2)) : p := h x0
theorem qF {p : Prop} (h : p := by simp only [zdh,Act.put,List.setIfInBounds_toArray,List.set_cons_zero,List.set_cons_succ]) : p := h
theorem qG {p : Prop} (h : p := by have := World.block_lt_of_cell? _ _ hx117_0; first | rwa [add_block] at this | exact this) : p := h
theorem qH {p q r : Prop} (x0 : q) (x1 : r) (h : q → r → p := by intro h0_ h1_; (with_reducible repeat (first | refine zm ?_ _ | refine zn ?_ | refine zl ?_ _)); refine za3 ?_ h0_ _; (with_reducible repeat (first | refine zm ?_ _ | refine zn ?_ | refine zl ?_ _)); refine za3 ?_ h0_ _; (with_reducible repeat (first | refine zm ?_ _ | refine zn ?_ | refine zl ?_ _)); refine za3 ?_ h0_ _; (with_reducible repeat (first | refine zm ?_ _ | refine zn ?_ | refine zl ?_ _)); exact h1_) : p := h x0 x1
theorem qI {p : Prop} (h : p := by dsimp only; omega) : p := h
theorem qJ {p : Prop} (h : p := by simp only [List.length_cons]; omega) : p := h
theorem qK {p q : Prop} (x0 : q) (h : q → p := by intro h0_; repeat (first | exact (Kd.zds h0_).2.2 | (with_reducible refine Kd.zaa ?_ _) | (with_reducible refine Kd.z8 ?_ _) | (with_reducible refine Kd.zai ?_))) : p := h x0
theorem qL {p q : Prop} (x0 : q) (h : q → p := by intro h0_; repeat (first | exact (Kd.zb2 h0_).2.2 | (with_reducible refine Kd.zaa ?_ _) | (with_reducible refine Kd.z8 ?_ _) | (with_reducible refine Kd.zai ?_))) : p := h x0
theorem qM {p : Prop} (h : p := by simp; omega) : p := h
theorem qN {p : Prop} (h : p := by rw [List.length_append,List.length_singleton]; omega) : p := h
theorem qO {p q : Prop} (x0 : q) (h : q → p := by intro h0_; have h := h0_; rw [show zcP (some lb) = lb from rfl] at h; omega) : p := h x0
theorem qP {p q : Prop} (x0 : q) (h : q → p := by intro h0_; (with_reducible repeat (first | apply Kd.zal | apply Kd.zam | apply Kd.zau)); exact Kd.zaA h0_ (fun _ hk => trivial)) : p := h x0
theorem qQ {p : Prop} (h : p := by rintro cs fr he; injection he with _ he; cases he) : p := h
theorem qR {p q r s t : Prop} (x0 : q) (x1 : r) (x2 : s) (x3 : t) (h : q → r → s → t → p := by intro h0_ h1_ h2_ h3_; repeat (first | exact (Kd.zY h0_ (by repeat (first | (with_reducible first | exact h1_ | apply ze | apply zb | apply zf | refine zi ?_ h2_ | refine zi ?_ h3_) | exact h1_))) | (with_reducible refine Kd.zaa ?_ _) | (with_reducible refine Kd.z8 ?_ _) | (with_reducible refine Kd.zai ?_))) : p := h x0 x1 x2 x3
theorem qS {p : Prop} (h : p := by go_simp; rfl) : p := h
theorem qT {p : Prop} (h : p := by simp only [sz]) : p := h
theorem qU {p : Prop} (h : p := by rintro a b he; cases he) : p := h
theorem qV {p : Prop} (h : p := by rw [List.length_take]; omega) : p := h
def zaM.l0 : Nat → List ByteArray → Int → Option (Bool)
 | 0,_,_ => none
 | k + 1,x0,x3 => if x3 < (x0.length : Int) then (if 0 ≤ x3 then (if ((za0 ByteArray.empty x0 x3).size : Int) > 30 then (some true) else (zaM.l0 k x0 (wrap64 (x3 + 1)))) else (none)) else (some (decide ((x0.length : Int) > 20)))
def zaM.f (k : Nat) (l0 : List ByteArray) : Option (Bool) := zaM.l0 k l0 0
set_option maxHeartbeats 8000000 in
set_option maxRecDepth 100000 in
theorem zaM.calls (k : Nat) (A0 : Option Addr) (c0 : Nat) (l0 : List ByteArray) (r : Bool) (w : World) (hr0 : Kd.C Kd.string w A0 l0.length l0) (hc0 : l0.length ≤ c0) (h : zaM.f k l0 = some r) :
  Calls Try.prog 17 #[.slice A0 l0.length c0] w fun e w' => e = .returned (.bool r) ∧ zw w w' := by
 have HR0 := za.mk hr0
 have HC0 := za.mk hc0
 clear hr0 hc0
 have H : (zaM.l0 k l0 0) = some r := h
 clear h
 have H' := za.mk H
 clear H
 go_enter Try.func17,Try.ntmps17
 go_wp2
 go_loopg [3] k (fun kq v3 w' => ∃ (x3_1 : Int),v3 = .int .i64 x3_1 ∧ za (zaM.l0 kq l0 x3_1 = some r) ∧ za (kq ≤ k) ∧ zw w w')
 case atStart => exact ⟨(0),qf,H',⟨Nat.le_refl _⟩,by repeat (first | exact zw.refl _ | apply zw.step)⟩
 case round =>
  clear H'
  try clear c1
  obtain ⟨x3_1,rfl,HA,HK1,⟨m1,rfl⟩⟩ := hrel
  cases gk with
  | zero => exact absurd HA.out (by simp [zaM.l0])
  | succ k1 =>
   have H := HA.out
   clear HA
   simp only [zaM.l0] at H
   by_cases c2 : x3_1 < (l0.length : Int)
   ·rw [if_pos c2] at H
    have c2b0 : decide (x3_1 < (l0.length : Int)) = true := decide_eq_true c2
    clear c2
    by_cases c3 : 0 ≤ x3_1
    ·rw [if_pos c3] at H
     have c3b0 : decide (0 ≤ x3_1) = true := decide_eq_true c3
     clear c3
     by_cases c4 : ((za0 ByteArray.empty l0 x3_1).size : Int) > 30
     ·rw [if_pos c4] at H
      have c4b0 : decide (30 < ((za0 ByteArray.empty l0 x3_1).size : Int)) = true := decide_eq_true c4
      have c4b1 : decide (30 < (za0 ByteArray.empty l0 x3_1).size) = true := decide_eq_true qj
      clear c4
      obtain rfl := Option.some.inj H
      have p101 : 0 ≤ (x3_1 : Int) := of_decide_eq_true qd
      have q101 : x3_1 < (l0.length : Int) := of_decide_eq_true qd
      obtain ⟨ad101,e101,hx101_0⟩ := Kd.zbw HR0.out x3_1 p101 q101
      cases e101
      replace p101 := eq_true p101
      replace q101 := eq_true q101
      go_wp2
      go_ret
      exact ⟨by first | rfl | (simp; done) | (simp [*]; done),by repeat (first | exact zw.refl _ | apply zw.step)⟩
     ·rw [if_neg c4] at H
      have c4b0 : decide (30 < ((za0 ByteArray.empty l0 x3_1).size : Int)) = false := decide_eq_false c4
      have c4b1 : decide (30 < (za0 ByteArray.empty l0 x3_1).size) = false := decide_eq_false qj
      clear c4
      have H' := za.mk H
      clear H
      have p101 : 0 ≤ (x3_1 : Int) := of_decide_eq_true qd
      have q101 : x3_1 < (l0.length : Int) := of_decide_eq_true qd
      obtain ⟨ad101,e101,hx101_0⟩ := Kd.zbw HR0.out x3_1 p101 q101
      cases e101
      replace p101 := eq_true p101
      replace q101 := eq_true q101
      go_wp2
      go_roundg k1
      case measure => have := HK1.out; omega
      case rel => exact ⟨(wrap64 (x3_1 + 1)),qf,H',⟨by have := HK1.out; omega⟩,by repeat (first | exact zw.refl _ | apply zw.step)⟩
    ·rw [if_neg c3] at H
     exact absurd H qz
   ·rw [if_neg c2] at H
    have c2b0 : decide (x3_1 < (l0.length : Int)) = false := decide_eq_false c2
    clear c2
    obtain rfl := Option.some.inj H
    go_wp2
    go_ret
    exact ⟨by first | rfl | (simp; done) | (simp [*]; done),by repeat (first | exact zw.refl _ | apply zw.step)⟩
def stringslite_HasPrefix.f (a0 : ByteArray) (a1 : ByteArray) : Option (Bool) := if (a0.size : Int) ≥ (a1.size : Int) then (if 0 ≤ (a1.size : Int) then (if (a1.size : Int) ≤ (a0.size : Int) then (some ((a0.extract 0 ((a1.size : Int) : Int).toNat).toList == a1.toList)) else (none)) else (none)) else (some false)
set_option maxHeartbeats 8000000 in
set_option maxRecDepth 100000 in
theorem stringslite_HasPrefix.calls (a0 : ByteArray) (a1 : ByteArray) (r : Bool) (w : World) (h : stringslite_HasPrefix.f a0 a1 = some r) :
  Calls Try.prog 125 #[.string a0, .string a1] w fun e w' => e = .returned (.bool r) ∧ zw w w' := by
 have H : (if (a0.size : Int) ≥ (a1.size : Int) then (if 0 ≤ (a1.size : Int) then (if (a1.size : Int) ≤ (a0.size : Int) then (some ((a0.extract 0 ((a1.size : Int) : Int).toNat).toList == a1.toList)) else (none)) else (none)) else (some false)) = some r := h
 clear h
 by_cases c3 : (a0.size : Int) ≥ (a1.size : Int)
 ·rw [if_pos c3] at H
  have c3b0 : decide ((a1.size : Int) ≤ (a0.size : Int)) = true := decide_eq_true c3
  have c3b1 : decide (a1.size ≤ a0.size) = true := decide_eq_true (Int.ofNat_le.mp c3)
  clear c3
  by_cases c4 : 0 ≤ (a1.size : Int)
  ·rw [if_pos c4] at H
   have c4b0 := eq_true c4
   have c4b1 : decide (0 ≤ (a1.size : Int)) = true := decide_eq_true c4
   clear c4
   by_cases c5 : (a1.size : Int) ≤ (a0.size : Int)
   ·rw [if_pos c5] at H
    have c5b0 := eq_true c5
    have c5b1 : decide ((a1.size : Int) ≤ (a0.size : Int)) = true := decide_eq_true c5
    clear c5
    obtain rfl := Option.some.inj H
    go_enter Try.func125,Try.ntmps125
    go_wp2
    go_ret
    exact ⟨by first | rfl | (simp; done) | (simp [*]; done),by repeat (first | exact zw.refl _ | apply zw.step)⟩
   ·rw [if_neg c5] at H
    exact absurd H qz
  ·rw [if_neg c4] at H
   exact absurd H qz
 ·rw [if_neg c3] at H
  have c3b0 : decide ((a1.size : Int) ≤ (a0.size : Int)) = false := decide_eq_false c3
  have c3b1 : decide (a1.size ≤ a0.size) = false := decide_eq_false (fun h => c3 (Int.ofNat_le.mpr h))
  clear c3
  obtain rfl := Option.some.inj H
  go_enter Try.func125,Try.ntmps125
  go_wp2
  go_ret
  exact ⟨by first | rfl | (simp; done) | (simp [*]; done),by repeat (first | exact zw.refl _ | apply zw.step)⟩
def strings_HasPrefix.f (a0 : ByteArray) (a1 : ByteArray) : Option (Bool) := (stringslite_HasPrefix.f a0 a1).bind fun t102 => (some t102)
set_option maxHeartbeats 8000000 in
set_option maxRecDepth 100000 in
theorem strings_HasPrefix.calls (a0 : ByteArray) (a1 : ByteArray) (r : Bool) (w : World) (h : strings_HasPrefix.f a0 a1 = some r) :
  Calls Try.prog 106 #[.string a0, .string a1] w fun e w' => e = .returned (.bool r) ∧ zw w w' := by
 have H : ((stringslite_HasPrefix.f a0 a1).bind fun t102 => (some t102)) = some r := h
 clear h
 replace H := Option.bind_eq_some_iff.mp H
 obtain ⟨t102,A30,H⟩ := H
 replace H : (some t102) = some r := H
 have A3 := za.mk A30
 clear A30
 obtain rfl := Option.some.inj H
 go_enter Try.func106,Try.ntmps106
 go_wp2_with (first | ((with_reducible refine zz (f := 125) rfl ?_); refine zT (some 7) rfl rfl Try.func125 qi rfl #[.string a0, .string a1] rfl qa ?_; (with_reducible refine (stringslite_HasPrefix.calls a0 a1 t102 _ A3.out).mono ?_); rintro e w' ⟨rfl,⟨nd,rfl⟩⟩; refine ⟨_,rfl,?_⟩))
 go_ret
 exact ⟨by first | rfl | (simp; done) | (simp [*]; done),by repeat (first | exact zw.refl _ | apply zw.step)⟩
def stringslite_HasSuffix.f (a0 : ByteArray) (a1 : ByteArray) : Option (Bool) := if (a0.size : Int) ≥ (a1.size : Int) then (if 0 ≤ (wrap64 ((a0.size : Int) - (a1.size : Int))) then (if (wrap64 ((a0.size : Int) - (a1.size : Int))) ≤ (a0.size : Int) then (some ((a0.extract ((wrap64 ((a0.size : Int) - (a1.size : Int))) : Int).toNat a0.size).toList == a1.toList)) else (none)) else (none)) else (some false)
set_option maxHeartbeats 8000000 in
set_option maxRecDepth 100000 in
theorem stringslite_HasSuffix.calls (a0 : ByteArray) (a1 : ByteArray) (r : Bool) (w : World) (h : stringslite_HasSuffix.f a0 a1 = some r) :
  Calls Try.prog 126 #[.string a0, .string a1] w fun e w' => e = .returned (.bool r) ∧ zw w w' := by
 have H : (if (a0.size : Int) ≥ (a1.size : Int) then (if 0 ≤ (wrap64 ((a0.size : Int) - (a1.size : Int))) then (if (wrap64 ((a0.size : Int) - (a1.size : Int))) ≤ (a0.size : Int) then (some ((a0.extract ((wrap64 ((a0.size : Int) - (a1.size : Int))) : Int).toNat a0.size).toList == a1.toList)) else (none)) else (none)) else (some false)) = some r := h
 clear h
 by_cases c3 : (a0.size : Int) ≥ (a1.size : Int)
 ·rw [if_pos c3] at H
  have c3b0 : decide ((a1.size : Int) ≤ (a0.size : Int)) = true := decide_eq_true c3
  have c3b1 : decide (a1.size ≤ a0.size) = true := decide_eq_true (Int.ofNat_le.mp c3)
  clear c3
  obtain ⟨ji4,hji4⟩ : ∃ j_ : Int,(wrap64 ((a0.size : Int) - (a1.size : Int))) = j_ := ⟨_,rfl⟩
  replace H : (if 0 ≤ (ji4) then (if (ji4) ≤ (a0.size : Int) then (some ((a0.extract ((ji4) : Int).toNat a0.size).toList == a1.toList)) else (none)) else (none)) = some r := by first | (rw [hji4] at H; exact H) | (simp only [hji4] at H ⊢; exact H)
  have hji4w : (IntKind.i64.wrap ((a0.size : Int) - (a1.size : Int))) = ji4 := (zad _).trans hji4
  by_cases c5 : 0 ≤ (ji4)
  ·rw [if_pos c5] at H
   have c5b0 := eq_true c5
   have c5b1 : decide (0 ≤ (ji4)) = true := decide_eq_true c5
   clear c5
   by_cases c6 : (ji4) ≤ (a0.size : Int)
   ·rw [if_pos c6] at H
    have c6b0 := eq_true c6
    have c6b1 : decide ((ji4) ≤ (a0.size : Int)) = true := decide_eq_true c6
    clear c6
    obtain rfl := Option.some.inj H
    go_enter Try.func126,Try.ntmps126
    go_wp2
    go_ret
    exact ⟨by first | rfl | (simp; done) | (simp only [← hji4] <;> (first | rfl | simp)) | (simp [*]; done),by repeat (first | exact zw.refl _ | apply zw.step)⟩
   ·rw [if_neg c6] at H
    exact absurd H qz
  ·rw [if_neg c5] at H
   exact absurd H qz
 ·rw [if_neg c3] at H
  have c3b0 : decide ((a1.size : Int) ≤ (a0.size : Int)) = false := decide_eq_false c3
  have c3b1 : decide (a1.size ≤ a0.size) = false := decide_eq_false (fun h => c3 (Int.ofNat_le.mpr h))
  clear c3
  obtain rfl := Option.some.inj H
  go_enter Try.func126,Try.ntmps126
  go_wp2
  go_ret
  exact ⟨by first | rfl | (simp; done) | (simp [*]; done),by repeat (first | exact zw.refl _ | apply zw.step)⟩
def strings_HasSuffix.f (a0 : ByteArray) (a1 : ByteArray) : Option (Bool) := (stringslite_HasSuffix.f a0 a1).bind fun t103 => (some t103)
set_option maxHeartbeats 8000000 in
set_option maxRecDepth 100000 in
theorem strings_HasSuffix.calls (a0 : ByteArray) (a1 : ByteArray) (r : Bool) (w : World) (h : strings_HasSuffix.f a0 a1 = some r) :
  Calls Try.prog 107 #[.string a0, .string a1] w fun e w' => e = .returned (.bool r) ∧ zw w w' := by
 have H : ((stringslite_HasSuffix.f a0 a1).bind fun t103 => (some t103)) = some r := h
 clear h
 replace H := Option.bind_eq_some_iff.mp H
 obtain ⟨t103,A30,H⟩ := H
 replace H : (some t103) = some r := H
 have A3 := za.mk A30
 clear A30
 obtain rfl := Option.some.inj H
 go_enter Try.func107,Try.ntmps107
 go_wp2_with (first | ((with_reducible refine zz (f := 126) rfl ?_); refine zT (some 7) rfl rfl Try.func126 qi rfl #[.string a0, .string a1] rfl qa ?_; (with_reducible refine (stringslite_HasSuffix.calls a0 a1 t103 _ A3.out).mono ?_); rintro e w' ⟨rfl,⟨nd,rfl⟩⟩; refine ⟨_,rfl,?_⟩))
 go_ret
 exact ⟨by first | rfl | (simp; done) | (simp [*]; done),by repeat (first | exact zw.refl _ | apply zw.step)⟩
section
variable {P : Program} {ops : Array Oper} {Q : Exit → Act → World → Prop}
theorem zfg {rest : List Oper} {oi : Oper} {a : Act} {w : World} (N : Option Tmp) (hd : oi.dst = N) (hg : oi.guard = none) {f : FuncId} {fn : Func} {x : Operand} {ops_ : Array Operand} {ts : Array TypeId} {zeI : Array Value} (hf : P.funcs[f]? = some fn) (hname : (fn.name == "runtime.NumGoroutine") = false) (hb : fn.body.isSome = true) (args : Array Value)
  (hop : oi.op = .call { callee := .value x,args := ops_,argTypes := ts }) (hx : a.eval x = .func (.func f) #[] zeI) (hargs : ops_.map a.eval ++ zeI = args)
  (h : Calls P f args w fun e w' => ∃ v,e = .returned v ∧ wpList P ops Q rest (a.put N v) w') : wpList P ops Q (oi :: rest) a w := by
 refine wpList_plain hg fun K hK => ?_
 have he := zfH hf hname hb args w
 have hrun : (execOp a.eval oi).run P w = .ok (.enter f args) w := by
  unfold execOp
  have hx' : a.eval x = .func (.func f) #[] zeI := hx
  simp [hop,resolve,Deferred.ofValue,invoke,hx',hargs,he]
 unfold Oper.wp
 rw [hrun,Oper.upon_enter]
 refine h.mono fun e w'' hh => ?_
 obtain ⟨v,rfl,hk⟩ := hh
 subst hd
 exact hK _ _ hk
theorem zhe {oi : Oper} {N : Option Tmp} {a : Act} {w : World} {K : Act → World → Prop} {f : FuncId} {fn : Func} {x : Operand} {ops_ : Array Operand} {ts : Array TypeId} {zeI : Array Value} (hf : P.funcs[f]? = some fn) (hname : (fn.name == "runtime.NumGoroutine") = false) (hb : fn.body.isSome = true) (args : Array Value)
  (hw : Region.wanted oi (yielded ops a.tmps) = true) (hN : oi.dst = N) (hop : oi.op = .call { callee := .value x,args := ops_,argTypes := ts }) (hx : a.eval x = .func (.func f) #[] zeI) (hargs : ops_.map a.eval ++ zeI = args)
  (h : Calls P f args w fun e w' => ∃ v,e = .returned v ∧ K (a.put N v) w') : if Region.wanted oi (yielded ops a.tmps) = true then Oper.wp P oi a w K Q else K (a.put N undef) w := by
 refine call_ f args hw hN ?_ h
 have he := zfH hf hname hb args w
 unfold execOp
 have hx' : a.eval x = .func (.func f) #[] zeI := hx
 simp [hop,resolve,Deferred.ofValue,invoke,hx',hargs,he]
end
def zaP.f (a0_0 : Int) (l0_1 : List (S63)) (a1_0 : Int) (a1_1 : Int) (a1_2 : ByteArray) : Option (Int × (List (S63))) := (some (([(⟨a1_0,a1_1,a1_2⟩ : S63)] : List (S63)) : List (S63))).bind fun y118 => (if y118.length + l0_1.length < 4398046511104 then ((some (y118 ++ l0_1 : List (S63))).bind fun y121 => (if a1_0 = 3 then (some (a0_0,y121)) else (some (wrap64 (a0_0 + 1),y121)))) else (none))
def zaP.T1 : Bool × List (List Nat × List Nat) := (true,[([],[]),([0],[0]),([],[]),([2],[2]),([],[]),([4],[4]),([3,5],[3,5]),([1,6],[1,6]),([],[]),([8,7,6,0,1,2,3,4,5,6,7,8],[7,8])])
def zaP.B1 : List Nat := [0,1,0,4,0,16,60,127,0,511]
theorem zaP.zgP : zcs .any (opsOf Try.f96 1) = zaP.T1 := by kernel_rfl
theorem zaP.zfG : zdm zaP.T1.2 zaP.B1 = true := by kernel_rfl
set_option maxHeartbeats 8000000 in
set_option maxRecDepth 100000 in
theorem zaP.calls (a0_0 : Int) (A0_1 : Option Addr) (c0_1 : Nat) (l0_1 : List (S63)) (a1_0 : Int) (a1_1 : Int) (a1_2 : ByteArray) (r1 : Int) (r2 : List (S63)) (w : World) (hr0_1 : Kd.C k63 w A0_1 l0_1.length l0_1) (hc0_1 : l0_1.length ≤ c0_1) (h : zaP.f a0_0 l0_1 a1_0 a1_1 a1_2 = some (r1,r2)) :
  Calls Try.prog 96 #[.agg #[.int .i64 a0_0, .slice A0_1 l0_1.length c0_1], .agg #[.int .i64 a1_0, .int .i64 a1_1, .string a1_2]] w fun e w' => ∃ v1_ : Value,e = .returned (.agg #[.int .i64 r1,v1_]) ∧ Kd.R k63 63 w' w.heap.size (fun _ => True) v1_ r2 ∧ Below w.heap.size w w' := by
 have hu134 := Try.underlying134
 have hu63 := Try.underlying63
 have HR0_1 := za.mk hr0_1
 have HC0_1 := za.mk hc0_1
 clear hr0_1 hc0_1
 have HB := za.mk (Below.refl w.heap.size w)
 have H : ((some (([(⟨a1_0,a1_1,a1_2⟩ : S63)] : List (S63)) : List (S63))).bind fun y118 => (if y118.length + l0_1.length < 4398046511104 then ((some (y118 ++ l0_1 : List (S63))).bind fun y121 => (if a1_0 = 3 then (some (a0_0,y121)) else (some (wrap64 (a0_0 + 1),y121)))) else (none))) = some (r1,r2) := h
 clear h
 obtain ⟨y118,hy118⟩ : ∃ y_ : List (S63),y_ = (([(⟨a1_0,a1_1,a1_2⟩ : S63)] : List (S63))) := ⟨_,rfl⟩
 replace H : (if y118.length + l0_1.length < 4398046511104 then ((some (y118 ++ l0_1 : List (S63))).bind fun y121 => (if a1_0 = 3 then (some (a0_0,y121)) else (some (wrap64 (a0_0 + 1),y121)))) else (none)) = some (r1,r2) := by first | (rw [hy118]; with_reducible exact H) | (have H2_ := (Option.bind_some _ _).symm.trans H; rw [hy118]; with_reducible exact H2_) | (have H2_ := (Option.bind_some _ _).symm.trans H; with_reducible exact H2_) | with_reducible exact H | (rw [hy118]; exact H) | exact H
 have Ny118 := za.mk hy118
 clear hy118
 by_cases c3 : y118.length + l0_1.length < 4398046511104
 ·rw [if_pos c3] at H
  have LMc3 := za.mk c3
  clear c3
  obtain ⟨y121,hy121⟩ : ∃ y_ : List (S63),y_ = (y118 ++ l0_1) := ⟨_,rfl⟩
  replace H : (if a1_0 = 3 then (some (a0_0,y121)) else (some (wrap64 (a0_0 + 1),y121))) = some (r1,r2) := by first | (rw [hy121]; with_reducible exact H) | (have H2_ := (Option.bind_some _ _).symm.trans H; rw [hy121]; with_reducible exact H2_) | (have H2_ := (Option.bind_some _ _).symm.trans H; with_reducible exact H2_) | with_reducible exact H | (rw [hy121]; exact H) | exact H
  have Ny121 := za.mk hy121
  clear hy121
  by_cases c4 : a1_0 = 3
  ·rw [if_pos c4] at H
   have c4b0 : (a1_0 == 3) = true := beq_iff_eq.mpr c4
   have c4b1 : (a1_0 != 3) = false := bne_eq_false_iff_eq.mpr c4
   clear c4
   simp only [Option.some.injEq,Prod.mk.injEq] at H
   obtain ⟨rfl,rfl⟩ := H
   go_enter Try.func96,Try.ntmps96
   try go_wp2_with (first | ((with_reducible refine zaE (N := 2) rfl ?_); refine zaV ?hg (N := 2) ?hd (cs := #[.int .i64 a0_0, .slice A0_1 l0_1.length c0_1]) (t := 134) ?hr ?_; (case hd => rfl); (case hg => rfl); (case hr => exact qq); intro gb115 hg w5 hbox hb; have n0_ := za.mk (zq (qc HB.out) hb); have n1_ := za.mk (hbox); have n2_ := za.mk ((by rw [hg]; exact (zC (qc HB.out)) : w.heap.size ≤ gb115)); have n3_ := za.mk ((by rw [hg]; exact (zC (qc HB.out)) : w.heap.size ≤ gb115)); clear HB; have HB := n0_; have BK115 := n1_; have GW115 := n2_; have GE115 := n3_; clear n0_ n1_ n2_ n3_; clear hb hbox hg) | ((with_reducible refine zaE (N := 3) rfl ?_); refine zaV ?hg (N := 3) ?hd (cs := #[.int .i64 a1_0, .int .i64 a1_1, .string a1_2]) (t := 63) ?hr ?_; (case hd => rfl); (case hg => rfl); (case hr => exact qq); intro gb116 hg w6 hbox hb; have n0_ := za.mk (zD (g := gb115) (o := .cells #[.int .i64 a0_0, .slice A0_1 l0_1.length c0_1] 134 (0,0)) (qb BK115.out) hb); have n1_ := za.mk (zq (qk HB.out GE115.out) hb); have n2_ := za.mk (hbox); have n3_ := za.mk ((by rw [hg]; exact (zC (qk HB.out GE115.out)) : w.heap.size ≤ gb116)); have n4_ := za.mk ((by rw [hg]; exact (zC (qk HB.out GE115.out)) : w.heap.size ≤ gb116)); have n5_ := za.mk ((by rw [hg]; exact Nat.ne_of_lt (zae (g := gb115) (o := .cells #[.int .i64 a0_0, .slice A0_1 l0_1.length c0_1] 134 (0,0)) (qb BK115.out)) : gb115 ≠ gb116)); have n6_ := za.mk ((by rw [hg]; exact Nat.ne_of_gt (zae (g := gb115) (o := .cells #[.int .i64 a0_0, .slice A0_1 l0_1.length c0_1] 134 (0,0)) (qb BK115.out)) : gb116 ≠ gb115)); clear BK115; clear HB; have BK115 := n0_; have HB := n1_; have BK116 := n2_; have GW116 := n3_; have GE116 := n4_; have NB115_116 := n5_; have NB116_115 := n6_; clear n0_ n1_ n2_ n3_ n4_ n5_ n6_; clear hb hbox hg) | ((with_reducible refine zaE (N := 4) rfl ?_); refine zaV ?hg (N := 4) ?hd (cs := #[.int .i64 0, .slice none 0 0]) (t := 134) ?hr ?_; (case hd => rfl); (case hg => rfl); (case hr => exact qq); intro gb117 hg w7 hbox hb; have n0_ := za.mk (zD (g := gb115) (o := .cells #[.int .i64 a0_0, .slice A0_1 l0_1.length c0_1] 134 (0,0)) (qb BK115.out) hb); have n1_ := za.mk (zD (g := gb116) (o := .cells #[.int .i64 a1_0, .int .i64 a1_1, .string a1_2] 63 (0,0)) (qb BK116.out) hb); have n2_ := za.mk (zq (qu HB.out GE115.out GE116.out) hb); have n3_ := za.mk (hbox); have n4_ := za.mk ((by rw [hg]; exact (zC (qu HB.out GE115.out GE116.out)) : w.heap.size ≤ gb117)); have n5_ := za.mk ((by rw [hg]; exact (zC (qu HB.out GE115.out GE116.out)) : w.heap.size ≤ gb117)); have n6_ := za.mk ((by rw [hg]; exact Nat.ne_of_lt (zae (g := gb115) (o := .cells #[.int .i64 a0_0, .slice A0_1 l0_1.length c0_1] 134 (0,0)) (qb BK115.out)) : gb115 ≠ gb117)); have n7_ := za.mk ((by rw [hg]; exact Nat.ne_of_gt (zae (g := gb115) (o := .cells #[.int .i64 a0_0, .slice A0_1 l0_1.length c0_1] 134 (0,0)) (qb BK115.out)) : gb117 ≠ gb115)); have n8_ := za.mk ((by rw [hg]; exact Nat.ne_of_lt (zae (g := gb116) (o := .cells #[.int .i64 a1_0, .int .i64 a1_1, .string a1_2] 63 (0,0)) (qb BK116.out)) : gb116 ≠ gb117)); have n9_ := za.mk ((by rw [hg]; exact Nat.ne_of_gt (zae (g := gb116) (o := .cells #[.int .i64 a1_0, .int .i64 a1_1, .string a1_2] 63 (0,0)) (qb BK116.out)) : gb117 ≠ gb116)); clear BK115; clear BK116; clear HB; have BK115 := n0_; have BK116 := n1_; have HB := n2_; have BK117 := n3_; have GW117 := n4_; have GE117 := n5_; have NB115_117 := n6_; have NB117_115 := n7_; have NB116_117 := n8_; have NB117_116 := n9_; clear n0_ n1_ n2_ n3_ n4_ n5_ n6_ n7_ n8_ n9_; clear hb hbox hg))
   have n0_ := za.mk (zn BK115.out)
   have n1_ := za.mk (zn BK116.out)
   have n2_ := za.mk (zn BK117.out)
   have n3_ := za.mk (zf HB.out)
   clear BK115
   clear BK116
   clear BK117
   clear HB
   have BK115 := n0_
   have BK116 := n1_
   have BK117 := n2_
   have HB := n3_
   clear n0_ n1_ n2_ n3_
   refine zex (n := 10) (S := fun w' => w'.cell? ⟨gb115,0,none⟩ = some (.int .i64 a0_0) ∧ w'.cell? ⟨gb115,1,none⟩ = some (.slice A0_1 l0_1.length c0_1) ∧ w'.cell? ⟨gb116,0,none⟩ = some (.int .i64 a1_0) ∧ w'.cell? ⟨gb116,1,none⟩ = some (.int .i64 a1_1) ∧ w'.cell? ⟨gb116,2,none⟩ = some (.string a1_2)) (ds := []) #[false,false,false,false,false,false,false,false,false,false] qi rfl rfl ⟨(zh BK115.out 0).trans rfl,(zh BK115.out 1).trans rfl,(zh BK116.out 0).trans rfl,(zh BK116.out 1).trans rfl,(zh BK116.out 2).trans rfl⟩ (fun hHeld => ?_); refine zdg zaP.zgP zaP.zfG (fun HT_ HW_ => ?_)
   generalize w7.drew = w8 at BK115 BK116 BK117 HB hHeld ⊢
   refine zbg (i := 0) (N := some 6) (v := ?_) (a' := ?_) #[true,false,false,false,false,false,false,false,false,false] rfl rfl (za2 HT_.out qi) (fun _ _ _ h => h) (Or.inl ⟨by rfl,?_⟩) ?_ ?_
   rotate_left
   ·intro w'
    go_simp
    with_reducible rfl
   rotate_left
   ·simp only [Act.put,List.setIfInBounds_toArray,List.set_cons_zero,List.set_cons_succ,zad,zaf]
    rfl
   refine zbg (i := 4) (N := some 10) (v := ?_) (a' := ?_) #[true,false,false,false,true,false,false,false,false,false] rfl rfl (za2 HT_.out qi) (fun _ _ _ h => h) (Or.inl ⟨by rfl,?_⟩) ?_ ?_
   rotate_left
   ·intro w'
    go_simp
    with_reducible rfl
   rotate_left
   ·simp only [Act.put,List.setIfInBounds_toArray,List.set_cons_zero,List.set_cons_succ,zad,zaf]
    rfl
   refine zbX (i := 1) (N := some 7) (v := ?_) (a' := ?_) #[true,true,false,false,true,false,false,false,false,false] rfl rfl (zbp HT_.out HW_.out qi) (fun _ _ _ h => h) (Or.inl ⟨by rfl,?_⟩) hHeld ?_ ?_
   rotate_left
   ·rintro w' ⟨s0,s1,s2,s3,s4⟩
    go_simp
    with_reducible rfl
   rotate_left
   ·simp only [Act.put,List.setIfInBounds_toArray,List.set_cons_zero,List.set_cons_succ,zad,zaf]
    rfl
   refine zbX (i := 2) (N := some 8) (v := ?_) (a' := ?_) #[true,true,true,false,true,false,false,false,false,false] rfl rfl (zbp HT_.out HW_.out qi) (fun _ _ _ h => h) (Or.inl ⟨by rfl,?_⟩) hHeld ?_ ?_
   rotate_left
   ·rintro w' ⟨s0,s1,s2,s3,s4⟩
    go_simp
    with_reducible rfl
   rotate_left
   ·simp only [Act.put,List.setIfInBounds_toArray,List.set_cons_zero,List.set_cons_succ,zad,zaf]
    rfl
   refine zbX (i := 5) (N := some 11) (v := ?_) (a' := ?_) #[true,true,true,false,true,true,false,false,false,false] rfl rfl (zbp HT_.out HW_.out qi) (fun _ _ _ h => h) (Or.inl ⟨by rfl,?_⟩) hHeld ?_ ?_
   rotate_left
   ·rintro w' ⟨s0,s1,s2,s3,s4⟩
    go_simp
    with_reducible rfl
   rotate_left
   ·simp only [Act.put,List.setIfInBounds_toArray,List.set_cons_zero,List.set_cons_succ,zad,zaf]
    rfl
   refine zkc (σ := Value × Value × Nat) 1 #[true,true,true,true,true,true,true,true,true,false] (fun s_ => [(9,s_.1),(12,s_.2.1),(5, .pointer (some ⟨s_.2.2,0,none⟩)),(13, .agg #[.int .i64 a0_0,s_.2.1])]) (fun s_ w' => (w'.cell? ⟨gb115,0,none⟩ = some (.int .i64 a0_0) ∧ w'.cell? ⟨gb115,1,none⟩ = some (.slice A0_1 l0_1.length c0_1) ∧ w'.cell? ⟨gb116,0,none⟩ = some (.int .i64 a1_0) ∧ w'.cell? ⟨gb116,1,none⟩ = some (.int .i64 a1_1) ∧ w'.cell? ⟨gb116,2,none⟩ = some (.string a1_2)) ∧ (Kd.R k63 63 w' w.heap.size (fun k_ => k_ ≠ gb116) s_.2.1 y121) ∧ (w'.heap[gb115]? = some (.cells #[.int .i64 a0_0, .slice A0_1 l0_1.length c0_1] 134 (0,0))) ∧ (w'.heap[gb116]? = some (.cells #[.int .i64 a1_0, .int .i64 a1_1, .string a1_2] 63 (0,0))) ∧ (w'.heap[gb117]? = some (.cells #[.int .i64 0, .slice none 0 0] 134 (0,0))) ∧ (w'.heap[s_.2.2]? = some (.cells #[.int .i64 0, .slice none 0 0] 134 (0,0))) ∧ (w.heap.size ≤ s_.2.2) ∧ (w.heap.size ≤ s_.2.2) ∧ (gb115 ≠ s_.2.2) ∧ (s_.2.2 ≠ gb115) ∧ (gb116 ≠ s_.2.2) ∧ (s_.2.2 ≠ gb116) ∧ (gb117 ≠ s_.2.2) ∧ (s_.2.2 ≠ gb117) ∧ (Below w.heap.size w w')) ?_ ?_
   rotate_left
   ·intro hCont
    refine ziQ (i := 3) (j := 8) (Ni := some 9) (Nj := some 5) #[true,true,true,true,true,true,false,false,false,false] #[true,true,true,false,true,true,false,false,true,false] rfl rfl rfl rfl (zgb HT_.out qi) qt qt (fun K hK => ?_) (fun K hK => ?_)
    ·skip
     refine Kd.zbN k63 _ 63 ?hg (N := 9) ?hd (xs := ([(⟨a1_0,a1_1,a1_2⟩ : S63)] : List (S63))) (inner := [.int .i64 a1_0, .int .i64 a1_1, .string a1_2]) (ok := fun _ => True) (okp := fun _ => True) ?hr ?hp (fun _ hk => hk) trivial (Below.refl _ _) (Nat.le_refl _) qz ?_; (case hd => rfl); (case hg => rfl); (case hr => exact qq); (case hp => exact (zan.c3 (show Kd.M k63 _ _ _ (⟨a1_0,a1_1,a1_2⟩ : S63) [.int .i64 a1_0, .int .i64 a1_1, .string a1_2] from (zbs _ _ _ (⟨a1_0,a1_1,a1_2⟩ : S63) )) (zan.none _ _)))
     intro v119 w9 ho10 hb hg_ hnew_
     clear hg_ hnew_
     (first | rw [← Ny118.out] at ho10 | (simp only [Int.reduceToNat] at ho10; rw [← Ny118.out] at ho10))
     have n0_ := za.mk (Kd.zaT (Kd.zgp ho10 (g := gb116) (o := .cells #[.int .i64 a1_0, .int .i64 a1_1, .string a1_2] 63 (0,0)) (qb BK116.out)) (zC (qo HB.out GE115.out GE116.out GE117.out)))
     have n1_ := za.mk (zD (g := gb115) (o := .cells #[.int .i64 a0_0, .slice A0_1 l0_1.length c0_1] 134 (0,0)) (qb BK115.out) hb)
     have n2_ := za.mk (zD (g := gb116) (o := .cells #[.int .i64 a1_0, .int .i64 a1_1, .string a1_2] 63 (0,0)) (qb BK116.out) hb)
     have n3_ := za.mk (zD (g := gb117) (o := .cells #[.int .i64 0, .slice none 0 0] 134 (0,0)) (qb BK117.out) hb)
     have n4_ := za.mk (zq (qo HB.out GE115.out GE116.out GE117.out) hb)
     clear BK115
     clear BK116
     clear BK117
     clear HB
     have HO120 := n0_
     have BK115 := n1_
     have BK116 := n2_
     have BK117 := n3_
     have HB := n4_
     clear n0_ n1_ n2_ n3_ n4_
     clear hb ho10
     refine hK.out _ _ ⟨(zh BK115.out 0).trans rfl,(zh BK115.out 1).trans rfl,(zh BK116.out 0).trans rfl,(zh BK116.out 1).trans rfl,(zh BK116.out 2).trans rfl⟩ (fun hHeld => ?_)
     clear hK K
     refine zbA (a' := ?_) ?_ ?_
     rotate_left
     ·show Act.put _ (some 9) _ = _
      simp only [Act.put,List.setIfInBounds_toArray,List.set_cons_zero,List.set_cons_succ,zad,zaf]
      rfl
     refine ziQ (i := 6) (j := 8) (Ni := some 12) (Nj := some 5) #[true,true,true,true,true,true,true,false,false,false] #[true,true,true,true,true,true,false,false,true,false] rfl rfl rfl rfl (zgb HT_.out qi) qt qt (fun K hK => ?_) (fun K hK => ?_)
     ·skip
      refine Kd.zaY k63 (w0 := w) w.heap.size qy (.tmp 9) (.tmp 11) 31 63 (.agg #[(.int .i64 0),(.int .i64 0),(.string ⟨#[]⟩)]) 32 rfl Try.underlying31 zcg rfl qt qj v119 y118 l0_1 _ _ _ (fun k_ => k_ ≠ gb116) (fun _ => False) rfl rfl ?aO ?aR (fun _ _ h => h) (fun _ h => h.elim) ?aF ?aB ?aS ?aL ?_
      (case aR => exact ql HR0_1.out HB.out)
      (case aB => exact (qo HB.out GE115.out GE116.out GE117.out))
      (case aF => exact (fun k_ hk => Kd.zbW (g := gb116) (o := .cells #[.int .i64 a1_0, .int .i64 a1_1, .string a1_2] 63 (0,0)) (qb BK116.out) k_ hk))
      (case aO => exact (qE HO120.out))
      (case aS => exact (zC (qo HB.out GE115.out GE116.out GE117.out)))
      (case aL => have := LMc3.out; omega)
      intro v122 w11 ho hb hg hat
      rw [← Ny121.out] at ho
      have n0_ := za.mk (za9 (g := gb115) (o := .cells #[.int .i64 a0_0, .slice A0_1 l0_1.length c0_1] 134 (0,0)) (qb BK115.out) hg (Kd.zda HO120.out BK115.out qt))
      have n1_ := za.mk (za9 (g := gb116) (o := .cells #[.int .i64 a1_0, .int .i64 a1_1, .string a1_2] 63 (0,0)) (qb BK116.out) hg (Kd.zeN HO120.out (fun _ hk => hk.2)))
      have n2_ := za.mk (za9 (g := gb117) (o := .cells #[.int .i64 0, .slice none 0 0] 134 (0,0)) (qb BK117.out) hg (Kd.zda HO120.out BK117.out qt))
      have n3_ := za.mk (hb)
      have n4_ := za.mk (ho)
      clear BK115
      clear BK116
      clear BK117
      clear HB
      clear HO120
      have BK115 := n0_
      have BK116 := n1_
      have BK117 := n2_
      have HB := n3_
      have HO123 := n4_
      clear n0_ n1_ n2_ n3_ n4_
      clear ho hb hg hat
      obtain ⟨Ao12,co12,eo12⟩ := Kd.zbr HO123.out
      (first | subst eo12 | (injection eo12 with f1_ f2_ f3_; have f4_ := f1_.symm; have f5_ := f3_.symm; clear f1_ f2_ f3_; subst f4_; subst f5_))
      refine hK.out _ _ ⟨(zh BK115.out 0).trans rfl,(zh BK115.out 1).trans rfl,(zh BK116.out 0).trans rfl,(zh BK116.out 1).trans rfl,(zh BK116.out 2).trans rfl⟩ (fun hHeld => ?_)
      clear hK K
      refine zbA (a' := ?_) ?_ ?_
      rotate_left
      ·show Act.put _ (some 12) _ = _
       simp only [Act.put,List.setIfInBounds_toArray,List.set_cons_zero,List.set_cons_succ,zad,zaf]
       rfl
      refine zbg (i := 7) (N := some 13) (v := ?_) (a' := ?_) #[true,true,true,true,true,true,true,true,false,false] rfl rfl (za2 HT_.out qi) (fun _ _ _ h => h) (Or.inl ⟨by rfl,?_⟩) ?_ ?_
      rotate_left
      ·intro w'
       go_simp
       with_reducible rfl
      rotate_left
      ·simp only [Act.put,List.setIfInBounds_toArray,List.set_cons_zero,List.set_cons_succ,zad,zaf]
       rfl
      refine zcO (i := 8) (N := some 5) #[true,true,true,true,true,true,true,true,true,false] rfl rfl (zb9 HT_.out qi) qt (fun K hK => ?_)
      refine zdN ?hg (N := 5) ?hd (cs := #[.int .i64 0, .slice none 0 0]) (t := 134) ?hr ?_; (case hd => rfl); (case hg => rfl); (case hr => exact qq)
      intro gb124 hg w13 hbox hb
      have n0_ := za.mk (Kd.zJ (qp HO123.out) hb)
      have n1_ := za.mk (zD (g := gb115) (o := .cells #[.int .i64 a0_0, .slice A0_1 l0_1.length c0_1] 134 (0,0)) (qb BK115.out) hb)
      have n2_ := za.mk (zD (g := gb116) (o := .cells #[.int .i64 a1_0, .int .i64 a1_1, .string a1_2] 63 (0,0)) (qb BK116.out) hb)
      have n3_ := za.mk (zD (g := gb117) (o := .cells #[.int .i64 0, .slice none 0 0] 134 (0,0)) (qb BK117.out) hb)
      have n4_ := za.mk (zq (qo HB.out GE115.out GE116.out GE117.out) hb)
      have n5_ := za.mk (hbox)
      have n6_ := za.mk ((by rw [hg]; exact (zC (qo HB.out GE115.out GE116.out GE117.out)) : w.heap.size ≤ gb124))
      have n7_ := za.mk ((by rw [hg]; exact (zC (qo HB.out GE115.out GE116.out GE117.out)) : w.heap.size ≤ gb124))
      have n8_ := za.mk ((by rw [hg]; exact Nat.ne_of_lt (zae (g := gb115) (o := .cells #[.int .i64 a0_0, .slice A0_1 l0_1.length c0_1] 134 (0,0)) (qb BK115.out)) : gb115 ≠ gb124))
      have n9_ := za.mk ((by rw [hg]; exact Nat.ne_of_gt (zae (g := gb115) (o := .cells #[.int .i64 a0_0, .slice A0_1 l0_1.length c0_1] 134 (0,0)) (qb BK115.out)) : gb124 ≠ gb115))
      have n10_ := za.mk ((by rw [hg]; exact Nat.ne_of_lt (zae (g := gb116) (o := .cells #[.int .i64 a1_0, .int .i64 a1_1, .string a1_2] 63 (0,0)) (qb BK116.out)) : gb116 ≠ gb124))
      have n11_ := za.mk ((by rw [hg]; exact Nat.ne_of_gt (zae (g := gb116) (o := .cells #[.int .i64 a1_0, .int .i64 a1_1, .string a1_2] 63 (0,0)) (qb BK116.out)) : gb124 ≠ gb116))
      have n12_ := za.mk ((by rw [hg]; exact Nat.ne_of_lt (zae (g := gb117) (o := .cells #[.int .i64 0, .slice none 0 0] 134 (0,0)) (qb BK117.out)) : gb117 ≠ gb124))
      have n13_ := za.mk ((by rw [hg]; exact Nat.ne_of_gt (zae (g := gb117) (o := .cells #[.int .i64 0, .slice none 0 0] 134 (0,0)) (qb BK117.out)) : gb124 ≠ gb117))
      clear HO123
      clear BK115
      clear BK116
      clear BK117
      clear HB
      have HO123 := n0_
      have BK115 := n1_
      have BK116 := n2_
      have BK117 := n3_
      have HB := n4_
      have BK124 := n5_
      have GW124 := n6_
      have GE124 := n7_
      have NB115_124 := n8_
      have NB124_115 := n9_
      have NB116_124 := n10_
      have NB124_116 := n11_
      have NB117_124 := n12_
      have NB124_117 := n13_
      clear n0_ n1_ n2_ n3_ n4_ n5_ n6_ n7_ n8_ n9_ n10_ n11_ n12_ n13_
      clear hb hbox hg
      refine hK.out _ _ ⟨(zh BK115.out 0).trans rfl,(zh BK115.out 1).trans rfl,(zh BK116.out 0).trans rfl,(zh BK116.out 1).trans rfl,(zh BK116.out 2).trans rfl⟩ (fun hHeld => ?_)
      clear hK K
      refine zbA (a' := ?_) ?_ ?_
      rotate_left
      ·show Act.put _ (some 5) _ = _
       simp only [Act.put,List.setIfInBounds_toArray,List.set_cons_zero,List.set_cons_succ,zad,zaf]
       rfl
      exact zbA qF (hCont (v119, .slice Ao12 y121.length co12,gb124) _ ⟨hHeld,(qp HO123.out),(qb BK115.out),(qb BK116.out),(qb BK117.out),(qb BK124.out),GW124.out,GE124.out,NB115_124.out,NB124_115.out,NB116_124.out,NB124_116.out,NB117_124.out,NB124_117.out,(by repeat (first | (with_reducible first | exact HB.out | apply ze | apply zb | apply zf | refine zi ?_ GE115.out | refine zi ?_ GE116.out | refine zi ?_ GE117.out | refine zi ?_ GE124.out) | exact HB.out))⟩)
     ·skip
      refine zdN ?hg (N := 5) ?hd (cs := #[.int .i64 0, .slice none 0 0]) (t := 134) ?hr ?_; (case hd => rfl); (case hg => rfl); (case hr => exact qq)
      intro gb124 hg w11 hbox hb
      have n0_ := za.mk (Kd.zJ (qp HO120.out) hb)
      have n1_ := za.mk (zD (g := gb115) (o := .cells #[.int .i64 a0_0, .slice A0_1 l0_1.length c0_1] 134 (0,0)) (qb BK115.out) hb)
      have n2_ := za.mk (zD (g := gb116) (o := .cells #[.int .i64 a1_0, .int .i64 a1_1, .string a1_2] 63 (0,0)) (qb BK116.out) hb)
      have n3_ := za.mk (zD (g := gb117) (o := .cells #[.int .i64 0, .slice none 0 0] 134 (0,0)) (qb BK117.out) hb)
      have n4_ := za.mk (zq (qo HB.out GE115.out GE116.out GE117.out) hb)
      have n5_ := za.mk (hbox)
      have n6_ := za.mk ((by rw [hg]; exact (zC (qo HB.out GE115.out GE116.out GE117.out)) : w.heap.size ≤ gb124))
      have n7_ := za.mk ((by rw [hg]; exact (zC (qo HB.out GE115.out GE116.out GE117.out)) : w.heap.size ≤ gb124))
      have n8_ := za.mk ((by rw [hg]; exact Nat.ne_of_lt (zae (g := gb115) (o := .cells #[.int .i64 a0_0, .slice A0_1 l0_1.length c0_1] 134 (0,0)) (qb BK115.out)) : gb115 ≠ gb124))
      have n9_ := za.mk ((by rw [hg]; exact Nat.ne_of_gt (zae (g := gb115) (o := .cells #[.int .i64 a0_0, .slice A0_1 l0_1.length c0_1] 134 (0,0)) (qb BK115.out)) : gb124 ≠ gb115))
      have n10_ := za.mk ((by rw [hg]; exact Nat.ne_of_lt (zae (g := gb116) (o := .cells #[.int .i64 a1_0, .int .i64 a1_1, .string a1_2] 63 (0,0)) (qb BK116.out)) : gb116 ≠ gb124))
      have n11_ := za.mk ((by rw [hg]; exact Nat.ne_of_gt (zae (g := gb116) (o := .cells #[.int .i64 a1_0, .int .i64 a1_1, .string a1_2] 63 (0,0)) (qb BK116.out)) : gb124 ≠ gb116))
      have n12_ := za.mk ((by rw [hg]; exact Nat.ne_of_lt (zae (g := gb117) (o := .cells #[.int .i64 0, .slice none 0 0] 134 (0,0)) (qb BK117.out)) : gb117 ≠ gb124))
      have n13_ := za.mk ((by rw [hg]; exact Nat.ne_of_gt (zae (g := gb117) (o := .cells #[.int .i64 0, .slice none 0 0] 134 (0,0)) (qb BK117.out)) : gb124 ≠ gb117))
      clear HO120
      clear BK115
      clear BK116
      clear BK117
      clear HB
      have HO120 := n0_
      have BK115 := n1_
      have BK116 := n2_
      have BK117 := n3_
      have HB := n4_
      have BK124 := n5_
      have GW124 := n6_
      have GE124 := n7_
      have NB115_124 := n8_
      have NB124_115 := n9_
      have NB116_124 := n10_
      have NB124_116 := n11_
      have NB117_124 := n12_
      have NB124_117 := n13_
      clear n0_ n1_ n2_ n3_ n4_ n5_ n6_ n7_ n8_ n9_ n10_ n11_ n12_ n13_
      clear hb hbox hg
      refine hK.out _ _ ⟨(zh BK115.out 0).trans rfl,(zh BK115.out 1).trans rfl,(zh BK116.out 0).trans rfl,(zh BK116.out 1).trans rfl,(zh BK116.out 2).trans rfl⟩ (fun hHeld => ?_)
      clear hK K
      refine zbA (a' := ?_) ?_ ?_
      rotate_left
      ·show Act.put _ (some 5) _ = _
       simp only [Act.put,List.setIfInBounds_toArray,List.set_cons_zero,List.set_cons_succ,zad,zaf]
       rfl
      refine zcO (i := 6) (N := some 12) #[true,true,true,true,true,true,true,false,true,false] rfl rfl (zb9 HT_.out qi) qt (fun K hK => ?_)
      refine Kd.zaY k63 (w0 := w) w.heap.size qy (.tmp 9) (.tmp 11) 31 63 (.agg #[(.int .i64 0),(.int .i64 0),(.string ⟨#[]⟩)]) 32 rfl Try.underlying31 zcg rfl qt qj v119 y118 l0_1 _ _ _ (fun k_ => k_ ≠ gb116) (fun _ => False) rfl rfl ?aO ?aR (fun _ _ h => h) (fun _ h => h.elim) ?aF ?aB ?aS ?aL ?_
      (case aR => exact ql HR0_1.out HB.out)
      (case aB => exact (by repeat (first | (with_reducible first | exact HB.out | apply ze | apply zb | apply zf | refine zi ?_ GE115.out | refine zi ?_ GE116.out | refine zi ?_ GE117.out | refine zi ?_ GE124.out) | exact HB.out)))
      (case aF => exact (fun k_ hk => Kd.zbW (g := gb116) (o := .cells #[.int .i64 a1_0, .int .i64 a1_1, .string a1_2] 63 (0,0)) (qb BK116.out) k_ hk))
      (case aO => exact (qE HO120.out))
      (case aS => exact (zC (by repeat (first | (with_reducible first | exact HB.out | apply ze | apply zb | apply zf | refine zi ?_ GE115.out | refine zi ?_ GE116.out | refine zi ?_ GE117.out | refine zi ?_ GE124.out) | exact HB.out))))
      (case aL => have := LMc3.out; omega)
      intro v122 w12 ho hb hg hat
      rw [← Ny121.out] at ho
      have n0_ := za.mk (za9 (g := gb115) (o := .cells #[.int .i64 a0_0, .slice A0_1 l0_1.length c0_1] 134 (0,0)) (qb BK115.out) hg (Kd.zda HO120.out BK115.out qt))
      have n1_ := za.mk (za9 (g := gb116) (o := .cells #[.int .i64 a1_0, .int .i64 a1_1, .string a1_2] 63 (0,0)) (qb BK116.out) hg (Kd.zeN HO120.out (fun _ hk => hk.2)))
      have n2_ := za.mk (za9 (g := gb117) (o := .cells #[.int .i64 0, .slice none 0 0] 134 (0,0)) (qb BK117.out) hg (Kd.zda HO120.out BK117.out qt))
      have n3_ := za.mk (za9 (g := gb124) (o := .cells #[.int .i64 0, .slice none 0 0] 134 (0,0)) (qb BK124.out) hg (Kd.zda HO120.out BK124.out qt))
      have n4_ := za.mk (hb)
      have n5_ := za.mk (ho)
      clear BK115
      clear BK116
      clear BK117
      clear BK124
      clear HB
      clear HO120
      have BK115 := n0_
      have BK116 := n1_
      have BK117 := n2_
      have BK124 := n3_
      have HB := n4_
      have HO123 := n5_
      clear n0_ n1_ n2_ n3_ n4_ n5_
      clear ho hb hg hat
      obtain ⟨Ao13,co13,eo13⟩ := Kd.zbr HO123.out
      (first | subst eo13 | (injection eo13 with f1_ f2_ f3_; have f4_ := f1_.symm; have f5_ := f3_.symm; clear f1_ f2_ f3_; subst f4_; subst f5_))
      refine hK.out _ _ ⟨(zh BK115.out 0).trans rfl,(zh BK115.out 1).trans rfl,(zh BK116.out 0).trans rfl,(zh BK116.out 1).trans rfl,(zh BK116.out 2).trans rfl⟩ (fun hHeld => ?_)
      clear hK K
      refine zbA (a' := ?_) ?_ ?_
      rotate_left
      ·show Act.put _ (some 12) _ = _
       simp only [Act.put,List.setIfInBounds_toArray,List.set_cons_zero,List.set_cons_succ,zad,zaf]
       rfl
      refine zbg (i := 7) (N := some 13) (v := ?_) (a' := ?_) #[true,true,true,true,true,true,true,true,true,false] rfl rfl (za2 HT_.out qi) (fun _ _ _ h => h) (Or.inl ⟨by rfl,?_⟩) ?_ ?_
      rotate_left
      ·intro w'
       go_simp
       with_reducible rfl
      rotate_left
      ·simp only [Act.put,List.setIfInBounds_toArray,List.set_cons_zero,List.set_cons_succ,zad,zaf]
       rfl
      exact zbA qF (hCont (v119, .slice Ao13 y121.length co13,gb124) _ ⟨hHeld,(qp HO123.out),(qb BK115.out),(qb BK116.out),(qb BK117.out),(qb BK124.out),GW124.out,GE124.out,NB115_124.out,NB124_115.out,NB116_124.out,NB124_116.out,NB117_124.out,NB124_117.out,(by repeat (first | (with_reducible first | exact HB.out | apply ze | apply zb | apply zf | refine zi ?_ GE115.out | refine zi ?_ GE116.out | refine zi ?_ GE117.out | refine zi ?_ GE124.out) | exact HB.out))⟩)
    ·skip
     refine zdN ?hg (N := 5) ?hd (cs := #[.int .i64 0, .slice none 0 0]) (t := 134) ?hr ?_; (case hd => rfl); (case hg => rfl); (case hr => exact qq)
     intro gb124 hg w9 hbox hb
     have n0_ := za.mk (zD (g := gb115) (o := .cells #[.int .i64 a0_0, .slice A0_1 l0_1.length c0_1] 134 (0,0)) (qb BK115.out) hb)
     have n1_ := za.mk (zD (g := gb116) (o := .cells #[.int .i64 a1_0, .int .i64 a1_1, .string a1_2] 63 (0,0)) (qb BK116.out) hb)
     have n2_ := za.mk (zD (g := gb117) (o := .cells #[.int .i64 0, .slice none 0 0] 134 (0,0)) (qb BK117.out) hb)
     have n3_ := za.mk (zq (qo HB.out GE115.out GE116.out GE117.out) hb)
     have n4_ := za.mk (hbox)
     have n5_ := za.mk ((by rw [hg]; exact (zC (qo HB.out GE115.out GE116.out GE117.out)) : w.heap.size ≤ gb124))
     have n6_ := za.mk ((by rw [hg]; exact (zC (qo HB.out GE115.out GE116.out GE117.out)) : w.heap.size ≤ gb124))
     have n7_ := za.mk ((by rw [hg]; exact Nat.ne_of_lt (zae (g := gb115) (o := .cells #[.int .i64 a0_0, .slice A0_1 l0_1.length c0_1] 134 (0,0)) (qb BK115.out)) : gb115 ≠ gb124))
     have n8_ := za.mk ((by rw [hg]; exact Nat.ne_of_gt (zae (g := gb115) (o := .cells #[.int .i64 a0_0, .slice A0_1 l0_1.length c0_1] 134 (0,0)) (qb BK115.out)) : gb124 ≠ gb115))
     have n9_ := za.mk ((by rw [hg]; exact Nat.ne_of_lt (zae (g := gb116) (o := .cells #[.int .i64 a1_0, .int .i64 a1_1, .string a1_2] 63 (0,0)) (qb BK116.out)) : gb116 ≠ gb124))
     have n10_ := za.mk ((by rw [hg]; exact Nat.ne_of_gt (zae (g := gb116) (o := .cells #[.int .i64 a1_0, .int .i64 a1_1, .string a1_2] 63 (0,0)) (qb BK116.out)) : gb124 ≠ gb116))
     have n11_ := za.mk ((by rw [hg]; exact Nat.ne_of_lt (zae (g := gb117) (o := .cells #[.int .i64 0, .slice none 0 0] 134 (0,0)) (qb BK117.out)) : gb117 ≠ gb124))
     have n12_ := za.mk ((by rw [hg]; exact Nat.ne_of_gt (zae (g := gb117) (o := .cells #[.int .i64 0, .slice none 0 0] 134 (0,0)) (qb BK117.out)) : gb124 ≠ gb117))
     clear BK115
     clear BK116
     clear BK117
     clear HB
     have BK115 := n0_
     have BK116 := n1_
     have BK117 := n2_
     have HB := n3_
     have BK124 := n4_
     have GW124 := n5_
     have GE124 := n6_
     have NB115_124 := n7_
     have NB124_115 := n8_
     have NB116_124 := n9_
     have NB124_116 := n10_
     have NB117_124 := n11_
     have NB124_117 := n12_
     clear n0_ n1_ n2_ n3_ n4_ n5_ n6_ n7_ n8_ n9_ n10_ n11_ n12_
     clear hb hbox hg
     refine hK.out _ _ ⟨(zh BK115.out 0).trans rfl,(zh BK115.out 1).trans rfl,(zh BK116.out 0).trans rfl,(zh BK116.out 1).trans rfl,(zh BK116.out 2).trans rfl⟩ (fun hHeld => ?_)
     clear hK K
     refine zbA (a' := ?_) ?_ ?_
     rotate_left
     ·show Act.put _ (some 5) _ = _
      simp only [Act.put,List.setIfInBounds_toArray,List.set_cons_zero,List.set_cons_succ,zad,zaf]
      rfl
     refine zcO (i := 3) (N := some 9) #[true,true,true,true,true,true,false,false,true,false] rfl rfl (zb9 HT_.out qi) qt (fun K hK => ?_)
     refine Kd.zbN k63 _ 63 ?hg (N := 9) ?hd (xs := ([(⟨a1_0,a1_1,a1_2⟩ : S63)] : List (S63))) (inner := [.int .i64 a1_0, .int .i64 a1_1, .string a1_2]) (ok := fun _ => True) (okp := fun _ => True) ?hr ?hp (fun _ hk => hk) trivial (Below.refl _ _) (Nat.le_refl _) qz ?_; (case hd => rfl); (case hg => rfl); (case hr => exact qq); (case hp => exact (zan.c3 (show Kd.M k63 _ _ _ (⟨a1_0,a1_1,a1_2⟩ : S63) [.int .i64 a1_0, .int .i64 a1_1, .string a1_2] from (zbs _ _ _ (⟨a1_0,a1_1,a1_2⟩ : S63) )) (zan.none _ _)))
     intro v119 w10 ho11 hb hg_ hnew_
     clear hg_ hnew_
     (first | rw [← Ny118.out] at ho11 | (simp only [Int.reduceToNat] at ho11; rw [← Ny118.out] at ho11))
     have n0_ := za.mk (Kd.zaT (Kd.zgp ho11 (g := gb116) (o := .cells #[.int .i64 a1_0, .int .i64 a1_1, .string a1_2] 63 (0,0)) (qb BK116.out)) (zC (by repeat (first | (with_reducible first | exact HB.out | apply ze | apply zb | apply zf | refine zi ?_ GE115.out | refine zi ?_ GE116.out | refine zi ?_ GE117.out | refine zi ?_ GE124.out) | exact HB.out))))
     have n1_ := za.mk (zD (g := gb115) (o := .cells #[.int .i64 a0_0, .slice A0_1 l0_1.length c0_1] 134 (0,0)) (qb BK115.out) hb)
     have n2_ := za.mk (zD (g := gb116) (o := .cells #[.int .i64 a1_0, .int .i64 a1_1, .string a1_2] 63 (0,0)) (qb BK116.out) hb)
     have n3_ := za.mk (zD (g := gb117) (o := .cells #[.int .i64 0, .slice none 0 0] 134 (0,0)) (qb BK117.out) hb)
     have n4_ := za.mk (zD (g := gb124) (o := .cells #[.int .i64 0, .slice none 0 0] 134 (0,0)) (qb BK124.out) hb)
     have n5_ := za.mk (zq (by repeat (first | (with_reducible first | exact HB.out | apply ze | apply zb | apply zf | refine zi ?_ GE115.out | refine zi ?_ GE116.out | refine zi ?_ GE117.out | refine zi ?_ GE124.out) | exact HB.out)) hb)
     clear BK115
     clear BK116
     clear BK117
     clear BK124
     clear HB
     have HO120 := n0_
     have BK115 := n1_
     have BK116 := n2_
     have BK117 := n3_
     have BK124 := n4_
     have HB := n5_
     clear n0_ n1_ n2_ n3_ n4_ n5_
     clear hb ho11
     refine hK.out _ _ ⟨(zh BK115.out 0).trans rfl,(zh BK115.out 1).trans rfl,(zh BK116.out 0).trans rfl,(zh BK116.out 1).trans rfl,(zh BK116.out 2).trans rfl⟩ (fun hHeld => ?_)
     clear hK K
     refine zbA (a' := ?_) ?_ ?_
     rotate_left
     ·show Act.put _ (some 9) _ = _
      simp only [Act.put,List.setIfInBounds_toArray,List.set_cons_zero,List.set_cons_succ,zad,zaf]
      rfl
     refine zcO (i := 6) (N := some 12) #[true,true,true,true,true,true,true,false,true,false] rfl rfl (zb9 HT_.out qi) qt (fun K hK => ?_)
     refine Kd.zaY k63 (w0 := w) w.heap.size qy (.tmp 9) (.tmp 11) 31 63 (.agg #[(.int .i64 0),(.int .i64 0),(.string ⟨#[]⟩)]) 32 rfl Try.underlying31 zcg rfl qt qj v119 y118 l0_1 _ _ _ (fun k_ => k_ ≠ gb116) (fun _ => False) rfl rfl ?aO ?aR (fun _ _ h => h) (fun _ h => h.elim) ?aF ?aB ?aS ?aL ?_
     (case aR => exact ql HR0_1.out HB.out)
     (case aB => exact (by repeat (first | (with_reducible first | exact HB.out | apply ze | apply zb | apply zf | refine zi ?_ GE115.out | refine zi ?_ GE116.out | refine zi ?_ GE117.out | refine zi ?_ GE124.out) | exact HB.out)))
     (case aF => exact (fun k_ hk => Kd.zbW (g := gb116) (o := .cells #[.int .i64 a1_0, .int .i64 a1_1, .string a1_2] 63 (0,0)) (qb BK116.out) k_ hk))
     (case aO => exact (qE HO120.out))
     (case aS => exact (zC (by repeat (first | (with_reducible first | exact HB.out | apply ze | apply zb | apply zf | refine zi ?_ GE115.out | refine zi ?_ GE116.out | refine zi ?_ GE117.out | refine zi ?_ GE124.out) | exact HB.out))))
     (case aL => have := LMc3.out; omega)
     intro v122 w12 ho hb hg hat
     rw [← Ny121.out] at ho
     have n0_ := za.mk (za9 (g := gb115) (o := .cells #[.int .i64 a0_0, .slice A0_1 l0_1.length c0_1] 134 (0,0)) (qb BK115.out) hg (Kd.zda HO120.out BK115.out qt))
     have n1_ := za.mk (za9 (g := gb116) (o := .cells #[.int .i64 a1_0, .int .i64 a1_1, .string a1_2] 63 (0,0)) (qb BK116.out) hg (Kd.zeN HO120.out (fun _ hk => hk.2)))
     have n2_ := za.mk (za9 (g := gb117) (o := .cells #[.int .i64 0, .slice none 0 0] 134 (0,0)) (qb BK117.out) hg (Kd.zda HO120.out BK117.out qt))
     have n3_ := za.mk (za9 (g := gb124) (o := .cells #[.int .i64 0, .slice none 0 0] 134 (0,0)) (qb BK124.out) hg (Kd.zda HO120.out BK124.out qt))
     have n4_ := za.mk (hb)
     have n5_ := za.mk (ho)
     clear BK115
     clear BK116
     clear BK117
     clear BK124
     clear HB
     clear HO120
     have BK115 := n0_
     have BK116 := n1_
     have BK117 := n2_
     have BK124 := n3_
     have HB := n4_
     have HO123 := n5_
     clear n0_ n1_ n2_ n3_ n4_ n5_
     clear ho hb hg hat
     obtain ⟨Ao13,co13,eo13⟩ := Kd.zbr HO123.out
     (first | subst eo13 | (injection eo13 with f1_ f2_ f3_; have f4_ := f1_.symm; have f5_ := f3_.symm; clear f1_ f2_ f3_; subst f4_; subst f5_))
     refine hK.out _ _ ⟨(zh BK115.out 0).trans rfl,(zh BK115.out 1).trans rfl,(zh BK116.out 0).trans rfl,(zh BK116.out 1).trans rfl,(zh BK116.out 2).trans rfl⟩ (fun hHeld => ?_)
     clear hK K
     refine zbA (a' := ?_) ?_ ?_
     rotate_left
     ·show Act.put _ (some 12) _ = _
      simp only [Act.put,List.setIfInBounds_toArray,List.set_cons_zero,List.set_cons_succ,zad,zaf]
      rfl
     refine zbg (i := 7) (N := some 13) (v := ?_) (a' := ?_) #[true,true,true,true,true,true,true,true,true,false] rfl rfl (za2 HT_.out qi) (fun _ _ _ h => h) (Or.inl ⟨by rfl,?_⟩) ?_ ?_
     rotate_left
     ·intro w'
      go_simp
      with_reducible rfl
     rotate_left
     ·simp only [Act.put,List.setIfInBounds_toArray,List.set_cons_zero,List.set_cons_succ,zad,zaf]
      rfl
     exact zbA qF (hCont (v119, .slice Ao13 y121.length co13,gb124) _ ⟨hHeld,(qp HO123.out),(qb BK115.out),(qb BK116.out),(qb BK117.out),(qb BK124.out),GW124.out,GE124.out,NB115_124.out,NB124_115.out,NB116_124.out,NB124_116.out,NB117_124.out,NB124_117.out,(by repeat (first | (with_reducible first | exact HB.out | apply ze | apply zb | apply zf | refine zi ?_ GE115.out | refine zi ?_ GE116.out | refine zi ?_ GE117.out | refine zi ?_ GE124.out) | exact HB.out))⟩)
   rintro ⟨v119,v122,gb124⟩ w14 ⟨hS_,h0_,h1_,h2_,h3_,h4_,h5_,h6_,h7_,h8_,h9_,h10_,h11_,h12_,h13_⟩
   have n0_ : za (Kd.R k63 63 w14 w.heap.size (fun k_ => k_ ≠ gb116) v122 y121) := ⟨h0_⟩
   have n1_ : za (w14.heap[gb115]? = some (.cells #[.int .i64 a0_0, .slice A0_1 l0_1.length c0_1] 134 (0,0))) := ⟨h1_⟩
   have n2_ : za (w14.heap[gb116]? = some (.cells #[.int .i64 a1_0, .int .i64 a1_1, .string a1_2] 63 (0,0))) := ⟨h2_⟩
   have n3_ : za (w14.heap[gb117]? = some (.cells #[.int .i64 0, .slice none 0 0] 134 (0,0))) := ⟨h3_⟩
   have n4_ : za (w14.heap[gb124]? = some (.cells #[.int .i64 0, .slice none 0 0] 134 (0,0))) := ⟨h4_⟩
   have n5_ : za (w.heap.size ≤ gb124) := ⟨h5_⟩
   have n6_ : za (w.heap.size ≤ gb124) := ⟨h6_⟩
   have n7_ : za (gb115 ≠ gb124) := ⟨h7_⟩
   have n8_ : za (gb124 ≠ gb115) := ⟨h8_⟩
   have n9_ : za (gb116 ≠ gb124) := ⟨h9_⟩
   have n10_ : za (gb124 ≠ gb116) := ⟨h10_⟩
   have n11_ : za (gb117 ≠ gb124) := ⟨h11_⟩
   have n12_ : za (gb124 ≠ gb117) := ⟨h12_⟩
   have n13_ : za (Below w.heap.size w w14) := ⟨h13_⟩
   clear BK115
   clear BK116
   clear BK117
   clear HB
   clear h0_ h1_ h2_ h3_ h4_ h5_ h6_ h7_ h8_ h9_ h10_ h11_ h12_ h13_
   have HO123 := n0_
   have BK115 := n1_
   have BK116 := n2_
   have BK117 := n3_
   have BK124 := n4_
   have GW124 := n5_
   have GE124 := n6_
   have NB115_124 := n7_
   have NB124_115 := n8_
   have NB116_124 := n9_
   have NB124_116 := n10_
   have NB117_124 := n11_
   have NB124_117 := n12_
   have HB := n13_
   clear n0_ n1_ n2_ n3_ n4_ n5_ n6_ n7_ n8_ n9_ n10_ n11_ n12_ n13_
   have hHeld : w14.cell? ⟨gb115,0,none⟩ = some (.int .i64 a0_0) ∧ w14.cell? ⟨gb115,1,none⟩ = some (.slice A0_1 l0_1.length c0_1) ∧ w14.cell? ⟨gb116,0,none⟩ = some (.int .i64 a1_0) ∧ w14.cell? ⟨gb116,1,none⟩ = some (.int .i64 a1_1) ∧ w14.cell? ⟨gb116,2,none⟩ = some (.string a1_2) := hS_
   obtain ⟨Ao15,co15,eo15⟩ := Kd.zbr HO123.out
   (first | subst eo15 | (injection eo15 with f1_ f2_ f3_; have f4_ := f1_.symm; have f5_ := f3_.symm; clear f1_ f2_ f3_; subst f4_; subst f5_))
   refine zbA (a' := ?_) ?_ ?_
   rotate_left
   ·simp only [zdh,Act.put,List.setIfInBounds_toArray,List.set_cons_zero,List.set_cons_succ]
    rfl
   refine zcO (i := 9) (N := none) #[true,true,true,true,true,true,true,true,true,true] rfl rfl (zb9 HT_.out qi) qt (fun K hK => ?_)
   have hs16 : w14.cell? ⟨gb124,0,none⟩ = some (.int .i64 0) := (zh BK124.out 0).trans rfl
   have hfs16 := zo BK124.out 0
   have hns16_0 := NB115_124.out
   have hns16_1 := NB116_124.out
   have hns16_2 := NB117_124.out
   have hms16_0 := NB124_115.out
   have hms16_1 := NB124_116.out
   have hms16_2 := NB124_117.out
   have hs17 : w14.cell? ⟨gb124,1,none⟩ = some (.slice none 0 0) := (zh BK124.out 1).trans rfl
   have hfs17 := zo BK124.out 1
   have hns17_0 := NB115_124.out
   have hns17_1 := NB116_124.out
   have hns17_2 := NB117_124.out
   have hms17_0 := NB124_115.out
   have hms17_1 := NB124_116.out
   have hms17_2 := NB124_117.out
   refine zkl (w1 := ?_) qy rfl ?_ ?_
   rotate_left
   ·go_simp
    rfl
   refine hK.out _ _ ⟨((cell_far (p := ⟨gb124,_,none⟩) NB115_124.out _).trans (((cell_far (p := ⟨gb124,_,none⟩) NB115_124.out _).trans (hHeld.1)))),((cell_far (p := ⟨gb124,_,none⟩) NB115_124.out _).trans (((cell_far (p := ⟨gb124,_,none⟩) NB115_124.out _).trans (hHeld.2.1)))),((cell_far (p := ⟨gb124,_,none⟩) NB116_124.out _).trans (((cell_far (p := ⟨gb124,_,none⟩) NB116_124.out _).trans (hHeld.2.2.1)))),((cell_far (p := ⟨gb124,_,none⟩) NB116_124.out _).trans (((cell_far (p := ⟨gb124,_,none⟩) NB116_124.out _).trans (hHeld.2.2.2.1)))),((cell_far (p := ⟨gb124,_,none⟩) NB116_124.out _).trans (((cell_far (p := ⟨gb124,_,none⟩) NB116_124.out _).trans (hHeld.2.2.2.2))))⟩ (fun hHeld => ?_)
   clear hK K
   refine zeZ (zdP HT_.out qi) ?_
   have hnb18 := NB116_115.out
   have hnc18 := NB115_116.out
   have hnb19 := NB116_117.out
   have hnc19 := NB117_116.out
   have hnb20 := NB116_124.out
   have hnc20 := NB124_116.out
   have hcz21_0 : w14.cell? ⟨gb116,0,none⟩ = some (.int .i64 a1_0) := (zh BK116.out 0).trans rfl
   have hcz21_1 : w14.cell? ⟨gb116,1,none⟩ = some (.int .i64 a1_1) := (zh BK116.out 1).trans rfl
   have hcz21_2 : w14.cell? ⟨gb116,2,none⟩ = some (.string a1_2) := (zh BK116.out 2).trans rfl
   have hfz21_0 := zo BK116.out 0
   have hfz21_1 := zo BK116.out 1
   have hfz21_2 := zo BK116.out 2
   have hnb22 := NB124_115.out
   have hnc22 := NB115_124.out
   have hnb23 := NB124_117.out
   have hnc23 := NB117_124.out
   have hcz24_0 : w14.cell? ⟨gb124,0,none⟩ = some (.int .i64 0) := (zh BK124.out 0).trans rfl
   have hcz24_1 : w14.cell? ⟨gb124,1,none⟩ = some (.slice none 0 0) := (zh BK124.out 1).trans rfl
   have hfz24_0 := zo BK124.out 0
   have hfz24_1 := zo BK124.out 1
   have hnb25 := NB117_115.out
   have hnc25 := NB115_117.out
   have hcz26_0 : w14.cell? ⟨gb117,0,none⟩ = some (.int .i64 0) := (zh BK117.out 0).trans rfl
   have hcz26_1 : w14.cell? ⟨gb117,1,none⟩ = some (.slice none 0 0) := (zh BK117.out 1).trans rfl
   have hfz26_0 := zo BK117.out 0
   have hfz26_1 := zo BK117.out 1
   try go_wp2
   refine bodyPost_ret (results_cell_row rfl _ _ gb117 134 #[.int .i64 a0_0, .slice Ao15 y121.length co15] (0,0) _ rfl (by (with_reducible repeat (first | refine zm ?_ _ | refine zn ?_ | refine zl ?_ _)); refine zah (cs := #[.int .i64 a0_0, .slice none 0 0]) ?_ 1 _ rfl; (with_reducible repeat (first | refine zm ?_ _ | refine zn ?_ | refine zl ?_ _)); refine zah (cs := #[.int .i64 0, .slice none 0 0]) ?_ 0 _ rfl; (with_reducible repeat (first | refine zm ?_ _ | refine zn ?_ | refine zl ?_ _)); refine za3 ?_ NB117_124.out _; (with_reducible repeat (first | refine zm ?_ _ | refine zn ?_ | refine zl ?_ _)); refine za3 ?_ NB117_124.out _; (with_reducible repeat (first | refine zm ?_ _ | refine zn ?_ | refine zl ?_ _)); exact BK117.out) Try.underlying134 rfl qi) rfl ?_
   exact ⟨_,by first | rfl | (simp [zy,zx] <;> rfl) | (simp [*,zy,zx] <;> rfl),by (with_reducible repeat (first | apply Kd.zal | apply Kd.zam | apply Kd.zau)); exact Kd.zaA (Kd.zdW (p := ⟨gb117,1,none⟩) (Kd.zdW (p := ⟨gb117,0,none⟩) (Kd.zdW (p := ⟨gb124,1,none⟩) (Kd.zdW (p := ⟨gb124,0,none⟩) (Kd.zdL (Kd.zdL HO123.out BK124.out qt) BK117.out qt) (fun _ hk => hk.1.2) (.int .i64 a0_0)) (fun _ hk => hk.1.2) (.slice Ao15 y121.length co15)) (fun _ hk => hk.2) (.int .i64 a0_0)) (fun _ hk => hk.2) (.slice Ao15 y121.length co15)) (fun _ hk => trivial),by repeat (first | (with_reducible first | exact HB.out | apply ze | apply zb | apply zf | refine zi ?_ GE115.out | refine zi ?_ GE116.out | refine zi ?_ GE117.out | refine zi ?_ GE124.out) | exact HB.out)⟩
  ·rw [if_neg c4] at H
   have c4b0 : (a1_0 == 3) = false := beq_eq_false_iff_ne.mpr c4
   have c4b1 : (a1_0 != 3) = true := bne_iff_ne.mpr c4
   simp only [Option.some.injEq,Prod.mk.injEq] at H
   obtain ⟨rfl,rfl⟩ := H
   go_enter Try.func96,Try.ntmps96
   try go_wp2_with (first | ((with_reducible refine zaE (N := 2) rfl ?_); refine zaV ?hg (N := 2) ?hd (cs := #[.int .i64 a0_0, .slice A0_1 l0_1.length c0_1]) (t := 134) ?hr ?_; (case hd => rfl); (case hg => rfl); (case hr => exact qq); intro gb115 hg w27 hbox hb; have n0_ := za.mk (zq (qc HB.out) hb); have n1_ := za.mk (hbox); have n2_ := za.mk ((by rw [hg]; exact (zC (qc HB.out)) : w.heap.size ≤ gb115)); have n3_ := za.mk ((by rw [hg]; exact (zC (qc HB.out)) : w.heap.size ≤ gb115)); clear HB; have HB := n0_; have BK115 := n1_; have GW115 := n2_; have GE115 := n3_; clear n0_ n1_ n2_ n3_; clear hb hbox hg) | ((with_reducible refine zaE (N := 3) rfl ?_); refine zaV ?hg (N := 3) ?hd (cs := #[.int .i64 a1_0, .int .i64 a1_1, .string a1_2]) (t := 63) ?hr ?_; (case hd => rfl); (case hg => rfl); (case hr => exact qq); intro gb116 hg w28 hbox hb; have n0_ := za.mk (zD (g := gb115) (o := .cells #[.int .i64 a0_0, .slice A0_1 l0_1.length c0_1] 134 (0,0)) (qb BK115.out) hb); have n1_ := za.mk (zq (qk HB.out GE115.out) hb); have n2_ := za.mk (hbox); have n3_ := za.mk ((by rw [hg]; exact (zC (qk HB.out GE115.out)) : w.heap.size ≤ gb116)); have n4_ := za.mk ((by rw [hg]; exact (zC (qk HB.out GE115.out)) : w.heap.size ≤ gb116)); have n5_ := za.mk ((by rw [hg]; exact Nat.ne_of_lt (zae (g := gb115) (o := .cells #[.int .i64 a0_0, .slice A0_1 l0_1.length c0_1] 134 (0,0)) (qb BK115.out)) : gb115 ≠ gb116)); have n6_ := za.mk ((by rw [hg]; exact Nat.ne_of_gt (zae (g := gb115) (o := .cells #[.int .i64 a0_0, .slice A0_1 l0_1.length c0_1] 134 (0,0)) (qb BK115.out)) : gb116 ≠ gb115)); clear BK115; clear HB; have BK115 := n0_; have HB := n1_; have BK116 := n2_; have GW116 := n3_; have GE116 := n4_; have NB115_116 := n5_; have NB116_115 := n6_; clear n0_ n1_ n2_ n3_ n4_ n5_ n6_; clear hb hbox hg) | ((with_reducible refine zaE (N := 4) rfl ?_); refine zaV ?hg (N := 4) ?hd (cs := #[.int .i64 0, .slice none 0 0]) (t := 134) ?hr ?_; (case hd => rfl); (case hg => rfl); (case hr => exact qq); intro gb117 hg w29 hbox hb; have n0_ := za.mk (zD (g := gb115) (o := .cells #[.int .i64 a0_0, .slice A0_1 l0_1.length c0_1] 134 (0,0)) (qb BK115.out) hb); have n1_ := za.mk (zD (g := gb116) (o := .cells #[.int .i64 a1_0, .int .i64 a1_1, .string a1_2] 63 (0,0)) (qb BK116.out) hb); have n2_ := za.mk (zq (qu HB.out GE115.out GE116.out) hb); have n3_ := za.mk (hbox); have n4_ := za.mk ((by rw [hg]; exact (zC (qu HB.out GE115.out GE116.out)) : w.heap.size ≤ gb117)); have n5_ := za.mk ((by rw [hg]; exact (zC (qu HB.out GE115.out GE116.out)) : w.heap.size ≤ gb117)); have n6_ := za.mk ((by rw [hg]; exact Nat.ne_of_lt (zae (g := gb115) (o := .cells #[.int .i64 a0_0, .slice A0_1 l0_1.length c0_1] 134 (0,0)) (qb BK115.out)) : gb115 ≠ gb117)); have n7_ := za.mk ((by rw [hg]; exact Nat.ne_of_gt (zae (g := gb115) (o := .cells #[.int .i64 a0_0, .slice A0_1 l0_1.length c0_1] 134 (0,0)) (qb BK115.out)) : gb117 ≠ gb115)); have n8_ := za.mk ((by rw [hg]; exact Nat.ne_of_lt (zae (g := gb116) (o := .cells #[.int .i64 a1_0, .int .i64 a1_1, .string a1_2] 63 (0,0)) (qb BK116.out)) : gb116 ≠ gb117)); have n9_ := za.mk ((by rw [hg]; exact Nat.ne_of_gt (zae (g := gb116) (o := .cells #[.int .i64 a1_0, .int .i64 a1_1, .string a1_2] 63 (0,0)) (qb BK116.out)) : gb117 ≠ gb116)); clear BK115; clear BK116; clear HB; have BK115 := n0_; have BK116 := n1_; have HB := n2_; have BK117 := n3_; have GW117 := n4_; have GE117 := n5_; have NB115_117 := n6_; have NB117_115 := n7_; have NB116_117 := n8_; have NB117_116 := n9_; clear n0_ n1_ n2_ n3_ n4_ n5_ n6_ n7_ n8_ n9_; clear hb hbox hg))
   have n0_ := za.mk (zn BK115.out)
   have n1_ := za.mk (zn BK116.out)
   have n2_ := za.mk (zn BK117.out)
   have n3_ := za.mk (zf HB.out)
   clear BK115
   clear BK116
   clear BK117
   clear HB
   have BK115 := n0_
   have BK116 := n1_
   have BK117 := n2_
   have HB := n3_
   clear n0_ n1_ n2_ n3_
   refine zex (n := 10) (S := fun w' => w'.cell? ⟨gb115,0,none⟩ = some (.int .i64 a0_0) ∧ w'.cell? ⟨gb115,1,none⟩ = some (.slice A0_1 l0_1.length c0_1) ∧ w'.cell? ⟨gb116,0,none⟩ = some (.int .i64 a1_0) ∧ w'.cell? ⟨gb116,1,none⟩ = some (.int .i64 a1_1) ∧ w'.cell? ⟨gb116,2,none⟩ = some (.string a1_2)) (ds := []) #[false,false,false,false,false,false,false,false,false,false] qi rfl rfl ⟨(zh BK115.out 0).trans rfl,(zh BK115.out 1).trans rfl,(zh BK116.out 0).trans rfl,(zh BK116.out 1).trans rfl,(zh BK116.out 2).trans rfl⟩ (fun hHeld => ?_); refine zdg zaP.zgP zaP.zfG (fun HT_ HW_ => ?_)
   generalize w29.drew = w30 at BK115 BK116 BK117 HB hHeld ⊢
   refine zbg (i := 0) (N := some 6) (v := ?_) (a' := ?_) #[true,false,false,false,false,false,false,false,false,false] rfl rfl (za2 HT_.out qi) (fun _ _ _ h => h) (Or.inl ⟨by rfl,?_⟩) ?_ ?_
   rotate_left
   ·intro w'
    go_simp
    with_reducible rfl
   rotate_left
   ·simp only [Act.put,List.setIfInBounds_toArray,List.set_cons_zero,List.set_cons_succ,zad,zaf]
    rfl
   refine zbg (i := 4) (N := some 10) (v := ?_) (a' := ?_) #[true,false,false,false,true,false,false,false,false,false] rfl rfl (za2 HT_.out qi) (fun _ _ _ h => h) (Or.inl ⟨by rfl,?_⟩) ?_ ?_
   rotate_left
   ·intro w'
    go_simp
    with_reducible rfl
   rotate_left
   ·simp only [Act.put,List.setIfInBounds_toArray,List.set_cons_zero,List.set_cons_succ,zad,zaf]
    rfl
   refine zbX (i := 1) (N := some 7) (v := ?_) (a' := ?_) #[true,true,false,false,true,false,false,false,false,false] rfl rfl (zbp HT_.out HW_.out qi) (fun _ _ _ h => h) (Or.inl ⟨by rfl,?_⟩) hHeld ?_ ?_
   rotate_left
   ·rintro w' ⟨s0,s1,s2,s3,s4⟩
    go_simp
    with_reducible rfl
   rotate_left
   ·simp only [Act.put,List.setIfInBounds_toArray,List.set_cons_zero,List.set_cons_succ,zad,zaf]
    rfl
   refine zbX (i := 2) (N := some 8) (v := ?_) (a' := ?_) #[true,true,true,false,true,false,false,false,false,false] rfl rfl (zbp HT_.out HW_.out qi) (fun _ _ _ h => h) (Or.inl ⟨by rfl,?_⟩) hHeld ?_ ?_
   rotate_left
   ·rintro w' ⟨s0,s1,s2,s3,s4⟩
    go_simp
    with_reducible rfl
   rotate_left
   ·simp only [Act.put,List.setIfInBounds_toArray,List.set_cons_zero,List.set_cons_succ,zad,zaf]
    rfl
   refine zbX (i := 5) (N := some 11) (v := ?_) (a' := ?_) #[true,true,true,false,true,true,false,false,false,false] rfl rfl (zbp HT_.out HW_.out qi) (fun _ _ _ h => h) (Or.inl ⟨by rfl,?_⟩) hHeld ?_ ?_
   rotate_left
   ·rintro w' ⟨s0,s1,s2,s3,s4⟩
    go_simp
    with_reducible rfl
   rotate_left
   ·simp only [Act.put,List.setIfInBounds_toArray,List.set_cons_zero,List.set_cons_succ,zad,zaf]
    rfl
   refine zkc (σ := Value × Value × Nat) 1 #[true,true,true,true,true,true,true,true,true,false] (fun s_ => [(9,s_.1),(12,s_.2.1),(5, .pointer (some ⟨s_.2.2,0,none⟩)),(13, .agg #[.int .i64 a0_0,s_.2.1])]) (fun s_ w' => (w'.cell? ⟨gb115,0,none⟩ = some (.int .i64 a0_0) ∧ w'.cell? ⟨gb115,1,none⟩ = some (.slice A0_1 l0_1.length c0_1) ∧ w'.cell? ⟨gb116,0,none⟩ = some (.int .i64 a1_0) ∧ w'.cell? ⟨gb116,1,none⟩ = some (.int .i64 a1_1) ∧ w'.cell? ⟨gb116,2,none⟩ = some (.string a1_2)) ∧ (Kd.R k63 63 w' w.heap.size (fun k_ => k_ ≠ gb116) s_.2.1 y121) ∧ (w'.heap[gb115]? = some (.cells #[.int .i64 a0_0, .slice A0_1 l0_1.length c0_1] 134 (0,0))) ∧ (w'.heap[gb116]? = some (.cells #[.int .i64 a1_0, .int .i64 a1_1, .string a1_2] 63 (0,0))) ∧ (w'.heap[gb117]? = some (.cells #[.int .i64 0, .slice none 0 0] 134 (0,0))) ∧ (w'.heap[s_.2.2]? = some (.cells #[.int .i64 0, .slice none 0 0] 134 (0,0))) ∧ (w.heap.size ≤ s_.2.2) ∧ (w.heap.size ≤ s_.2.2) ∧ (gb115 ≠ s_.2.2) ∧ (s_.2.2 ≠ gb115) ∧ (gb116 ≠ s_.2.2) ∧ (s_.2.2 ≠ gb116) ∧ (gb117 ≠ s_.2.2) ∧ (s_.2.2 ≠ gb117) ∧ (Below w.heap.size w w')) ?_ ?_
   rotate_left
   ·intro hCont
    refine ziQ (i := 3) (j := 8) (Ni := some 9) (Nj := some 5) #[true,true,true,true,true,true,false,false,false,false] #[true,true,true,false,true,true,false,false,true,false] rfl rfl rfl rfl (zgb HT_.out qi) qt qt (fun K hK => ?_) (fun K hK => ?_)
    ·skip
     refine Kd.zbN k63 _ 63 ?hg (N := 9) ?hd (xs := ([(⟨a1_0,a1_1,a1_2⟩ : S63)] : List (S63))) (inner := [.int .i64 a1_0, .int .i64 a1_1, .string a1_2]) (ok := fun _ => True) (okp := fun _ => True) ?hr ?hp (fun _ hk => hk) trivial (Below.refl _ _) (Nat.le_refl _) qz ?_; (case hd => rfl); (case hg => rfl); (case hr => exact qq); (case hp => exact (zan.c3 (show Kd.M k63 _ _ _ (⟨a1_0,a1_1,a1_2⟩ : S63) [.int .i64 a1_0, .int .i64 a1_1, .string a1_2] from (zbs _ _ _ (⟨a1_0,a1_1,a1_2⟩ : S63) )) (zan.none _ _)))
     intro v119 w31 ho32 hb hg_ hnew_
     clear hg_ hnew_
     (first | rw [← Ny118.out] at ho32 | (simp only [Int.reduceToNat] at ho32; rw [← Ny118.out] at ho32))
     have n0_ := za.mk (Kd.zaT (Kd.zgp ho32 (g := gb116) (o := .cells #[.int .i64 a1_0, .int .i64 a1_1, .string a1_2] 63 (0,0)) (qb BK116.out)) (zC (qo HB.out GE115.out GE116.out GE117.out)))
     have n1_ := za.mk (zD (g := gb115) (o := .cells #[.int .i64 a0_0, .slice A0_1 l0_1.length c0_1] 134 (0,0)) (qb BK115.out) hb)
     have n2_ := za.mk (zD (g := gb116) (o := .cells #[.int .i64 a1_0, .int .i64 a1_1, .string a1_2] 63 (0,0)) (qb BK116.out) hb)
     have n3_ := za.mk (zD (g := gb117) (o := .cells #[.int .i64 0, .slice none 0 0] 134 (0,0)) (qb BK117.out) hb)
     have n4_ := za.mk (zq (qo HB.out GE115.out GE116.out GE117.out) hb)
     clear BK115
     clear BK116
     clear BK117
     clear HB
     have HO120 := n0_
     have BK115 := n1_
     have BK116 := n2_
     have BK117 := n3_
     have HB := n4_
     clear n0_ n1_ n2_ n3_ n4_
     clear hb ho32
     refine hK.out _ _ ⟨(zh BK115.out 0).trans rfl,(zh BK115.out 1).trans rfl,(zh BK116.out 0).trans rfl,(zh BK116.out 1).trans rfl,(zh BK116.out 2).trans rfl⟩ (fun hHeld => ?_)
     clear hK K
     refine zbA (a' := ?_) ?_ ?_
     rotate_left
     ·show Act.put _ (some 9) _ = _
      simp only [Act.put,List.setIfInBounds_toArray,List.set_cons_zero,List.set_cons_succ,zad,zaf]
      rfl
     refine ziQ (i := 6) (j := 8) (Ni := some 12) (Nj := some 5) #[true,true,true,true,true,true,true,false,false,false] #[true,true,true,true,true,true,false,false,true,false] rfl rfl rfl rfl (zgb HT_.out qi) qt qt (fun K hK => ?_) (fun K hK => ?_)
     ·skip
      refine Kd.zaY k63 (w0 := w) w.heap.size qy (.tmp 9) (.tmp 11) 31 63 (.agg #[(.int .i64 0),(.int .i64 0),(.string ⟨#[]⟩)]) 32 rfl Try.underlying31 zcg rfl qt qj v119 y118 l0_1 _ _ _ (fun k_ => k_ ≠ gb116) (fun _ => False) rfl rfl ?aO ?aR (fun _ _ h => h) (fun _ h => h.elim) ?aF ?aB ?aS ?aL ?_
      (case aR => exact ql HR0_1.out HB.out)
      (case aB => exact (qo HB.out GE115.out GE116.out GE117.out))
      (case aF => exact (fun k_ hk => Kd.zbW (g := gb116) (o := .cells #[.int .i64 a1_0, .int .i64 a1_1, .string a1_2] 63 (0,0)) (qb BK116.out) k_ hk))
      (case aO => exact (qE HO120.out))
      (case aS => exact (zC (qo HB.out GE115.out GE116.out GE117.out)))
      (case aL => have := LMc3.out; omega)
      intro v122 w33 ho hb hg hat
      rw [← Ny121.out] at ho
      have n0_ := za.mk (za9 (g := gb115) (o := .cells #[.int .i64 a0_0, .slice A0_1 l0_1.length c0_1] 134 (0,0)) (qb BK115.out) hg (Kd.zda HO120.out BK115.out qt))
      have n1_ := za.mk (za9 (g := gb116) (o := .cells #[.int .i64 a1_0, .int .i64 a1_1, .string a1_2] 63 (0,0)) (qb BK116.out) hg (Kd.zeN HO120.out (fun _ hk => hk.2)))
      have n2_ := za.mk (za9 (g := gb117) (o := .cells #[.int .i64 0, .slice none 0 0] 134 (0,0)) (qb BK117.out) hg (Kd.zda HO120.out BK117.out qt))
      have n3_ := za.mk (hb)
      have n4_ := za.mk (ho)
      clear BK115
      clear BK116
      clear BK117
      clear HB
      clear HO120
      have BK115 := n0_
      have BK116 := n1_
      have BK117 := n2_
      have HB := n3_
      have HO123 := n4_
      clear n0_ n1_ n2_ n3_ n4_
      clear ho hb hg hat
      obtain ⟨Ao34,co34,eo34⟩ := Kd.zbr HO123.out
      (first | subst eo34 | (injection eo34 with f1_ f2_ f3_; have f4_ := f1_.symm; have f5_ := f3_.symm; clear f1_ f2_ f3_; subst f4_; subst f5_))
      refine hK.out _ _ ⟨(zh BK115.out 0).trans rfl,(zh BK115.out 1).trans rfl,(zh BK116.out 0).trans rfl,(zh BK116.out 1).trans rfl,(zh BK116.out 2).trans rfl⟩ (fun hHeld => ?_)
      clear hK K
      refine zbA (a' := ?_) ?_ ?_
      rotate_left
      ·show Act.put _ (some 12) _ = _
       simp only [Act.put,List.setIfInBounds_toArray,List.set_cons_zero,List.set_cons_succ,zad,zaf]
       rfl
      refine zbg (i := 7) (N := some 13) (v := ?_) (a' := ?_) #[true,true,true,true,true,true,true,true,false,false] rfl rfl (za2 HT_.out qi) (fun _ _ _ h => h) (Or.inl ⟨by rfl,?_⟩) ?_ ?_
      rotate_left
      ·intro w'
       go_simp
       with_reducible rfl
      rotate_left
      ·simp only [Act.put,List.setIfInBounds_toArray,List.set_cons_zero,List.set_cons_succ,zad,zaf]
       rfl
      refine zcO (i := 8) (N := some 5) #[true,true,true,true,true,true,true,true,true,false] rfl rfl (zb9 HT_.out qi) qt (fun K hK => ?_)
      refine zdN ?hg (N := 5) ?hd (cs := #[.int .i64 0, .slice none 0 0]) (t := 134) ?hr ?_; (case hd => rfl); (case hg => rfl); (case hr => exact qq)
      intro gb124 hg w35 hbox hb
      have n0_ := za.mk (Kd.zJ (qp HO123.out) hb)
      have n1_ := za.mk (zD (g := gb115) (o := .cells #[.int .i64 a0_0, .slice A0_1 l0_1.length c0_1] 134 (0,0)) (qb BK115.out) hb)
      have n2_ := za.mk (zD (g := gb116) (o := .cells #[.int .i64 a1_0, .int .i64 a1_1, .string a1_2] 63 (0,0)) (qb BK116.out) hb)
      have n3_ := za.mk (zD (g := gb117) (o := .cells #[.int .i64 0, .slice none 0 0] 134 (0,0)) (qb BK117.out) hb)
      have n4_ := za.mk (zq (qo HB.out GE115.out GE116.out GE117.out) hb)
      have n5_ := za.mk (hbox)
      have n6_ := za.mk ((by rw [hg]; exact (zC (qo HB.out GE115.out GE116.out GE117.out)) : w.heap.size ≤ gb124))
      have n7_ := za.mk ((by rw [hg]; exact (zC (qo HB.out GE115.out GE116.out GE117.out)) : w.heap.size ≤ gb124))
      have n8_ := za.mk ((by rw [hg]; exact Nat.ne_of_lt (zae (g := gb115) (o := .cells #[.int .i64 a0_0, .slice A0_1 l0_1.length c0_1] 134 (0,0)) (qb BK115.out)) : gb115 ≠ gb124))
      have n9_ := za.mk ((by rw [hg]; exact Nat.ne_of_gt (zae (g := gb115) (o := .cells #[.int .i64 a0_0, .slice A0_1 l0_1.length c0_1] 134 (0,0)) (qb BK115.out)) : gb124 ≠ gb115))
      have n10_ := za.mk ((by rw [hg]; exact Nat.ne_of_lt (zae (g := gb116) (o := .cells #[.int .i64 a1_0, .int .i64 a1_1, .string a1_2] 63 (0,0)) (qb BK116.out)) : gb116 ≠ gb124))
      have n11_ := za.mk ((by rw [hg]; exact Nat.ne_of_gt (zae (g := gb116) (o := .cells #[.int .i64 a1_0, .int .i64 a1_1, .string a1_2] 63 (0,0)) (qb BK116.out)) : gb124 ≠ gb116))
      have n12_ := za.mk ((by rw [hg]; exact Nat.ne_of_lt (zae (g := gb117) (o := .cells #[.int .i64 0, .slice none 0 0] 134 (0,0)) (qb BK117.out)) : gb117 ≠ gb124))
      have n13_ := za.mk ((by rw [hg]; exact Nat.ne_of_gt (zae (g := gb117) (o := .cells #[.int .i64 0, .slice none 0 0] 134 (0,0)) (qb BK117.out)) : gb124 ≠ gb117))
      clear HO123
      clear BK115
      clear BK116
      clear BK117
      clear HB
      have HO123 := n0_
      have BK115 := n1_
      have BK116 := n2_
      have BK117 := n3_
      have HB := n4_
      have BK124 := n5_
      have GW124 := n6_
      have GE124 := n7_
      have NB115_124 := n8_
      have NB124_115 := n9_
      have NB116_124 := n10_
      have NB124_116 := n11_
      have NB117_124 := n12_
      have NB124_117 := n13_
      clear n0_ n1_ n2_ n3_ n4_ n5_ n6_ n7_ n8_ n9_ n10_ n11_ n12_ n13_
      clear hb hbox hg
      refine hK.out _ _ ⟨(zh BK115.out 0).trans rfl,(zh BK115.out 1).trans rfl,(zh BK116.out 0).trans rfl,(zh BK116.out 1).trans rfl,(zh BK116.out 2).trans rfl⟩ (fun hHeld => ?_)
      clear hK K
      refine zbA (a' := ?_) ?_ ?_
      rotate_left
      ·show Act.put _ (some 5) _ = _
       simp only [Act.put,List.setIfInBounds_toArray,List.set_cons_zero,List.set_cons_succ,zad,zaf]
       rfl
      exact zbA qF (hCont (v119, .slice Ao34 y121.length co34,gb124) _ ⟨hHeld,(qp HO123.out),(qb BK115.out),(qb BK116.out),(qb BK117.out),(qb BK124.out),GW124.out,GE124.out,NB115_124.out,NB124_115.out,NB116_124.out,NB124_116.out,NB117_124.out,NB124_117.out,(by repeat (first | (with_reducible first | exact HB.out | apply ze | apply zb | apply zf | refine zi ?_ GE115.out | refine zi ?_ GE116.out | refine zi ?_ GE117.out | refine zi ?_ GE124.out) | exact HB.out))⟩)
     ·skip
      refine zdN ?hg (N := 5) ?hd (cs := #[.int .i64 0, .slice none 0 0]) (t := 134) ?hr ?_; (case hd => rfl); (case hg => rfl); (case hr => exact qq)
      intro gb124 hg w33 hbox hb
      have n0_ := za.mk (Kd.zJ (qp HO120.out) hb)
      have n1_ := za.mk (zD (g := gb115) (o := .cells #[.int .i64 a0_0, .slice A0_1 l0_1.length c0_1] 134 (0,0)) (qb BK115.out) hb)
      have n2_ := za.mk (zD (g := gb116) (o := .cells #[.int .i64 a1_0, .int .i64 a1_1, .string a1_2] 63 (0,0)) (qb BK116.out) hb)
      have n3_ := za.mk (zD (g := gb117) (o := .cells #[.int .i64 0, .slice none 0 0] 134 (0,0)) (qb BK117.out) hb)
      have n4_ := za.mk (zq (qo HB.out GE115.out GE116.out GE117.out) hb)
      have n5_ := za.mk (hbox)
      have n6_ := za.mk ((by rw [hg]; exact (zC (qo HB.out GE115.out GE116.out GE117.out)) : w.heap.size ≤ gb124))
      have n7_ := za.mk ((by rw [hg]; exact (zC (qo HB.out GE115.out GE116.out GE117.out)) : w.heap.size ≤ gb124))
      have n8_ := za.mk ((by rw [hg]; exact Nat.ne_of_lt (zae (g := gb115) (o := .cells #[.int .i64 a0_0, .slice A0_1 l0_1.length c0_1] 134 (0,0)) (qb BK115.out)) : gb115 ≠ gb124))
      have n9_ := za.mk ((by rw [hg]; exact Nat.ne_of_gt (zae (g := gb115) (o := .cells #[.int .i64 a0_0, .slice A0_1 l0_1.length c0_1] 134 (0,0)) (qb BK115.out)) : gb124 ≠ gb115))
      have n10_ := za.mk ((by rw [hg]; exact Nat.ne_of_lt (zae (g := gb116) (o := .cells #[.int .i64 a1_0, .int .i64 a1_1, .string a1_2] 63 (0,0)) (qb BK116.out)) : gb116 ≠ gb124))
      have n11_ := za.mk ((by rw [hg]; exact Nat.ne_of_gt (zae (g := gb116) (o := .cells #[.int .i64 a1_0, .int .i64 a1_1, .string a1_2] 63 (0,0)) (qb BK116.out)) : gb124 ≠ gb116))
      have n12_ := za.mk ((by rw [hg]; exact Nat.ne_of_lt (zae (g := gb117) (o := .cells #[.int .i64 0, .slice none 0 0] 134 (0,0)) (qb BK117.out)) : gb117 ≠ gb124))
      have n13_ := za.mk ((by rw [hg]; exact Nat.ne_of_gt (zae (g := gb117) (o := .cells #[.int .i64 0, .slice none 0 0] 134 (0,0)) (qb BK117.out)) : gb124 ≠ gb117))
      clear HO120
      clear BK115
      clear BK116
      clear BK117
      clear HB
      have HO120 := n0_
      have BK115 := n1_
      have BK116 := n2_
      have BK117 := n3_
      have HB := n4_
      have BK124 := n5_
      have GW124 := n6_
      have GE124 := n7_
      have NB115_124 := n8_
      have NB124_115 := n9_
      have NB116_124 := n10_
      have NB124_116 := n11_
      have NB117_124 := n12_
      have NB124_117 := n13_
      clear n0_ n1_ n2_ n3_ n4_ n5_ n6_ n7_ n8_ n9_ n10_ n11_ n12_ n13_
      clear hb hbox hg
      refine hK.out _ _ ⟨(zh BK115.out 0).trans rfl,(zh BK115.out 1).trans rfl,(zh BK116.out 0).trans rfl,(zh BK116.out 1).trans rfl,(zh BK116.out 2).trans rfl⟩ (fun hHeld => ?_)
      clear hK K
      refine zbA (a' := ?_) ?_ ?_
      rotate_left
      ·show Act.put _ (some 5) _ = _
       simp only [Act.put,List.setIfInBounds_toArray,List.set_cons_zero,List.set_cons_succ,zad,zaf]
       rfl
      refine zcO (i := 6) (N := some 12) #[true,true,true,true,true,true,true,false,true,false] rfl rfl (zb9 HT_.out qi) qt (fun K hK => ?_)
      refine Kd.zaY k63 (w0 := w) w.heap.size qy (.tmp 9) (.tmp 11) 31 63 (.agg #[(.int .i64 0),(.int .i64 0),(.string ⟨#[]⟩)]) 32 rfl Try.underlying31 zcg rfl qt qj v119 y118 l0_1 _ _ _ (fun k_ => k_ ≠ gb116) (fun _ => False) rfl rfl ?aO ?aR (fun _ _ h => h) (fun _ h => h.elim) ?aF ?aB ?aS ?aL ?_
      (case aR => exact ql HR0_1.out HB.out)
      (case aB => exact (by repeat (first | (with_reducible first | exact HB.out | apply ze | apply zb | apply zf | refine zi ?_ GE115.out | refine zi ?_ GE116.out | refine zi ?_ GE117.out | refine zi ?_ GE124.out) | exact HB.out)))
      (case aF => exact (fun k_ hk => Kd.zbW (g := gb116) (o := .cells #[.int .i64 a1_0, .int .i64 a1_1, .string a1_2] 63 (0,0)) (qb BK116.out) k_ hk))
      (case aO => exact (qE HO120.out))
      (case aS => exact (zC (by repeat (first | (with_reducible first | exact HB.out | apply ze | apply zb | apply zf | refine zi ?_ GE115.out | refine zi ?_ GE116.out | refine zi ?_ GE117.out | refine zi ?_ GE124.out) | exact HB.out))))
      (case aL => have := LMc3.out; omega)
      intro v122 w34 ho hb hg hat
      rw [← Ny121.out] at ho
      have n0_ := za.mk (za9 (g := gb115) (o := .cells #[.int .i64 a0_0, .slice A0_1 l0_1.length c0_1] 134 (0,0)) (qb BK115.out) hg (Kd.zda HO120.out BK115.out qt))
      have n1_ := za.mk (za9 (g := gb116) (o := .cells #[.int .i64 a1_0, .int .i64 a1_1, .string a1_2] 63 (0,0)) (qb BK116.out) hg (Kd.zeN HO120.out (fun _ hk => hk.2)))
      have n2_ := za.mk (za9 (g := gb117) (o := .cells #[.int .i64 0, .slice none 0 0] 134 (0,0)) (qb BK117.out) hg (Kd.zda HO120.out BK117.out qt))
      have n3_ := za.mk (za9 (g := gb124) (o := .cells #[.int .i64 0, .slice none 0 0] 134 (0,0)) (qb BK124.out) hg (Kd.zda HO120.out BK124.out qt))
      have n4_ := za.mk (hb)
      have n5_ := za.mk (ho)
      clear BK115
      clear BK116
      clear BK117
      clear BK124
      clear HB
      clear HO120
      have BK115 := n0_
      have BK116 := n1_
      have BK117 := n2_
      have BK124 := n3_
      have HB := n4_
      have HO123 := n5_
      clear n0_ n1_ n2_ n3_ n4_ n5_
      clear ho hb hg hat
      obtain ⟨Ao35,co35,eo35⟩ := Kd.zbr HO123.out
      (first | subst eo35 | (injection eo35 with f1_ f2_ f3_; have f4_ := f1_.symm; have f5_ := f3_.symm; clear f1_ f2_ f3_; subst f4_; subst f5_))
      refine hK.out _ _ ⟨(zh BK115.out 0).trans rfl,(zh BK115.out 1).trans rfl,(zh BK116.out 0).trans rfl,(zh BK116.out 1).trans rfl,(zh BK116.out 2).trans rfl⟩ (fun hHeld => ?_)
      clear hK K
      refine zbA (a' := ?_) ?_ ?_
      rotate_left
      ·show Act.put _ (some 12) _ = _
       simp only [Act.put,List.setIfInBounds_toArray,List.set_cons_zero,List.set_cons_succ,zad,zaf]
       rfl
      refine zbg (i := 7) (N := some 13) (v := ?_) (a' := ?_) #[true,true,true,true,true,true,true,true,true,false] rfl rfl (za2 HT_.out qi) (fun _ _ _ h => h) (Or.inl ⟨by rfl,?_⟩) ?_ ?_
      rotate_left
      ·intro w'
       go_simp
       with_reducible rfl
      rotate_left
      ·simp only [Act.put,List.setIfInBounds_toArray,List.set_cons_zero,List.set_cons_succ,zad,zaf]
       rfl
      exact zbA qF (hCont (v119, .slice Ao35 y121.length co35,gb124) _ ⟨hHeld,(qp HO123.out),(qb BK115.out),(qb BK116.out),(qb BK117.out),(qb BK124.out),GW124.out,GE124.out,NB115_124.out,NB124_115.out,NB116_124.out,NB124_116.out,NB117_124.out,NB124_117.out,(by repeat (first | (with_reducible first | exact HB.out | apply ze | apply zb | apply zf | refine zi ?_ GE115.out | refine zi ?_ GE116.out | refine zi ?_ GE117.out | refine zi ?_ GE124.out) | exact HB.out))⟩)
    ·skip
     refine zdN ?hg (N := 5) ?hd (cs := #[.int .i64 0, .slice none 0 0]) (t := 134) ?hr ?_; (case hd => rfl); (case hg => rfl); (case hr => exact qq)
     intro gb124 hg w31 hbox hb
     have n0_ := za.mk (zD (g := gb115) (o := .cells #[.int .i64 a0_0, .slice A0_1 l0_1.length c0_1] 134 (0,0)) (qb BK115.out) hb)
     have n1_ := za.mk (zD (g := gb116) (o := .cells #[.int .i64 a1_0, .int .i64 a1_1, .string a1_2] 63 (0,0)) (qb BK116.out) hb)
     have n2_ := za.mk (zD (g := gb117) (o := .cells #[.int .i64 0, .slice none 0 0] 134 (0,0)) (qb BK117.out) hb)
     have n3_ := za.mk (zq (qo HB.out GE115.out GE116.out GE117.out) hb)
     have n4_ := za.mk (hbox)
     have n5_ := za.mk ((by rw [hg]; exact (zC (qo HB.out GE115.out GE116.out GE117.out)) : w.heap.size ≤ gb124))
     have n6_ := za.mk ((by rw [hg]; exact (zC (qo HB.out GE115.out GE116.out GE117.out)) : w.heap.size ≤ gb124))
     have n7_ := za.mk ((by rw [hg]; exact Nat.ne_of_lt (zae (g := gb115) (o := .cells #[.int .i64 a0_0, .slice A0_1 l0_1.length c0_1] 134 (0,0)) (qb BK115.out)) : gb115 ≠ gb124))
     have n8_ := za.mk ((by rw [hg]; exact Nat.ne_of_gt (zae (g := gb115) (o := .cells #[.int .i64 a0_0, .slice A0_1 l0_1.length c0_1] 134 (0,0)) (qb BK115.out)) : gb124 ≠ gb115))
     have n9_ := za.mk ((by rw [hg]; exact Nat.ne_of_lt (zae (g := gb116) (o := .cells #[.int .i64 a1_0, .int .i64 a1_1, .string a1_2] 63 (0,0)) (qb BK116.out)) : gb116 ≠ gb124))
     have n10_ := za.mk ((by rw [hg]; exact Nat.ne_of_gt (zae (g := gb116) (o := .cells #[.int .i64 a1_0, .int .i64 a1_1, .string a1_2] 63 (0,0)) (qb BK116.out)) : gb124 ≠ gb116))
     have n11_ := za.mk ((by rw [hg]; exact Nat.ne_of_lt (zae (g := gb117) (o := .cells #[.int .i64 0, .slice none 0 0] 134 (0,0)) (qb BK117.out)) : gb117 ≠ gb124))
     have n12_ := za.mk ((by rw [hg]; exact Nat.ne_of_gt (zae (g := gb117) (o := .cells #[.int .i64 0, .slice none 0 0] 134 (0,0)) (qb BK117.out)) : gb124 ≠ gb117))
     clear BK115
     clear BK116
     clear BK117
     clear HB
     have BK115 := n0_
     have BK116 := n1_
     have BK117 := n2_
     have HB := n3_
     have BK124 := n4_
     have GW124 := n5_
     have GE124 := n6_
     have NB115_124 := n7_
     have NB124_115 := n8_
     have NB116_124 := n9_
     have NB124_116 := n10_
     have NB117_124 := n11_
     have NB124_117 := n12_
     clear n0_ n1_ n2_ n3_ n4_ n5_ n6_ n7_ n8_ n9_ n10_ n11_ n12_
     clear hb hbox hg
     refine hK.out _ _ ⟨(zh BK115.out 0).trans rfl,(zh BK115.out 1).trans rfl,(zh BK116.out 0).trans rfl,(zh BK116.out 1).trans rfl,(zh BK116.out 2).trans rfl⟩ (fun hHeld => ?_)
     clear hK K
     refine zbA (a' := ?_) ?_ ?_
     rotate_left
     ·show Act.put _ (some 5) _ = _
      simp only [Act.put,List.setIfInBounds_toArray,List.set_cons_zero,List.set_cons_succ,zad,zaf]
      rfl
     refine zcO (i := 3) (N := some 9) #[true,true,true,true,true,true,false,false,true,false] rfl rfl (zb9 HT_.out qi) qt (fun K hK => ?_)
     refine Kd.zbN k63 _ 63 ?hg (N := 9) ?hd (xs := ([(⟨a1_0,a1_1,a1_2⟩ : S63)] : List (S63))) (inner := [.int .i64 a1_0, .int .i64 a1_1, .string a1_2]) (ok := fun _ => True) (okp := fun _ => True) ?hr ?hp (fun _ hk => hk) trivial (Below.refl _ _) (Nat.le_refl _) qz ?_; (case hd => rfl); (case hg => rfl); (case hr => exact qq); (case hp => exact (zan.c3 (show Kd.M k63 _ _ _ (⟨a1_0,a1_1,a1_2⟩ : S63) [.int .i64 a1_0, .int .i64 a1_1, .string a1_2] from (zbs _ _ _ (⟨a1_0,a1_1,a1_2⟩ : S63) )) (zan.none _ _)))
     intro v119 w32 ho33 hb hg_ hnew_
     clear hg_ hnew_
     (first | rw [← Ny118.out] at ho33 | (simp only [Int.reduceToNat] at ho33; rw [← Ny118.out] at ho33))
     have n0_ := za.mk (Kd.zaT (Kd.zgp ho33 (g := gb116) (o := .cells #[.int .i64 a1_0, .int .i64 a1_1, .string a1_2] 63 (0,0)) (qb BK116.out)) (zC (by repeat (first | (with_reducible first | exact HB.out | apply ze | apply zb | apply zf | refine zi ?_ GE115.out | refine zi ?_ GE116.out | refine zi ?_ GE117.out | refine zi ?_ GE124.out) | exact HB.out))))
     have n1_ := za.mk (zD (g := gb115) (o := .cells #[.int .i64 a0_0, .slice A0_1 l0_1.length c0_1] 134 (0,0)) (qb BK115.out) hb)
     have n2_ := za.mk (zD (g := gb116) (o := .cells #[.int .i64 a1_0, .int .i64 a1_1, .string a1_2] 63 (0,0)) (qb BK116.out) hb)
     have n3_ := za.mk (zD (g := gb117) (o := .cells #[.int .i64 0, .slice none 0 0] 134 (0,0)) (qb BK117.out) hb)
     have n4_ := za.mk (zD (g := gb124) (o := .cells #[.int .i64 0, .slice none 0 0] 134 (0,0)) (qb BK124.out) hb)
     have n5_ := za.mk (zq (by repeat (first | (with_reducible first | exact HB.out | apply ze | apply zb | apply zf | refine zi ?_ GE115.out | refine zi ?_ GE116.out | refine zi ?_ GE117.out | refine zi ?_ GE124.out) | exact HB.out)) hb)
     clear BK115
     clear BK116
     clear BK117
     clear BK124
     clear HB
     have HO120 := n0_
     have BK115 := n1_
     have BK116 := n2_
     have BK117 := n3_
     have BK124 := n4_
     have HB := n5_
     clear n0_ n1_ n2_ n3_ n4_ n5_
     clear hb ho33
     refine hK.out _ _ ⟨(zh BK115.out 0).trans rfl,(zh BK115.out 1).trans rfl,(zh BK116.out 0).trans rfl,(zh BK116.out 1).trans rfl,(zh BK116.out 2).trans rfl⟩ (fun hHeld => ?_)
     clear hK K
     refine zbA (a' := ?_) ?_ ?_
     rotate_left
     ·show Act.put _ (some 9) _ = _
      simp only [Act.put,List.setIfInBounds_toArray,List.set_cons_zero,List.set_cons_succ,zad,zaf]
      rfl
     refine zcO (i := 6) (N := some 12) #[true,true,true,true,true,true,true,false,true,false] rfl rfl (zb9 HT_.out qi) qt (fun K hK => ?_)
     refine Kd.zaY k63 (w0 := w) w.heap.size qy (.tmp 9) (.tmp 11) 31 63 (.agg #[(.int .i64 0),(.int .i64 0),(.string ⟨#[]⟩)]) 32 rfl Try.underlying31 zcg rfl qt qj v119 y118 l0_1 _ _ _ (fun k_ => k_ ≠ gb116) (fun _ => False) rfl rfl ?aO ?aR (fun _ _ h => h) (fun _ h => h.elim) ?aF ?aB ?aS ?aL ?_
     (case aR => exact ql HR0_1.out HB.out)
     (case aB => exact (by repeat (first | (with_reducible first | exact HB.out | apply ze | apply zb | apply zf | refine zi ?_ GE115.out | refine zi ?_ GE116.out | refine zi ?_ GE117.out | refine zi ?_ GE124.out) | exact HB.out)))
     (case aF => exact (fun k_ hk => Kd.zbW (g := gb116) (o := .cells #[.int .i64 a1_0, .int .i64 a1_1, .string a1_2] 63 (0,0)) (qb BK116.out) k_ hk))
     (case aO => exact (qE HO120.out))
     (case aS => exact (zC (by repeat (first | (with_reducible first | exact HB.out | apply ze | apply zb | apply zf | refine zi ?_ GE115.out | refine zi ?_ GE116.out | refine zi ?_ GE117.out | refine zi ?_ GE124.out) | exact HB.out))))
     (case aL => have := LMc3.out; omega)
     intro v122 w34 ho hb hg hat
     rw [← Ny121.out] at ho
     have n0_ := za.mk (za9 (g := gb115) (o := .cells #[.int .i64 a0_0, .slice A0_1 l0_1.length c0_1] 134 (0,0)) (qb BK115.out) hg (Kd.zda HO120.out BK115.out qt))
     have n1_ := za.mk (za9 (g := gb116) (o := .cells #[.int .i64 a1_0, .int .i64 a1_1, .string a1_2] 63 (0,0)) (qb BK116.out) hg (Kd.zeN HO120.out (fun _ hk => hk.2)))
     have n2_ := za.mk (za9 (g := gb117) (o := .cells #[.int .i64 0, .slice none 0 0] 134 (0,0)) (qb BK117.out) hg (Kd.zda HO120.out BK117.out qt))
     have n3_ := za.mk (za9 (g := gb124) (o := .cells #[.int .i64 0, .slice none 0 0] 134 (0,0)) (qb BK124.out) hg (Kd.zda HO120.out BK124.out qt))
     have n4_ := za.mk (hb)
     have n5_ := za.mk (ho)
     clear BK115
     clear BK116
     clear BK117
     clear BK124
     clear HB
     clear HO120
     have BK115 := n0_
     have BK116 := n1_
     have BK117 := n2_
     have BK124 := n3_
     have HB := n4_
     have HO123 := n5_
     clear n0_ n1_ n2_ n3_ n4_ n5_
     clear ho hb hg hat
     obtain ⟨Ao35,co35,eo35⟩ := Kd.zbr HO123.out
     (first | subst eo35 | (injection eo35 with f1_ f2_ f3_; have f4_ := f1_.symm; have f5_ := f3_.symm; clear f1_ f2_ f3_; subst f4_; subst f5_))
     refine hK.out _ _ ⟨(zh BK115.out 0).trans rfl,(zh BK115.out 1).trans rfl,(zh BK116.out 0).trans rfl,(zh BK116.out 1).trans rfl,(zh BK116.out 2).trans rfl⟩ (fun hHeld => ?_)
     clear hK K
     refine zbA (a' := ?_) ?_ ?_
     rotate_left
     ·show Act.put _ (some 12) _ = _
      simp only [Act.put,List.setIfInBounds_toArray,List.set_cons_zero,List.set_cons_succ,zad,zaf]
      rfl
     refine zbg (i := 7) (N := some 13) (v := ?_) (a' := ?_) #[true,true,true,true,true,true,true,true,true,false] rfl rfl (za2 HT_.out qi) (fun _ _ _ h => h) (Or.inl ⟨by rfl,?_⟩) ?_ ?_
     rotate_left
     ·intro w'
      go_simp
      with_reducible rfl
     rotate_left
     ·simp only [Act.put,List.setIfInBounds_toArray,List.set_cons_zero,List.set_cons_succ,zad,zaf]
      rfl
     exact zbA qF (hCont (v119, .slice Ao35 y121.length co35,gb124) _ ⟨hHeld,(qp HO123.out),(qb BK115.out),(qb BK116.out),(qb BK117.out),(qb BK124.out),GW124.out,GE124.out,NB115_124.out,NB124_115.out,NB116_124.out,NB124_116.out,NB117_124.out,NB124_117.out,(by repeat (first | (with_reducible first | exact HB.out | apply ze | apply zb | apply zf | refine zi ?_ GE115.out | refine zi ?_ GE116.out | refine zi ?_ GE117.out | refine zi ?_ GE124.out) | exact HB.out))⟩)
   rintro ⟨v119,v122,gb124⟩ w36 ⟨hS_,h0_,h1_,h2_,h3_,h4_,h5_,h6_,h7_,h8_,h9_,h10_,h11_,h12_,h13_⟩
   have n0_ : za (Kd.R k63 63 w36 w.heap.size (fun k_ => k_ ≠ gb116) v122 y121) := ⟨h0_⟩
   have n1_ : za (w36.heap[gb115]? = some (.cells #[.int .i64 a0_0, .slice A0_1 l0_1.length c0_1] 134 (0,0))) := ⟨h1_⟩
   have n2_ : za (w36.heap[gb116]? = some (.cells #[.int .i64 a1_0, .int .i64 a1_1, .string a1_2] 63 (0,0))) := ⟨h2_⟩
   have n3_ : za (w36.heap[gb117]? = some (.cells #[.int .i64 0, .slice none 0 0] 134 (0,0))) := ⟨h3_⟩
   have n4_ : za (w36.heap[gb124]? = some (.cells #[.int .i64 0, .slice none 0 0] 134 (0,0))) := ⟨h4_⟩
   have n5_ : za (w.heap.size ≤ gb124) := ⟨h5_⟩
   have n6_ : za (w.heap.size ≤ gb124) := ⟨h6_⟩
   have n7_ : za (gb115 ≠ gb124) := ⟨h7_⟩
   have n8_ : za (gb124 ≠ gb115) := ⟨h8_⟩
   have n9_ : za (gb116 ≠ gb124) := ⟨h9_⟩
   have n10_ : za (gb124 ≠ gb116) := ⟨h10_⟩
   have n11_ : za (gb117 ≠ gb124) := ⟨h11_⟩
   have n12_ : za (gb124 ≠ gb117) := ⟨h12_⟩
   have n13_ : za (Below w.heap.size w w36) := ⟨h13_⟩
   clear BK115
   clear BK116
   clear BK117
   clear HB
   clear h0_ h1_ h2_ h3_ h4_ h5_ h6_ h7_ h8_ h9_ h10_ h11_ h12_ h13_
   have HO123 := n0_
   have BK115 := n1_
   have BK116 := n2_
   have BK117 := n3_
   have BK124 := n4_
   have GW124 := n5_
   have GE124 := n6_
   have NB115_124 := n7_
   have NB124_115 := n8_
   have NB116_124 := n9_
   have NB124_116 := n10_
   have NB117_124 := n11_
   have NB124_117 := n12_
   have HB := n13_
   clear n0_ n1_ n2_ n3_ n4_ n5_ n6_ n7_ n8_ n9_ n10_ n11_ n12_ n13_
   have hHeld : w36.cell? ⟨gb115,0,none⟩ = some (.int .i64 a0_0) ∧ w36.cell? ⟨gb115,1,none⟩ = some (.slice A0_1 l0_1.length c0_1) ∧ w36.cell? ⟨gb116,0,none⟩ = some (.int .i64 a1_0) ∧ w36.cell? ⟨gb116,1,none⟩ = some (.int .i64 a1_1) ∧ w36.cell? ⟨gb116,2,none⟩ = some (.string a1_2) := hS_
   obtain ⟨Ao37,co37,eo37⟩ := Kd.zbr HO123.out
   (first | subst eo37 | (injection eo37 with f1_ f2_ f3_; have f4_ := f1_.symm; have f5_ := f3_.symm; clear f1_ f2_ f3_; subst f4_; subst f5_))
   refine zbA (a' := ?_) ?_ ?_
   rotate_left
   ·simp only [zdh,Act.put,List.setIfInBounds_toArray,List.set_cons_zero,List.set_cons_succ]
    rfl
   refine zcO (i := 9) (N := none) #[true,true,true,true,true,true,true,true,true,true] rfl rfl (zb9 HT_.out qi) qt (fun K hK => ?_)
   have hs38 : w36.cell? ⟨gb124,0,none⟩ = some (.int .i64 0) := (zh BK124.out 0).trans rfl
   have hfs38 := zo BK124.out 0
   have hns38_0 := NB115_124.out
   have hns38_1 := NB116_124.out
   have hns38_2 := NB117_124.out
   have hms38_0 := NB124_115.out
   have hms38_1 := NB124_116.out
   have hms38_2 := NB124_117.out
   have hs39 : w36.cell? ⟨gb124,1,none⟩ = some (.slice none 0 0) := (zh BK124.out 1).trans rfl
   have hfs39 := zo BK124.out 1
   have hns39_0 := NB115_124.out
   have hns39_1 := NB116_124.out
   have hns39_2 := NB117_124.out
   have hms39_0 := NB124_115.out
   have hms39_1 := NB124_116.out
   have hms39_2 := NB124_117.out
   refine zkl (w1 := ?_) qy rfl ?_ ?_
   rotate_left
   ·go_simp
    rfl
   refine hK.out _ _ ⟨((cell_far (p := ⟨gb124,_,none⟩) NB115_124.out _).trans (((cell_far (p := ⟨gb124,_,none⟩) NB115_124.out _).trans (hHeld.1)))),((cell_far (p := ⟨gb124,_,none⟩) NB115_124.out _).trans (((cell_far (p := ⟨gb124,_,none⟩) NB115_124.out _).trans (hHeld.2.1)))),((cell_far (p := ⟨gb124,_,none⟩) NB116_124.out _).trans (((cell_far (p := ⟨gb124,_,none⟩) NB116_124.out _).trans (hHeld.2.2.1)))),((cell_far (p := ⟨gb124,_,none⟩) NB116_124.out _).trans (((cell_far (p := ⟨gb124,_,none⟩) NB116_124.out _).trans (hHeld.2.2.2.1)))),((cell_far (p := ⟨gb124,_,none⟩) NB116_124.out _).trans (((cell_far (p := ⟨gb124,_,none⟩) NB116_124.out _).trans (hHeld.2.2.2.2))))⟩ (fun hHeld => ?_)
   clear hK K
   refine zeZ (zdP HT_.out qi) ?_
   have hnb40 := NB116_115.out
   have hnc40 := NB115_116.out
   have hnb41 := NB116_117.out
   have hnc41 := NB117_116.out
   have hnb42 := NB116_124.out
   have hnc42 := NB124_116.out
   have hcz43_0 : w36.cell? ⟨gb116,0,none⟩ = some (.int .i64 a1_0) := (zh BK116.out 0).trans rfl
   have hcz43_1 : w36.cell? ⟨gb116,1,none⟩ = some (.int .i64 a1_1) := (zh BK116.out 1).trans rfl
   have hcz43_2 : w36.cell? ⟨gb116,2,none⟩ = some (.string a1_2) := (zh BK116.out 2).trans rfl
   have hfz43_0 := zo BK116.out 0
   have hfz43_1 := zo BK116.out 1
   have hfz43_2 := zo BK116.out 2
   have hnb44 := NB124_115.out
   have hnc44 := NB115_124.out
   have hnb45 := NB124_117.out
   have hnc45 := NB117_124.out
   have hcz46_0 : w36.cell? ⟨gb124,0,none⟩ = some (.int .i64 0) := (zh BK124.out 0).trans rfl
   have hcz46_1 : w36.cell? ⟨gb124,1,none⟩ = some (.slice none 0 0) := (zh BK124.out 1).trans rfl
   have hfz46_0 := zo BK124.out 0
   have hfz46_1 := zo BK124.out 1
   have hnb47 := NB117_115.out
   have hnc47 := NB115_117.out
   have hcz48_0 : w36.cell? ⟨gb117,0,none⟩ = some (.int .i64 0) := (zh BK117.out 0).trans rfl
   have hcz48_1 : w36.cell? ⟨gb117,1,none⟩ = some (.slice none 0 0) := (zh BK117.out 1).trans rfl
   have hfz48_0 := zo BK117.out 0
   have hfz48_1 := zo BK117.out 1
   try go_wp2
   refine bodyPost_ret (results_cell_row rfl _ _ gb117 134 #[.int .i64 (wrap64 (a0_0 + 1)), .slice Ao37 y121.length co37] (0,0) _ rfl (by (with_reducible repeat (first | refine zm ?_ _ | refine zn ?_ | refine zl ?_ _)); refine zah (cs := #[.int .i64 (wrap64 (a0_0 + 1)), .slice none 0 0]) ?_ 1 _ rfl; (with_reducible repeat (first | refine zm ?_ _ | refine zn ?_ | refine zl ?_ _)); refine zah (cs := #[.int .i64 0, .slice none 0 0]) ?_ 0 _ rfl; (with_reducible repeat (first | refine zm ?_ _ | refine zn ?_ | refine zl ?_ _)); refine za3 ?_ NB117_124.out _; (with_reducible repeat (first | refine zm ?_ _ | refine zn ?_ | refine zl ?_ _)); refine za3 ?_ NB117_124.out _; (with_reducible repeat (first | refine zm ?_ _ | refine zn ?_ | refine zl ?_ _)); refine za3 ?_ NB117_124.out _; (with_reducible repeat (first | refine zm ?_ _ | refine zn ?_ | refine zl ?_ _)); exact BK117.out) Try.underlying134 rfl qi) rfl ?_
   exact ⟨_,by first | rfl | (simp [zy,zx] <;> rfl) | (simp [*,zy,zx] <;> rfl),by (with_reducible repeat (first | apply Kd.zal | apply Kd.zam | apply Kd.zau)); exact Kd.zaA (Kd.zdW (p := ⟨gb117,1,none⟩) (Kd.zdW (p := ⟨gb117,0,none⟩) (Kd.zdW (p := ⟨gb124,0,none⟩) (Kd.zdW (p := ⟨gb124,1,none⟩) (Kd.zdW (p := ⟨gb124,0,none⟩) (Kd.zdL (Kd.zdL HO123.out BK124.out qt) BK117.out qt) (fun _ hk => hk.1.2) (.int .i64 a0_0)) (fun _ hk => hk.1.2) (.slice Ao37 y121.length co37)) (fun _ hk => hk.1.2) (.int .i64 (wrap64 (a0_0 + 1)))) (fun _ hk => hk.2) (.int .i64 (wrap64 (a0_0 + 1)))) (fun _ hk => hk.2) (.slice Ao37 y121.length co37)) (fun _ hk => trivial),by repeat (first | (with_reducible first | exact HB.out | apply ze | apply zb | apply zf | refine zi ?_ GE115.out | refine zi ?_ GE116.out | refine zi ?_ GE117.out | refine zi ?_ GE124.out) | exact HB.out)⟩
 ·rw [if_neg c3] at H
  exact absurd H qz
section held
variable {Pg : Program} {ops : Array Oper} {Q : Exit → Act → World → Prop} {md : Region.Mode} {S : World → Prop} {ks : List Nat}
def zbW (ks : List Nat) (listed : Array Bool) : Bool := ks.all fun t => !(listed.getD t false)
def zgw (md : Region.Mode) (ops : Array Oper) (ks : List Nat) (i : Nat) : Bool := ks.all fun t => ((ops[t]?).map fun o => o.after.any fun e => Region.binds md e && e.on == i).getD false
def zb0 (P : Program) (md : Region.Mode) (ops : Array Oper) (Q : Exit → Act → World → Prop) (S : World → Prop) (ks : List Nat) : Nat → Array Bool → Act → World → Prop
 | 0,listed,a,w => Region.ready md ops listed = [] ∧ Q .normal a w
 | fuel + 1,listed,a,w =>
  (Region.ready md ops listed = [] → Q .normal a w) ∧
  ∀ i ∈ Region.ready md ops listed,wpOp P ops Q i (fun a' w' => (zbW ks (listed.setIfInBounds i true) = true → S w') ∧ zb0 P md ops Q S ks fuel (listed.setIfInBounds i true) a' w') a w
theorem zgs : ∀ (fuel : Nat) (listed : Array Bool) (a : Act) (w : World),zb0 Pg md ops Q S ks fuel listed a w → wpAny Pg md ops Q fuel listed a w
 | 0,_,_,_,h => h
 | fuel + 1,_,_,_,h => ⟨h.1,fun i hi => wpOp_mono (fun a' w' h' => zgs fuel _ a' w' h'.2) (h.2 i hi)⟩
theorem ze2 {listed : Array Bool} {j : Nat} (hj : j ∉ ks) : zbW ks (listed.setIfInBounds j true) = zbW ks listed := by
 unfold zbW
 rw [Bool.eq_iff_iff,List.all_eq_true,List.all_eq_true]
 refine forall_congr' fun t => forall_congr' fun ht => ?_
 have hne : j ≠ t := fun e => hj (e ▸ ht)
 rw [getD_set_false hne]
where
 getD_set_false {l : Array Bool} {j t : Nat} (hne : j ≠ t) : (l.setIfInBounds j true).getD t false = l.getD t false := by
  rw [Array.getD_eq_getD_getElem?,Array.getD_eq_getD_getElem?,Array.getElem?_setIfInBounds_ne hne]
theorem zhR {listed : Array Bool} {j : Nat} (h : j ∈ Region.ready md ops listed) {e : Edge} {o : Oper} (ho : ops[j]? = some o) (he : e ∈ o.after) (hb : Region.binds md e = true) : listed.getD e.on false = true := by
 obtain ⟨_,oj,hoj,hall⟩ := mem_ready.1 h
 rw [ho] at hoj
 cases hoj
 exact hall e he hb
theorem ze5 {listed : Array Bool} {i j : Nat} (hk : zgw md ops ks i = true) (hi : listed.getD i true = false) (hj : j ∈ Region.ready md ops listed) : j ∉ ks := fun hm => by
 have h1 := List.all_eq_true.1 hk j hm
 cases ho : ops[j]? with
 | none => rw [ho] at h1; cases h1
 | some o =>
  rw [ho] at h1
  simp only [Option.map_some,Option.getD_some,Array.any_eq_true,Bool.and_eq_true,beq_iff_eq] at h1
  obtain ⟨n,hn,hb,he⟩ := h1
  have h2 := zhR hj ho (Array.getElem_mem hn) hb
  rw [he] at h2
  rcases Nat.lt_or_ge i listed.size with h' | h'
  ·simp [h'] at hi h2; rw [hi] at h2; cases h2
  ·simp [Array.getElem?_eq_none h'] at h2
theorem zhf {i : Nat} {oi : Oper} {v : Value} (hi : ops[i]? = some oi) (hsel : ∀ (j : Nat) (o : Oper) cs b,ops[j]? = some o → o.op ≠ .select cs b)
  (hQ : ∀ c a w,Q (.panic c) (a.put oi.dst v) w → Q (.panic c) a w) (hk : zgw md ops ks i = true) :
  ∀ (fuel : Nat) (listed : Array Bool) (a : Act) (w : World),
   (∀ j oj,ops[j]? = some oj → j ≠ i → listed.getD j true = false → (∀ e ∈ oj.after,Region.binds md e = true → e.on ≠ i) → oi.apart ops oj = true) →
   i ∈ Region.ready md ops listed → zbW ks listed = true → YieldsIf Pg ops S oi v a → S w →
   zb0 Pg md ops Q S ks fuel (listed.setIfInBounds i true) (a.put oi.dst v) w → zb0 Pg md ops Q S ks (fuel + 1) listed a w := by
 intro fuel
 induction fuel with
 | zero =>
  intro listed a w _ hr hf hy hS H
  have hni := ze5 hk (mem_ready.1 hr).1 hr
  refine ⟨fun h => (by rw [h] at hr; cases hr),fun j hj => ?_⟩
  by_cases hji : j = i
  ·subst hji; exact hy.wpOp hi hS ⟨fun _ => hS,H⟩
  ·have := ready_mono hj hji
   rw [H.1] at this
   cases this
 | succ fuel ih =>
  intro listed a w hfree hr hf hy hS H
  have hun := (mem_ready.1 hr).1
  have hni := ze5 hk hun hr
  refine ⟨fun h => (by rw [h] at hr; cases hr),fun j hj => ?_⟩
  by_cases hji : j = i
  ·subst hji; exact hy.wpOp hi hS ⟨fun _ => hS,H⟩
  ·have h1 := H.2 j (ready_mono hj hji)
   have hnj := ze5 hk hun hj
   obtain ⟨hjun,oj,hoj,hall⟩ := mem_ready.1 hj
   have hnot : ∀ e ∈ oj.after,Region.binds md e = true → e.on ≠ i := fun e he hb heq => by
    have h1 := hall e he hb
    have h0 := hun
    rw [heq] at h1
    rcases Nat.lt_or_ge i listed.size with h' | h'
    ·simp [h'] at h0 h1; rw [h0] at h1; cases h1
    ·simp [Array.getElem?_eq_none h'] at h1
   have h2 := wpOp_putIf hoj (hfree j oj hoj hji hjun hnot) (fun cs b => hsel i oi cs b hi) (fun cs b => hsel j oj cs b hoj) hQ hy h1
   have hfree' : ∀ k ok,ops[k]? = some ok → k ≠ i → (listed.setIfInBounds j true).getD k true = false →
     (∀ e ∈ ok.after,Region.binds md e = true → e.on ≠ i) → oi.apart ops ok = true := fun k ok hk hki hun hno => by
    refine hfree k ok hk hki ?_ hno
    by_cases hjk : j = k
    ·subst hjk; exact hjun
    ·rw [getD_set_ne true hjk] at hun; exact hun
   have hf2 : zbW ks (listed.setIfInBounds j true) = true := by rw [ze2 hnj]; exact hf
   have hf3 : zbW ks ((listed.setIfInBounds i true).setIfInBounds j true) = true := by rw [ze2 hnj,ze2 hni]; exact hf
   refine wpOp_mono (fun a' w' h3 => ⟨fun _ => h3.2.1 hf3,ih (listed.setIfInBounds j true) a' w' hfree' (ready_mono hr (Ne.symm hji)) hf2 h3.1 (h3.2.1 hf3) ?_⟩) h2
   rw [Array.setIfInBounds_comm _ _ hji]
   exact h3.2.2
theorem zeH {i : Nat} {oi : Oper} {v : Value} {fuel : Nat} {listed : Array Bool} {a : Act} {w : World} (hi : ops[i]? = some oi)
  (hs : Region.noSelect ops = true) (hf : Region.free md ops listed i = true) (hr : (Region.ready md ops listed).contains i = true) (hk : zgw md ops ks i = true) (hfr : zbW ks listed = true)
  (hQ : ∀ c a w,Q (.panic c) (a.put oi.dst v) w → Q (.panic c) a w) (hy : YieldsIf Pg ops S oi v a) (hS : S w)
  (h : zb0 Pg md ops Q S ks fuel (listed.setIfInBounds i true) (a.put oi.dst v) w) : zb0 Pg md ops Q S ks (fuel + 1) listed a w :=
 zhf hi (Region.noSelect_spec hs) hQ hk fuel listed a w (Region.free_spec hi hf) (by simpa using hr) hfr hy hS h
theorem ziw {i : Nat} {o : Oper} {fuel : Nat} {listed : Array Bool} {a : Act} {w : World} (hr : Region.ready md ops listed = [i]) (ho : ops[i]? = some o)
  (h : ∀ K : Act → World → Prop,za (∀ a' w',(zbW ks (listed.setIfInBounds i true) = true → S w') → zb0 Pg md ops Q S ks fuel (listed.setIfInBounds i true) a' w' → K a' w') →
   if Region.wanted o (yielded ops a.tmps) = true then Oper.wp Pg o a w K Q else K (a.put o.dst undef) w) : zb0 Pg md ops Q S ks (fuel + 1) listed a w := by
 refine ⟨fun h0 => (by rw [h0] at hr; cases hr),fun j hj => ?_⟩
 rw [hr] at hj
 obtain rfl := List.mem_singleton.1 hj
 exact wpOp_step ho (fun K hK => h K ⟨fun a' w' h1 h2 => hK a' w' ⟨h1,h2⟩⟩)
theorem zar {listed : Array Bool} {a : Act} {w : World} (hr : Region.ready md ops listed = []) (h : Q .normal a w) : ∀ fuel,zb0 Pg md ops Q S ks fuel listed a w
 | 0 => ⟨hr,h⟩
 | _ + 1 => ⟨fun _ => h,by rw [hr]; simp⟩
theorem zaF {id : Nat} {a : Act} {w : World} (S : World → Prop) (ks : List Nat) (hm : Pg.follows .mixedOrders = true)
  (h : zb0 Pg .any ops Q S ks ops.size (Array.replicate ops.size false) a w.drew) : (Code.region id ops true).wp Pg Q a w :=
 wp_region_any hm (zgs _ _ _ _ h)
end held
section held2
variable {Pg : Program} {ops : Array Oper} {Q : Exit → Act → World → Prop} {md : Region.Mode} {S : World → Prop} {ks : List Nat}
theorem ze9 {i j : Nat} {oi oj : Oper} {fuel : Nat} {listed : Array Bool} {a : Act} {w : World} (hr : Region.ready md ops listed = [i,j]) (hi : ops[i]? = some oi) (hj : ops[j]? = some oj)
  (h1 : ∀ K : Act → World → Prop,za (∀ a' w',(zbW ks (listed.setIfInBounds i true) = true → S w') → zb0 Pg md ops Q S ks fuel (listed.setIfInBounds i true) a' w' → K a' w') →
   if Region.wanted oi (yielded ops a.tmps) = true then Oper.wp Pg oi a w K Q else K (a.put oi.dst undef) w)
  (h2 : ∀ K : Act → World → Prop,za (∀ a' w',(zbW ks (listed.setIfInBounds j true) = true → S w') → zb0 Pg md ops Q S ks fuel (listed.setIfInBounds j true) a' w' → K a' w') →
   if Region.wanted oj (yielded ops a.tmps) = true then Oper.wp Pg oj a w K Q else K (a.put oj.dst undef) w) : zb0 Pg md ops Q S ks (fuel + 1) listed a w := by
 refine ⟨fun h0 => (by rw [h0] at hr; cases hr),fun k hk => ?_⟩
 rw [hr] at hk
 rcases List.mem_cons.1 hk with rfl | hk
 ·exact wpOp_step hi (fun K hK => h1 K ⟨fun a' w' h1 h2 => hK a' w' ⟨h1,h2⟩⟩)
 ·obtain rfl := List.mem_singleton.1 hk
  exact wpOp_step hj (fun K hK => h2 K ⟨fun a' w' h1 h2 => hK a' w' ⟨h1,h2⟩⟩)
end held2
def opAt : List Oper → Nat → Option Oper
 | [],_ => none
 | o :: _,0 => some o
 | _ :: l,n + 1 => opAt l n
theorem zdJ : ∀ (l : List Oper) (i : Nat) (o : Oper),opAt l i = some o → l[i]? = some o
 | [],_,_,h => by simp [opAt] at h
 | _ :: _,0,_,h => by simpa [opAt] using h
 | _ :: l,n + 1,o,h => by rw [List.getElem?_cons_succ]; exact zdJ l n o h
def tkB (md : Region.Mode) (ops : Array Oper) (ks : List Nat) (listed : Array Bool) (i : Nat) : Bool :=
 Region.noSelect ops && Region.free md ops listed i && (Region.ready md ops listed).contains i && zgw md ops ks i && zbW ks listed
section held3
variable {Pg : Program} {ops : Array Oper} {Q : Exit → Act → World → Prop} {md : Region.Mode} {S : World → Prop} {ks : List Nat}
theorem tk (i : Nat) {oi : Oper} {v : Value} {fuel : Nat} {listed : Array Bool} {a : Act} {w : World} (h : zb0 Pg md ops Q S ks fuel (listed.setIfInBounds i true) (a.put oi.dst v) w)
  (hi : opAt ops.toList i = some oi := by rfl) (hc : tkB md ops ks listed i = true := by kernel_rfl) (hw : Region.wanted oi (yielded ops a.tmps) = true := by rfl) (hS : S w := by assumption)
  (hQ : ∀ c a w,Q (.panic c) (a.put oi.dst v) w → Q (.panic c) a w := by exact fun _ _ _ h => h)
  (hy : ∀ w,S w → (execOp a.eval oi).run Pg w = .ok (.value v) w := by intro w_ hS_; (try dsimp only at hS_); go_simp; all_goals (with_reducible rfl)) : zb0 Pg md ops Q S ks (fuel + 1) listed a w := by
 simp only [tkB,Bool.and_eq_true] at hc
 obtain ⟨⟨⟨⟨h1,h2⟩,h3⟩,h4⟩,h5⟩ := hc
 exact zeH (by simpa using zdJ _ _ _ hi) h1 h2 h3 h4 h5 hQ (.inl ⟨hw,hy⟩) hS h
theorem tkn (i : Nat) {oi : Oper} {fuel : Nat} {listed : Array Bool} {a : Act} {w : World} (h : zb0 Pg md ops Q S ks fuel (listed.setIfInBounds i true) (a.put oi.dst undef) w)
  (hi : opAt ops.toList i = some oi := by rfl) (hc : tkB md ops ks listed i = true := by kernel_rfl) (hw : Region.wanted oi (yielded ops a.tmps) = false := by rfl) (hS : S w := by assumption)
  (hQ : ∀ c a w,Q (.panic c) (a.put oi.dst undef) w → Q (.panic c) a w := by exact fun _ _ _ h => h) : zb0 Pg md ops Q S ks (fuel + 1) listed a w := by
 simp only [tkB,Bool.and_eq_true] at hc
 obtain ⟨⟨⟨⟨h1,h2⟩,h3⟩,h4⟩,h5⟩ := hc
 exact zeH (by simpa using zdJ _ _ _ hi) h1 h2 h3 h4 h5 hQ (.inr ⟨hw,rfl⟩) hS h
theorem on1 (i : Nat) {o : Oper} {fuel : Nat} {listed : Array Bool} {a : Act} {w : World}
  (h : ∀ K : Act → World → Prop,za (∀ a' w',(zbW ks (listed.setIfInBounds i true) = true → S w') → zb0 Pg md ops Q S ks fuel (listed.setIfInBounds i true) a' w' → K a' w') →
   if Region.wanted o (yielded ops a.tmps) = true then Oper.wp Pg o a w K Q else K (a.put o.dst undef) w)
  (ho : opAt ops.toList i = some o := by rfl) (hr : Region.ready md ops listed = [i] := by kernel_rfl) : zb0 Pg md ops Q S ks (fuel + 1) listed a w :=
 ziw hr (by simpa using zdJ _ _ _ ho) h
theorem on2 (i j : Nat) {oi oj : Oper} {fuel : Nat} {listed : Array Bool} {a : Act} {w : World}
  (h1 : ∀ K : Act → World → Prop,za (∀ a' w',(zbW ks (listed.setIfInBounds i true) = true → S w') → zb0 Pg md ops Q S ks fuel (listed.setIfInBounds i true) a' w' → K a' w') →
   if Region.wanted oi (yielded ops a.tmps) = true then Oper.wp Pg oi a w K Q else K (a.put oi.dst undef) w)
  (h2 : ∀ K : Act → World → Prop,za (∀ a' w',(zbW ks (listed.setIfInBounds j true) = true → S w') → zb0 Pg md ops Q S ks fuel (listed.setIfInBounds j true) a' w' → K a' w') →
   if Region.wanted oj (yielded ops a.tmps) = true then Oper.wp Pg oj a w K Q else K (a.put oj.dst undef) w)
  (hi : opAt ops.toList i = some oi := by rfl) (hj : opAt ops.toList j = some oj := by rfl) (hr : Region.ready md ops listed = [i,j] := by kernel_rfl) : zb0 Pg md ops Q S ks (fuel + 1) listed a w :=
 ze9 hr (by simpa using zdJ _ _ _ hi) (by simpa using zdJ _ _ _ hj) h1 h2
end held3
theorem pu0 (a : Act) (n : Nat) (v : Value) : a.put (some n) v = { a with tmps := a.tmps.setIfInBounds n v } := rfl
theorem pu1 (a : Act) (v : Value) : a.put none v = a := rfl
theorem pu2 {α : Type} (l : List α) (i : Nat) (x : α) : l.toArray.setIfInBounds i x = (l.set i x).toArray := by simp
theorem pu3 {α : Type} (x y : α) (l : List α) : (x :: l).set 0 y = y :: l := rfl
theorem pu4 {α : Type} (x y : α) (l : List α) (n : Nat) : (x :: l).set (n + 1) y = x :: l.set n y := rfl
theorem zgz (d : Nat) (w : World) (x0 y0 : Int) (x1 y1 : Int) (x2 y2 : ByteArray) :
  (Op.equalIn (d + 2) 63 (.agg #[.int .i64 x0, .int .i64 x1, .string x2]) (.agg #[.int .i64 y0, .int .i64 y1, .string y2])).run Try.prog w = .ok (x0 == y0 && (x1 == y1 && (x2.toList == y2.toList))) w := by
 refine zjh Try.underlying63 qi ?_
 refine zf3 qy qS qS (by go_simp) ?_
 refine zf3 qy qS qS (by go_simp) ?_
 exact zhi qy qS qS (by go_simp)
end Go.Proofs.Ytgmbbfmbimofoaa.P
namespace Go.Proofs.Ytgmbbfmbimofoaa.P
open Go.RowKit Go.Proofs.YtgmbbfmbimofoaaW.PrintWords Go.Proofs.YtgmbbfmbimofoaaW.PrintLast Go.Proofs.YtgmbbfmbimofoaaW.PrintMore
attribute [local go_sem] zM zN zV zU zI zH zO zP
set_option linter.unusedVariables false
set_option linter.unusedSimpArgs false
attribute [local go_sem high] zgz
def zaI.l0 : Nat → List (S63) → List (S63) → Int → Option (Bool)
 | 0,_,_,_ => none
 | k + 1,x0,x1,x5 => if x5 < (x0.length : Int) then (if 0 ≤ x5 then (if x5 < (x1.length : Int) then (if (!(((zg x0 x5).f0) == ((zg x1 x5).f0)) || (!(((zg x0 x5).f1) == ((zg x1 x5).f1)) || (!((((zg x0 x5).f2).toList) == (((zg x1 x5).f2).toList))))) = true then (some false) else (zaI.l0 k x0 x1 (wrap64 (x5 + 1)))) else (none)) else (none)) else (some true)
def zaI.f (k : Nat) (l0 : List (S63)) (l1 : List (S63)) : Option (Bool) := if (l0.length : Int) = (l1.length : Int) then (zaI.l0 k l0 l1 0) else (some false)
set_option maxHeartbeats 8000000 in
set_option maxRecDepth 100000 in
theorem zaI.calls (k : Nat) (A0 : Option Addr) (c0 : Nat) (l0 : List (S63)) (A1 : Option Addr) (c1 : Nat) (l1 : List (S63)) (r : Bool) (w : World) (hr0 : Kd.C k63 w A0 l0.length l0) (hc0 : l0.length ≤ c0) (hr1 : Kd.C k63 w A1 l1.length l1) (hc1 : l1.length ≤ c1) (h : zaI.f k l0 l1 = some r) :
  Calls Try.prog 24 #[.slice A0 l0.length c0, .slice A1 l1.length c1] w fun e w' => e = .returned (.bool r) ∧ zw w w' := by
 have hu63 := Try.underlying63
 have HR0 := za.mk hr0
 have HC0 := za.mk hc0
 clear hr0 hc0
 have HR1 := za.mk hr1
 have HC1 := za.mk hc1
 clear hr1 hc1
 have H : (if (l0.length : Int) = (l1.length : Int) then (zaI.l0 k l0 l1 0) else (some false)) = some r := h
 clear h
 by_cases c3 : (l0.length : Int) = (l1.length : Int)
 ·rw [if_pos c3] at H
  have c3b0 : ((l0.length : Int) == (l1.length : Int)) = true := beq_iff_eq.mpr c3
  have c3b1 : ((l0.length : Int) != (l1.length : Int)) = false := bne_eq_false_iff_eq.mpr c3
  have c3b2 : (l0.length == l1.length) = true := by first | simpa using c3 | (simp at c3 ⊢; omega)
  clear c3
  have H' := za.mk H
  clear H
  go_enter Try.func24,Try.ntmps24
  go_wp2
  repeat (go_quiet (fail); try go_wp2)
  go_loopg [5] k (fun kq v5 w' => ∃ (x5_1 : Int),v5 = .int .i64 x5_1 ∧ za (zaI.l0 kq l0 l1 x5_1 = some r) ∧ za (kq ≤ k) ∧ zw w w')
  case atStart => exact ⟨(0),qf,H',⟨Nat.le_refl _⟩,by repeat (first | exact zw.refl _ | apply zw.step)⟩
  case round =>
   clear H'
   try clear c1
   try clear c2
   try clear p2
   try clear c3
   try clear c3b0
   try clear c3b1
   try clear c3b2
   obtain ⟨x5_1,rfl,HA,HK1,⟨m1,rfl⟩⟩ := hrel
   cases gk with
   | zero => exact absurd HA.out (by simp [zaI.l0])
   | succ k1 =>
    have H := HA.out
    clear HA
    simp only [zaI.l0] at H
    by_cases c4 : x5_1 < (l0.length : Int)
    ·rw [if_pos c4] at H
     have c4b0 : decide (x5_1 < (l0.length : Int)) = true := decide_eq_true c4
     clear c4
     by_cases c5 : 0 ≤ x5_1
     ·rw [if_pos c5] at H
      have c5b0 : decide (0 ≤ x5_1) = true := decide_eq_true c5
      clear c5
      by_cases c6 : x5_1 < (l1.length : Int)
      ·rw [if_pos c6] at H
       have c6b0 : decide (x5_1 < (l1.length : Int)) = true := decide_eq_true c6
       clear c6
       by_cases c7 : (!(((zg l0 x5_1).f0) == ((zg l1 x5_1).f0)) || (!(((zg l0 x5_1).f1) == ((zg l1 x5_1).f1)) || (!((((zg l0 x5_1).f2).toList) == (((zg l1 x5_1).f2).toList))))) = true
       ·rw [if_pos c7] at H
        have c7b0 : (!(((zg l0 x5_1).f0) == ((zg l1 x5_1).f0)) || (!(((zg l0 x5_1).f1) == ((zg l1 x5_1).f1)) || (!((((zg l0 x5_1).f2).toList) == (((zg l1 x5_1).f2).toList))))) = true := c7
        clear c7
        obtain rfl := Option.some.inj H
        have p111 : 0 ≤ (x5_1 : Int) := of_decide_eq_true qd
        have q111 : x5_1 < (l0.length : Int) := of_decide_eq_true qd
        obtain ⟨ad111,e111,hx111_0,hx111_1,hx111_2⟩ := za8 HR0.out x5_1 p111 q111
        cases e111
        replace p111 := eq_true p111
        replace q111 := eq_true q111
        have p112 : 0 ≤ (x5_1 : Int) := of_decide_eq_true qd
        have q112 : x5_1 < (l1.length : Int) := of_decide_eq_true qd
        obtain ⟨ad112,e112,hx112_0,hx112_1,hx112_2⟩ := za8 HR1.out x5_1 p112 q112
        cases e112
        replace p112 := eq_true p112
        replace q112 := eq_true q112
        go_wp2
        repeat (go_quiet (fail); try go_wp2)
        go_ret
        exact ⟨by first | rfl | (simp; done) | (simp [*]; done),by repeat (first | exact zw.refl _ | apply zw.step)⟩
       ·rw [if_neg c7] at H
        have c7b0 : (!(((zg l0 x5_1).f0) == ((zg l1 x5_1).f0)) || (!(((zg l0 x5_1).f1) == ((zg l1 x5_1).f1)) || (!((((zg l0 x5_1).f2).toList) == (((zg l1 x5_1).f2).toList))))) = false := by simpa using c7
        clear c7
        have H' := za.mk H
        clear H
        have p111 : 0 ≤ (x5_1 : Int) := of_decide_eq_true qd
        have q111 : x5_1 < (l0.length : Int) := of_decide_eq_true qd
        obtain ⟨ad111,e111,hx111_0,hx111_1,hx111_2⟩ := za8 HR0.out x5_1 p111 q111
        cases e111
        replace p111 := eq_true p111
        replace q111 := eq_true q111
        have p112 : 0 ≤ (x5_1 : Int) := of_decide_eq_true qd
        have q112 : x5_1 < (l1.length : Int) := of_decide_eq_true qd
        obtain ⟨ad112,e112,hx112_0,hx112_1,hx112_2⟩ := za8 HR1.out x5_1 p112 q112
        cases e112
        replace p112 := eq_true p112
        replace q112 := eq_true q112
        go_wp2
        repeat (go_quiet (fail); try go_wp2)
        go_roundg k1
        case measure => have := HK1.out; omega
        case rel => exact ⟨(wrap64 (x5_1 + 1)),qf,H',⟨by have := HK1.out; omega⟩,by repeat (first | exact zw.refl _ | apply zw.step)⟩
      ·rw [if_neg c6] at H
       exact absurd H qz
     ·rw [if_neg c5] at H
      exact absurd H qz
    ·rw [if_neg c4] at H
     have c4b0 : decide (x5_1 < (l0.length : Int)) = false := decide_eq_false c4
     clear c4
     obtain rfl := Option.some.inj H
     go_wp2
     repeat (go_quiet (fail); try go_wp2)
     go_ret
     exact ⟨by first | rfl | (simp; done) | (simp [*]; done),by repeat (first | exact zw.refl _ | apply zw.step)⟩
 ·rw [if_neg c3] at H
  have c3b0 : ((l0.length : Int) == (l1.length : Int)) = false := beq_eq_false_iff_ne.mpr c3
  have c3b1 : ((l0.length : Int) != (l1.length : Int)) = true := bne_iff_ne.mpr c3
  have c3b2 : (l0.length == l1.length) = false := by first | simpa using c3 | (simp at c3 ⊢; omega)
  obtain rfl := Option.some.inj H
  go_enter Try.func24,Try.ntmps24
  go_wp2
  repeat (go_quiet (fail); try go_wp2)
  go_ret
  exact ⟨by first | rfl | (simp; done) | (simp [*]; done),by repeat (first | exact zw.refl _ | apply zw.step)⟩
def zaj.l0 : Nat → List ByteArray → List ByteArray → Int → Option (Bool)
 | 0,_,_,_ => none
 | k + 1,x0,x1,x5 => if x5 < (x0.length : Int) then (if 0 ≤ x5 then (if x5 < (x1.length : Int) then (if (za0 ByteArray.empty x0 x5).toList = (za0 ByteArray.empty x1 x5).toList then (zaj.l0 k x0 x1 (wrap64 (x5 + 1))) else (some false)) else (none)) else (none)) else (some true)
def zaj.f (k : Nat) (l0 : List ByteArray) (l1 : List ByteArray) : Option (Bool) := if (l0.length : Int) = (l1.length : Int) then (zaj.l0 k l0 l1 0) else (some false)
set_option maxHeartbeats 8000000 in
set_option maxRecDepth 100000 in
theorem zaj.calls (k : Nat) (A0 : Option Addr) (c0 : Nat) (l0 : List ByteArray) (A1 : Option Addr) (c1 : Nat) (l1 : List ByteArray) (r : Bool) (w : World) (hr0 : Kd.C Kd.string w A0 l0.length l0) (hc0 : l0.length ≤ c0) (hr1 : Kd.C Kd.string w A1 l1.length l1) (hc1 : l1.length ≤ c1) (h : zaj.f k l0 l1 = some r) :
  Calls Try.prog 25 #[.slice A0 l0.length c0, .slice A1 l1.length c1] w fun e w' => e = .returned (.bool r) ∧ zw w w' := by
 have HR0 := za.mk hr0
 have HC0 := za.mk hc0
 clear hr0 hc0
 have HR1 := za.mk hr1
 have HC1 := za.mk hc1
 clear hr1 hc1
 have H : (if (l0.length : Int) = (l1.length : Int) then (zaj.l0 k l0 l1 0) else (some false)) = some r := h
 clear h
 by_cases c3 : (l0.length : Int) = (l1.length : Int)
 ·rw [if_pos c3] at H
  have c3b0 : ((l0.length : Int) == (l1.length : Int)) = true := beq_iff_eq.mpr c3
  have c3b1 : ((l0.length : Int) != (l1.length : Int)) = false := bne_eq_false_iff_eq.mpr c3
  have c3b2 : (l0.length == l1.length) = true := by first | simpa using c3 | (simp at c3 ⊢; omega)
  clear c3
  have H' := za.mk H
  clear H
  go_enter Try.func25,Try.ntmps25
  go_wp2
  repeat (go_quiet (fail); try go_wp2)
  go_loopg [5] k (fun kq v5 w' => ∃ (x5_1 : Int),v5 = .int .i64 x5_1 ∧ za (zaj.l0 kq l0 l1 x5_1 = some r) ∧ za (kq ≤ k) ∧ zw w w')
  case atStart => exact ⟨(0),qf,H',⟨Nat.le_refl _⟩,by repeat (first | exact zw.refl _ | apply zw.step)⟩
  case round =>
   clear H'
   try clear c1
   try clear c2
   try clear p2
   try clear c3
   try clear c3b0
   try clear c3b1
   try clear c3b2
   obtain ⟨x5_1,rfl,HA,HK1,⟨m1,rfl⟩⟩ := hrel
   cases gk with
   | zero => exact absurd HA.out (by simp [zaj.l0])
   | succ k1 =>
    have H := HA.out
    clear HA
    simp only [zaj.l0] at H
    by_cases c4 : x5_1 < (l0.length : Int)
    ·rw [if_pos c4] at H
     have c4b0 : decide (x5_1 < (l0.length : Int)) = true := decide_eq_true c4
     clear c4
     by_cases c5 : 0 ≤ x5_1
     ·rw [if_pos c5] at H
      have c5b0 : decide (0 ≤ x5_1) = true := decide_eq_true c5
      clear c5
      by_cases c6 : x5_1 < (l1.length : Int)
      ·rw [if_pos c6] at H
       have c6b0 : decide (x5_1 < (l1.length : Int)) = true := decide_eq_true c6
       clear c6
       by_cases c7 : (za0 ByteArray.empty l0 x5_1).toList = (za0 ByteArray.empty l1 x5_1).toList
       ·rw [if_pos c7] at H
        have c7b0 : ((za0 ByteArray.empty l0 x5_1).toList == (za0 ByteArray.empty l1 x5_1).toList) = true := beq_iff_eq.mpr c7
        have c7b1 : ((za0 ByteArray.empty l0 x5_1).toList != (za0 ByteArray.empty l1 x5_1).toList) = false := bne_eq_false_iff_eq.mpr c7
        clear c7
        have H' := za.mk H
        clear H
        have p113 : 0 ≤ (x5_1 : Int) := of_decide_eq_true qd
        have q113 : x5_1 < (l0.length : Int) := of_decide_eq_true qd
        obtain ⟨ad113,e113,hx113_0⟩ := Kd.zbw HR0.out x5_1 p113 q113
        cases e113
        replace p113 := eq_true p113
        replace q113 := eq_true q113
        have p114 : 0 ≤ (x5_1 : Int) := of_decide_eq_true qd
        have q114 : x5_1 < (l1.length : Int) := of_decide_eq_true qd
        obtain ⟨ad114,e114,hx114_0⟩ := Kd.zbw HR1.out x5_1 p114 q114
        cases e114
        replace p114 := eq_true p114
        replace q114 := eq_true q114
        go_wp2
        repeat (go_quiet (fail); try go_wp2)
        go_roundg k1
        case measure => have := HK1.out; omega
        case rel => exact ⟨(wrap64 (x5_1 + 1)),qf,H',⟨by have := HK1.out; omega⟩,by repeat (first | exact zw.refl _ | apply zw.step)⟩
       ·rw [if_neg c7] at H
        have c7b0 : ((za0 ByteArray.empty l0 x5_1).toList == (za0 ByteArray.empty l1 x5_1).toList) = false := beq_eq_false_iff_ne.mpr c7
        have c7b1 : ((za0 ByteArray.empty l0 x5_1).toList != (za0 ByteArray.empty l1 x5_1).toList) = true := bne_iff_ne.mpr c7
        obtain rfl := Option.some.inj H
        have p113 : 0 ≤ (x5_1 : Int) := of_decide_eq_true qd
        have q113 : x5_1 < (l0.length : Int) := of_decide_eq_true qd
        obtain ⟨ad113,e113,hx113_0⟩ := Kd.zbw HR0.out x5_1 p113 q113
        cases e113
        replace p113 := eq_true p113
        replace q113 := eq_true q113
        have p114 : 0 ≤ (x5_1 : Int) := of_decide_eq_true qd
        have q114 : x5_1 < (l1.length : Int) := of_decide_eq_true qd
        obtain ⟨ad114,e114,hx114_0⟩ := Kd.zbw HR1.out x5_1 p114 q114
        cases e114
        replace p114 := eq_true p114
        replace q114 := eq_true q114
        go_wp2
        repeat (go_quiet (fail); try go_wp2)
        go_ret
        exact ⟨by first | rfl | (simp; done) | (simp [*]; done),by repeat (first | exact zw.refl _ | apply zw.step)⟩
      ·rw [if_neg c6] at H
       exact absurd H qz
     ·rw [if_neg c5] at H
      exact absurd H qz
    ·rw [if_neg c4] at H
     have c4b0 : decide (x5_1 < (l0.length : Int)) = false := decide_eq_false c4
     clear c4
     obtain rfl := Option.some.inj H
     go_wp2
     repeat (go_quiet (fail); try go_wp2)
     go_ret
     exact ⟨by first | rfl | (simp; done) | (simp [*]; done),by repeat (first | exact zw.refl _ | apply zw.step)⟩
 ·rw [if_neg c3] at H
  have c3b0 : ((l0.length : Int) == (l1.length : Int)) = false := beq_eq_false_iff_ne.mpr c3
  have c3b1 : ((l0.length : Int) != (l1.length : Int)) = true := bne_iff_ne.mpr c3
  have c3b2 : (l0.length == l1.length) = false := by first | simpa using c3 | (simp at c3 ⊢; omega)
  obtain rfl := Option.some.inj H
  go_enter Try.func25,Try.ntmps25
  go_wp2
  repeat (go_quiet (fail); try go_wp2)
  go_ret
  exact ⟨by first | rfl | (simp; done) | (simp [*]; done),by repeat (first | exact zw.refl _ | apply zw.step)⟩
end Go.Proofs.Ytgmbbfmbimofoaa.P
namespace Go.Proofs.Ytgmbbfmbimofoaa.P
open Go.RowKit Go.Proofs.YtgmbbfmbimofoaaW.PrintWords Go.Proofs.YtgmbbfmbimofoaaW.PrintLast Go.Proofs.YtgmbbfmbimofoaaW.PrintMore
attribute [local go_sem] zM zN zV zU zI zH zO zP
set_option linter.unusedVariables false
set_option linter.unusedSimpArgs false
def zk (w0 W : World) (g : Nat) (f0 : List Int) (f1 : Int) (f2 : Int) : Prop := ∃ A0 c0,W.heap[g]? = some (.cells #[.slice A0 f0.length c0, .int .i64 f1, .int .u64 f2] 93 (0,0)) ∧ w0.heap.size ≤ g ∧ Kd.C (Kd.int .i64) w0 A0 f0.length f0
theorem zk.grown {w0 W : World} {g : Nat} {f0 : List Int} {f1 : Int} {f2 : Int} {W1 : World} {row : Option Nat} (h : zk w0 W g f0 f1 f2) (hw : W.grownBy W1 row) (hne : some g ≠ row) : zk w0 W1 g f0 f1 f2 := by
 obtain ⟨A0,c0,hb,hg,hr0⟩ := h
 exact ⟨A0,c0,za9 hb hw hne,hg,hr0⟩
theorem zk.fresh {w0 W : World} {g : Nat} {f0 : List Int} {f1 : Int} {f2 : Int} (h : zk w0 W g f0 f1 f2) : ∀ k,W.heap.size ≤ k → k ≠ g := by
 obtain ⟨A0,c0,hb,hg,hr0⟩ := h
 exact Kd.zbW hb
theorem zk.kept {w0 W : World} {g : Nat} {f0 : List Int} {f1 : Int} {f2 : Int} {W1 : World} {S : Nat → Prop} (h : zk w0 W g f0 f1 f2) (hk : Kept W W1 S) (hne : ¬ S g) : zk w0 W1 g f0 f1 f2 := by
 obtain ⟨A0,c0,hb,hg,hr0⟩ := h
 exact ⟨A0,c0,zj0 hb hk hne,hg,hr0⟩
theorem zk.below {w0 W : World} {g : Nat} {f0 : List Int} {f1 : Int} {f2 : Int} {W1 : World} (h : zk w0 W g f0 f1 f2) (hw : Below W.heap.size W W1) : zk w0 W1 g f0 f1 f2 := h.grown (zeU hw none) qz
theorem zk.alloc {w0 W : World} {g : Nat} {f0 : List Int} {f1 : Int} {f2 : Int} (h : zk w0 W g f0 f1 f2) (o : Obj) : zk w0 (W.alloc o) g f0 f1 f2 := h.below (ze (Below.refl _ _) o)
theorem zk.drewN {w0 W : World} {g : Nat} {f0 : List Int} {f1 : Int} {f2 : Int} (h : zk w0 W g f0 f1 f2) (m : Nat) : zk w0 (W.drewN m) g f0 f1 f2 := h
theorem zk.drew {w0 W : World} {g : Nat} {f0 : List Int} {f1 : Int} {f2 : Int} (h : zk w0 W g f0 f1 f2) : zk w0 W.drew g f0 f1 f2 := h
theorem zk.at_ {w0 W : World} {g : Nat} {f0 : List Int} {f1 : Int} {f2 : Int} {w' : World} {m : Nat} (hq : W.drewN m = w') (h : zk w0 W g f0 f1 f2) : zk w0 w' g f0 f1 f2 := by subst hq; exact zk.drewN h m
theorem zk.apart {w0 W : World} {g : Nat} {f0 : List Int} {f1 : Int} {f2 : Int} {α : Type} {d : Kd α} {e : Nat} {base : Nat} {ok : Nat → Prop} {v : Value} {xs : List α} (h : zk w0 W g f0 f1 f2) (ho : d.R e W base ok v xs) (ht : ∀ q,q ∈ e :: d.E → q ≠ 93) : d.R e W base (fun k => ok k ∧ k ≠ g) v xs := by
 obtain ⟨A0,c0,hb,hg,hr0⟩ := h
 exact Kd.zdL ho hb ht
theorem zk.own_ne {w0 W : World} {g : Nat} {f0 : List Int} {f1 : Int} {f2 : Int} {α : Type} {d : Kd α} {e : Nat} {base : Nat} {ok : Nat → Prop} {v : Value} {xs : List α} (h : zk w0 W g f0 f1 f2) (ho : d.R e W base ok v xs) (ht : e ≠ 93) : some g ≠ v.ownBlock := by
 obtain ⟨A0,c0,hb,hg,hr0⟩ := h
 exact Kd.zda ho hb ht
theorem zk.zdY {w0 W : World} {g : Nat} {f0 : List Int} {f1 : Int} {f2 : Int} {α : Type} {d : Kd α} {e : Nat} {base : Nat} {ok : Nat → Prop} {v : Value} {xs : List α} (h : zk w0 W g f0 f1 f2) (ho : d.Q e W base ok v xs) (ht : ∀ q,q ∈ e :: d.E → q ≠ 93) : d.Q e W base (fun k => ok k ∧ k ≠ g) v xs := by
 obtain ⟨A0,c0,hb,hg,hr0⟩ := h
 exact Kd.zkH ho hb ht
theorem zk.zdZ {w0 W : World} {g : Nat} {f0 : List Int} {f1 : Int} {f2 : Int} {α : Type} {d : Kd α} {e : Nat} {base : Nat} {ok : Nat → Prop} {v : Value} {xs : List α} (h : zk w0 W g f0 f1 f2) (ho : d.S e W base ok v xs) (ht : ∀ q,q ∈ e :: d.E → q ≠ 93) : d.S e W base (fun k => ok k ∧ k ≠ g) v xs := by
 obtain ⟨A0,c0,hb,hg,hr0⟩ := h
 exact Kd.zkB ho hb ht
theorem zk.zir {w0 W : World} {g : Nat} {f0 : List Int} {f1 : Int} {f2 : Int} {α : Type} {d : Kd α} {e : Nat} {base : Nat} {ok : Nat → Prop} {v : Value} {xs : List α} (h : zk w0 W g f0 f1 f2) (ho : d.S e W base ok v xs) (ht : e ≠ 93) : some g ≠ v.ownBlock := by
 obtain ⟨A0,c0,hb,hg,hr0⟩ := h
 exact Kd.zlx ho hb ht
theorem zk.lt {w0 W : World} {g : Nat} {f0 : List Int} {f1 : Int} {f2 : Int} (h : zk w0 W g f0 f1 f2) : g < W.heap.size := by
 obtain ⟨A0,c0,hb,hg,hr0⟩ := h
 exact zae hb
theorem zk.ge {w0 W : World} {g : Nat} {f0 : List Int} {f1 : Int} {f2 : Int} (h : zk w0 W g f0 f1 f2) : w0.heap.size ≤ g := by
 obtain ⟨A0,c0,hb,hg,hr0⟩ := h
 exact hg
theorem zgU {W : World} {g : Nat} {A0 : Option Addr} {c0 : Nat} {f0 : List Int} {f1 : Int} {f2 : Int} (h : W.heap[g]? = some (.cells #[.slice A0 f0.length c0, .int .i64 f1, .int .u64 f2] 93 (0,0))) : W.cell? ⟨g,0,none⟩ = some (.slice A0 f0.length c0) := (zh h 0).trans rfl
theorem zjq {W : World} {g : Nat} {A0 : Option Addr} {c0 : Nat} {f0 : List Int} {f1 : Int} {f2 : Int} (h : W.heap[g]? = some (.cells #[.slice A0 f0.length c0, .int .i64 f1, .int .u64 f2] 93 (0,0))) : W.cell? ⟨g,1,none⟩ = some (.int .i64 f1) := (zh h 1).trans rfl
theorem zk.zao {w0 W : World} {g : Nat} {f0 : List Int} {f1 : Int} {f2 : Int} (h : zk w0 W g f0 f1 f2) (x : Int) : zk w0 (W.setCell ⟨g,1,none⟩ (.int .i64 x)) g f0 x f2 := by
 obtain ⟨A0,c0,hb,hg,hr0⟩ := h
 exact ⟨A0,c0,by simpa using zaB hb 1 (.int .i64 x),hg,hr0⟩
theorem zjo {W : World} {g : Nat} {A0 : Option Addr} {c0 : Nat} {f0 : List Int} {f1 : Int} {f2 : Int} (h : W.heap[g]? = some (.cells #[.slice A0 f0.length c0, .int .i64 f1, .int .u64 f2] 93 (0,0))) : W.cell? ⟨g,2,none⟩ = some (.int .u64 f2) := (zh h 2).trans rfl
theorem zk.zaq {w0 W : World} {g : Nat} {f0 : List Int} {f1 : Int} {f2 : Int} (h : zk w0 W g f0 f1 f2) (x : Int) : zk w0 (W.setCell ⟨g,2,none⟩ (.int .u64 x)) g f0 f1 x := by
 obtain ⟨A0,c0,hb,hg,hr0⟩ := h
 exact ⟨A0,c0,by simpa using zaB hb 2 (.int .u64 x),hg,hr0⟩
theorem zk.new (w0 W : World) (A0 : Option Addr) (c0 : Nat) (f0 : List Int) (f1 : Int) (f2 : Int) (hB : Below w0.heap.size w0 W) (hr0 : Kd.C (Kd.int .i64) w0 A0 f0.length f0) : zk w0 (W.alloc (.cells #[.slice A0 f0.length c0, .int .i64 f1, .int .u64 f2] 93)) W.heap.size f0 f1 f2 := ⟨A0,c0,by simpa using heap_alloc_new W _,hB.size,hr0⟩
def zc2.f (l0 : List Int) : Option (List Int × Int × Int) := some (l0,0,11400714819323198485)
set_option maxHeartbeats 8000000 in
set_option maxRecDepth 100000 in
theorem zc2.calls (A0 : Option Addr) (c0 : Nat) (l0 : List Int) (r1 : List Int) (r2 : Int) (r3 : Int) (w0 w : World) (hB : Below w0.heap.size w0 w) (hr0 : Kd.C (Kd.int .i64) w0 A0 l0.length l0) (hc0 : l0.length ≤ c0) (h : zc2.f l0 = some (r1,r2,r3)) :
  Calls Try.prog 19 #[.slice A0 l0.length c0] w fun e w' => ∃ g_ : Nat,e = .returned (.pointer (some ⟨g_,0,none⟩)) ∧ zk w0 w' g_ r1 r2 r3 ∧ Below w0.heap.size w0 w' ∧ Below w.heap.size w w' := by
 have hu93 := Try.underlying93
 have HR0 := za.mk hr0
 have HC0 := za.mk hc0
 clear hr0 hc0
 have HBW := za.mk (Below.refl w.heap.size w)
 have HW0 := za.mk hB.size
 have HB := za.mk hB
 clear hB
 have H : (some (l0,0,11400714819323198485)) = some (r1,r2,r3) := h
 clear h
 simp only [Option.some.injEq,Prod.mk.injEq] at H
 obtain ⟨rfl,rfl,rfl⟩ := H
 go_enter Try.func19,Try.ntmps19
 go_wp2_with (first | ((with_reducible refine zaE (N := 5) rfl ?_); refine zaV ?hg (N := 5) ?hd (cs := #[.slice A0 l0.length c0, .int .i64 0, .int .u64 11400714819323198485]) (t := 93) ?hr ?_; (case hd => rfl); (case hg => rfl); (case hr => exact qq); intro gb187 hg w2 hbox hb; have n0_ := za.mk (zq HBW.out hb); have n1_ := za.mk (zq (qc HB.out) hb); have n2_ := za.mk (hbox); have n3_ := za.mk ((by rw [hg]; exact (zC (qc HBW.out)) : w.heap.size ≤ gb187)); have n4_ := za.mk ((Nat.le_trans HW0.out (by rw [hg]; exact (zC (qc HBW.out)) : w.heap.size ≤ gb187) : w0.heap.size ≤ gb187)); clear HBW; clear HB; have HBW := n0_; have HB := n1_; have BK187 := n2_; have GW187 := n3_; have GE187 := n4_; clear n0_ n1_ n2_ n3_ n4_; clear hb hbox hg))
 go_ret
 exact ⟨_,rfl,(show zk w0 _ gb187 l0 0 11400714819323198485 from ⟨_,_,by (with_reducible repeat (first | refine zm ?_ _ | refine zn ?_ | refine zl ?_ _)); exact BK187.out,GE187.out,HR0.out⟩),by repeat (first | (with_reducible first | exact HB.out | apply ze | apply zb | apply zf | refine zi ?_ GE187.out) | exact HB.out),by repeat (first | (with_reducible first | exact HBW.out | apply ze | apply zb | apply zf | refine zi ?_ GW187.out) | exact HBW.out)⟩
structure zb4 (w0 w W : World) (g : Nat) (s0 : List Int) (a s : Int) : Prop where
 is : zk w0 W g s0 a s
 below : Below w0.heap.size w0 W
 keep : zu w W g none
theorem zb4.seed {w0 w W : World} {g : Nat} {s0 : List Int} {a s : Int} (h : zb4 w0 w W g s0 a s) (x : Int) : zb4 w0 w (W.setCell ⟨g,2,none⟩ (.int .u64 x)).drew g s0 a x :=
 ⟨(h.is.zaq x).drew,(h.below.setCell (p := ⟨g,2,none⟩) h.is.ge (.int .u64 x)).drew,zW (zu.zaQ h.keep 2 (.int .u64 x))⟩
theorem zb4.at {w0 w W : World} {g : Nat} {s0 : List Int} {a s : Int} (h : zb4 w0 w W g s0 a s) (x : Int) : zb4 w0 w (W.setCell ⟨g,1,none⟩ (.int .i64 x)) g s0 x s :=
 ⟨h.is.zao x,h.below.setCell (p := ⟨g,1,none⟩) h.is.ge (.int .i64 x),zu.zaQ h.keep 1 (.int .i64 x)⟩
theorem zb4.drew {w0 w W : World} {g : Nat} {s0 : List Int} {a s : Int} (h : zb4 w0 w W g s0 a s) : zb4 w0 w W.drew g s0 a s := ⟨h.is.drew,h.below.drew,zW h.keep⟩
theorem zb4.c2 {w0 w W : World} {g : Nat} {s0 : List Int} {a s : Int} (h : zb4 w0 w W g s0 a s) : W.cell? ⟨g,2,none⟩ = some (.int .u64 s) := by
 obtain ⟨A_,c_,hb_,_⟩ := h.is; exact zjo hb_
theorem zb4.f2 {w0 w W : World} {g : Nat} {s0 : List Int} {a s : Int} (h : zb4 w0 w W g s0 a s) : W.frozen? ⟨g,2,none⟩ = false := by
 obtain ⟨A_,c_,hb_,_⟩ := h.is; exact zo hb_ 2
theorem zb4.c1 {w0 w W : World} {g : Nat} {s0 : List Int} {a s : Int} (h : zb4 w0 w W g s0 a s) : W.cell? ⟨g,1,none⟩ = some (.int .i64 a) := by
 obtain ⟨A_,c_,hb_,_⟩ := h.is; exact zjq hb_
theorem zb4.f1 {w0 w W : World} {g : Nat} {s0 : List Int} {a s : Int} (h : zb4 w0 w W g s0 a s) : W.frozen? ⟨g,1,none⟩ = false := by
 obtain ⟨A_,c_,hb_,_⟩ := h.is; exact zo hb_ 1
def zcI (s : Int) : Int :=
 bits BinOp.xor IntKind.u64 (bits BinOp.xor IntKind.u64 (bits BinOp.xor IntKind.u64 s (IntKind.u64.wrap (s * 8192))) (bits BinOp.xor IntKind.u64 s (IntKind.u64.wrap (s * 8192)) / 128))
  (IntKind.u64.wrap (bits BinOp.xor IntKind.u64 (bits BinOp.xor IntKind.u64 s (IntKind.u64.wrap (s * 8192))) (bits BinOp.xor IntKind.u64 s (IntKind.u64.wrap (s * 8192)) / 128) * 131072))
def zfB (x : Int) : Int :=
 bits BinOp.xor IntKind.u64 (IntKind.u64.wrap (bits BinOp.xor IntKind.u64 x (x / 1073741824) * 10723151780598845931)) (IntKind.u64.wrap (bits BinOp.xor IntKind.u64 x (x / 1073741824) * 10723151780598845931) / 2147483648)
def zeS (x n : Int) : Int := IntKind.u64.wrap (x + IntKind.u64.wrap (IntKind.u64.wrap n * 13787848793156543929))
def zbx.f (s0_0 : List Int) (s0_1 : Int) (s0_2 : Int) : Option (Int × Int × Int) :=
 if 0 ≤ s0_1 ∧ s0_0.length ≤ 17592186044416 then
  (if s0_1 < (s0_0.length : Int) then some (zfB (zeS (zcI s0_2) (rd s0_0 s0_1)),s0_1 + 1,zeS (zcI s0_2) (rd s0_0 s0_1)) else some (zfB (zcI s0_2),s0_1,zcI s0_2))
 else none
set_option maxHeartbeats 1000000 in
set_option maxRecDepth 100000 in
theorem zk5 (g : Nat) (s0 : List Int) (s1 s2 : Int) (w0 w : World) (hIw : zk w0 w g s0 s1 s2) (hBw : Below w0.heap.size w0 w) (h0 : 0 ≤ s1) (h1 : (s0.length : Int) ≤ s1) (hl : s0.length ≤ 17592186044416) :
  Calls Try.prog 66 #[.pointer (some ⟨g,0,none⟩)] w fun e w' => e = .returned (.int .u64 (zfB (zcI s2))) ∧ zk w0 w' g s0 (s1) (zcI s2) ∧ Below w0.heap.size w0 w' ∧ zu w w' g none := by
 have Hw := za.mk (zb4.mk (w := w) hIw hBw (zu.refl w g none))
 clear hIw hBw
 have hc2 := Hw.out.c2
 have hf2 := Hw.out.f2
 go_enter Try.func66,Try.ntmps66
 go_wp2_with fail
 refine zaF (fun W' => W'.cell? ⟨g,2,none⟩ = some (.int .u64 s2)) [13] qi ?_
 have HS : w.drew.cell? ⟨g,2,none⟩ = some (.int .u64 s2) := hc2
 refine tk 0 ?_
 (try simp only [pu0,pu1,pu2,pu3,pu4])
 refine tk 1 ?_
 (try simp only [pu0,pu1,pu2,pu3,pu4])
 refine tk 2 ?_
 (try simp only [pu0,pu1,pu2,pu3,pu4])
 refine tk 3 ?_
 (try simp only [pu0,pu1,pu2,pu3,pu4])
 refine tk 4 ?_
 (try simp only [pu0,pu1,pu2,pu3,pu4])
 refine tk 5 ?_
 (try simp only [pu0,pu1,pu2,pu3,pu4])
 refine tk 6 ?_
 (try simp only [pu0,pu1,pu2,pu3,pu4])
 refine tk 7 ?_
 (try simp only [pu0,pu1,pu2,pu3,pu4])
 refine tk 8 ?_
 (try simp only [pu0,pu1,pu2,pu3,pu4])
 refine tk 9 ?_
 (try simp only [pu0,pu1,pu2,pu3,pu4])
 refine tk 10 ?_
 (try simp only [pu0,pu1,pu2,pu3,pu4])
 refine on1 11 fun K hK => ?_
 go_simp
 refine hK.out _ _ (fun _ => HS) ?_
 clear hK K
 (try simp only [pu0,pu1,pu2,pu3,pu4])
 refine tk 12 ?_
 (try simp only [pu0,pu1,pu2,pu3,pu4])
 refine on1 13 fun K hK => ?_
 clear HS
 go_simp
 refine hK.out _ _ (fun h => absurd h qt) ?_
 clear hK K
 refine zar qi ?_ _
 obtain ⟨x1,hx1⟩ : ∃ x_,bits BinOp.xor IntKind.u64 s2 (IntKind.u64.wrap (s2 * 8192)) = x_ := ⟨_,rfl⟩
 rw [hx1]
 have HW1 := za.mk (zb4.seed Hw.out x1)
 obtain ⟨W1,hW⟩ : ∃ W_,(w.setCell ⟨g,2,none⟩ (.int .u64 x1)).drew = W_ := ⟨_,rfl⟩
 rw [hW] at HW1 ⊢
 clear hW hc2 hf2
 have hc2 := HW1.out.c2
 have hf2 := HW1.out.f2
 go_wp2_with fail
 refine zaF (fun W' => W'.cell? ⟨g,2,none⟩ = some (.int .u64 x1)) [13] qi ?_
 have HS : W1.drew.cell? ⟨g,2,none⟩ = some (.int .u64 x1) := hc2
 refine tk 0 ?_
 (try simp only [pu0,pu1,pu2,pu3,pu4])
 refine tk 1 ?_
 (try simp only [pu0,pu1,pu2,pu3,pu4])
 refine tk 2 ?_
 (try simp only [pu0,pu1,pu2,pu3,pu4])
 refine tk 3 ?_
 (try simp only [pu0,pu1,pu2,pu3,pu4])
 refine tk 4 ?_
 (try simp only [pu0,pu1,pu2,pu3,pu4])
 refine tk 5 ?_
 (try simp only [pu0,pu1,pu2,pu3,pu4])
 refine tk 6 ?_
 (try simp only [pu0,pu1,pu2,pu3,pu4])
 refine tk 7 ?_
 (try simp only [pu0,pu1,pu2,pu3,pu4])
 refine tk 8 ?_
 (try simp only [pu0,pu1,pu2,pu3,pu4])
 refine tk 9 ?_
 (try simp only [pu0,pu1,pu2,pu3,pu4])
 refine tk 10 ?_
 (try simp only [pu0,pu1,pu2,pu3,pu4])
 refine on1 11 fun K hK => ?_
 go_simp
 refine hK.out _ _ (fun _ => HS) ?_
 clear hK K
 (try simp only [pu0,pu1,pu2,pu3,pu4])
 refine tk 12 ?_
 (try simp only [pu0,pu1,pu2,pu3,pu4])
 refine on1 13 fun K hK => ?_
 clear HS
 go_simp
 refine hK.out _ _ (fun h => absurd h qt) ?_
 clear hK K
 refine zar qi ?_ _
 obtain ⟨x2,hx2⟩ : ∃ x_,bits BinOp.xor IntKind.u64 x1 (x1 / 128) = x_ := ⟨_,rfl⟩
 rw [hx2]
 have HW2 := za.mk (zb4.seed HW1.out x2)
 obtain ⟨W2,hW⟩ : ∃ W_,(W1.setCell ⟨g,2,none⟩ (.int .u64 x2)).drew = W_ := ⟨_,rfl⟩
 rw [hW] at HW2 ⊢
 clear hW hc2 hf2
 have hc2 := HW2.out.c2
 have hf2 := HW2.out.f2
 go_wp2_with fail
 refine zaF (fun W' => W'.cell? ⟨g,2,none⟩ = some (.int .u64 x2)) [13] qi ?_
 have HS : W2.drew.cell? ⟨g,2,none⟩ = some (.int .u64 x2) := hc2
 refine tk 0 ?_
 (try simp only [pu0,pu1,pu2,pu3,pu4])
 refine tk 1 ?_
 (try simp only [pu0,pu1,pu2,pu3,pu4])
 refine tk 2 ?_
 (try simp only [pu0,pu1,pu2,pu3,pu4])
 refine tk 3 ?_
 (try simp only [pu0,pu1,pu2,pu3,pu4])
 refine tk 4 ?_
 (try simp only [pu0,pu1,pu2,pu3,pu4])
 refine tk 5 ?_
 (try simp only [pu0,pu1,pu2,pu3,pu4])
 refine tk 6 ?_
 (try simp only [pu0,pu1,pu2,pu3,pu4])
 refine tk 7 ?_
 (try simp only [pu0,pu1,pu2,pu3,pu4])
 refine tk 8 ?_
 (try simp only [pu0,pu1,pu2,pu3,pu4])
 refine tk 9 ?_
 (try simp only [pu0,pu1,pu2,pu3,pu4])
 refine tk 10 ?_
 (try simp only [pu0,pu1,pu2,pu3,pu4])
 refine on1 11 fun K hK => ?_
 go_simp
 refine hK.out _ _ (fun _ => HS) ?_
 clear hK K
 (try simp only [pu0,pu1,pu2,pu3,pu4])
 refine tk 12 ?_
 (try simp only [pu0,pu1,pu2,pu3,pu4])
 refine on1 13 fun K hK => ?_
 clear HS
 go_simp
 refine hK.out _ _ (fun h => absurd h qt) ?_
 clear hK K
 refine zar qi ?_ _
 obtain ⟨x3,hx3⟩ : ∃ x_,bits BinOp.xor IntKind.u64 x2 (IntKind.u64.wrap (x2 * 131072)) = x_ := ⟨_,rfl⟩
 rw [hx3]
 have HW3 := za.mk (zb4.seed HW2.out x3)
 obtain ⟨W3,hW⟩ : ∃ W_,(W2.setCell ⟨g,2,none⟩ (.int .u64 x3)).drew = W_ := ⟨_,rfl⟩
 rw [hW] at HW3 ⊢
 clear hW hc2 hf2
 have hc2 := HW3.out.c2
 have hf2 := HW3.out.f2
 go_wp2_with fail
 have hc1 := HW3.out.c1
 have hf1 := HW3.out.f1
 obtain ⟨A0,c0,hb0,_,hr0⟩ := HW3.out.is
 have hc0 := zgU hb0
 clear hb0
 have HR := za.mk hr0
 clear hr0
 have hge : decide (s1 < (s0.length : Int)) = false := decide_eq_false qj
 refine zaF (fun W' => W'.cell? ⟨g,0,none⟩ = some (.slice A0 s0.length c0) ∧ W'.cell? ⟨g,1,none⟩ = some (.int .i64 s1)) [] qi ?_
 have HS : W3.drew.cell? ⟨g,0,none⟩ = some (.slice A0 s0.length c0) ∧ W3.drew.cell? ⟨g,1,none⟩ = some (.int .i64 s1) := ⟨hc0,hc1⟩
 refine tk 0 ?_
 (try simp only [pu0,pu1,pu2,pu3,pu4])
 refine tk 1 ?_
 (try simp only [pu0,pu1,pu2,pu3,pu4])
 refine tk 2 ?_
 (try simp only [pu0,pu1,pu2,pu3,pu4])
 refine tk 3 ?_
 (try simp only [pu0,pu1,pu2,pu3,pu4])
 refine tk 4 ?_
 (try simp only [pu0,pu1,pu2,pu3,pu4])
 refine tk 5 ?_
 (try simp only [pu0,pu1,pu2,pu3,pu4])
 refine tk 6 ?_
 (try simp only [pu0,pu1,pu2,pu3,pu4])
 refine tk 7 ?_
 (try simp only [pu0,pu1,pu2,pu3,pu4])
 refine tk 8 ?_
 (try simp only [pu0,pu1,pu2,pu3,pu4])
 refine tk 9 ?_
 (try simp only [pu0,pu1,pu2,pu3,pu4])
 refine zar qi ?_ _
 clear HS
 go_wp2
 go_ret
 have hm : zcI s2 = x3 := by unfold zcI; rw [hx1,hx2,hx3]
 rw [hm]
 exact ⟨rfl,HW3.out.is.drew,HW3.out.below.drew,zW HW3.out.keep⟩
set_option maxHeartbeats 1000000 in
set_option maxRecDepth 100000 in
theorem zkR (g : Nat) (s0 : List Int) (s1 s2 : Int) (w0 w : World) (hIw : zk w0 w g s0 s1 s2) (hBw : Below w0.heap.size w0 w) (h0 : 0 ≤ s1) (h1 : s1 < (s0.length : Int)) (hl : s0.length ≤ 17592186044416) :
  Calls Try.prog 66 #[.pointer (some ⟨g,0,none⟩)] w fun e w' => e = .returned (.int .u64 (zfB (zeS (zcI s2) (rd s0 s1)))) ∧ zk w0 w' g s0 (s1 + 1) (zeS (zcI s2) (rd s0 s1)) ∧ Below w0.heap.size w0 w' ∧ zu w w' g none := by
 have Hw := za.mk (zb4.mk (w := w) hIw hBw (zu.refl w g none))
 clear hIw hBw
 have hc2 := Hw.out.c2
 have hf2 := Hw.out.f2
 go_enter Try.func66,Try.ntmps66
 go_wp2_with fail
 refine zaF (fun W' => W'.cell? ⟨g,2,none⟩ = some (.int .u64 s2)) [13] qi ?_
 have HS : w.drew.cell? ⟨g,2,none⟩ = some (.int .u64 s2) := hc2
 refine tk 0 ?_
 (try simp only [pu0,pu1,pu2,pu3,pu4])
 refine tk 1 ?_
 (try simp only [pu0,pu1,pu2,pu3,pu4])
 refine tk 2 ?_
 (try simp only [pu0,pu1,pu2,pu3,pu4])
 refine tk 3 ?_
 (try simp only [pu0,pu1,pu2,pu3,pu4])
 refine tk 4 ?_
 (try simp only [pu0,pu1,pu2,pu3,pu4])
 refine tk 5 ?_
 (try simp only [pu0,pu1,pu2,pu3,pu4])
 refine tk 6 ?_
 (try simp only [pu0,pu1,pu2,pu3,pu4])
 refine tk 7 ?_
 (try simp only [pu0,pu1,pu2,pu3,pu4])
 refine tk 8 ?_
 (try simp only [pu0,pu1,pu2,pu3,pu4])
 refine tk 9 ?_
 (try simp only [pu0,pu1,pu2,pu3,pu4])
 refine tk 10 ?_
 (try simp only [pu0,pu1,pu2,pu3,pu4])
 refine on1 11 fun K hK => ?_
 go_simp
 refine hK.out _ _ (fun _ => HS) ?_
 clear hK K
 (try simp only [pu0,pu1,pu2,pu3,pu4])
 refine tk 12 ?_
 (try simp only [pu0,pu1,pu2,pu3,pu4])
 refine on1 13 fun K hK => ?_
 clear HS
 go_simp
 refine hK.out _ _ (fun h => absurd h qt) ?_
 clear hK K
 refine zar qi ?_ _
 obtain ⟨x1,hx1⟩ : ∃ x_,bits BinOp.xor IntKind.u64 s2 (IntKind.u64.wrap (s2 * 8192)) = x_ := ⟨_,rfl⟩
 rw [hx1]
 have HW1 := za.mk (zb4.seed Hw.out x1)
 obtain ⟨W1,hW⟩ : ∃ W_,(w.setCell ⟨g,2,none⟩ (.int .u64 x1)).drew = W_ := ⟨_,rfl⟩
 rw [hW] at HW1 ⊢
 clear hW hc2 hf2
 have hc2 := HW1.out.c2
 have hf2 := HW1.out.f2
 go_wp2_with fail
 refine zaF (fun W' => W'.cell? ⟨g,2,none⟩ = some (.int .u64 x1)) [13] qi ?_
 have HS : W1.drew.cell? ⟨g,2,none⟩ = some (.int .u64 x1) := hc2
 refine tk 0 ?_
 (try simp only [pu0,pu1,pu2,pu3,pu4])
 refine tk 1 ?_
 (try simp only [pu0,pu1,pu2,pu3,pu4])
 refine tk 2 ?_
 (try simp only [pu0,pu1,pu2,pu3,pu4])
 refine tk 3 ?_
 (try simp only [pu0,pu1,pu2,pu3,pu4])
 refine tk 4 ?_
 (try simp only [pu0,pu1,pu2,pu3,pu4])
 refine tk 5 ?_
 (try simp only [pu0,pu1,pu2,pu3,pu4])
 refine tk 6 ?_
 (try simp only [pu0,pu1,pu2,pu3,pu4])
 refine tk 7 ?_
 (try simp only [pu0,pu1,pu2,pu3,pu4])
 refine tk 8 ?_
 (try simp only [pu0,pu1,pu2,pu3,pu4])
 refine tk 9 ?_
 (try simp only [pu0,pu1,pu2,pu3,pu4])
 refine tk 10 ?_
 (try simp only [pu0,pu1,pu2,pu3,pu4])
 refine on1 11 fun K hK => ?_
 go_simp
 refine hK.out _ _ (fun _ => HS) ?_
 clear hK K
 (try simp only [pu0,pu1,pu2,pu3,pu4])
 refine tk 12 ?_
 (try simp only [pu0,pu1,pu2,pu3,pu4])
 refine on1 13 fun K hK => ?_
 clear HS
 go_simp
 refine hK.out _ _ (fun h => absurd h qt) ?_
 clear hK K
 refine zar qi ?_ _
 obtain ⟨x2,hx2⟩ : ∃ x_,bits BinOp.xor IntKind.u64 x1 (x1 / 128) = x_ := ⟨_,rfl⟩
 rw [hx2]
 have HW2 := za.mk (zb4.seed HW1.out x2)
 obtain ⟨W2,hW⟩ : ∃ W_,(W1.setCell ⟨g,2,none⟩ (.int .u64 x2)).drew = W_ := ⟨_,rfl⟩
 rw [hW] at HW2 ⊢
 clear hW hc2 hf2
 have hc2 := HW2.out.c2
 have hf2 := HW2.out.f2
 go_wp2_with fail
 refine zaF (fun W' => W'.cell? ⟨g,2,none⟩ = some (.int .u64 x2)) [13] qi ?_
 have HS : W2.drew.cell? ⟨g,2,none⟩ = some (.int .u64 x2) := hc2
 refine tk 0 ?_
 (try simp only [pu0,pu1,pu2,pu3,pu4])
 refine tk 1 ?_
 (try simp only [pu0,pu1,pu2,pu3,pu4])
 refine tk 2 ?_
 (try simp only [pu0,pu1,pu2,pu3,pu4])
 refine tk 3 ?_
 (try simp only [pu0,pu1,pu2,pu3,pu4])
 refine tk 4 ?_
 (try simp only [pu0,pu1,pu2,pu3,pu4])
 refine tk 5 ?_
 (try simp only [pu0,pu1,pu2,pu3,pu4])
 refine tk 6 ?_
 (try simp only [pu0,pu1,pu2,pu3,pu4])
 refine tk 7 ?_
 (try simp only [pu0,pu1,pu2,pu3,pu4])
 refine tk 8 ?_
 (try simp only [pu0,pu1,pu2,pu3,pu4])
 refine tk 9 ?_
 (try simp only [pu0,pu1,pu2,pu3,pu4])
 refine tk 10 ?_
 (try simp only [pu0,pu1,pu2,pu3,pu4])
 refine on1 11 fun K hK => ?_
 go_simp
 refine hK.out _ _ (fun _ => HS) ?_
 clear hK K
 (try simp only [pu0,pu1,pu2,pu3,pu4])
 refine tk 12 ?_
 (try simp only [pu0,pu1,pu2,pu3,pu4])
 refine on1 13 fun K hK => ?_
 clear HS
 go_simp
 refine hK.out _ _ (fun h => absurd h qt) ?_
 clear hK K
 refine zar qi ?_ _
 obtain ⟨x3,hx3⟩ : ∃ x_,bits BinOp.xor IntKind.u64 x2 (IntKind.u64.wrap (x2 * 131072)) = x_ := ⟨_,rfl⟩
 rw [hx3]
 have HW3 := za.mk (zb4.seed HW2.out x3)
 obtain ⟨W3,hW⟩ : ∃ W_,(W2.setCell ⟨g,2,none⟩ (.int .u64 x3)).drew = W_ := ⟨_,rfl⟩
 rw [hW] at HW3 ⊢
 clear hW hc2 hf2
 have hc2 := HW3.out.c2
 have hf2 := HW3.out.f2
 go_wp2_with fail
 have hc1 := HW3.out.c1
 have hf1 := HW3.out.f1
 obtain ⟨A0,c0,hb0,_,hr0⟩ := HW3.out.is
 have hc0 := zgU hb0
 clear hb0
 have HR := za.mk hr0
 clear hr0
 have hlt : decide (s1 < (s0.length : Int)) = true := decide_eq_true qj
 obtain ⟨ad,e,hcl⟩ := zbk.at_ (Kd.zdD (d := (0 : Int)) HR.out) s1 h0 h1
 cases e
 have hcl : W3.cell? (ad.add s1.toNat) = some (.int .i64 (rd s0 s1)) := (HW3.out.below.cell (World.block_lt_of_cell? w0 _ hcl)).trans hcl
 have p5 := eq_true h0
 have q5 := eq_true h1
 refine zaF (fun W' => W'.cell? ⟨g,0,none⟩ = some (.slice (some ad) s0.length c0) ∧ W'.cell? ⟨g,1,none⟩ = some (.int .i64 s1)) [] qi ?_
 have HS : W3.drew.cell? ⟨g,0,none⟩ = some (.slice (some ad) s0.length c0) ∧ W3.drew.cell? ⟨g,1,none⟩ = some (.int .i64 s1) := ⟨hc0,hc1⟩
 refine tk 0 ?_
 (try simp only [pu0,pu1,pu2,pu3,pu4])
 refine tk 1 ?_
 (try simp only [pu0,pu1,pu2,pu3,pu4])
 refine tk 2 ?_
 (try simp only [pu0,pu1,pu2,pu3,pu4])
 refine tk 3 ?_
 (try simp only [pu0,pu1,pu2,pu3,pu4])
 refine tk 4 ?_
 (try simp only [pu0,pu1,pu2,pu3,pu4])
 refine tk 5 ?_
 (try simp only [pu0,pu1,pu2,pu3,pu4])
 refine tk 6 ?_
 (try simp only [pu0,pu1,pu2,pu3,pu4])
 refine tk 7 ?_
 (try simp only [pu0,pu1,pu2,pu3,pu4])
 refine tk 8 ?_
 (try simp only [pu0,pu1,pu2,pu3,pu4])
 refine tk 9 ?_
 (try simp only [pu0,pu1,pu2,pu3,pu4])
 refine zar qi ?_ _
 clear HS
 have HW4 := za.mk HW3.out.drew
 obtain ⟨W4,hW⟩ : ∃ W_,W3.drew = W_ := ⟨_,rfl⟩
 have hcl4 : W3.drew.cell? (ad.add s1.toNat) = some (.int .i64 (rd s0 s1)) := hcl
 have hc04 : W3.drew.cell? ⟨g,0,none⟩ = some (.slice (some ad) s0.length c0) := hc0
 rw [hW] at HW4 hcl4 hc04 ⊢
 clear hW hc0 hc1 hc2 hf1 hf2 hcl
 have hc2 := HW4.out.c2
 have hf2 := HW4.out.f2
 have hc1 := HW4.out.c1
 have hf1 := HW4.out.f1
 have hc0 := hc04
 have hcl := hcl4
 clear hc04 hcl4
 go_wp2_with fail
 refine zaF (fun W' => W'.cell? ⟨g,0,none⟩ = some (.slice (some ad) s0.length c0) ∧ W'.cell? ⟨g,1,none⟩ = some (.int .i64 s1) ∧ W'.cell? ⟨g,2,none⟩ = some (.int .u64 x3) ∧ W'.cell? (ad.add s1.toNat) = some (.int .i64 (rd s0 s1))) [20] qi ?_
 have HS : W4.drew.cell? ⟨g,0,none⟩ = some (.slice (some ad) s0.length c0) ∧ W4.drew.cell? ⟨g,1,none⟩ = some (.int .i64 s1) ∧ W4.drew.cell? ⟨g,2,none⟩ = some (.int .u64 x3) ∧ W4.drew.cell? (ad.add s1.toNat) = some (.int .i64 (rd s0 s1)) := ⟨hc0,hc1,hc2,hcl⟩
 refine tk 0 ?_
 (try simp only [pu0,pu1,pu2,pu3,pu4])
 refine tk 1 ?_
 (try simp only [pu0,pu1,pu2,pu3,pu4])
 refine tk 2 ?_
 (try simp only [pu0,pu1,pu2,pu3,pu4])
 refine tk 3 ?_
 (try simp only [pu0,pu1,pu2,pu3,pu4])
 refine tk 4 ?_
 (try simp only [pu0,pu1,pu2,pu3,pu4])
 refine tk 5 ?_
 (try simp only [pu0,pu1,pu2,pu3,pu4])
 refine tk 6 ?_
 (try simp only [pu0,pu1,pu2,pu3,pu4])
 refine tk 7 ?_
 (try simp only [pu0,pu1,pu2,pu3,pu4])
 refine tk 8 ?_
 (try simp only [pu0,pu1,pu2,pu3,pu4])
 refine tk 9 ?_
 (try simp only [pu0,pu1,pu2,pu3,pu4])
 refine tk 10 ?_
 (try simp only [pu0,pu1,pu2,pu3,pu4])
 refine tk 11 ?_
 (try simp only [pu0,pu1,pu2,pu3,pu4])
 refine tk 12 ?_
 (try simp only [pu0,pu1,pu2,pu3,pu4])
 refine tk 13 ?_
 (try simp only [pu0,pu1,pu2,pu3,pu4])
 refine tk 14 ?_
 (try simp only [pu0,pu1,pu2,pu3,pu4])
 refine tk 15 ?_
 (try simp only [pu0,pu1,pu2,pu3,pu4])
 refine tk 16 ?_
 (try simp only [pu0,pu1,pu2,pu3,pu4])
 refine tk 17 ?_
 (try simp only [pu0,pu1,pu2,pu3,pu4])
 refine on1 18 fun K hK => ?_
 go_simp
 refine hK.out _ _ (fun _ => HS) ?_
 clear hK K
 (try simp only [pu0,pu1,pu2,pu3,pu4])
 refine tk 19 ?_
 (try simp only [pu0,pu1,pu2,pu3,pu4])
 refine on1 20 fun K hK => ?_
 clear HS
 go_simp
 refine hK.out _ _ (fun h => absurd h qt) ?_
 clear hK K
 refine zar qi ?_ _
 obtain ⟨x4,hx4⟩ : ∃ x_,IntKind.u64.wrap (x3 + IntKind.u64.wrap (IntKind.u64.wrap (rd s0 s1) * 13787848793156543929)) = x_ := ⟨_,rfl⟩
 rw [hx4]
 have HW5 := za.mk (zb4.seed HW4.out x4)
 obtain ⟨W5,hW⟩ : ∃ W_,(W4.setCell ⟨g,2,none⟩ (.int .u64 x4)).drew = W_ := ⟨_,rfl⟩
 rw [hW] at HW5 ⊢
 clear hW hc1 hf1 hc2 hf2
 have hc1 := HW5.out.c1
 have hf1 := HW5.out.f1
 have hc2 := HW5.out.c2
 have hwr : IntKind.i64.wrap (s1 + 1) = s1 + 1 := IntWalk.i64_in _ qj
 have hc2' : (W5.setCell ⟨g,1,none⟩ (.int .i64 (s1 + 1))).cell? ⟨g,2,none⟩ = some (.int .u64 x4) := (HW5.out.at (s1 + 1)).c2
 go_wp2
 go_ret
 have hm : zcI s2 = x3 := by unfold zcI; rw [hx1,hx2,hx3]
 have ha : zeS x3 (rd s0 s1) = x4 := hx4
 rw [hm,ha]
 exact ⟨rfl,(HW5.out.at _).is,(HW5.out.at _).below,(HW5.out.at _).keep⟩
theorem zbx.calls (g : Nat) (s0_0 : List Int) (s0_1 : Int) (s0_2 : Int) (r1 : Int) (r2 : Int) (r3 : Int) (w0 w : World) (hI : zk w0 w g s0_0 s0_1 s0_2) (hB : Below w0.heap.size w0 w) (h : zbx.f s0_0 s0_1 s0_2 = some (r1,r2,r3)) :
  Calls Try.prog 66 #[.pointer (some ⟨g,0,none⟩)] w fun e w' => e = .returned (.int .u64 r1) ∧ zk w0 w' g s0_0 r2 r3 ∧ Below w0.heap.size w0 w' ∧ zu w w' g none := by
 unfold zbx.f at h
 split at h
 case isFalse => cases h
 rename_i hb
 split at h
 ·rename_i hlt
  obtain ⟨rfl,rfl,rfl⟩ : _ ∧ _ ∧ _ := by simpa only [Option.some.injEq,Prod.mk.injEq] using h
  exact zkR g s0_0 s0_1 s0_2 w0 w hI hB hb.1 hlt hb.2
 ·rename_i hlt
  obtain ⟨rfl,rfl,rfl⟩ : _ ∧ _ ∧ _ := by simpa only [Option.some.injEq,Prod.mk.injEq] using h
  exact zk5 g s0_0 s0_1 s0_2 w0 w hI hB hb.1 qj hb.2
def zak.f (s0_0 : List Int) (s0_1 : Int) (s0_2 : Int) (a1 : Int) : Option (Int × Int × Int) := if a1 < 1 then (some (0,s0_1,s0_2)) else ((zbx.f s0_0 s0_1 s0_2).bind fun bt188 => (if (IntKind.u64.wrap (wrap64 (a1 + 1))) = 0 then (none) else (some (wrap64 (Int.tmod (bt188.1 / 65536) (IntKind.u64.wrap (wrap64 (a1 + 1)))),bt188.2.1,bt188.2.2))))
set_option maxHeartbeats 8000000 in
set_option maxRecDepth 100000 in
theorem zak.calls (g : Nat) (s0_0 : List Int) (s0_1 : Int) (s0_2 : Int) (a1 : Int) (r1 : Int) (r2 : Int) (r3 : Int) (w0 w : World) (hI : zk w0 w g s0_0 s0_1 s0_2) (hB : Below w0.heap.size w0 w) (h : zak.f s0_0 s0_1 s0_2 a1 = some (r1,r2,r3)) :
  Calls Try.prog 28 #[.pointer (some ⟨g,0,none⟩), .int .i64 a1] w fun e w' => e = .returned (.int .i64 r1) ∧ zk w0 w' g s0_0 r2 r3 ∧ Below w0.heap.size w0 w' ∧ zu w w' g none := by
 have HI0 := za.mk hI
 have HK := za.mk (zu.refl w g none)
 have HL := za.mk hB.size
 clear hI
 have HW0 := za.mk hB.size
 have HB := za.mk hB
 clear hB
 have H : (if a1 < 1 then (some (0,s0_1,s0_2)) else ((zbx.f s0_0 s0_1 s0_2).bind fun bt188 => (if (IntKind.u64.wrap (wrap64 (a1 + 1))) = 0 then (none) else (some (wrap64 (Int.tmod (bt188.1 / 65536) (IntKind.u64.wrap (wrap64 (a1 + 1)))),bt188.2.1,bt188.2.2))))) = some (r1,r2,r3) := h
 clear h
 by_cases c3 : a1 < 1
 ·rw [if_pos c3] at H
  have c3b0 : decide (a1 < 1) = true := decide_eq_true c3
  clear c3
  simp only [Option.some.injEq,Prod.mk.injEq] at H
  obtain ⟨rfl,rfl,rfl⟩ := H
  go_enter Try.func28,Try.ntmps28
  go_wp2
  go_ret
  exact ⟨by first | rfl | (simp [zy,zx] <;> rfl) | (simp [*,zy,zx] <;> rfl),by repeat (first | (with_reducible first | exact HI0.out | apply zk.alloc | apply zk.drewN | apply zk.drew | apply zk.zao | apply zk.zaq) | exact HI0.out),by repeat (first | (with_reducible first | exact HB.out | apply ze | apply zb | apply zf | refine zi ?_ (zk.ge HI0.out)) | exact HB.out),by repeat (first | (with_reducible first | exact HK.out | apply zu.zaQ | apply zR | apply zW | apply zS) | exact HK.out)⟩
 ·rw [if_neg c3] at H
  have c3b0 : decide (a1 < 1) = false := decide_eq_false c3
  clear c3
  replace H := Option.bind_eq_some_iff.mp H
  obtain ⟨⟨t188,t189,t190⟩,A40,H⟩ := H
  replace H : (if (IntKind.u64.wrap (wrap64 (a1 + 1))) = 0 then (none) else (some (wrap64 (Int.tmod (t188 / 65536) (IntKind.u64.wrap (wrap64 (a1 + 1)))),t189,t190))) = some (r1,r2,r3) := H
  have A4 := za.mk A40
  clear A40
  by_cases c5 : (IntKind.u64.wrap (wrap64 (a1 + 1))) = 0
  ·rw [if_pos c5] at H
   exact absurd H qz
  ·rw [if_neg c5] at H
   have c5b0 : ((IntKind.u64.wrap (wrap64 (a1 + 1))) == 0) = false := beq_eq_false_iff_ne.mpr c5
   have c5b1 : ((IntKind.u64.wrap (wrap64 (a1 + 1))) != 0) = true := bne_iff_ne.mpr c5
   simp only [Option.some.injEq,Prod.mk.injEq] at H
   obtain ⟨rfl,rfl,rfl⟩ := H
   go_enter Try.func28,Try.ntmps28
   go_wp2_with (first | ((with_reducible refine zz (f := 66) rfl ?_); refine zT (some 8) rfl rfl Try.func66 qi rfl #[.pointer (some ⟨g,0,none⟩)] rfl qa ?_; (with_reducible refine (zbx.calls g s0_0 s0_1 s0_2 t188 t189 t190 w0 _ ?side1 ?side2 A4.out).mono ?_); (case side1 => exact qh HI0.out); (case side2 => exact qm HB.out HI0.out); rintro e w6 ⟨rfl,hi,hb,hk⟩; refine ⟨_,rfl,?_⟩; have n0_ := za.mk (zu.trans (qg HK.out) hk (.inl rfl)); have n1_ := za.mk (hb); have n2_ := za.mk (hi); clear HK; clear HB; clear HI0; have HK := n0_; have HB := n1_; have HI0 := n2_; clear n0_ n1_ n2_; (try clear hb); (try clear hb2); (try clear hk); (try clear hi)))
   go_ret
   exact ⟨by first | rfl | (simp [zy,zx] <;> rfl) | (simp [*,zy,zx] <;> rfl),by repeat (first | (with_reducible first | exact HI0.out | apply zk.alloc | apply zk.drewN | apply zk.drew | apply zk.zao | apply zk.zaq) | exact HI0.out),by repeat (first | (with_reducible first | exact HB.out | apply ze | apply zb | apply zf | refine zi ?_ (zk.ge HI0.out)) | exact HB.out),by repeat (first | (with_reducible first | exact HK.out | apply zu.zaQ | apply zR | apply zW | apply zS) | exact HK.out)⟩
def zbq.f (s0_0 : List Int) (s0_1 : Int) (s0_2 : Int) (l1 : List ByteArray) : Option (ByteArray × Int × Int) := (zak.f s0_0 s0_1 s0_2 (wrap64 ((l1.length : Int) - 1))).bind fun bt191 => (if 0 ≤ bt191.1 then (if bt191.1 < (l1.length : Int) then (some (za0 ByteArray.empty l1 bt191.1,bt191.2.1,bt191.2.2)) else (none)) else (none))
set_option maxHeartbeats 8000000 in
set_option maxRecDepth 100000 in
theorem zbq.calls (g : Nat) (s0_0 : List Int) (s0_1 : Int) (s0_2 : Int) (A1 : Option Addr) (c1 : Nat) (l1 : List ByteArray) (r1 : ByteArray) (r2 : Int) (r3 : Int) (w0 w : World) (hI : zk w0 w g s0_0 s0_1 s0_2) (hB : Below w0.heap.size w0 w) (hr1 : Kd.C Kd.string w A1 l1.length l1) (hc1 : l1.length ≤ c1) (hf1 : ∀ ad,A1 = some ad → 0 < l1.length → ad.block ≠ g) (h : zbq.f s0_0 s0_1 s0_2 l1 = some (r1,r2,r3)) :
  Calls Try.prog 72 #[.pointer (some ⟨g,0,none⟩), .slice A1 l1.length c1] w fun e w' => e = .returned (.string r1) ∧ zk w0 w' g s0_0 r2 r3 ∧ Below w0.heap.size w0 w' ∧ zu w w' g none := by
 have HR1 := za.mk hr1
 have HC1 := za.mk hc1
 clear hr1 hc1
 have HI0 := za.mk hI
 have HK := za.mk (zu.refl w g none)
 have HL := za.mk hB.size
 clear hI
 have HW0 := za.mk hB.size
 have HB := za.mk hB
 clear hB
 have H : ((zak.f s0_0 s0_1 s0_2 (wrap64 ((l1.length : Int) - 1))).bind fun bt191 => (if 0 ≤ bt191.1 then (if bt191.1 < (l1.length : Int) then (some (za0 ByteArray.empty l1 bt191.1,bt191.2.1,bt191.2.2)) else (none)) else (none))) = some (r1,r2,r3) := h
 clear h
 replace H := Option.bind_eq_some_iff.mp H
 obtain ⟨⟨t191,t192,t193⟩,A30,H⟩ := H
 replace H : (if 0 ≤ t191 then (if t191 < (l1.length : Int) then (some (za0 ByteArray.empty l1 t191,t192,t193)) else (none)) else (none)) = some (r1,r2,r3) := H
 have A3 := za.mk A30
 clear A30
 by_cases c4 : 0 ≤ t191
 ·rw [if_pos c4] at H
  have c4b0 : decide (0 ≤ t191) = true := decide_eq_true c4
  clear c4
  by_cases c5 : t191 < (l1.length : Int)
  ·rw [if_pos c5] at H
   have c5b0 : decide (t191 < (l1.length : Int)) = true := decide_eq_true c5
   clear c5
   simp only [Option.some.injEq,Prod.mk.injEq] at H
   obtain ⟨rfl,rfl,rfl⟩ := H
   go_enter Try.func72,Try.ntmps72
   go_wp2_with (first | ((with_reducible refine zz (f := 28) rfl ?_); refine zT (some 10) rfl rfl Try.func28 qi rfl #[.pointer (some ⟨g,0,none⟩), .int .i64 (wrap64 ((l1.length : Int) - 1))] rfl qa ?_; (with_reducible refine (zak.calls g s0_0 s0_1 s0_2 (wrap64 ((l1.length : Int) - 1)) t191 t192 t193 w0 _ ?side1 ?side2 A3.out).mono ?_); (case side1 => exact qh HI0.out); (case side2 => exact qm HB.out HI0.out); rintro e w6 ⟨rfl,hi,hb,hk⟩; refine ⟨_,rfl,?_⟩; have n0_ := za.mk (zu.trans (qg HK.out) hk (.inl rfl)); have n1_ := za.mk (hb); have n2_ := za.mk (hi); clear HK; clear HB; clear HI0; have HK := n0_; have HB := n1_; have HI0 := n2_; clear n0_ n1_ n2_; (try clear hb); (try clear hb2); (try clear hk); (try clear hi); have p194 : 0 ≤ (t191 : Int) := of_decide_eq_true qd; have q194 : t191 < (l1.length : Int) := of_decide_eq_true qd; obtain ⟨ad194,e194,hx194_0⟩ := Kd.zbw HR1.out t191 p194 q194; cases e194; replace hx194_0 := zfs HK.out hx194_0 (by first | (rw [add_block]; exact hf1 _ rfl qj) | exact hf1 _ rfl qj | exact hf1 ad194 rfl qj); replace p194 := eq_true p194; replace q194 := eq_true q194))
   go_ret
   exact ⟨by first | rfl | (simp [zy,zx] <;> rfl) | (simp [*,zy,zx] <;> rfl),by repeat (first | (with_reducible first | exact HI0.out | apply zk.alloc | apply zk.drewN | apply zk.drew | apply zk.zao | apply zk.zaq) | exact HI0.out),by repeat (first | (with_reducible first | exact HB.out | apply ze | apply zb | apply zf | refine zi ?_ (zk.ge HI0.out)) | exact HB.out),by repeat (first | (with_reducible first | exact HK.out | apply zu.zaQ | apply zR | apply zW | apply zS) | exact HK.out)⟩
  ·rw [if_neg c5] at H
   exact absurd H qz
 ·rw [if_neg c4] at H
  exact absurd H qz
def zat.f (s0_0 : List Int) (s0_1 : Int) (s0_2 : Int) : Option (ByteArray × Int × Int) := (zbq.f s0_0 s0_1 s0_2 (([(⟨#[97]⟩ : ByteArray),(⟨#[98]⟩ : ByteArray),(⟨#[99]⟩ : ByteArray),(⟨#[97,110,32,49]⟩ : ByteArray),(⟨#[98,101,110]⟩ : ByteArray),(⟨#[99,121,100,32,49,50]⟩ : ByteArray)] : List ByteArray))).bind fun bt198 => (some (bt198.1,bt198.2.1,bt198.2.2))
set_option maxHeartbeats 8000000 in
set_option maxRecDepth 100000 in
theorem zat.calls (g : Nat) (s0_0 : List Int) (s0_1 : Int) (s0_2 : Int) (r1 : ByteArray) (r2 : Int) (r3 : Int) (w0 w : World) (hI : zk w0 w g s0_0 s0_1 s0_2) (hB : Below w0.heap.size w0 w) (h : zat.f s0_0 s0_1 s0_2 = some (r1,r2,r3)) :
  Calls Try.prog 35 #[.pointer (some ⟨g,0,none⟩)] w fun e w' => e = .returned (.string r1) ∧ zk w0 w' g s0_0 r2 r3 ∧ Below w0.heap.size w0 w' ∧ zu w w' g none := by
 have HI0 := za.mk hI
 have HK := za.mk (zu.refl w g none)
 have HL := za.mk hB.size
 clear hI
 have HW0 := za.mk hB.size
 have HB := za.mk hB
 clear hB
 have H : ((zbq.f s0_0 s0_1 s0_2 (([(⟨#[97]⟩ : ByteArray),(⟨#[98]⟩ : ByteArray),(⟨#[99]⟩ : ByteArray),(⟨#[97,110,32,49]⟩ : ByteArray),(⟨#[98,101,110]⟩ : ByteArray),(⟨#[99,121,100,32,49,50]⟩ : ByteArray)] : List ByteArray))).bind fun bt198 => (some (bt198.1,bt198.2.1,bt198.2.2))) = some (r1,r2,r3) := h
 clear h
 obtain ⟨y195,hy195⟩ : ∃ y_ : List ByteArray,y_ = (([(⟨#[97]⟩ : ByteArray),(⟨#[98]⟩ : ByteArray),(⟨#[99]⟩ : ByteArray),(⟨#[97,110,32,49]⟩ : ByteArray),(⟨#[98,101,110]⟩ : ByteArray),(⟨#[99,121,100,32,49,50]⟩ : ByteArray)] : List ByteArray)) := ⟨_,rfl⟩
 replace H : ((zbq.f s0_0 s0_1 s0_2 y195).bind fun bt198 => (some (bt198.1,bt198.2.1,bt198.2.2))) = some (r1,r2,r3) := by first | (rw [hy195]; with_reducible exact H) | (have H2_ := (Option.bind_some _ _).symm.trans H; rw [hy195]; with_reducible exact H2_) | (have H2_ := (Option.bind_some _ _).symm.trans H; with_reducible exact H2_) | with_reducible exact H | (rw [hy195]; exact H) | exact H
 have Ny195 := za.mk hy195
 clear hy195
 replace H := Option.bind_eq_some_iff.mp H
 obtain ⟨⟨t198,t199,t200⟩,A20,H⟩ := H
 replace H : (some (t198,t199,t200)) = some (r1,r2,r3) := H
 have A2 := za.mk A20
 clear A20
 simp only [Option.some.injEq,Prod.mk.injEq] at H
 obtain ⟨rfl,rfl,rfl⟩ := H
 go_enter Try.func35,Try.ntmps35
 go_wp2_with (first | ((with_reducible refine zaE (N := 4) rfl ?_); refine Kd.zee Kd.string _ 9 ?hg (N := 4) ?hd (xs := ([(⟨#[97]⟩ : ByteArray),(⟨#[98]⟩ : ByteArray),(⟨#[99]⟩ : ByteArray),(⟨#[97,110,32,49]⟩ : ByteArray),(⟨#[98,101,110]⟩ : ByteArray),(⟨#[99,121,100,32,49,50]⟩ : ByteArray)] : List ByteArray)) (inner := [.string (⟨#[97]⟩ : ByteArray), .string (⟨#[98]⟩ : ByteArray), .string (⟨#[99]⟩ : ByteArray), .string (⟨#[97,110,32,49]⟩ : ByteArray), .string (⟨#[98,101,110]⟩ : ByteArray), .string (⟨#[99,121,100,32,49,50]⟩ : ByteArray)]) (ok := fun _ => True) (okp := fun _ => True) ?hr ?hp (fun _ hk => hk) trivial (Below.refl _ _) (Nat.le_refl _) qz ?_; (case hd => rfl); (case hg => rfl); (case hr => exact qq); (case hp => exact (zan.one (show Kd.M Kd.string _ _ _ (⟨#[97]⟩ : ByteArray) [.string (⟨#[97]⟩ : ByteArray)] from rfl) (zan.one (show Kd.M Kd.string _ _ _ (⟨#[98]⟩ : ByteArray) [.string (⟨#[98]⟩ : ByteArray)] from rfl) (zan.one (show Kd.M Kd.string _ _ _ (⟨#[99]⟩ : ByteArray) [.string (⟨#[99]⟩ : ByteArray)] from rfl) (zan.one (show Kd.M Kd.string _ _ _ (⟨#[97,110,32,49]⟩ : ByteArray) [.string (⟨#[97,110,32,49]⟩ : ByteArray)] from rfl) (zan.one (show Kd.M Kd.string _ _ _ (⟨#[98,101,110]⟩ : ByteArray) [.string (⟨#[98,101,110]⟩ : ByteArray)] from rfl) (zan.one (show Kd.M Kd.string _ _ _ (⟨#[99,121,100,32,49,50]⟩ : ByteArray) [.string (⟨#[99,121,100,32,49,50]⟩ : ByteArray)] from rfl) (zan.none _ _)))))))); intro v196 w3 ho4 hb hg_ hnew_; clear hg_ hnew_; (first | rw [← Ny195.out] at ho4 | (simp only [Int.reduceToNat] at ho4; rw [← Ny195.out] at ho4)); have n0_ := za.mk (Kd.zaT ho4 (zci (w := w) (g := g) (row := none) (qg HK.out))); have n1_ := za.mk (zk.below (qh HI0.out) hb); have n2_ := za.mk (zu.trans (qg HK.out) (zu.of_below hb g none) (.inl rfl)); have n3_ := za.mk (zq (qm HB.out HI0.out) hb); clear HI0; clear HK; clear HB; have HO197 := n0_; have HI0 := n1_; have HK := n2_; have HB := n3_; clear n0_ n1_ n2_ n3_; clear hb ho4; obtain ⟨Ao5,co5,eo5⟩ := Kd.zbr HO197.out; subst eo5) | ((with_reducible refine zz (f := 72) rfl ?_); refine zT (some 5) rfl rfl Try.func72 qi rfl #[.pointer (some ⟨g,0,none⟩), .slice Ao5 y195.length co5] rfl qa ?_; (with_reducible refine (zbq.calls g s0_0 s0_1 s0_2 _ _ y195 t198 t199 t200 w0 _ ?side1 ?side2 ?side3 ?side4 ?side5 A2.out).mono ?_); (case side1 => exact qh HI0.out); (case side2 => exact qm HB.out HI0.out); (case side3 => exact qL HO197.out); (case side4 => exact (Kd.zb2 HO197.out).2.1); (case side5 => exact zjt (zk.own_ne HI0.out HO197.out qt)); rintro e w6 ⟨rfl,hi,hb,hk⟩; refine ⟨_,rfl,?_⟩; have n0_ := za.mk (Kd.zaA (Kd.zcf (zk.apart (show zk w0 _ g s0_0 s0_1 s0_2 from by repeat (first | (with_reducible first | exact HI0.out | apply zk.alloc | apply zk.drewN | apply zk.drew | apply zk.zao | apply zk.zaq) | exact HI0.out)) (qp HO197.out) qt) hk (fun _ h => h.2)) (fun _ h => h.1)); have n1_ := za.mk (zu.trans (qg HK.out) hk (.inl rfl)); have n2_ := za.mk (hb); have n3_ := za.mk (hi); clear HO197; clear HK; clear HB; clear HI0; have HO197 := n0_; have HK := n1_; have HB := n2_; have HI0 := n3_; clear n0_ n1_ n2_ n3_; (try clear hb); (try clear hb2); (try clear hk); (try clear hi)))
 go_ret
 exact ⟨by first | rfl | (simp [zy,zx] <;> rfl) | (simp [*,zy,zx] <;> rfl),by repeat (first | (with_reducible first | exact HI0.out | apply zk.alloc | apply zk.drewN | apply zk.drew | apply zk.zao | apply zk.zaq) | exact HI0.out),by repeat (first | (with_reducible first | exact HB.out | apply ze | apply zb | apply zf | refine zi ?_ (zk.ge HI0.out)) | exact HB.out),by repeat (first | (with_reducible first | exact HK.out | apply zu.zaQ | apply zR | apply zW | apply zS) | exact HK.out)⟩
def zX.l0 : Nat → List ByteArray → Int → List Int → Int → Int → Option (List ByteArray × Int × Int)
 | 0,_,_,_,_,_ => none
 | k + 1,x5,x6,x1000,x1001,x1002 => if x6 > 0 then ((zat.f x1000 x1001 x1002).bind fun bt204 => (if x5.length < 8796093022208 then (zX.l0 k (x5 ++ [bt204.1]) (wrap64 (x6 - 1)) x1000 bt204.2.1 bt204.2.2) else (none))) else (some (x5,x1001,x1002))
def zX.f (k : Nat) (s0_0 : List Int) (s0_1 : Int) (s0_2 : Int) (a1 : Int) : Option (List ByteArray × Int × Int) := (zak.f s0_0 s0_1 s0_2 a1).bind fun bt201 => (zX.l0 k ([] : List ByteArray) bt201.1 s0_0 bt201.2.1 bt201.2.2)
theorem zX.zjg : ∀ k,(∀ y0 y1 y2 y3 y4,LeO (zX.l0 k y0 y1 y2 y3 y4) (zX.l0 (k + 1) y0 y1 y2 y3 y4))
 | 0 => fun _ _ _ _ _ r h => by simp [zX.l0] at h
 | k + 1 => by
  have ih0 := zX.zjg k
  ·intro y0 y1 y2 y3 y4
   unfold zX.l0
   repeat' first
   | (with_reducible exact ih0 _ _ _ _ _)
   | (with_reducible exact LeO.refl _)
   | (with_reducible exact LeO.none _)
   | (with_reducible refine LeO.ite ?_ ?_)
   | (with_reducible refine LeO.bind ?_ (fun _ => ?_))
   | exact ih0 _ _ _ _ _
   | exact LeO.none _
   | refine LeO.ite ?_ ?_
   | refine LeO.bind ?_ (fun _ => ?_)
theorem zX.mono : ∀ a0 a1 a2 a3 k,LeO (zX.f k a0 a1 a2 a3) (zX.f (k + 1) a0 a1 a2 a3) := by
 intro a0 a1 a2 a3 k
 have ih0 := zX.zjg k
 unfold zX.f
 repeat' first
   | (with_reducible exact ih0 _ _ _ _ _)
   | (with_reducible exact LeO.refl _)
   | (with_reducible exact LeO.none _)
   | (with_reducible refine LeO.ite ?_ ?_)
   | (with_reducible refine LeO.bind ?_ (fun _ => ?_))
   | exact ih0 _ _ _ _ _
   | exact LeO.none _
   | refine LeO.ite ?_ ?_
   | refine LeO.bind ?_ (fun _ => ?_)
set_option maxHeartbeats 8000000 in
set_option maxRecDepth 100000 in
theorem zX.calls (k : Nat) (g : Nat) (s0_0 : List Int) (s0_1 : Int) (s0_2 : Int) (a1 : Int) (r1 : List ByteArray) (r2 : Int) (r3 : Int) (w0 w : World) (hI : zk w0 w g s0_0 s0_1 s0_2) (hB : Below w0.heap.size w0 w) (h : zX.f k s0_0 s0_1 s0_2 a1 = some (r1,r2,r3)) :
  Calls Try.prog 20 #[.pointer (some ⟨g,0,none⟩), .int .i64 a1] w fun e w' => ∃ v0_ : Value,e = .returned (v0_) ∧ Kd.R Kd.string 9 w' w.heap.size (fun _ => True) v0_ r1 ∧ zk w0 w' g s0_0 r2 r3 ∧ Below w0.heap.size w0 w' ∧ zu w w' g none := by
 have HI0 := za.mk hI
 have HK := za.mk (zu.refl w g none)
 have HL := za.mk hB.size
 clear hI
 have HW0 := za.mk hB.size
 have HB := za.mk hB
 clear hB
 have H : ((zak.f s0_0 s0_1 s0_2 a1).bind fun bt201 => (zX.l0 k ([] : List ByteArray) bt201.1 s0_0 bt201.2.1 bt201.2.2)) = some (r1,r2,r3) := h
 clear h
 replace H := Option.bind_eq_some_iff.mp H
 obtain ⟨⟨t201,t202,t203⟩,A30,H⟩ := H
 replace H : (zX.l0 k ([] : List ByteArray) t201 s0_0 t202 t203) = some (r1,r2,r3) := H
 have A3 := za.mk A30
 clear A30
 have H' := za.mk H
 clear H
 go_enter Try.func20,Try.ntmps20
 go_wp2_with (first | ((with_reducible refine zz (f := 28) rfl ?_); refine zT (some 9) rfl rfl Try.func28 qi rfl #[.pointer (some ⟨g,0,none⟩), .int .i64 a1] rfl qa ?_; (with_reducible refine (zak.calls g s0_0 s0_1 s0_2 a1 t201 t202 t203 w0 _ ?side1 ?side2 A3.out).mono ?_); (case side1 => exact qh HI0.out); (case side2 => exact qm HB.out HI0.out); rintro e w4 ⟨rfl,hi,hb,hk⟩; refine ⟨_,rfl,?_⟩; have n0_ := za.mk (zu.trans (qg HK.out) hk (.inl rfl)); have n1_ := za.mk (hb); have n2_ := za.mk (hi); clear HK; clear HB; clear HI0; have HK := n0_; have HB := n1_; have HI0 := n2_; clear n0_ n1_ n2_; (try clear hb); (try clear hb2); (try clear hk); (try clear hi)))
 go_loopg [5,6] k (fun kq v5 v6 w' => ∃ (x5_1 : List ByteArray) (x6_1 : Int) (x1001_1 : Int) (x1002_1 : Int),v6 = .int .i64 x6_1 ∧ za (zX.l0 kq x5_1 x6_1 s0_0 x1001_1 x1002_1 = some (r1,r2,r3)) ∧ za (kq ≤ k) ∧ za (Kd.R Kd.string 9 w' w.heap.size (fun _ => True) v5 x5_1) ∧ za (zk w0 w' g s0_0 x1001_1 x1002_1) ∧ za (zu w w' g none) ∧ za (Below w0.heap.size w0 w'))
 case atStart => exact ⟨(([] : List ByteArray)),(t201),(t202),(t203),qf,H',⟨Nat.le_refl _⟩,⟨by first | exact Kd.zbP _ _ _ _ _ | exact Kd.zcX _ _ _ _ _ | exact Kd.zc0 _ _ _ _ _ | exact Kd.zc1 _ _ _ _ _ | exact Kd.zc3 _ _ _ _ _⟩,⟨by repeat (first | (with_reducible first | exact HI0.out | apply zk.alloc | apply zk.drewN | apply zk.drew | apply zk.zao | apply zk.zaq) | exact HI0.out)⟩,⟨by repeat (first | (with_reducible first | exact HK.out | apply zu.zaQ | apply zR | apply zW | apply zS) | exact HK.out)⟩,⟨by repeat (first | (with_reducible first | exact HB.out | apply ze | apply zb | apply zf | refine zi ?_ (zk.ge HI0.out)) | exact HB.out)⟩⟩
 case round =>
  clear H'
  try clear c2
  try clear p2
  obtain ⟨x5_1,x6_1,x1001_1,x1002_1,rfl,HA,HK1,HO_5,HI0,HK,HB⟩ := hrel
  cases gk with
  | zero => exact absurd HA.out (by simp [zX.l0])
  | succ k1 =>
   have H := HA.out
   clear HA
   simp only [zX.l0] at H
   by_cases c5 : x6_1 > 0
   ·rw [if_pos c5] at H
    have c5b0 : decide (0 < x6_1) = true := decide_eq_true c5
    clear c5
    replace H := Option.bind_eq_some_iff.mp H
    obtain ⟨⟨t204,t205,t206⟩,A60,H⟩ := H
    replace H : (if x5_1.length < 8796093022208 then (zX.l0 k1 (x5_1 ++ [t204]) (wrap64 (x6_1 - 1)) s0_0 t205 t206) else (none)) = some (r1,r2,r3) := H
    have A6 := za.mk A60
    clear A60
    by_cases c7 : x5_1.length < 8796093022208
    ·rw [if_pos c7] at H
     have LMc7 := za.mk c7
     clear c7
     obtain ⟨y207,hy207⟩ : ∃ y_ : List ByteArray,y_ = (x5_1 ++ [t204]) := ⟨_,rfl⟩
     replace H : (zX.l0 k1 y207 (wrap64 (x6_1 - 1)) s0_0 t205 t206) = some (r1,r2,r3) := by first | (rw [hy207]; with_reducible exact H) | (have H2_ := (Option.bind_some _ _).symm.trans H; rw [hy207]; with_reducible exact H2_) | (have H2_ := (Option.bind_some _ _).symm.trans H; with_reducible exact H2_) | with_reducible exact H | (rw [hy207]; exact H) | exact H
     have Ny207 := za.mk hy207
     clear hy207
     have H' := za.mk H
     clear H
     go_wp2_with (first | ((with_reducible refine zz (f := 35) rfl ?_); refine zT (some 16) rfl rfl Try.func35 qi rfl #[.pointer (some ⟨g,0,none⟩)] rfl qa ?_; (with_reducible refine (zat.calls g s0_0 x1001_1 x1002_1 t204 t205 t206 w0 _ ?side1 ?side2 A6.out).mono ?_); (case side1 => exact qh HI0.out); (case side2 => exact qm HB.out HI0.out); rintro e w8 ⟨rfl,hi,hb,hk⟩; refine ⟨_,rfl,?_⟩; have n0_ := za.mk (Kd.zaA (Kd.zcf (zk.apart (show zk w0 _ g s0_0 x1001_1 x1002_1 from by repeat (first | (with_reducible first | exact HI0.out | apply zk.alloc | apply zk.drewN | apply zk.drew | apply zk.zao | apply zk.zaq) | exact HI0.out)) (qp HO_5.out) qt) hk (fun _ h => h.2)) (fun _ h => h.1)); have n1_ := za.mk (zu.trans (qg HK.out) hk (.inl rfl)); have n2_ := za.mk (hb); have n3_ := za.mk (hi); clear HO_5; clear HK; clear HB; clear HI0; have HO_5 := n0_; have HK := n1_; have HB := n2_; have HI0 := n3_; clear n0_ n1_ n2_ n3_; (try clear hb); (try clear hb2); (try clear hk); (try clear hi)) | ((with_reducible refine zbf (b := .append) (xs := #[.tmp 14, .tmp 17]) rfl ?_); at_builtin; refine Kd.zcm Kd.string w.heap.size rfl (.tmp 14) (.tmp 17) 22 9 (.string ⟨#[]⟩) 16 rfl Try.underlying22 zdb rfl qt qj u5 x5_1 t204 [.string t204] (fun _ => True) (fun _ => False) rfl rfl ?aP (fun _ hk => hk.elim) ?aF ?aO (Below.refl _ _) ?aS ?aL ?_; (case aP => exact rfl); (case aF => exact (fun _ _ => trivial)); (case aO => exact (qp HO_5.out)); (case aS => exact (zci (w := w) (g := g) (row := none) (qg HK.out))); (case aL => have := LMc7.out; omega); intro v208 w9 ho hb hg hat; rw [← Ny207.out] at ho; have n0_ := za.mk (zk.grown (qh HI0.out) hg (zk.own_ne HI0.out HO_5.out qt)); have n1_ := za.mk (zbU (qm HB.out HI0.out) HL.out hb); have n2_ := za.mk (zu.trans (qg HK.out) (zu.zdf hg g) (Kd.zdQ HO_5.out)); have n3_ := za.mk (ho); clear HI0; clear HB; clear HK; clear HO_5; have HI0 := n0_; have HB := n1_; have HK := n2_; have HO209 := n3_; clear n0_ n1_ n2_ n3_; clear ho hb hg hat))
     go_roundg k1
     case measure => have := HK1.out; omega
     case rel => exact ⟨(y207),(wrap64 (x6_1 - 1)),(t205),(t206),qf,H',⟨by have := HK1.out; omega⟩,⟨by (with_reducible repeat (first | apply Kd.zal | apply Kd.zam | apply Kd.zau)); exact HO209.out⟩,⟨by repeat (first | (with_reducible first | exact HI0.out | apply zk.alloc | apply zk.drewN | apply zk.drew | apply zk.zao | apply zk.zaq) | exact HI0.out)⟩,⟨by repeat (first | (with_reducible first | exact HK.out | apply zu.zaQ | apply zR | apply zW | apply zS) | exact HK.out)⟩,⟨by repeat (first | (with_reducible first | exact HB.out | apply ze | apply zb | apply zf | refine zi ?_ (zk.ge HI0.out)) | exact HB.out)⟩⟩
    ·rw [if_neg c7] at H
     exact absurd H qz
   ·rw [if_neg c5] at H
    have c5b0 : decide (0 < x6_1) = false := decide_eq_false c5
    clear c5
    simp only [Option.some.injEq,Prod.mk.injEq] at H
    obtain ⟨rfl,rfl,rfl⟩ := H
    go_wp2
    go_ret
    exact ⟨_,by first | rfl | (simp [zy,zx] <;> rfl) | (simp [*,zy,zx] <;> rfl),by (with_reducible repeat (first | apply Kd.zal | apply Kd.zam | apply Kd.zau)); exact HO_5.out,by repeat (first | (with_reducible first | exact HI0.out | apply zk.alloc | apply zk.drewN | apply zk.drew | apply zk.zao | apply zk.zaq) | exact HI0.out),by repeat (first | (with_reducible first | exact HB.out | apply ze | apply zb | apply zf | refine zi ?_ (zk.ge HI0.out)) | exact HB.out),by repeat (first | (with_reducible first | exact HK.out | apply zu.zaQ | apply zR | apply zW | apply zS) | exact HK.out)⟩
def zaD.f (l0 : List ByteArray) : Option (List ByteArray) := (some (([] : List ByteArray) : List ByteArray)).bind fun y210 => (if y210.length + l0.length < 8796093022208 then (some (y210 ++ l0)) else (none))
set_option maxHeartbeats 8000000 in
set_option maxRecDepth 100000 in
theorem zaD.calls (A0 : Option Addr) (c0 : Nat) (l0 : List ByteArray) (r : List ByteArray) (w : World) (hr0 : Kd.C Kd.string w A0 l0.length l0) (hc0 : l0.length ≤ c0) (h : zaD.f l0 = some r) :
  Calls Try.prog 21 #[.slice A0 l0.length c0] w fun e w' => ∃ v0_ : Value,e = .returned (v0_) ∧ Kd.R Kd.string 9 w' w.heap.size (fun _ => True) v0_ r ∧ Below w.heap.size w w' := by
 have HR0 := za.mk hr0
 have HC0 := za.mk hc0
 clear hr0 hc0
 have HB := za.mk (Below.refl w.heap.size w)
 have H : ((some (([] : List ByteArray) : List ByteArray)).bind fun y210 => (if y210.length + l0.length < 8796093022208 then (some (y210 ++ l0)) else (none))) = some r := h
 clear h
 obtain ⟨y210,hy210⟩ : ∃ y_ : List ByteArray,y_ = (([] : List ByteArray)) := ⟨_,rfl⟩
 replace H : (if y210.length + l0.length < 8796093022208 then (some (y210 ++ l0)) else (none)) = some r := by first | (rw [hy210]; with_reducible exact H) | (have H2_ := (Option.bind_some _ _).symm.trans H; rw [hy210]; with_reducible exact H2_) | (have H2_ := (Option.bind_some _ _).symm.trans H; with_reducible exact H2_) | with_reducible exact H | (rw [hy210]; exact H) | exact H
 have Ny210 := za.mk hy210
 clear hy210
 by_cases c2 : y210.length + l0.length < 8796093022208
 ·rw [if_pos c2] at H
  have LMc2 := za.mk c2
  clear c2
  obtain ⟨y213,hy213⟩ : ∃ y_ : List ByteArray,y_ = (y210 ++ l0) := ⟨_,rfl⟩
  replace H : (some y213) = some r := by first | (rw [hy213]; with_reducible exact H) | (have H2_ := (Option.bind_some _ _).symm.trans H; rw [hy213]; with_reducible exact H2_) | (have H2_ := (Option.bind_some _ _).symm.trans H; with_reducible exact H2_) | with_reducible exact H | (rw [hy213]; exact H) | exact H
  have Ny213 := za.mk hy213
  clear hy213
  obtain rfl := Option.some.inj H
  go_enter Try.func21,Try.ntmps21
  go_wp2_with (first | ((with_reducible refine zaE (N := 3) rfl ?_); refine Kd.zee Kd.string _ 9 ?hg (N := 3) ?hd (xs := ([] : List ByteArray)) (inner := []) (ok := fun _ => True) (okp := fun _ => True) ?hr ?hp (fun _ hk => hk) trivial (Below.refl _ _) (Nat.le_refl _) qz ?_; (case hd => rfl); (case hg => rfl); (case hr => exact qq); (case hp => exact (zan.none _ _)); intro v211 w3 ho4 hb hg_ hnew_; clear hg_ hnew_; (first | rw [← Ny210.out] at ho4 | (simp only [Int.reduceToNat] at ho4; rw [← Ny210.out] at ho4)); have n0_ := za.mk (Kd.zaT ho4 (zC (qc HB.out))); have n1_ := za.mk (zq (qc HB.out) hb); clear HB; have HO212 := n0_; have HB := n1_; clear n0_ n1_; clear hb ho4) | ((with_reducible refine zbf (b := .append) (xs := #[.tmp 3, .tmp 4]) rfl ?_); at_builtin; refine Kd.zdp Kd.string (w0 := w) w.heap.size rfl (.tmp 3) (.tmp 4) 22 9 (.string ⟨#[]⟩) 16 rfl Try.underlying22 zdb rfl qt qj v211 y210 l0 _ _ _ (fun _ => True) (fun _ => False) rfl rfl ?aO ?aR (fun _ _ h => h) (fun _ h => h.elim) ?aF ?aB ?aS ?aL ?_; (case aR => exact ql HR0.out HB.out); (case aB => exact (qc HB.out)); (case aF => exact (fun _ _ => trivial)); (case aO => exact (qp HO212.out)); (case aS => exact (zC (qc HB.out))); (case aL => have := LMc2.out; omega); intro v214 w5 ho hb hg hat; rw [← Ny213.out] at ho; have n0_ := za.mk (hb); have n1_ := za.mk (ho); clear HB; clear HO212; have HB := n0_; have HO215 := n1_; clear n0_ n1_; clear ho hb hg hat))
  go_ret
  exact ⟨_,by first | rfl | (simp [zy,zx] <;> rfl) | (simp [*,zy,zx] <;> rfl),by (with_reducible repeat (first | apply Kd.zal | apply Kd.zam | apply Kd.zau)); exact HO215.out,by repeat (first | (with_reducible first | exact HB.out | apply ze | apply zb | apply zf) | exact HB.out)⟩
 ·rw [if_neg c2] at H
  exact absurd H qz
def zab.l0 : Nat → ByteArray → Int → Option (Int)
 | 0,_,_ => none
 | k + 1,x0,x3 => if x3 < (x0.size : Int) then (if 0 ≤ x3 then (if (bt x0 x3) < 97 then (if (bt x0 x3) < 48 then (if (bt x0 x3) = 32 then (zab.l0 k x0 (wrap64 (x3 + 1))) else (some 2)) else (if (bt x0 x3) > 57 then (if (bt x0 x3) = 32 then (zab.l0 k x0 (wrap64 (x3 + 1))) else (some 2)) else (zab.l0 k x0 (wrap64 (x3 + 1))))) else (if (bt x0 x3) > 122 then (if (bt x0 x3) < 48 then (if (bt x0 x3) = 32 then (zab.l0 k x0 (wrap64 (x3 + 1))) else (some 2)) else (if (bt x0 x3) > 57 then (if (bt x0 x3) = 32 then (zab.l0 k x0 (wrap64 (x3 + 1))) else (some 2)) else (zab.l0 k x0 (wrap64 (x3 + 1))))) else (zab.l0 k x0 (wrap64 (x3 + 1))))) else (none)) else (if 0 < (x0.size : Int) then (if (bt x0 0) = 32 then (some 2) else (if 0 ≤ (wrap64 ((x0.size : Int) - 1)) then (if (wrap64 ((x0.size : Int) - 1)) < (x0.size : Int) then (if (bt x0 (wrap64 ((x0.size : Int) - 1))) = 32 then (some 2) else (some 0)) else (none)) else (none))) else (none))
def zab.f (k : Nat) (a0 : ByteArray) : Option (Int) := if (a0.size : Int) = 0 then (some 7) else (if (a0.size : Int) > 10 then (some 10) else (zab.l0 k a0 0))
set_option maxHeartbeats 8000000 in
set_option maxRecDepth 100000 in
theorem zab.calls (k : Nat) (a0 : ByteArray) (r : Int) (w : World) (h : zab.f k a0 = some r) :
  Calls Try.prog 83 #[.string a0] w fun e w' => e = .returned (.int .i64 r) ∧ zw w w' := by
 have H : (if (a0.size : Int) = 0 then (some 7) else (if (a0.size : Int) > 10 then (some 10) else (zab.l0 k a0 0))) = some r := h
 clear h
 by_cases c2 : (a0.size : Int) = 0
 ·rw [if_pos c2] at H
  have c2b0 : ((a0.size : Int) == 0) = true := beq_iff_eq.mpr c2
  have c2b1 : ((a0.size : Int) != 0) = false := bne_eq_false_iff_eq.mpr c2
  clear c2
  obtain rfl := Option.some.inj H
  go_enter Try.func83,Try.ntmps83
  go_wp2
  go_ret
  exact ⟨by first | rfl | (simp; done) | (simp [*]; done),by repeat (first | exact zw.refl _ | apply zw.step)⟩
 ·rw [if_neg c2] at H
  have c2b0 : ((a0.size : Int) == 0) = false := beq_eq_false_iff_ne.mpr c2
  have c2b1 : ((a0.size : Int) != 0) = true := bne_iff_ne.mpr c2
  by_cases c3 : (a0.size : Int) > 10
  ·rw [if_pos c3] at H
   have c3b0 : decide (10 < (a0.size : Int)) = true := decide_eq_true c3
   have c3b1 : decide (10 < a0.size) = true := decide_eq_true qj
   clear c3
   obtain rfl := Option.some.inj H
   go_enter Try.func83,Try.ntmps83
   go_wp2
   go_ret
   exact ⟨by first | rfl | (simp; done) | (simp [*]; done),by repeat (first | exact zw.refl _ | apply zw.step)⟩
  ·rw [if_neg c3] at H
   have c3b0 : decide (10 < (a0.size : Int)) = false := decide_eq_false c3
   have c3b1 : decide (10 < a0.size) = false := decide_eq_false qj
   clear c3
   have H' := za.mk H
   clear H
   go_enter Try.func83,Try.ntmps83
   go_wp2
   go_loopg [3] k (fun kq v3 w' => ∃ (x3_1 : Int),v3 = .int .i64 x3_1 ∧ za (zab.l0 kq a0 x3_1 = some r) ∧ za (kq ≤ k) ∧ zw w w')
   case atStart => exact ⟨(0),qf,H',⟨Nat.le_refl _⟩,by repeat (first | exact zw.refl _ | apply zw.step)⟩
   case round =>
    clear H'
    try clear c2
    try clear c2b0
    try clear c2b1
    try clear p2
    try clear c3
    try clear c3b0
    try clear c3b1
    obtain ⟨x3_1,rfl,HA,HK1,⟨m1,rfl⟩⟩ := hrel
    cases gk with
    | zero => exact absurd HA.out (by simp [zab.l0])
    | succ k1 =>
     have H := HA.out
     clear HA
     simp only [zab.l0] at H
     by_cases c4 : x3_1 < (a0.size : Int)
     ·rw [if_pos c4] at H
      have c4b0 : decide (x3_1 < (a0.size : Int)) = true := decide_eq_true c4
      clear c4
      by_cases c5 : 0 ≤ x3_1
      ·rw [if_pos c5] at H
       have c5b0 : decide (0 ≤ x3_1) = true := decide_eq_true c5
       clear c5
       by_cases c7 : (bt a0 x3_1) < 97
       ·rw [if_pos c7] at H
        have c7b0 : decide ((bt a0 x3_1) < 97) = true := decide_eq_true c7
        clear c7
        by_cases c8 : (bt a0 x3_1) < 48
        ·rw [if_pos c8] at H
         have c8b0 : decide ((bt a0 x3_1) < 48) = true := decide_eq_true c8
         clear c8
         by_cases c9 : (bt a0 x3_1) = 32
         ·rw [if_pos c9] at H
          have c9b0 : ((bt a0 x3_1) == 32) = true := beq_iff_eq.mpr c9
          have c9b1 : ((bt a0 x3_1) != 32) = false := bne_eq_false_iff_eq.mpr c9
          clear c9
          have H' := za.mk H
          clear H
          have p6 : 0 ≤ (x3_1 : Int) := of_decide_eq_true qd
          have q6 : x3_1 < (a0.size : Int) := of_decide_eq_true qd
          have hx6 := zcQ a0 x3_1
          replace p6 := eq_true p6
          replace q6 := eq_true q6
          go_wp2
          go_roundg k1
          case measure => have := HK1.out; omega
          case rel => exact ⟨(wrap64 (x3_1 + 1)),qf,H',⟨by have := HK1.out; omega⟩,by repeat (first | exact zw.refl _ | apply zw.step)⟩
         ·rw [if_neg c9] at H
          have c9b0 : ((bt a0 x3_1) == 32) = false := beq_eq_false_iff_ne.mpr c9
          have c9b1 : ((bt a0 x3_1) != 32) = true := bne_iff_ne.mpr c9
          obtain rfl := Option.some.inj H
          have p6 : 0 ≤ (x3_1 : Int) := of_decide_eq_true qd
          have q6 : x3_1 < (a0.size : Int) := of_decide_eq_true qd
          have hx6 := zcQ a0 x3_1
          replace p6 := eq_true p6
          replace q6 := eq_true q6
          go_wp2
          go_ret
          exact ⟨by first | rfl | (simp; done) | (simp [*]; done),by repeat (first | exact zw.refl _ | apply zw.step)⟩
        ·rw [if_neg c8] at H
         have c8b0 : decide ((bt a0 x3_1) < 48) = false := decide_eq_false c8
         clear c8
         by_cases c10 : (bt a0 x3_1) > 57
         ·rw [if_pos c10] at H
          have c10b0 : decide (57 < (bt a0 x3_1)) = true := decide_eq_true c10
          clear c10
          by_cases c11 : (bt a0 x3_1) = 32
          ·rw [if_pos c11] at H
           have c11b0 : ((bt a0 x3_1) == 32) = true := beq_iff_eq.mpr c11
           have c11b1 : ((bt a0 x3_1) != 32) = false := bne_eq_false_iff_eq.mpr c11
           clear c11
           have H' := za.mk H
           clear H
           have p6 : 0 ≤ (x3_1 : Int) := of_decide_eq_true qd
           have q6 : x3_1 < (a0.size : Int) := of_decide_eq_true qd
           have hx6 := zcQ a0 x3_1
           replace p6 := eq_true p6
           replace q6 := eq_true q6
           go_wp2
           go_roundg k1
           case measure => have := HK1.out; omega
           case rel => exact ⟨(wrap64 (x3_1 + 1)),qf,H',⟨by have := HK1.out; omega⟩,by repeat (first | exact zw.refl _ | apply zw.step)⟩
          ·rw [if_neg c11] at H
           have c11b0 : ((bt a0 x3_1) == 32) = false := beq_eq_false_iff_ne.mpr c11
           have c11b1 : ((bt a0 x3_1) != 32) = true := bne_iff_ne.mpr c11
           obtain rfl := Option.some.inj H
           have p6 : 0 ≤ (x3_1 : Int) := of_decide_eq_true qd
           have q6 : x3_1 < (a0.size : Int) := of_decide_eq_true qd
           have hx6 := zcQ a0 x3_1
           replace p6 := eq_true p6
           replace q6 := eq_true q6
           go_wp2
           go_ret
           exact ⟨by first | rfl | (simp; done) | (simp [*]; done),by repeat (first | exact zw.refl _ | apply zw.step)⟩
         ·rw [if_neg c10] at H
          have c10b0 : decide (57 < (bt a0 x3_1)) = false := decide_eq_false c10
          clear c10
          have H' := za.mk H
          clear H
          have p6 : 0 ≤ (x3_1 : Int) := of_decide_eq_true qd
          have q6 : x3_1 < (a0.size : Int) := of_decide_eq_true qd
          have hx6 := zcQ a0 x3_1
          replace p6 := eq_true p6
          replace q6 := eq_true q6
          go_wp2
          go_roundg k1
          case measure => have := HK1.out; omega
          case rel => exact ⟨(wrap64 (x3_1 + 1)),qf,H',⟨by have := HK1.out; omega⟩,by repeat (first | exact zw.refl _ | apply zw.step)⟩
       ·rw [if_neg c7] at H
        have c7b0 : decide ((bt a0 x3_1) < 97) = false := decide_eq_false c7
        clear c7
        by_cases c12 : (bt a0 x3_1) > 122
        ·rw [if_pos c12] at H
         have c12b0 : decide (122 < (bt a0 x3_1)) = true := decide_eq_true c12
         clear c12
         by_cases c13 : (bt a0 x3_1) < 48
         ·rw [if_pos c13] at H
          have c13b0 : decide ((bt a0 x3_1) < 48) = true := decide_eq_true c13
          clear c13
          by_cases c14 : (bt a0 x3_1) = 32
          ·rw [if_pos c14] at H
           have c14b0 : ((bt a0 x3_1) == 32) = true := beq_iff_eq.mpr c14
           have c14b1 : ((bt a0 x3_1) != 32) = false := bne_eq_false_iff_eq.mpr c14
           clear c14
           have H' := za.mk H
           clear H
           have p6 : 0 ≤ (x3_1 : Int) := of_decide_eq_true qd
           have q6 : x3_1 < (a0.size : Int) := of_decide_eq_true qd
           have hx6 := zcQ a0 x3_1
           replace p6 := eq_true p6
           replace q6 := eq_true q6
           go_wp2
           go_roundg k1
           case measure => have := HK1.out; omega
           case rel => exact ⟨(wrap64 (x3_1 + 1)),qf,H',⟨by have := HK1.out; omega⟩,by repeat (first | exact zw.refl _ | apply zw.step)⟩
          ·rw [if_neg c14] at H
           have c14b0 : ((bt a0 x3_1) == 32) = false := beq_eq_false_iff_ne.mpr c14
           have c14b1 : ((bt a0 x3_1) != 32) = true := bne_iff_ne.mpr c14
           obtain rfl := Option.some.inj H
           have p6 : 0 ≤ (x3_1 : Int) := of_decide_eq_true qd
           have q6 : x3_1 < (a0.size : Int) := of_decide_eq_true qd
           have hx6 := zcQ a0 x3_1
           replace p6 := eq_true p6
           replace q6 := eq_true q6
           go_wp2
           go_ret
           exact ⟨by first | rfl | (simp; done) | (simp [*]; done),by repeat (first | exact zw.refl _ | apply zw.step)⟩
         ·rw [if_neg c13] at H
          have c13b0 : decide ((bt a0 x3_1) < 48) = false := decide_eq_false c13
          clear c13
          by_cases c15 : (bt a0 x3_1) > 57
          ·rw [if_pos c15] at H
           have c15b0 : decide (57 < (bt a0 x3_1)) = true := decide_eq_true c15
           clear c15
           by_cases c16 : (bt a0 x3_1) = 32
           ·rw [if_pos c16] at H
            have c16b0 : ((bt a0 x3_1) == 32) = true := beq_iff_eq.mpr c16
            have c16b1 : ((bt a0 x3_1) != 32) = false := bne_eq_false_iff_eq.mpr c16
            clear c16
            have H' := za.mk H
            clear H
            have p6 : 0 ≤ (x3_1 : Int) := of_decide_eq_true qd
            have q6 : x3_1 < (a0.size : Int) := of_decide_eq_true qd
            have hx6 := zcQ a0 x3_1
            replace p6 := eq_true p6
            replace q6 := eq_true q6
            go_wp2
            go_roundg k1
            case measure => have := HK1.out; omega
            case rel => exact ⟨(wrap64 (x3_1 + 1)),qf,H',⟨by have := HK1.out; omega⟩,by repeat (first | exact zw.refl _ | apply zw.step)⟩
           ·rw [if_neg c16] at H
            have c16b0 : ((bt a0 x3_1) == 32) = false := beq_eq_false_iff_ne.mpr c16
            have c16b1 : ((bt a0 x3_1) != 32) = true := bne_iff_ne.mpr c16
            obtain rfl := Option.some.inj H
            have p6 : 0 ≤ (x3_1 : Int) := of_decide_eq_true qd
            have q6 : x3_1 < (a0.size : Int) := of_decide_eq_true qd
            have hx6 := zcQ a0 x3_1
            replace p6 := eq_true p6
            replace q6 := eq_true q6
            go_wp2
            go_ret
            exact ⟨by first | rfl | (simp; done) | (simp [*]; done),by repeat (first | exact zw.refl _ | apply zw.step)⟩
          ·rw [if_neg c15] at H
           have c15b0 : decide (57 < (bt a0 x3_1)) = false := decide_eq_false c15
           clear c15
           have H' := za.mk H
           clear H
           have p6 : 0 ≤ (x3_1 : Int) := of_decide_eq_true qd
           have q6 : x3_1 < (a0.size : Int) := of_decide_eq_true qd
           have hx6 := zcQ a0 x3_1
           replace p6 := eq_true p6
           replace q6 := eq_true q6
           go_wp2
           go_roundg k1
           case measure => have := HK1.out; omega
           case rel => exact ⟨(wrap64 (x3_1 + 1)),qf,H',⟨by have := HK1.out; omega⟩,by repeat (first | exact zw.refl _ | apply zw.step)⟩
        ·rw [if_neg c12] at H
         have c12b0 : decide (122 < (bt a0 x3_1)) = false := decide_eq_false c12
         clear c12
         have H' := za.mk H
         clear H
         have p6 : 0 ≤ (x3_1 : Int) := of_decide_eq_true qd
         have q6 : x3_1 < (a0.size : Int) := of_decide_eq_true qd
         have hx6 := zcQ a0 x3_1
         replace p6 := eq_true p6
         replace q6 := eq_true q6
         go_wp2
         go_roundg k1
         case measure => have := HK1.out; omega
         case rel => exact ⟨(wrap64 (x3_1 + 1)),qf,H',⟨by have := HK1.out; omega⟩,by repeat (first | exact zw.refl _ | apply zw.step)⟩
      ·rw [if_neg c5] at H
       exact absurd H qz
     ·rw [if_neg c4] at H
      have c4b0 : decide (x3_1 < (a0.size : Int)) = false := decide_eq_false c4
      clear c4
      by_cases c17 : 0 < (a0.size : Int)
      ·rw [if_pos c17] at H
       have c17b0 : decide (0 < (a0.size : Int)) = true := decide_eq_true c17
       have c17b1 : decide (0 < a0.size) = true := decide_eq_true qj
       clear c17
       by_cases c19 : (bt a0 0) = 32
       ·rw [if_pos c19] at H
        have c19b0 : ((bt a0 0) == 32) = true := beq_iff_eq.mpr c19
        have c19b1 : ((bt a0 0) != 32) = false := bne_eq_false_iff_eq.mpr c19
        clear c19
        obtain rfl := Option.some.inj H
        have p18 : 0 ≤ (0 : Int) := qj
        have q18 : 0 < a0.size := (by have : (0 : Int) < (a0.size : Int) := of_decide_eq_true qd; omega)
        have hx18 : ∀ h : 0 < a0.size,((a0[0]'h).toNat : Int) = bt a0 0 := zcQ a0 0
        clear p18
        have qi18 : (0 < (a0.size : Int)) = True := eq_true (of_decide_eq_true qd)
        replace q18 := eq_true q18
        go_wp2
        go_ret
        exact ⟨by first | rfl | (simp; done) | (simp [*]; done),by repeat (first | exact zw.refl _ | apply zw.step)⟩
       ·rw [if_neg c19] at H
        have c19b0 : ((bt a0 0) == 32) = false := beq_eq_false_iff_ne.mpr c19
        have c19b1 : ((bt a0 0) != 32) = true := bne_iff_ne.mpr c19
        obtain ⟨ji20,hji20⟩ : ∃ j_ : Int,(wrap64 ((a0.size : Int) - 1)) = j_ := ⟨_,rfl⟩
        replace H : (if 0 ≤ (ji20) then (if (ji20) < (a0.size : Int) then (if (bt a0 (ji20)) = 32 then (some 2) else (some 0)) else (none)) else (none)) = some r := by first | (rw [hji20] at H; exact H) | (simp only [hji20] at H ⊢; exact H)
        have hji20w : (IntKind.i64.wrap ((a0.size : Int) - 1)) = ji20 := (zad _).trans hji20
        by_cases c21 : 0 ≤ (ji20)
        ·rw [if_pos c21] at H
         have c21b0 : decide (0 ≤ (ji20)) = true := decide_eq_true c21
         clear c21
         by_cases c22 : (ji20) < (a0.size : Int)
         ·rw [if_pos c22] at H
          have c22b0 : decide ((ji20) < (a0.size : Int)) = true := decide_eq_true c22
          clear c22
          by_cases c24 : (bt a0 (ji20)) = 32
          ·rw [if_pos c24] at H
           have c24b0 : ((bt a0 (ji20)) == 32) = true := beq_iff_eq.mpr c24
           have c24b1 : ((bt a0 (ji20)) != 32) = false := bne_eq_false_iff_eq.mpr c24
           clear c24
           obtain rfl := Option.some.inj H
           have p18 : 0 ≤ (0 : Int) := qj
           have q18 : 0 < a0.size := (by have : (0 : Int) < (a0.size : Int) := of_decide_eq_true qd; omega)
           have hx18 : ∀ h : 0 < a0.size,((a0[0]'h).toNat : Int) = bt a0 0 := zcQ a0 0
           clear p18
           have qi18 : (0 < (a0.size : Int)) = True := eq_true (of_decide_eq_true qd)
           replace q18 := eq_true q18
           have p23 : 0 ≤ ((ji20) : Int) := of_decide_eq_true qd
           have q23 : (ji20) < (a0.size : Int) := of_decide_eq_true qd
           have hx23 := zcQ a0 (ji20)
           replace p23 := eq_true p23
           replace q23 := eq_true q23
           go_wp2
           go_ret
           exact ⟨by first | rfl | (simp; done) | (simp only [← hji20] <;> (first | rfl | simp)) | (simp [*]; done),by repeat (first | exact zw.refl _ | apply zw.step)⟩
          ·rw [if_neg c24] at H
           have c24b0 : ((bt a0 (ji20)) == 32) = false := beq_eq_false_iff_ne.mpr c24
           have c24b1 : ((bt a0 (ji20)) != 32) = true := bne_iff_ne.mpr c24
           obtain rfl := Option.some.inj H
           have p18 : 0 ≤ (0 : Int) := qj
           have q18 : 0 < a0.size := (by have : (0 : Int) < (a0.size : Int) := of_decide_eq_true qd; omega)
           have hx18 : ∀ h : 0 < a0.size,((a0[0]'h).toNat : Int) = bt a0 0 := zcQ a0 0
           clear p18
           have qi18 : (0 < (a0.size : Int)) = True := eq_true (of_decide_eq_true qd)
           replace q18 := eq_true q18
           have p23 : 0 ≤ ((ji20) : Int) := of_decide_eq_true qd
           have q23 : (ji20) < (a0.size : Int) := of_decide_eq_true qd
           have hx23 := zcQ a0 (ji20)
           replace p23 := eq_true p23
           replace q23 := eq_true q23
           go_wp2
           go_ret
           exact ⟨by first | rfl | (simp; done) | (simp only [← hji20] <;> (first | rfl | simp)) | (simp [*]; done),by repeat (first | exact zw.refl _ | apply zw.step)⟩
         ·rw [if_neg c22] at H
          exact absurd H qz
        ·rw [if_neg c21] at H
         exact absurd H qz
      ·rw [if_neg c17] at H
       exact absurd H qz
def zac.l0 : Nat → List ByteArray → Int → Option (Int)
 | 0,_,_ => none
 | k + 1,x0,x3 => if x3 < (x0.length : Int) then (if 0 ≤ x3 then ((zab.f k (za0 ByteArray.empty x0 x3)).bind fun t217 => (if t217 = 0 then (zac.l0 k x0 (wrap64 (x3 + 1))) else (some t217))) else (none)) else (some 0)
def zac.f (k : Nat) (l0 : List ByteArray) : Option (Int) := if (l0.length : Int) > 6 then (some 6) else (zac.l0 k l0 0)
set_option maxHeartbeats 8000000 in
set_option maxRecDepth 100000 in
theorem zac.calls (k : Nat) (A0 : Option Addr) (c0 : Nat) (l0 : List ByteArray) (r : Int) (w : World) (hr0 : Kd.C Kd.string w A0 l0.length l0) (hc0 : l0.length ≤ c0) (h : zac.f k l0 = some r) :
  Calls Try.prog 47 #[.slice A0 l0.length c0] w fun e w' => e = .returned (.int .i64 r) ∧ zw w w' := by
 have HR0 := za.mk hr0
 have HC0 := za.mk hc0
 clear hr0 hc0
 have H : (if (l0.length : Int) > 6 then (some 6) else (zac.l0 k l0 0)) = some r := h
 clear h
 by_cases c2 : (l0.length : Int) > 6
 ·rw [if_pos c2] at H
  have c2b0 : decide (6 < (l0.length : Int)) = true := decide_eq_true c2
  have c2b1 : decide (6 < l0.length) = true := decide_eq_true qj
  clear c2
  obtain rfl := Option.some.inj H
  go_enter Try.func47,Try.ntmps47
  go_wp2
  go_ret
  exact ⟨by first | rfl | (simp; done) | (simp [*]; done),by repeat (first | exact zw.refl _ | apply zw.step)⟩
 ·rw [if_neg c2] at H
  have c2b0 : decide (6 < (l0.length : Int)) = false := decide_eq_false c2
  have c2b1 : decide (6 < l0.length) = false := decide_eq_false qj
  clear c2
  have H' := za.mk H
  clear H
  go_enter Try.func47,Try.ntmps47
  go_wp2
  go_loopg [3] k (fun kq v3 w' => ∃ (x3_1 : Int),v3 = .int .i64 x3_1 ∧ za (zac.l0 kq l0 x3_1 = some r) ∧ za (kq ≤ k) ∧ zw w w')
  case atStart => exact ⟨(0),qf,H',⟨Nat.le_refl _⟩,by repeat (first | exact zw.refl _ | apply zw.step)⟩
  case round =>
   clear H'
   try clear c2
   try clear c2b0
   try clear c2b1
   try clear p2
   obtain ⟨x3_1,rfl,HA,HK1,⟨m1,rfl⟩⟩ := hrel
   cases gk with
   | zero => exact absurd HA.out (by simp [zac.l0])
   | succ k1 =>
    have H := HA.out
    clear HA
    simp only [zac.l0] at H
    by_cases c3 : x3_1 < (l0.length : Int)
    ·rw [if_pos c3] at H
     have c3b0 : decide (x3_1 < (l0.length : Int)) = true := decide_eq_true c3
     clear c3
     by_cases c4 : 0 ≤ x3_1
     ·rw [if_pos c4] at H
      have c4b0 : decide (0 ≤ x3_1) = true := decide_eq_true c4
      clear c4
      replace H := Option.bind_eq_some_iff.mp H
      obtain ⟨t217,A50,H⟩ := H
      replace H : (if t217 = 0 then (zac.l0 k1 l0 (wrap64 (x3_1 + 1))) else (some t217)) = some r := H
      have A5 := za.mk A50
      clear A50
      by_cases c6 : t217 = 0
      ·rw [if_pos c6] at H
       have c6b0 : (t217 == 0) = true := beq_iff_eq.mpr c6
       have c6b1 : (t217 != 0) = false := bne_eq_false_iff_eq.mpr c6
       clear c6
       have H' := za.mk H
       clear H
       have p216 : 0 ≤ (x3_1 : Int) := of_decide_eq_true qd
       have q216 : x3_1 < (l0.length : Int) := of_decide_eq_true qd
       obtain ⟨ad216,e216,hx216_0⟩ := Kd.zbw HR0.out x3_1 p216 q216
       cases e216
       replace p216 := eq_true p216
       replace q216 := eq_true q216
       go_wp2_with (first | ((with_reducible refine zz (f := 83) rfl ?_); refine zT (some 18) rfl rfl Try.func83 qi rfl #[.string (za0 ByteArray.empty l0 x3_1)] rfl qa ?_; (with_reducible refine (zab.calls k1 (za0 ByteArray.empty l0 x3_1) t217 _ A5.out).mono ?_); rintro e w' ⟨rfl,⟨nd,rfl⟩⟩; refine ⟨_,rfl,?_⟩))
       go_roundg k1
       case measure => have := HK1.out; omega
       case rel => exact ⟨(wrap64 (x3_1 + 1)),qf,H',⟨by have := HK1.out; omega⟩,by repeat (first | exact zw.refl _ | apply zw.step)⟩
      ·rw [if_neg c6] at H
       have c6b0 : (t217 == 0) = false := beq_eq_false_iff_ne.mpr c6
       have c6b1 : (t217 != 0) = true := bne_iff_ne.mpr c6
       obtain rfl := Option.some.inj H
       have p216 : 0 ≤ (x3_1 : Int) := of_decide_eq_true qd
       have q216 : x3_1 < (l0.length : Int) := of_decide_eq_true qd
       obtain ⟨ad216,e216,hx216_0⟩ := Kd.zbw HR0.out x3_1 p216 q216
       cases e216
       replace p216 := eq_true p216
       replace q216 := eq_true q216
       go_wp2_with (first | ((with_reducible refine zz (f := 83) rfl ?_); refine zT (some 18) rfl rfl Try.func83 qi rfl #[.string (za0 ByteArray.empty l0 x3_1)] rfl qa ?_; (with_reducible refine (zab.calls k1 (za0 ByteArray.empty l0 x3_1) t217 _ A5.out).mono ?_); rintro e w' ⟨rfl,⟨nd,rfl⟩⟩; refine ⟨_,rfl,?_⟩))
       go_ret
       exact ⟨by first | rfl | (simp; done) | (simp [*]; done),by repeat (first | exact zw.refl _ | apply zw.step)⟩
     ·rw [if_neg c4] at H
      exact absurd H qz
    ·rw [if_neg c3] at H
     have c3b0 : decide (x3_1 < (l0.length : Int)) = false := decide_eq_false c3
     clear c3
     obtain rfl := Option.some.inj H
     go_wp2
     go_ret
     exact ⟨by first | rfl | (simp; done) | (simp [*]; done),by repeat (first | exact zw.refl _ | apply zw.step)⟩
def zZ.l0 : Nat → List (S63) → Int → Int → Option (Int)
 | 0,_,_,_ => none
 | k + 1,x0,x3,x4 => if x4 < (x0.length : Int) then (if 0 ≤ x4 then (if ((zg x0 x4).f0) = 3 then (zZ.l0 k x0 x3 (wrap64 (x4 + 1))) else (zZ.l0 k x0 (wrap64 (x3 + 1)) (wrap64 (x4 + 1)))) else (none)) else (some x3)
def zZ.f (k : Nat) (l0 : List (S63)) : Option (Int) := zZ.l0 k l0 0 0
set_option maxHeartbeats 8000000 in
set_option maxRecDepth 100000 in
theorem zZ.calls (k : Nat) (A0 : Option Addr) (c0 : Nat) (l0 : List (S63)) (r : Int) (w : World) (hr0 : Kd.C k63 w A0 l0.length l0) (hc0 : l0.length ≤ c0) (h : zZ.f k l0 = some r) :
  Calls Try.prog 81 #[.slice A0 l0.length c0] w fun e w' => e = .returned (.int .i64 r) ∧ zw w w' := by
 have HR0 := za.mk hr0
 have HC0 := za.mk hc0
 clear hr0 hc0
 have H : (zZ.l0 k l0 0 0) = some r := h
 clear h
 have H' := za.mk H
 clear H
 go_enter Try.func81,Try.ntmps81
 go_wp2
 go_loopg [3,4] k (fun kq v3 v4 w' => ∃ (x3_1 : Int) (x4_1 : Int),v3 = .int .i64 x3_1 ∧ v4 = .int .i64 x4_1 ∧ za (zZ.l0 kq l0 x3_1 x4_1 = some r) ∧ za (kq ≤ k) ∧ zw w w')
 case atStart => exact ⟨(0),(0),qf,qf,H',⟨Nat.le_refl _⟩,by repeat (first | exact zw.refl _ | apply zw.step)⟩
 case round =>
  clear H'
  obtain ⟨x3_1,x4_1,rfl,rfl,HA,HK1,⟨m1,rfl⟩⟩ := hrel
  cases gk with
  | zero => exact absurd HA.out (by simp [zZ.l0])
  | succ k1 =>
   have H := HA.out
   clear HA
   simp only [zZ.l0] at H
   by_cases c2 : x4_1 < (l0.length : Int)
   ·rw [if_pos c2] at H
    have c2b0 : decide (x4_1 < (l0.length : Int)) = true := decide_eq_true c2
    clear c2
    by_cases c3 : 0 ≤ x4_1
    ·rw [if_pos c3] at H
     have c3b0 : decide (0 ≤ x4_1) = true := decide_eq_true c3
     clear c3
     by_cases c4 : ((zg l0 x4_1).f0) = 3
     ·rw [if_pos c4] at H
      have c4b0 : (((zg l0 x4_1).f0) == 3) = true := beq_iff_eq.mpr c4
      have c4b1 : (((zg l0 x4_1).f0) != 3) = false := bne_eq_false_iff_eq.mpr c4
      clear c4
      have H' := za.mk H
      clear H
      have p218 : 0 ≤ (x4_1 : Int) := of_decide_eq_true qd
      have q218 : x4_1 < (l0.length : Int) := of_decide_eq_true qd
      obtain ⟨ad218,e218,hx218_0,hx218_1,hx218_2⟩ := za8 HR0.out x4_1 p218 q218
      cases e218
      replace p218 := eq_true p218
      replace q218 := eq_true q218
      go_wp2
      go_roundg k1
      case measure => have := HK1.out; omega
      case rel => exact ⟨(x3_1),(wrap64 (x4_1 + 1)),qf,qf,H',⟨by have := HK1.out; omega⟩,by repeat (first | exact zw.refl _ | apply zw.step)⟩
     ·rw [if_neg c4] at H
      have c4b0 : (((zg l0 x4_1).f0) == 3) = false := beq_eq_false_iff_ne.mpr c4
      have c4b1 : (((zg l0 x4_1).f0) != 3) = true := bne_iff_ne.mpr c4
      have H' := za.mk H
      clear H
      have p218 : 0 ≤ (x4_1 : Int) := of_decide_eq_true qd
      have q218 : x4_1 < (l0.length : Int) := of_decide_eq_true qd
      obtain ⟨ad218,e218,hx218_0,hx218_1,hx218_2⟩ := za8 HR0.out x4_1 p218 q218
      cases e218
      replace p218 := eq_true p218
      replace q218 := eq_true q218
      go_wp2
      go_roundg k1
      case measure => have := HK1.out; omega
      case rel => exact ⟨(wrap64 (x3_1 + 1)),(wrap64 (x4_1 + 1)),qf,qf,H',⟨by have := HK1.out; omega⟩,by repeat (first | exact zw.refl _ | apply zw.step)⟩
    ·rw [if_neg c3] at H
     exact absurd H qz
   ·rw [if_neg c2] at H
    have c2b0 : decide (x4_1 < (l0.length : Int)) = false := decide_eq_false c2
    clear c2
    obtain rfl := Option.some.inj H
    go_wp2
    go_ret
    exact ⟨by first | rfl | (simp; done) | (simp [*]; done),by repeat (first | exact zw.refl _ | apply zw.step)⟩
def zbS.f (a0_0 : Int) (a0_1 : Int) (a0_2 : ByteArray) (a1_0 : Int) (a1_1 : Int) (a1_2 : ByteArray) : Option (Bool) := if a0_1 = a1_1 then (if a0_0 = a1_0 then (some (Op.bytesLess a0_2.toList a1_2.toList)) else (some (decide (a0_0 < a1_0)))) else (some (decide (a0_1 < a1_1)))
set_option maxHeartbeats 8000000 in
set_option maxRecDepth 100000 in
theorem zbS.calls (a0_0 : Int) (a0_1 : Int) (a0_2 : ByteArray) (a1_0 : Int) (a1_1 : Int) (a1_2 : ByteArray) (r : Bool) (w : World) (h : zbS.f a0_0 a0_1 a0_2 a1_0 a1_1 a1_2 = some r) :
  Calls Try.prog 108 #[.agg #[.int .i64 a0_0, .int .i64 a0_1, .string a0_2], .agg #[.int .i64 a1_0, .int .i64 a1_1, .string a1_2]] w fun e w' => e = .returned (.bool r) ∧ Below w.heap.size w w' := by
 have hu63 := Try.underlying63
 have HB := za.mk (Below.refl w.heap.size w)
 have H : (if a0_1 = a1_1 then (if a0_0 = a1_0 then (some (Op.bytesLess a0_2.toList a1_2.toList)) else (some (decide (a0_0 < a1_0)))) else (some (decide (a0_1 < a1_1)))) = some r := h
 clear h
 by_cases c3 : a0_1 = a1_1
 ·rw [if_pos c3] at H
  have c3b0 : (a0_1 == a1_1) = true := beq_iff_eq.mpr c3
  have c3b1 : (a0_1 != a1_1) = false := bne_eq_false_iff_eq.mpr c3
  clear c3
  by_cases c4 : a0_0 = a1_0
  ·rw [if_pos c4] at H
   have c4b0 : (a0_0 == a1_0) = true := beq_iff_eq.mpr c4
   have c4b1 : (a0_0 != a1_0) = false := bne_eq_false_iff_eq.mpr c4
   clear c4
   obtain rfl := Option.some.inj H
   go_enter Try.func108,Try.ntmps108
   go_wp2_with (first | ((with_reducible refine zaE (N := 2) rfl ?_); refine zaV ?hg (N := 2) ?hd (cs := #[.int .i64 a0_0, .int .i64 a0_1, .string a0_2]) (t := 63) ?hr ?_; (case hd => rfl); (case hg => rfl); (case hr => exact qq); intro gb219 hg w5 hbox hb; have n0_ := za.mk (zq (qc HB.out) hb); have n1_ := za.mk (hbox); have n2_ := za.mk ((by rw [hg]; exact (zC (qc HB.out)) : w.heap.size ≤ gb219)); have n3_ := za.mk ((by rw [hg]; exact (zC (qc HB.out)) : w.heap.size ≤ gb219)); clear HB; have HB := n0_; have BK219 := n1_; have GW219 := n2_; have GE219 := n3_; clear n0_ n1_ n2_ n3_; clear hb hbox hg) | ((with_reducible refine zaE (N := 3) rfl ?_); refine zaV ?hg (N := 3) ?hd (cs := #[.int .i64 a1_0, .int .i64 a1_1, .string a1_2]) (t := 63) ?hr ?_; (case hd => rfl); (case hg => rfl); (case hr => exact qq); intro gb220 hg w6 hbox hb; have n0_ := za.mk (zD (g := gb219) (o := .cells #[.int .i64 a0_0, .int .i64 a0_1, .string a0_2] 63 (0,0)) (qb BK219.out) hb); have n1_ := za.mk (zq (qk HB.out GE219.out) hb); have n2_ := za.mk (hbox); have n3_ := za.mk ((by rw [hg]; exact (zC (qk HB.out GE219.out)) : w.heap.size ≤ gb220)); have n4_ := za.mk ((by rw [hg]; exact (zC (qk HB.out GE219.out)) : w.heap.size ≤ gb220)); have n5_ := za.mk ((by rw [hg]; exact Nat.ne_of_lt (zae (g := gb219) (o := .cells #[.int .i64 a0_0, .int .i64 a0_1, .string a0_2] 63 (0,0)) (qb BK219.out)) : gb219 ≠ gb220)); have n6_ := za.mk ((by rw [hg]; exact Nat.ne_of_gt (zae (g := gb219) (o := .cells #[.int .i64 a0_0, .int .i64 a0_1, .string a0_2] 63 (0,0)) (qb BK219.out)) : gb220 ≠ gb219)); clear BK219; clear HB; have BK219 := n0_; have HB := n1_; have BK220 := n2_; have GW220 := n3_; have GE220 := n4_; have NB219_220 := n5_; have NB220_219 := n6_; clear n0_ n1_ n2_ n3_ n4_ n5_ n6_; clear hb hbox hg; have hnb7 := NB219_220.out; have hnc7 := NB220_219.out; have hcz8_0 : w6.cell? ⟨gb219,0,none⟩ = some (.int .i64 a0_0) := (zh BK219.out 0).trans rfl; have hcz8_1 : w6.cell? ⟨gb219,1,none⟩ = some (.int .i64 a0_1) := (zh BK219.out 1).trans rfl; have hcz8_2 : w6.cell? ⟨gb219,2,none⟩ = some (.string a0_2) := (zh BK219.out 2).trans rfl; have hfz8_0 := zo BK219.out 0; have hfz8_1 := zo BK219.out 1; have hfz8_2 := zo BK219.out 2; have hcz9_0 : w6.cell? ⟨gb220,0,none⟩ = some (.int .i64 a1_0) := (zh BK220.out 0).trans rfl; have hcz9_1 : w6.cell? ⟨gb220,1,none⟩ = some (.int .i64 a1_1) := (zh BK220.out 1).trans rfl; have hcz9_2 : w6.cell? ⟨gb220,2,none⟩ = some (.string a1_2) := (zh BK220.out 2).trans rfl; have hfz9_0 := zo BK220.out 0; have hfz9_1 := zo BK220.out 1; have hfz9_2 := zo BK220.out 2))
   go_ret
   exact ⟨by first | rfl | (simp [zy,zx] <;> rfl) | (simp [*,zy,zx] <;> rfl),by repeat (first | (with_reducible first | exact HB.out | apply ze | apply zb | apply zf | refine zi ?_ GE219.out | refine zi ?_ GE220.out) | exact HB.out)⟩
  ·rw [if_neg c4] at H
   have c4b0 : (a0_0 == a1_0) = false := beq_eq_false_iff_ne.mpr c4
   have c4b1 : (a0_0 != a1_0) = true := bne_iff_ne.mpr c4
   obtain rfl := Option.some.inj H
   go_enter Try.func108,Try.ntmps108
   go_wp2_with (first | ((with_reducible refine zaE (N := 2) rfl ?_); refine zaV ?hg (N := 2) ?hd (cs := #[.int .i64 a0_0, .int .i64 a0_1, .string a0_2]) (t := 63) ?hr ?_; (case hd => rfl); (case hg => rfl); (case hr => exact qq); intro gb219 hg w10 hbox hb; have n0_ := za.mk (zq (qc HB.out) hb); have n1_ := za.mk (hbox); have n2_ := za.mk ((by rw [hg]; exact (zC (qc HB.out)) : w.heap.size ≤ gb219)); have n3_ := za.mk ((by rw [hg]; exact (zC (qc HB.out)) : w.heap.size ≤ gb219)); clear HB; have HB := n0_; have BK219 := n1_; have GW219 := n2_; have GE219 := n3_; clear n0_ n1_ n2_ n3_; clear hb hbox hg) | ((with_reducible refine zaE (N := 3) rfl ?_); refine zaV ?hg (N := 3) ?hd (cs := #[.int .i64 a1_0, .int .i64 a1_1, .string a1_2]) (t := 63) ?hr ?_; (case hd => rfl); (case hg => rfl); (case hr => exact qq); intro gb220 hg w11 hbox hb; have n0_ := za.mk (zD (g := gb219) (o := .cells #[.int .i64 a0_0, .int .i64 a0_1, .string a0_2] 63 (0,0)) (qb BK219.out) hb); have n1_ := za.mk (zq (qk HB.out GE219.out) hb); have n2_ := za.mk (hbox); have n3_ := za.mk ((by rw [hg]; exact (zC (qk HB.out GE219.out)) : w.heap.size ≤ gb220)); have n4_ := za.mk ((by rw [hg]; exact (zC (qk HB.out GE219.out)) : w.heap.size ≤ gb220)); have n5_ := za.mk ((by rw [hg]; exact Nat.ne_of_lt (zae (g := gb219) (o := .cells #[.int .i64 a0_0, .int .i64 a0_1, .string a0_2] 63 (0,0)) (qb BK219.out)) : gb219 ≠ gb220)); have n6_ := za.mk ((by rw [hg]; exact Nat.ne_of_gt (zae (g := gb219) (o := .cells #[.int .i64 a0_0, .int .i64 a0_1, .string a0_2] 63 (0,0)) (qb BK219.out)) : gb220 ≠ gb219)); clear BK219; clear HB; have BK219 := n0_; have HB := n1_; have BK220 := n2_; have GW220 := n3_; have GE220 := n4_; have NB219_220 := n5_; have NB220_219 := n6_; clear n0_ n1_ n2_ n3_ n4_ n5_ n6_; clear hb hbox hg; have hnb12 := NB219_220.out; have hnc12 := NB220_219.out; have hcz13_0 : w11.cell? ⟨gb219,0,none⟩ = some (.int .i64 a0_0) := (zh BK219.out 0).trans rfl; have hcz13_1 : w11.cell? ⟨gb219,1,none⟩ = some (.int .i64 a0_1) := (zh BK219.out 1).trans rfl; have hcz13_2 : w11.cell? ⟨gb219,2,none⟩ = some (.string a0_2) := (zh BK219.out 2).trans rfl; have hfz13_0 := zo BK219.out 0; have hfz13_1 := zo BK219.out 1; have hfz13_2 := zo BK219.out 2; have hcz14_0 : w11.cell? ⟨gb220,0,none⟩ = some (.int .i64 a1_0) := (zh BK220.out 0).trans rfl; have hcz14_1 : w11.cell? ⟨gb220,1,none⟩ = some (.int .i64 a1_1) := (zh BK220.out 1).trans rfl; have hcz14_2 : w11.cell? ⟨gb220,2,none⟩ = some (.string a1_2) := (zh BK220.out 2).trans rfl; have hfz14_0 := zo BK220.out 0; have hfz14_1 := zo BK220.out 1; have hfz14_2 := zo BK220.out 2))
   go_ret
   exact ⟨by first | rfl | (simp [zy,zx] <;> rfl) | (simp [*,zy,zx] <;> rfl),by repeat (first | (with_reducible first | exact HB.out | apply ze | apply zb | apply zf | refine zi ?_ GE219.out | refine zi ?_ GE220.out) | exact HB.out)⟩
 ·rw [if_neg c3] at H
  have c3b0 : (a0_1 == a1_1) = false := beq_eq_false_iff_ne.mpr c3
  have c3b1 : (a0_1 != a1_1) = true := bne_iff_ne.mpr c3
  obtain rfl := Option.some.inj H
  go_enter Try.func108,Try.ntmps108
  go_wp2_with (first | ((with_reducible refine zaE (N := 2) rfl ?_); refine zaV ?hg (N := 2) ?hd (cs := #[.int .i64 a0_0, .int .i64 a0_1, .string a0_2]) (t := 63) ?hr ?_; (case hd => rfl); (case hg => rfl); (case hr => exact qq); intro gb219 hg w15 hbox hb; have n0_ := za.mk (zq (qc HB.out) hb); have n1_ := za.mk (hbox); have n2_ := za.mk ((by rw [hg]; exact (zC (qc HB.out)) : w.heap.size ≤ gb219)); have n3_ := za.mk ((by rw [hg]; exact (zC (qc HB.out)) : w.heap.size ≤ gb219)); clear HB; have HB := n0_; have BK219 := n1_; have GW219 := n2_; have GE219 := n3_; clear n0_ n1_ n2_ n3_; clear hb hbox hg) | ((with_reducible refine zaE (N := 3) rfl ?_); refine zaV ?hg (N := 3) ?hd (cs := #[.int .i64 a1_0, .int .i64 a1_1, .string a1_2]) (t := 63) ?hr ?_; (case hd => rfl); (case hg => rfl); (case hr => exact qq); intro gb220 hg w16 hbox hb; have n0_ := za.mk (zD (g := gb219) (o := .cells #[.int .i64 a0_0, .int .i64 a0_1, .string a0_2] 63 (0,0)) (qb BK219.out) hb); have n1_ := za.mk (zq (qk HB.out GE219.out) hb); have n2_ := za.mk (hbox); have n3_ := za.mk ((by rw [hg]; exact (zC (qk HB.out GE219.out)) : w.heap.size ≤ gb220)); have n4_ := za.mk ((by rw [hg]; exact (zC (qk HB.out GE219.out)) : w.heap.size ≤ gb220)); have n5_ := za.mk ((by rw [hg]; exact Nat.ne_of_lt (zae (g := gb219) (o := .cells #[.int .i64 a0_0, .int .i64 a0_1, .string a0_2] 63 (0,0)) (qb BK219.out)) : gb219 ≠ gb220)); have n6_ := za.mk ((by rw [hg]; exact Nat.ne_of_gt (zae (g := gb219) (o := .cells #[.int .i64 a0_0, .int .i64 a0_1, .string a0_2] 63 (0,0)) (qb BK219.out)) : gb220 ≠ gb219)); clear BK219; clear HB; have BK219 := n0_; have HB := n1_; have BK220 := n2_; have GW220 := n3_; have GE220 := n4_; have NB219_220 := n5_; have NB220_219 := n6_; clear n0_ n1_ n2_ n3_ n4_ n5_ n6_; clear hb hbox hg; have hnb17 := NB219_220.out; have hnc17 := NB220_219.out; have hcz18_0 : w16.cell? ⟨gb219,0,none⟩ = some (.int .i64 a0_0) := (zh BK219.out 0).trans rfl; have hcz18_1 : w16.cell? ⟨gb219,1,none⟩ = some (.int .i64 a0_1) := (zh BK219.out 1).trans rfl; have hcz18_2 : w16.cell? ⟨gb219,2,none⟩ = some (.string a0_2) := (zh BK219.out 2).trans rfl; have hfz18_0 := zo BK219.out 0; have hfz18_1 := zo BK219.out 1; have hfz18_2 := zo BK219.out 2; have hcz19_0 : w16.cell? ⟨gb220,0,none⟩ = some (.int .i64 a1_0) := (zh BK220.out 0).trans rfl; have hcz19_1 : w16.cell? ⟨gb220,1,none⟩ = some (.int .i64 a1_1) := (zh BK220.out 1).trans rfl; have hcz19_2 : w16.cell? ⟨gb220,2,none⟩ = some (.string a1_2) := (zh BK220.out 2).trans rfl; have hfz19_0 := zo BK220.out 0; have hfz19_1 := zo BK220.out 1; have hfz19_2 := zo BK220.out 2))
  go_ret
  exact ⟨by first | rfl | (simp [zy,zx] <;> rfl) | (simp [*,zy,zx] <;> rfl),by repeat (first | (with_reducible first | exact HB.out | apply ze | apply zb | apply zf | refine zi ?_ GE219.out | refine zi ?_ GE220.out) | exact HB.out)⟩
theorem zeF (op : BinOp) (x y : Int) : 0 ≤ bits op .u64 x y := by
 have h : ∀ n : Int,0 ≤ IntKind.u64.wrap n := fun n => by
  simp only [IntKind.wrap,IntKind.bits,IntKind.signed,Bool.false_and]
  simp only [Bool.false_eq_true,if_false]
  omega
 unfold bits
 split <;> first | exact h _ | exact Int.le_refl _ | omega
theorem zk6 (l : List Int) (s1 s2 : Int) (h1 : 0 ≤ s1) (hl : l.length ≤ 17592186044416) : ∃ r t1 t2,zbx.f l s1 s2 = some (r,t1,t2) ∧ 0 ≤ r ∧ 0 ≤ t1 := by
 unfold zbx.f
 rw [if_pos ⟨h1,hl⟩]
 split
 ·exact ⟨_,_,_,rfl,zeF _ _ _,by omega⟩
 ·exact ⟨_,_,_,rfl,zeF _ _ _,h1⟩
theorem zeC (l : List Int) (s1 s2 : Int) (h1 : 0 ≤ s1) (hl : l.length ≤ 17592186044416) (n : Int) (h0 : 0 ≤ n) (hn : n ≤ 1000) : ∃ r t1 t2,zak.f l s1 s2 n = some (r,t1,t2) ∧ 0 ≤ r ∧ r ≤ n ∧ 0 ≤ t1 := by
 unfold zak.f
 by_cases hc : n < 1
 ·rw [if_pos hc]; exact ⟨0,s1,s2,rfl,Int.le_refl _,h0,h1⟩
 ·rw [if_neg hc]
  obtain ⟨r,t1,t2,hr,hr0,ht⟩ := zk6 l s1 s2 h1 hl
  have hw : IntKind.u64.wrap (wrap64 (n + 1)) = n + 1 := by
   have : wrap64 (n + 1) = n + 1 := by unfold wrap64; omega
   rw [this]
   simp only [IntKind.wrap,IntKind.bits,IntKind.signed,Bool.false_and]
   simp only [Bool.false_eq_true,if_false]
   omega
  rw [hr,Option.bind_some,hw,if_neg qj]
  have hq : 0 ≤ r / 65536 := by omega
  have hm : Int.tmod (r / 65536) (n + 1) = (r / 65536) % (n + 1) := Int.tmod_eq_emod_of_nonneg hq
  have h2 := Int.emod_nonneg (r / 65536) (show n + 1 ≠ 0 by omega)
  have h3 := Int.emod_lt_of_pos (r / 65536) (show 0 < n + 1 by omega)
  refine ⟨_,t1,t2,rfl,?_,?_,ht⟩
  ·rw [hm]; unfold wrap64; omega
  ·rw [hm]; unfold wrap64; omega
theorem zkP (l : List Int) (s1 s2 : Int) (h1 : 0 ≤ s1) (hl : l.length ≤ 17592186044416) (ws : List ByteArray) (hw : 0 < ws.length) (hw1 : ws.length ≤ 1000) : ∃ x t1 t2,zbq.f l s1 s2 ws = some (x,t1,t2) ∧ x ∈ ws ∧ 0 ≤ t1 := by
 unfold zbq.f
 have e : wrap64 ((ws.length : Int) - 1) = (ws.length : Int) - 1 := by unfold wrap64; omega
 obtain ⟨r,t1,t2,hr,h2,h3,h4⟩ := zeC l s1 s2 h1 hl ((ws.length : Int) - 1) qj qj
 rw [e,hr,Option.bind_some,if_pos h2,if_pos qI]
 refine ⟨_,t1,t2,rfl,?_,h4⟩
 have hlt : r.toNat < ws.length := by omega
 dsimp only
 simp only [za0,List.getD_eq_getElem?_getD,List.getElem?_eq_getElem hlt,Option.getD_some]
 exact List.getElem_mem _
def zdd : List ByteArray := [(⟨#[97]⟩ : ByteArray),(⟨#[98]⟩ : ByteArray),(⟨#[99]⟩ : ByteArray),(⟨#[97,110,32,49]⟩ : ByteArray),(⟨#[98,101,110]⟩ : ByteArray),(⟨#[99,121,100,32,49,50]⟩ : ByteArray)]
theorem zdO (l : List Int) (s1 s2 : Int) (h1 : 0 ≤ s1) (hl : l.length ≤ 17592186044416) : ∃ x t1 t2,zat.f l s1 s2 = some (x,t1,t2) ∧ x ∈ zdd ∧ 0 ≤ t1 := by
 obtain ⟨x,t1,t2,h,hx,ht⟩ := zkP l s1 s2 h1 hl zdd qt qt
 unfold zat.f
 refine ⟨x,t1,t2,?_,hx,ht⟩
 exact (congrArg (fun o : Option (ByteArray × Int × Int) => o.bind fun bt198 => some (bt198.1,bt198.2.1,bt198.2.2)) h)
theorem zfS (l : List Int) (hl : l.length ≤ 17592186044416) : ∀ (m k : Nat) (p : List ByteArray) (s1 s2 : Int),m < k → 0 ≤ s1 → p.length + m ≤ 1000 → (∀ x ∈ p,x ∈ zdd) →
  ∃ q t1 t2,zX.l0 k p (m : Int) l s1 s2 = some (q,t1,t2) ∧ q.length = p.length + m ∧ (∀ x ∈ q,x ∈ zdd) ∧ 0 ≤ t1
 | 0,k,p,s1,s2,hk,h1,hp,hw => by
  obtain ⟨k',rfl⟩ : ∃ k',k = k' + 1 := ⟨k - 1,by omega⟩
  rw [zX.l0,if_neg qj]
  exact ⟨p,s1,s2,rfl,rfl,hw,h1⟩
 | m + 1,k,p,s1,s2,hk,h1,hp,hw => by
  obtain ⟨k',rfl⟩ : ∃ k',k = k' + 1 := ⟨k - 1,by omega⟩
  obtain ⟨x,t1,t2,hx,hxw,ht⟩ := zdO l s1 s2 h1 hl
  have e : wrap64 (((m + 1 : Nat) : Int) - 1) = (m : Int) := by unfold wrap64; omega
  rw [zX.l0,if_pos qj,hx,Option.bind_some,if_pos qj,e]
  obtain ⟨q,u1,u2,h2,h3,h4,h5⟩ := zfS l hl m k' (p ++ [x]) t1 t2 qj ht qN (fun y hy => by
   rcases List.mem_append.1 hy with hy | hy
   ·exact hw y hy
   ·rw [List.mem_singleton.1 hy]; exact hxw)
  exact ⟨q,u1,u2,h2,by rw [h3,List.length_append,List.length_singleton]; omega,h4,h5⟩
theorem zgG (l : List Int) (s1 s2 : Int) (h1 : 0 ≤ s1) (hl : l.length ≤ 17592186044416) (n : Nat) (hn : n ≤ 100) (k : Nat) (hk : 200 ≤ k) : ∃ q t1 t2,zX.f k l s1 s2 (n : Int) = some (q,t1,t2) ∧ q.length ≤ n ∧ (∀ x ∈ q,x ∈ zdd) ∧ 0 ≤ t1 := by
 obtain ⟨r,t1,t2,hr,h2,h3,h4⟩ := zeC l s1 s2 h1 hl n qj qj
 obtain ⟨m,rfl⟩ := Int.eq_ofNat_of_zero_le h2
 obtain ⟨q,u1,u2,h5,h6,h7,h8⟩ := zfS l hl m k [] t1 t2 qj h4 qM qz
 unfold zX.f
 rw [hr,Option.bind_some]
 exact ⟨q,u1,u2,h5,by rw [h6]; simp; omega,h7,h8⟩
def zaC.f (s0_0 : List Int) (s0_1 : Int) (s0_2 : Int) (a1 : Int) : Option (Bool × Int × Int) := (zak.f s0_0 s0_1 s0_2 (wrap64 (a1 - 1))).bind fun bt248 => (some ((bt248.1 == 0),bt248.2.1,bt248.2.2))
set_option maxHeartbeats 8000000 in
set_option maxRecDepth 100000 in
theorem zaC.calls (g : Nat) (s0_0 : List Int) (s0_1 : Int) (s0_2 : Int) (a1 : Int) (r1 : Bool) (r2 : Int) (r3 : Int) (w0 w : World) (hI : zk w0 w g s0_0 s0_1 s0_2) (hB : Below w0.heap.size w0 w) (h : zaC.f s0_0 s0_1 s0_2 a1 = some (r1,r2,r3)) :
  Calls Try.prog 49 #[.pointer (some ⟨g,0,none⟩), .int .i64 a1] w fun e w' => e = .returned (.bool r1) ∧ zk w0 w' g s0_0 r2 r3 ∧ Below w0.heap.size w0 w' ∧ zu w w' g none := by
 have HI0 := za.mk hI
 have HK := za.mk (zu.refl w g none)
 have HL := za.mk hB.size
 clear hI
 have HW0 := za.mk hB.size
 have HB := za.mk hB
 clear hB
 have H : ((zak.f s0_0 s0_1 s0_2 (wrap64 (a1 - 1))).bind fun bt248 => (some ((bt248.1 == 0),bt248.2.1,bt248.2.2))) = some (r1,r2,r3) := h
 clear h
 replace H := Option.bind_eq_some_iff.mp H
 obtain ⟨⟨t248,t249,t250⟩,A30,H⟩ := H
 replace H : (some ((t248 == 0),t249,t250)) = some (r1,r2,r3) := H
 have A3 := za.mk A30
 clear A30
 simp only [Option.some.injEq,Prod.mk.injEq] at H
 obtain ⟨rfl,rfl,rfl⟩ := H
 go_enter Try.func49,Try.ntmps49
 go_wp2_with (first | ((with_reducible refine zz (f := 28) rfl ?_); refine zT (some 8) rfl rfl Try.func28 qi rfl #[.pointer (some ⟨g,0,none⟩), .int .i64 (wrap64 (a1 - 1))] rfl qa ?_; (with_reducible refine (zak.calls g s0_0 s0_1 s0_2 (wrap64 (a1 - 1)) t248 t249 t250 w0 _ ?side1 ?side2 A3.out).mono ?_); (case side1 => exact qh HI0.out); (case side2 => exact qm HB.out HI0.out); rintro e w4 ⟨rfl,hi,hb,hk⟩; refine ⟨_,rfl,?_⟩; have n0_ := za.mk (zu.trans (qg HK.out) hk (.inl rfl)); have n1_ := za.mk (hb); have n2_ := za.mk (hi); clear HK; clear HB; clear HI0; have HK := n0_; have HB := n1_; have HI0 := n2_; clear n0_ n1_ n2_; (try clear hb); (try clear hb2); (try clear hk); (try clear hi)))
 go_ret
 exact ⟨by first | rfl | (simp [zy,zx] <;> rfl) | (simp [*,zy,zx] <;> rfl),by repeat (first | (with_reducible first | exact HI0.out | apply zk.alloc | apply zk.drewN | apply zk.drew | apply zk.zao | apply zk.zaq) | exact HI0.out),by repeat (first | (with_reducible first | exact HB.out | apply ze | apply zb | apply zf | refine zi ?_ (zk.ge HI0.out)) | exact HB.out),by repeat (first | (with_reducible first | exact HK.out | apply zu.zaQ | apply zR | apply zW | apply zS) | exact HK.out)⟩
def zay.l0 : Nat → List ByteArray → ByteArray → Int → Int → Option (Int)
 | 0,_,_,_,_ => none
 | k + 1,x0,x1,x7,x8 => if x8 < x7 then (if 0 ≤ x8 then (if x8 < (x0.length : Int) then (if x1.toList = (za0 ByteArray.empty x0 x8).toList then (some x8) else (zay.l0 k x0 x1 x7 (wrap64 (x8 + 1)))) else (none)) else (none)) else (some (-1))
def zay.f (k : Nat) (l0 : List ByteArray) (a1 : ByteArray) : Option (Int) := zay.l0 k l0 a1 (l0.length : Int) 0
set_option maxHeartbeats 8000000 in
set_option maxRecDepth 100000 in
theorem zay.calls (k : Nat) (A0 : Option Addr) (c0 : Nat) (l0 : List ByteArray) (a1 : ByteArray) (r : Int) (w : World) (hr0 : Kd.C Kd.string w A0 l0.length l0) (hc0 : l0.length ≤ c0) (h : zay.f k l0 a1 = some r) :
  Calls Try.prog 104 #[.slice A0 l0.length c0, .string a1] w fun e w' => e = .returned (.int .i64 r) ∧ zw w w' := by
 have HR0 := za.mk hr0
 have HC0 := za.mk hc0
 clear hr0 hc0
 have H : (zay.l0 k l0 a1 (l0.length : Int) 0) = some r := h
 clear h
 have H' := za.mk H
 clear H
 go_enter Try.func104,Try.ntmps104
 go_wp2
 go_loopg [8] k (fun kq v8 w' => ∃ (x8_1 : Int),v8 = .int .i64 x8_1 ∧ za (zay.l0 kq l0 a1 (l0.length : Int) x8_1 = some r) ∧ za (kq ≤ k) ∧ zw w w')
 case atStart => exact ⟨(0),qf,H',⟨Nat.le_refl _⟩,by repeat (first | exact zw.refl _ | apply zw.step)⟩
 case round =>
  clear H'
  try clear c1
  try clear p2
  obtain ⟨x8_1,rfl,HA,HK1,⟨m1,rfl⟩⟩ := hrel
  cases gk with
  | zero => exact absurd HA.out (by simp [zay.l0])
  | succ k1 =>
   have H := HA.out
   clear HA
   simp only [zay.l0] at H
   by_cases c3 : x8_1 < (l0.length : Int)
   ·rw [if_pos c3] at H
    have c3b0 : decide (x8_1 < (l0.length : Int)) = true := decide_eq_true c3
    clear c3
    by_cases c4 : 0 ≤ x8_1
    ·rw [if_pos c4] at H
     have c4b0 : decide (0 ≤ x8_1) = true := decide_eq_true c4
     clear c4
     by_cases c5 : x8_1 < (l0.length : Int)
     ·rw [if_pos c5] at H
      have c5b0 : decide (x8_1 < (l0.length : Int)) = true := decide_eq_true c5
      clear c5
      by_cases c6 : a1.toList = (za0 ByteArray.empty l0 x8_1).toList
      ·rw [if_pos c6] at H
       have c6b0 : (a1.toList == (za0 ByteArray.empty l0 x8_1).toList) = true := beq_iff_eq.mpr c6
       have c6b1 : (a1.toList != (za0 ByteArray.empty l0 x8_1).toList) = false := bne_eq_false_iff_eq.mpr c6
       clear c6
       obtain rfl := Option.some.inj H
       have p132 : 0 ≤ (x8_1 : Int) := of_decide_eq_true qd
       have q132 : x8_1 < (l0.length : Int) := of_decide_eq_true qd
       obtain ⟨ad132,e132,hx132_0⟩ := Kd.zbw HR0.out x8_1 p132 q132
       cases e132
       replace p132 := eq_true p132
       replace q132 := eq_true q132
       go_wp2
       go_ret
       exact ⟨by first | rfl | (simp; done) | (simp [*]; done),by repeat (first | exact zw.refl _ | apply zw.step)⟩
      ·rw [if_neg c6] at H
       have c6b0 : (a1.toList == (za0 ByteArray.empty l0 x8_1).toList) = false := beq_eq_false_iff_ne.mpr c6
       have c6b1 : (a1.toList != (za0 ByteArray.empty l0 x8_1).toList) = true := bne_iff_ne.mpr c6
       have H' := za.mk H
       clear H
       have p132 : 0 ≤ (x8_1 : Int) := of_decide_eq_true qd
       have q132 : x8_1 < (l0.length : Int) := of_decide_eq_true qd
       obtain ⟨ad132,e132,hx132_0⟩ := Kd.zbw HR0.out x8_1 p132 q132
       cases e132
       replace p132 := eq_true p132
       replace q132 := eq_true q132
       go_wp2
       go_roundg k1
       case measure => have := HK1.out; omega
       case rel => exact ⟨(wrap64 (x8_1 + 1)),qf,H',⟨by have := HK1.out; omega⟩,by repeat (first | exact zw.refl _ | apply zw.step)⟩
     ·rw [if_neg c5] at H
      exact absurd H qz
    ·rw [if_neg c4] at H
     exact absurd H qz
   ·rw [if_neg c3] at H
    have c3b0 : decide (x8_1 < (l0.length : Int)) = false := decide_eq_false c3
    clear c3
    obtain rfl := Option.some.inj H
    go_wp2
    go_ret
    exact ⟨by first | rfl | (simp; done) | (simp [*]; done),by repeat (first | exact zw.refl _ | apply zw.step)⟩
def za7.f (k : Nat) (l0 : List ByteArray) (a1 : ByteArray) : Option (Bool) := (zay.f k l0 a1).bind fun t133 => (some (decide (t133 ≥ 0)))
set_option maxHeartbeats 8000000 in
set_option maxRecDepth 100000 in
theorem za7.calls (k : Nat) (A0 : Option Addr) (c0 : Nat) (l0 : List ByteArray) (a1 : ByteArray) (r : Bool) (w : World) (hr0 : Kd.C Kd.string w A0 l0.length l0) (hc0 : l0.length ≤ c0) (h : za7.f k l0 a1 = some r) :
  Calls Try.prog 74 #[.slice A0 l0.length c0, .string a1] w fun e w' => e = .returned (.bool r) ∧ zw w w' := by
 have HR0 := za.mk hr0
 have HC0 := za.mk hc0
 clear hr0 hc0
 have H : ((zay.f k l0 a1).bind fun t133 => (some (decide (t133 ≥ 0)))) = some r := h
 clear h
 replace H := Option.bind_eq_some_iff.mp H
 obtain ⟨t133,A30,H⟩ := H
 replace H : (some (decide (t133 ≥ 0))) = some r := H
 have A3 := za.mk A30
 clear A30
 obtain rfl := Option.some.inj H
 go_enter Try.func74,Try.ntmps74
 go_wp2_with (first | ((with_reducible refine zz (f := 104) rfl ?_); refine zT (some 7) rfl rfl Try.func104 qi rfl #[.slice A0 l0.length c0, .string a1] rfl qa ?_; (with_reducible refine (zay.calls k _ _ l0 a1 t133 _ ?side1 ?side2 A3.out).mono ?_); (case side1 => exact qe HR0.out); (case side2 => exact HC0.out); rintro e w' ⟨rfl,⟨nd,rfl⟩⟩; refine ⟨_,rfl,?_⟩))
 go_ret
 exact ⟨by first | rfl | (simp; done) | (simp [*]; done),by repeat (first | exact zw.refl _ | apply zw.step)⟩
def zba.l0 : Nat → List (List ByteArray) → ByteArray → Int → Option (Int)
 | 0,_,_,_ => none
 | k + 1,x0,x1,x5 => if x5 ≥ 0 then (if 0 ≤ x5 then (if x5 < (x0.length : Int) then ((za7.f k (zaK x0 x5) x1).bind fun t135 => (if t135 = true then (some x5) else (zba.l0 k x0 x1 (wrap64 (x5 - 1))))) else (none)) else (none)) else (some (-1))
def zba.f (k : Nat) (l0 : List (List ByteArray)) (a1 : ByteArray) : Option (Int) := zba.l0 k l0 a1 (wrap64 ((l0.length : Int) - 1))
set_option maxHeartbeats 8000000 in
set_option maxRecDepth 100000 in
theorem zba.calls (k : Nat) (A0 : Option Addr) (c0 : Nat) (l0 : List (List ByteArray)) (a1 : ByteArray) (r : Int) (w : World) (hr0 : Kd.C (Kd.slice 9 Kd.string) w A0 l0.length l0) (hc0 : l0.length ≤ c0) (h : zba.f k l0 a1 = some r) :
  Calls Try.prog 75 #[.slice A0 l0.length c0, .string a1] w fun e w' => e = .returned (.int .i64 r) ∧ zw w w' := by
 have HR0 := za.mk hr0
 have HC0 := za.mk hc0
 clear hr0 hc0
 have H : (zba.l0 k l0 a1 (wrap64 ((l0.length : Int) - 1))) = some r := h
 clear h
 have H' := za.mk H
 clear H
 go_enter Try.func75,Try.ntmps75
 go_wp2
 go_loopg [5] k (fun kq v5 w' => ∃ (x5_1 : Int),v5 = .int .i64 x5_1 ∧ za (zba.l0 kq l0 a1 x5_1 = some r) ∧ za (kq ≤ k) ∧ zw w w')
 case atStart => exact ⟨(wrap64 ((l0.length : Int) - 1)),qf,H',⟨Nat.le_refl _⟩,by repeat (first | exact zw.refl _ | apply zw.step)⟩
 case round =>
  clear H'
  try clear p2
  obtain ⟨x5_1,rfl,HA,HK1,⟨m1,rfl⟩⟩ := hrel
  cases gk with
  | zero => exact absurd HA.out (by simp [zba.l0])
  | succ k1 =>
   have H := HA.out
   clear HA
   simp only [zba.l0] at H
   by_cases c3 : x5_1 ≥ 0
   ·rw [if_pos c3] at H
    have c3b0 : decide (0 ≤ x5_1) = true := decide_eq_true c3
    clear c3
    by_cases c4 : 0 ≤ x5_1
    ·rw [if_pos c4] at H
     have c4b0 : decide (0 ≤ x5_1) = true := decide_eq_true c4
     clear c4
     by_cases c5 : x5_1 < (l0.length : Int)
     ·rw [if_pos c5] at H
      have c5b0 : decide (x5_1 < (l0.length : Int)) = true := decide_eq_true c5
      clear c5
      replace H := Option.bind_eq_some_iff.mp H
      obtain ⟨t135,A60,H⟩ := H
      replace H : (if t135 = true then (some x5_1) else (zba.l0 k1 l0 a1 (wrap64 (x5_1 - 1)))) = some r := H
      have A6 := za.mk A60
      clear A60
      by_cases c7 : t135 = true
      ·subst c7
       have H1 : (some x5_1) = some r := by rw [if_pos rfl] at H; exact H
       clear H
       have H := H1
       clear H1
       obtain rfl := Option.some.inj H
       have p134 : 0 ≤ (x5_1 : Int) := of_decide_eq_true qd
       have q134 : x5_1 < (l0.length : Int) := of_decide_eq_true qd
       obtain ⟨ad134,A134_0,c134_0,e134,hx134_0,hl134_0,hi134_0⟩ := zco HR0.out x5_1 p134 q134
       cases e134
       have HR134_0 := za.mk hi134_0
       have HC134_0 := za.mk hl134_0
       clear hi134_0 hl134_0
       replace p134 := eq_true p134
       replace q134 := eq_true q134
       go_wp2_with (first | ((with_reducible refine zz (f := 74) rfl ?_); refine zT (some 18) rfl rfl Try.func74 qi rfl #[.slice A134_0 (zaK l0 x5_1).length c134_0, .string a1] rfl qa ?_; (with_reducible refine (za7.calls k1 _ _ (zaK l0 x5_1) a1 true _ ?side1 ?side2 A6.out).mono ?_); (case side1 => exact qe HR134_0.out); (case side2 => exact HC134_0.out); rintro e w' ⟨rfl,⟨nd,rfl⟩⟩; refine ⟨_,rfl,?_⟩))
       go_ret
       exact ⟨by first | rfl | (simp; done) | (simp [*]; done),by repeat (first | exact zw.refl _ | apply zw.step)⟩
      ·replace c7 := Bool.eq_false_iff.mpr c7
       subst c7
       have H1 : (zba.l0 k1 l0 a1 (wrap64 (x5_1 - 1))) = some r := by rw [if_neg (show ¬ (false = true) by decide)] at H; exact H
       clear H
       have H := H1
       clear H1
       have H' := za.mk H
       clear H
       have p134 : 0 ≤ (x5_1 : Int) := of_decide_eq_true qd
       have q134 : x5_1 < (l0.length : Int) := of_decide_eq_true qd
       obtain ⟨ad134,A134_0,c134_0,e134,hx134_0,hl134_0,hi134_0⟩ := zco HR0.out x5_1 p134 q134
       cases e134
       have HR134_0 := za.mk hi134_0
       have HC134_0 := za.mk hl134_0
       clear hi134_0 hl134_0
       replace p134 := eq_true p134
       replace q134 := eq_true q134
       go_wp2_with (first | ((with_reducible refine zz (f := 74) rfl ?_); refine zT (some 18) rfl rfl Try.func74 qi rfl #[.slice A134_0 (zaK l0 x5_1).length c134_0, .string a1] rfl qa ?_; (with_reducible refine (za7.calls k1 _ _ (zaK l0 x5_1) a1 false _ ?side1 ?side2 A6.out).mono ?_); (case side1 => exact qe HR134_0.out); (case side2 => exact HC134_0.out); rintro e w' ⟨rfl,⟨nd,rfl⟩⟩; refine ⟨_,rfl,?_⟩))
       go_roundg k1
       case measure => have := HK1.out; omega
       case rel => exact ⟨(wrap64 (x5_1 - 1)),qf,H',⟨by have := HK1.out; omega⟩,by repeat (first | exact zw.refl _ | apply zw.step)⟩
     ·rw [if_neg c5] at H
      exact absurd H qz
    ·rw [if_neg c4] at H
     exact absurd H qz
   ·rw [if_neg c3] at H
    have c3b0 : decide (0 ≤ x5_1) = false := decide_eq_false c3
    clear c3
    obtain rfl := Option.some.inj H
    go_wp2
    go_ret
    exact ⟨by first | rfl | (simp; done) | (simp [*]; done),by repeat (first | exact zw.refl _ | apply zw.step)⟩
theorem flat_get {α : Type} (sz : Nat) (chunk : α → List Value) : ∀ (xs : List α),(∀ x ∈ xs,(chunk x).length = sz) → ∀ (j : Nat) (p : α),xs[j]? = some p → ∀ (i : Nat) (u : Value),(chunk p)[i]? = some u → (xs.flatMap chunk)[j * sz + i]? = some u
 | [],_,j,p,hj,_,_,_ => by simp at hj
 | x :: xs,hl,0,p,hj,i,u,hi => by
  simp only [List.getElem?_cons_zero,Option.some.injEq] at hj
  subst hj
  rw [List.flatMap_cons,Nat.zero_mul,Nat.zero_add,List.getElem?_append_left]
  ·exact hi
  ·exact (List.getElem?_eq_some_iff.1 hi).1
 | x :: xs,hl,j + 1,p,hj,i,u,hi => by
  rw [List.getElem?_cons_succ] at hj
  have hx := hl x List.mem_cons_self
  rw [List.flatMap_cons,List.getElem?_append_right (by rw [hx,Nat.succ_mul]; omega),hx]
  have e : (j + 1) * sz + i - sz = j * sz + i := by rw [Nat.succ_mul]; omega
  rw [e]
  exact flat_get sz chunk xs (fun y hy => hl y (List.mem_cons_of_mem _ hy)) j p hj i u hi
theorem zfa {α : Type} (d : Kd α) {W : World} {g e : Nat} {cs : Array Value} {xs : List α} (hb : W.heap[g]? = some (.cells cs e (0,0))) (chunk : α → List Value) (hK : ∀ x ∈ xs,d.K W x (chunk x)) (hcs : cs.toList = xs.flatMap chunk) (hmax : xs.length ≤ maxLen) : d.C W (some ⟨g,0,none⟩) xs.length xs := by
 refine ⟨rfl,hmax,fun _ => ⟨⟨g,0,none⟩,rfl,fun j p hj => ?_⟩⟩
 have hp := List.mem_of_getElem? hj
 refine ⟨chunk p,d.K_len (hK p hp),hK p hp,fun i u hi => ?_⟩
 have h1 := flat_get d.sz chunk xs (fun x hx => d.K_len (hK x hx)) j p hj i u hi
 rw [← hcs] at h1
 have h2 := World.news_of_block hb (j * d.sz + i) u h1
 exact h2
theorem zgm {W : World} {g : Nat} {xs : List ByteArray} {cs : Array Value} (hb : W.heap[g]? = some (.cells cs 9 (0,0))) (hcs : cs.toList = xs.flatMap fun x => [Value.string x]) (hmax : xs.length ≤ maxLen) : Kd.string.C W (some ⟨g,0,none⟩) xs.length xs :=
 zfa Kd.string hb (fun x => [Value.string x]) (fun _ _ => rfl) hcs hmax
theorem zi5 {W : World} {g : Nat} {xs : List Int} {cs : Array Value} (hb : W.heap[g]? = some (.cells cs 3 (0,0))) (hcs : cs.toList = xs.flatMap fun x => [Value.int .i64 x]) (hmax : xs.length ≤ maxLen) : (Kd.int .i64).C W (some ⟨g,0,none⟩) xs.length xs :=
 zfa (Kd.int .i64) hb (fun x => [Value.int .i64 x]) (fun _ _ => rfl) hcs hmax
theorem zik {W : World} {g : Nat} {xs : List S63} {cs : Array Value} (hb : W.heap[g]? = some (.cells cs 63 (0,0))) (hcs : cs.toList = xs.flatMap fun x => [Value.int .i64 x.f0, .int .i64 x.f1, .string x.f2]) (hmax : xs.length ≤ maxLen) : k63.C W (some ⟨g,0,none⟩) xs.length xs :=
 zfa k63 hb (fun x => [Value.int .i64 x.f0, .int .i64 x.f1, .string x.f2]) (fun x _ => zjb W x) hcs hmax
theorem zaw {α : Type} {d : Kd α} {e : Nat} {w : World} {base : Nat} {ok : Nat → Prop} {A : Option Addr} {n c : Nat} {xs : List α} (h : d.R e w base ok (.slice A n c) xs) : d.C w A xs.length xs ∧ xs.length ≤ c := by
 obtain ⟨A',c',e1,hl,hC⟩ := Kd.zav h
 injection e1 with h1 _ h3
 subst h1; subst h3
 exact ⟨hC,hl⟩
def zcl.f  : Option (List ByteArray) := some (([(⟨#[97,110,110,97]⟩ : ByteArray),(⟨#[98,101,110]⟩ : ByteArray),(⟨#[99,121,100]⟩ : ByteArray)] : List ByteArray))
set_option maxHeartbeats 8000000 in
set_option maxRecDepth 100000 in
theorem zcl.calls  (r : List ByteArray) (w : World) (h : zcl.f  = some r) :
  Calls Try.prog 59 #[] w fun e w' => ∃ v0_ : Value,e = .returned (v0_) ∧ Kd.R Kd.string 9 w' w.heap.size (fun _ => True) v0_ r ∧ Below w.heap.size w w' := by
 have HB := za.mk (Below.refl w.heap.size w)
 have H : (some (([(⟨#[97,110,110,97]⟩ : ByteArray),(⟨#[98,101,110]⟩ : ByteArray),(⟨#[99,121,100]⟩ : ByteArray)] : List ByteArray))) = some r := h
 clear h
 obtain ⟨y163,hy163⟩ : ∃ y_ : List ByteArray,y_ = (([(⟨#[97,110,110,97]⟩ : ByteArray),(⟨#[98,101,110]⟩ : ByteArray),(⟨#[99,121,100]⟩ : ByteArray)] : List ByteArray)) := ⟨_,rfl⟩
 replace H : (some y163) = some r := by first | (rw [hy163]; with_reducible exact H) | (have H2_ := (Option.bind_some _ _).symm.trans H; rw [hy163]; with_reducible exact H2_) | (have H2_ := (Option.bind_some _ _).symm.trans H; with_reducible exact H2_) | with_reducible exact H | (rw [hy163]; exact H) | exact H
 have Ny163 := za.mk hy163
 clear hy163
 obtain rfl := Option.some.inj H
 go_enter Try.func59,Try.ntmps59
 go_wp2_with (first | ((with_reducible refine zaE (N := 1) rfl ?_); refine Kd.zee Kd.string _ 9 ?hg (N := 1) ?hd (xs := ([(⟨#[97,110,110,97]⟩ : ByteArray),(⟨#[98,101,110]⟩ : ByteArray),(⟨#[99,121,100]⟩ : ByteArray)] : List ByteArray)) (inner := [.string (⟨#[97,110,110,97]⟩ : ByteArray), .string (⟨#[98,101,110]⟩ : ByteArray), .string (⟨#[99,121,100]⟩ : ByteArray)]) (ok := fun _ => True) (okp := fun _ => True) ?hr ?hp (fun _ hk => hk) trivial (Below.refl _ _) (Nat.le_refl _) qz ?_; (case hd => rfl); (case hg => rfl); (case hr => exact qq); (case hp => exact (zan.one (show Kd.M Kd.string _ _ _ (⟨#[97,110,110,97]⟩ : ByteArray) [.string (⟨#[97,110,110,97]⟩ : ByteArray)] from rfl) (zan.one (show Kd.M Kd.string _ _ _ (⟨#[98,101,110]⟩ : ByteArray) [.string (⟨#[98,101,110]⟩ : ByteArray)] from rfl) (zan.one (show Kd.M Kd.string _ _ _ (⟨#[99,121,100]⟩ : ByteArray) [.string (⟨#[99,121,100]⟩ : ByteArray)] from rfl) (zan.none _ _))))); intro v164 w1 ho2 hb hg_ hnew_; clear hg_ hnew_; (first | rw [← Ny163.out] at ho2 | (simp only [Int.reduceToNat] at ho2; rw [← Ny163.out] at ho2)); have n0_ := za.mk (Kd.zaT ho2 (zC (qc HB.out))); have n1_ := za.mk (zq (qc HB.out) hb); clear HB; have HO165 := n0_; have HB := n1_; clear n0_ n1_; clear hb ho2))
 go_ret
 exact ⟨_,by first | rfl | (simp [zy,zx] <;> rfl) | (simp [*,zy,zx] <;> rfl),by (with_reducible repeat (first | apply Kd.zal | apply Kd.zam | apply Kd.zau)); exact HO165.out,by repeat (first | (with_reducible first | exact HB.out | apply ze | apply zb | apply zf) | exact HB.out)⟩
def zb3.f (a0 : Int) (a1 : ByteArray) : Option (Int × Int × ByteArray) := some (1,a0,a1)
set_option maxHeartbeats 8000000 in
set_option maxRecDepth 100000 in
theorem zb3.calls (a0 : Int) (a1 : ByteArray) (r1 : Int) (r2 : Int) (r3 : ByteArray) (w : World) (h : zb3.f a0 a1 = some (r1,r2,r3)) :
  Calls Try.prog 61 #[.int .i64 a0, .string a1] w fun e w' => e = .returned (.agg #[.int .i64 r1, .int .i64 r2, .string r3]) ∧ Below w.heap.size w w' := by
 have hu63 := Try.underlying63
 have HB := za.mk (Below.refl w.heap.size w)
 have H : (some (1,a0,a1)) = some (r1,r2,r3) := h
 clear h
 simp only [Option.some.injEq,Prod.mk.injEq] at H
 obtain ⟨rfl,rfl,rfl⟩ := H
 go_enter Try.func61,Try.ntmps61
 go_wp2_with (first | ((with_reducible refine zaE (N := 4) rfl ?_); refine zaV ?hg (N := 4) ?hd (cs := #[.int .i64 0, .int .i64 0, .string (⟨#[]⟩ : ByteArray)]) (t := 63) ?hr ?_; (case hd => rfl); (case hg => rfl); (case hr => exact qq); intro gb166 hg w3 hbox hb; have n0_ := za.mk (zq (qc HB.out) hb); have n1_ := za.mk (hbox); have n2_ := za.mk ((by rw [hg]; exact (zC (qc HB.out)) : w.heap.size ≤ gb166)); have n3_ := za.mk ((by rw [hg]; exact (zC (qc HB.out)) : w.heap.size ≤ gb166)); clear HB; have HB := n0_; have BK166 := n1_; have GW166 := n2_; have GE166 := n3_; clear n0_ n1_ n2_ n3_; clear hb hbox hg; have hcz4_0 : w3.cell? ⟨gb166,0,none⟩ = some (.int .i64 0) := (zh BK166.out 0).trans rfl; have hcz4_1 : w3.cell? ⟨gb166,1,none⟩ = some (.int .i64 0) := (zh BK166.out 1).trans rfl; have hcz4_2 : w3.cell? ⟨gb166,2,none⟩ = some (.string (⟨#[]⟩ : ByteArray)) := (zh BK166.out 2).trans rfl; have hfz4_0 := zo BK166.out 0; have hfz4_1 := zo BK166.out 1; have hfz4_2 := zo BK166.out 2))
 refine bodyPost_ret (results_cell_row rfl _ _ gb166 63 #[.int .i64 1, .int .i64 a0, .string a1] (0,0) _ rfl (by (with_reducible repeat (first | refine zm ?_ _ | refine zn ?_ | refine zl ?_ _)); refine zah (cs := #[.int .i64 1, .int .i64 a0, .string (⟨#[]⟩ : ByteArray)]) ?_ 2 _ rfl; (with_reducible repeat (first | refine zm ?_ _ | refine zn ?_ | refine zl ?_ _)); refine zah (cs := #[.int .i64 1, .int .i64 0, .string (⟨#[]⟩ : ByteArray)]) ?_ 1 _ rfl; (with_reducible repeat (first | refine zm ?_ _ | refine zn ?_ | refine zl ?_ _)); refine zah (cs := #[.int .i64 0, .int .i64 0, .string (⟨#[]⟩ : ByteArray)]) ?_ 0 _ rfl; (with_reducible repeat (first | refine zm ?_ _ | refine zn ?_ | refine zl ?_ _)); exact BK166.out) Try.underlying63 rfl qi) rfl ?_
 exact ⟨by first | rfl | (simp [zy,zx] <;> rfl) | (simp [*,zy,zx] <;> rfl),by repeat (first | (with_reducible first | exact HB.out | apply ze | apply zb | apply zf | refine zi ?_ GE166.out) | exact HB.out)⟩
def zcb.f (a0 : Int) (a1 : ByteArray) : Option (Int × Int × ByteArray) := some (2,a0,a1)
set_option maxHeartbeats 8000000 in
set_option maxRecDepth 100000 in
theorem zcb.calls (a0 : Int) (a1 : ByteArray) (r1 : Int) (r2 : Int) (r3 : ByteArray) (w : World) (h : zcb.f a0 a1 = some (r1,r2,r3)) :
  Calls Try.prog 85 #[.int .i64 a0, .string a1] w fun e w' => e = .returned (.agg #[.int .i64 r1, .int .i64 r2, .string r3]) ∧ Below w.heap.size w w' := by
 have hu63 := Try.underlying63
 have HB := za.mk (Below.refl w.heap.size w)
 have H : (some (2,a0,a1)) = some (r1,r2,r3) := h
 clear h
 simp only [Option.some.injEq,Prod.mk.injEq] at H
 obtain ⟨rfl,rfl,rfl⟩ := H
 go_enter Try.func85,Try.ntmps85
 go_wp2_with (first | ((with_reducible refine zaE (N := 4) rfl ?_); refine zaV ?hg (N := 4) ?hd (cs := #[.int .i64 0, .int .i64 0, .string (⟨#[]⟩ : ByteArray)]) (t := 63) ?hr ?_; (case hd => rfl); (case hg => rfl); (case hr => exact qq); intro gb167 hg w3 hbox hb; have n0_ := za.mk (zq (qc HB.out) hb); have n1_ := za.mk (hbox); have n2_ := za.mk ((by rw [hg]; exact (zC (qc HB.out)) : w.heap.size ≤ gb167)); have n3_ := za.mk ((by rw [hg]; exact (zC (qc HB.out)) : w.heap.size ≤ gb167)); clear HB; have HB := n0_; have BK167 := n1_; have GW167 := n2_; have GE167 := n3_; clear n0_ n1_ n2_ n3_; clear hb hbox hg; have hcz4_0 : w3.cell? ⟨gb167,0,none⟩ = some (.int .i64 0) := (zh BK167.out 0).trans rfl; have hcz4_1 : w3.cell? ⟨gb167,1,none⟩ = some (.int .i64 0) := (zh BK167.out 1).trans rfl; have hcz4_2 : w3.cell? ⟨gb167,2,none⟩ = some (.string (⟨#[]⟩ : ByteArray)) := (zh BK167.out 2).trans rfl; have hfz4_0 := zo BK167.out 0; have hfz4_1 := zo BK167.out 1; have hfz4_2 := zo BK167.out 2))
 refine bodyPost_ret (results_cell_row rfl _ _ gb167 63 #[.int .i64 2, .int .i64 a0, .string a1] (0,0) _ rfl (by (with_reducible repeat (first | refine zm ?_ _ | refine zn ?_ | refine zl ?_ _)); refine zah (cs := #[.int .i64 2, .int .i64 a0, .string (⟨#[]⟩ : ByteArray)]) ?_ 2 _ rfl; (with_reducible repeat (first | refine zm ?_ _ | refine zn ?_ | refine zl ?_ _)); refine zah (cs := #[.int .i64 2, .int .i64 0, .string (⟨#[]⟩ : ByteArray)]) ?_ 1 _ rfl; (with_reducible repeat (first | refine zm ?_ _ | refine zn ?_ | refine zl ?_ _)); refine zah (cs := #[.int .i64 0, .int .i64 0, .string (⟨#[]⟩ : ByteArray)]) ?_ 0 _ rfl; (with_reducible repeat (first | refine zm ?_ _ | refine zn ?_ | refine zl ?_ _)); exact BK167.out) Try.underlying63 rfl qi) rfl ?_
 exact ⟨by first | rfl | (simp [zy,zx] <;> rfl) | (simp [*,zy,zx] <;> rfl),by repeat (first | (with_reducible first | exact HB.out | apply ze | apply zb | apply zf | refine zi ?_ GE167.out) | exact HB.out)⟩
def zaX.f (a0 : Int) (a1 : Int) (a2 : Int) : Option (Bool) := if a0 ≥ a1 then (some (decide (a0 ≤ a2))) else (some false)
set_option maxHeartbeats 8000000 in
set_option maxRecDepth 100000 in
theorem zaX.calls (a0 : Int) (a1 : Int) (a2 : Int) (r : Bool) (w : World) (h : zaX.f a0 a1 a2 = some r) :
  Calls Try.prog 128 #[.int .i64 a0, .int .i64 a1, .int .i64 a2] w fun e w' => e = .returned (.bool r) ∧ zw w w' := by
 have H : (if a0 ≥ a1 then (some (decide (a0 ≤ a2))) else (some false)) = some r := h
 clear h
 by_cases c4 : a0 ≥ a1
 ·rw [if_pos c4] at H
  have c4b0 : decide (a1 ≤ a0) = true := decide_eq_true c4
  clear c4
  obtain rfl := Option.some.inj H
  go_enter Try.func128,Try.ntmps128
  go_wp2
  go_ret
  exact ⟨by first | rfl | (simp; done) | (simp [*]; done),by repeat (first | exact zw.refl _ | apply zw.step)⟩
 ·rw [if_neg c4] at H
  have c4b0 : decide (a1 ≤ a0) = false := decide_eq_false c4
  clear c4
  obtain rfl := Option.some.inj H
  go_enter Try.func128,Try.ntmps128
  go_wp2
  go_ret
  exact ⟨by first | rfl | (simp; done) | (simp [*]; done),by repeat (first | exact zw.refl _ | apply zw.step)⟩
end Go.Proofs.Ytgmbbfmbimofoaa.P
