-- MERGED BY A PROGRAM out of texts of this claim: hand work, and what a (turned) print of the kit has written for it
import Derived.Laws.IdiomStrings
import Derived.Lib.IndexBytes
import Derived.Outline
import Derived.Test.YtgmbbfmbimofoaaMk5
namespace Go.Proofs.Ytgmbbfmbimofoaa.P
open Go.RowKit Go.Proofs.YtgmbbfmbimofoaaW.PrintWords Go.Proofs.YtgmbbfmbimofoaaW.PrintLast Go.Proofs.YtgmbbfmbimofoaaW.PrintMore
attribute [local go_sem] zH zI zP zO zC zB zJ zK
set_option linter.unusedVariables false
set_option linter.unusedSimpArgs false
def okb (c : UInt8) : Bool := (97 ≤ c && c ≤ 122) || (48 ≤ c && c ≤ 57) || c == 32
theorem zgm (s : ByteArray) (h : 0 < s.size) : strings_HasPrefix.f s ⟨#[32]⟩ = some (decide (s.data.toList.head? = some 32)) := by
 have h1 : s.size ≥ 1 := h
 have e : ((⟨#[32]⟩ : ByteArray).size : Int) = 1 := rfl
 unfold strings_HasPrefix.f stringslite_HasPrefix.f
 rw [e,if_pos ql,if_pos ql,if_pos ql]
 simp only [Option.bind_some]
 congr 1
 obtain ⟨⟨l⟩⟩ := s
 rw [ByteArray.toList_eq,ByteArray.toList_eq,Lib.extract_data]
 cases l with
 | nil => exact absurd h qq
 | cons c l => rw [Bool.eq_iff_iff]; simp
theorem zf6 (s : ByteArray) (h : 0 < s.size) (h1 : s.size ≤ 10) : strings_HasSuffix.f s ⟨#[32]⟩ = some (decide (s.data.toList.getLast? = some 32)) := by
 have e : ((⟨#[32]⟩ : ByteArray).size : Int) = 1 := rfl
 have ew : wrap64 ((s.size : Int) - 1) = s.size - 1 := by unfold wrap64; omega
 unfold strings_HasSuffix.f stringslite_HasSuffix.f
 rw [e,ew,if_pos ql,if_pos ql,if_pos ql]
 simp only [Option.bind_some]
 congr 1
 have en : ((s.size : Int) - 1).toNat = s.size - 1 := by omega
 rw [en,ByteArray.toList_eq,ByteArray.toList_eq,Lib.extract_to_end]
 have hs : s.size = s.data.toList.length := rfl
 rw [hs]
 rw [hs] at h
 generalize s.data.toList = l at h
 rcases List.eq_nil_or_concat l with rfl | ⟨l',c,rfl⟩
 ·simp at h
 ·rw [Bool.eq_iff_iff]; simp
def zaT (s : ByteArray) : Int :=
 if s.size = 0 then 7 else if 10 < s.size then 10 else if s.data.toList.all okb then (if s.data.toList.head? = some 32 ∨ s.data.toList.getLast? = some 32 then 2 else 0) else 2
def zbe.f (a0 : ByteArray) : Option Int := some (zaT a0)
theorem ziE (c : UInt8) : okb c = ((decide (97 ≤ (c.toNat : Int)) && decide ((c.toNat : Int) ≤ 122)) || (decide (48 ≤ (c.toNat : Int)) && decide ((c.toNat : Int) ≤ 57)) || decide ((c.toNat : Int) = 32)) := by
 unfold okb
 rw [Bool.eq_iff_iff]
 simp [UInt8.le_iff_toNat_le, ← UInt8.toNat_inj]
 omega
set_option maxHeartbeats 8000000 in
set_option maxRecDepth 100000 in
theorem zbe.calls (a0 : ByteArray) (r : Int) (w : World) (h : zbe.f a0 = some r) :
  Calls Try.prog 82 #[.string a0] w fun e w' => e = .returned (.int .i64 r) ∧ Below w.heap.size w w' := by
 obtain rfl := Option.some.inj h
 clear h
 by_cases c0 : a0.size = 0
 ·have e : zaT a0 = 7 := by simp [zaT,c0]
  rw [e]
  have c2b0 : ((a0.size : Int) == 0) = true := by simp [c0]
  clear e c0
  go_enter Try.func82,Try.ntmps82
  go_wp2
  go_ret
  exact ⟨rfl,Below.refl _ _⟩
 ·by_cases c1 : 10 < a0.size
  ·have e : zaT a0 = 10 := by simp [zaT,c0,c1]
   rw [e]
   have c2b0 : ((a0.size : Int) == 0) = false := by simp [c0]
   have c3b0 : decide (10 < (a0.size : Int)) = true := decide_eq_true ql
   have c3b1 : decide (10 < a0.size) = true := decide_eq_true ql
   clear e c0 c1
   go_enter Try.func82,Try.ntmps82
   go_wp2
   go_ret
   exact ⟨rfl,Below.refl _ _⟩
  ·have c2b0 : ((a0.size : Int) == 0) = false := by simp [c0]
   have c3b0 : decide (10 < (a0.size : Int)) = false := decide_eq_false ql
   have c3b1 : decide (10 < a0.size) = false := decide_eq_false ql
   have hconv := run_bytes_of_string (P := Try.prog) w 9 129 5 a0 Try.underlying9 Try.underlying129 Try.underlying5
   go_enter Try.func82,Try.ntmps82
   go_wp2
   have hsz : w.heap.size < (w.alloc (.cells (bytesRow a0 (grownCap w a0.size 0 5)) 5 ((bytesRow a0 (grownCap w a0.size 0 5)).size,(bytesRow a0 (grownCap w a0.size 0 5)).size + 1))).heap.size := by simp
   obtain ⟨W0,hW0⟩ : ∃ W0,(w.alloc (.cells (bytesRow a0 (grownCap w a0.size 0 5)) 5 ((bytesRow a0 (grownCap w a0.size 0 5)).size,(bytesRow a0 (grownCap w a0.size 0 5)).size + 1))) = W0 := ⟨_,rfl⟩
   have hcell : za (∀ j, ∀ hj : j < a0.data.size,W0.drew.cell? ⟨w.heap.size,j,none⟩ = some (.int .u8 (a0.data[j].toNat : Int))) := ⟨by
    intro j hj
    rw [← hW0]
    exact (World.cell?_alloc_mark _ _ _ _ _).trans (bytesRow_at _ _ _ hj)⟩
   have hbel0 : za (Below w.heap.size w W0) := ⟨by rw [← hW0]; exact ((Below.refl _ _).alloc (Nat.le_refl _) _)⟩
   have hbel : za (Below w.heap.size w W0.drew) := ⟨hbel0.out.drew⟩
   rw [hW0]
   clear hW0 hsz hconv
   have hn : a0.size ≤ 10 := by omega
   go_loop [4,14] (fun c i => ∃ k : Nat,k ≤ a0.size ∧ i = .int .i64 k ∧ za (∀ j, ∀ hj : j < a0.data.size,j < k → okb a0.data[j] = true)) (fun _ i => a0.size - (intOf i).toNat)
   case atStart => exact ⟨0,Nat.zero_le _,rfl,⟨fun j _ h => absurd h (Nat.not_lt_zero _)⟩⟩
   case round =>
    obtain ⟨k,hk,rfl,hok⟩ := hrel
    by_cases hlt : k < a0.size
    ·have hc := hcell.out k hlt
     obtain ⟨x,hx⟩ : ∃ x : Int,(a0.data[k].toNat : Int) = x := ⟨_,rfl⟩
     have hob : za (okb a0.data[k] = ((decide (97 ≤ x) && decide (x ≤ 122)) || (decide (48 ≤ x) && decide (x ≤ 57)) || decide (x = 32))) := ⟨by rw [ziE,hx]⟩
     have hx0 : 0 ≤ x := by omega
     have hx1 : x ≤ 255 := by have := a0.data[k].toNat_lt; omega
     rw [hx] at hc
     clear hx
     have step : okb a0.data[k] = true → za (∀ j, ∀ hj : j < a0.data.size,j < k + 1 → okb a0.data[j] = true) := fun he => ⟨fun j hj h => by
      by_cases e : j = k
      ·subst e; exact he
      ·exact hok.out j hj ql⟩
     have bad : okb a0.data[k] = false → zaT a0 = 2 := fun he => by
      have ha : a0.data.toList.all okb = false := by
       rw [List.all_eq_false]
       exact ⟨a0.data[k],by simp,by simp [he]⟩
      simp [zaT,c0,c1,ha]
     have step' := za.mk step
     have bad' := za.mk bad
     clear step bad hok
     have hklt : decide ((k : Int) < (a0.size : Int)) = true := decide_eq_true ql
     have hk0 : (0 : Int) ≤ k := by omega
     by_cases d1 : x < 97
     ·have d1b : decide (x < 97) = true := decide_eq_true d1
      by_cases d2 : x < 48
      ·have d2b : decide (x < 48) = true := decide_eq_true d2
       by_cases d3 : x = 32
       ·have d3b : (x != 32) = false := by simp [d3]
        have hob' : okb a0.data[k] = true := by rw [hob.out]; simp [d3]
        have hst := step'.out hob'
        clear d1 d2 d3 hob hob' step' bad' c0 c1
        go_wp2
        go_round
        case rel => exact ⟨k + 1,by omega,by go_num,hst⟩
        case measure => simp [intOf]; omega
       ·have d3b : (x != 32) = true := by simp [d3]
        have hob' : okb a0.data[k] = false := by rw [hob.out]; simp [d3]; omega
        have hb := za.mk (bad'.out hob')
        clear d1 d2 d3 hob hob' step' bad' c0 c1
        go_wp2
        go_ret
        exact ⟨by rw [hb.out]; rfl,hbel.out⟩
      ·have d2b : decide (x < 48) = false := decide_eq_false d2
       by_cases d3 : 57 < x
       ·have d3b : decide (57 < x) = true := decide_eq_true d3
        have d4b : (x != 32) = true := by simp; omega
        have hob' : okb a0.data[k] = false := by rw [hob.out]; simp; omega
        have hb := za.mk (bad'.out hob')
        clear d1 d2 d3 hob hob' step' bad' c0 c1
        go_wp2
        go_ret
        exact ⟨by rw [hb.out]; rfl,hbel.out⟩
       ·have d3b : decide (57 < x) = false := decide_eq_false d3
        have hob' : okb a0.data[k] = true := by rw [hob.out]; simp; omega
        have hst := step'.out hob'
        clear d1 d2 d3 hob hob' step' bad' c0 c1
        go_wp2
        go_round
        case rel => exact ⟨k + 1,by omega,by go_num,hst⟩
        case measure => simp [intOf]; omega
     ·have d1b : decide (x < 97) = false := decide_eq_false d1
      by_cases d2 : 122 < x
      ·have d2b : decide (122 < x) = true := decide_eq_true d2
       have d3b : decide (x < 48) = false := decide_eq_false ql
       have d4b : decide (57 < x) = true := decide_eq_true ql
       have d5b : (x != 32) = true := by simp; omega
       have hob' : okb a0.data[k] = false := by rw [hob.out]; simp; omega
       have hb := za.mk (bad'.out hob')
       clear d1 d2 hob hob' step' bad' c0 c1
       go_wp2
       go_ret
       exact ⟨by rw [hb.out]; rfl,hbel.out⟩
      ·have d2b : decide (122 < x) = false := decide_eq_false d2
       have hob' : okb a0.data[k] = true := by rw [hob.out]; simp; omega
       have hst := step'.out hob'
       clear d1 d2 hob hob' step' bad' c0 c1
       go_wp2
       go_round
       case rel => exact ⟨k + 1,by omega,by go_num,hst⟩
       case measure => simp [intOf]; omega
    ·have hall : a0.data.toList.all okb = true := by
      rw [List.all_eq_true]
      intro c hc
      obtain ⟨j,hj,rfl⟩ := List.getElem_of_mem hc
      have hj' : j < a0.data.size := by simpa using hj
      simpa using hok.out j hj' (by have : a0.data.size = a0.size := rfl; omega)
     have hklt : decide ((k : Int) < (a0.size : Int)) = false := decide_eq_false ql
     have P1 := za.mk (zgm a0 ql)
     have P2 := za.mk (zf6 a0 ql ql)
     have hle : za (zaT a0 = if a0.data.toList.head? = some 32 ∨ a0.data.toList.getLast? = some 32 then 2 else 0) := ⟨by simp [zaT,c0,c1,hall]⟩
     clear hok hall c0 c1
     by_cases b1 : a0.data.toList.head? = some 32
     ·have hr : za (zaT a0 = 2) := ⟨by rw [hle.out,if_pos (.inl b1)]⟩
      rw [decide_eq_true b1] at P1
      clear b1 P2 hle
      go_wp2_with (go_at_call 106; refine (strings_HasPrefix.calls a0 _ true _ P1.out).mono ?_; rintro e w' ⟨rfl,⟨nd,rfl⟩⟩)
      go_ret
      exact ⟨by rw [hr.out]; rfl,zb hbel0.out _⟩
     ·rw [decide_eq_false b1] at P1
      by_cases b2 : a0.data.toList.getLast? = some 32
      ·have hr : za (zaT a0 = 2) := ⟨by rw [hle.out,if_pos (.inr b2)]⟩
       rw [decide_eq_true b2] at P2
       clear b1 b2 hle
       go_wp2_with (first | (go_at_call 106; refine (strings_HasPrefix.calls a0 _ false _ P1.out).mono ?_; rintro e w' ⟨rfl,⟨nd,rfl⟩⟩) | (go_at_call 107; refine (strings_HasSuffix.calls a0 _ true _ P2.out).mono ?_; rintro e w' ⟨rfl,⟨nd2,rfl⟩⟩))
       go_ret
       exact ⟨by rw [hr.out]; rfl,zb hbel0.out _⟩
      ·have hr : za (zaT a0 = 0) := ⟨by rw [hle.out,if_neg (by rintro (h | h); exact b1 h; exact b2 h)]⟩
       rw [decide_eq_false b2] at P2
       clear b1 b2 hle
       go_wp2_with (first | (go_at_call 106; refine (strings_HasPrefix.calls a0 _ false _ P1.out).mono ?_; rintro e w' ⟨rfl,⟨nd,rfl⟩⟩) | (go_at_call 107; refine (strings_HasSuffix.calls a0 _ false _ P2.out).mono ?_; rintro e w' ⟨rfl,⟨nd2,rfl⟩⟩))
       go_ret
       exact ⟨by rw [hr.out]; rfl,zb hbel0.out _⟩
def zY.l0 : Nat → List ByteArray → Int → Int → Option (Int)
 | 0,_,_,_ => none
 | k + 1,x9,x10,x11 => if x11 < x10 then (if 0 ≤ x11 then (if x11 < (x9.length : Int) then ((zbe.f (zaC ByteArray.empty x9 x11)).bind fun t105 => (if t105 = 0 then (zY.l0 k x9 x10 (wrap64 (x11 + 1))) else (some t105))) else (none)) else (none)) else (some 0)
def zY.f (k : Nat) (l0 : List ByteArray) : Option (Int) := if (l0.length : Int) > 6 then (some 6) else (zY.l0 k l0 (l0.length : Int) 0)
set_option maxHeartbeats 8000000 in
set_option maxRecDepth 100000 in
theorem zY.calls (k : Nat) (A0 : Option Addr) (c0 : Nat) (l0 : List ByteArray) (r : Int) (w : World) (hr0 : Kd.C Kd.string w A0 l0.length l0) (hc0 : l0.length ≤ c0) (h : zY.f k l0 = some r) :
  Calls Try.prog 46 #[.slice A0 l0.length c0] w fun e w' => e = .returned (.int .i64 r) ∧ Below w.heap.size w w' := by
 have HR0 := za.mk hr0
 have HC0 := za.mk hc0
 clear hr0 hc0
 have HB := za.mk (Below.refl w.heap.size w)
 have H : (if (l0.length : Int) > 6 then (some 6) else (zY.l0 k l0 (l0.length : Int) 0)) = some r := h
 clear h
 by_cases c2 : (l0.length : Int) > 6
 ·rw [if_pos c2] at H
  have c2b0 : decide (6 < (l0.length : Int)) = true := decide_eq_true c2
  have c2b1 : decide (6 < l0.length) = true := decide_eq_true ql
  clear c2
  obtain rfl := Option.some.inj H
  go_enter Try.func46,Try.ntmps46
  go_wp2
  go_ret
  exact ⟨by first | rfl | (simp [zw,zx] <;> rfl) | (simp [*,zw,zx] <;> rfl),by repeat (first | (with_reducible first | exact HB.out | apply ze | apply zb | apply zg) | exact HB.out)⟩
 ·rw [if_neg c2] at H
  have c2b0 : decide (6 < (l0.length : Int)) = false := decide_eq_false c2
  have c2b1 : decide (6 < l0.length) = false := decide_eq_false ql
  clear c2
  have H' := za.mk H
  clear H
  go_enter Try.func46,Try.ntmps46
  go_wp2
  go_loopg [11] k (fun kq v11 w' => ∃ (x11_1 : Int),v11 = .int .i64 x11_1 ∧ za (zY.l0 kq l0 (l0.length : Int) x11_1 = some r) ∧ za (kq ≤ k) ∧ za (Below w.heap.size w w'))
  case atStart => exact ⟨(0),qm,H',⟨Nat.le_refl _⟩,⟨by repeat (first | (with_reducible first | exact HB.out | apply ze | apply zb | apply zg) | exact HB.out)⟩⟩
  case round =>
   clear H'
   try clear c2
   try clear c2b0
   try clear c2b1
   try clear p2
   obtain ⟨x11_1,rfl,HA,HK1,HB⟩ := hrel
   cases gk with
   | zero => exact absurd HA.out (by simp [zY.l0])
   | succ k1 =>
    have H := HA.out
    clear HA
    simp only [zY.l0] at H
    by_cases c3 : x11_1 < (l0.length : Int)
    ·rw [if_pos c3] at H
     have c3b0 : decide (x11_1 < (l0.length : Int)) = true := decide_eq_true c3
     clear c3
     by_cases c4 : 0 ≤ x11_1
     ·rw [if_pos c4] at H
      have c4b0 : decide (0 ≤ x11_1) = true := decide_eq_true c4
      clear c4
      by_cases c5 : x11_1 < (l0.length : Int)
      ·rw [if_pos c5] at H
       have c5b0 : decide (x11_1 < (l0.length : Int)) = true := decide_eq_true c5
       clear c5
       replace H := Option.bind_eq_some_iff.mp H
       obtain ⟨t105,A60,H⟩ := H
       replace H : (if t105 = 0 then (zY.l0 k1 l0 (l0.length : Int) (wrap64 (x11_1 + 1))) else (some t105)) = some r := H
       have A6 := za.mk A60
       clear A60
       by_cases c7 : t105 = 0
       ·rw [if_pos c7] at H
        have c7b0 : (t105 == 0) = true := beq_iff_eq.mpr c7
        have c7b1 : (t105 != 0) = false := bne_eq_false_iff_eq.mpr c7
        clear c7
        have H' := za.mk H
        clear H
        have p104 : 0 ≤ (x11_1 : Int) := of_decide_eq_true qd
        have q104 : x11_1 < (l0.length : Int) := of_decide_eq_true qd
        obtain ⟨ad104,e104,hx104_0⟩ := Kd.zaV HR0.out x11_1 p104 q104
        cases e104
        replace hx104_0 := (HB.out.cell (World.block_lt_of_cell? w _ hx104_0)).trans hx104_0
        replace p104 := eq_true p104
        replace q104 := eq_true q104
        go_wp2_with (first | ((with_reducible refine zA (f := 82) rfl ?_); refine zW (some 16) rfl rfl Try.func82 qg rfl #[.string (zaC ByteArray.empty l0 x11_1)] rfl qb ?_; (with_reducible refine (zbe.calls (zaC ByteArray.empty l0 x11_1) t105 _ A6.out).mono ?_); rintro e w8 ⟨rfl,hb⟩; refine ⟨_,rfl,?_⟩; have n0_ := za.mk (zo (qc HB.out) hb); clear HB; have HB := n0_; clear n0_; (try clear hb); (try clear hb2); (try clear hk); (try clear hi)))
        go_roundg k1
        case measure => have := HK1.out; omega
        case rel => exact ⟨(wrap64 (x11_1 + 1)),qm,H',⟨by have := HK1.out; omega⟩,⟨by repeat (first | (with_reducible first | exact HB.out | apply ze | apply zb | apply zg) | exact HB.out)⟩⟩
       ·rw [if_neg c7] at H
        have c7b0 : (t105 == 0) = false := beq_eq_false_iff_ne.mpr c7
        have c7b1 : (t105 != 0) = true := bne_iff_ne.mpr c7
        obtain rfl := Option.some.inj H
        have p104 : 0 ≤ (x11_1 : Int) := of_decide_eq_true qd
        have q104 : x11_1 < (l0.length : Int) := of_decide_eq_true qd
        obtain ⟨ad104,e104,hx104_0⟩ := Kd.zaV HR0.out x11_1 p104 q104
        cases e104
        replace hx104_0 := (HB.out.cell (World.block_lt_of_cell? w _ hx104_0)).trans hx104_0
        replace p104 := eq_true p104
        replace q104 := eq_true q104
        go_wp2_with (first | ((with_reducible refine zA (f := 82) rfl ?_); refine zW (some 16) rfl rfl Try.func82 qg rfl #[.string (zaC ByteArray.empty l0 x11_1)] rfl qb ?_; (with_reducible refine (zbe.calls (zaC ByteArray.empty l0 x11_1) t105 _ A6.out).mono ?_); rintro e w9 ⟨rfl,hb⟩; refine ⟨_,rfl,?_⟩; have n0_ := za.mk (zo (qc HB.out) hb); clear HB; have HB := n0_; clear n0_; (try clear hb); (try clear hb2); (try clear hk); (try clear hi)))
        go_ret
        exact ⟨by first | rfl | (simp [zw,zx] <;> rfl) | (simp [*,zw,zx] <;> rfl),by repeat (first | (with_reducible first | exact HB.out | apply ze | apply zb | apply zg) | exact HB.out)⟩
      ·rw [if_neg c5] at H
       exact absurd H qC
     ·rw [if_neg c4] at H
      exact absurd H qC
    ·rw [if_neg c3] at H
     have c3b0 : decide (x11_1 < (l0.length : Int)) = false := decide_eq_false c3
     clear c3
     obtain rfl := Option.some.inj H
     go_wp2
     go_ret
     exact ⟨by first | rfl | (simp [zw,zx] <;> rfl) | (simp [*,zw,zx] <;> rfl),by repeat (first | (with_reducible first | exact HB.out | apply ze | apply zb | apply zg) | exact HB.out)⟩
end Go.Proofs.Ytgmbbfmbimofoaa.P
namespace Go.Proofs.Ytgmbbfmbimofoaa.P
open Go.RowKit Go.Proofs.YtgmbbfmbimofoaaW.PrintWords Go.Proofs.YtgmbbfmbimofoaaW.PrintLast Go.Proofs.YtgmbbfmbimofoaaW.PrintMore
attribute [local go_sem] zH zI zP zO zC zB zJ zK
set_option linter.unusedVariables false
set_option linter.unusedSimpArgs false
attribute [local go_sem high] zff
def za6.f (a0_0 : Int) (a0_1 : Int) (a0_2 : ByteArray) : Option (Int) := if a0_0 = 3 then (if a0_2.toList = ([] : List UInt8) then (some 0) else (some 2)) else ((zbe.f a0_2).bind fun t116 => (some t116))
set_option maxHeartbeats 8000000 in
set_option maxRecDepth 100000 in
theorem za6.calls (a0_0 : Int) (a0_1 : Int) (a0_2 : ByteArray) (r : Int) (w : World) (h : za6.f a0_0 a0_1 a0_2 = some r) :
  Calls Try.prog 109 #[.agg #[.int .i64 a0_0, .int .i64 a0_1, .string a0_2]] w fun e w' => e = .returned (.int .i64 r) ∧ Below w.heap.size w w' := by
 have hu63 := Try.underlying63
 have HB := za.mk (Below.refl w.heap.size w)
 have H : (if a0_0 = 3 then (if a0_2.toList = ([] : List UInt8) then (some 0) else (some 2)) else ((zbe.f a0_2).bind fun t116 => (some t116))) = some r := h
 clear h
 by_cases c2 : a0_0 = 3
 ·rw [if_pos c2] at H
  have c2b0 : (a0_0 == 3) = true := beq_iff_eq.mpr c2
  have c2b1 : (a0_0 != 3) = false := bne_eq_false_iff_eq.mpr c2
  clear c2
  by_cases c3 : a0_2.toList = ([] : List UInt8)
  ·rw [if_pos c3] at H
   have c3b0 : (a0_2.toList == ([] : List UInt8)) = true := beq_iff_eq.mpr c3
   have c3b1 : (a0_2.toList != ([] : List UInt8)) = false := bne_eq_false_iff_eq.mpr c3
   clear c3
   obtain rfl := Option.some.inj H
   go_enter Try.func109,Try.ntmps109
   go_wp2_with (first | ((with_reducible refine zaa (N := 1) rfl ?_); refine zao ?hg (N := 1) ?hd (cs := #[.int .i64 a0_0, .int .i64 a0_1, .string a0_2]) (t := 63) ?hr ?_; (case hd => rfl); (case hg => rfl); (case hr => exact qk); intro gb115 hg w4 hbox hb; have n0_ := za.mk (zo (qc HB.out) hb); have n1_ := za.mk (hbox); have n2_ := za.mk ((by rw [hg]; exact (zy (qc HB.out)) : w.heap.size ≤ gb115)); have n3_ := za.mk ((by rw [hg]; exact (zy (qc HB.out)) : w.heap.size ≤ gb115)); clear HB; have HB := n0_; have BK115 := n1_; have GW115 := n2_; have GE115 := n3_; clear n0_ n1_ n2_ n3_; clear hb hbox hg; have hcz5_0 : w4.cell? ⟨gb115,0,none⟩ = some (.int .i64 a0_0) := (zf BK115.out 0).trans rfl; have hcz5_1 : w4.cell? ⟨gb115,1,none⟩ = some (.int .i64 a0_1) := (zf BK115.out 1).trans rfl; have hcz5_2 : w4.cell? ⟨gb115,2,none⟩ = some (.string a0_2) := (zf BK115.out 2).trans rfl; have hfz5_0 := zn BK115.out 0; have hfz5_1 := zn BK115.out 1; have hfz5_2 := zn BK115.out 2))
   go_ret
   exact ⟨by first | rfl | (simp [zw,zx] <;> rfl) | (simp [*,zw,zx] <;> rfl),by repeat (first | (with_reducible first | exact HB.out | apply ze | apply zb | apply zg | refine zh ?_ GE115.out) | exact HB.out)⟩
  ·rw [if_neg c3] at H
   have c3b0 : (a0_2.toList == ([] : List UInt8)) = false := beq_eq_false_iff_ne.mpr c3
   have c3b1 : (a0_2.toList != ([] : List UInt8)) = true := bne_iff_ne.mpr c3
   obtain rfl := Option.some.inj H
   go_enter Try.func109,Try.ntmps109
   go_wp2_with (first | ((with_reducible refine zaa (N := 1) rfl ?_); refine zao ?hg (N := 1) ?hd (cs := #[.int .i64 a0_0, .int .i64 a0_1, .string a0_2]) (t := 63) ?hr ?_; (case hd => rfl); (case hg => rfl); (case hr => exact qk); intro gb115 hg w6 hbox hb; have n0_ := za.mk (zo (qc HB.out) hb); have n1_ := za.mk (hbox); have n2_ := za.mk ((by rw [hg]; exact (zy (qc HB.out)) : w.heap.size ≤ gb115)); have n3_ := za.mk ((by rw [hg]; exact (zy (qc HB.out)) : w.heap.size ≤ gb115)); clear HB; have HB := n0_; have BK115 := n1_; have GW115 := n2_; have GE115 := n3_; clear n0_ n1_ n2_ n3_; clear hb hbox hg; have hcz7_0 : w6.cell? ⟨gb115,0,none⟩ = some (.int .i64 a0_0) := (zf BK115.out 0).trans rfl; have hcz7_1 : w6.cell? ⟨gb115,1,none⟩ = some (.int .i64 a0_1) := (zf BK115.out 1).trans rfl; have hcz7_2 : w6.cell? ⟨gb115,2,none⟩ = some (.string a0_2) := (zf BK115.out 2).trans rfl; have hfz7_0 := zn BK115.out 0; have hfz7_1 := zn BK115.out 1; have hfz7_2 := zn BK115.out 2))
   go_ret
   exact ⟨by first | rfl | (simp [zw,zx] <;> rfl) | (simp [*,zw,zx] <;> rfl),by repeat (first | (with_reducible first | exact HB.out | apply ze | apply zb | apply zg | refine zh ?_ GE115.out) | exact HB.out)⟩
 ·rw [if_neg c2] at H
  have c2b0 : (a0_0 == 3) = false := beq_eq_false_iff_ne.mpr c2
  have c2b1 : (a0_0 != 3) = true := bne_iff_ne.mpr c2
  replace H := Option.bind_eq_some_iff.mp H
  obtain ⟨t116,A80,H⟩ := H
  replace H : (some t116) = some r := H
  have A8 := za.mk A80
  clear A80
  obtain rfl := Option.some.inj H
  go_enter Try.func109,Try.ntmps109
  go_wp2_with (first | ((with_reducible refine zaa (N := 1) rfl ?_); refine zao ?hg (N := 1) ?hd (cs := #[.int .i64 a0_0, .int .i64 a0_1, .string a0_2]) (t := 63) ?hr ?_; (case hd => rfl); (case hg => rfl); (case hr => exact qk); intro gb115 hg w9 hbox hb; have n0_ := za.mk (zo (qc HB.out) hb); have n1_ := za.mk (hbox); have n2_ := za.mk ((by rw [hg]; exact (zy (qc HB.out)) : w.heap.size ≤ gb115)); have n3_ := za.mk ((by rw [hg]; exact (zy (qc HB.out)) : w.heap.size ≤ gb115)); clear HB; have HB := n0_; have BK115 := n1_; have GW115 := n2_; have GE115 := n3_; clear n0_ n1_ n2_ n3_; clear hb hbox hg; have hcz10_0 : w9.cell? ⟨gb115,0,none⟩ = some (.int .i64 a0_0) := (zf BK115.out 0).trans rfl; have hcz10_1 : w9.cell? ⟨gb115,1,none⟩ = some (.int .i64 a0_1) := (zf BK115.out 1).trans rfl; have hcz10_2 : w9.cell? ⟨gb115,2,none⟩ = some (.string a0_2) := (zf BK115.out 2).trans rfl; have hfz10_0 := zn BK115.out 0; have hfz10_1 := zn BK115.out 1; have hfz10_2 := zn BK115.out 2) | ((with_reducible refine zA (f := 82) rfl ?_); refine zW (some 8) rfl rfl Try.func82 qg rfl #[.string a0_2] rfl qb ?_; (with_reducible refine (zbe.calls a0_2 t116 _ A8.out).mono ?_); rintro e w11 ⟨rfl,hb⟩; refine ⟨_,rfl,?_⟩; have n0_ := za.mk (zu (g := gb115) (o := .cells #[.int .i64 a0_0, .int .i64 a0_1, .string a0_2] 63 (0,0)) (qa BK115.out) hb); have n1_ := za.mk (zo (qf HB.out GE115.out) hb); clear BK115; clear HB; have BK115 := n0_; have HB := n1_; clear n0_ n1_; (try clear hb); (try clear hb2); (try clear hk); (try clear hi)))
  go_ret
  exact ⟨by first | rfl | (simp [zw,zx] <;> rfl) | (simp [*,zw,zx] <;> rfl),by repeat (first | (with_reducible first | exact HB.out | apply ze | apply zb | apply zg | refine zh ?_ GE115.out) | exact HB.out)⟩
end Go.Proofs.Ytgmbbfmbimofoaa.P
namespace Go.Proofs.Ytgmbbfmbimofoaa.P
open Go.RowKit Go.Proofs.YtgmbbfmbimofoaaW.PrintWords Go.Proofs.YtgmbbfmbimofoaaW.PrintLast Go.Proofs.YtgmbbfmbimofoaaW.PrintMore
attribute [local go_sem] zH zI zP zO zC zB zJ zK
set_option linter.unusedVariables false
set_option linter.unusedSimpArgs false
mutual
def zt.l0 : Nat → List ByteArray → List (S63) → List (S63) → Int → Int → Option (Int)
 | 0,_,_,_,_,_ => none
 | k + 1,x0,x1,x13,x14,x15 => if x15 < x14 then (if 0 ≤ x15 then (if x15 < (x13.length : Int) then (if ((zk x13 x15).f0) < 1 then (zt.j1 k x0 x1 x15 x13 x14 x15 true ((zk x13 x15).f0) ((zk x13 x15).f1) ((zk x13 x15).f2)) else (zt.j1 k x0 x1 x15 x13 x14 x15 (decide (((zk x13 x15).f0) > 3)) ((zk x13 x15).f0) ((zk x13 x15).f1) ((zk x13 x15).f2))) else (none)) else (none)) else (some 0)
def zt.j1 : Nat → List ByteArray → List (S63) → Int → List (S63) → Int → Int → Bool → Int → Int → ByteArray → Option (Int)
 | 0,_,_,_,_,_,_,_,_,_,_ => none
 | k + 1,x0,x1,x5,x13,x14,x15,x27,x119000,x119001,x119002 => if x27 = true then (some 8) else (if x119000 = 1 then (zt.j2 k x0 x1 x5 (wrap64 ((wrap64 ((x0.length : Int) - 1)) + 1)) x13 x14 x15 x119000 x119001 x119002) else (zt.j2 k x0 x1 x5 (wrap64 ((x0.length : Int) - 1)) x13 x14 x15 x119000 x119001 x119002))
def zt.j2 : Nat → List ByteArray → List (S63) → Int → Int → List (S63) → Int → Int → Int → Int → ByteArray → Option (Int)
 | 0,_,_,_,_,_,_,_,_,_,_ => none
 | k + 1,x0,x1,x5,x7,x13,x14,x15,x119000,x119001,x119002 => if x119001 < 0 then (zt.j3 k x0 x1 x5 x13 x14 x15 true x119000 x119001 x119002) else (zt.j3 k x0 x1 x5 x13 x14 x15 (decide (x119001 > x7)) x119000 x119001 x119002)
def zt.j3 : Nat → List ByteArray → List (S63) → Int → List (S63) → Int → Int → Bool → Int → Int → ByteArray → Option (Int)
 | 0,_,_,_,_,_,_,_,_,_,_ => none
 | k + 1,x0,x1,x5,x13,x14,x15,x44,x119000,x119001,x119002 => if x44 = true then (some 3) else ((za6.f x119000 x119001 x119002).bind fun t119 => (if t119 = 0 then (if x5 = 0 then (zt.l0 k x0 x1 x13 x14 (wrap64 (x15 + 1))) else (if 0 ≤ (wrap64 (x5 - 1)) then (if (wrap64 (x5 - 1)) < (x1.length : Int) then (if x119001 < ((zk x1 (wrap64 (x5 - 1))).f1) then (some 5) else (if x119001 > ((zk x1 (wrap64 (x5 - 1))).f1) then (zt.j4 k x0 x1 x13 x14 x15 true x119000 x119001 x119002) else (zt.j4 k x0 x1 x13 x14 x15 (((zk x1 (wrap64 (x5 - 1))).f0) == 1) x119000 x119001 x119002))) else (none)) else (none))) else (some t119)))
def zt.j4 : Nat → List ByteArray → List (S63) → List (S63) → Int → Int → Bool → Int → Int → ByteArray → Option (Int)
 | 0,_,_,_,_,_,_,_,_,_ => none
 | k + 1,x0,x1,x13,x14,x15,x63,x119000,x119001,x119002 => if x63 = true then (zt.l0 k x0 x1 x13 x14 (wrap64 (x15 + 1))) else (if x119000 = 1 then (some 5) else (some 4))
end
def zt.f (k : Nat) (l0 : List ByteArray) (l1 : List (S63)) : Option (Int) := if (l1.length : Int) > 12 then (some 6) else (zt.l0 k l0 l1 l1 (l1.length : Int) 0)
set_option maxHeartbeats 8000000 in
set_option maxRecDepth 100000 in
theorem zt.calls (k : Nat) (A0 : Option Addr) (c0 : Nat) (l0 : List ByteArray) (A1 : Option Addr) (c1 : Nat) (l1 : List (S63)) (r : Int) (w : World) (hr0 : Kd.C Kd.string w A0 l0.length l0) (hc0 : l0.length ≤ c0) (hr1 : Kd.C k63 w A1 l1.length l1) (hc1 : l1.length ≤ c1) (h : zt.f k l0 l1 = some r) :
  Calls Try.prog 87 #[.slice A0 l0.length c0, .slice A1 l1.length c1] w fun e w' => e = .returned (.int .i64 r) ∧ Below w.heap.size w w' := by
 have hu63 := Try.underlying63
 have HR0 := za.mk hr0
 have HC0 := za.mk hc0
 clear hr0 hc0
 have HR1 := za.mk hr1
 have HC1 := za.mk hc1
 clear hr1 hc1
 have HB := za.mk (Below.refl w.heap.size w)
 have H : (if (l1.length : Int) > 12 then (some 6) else (zt.l0 k l0 l1 l1 (l1.length : Int) 0)) = some r := h
 clear h
 by_cases c3 : (l1.length : Int) > 12
 ·rw [if_pos c3] at H
  have c3b0 : decide (12 < (l1.length : Int)) = true := decide_eq_true c3
  have c3b1 : decide (12 < l1.length) = true := decide_eq_true ql
  clear c3
  obtain rfl := Option.some.inj H
  go_enter Try.func87,Try.ntmps87
  go_wp2
  go_ret
  exact ⟨by first | rfl | (simp [zw,zx] <;> rfl) | (simp [*,zw,zx] <;> rfl),by repeat (first | (with_reducible first | exact HB.out | apply ze | apply zb | apply zg) | exact HB.out)⟩
 ·rw [if_neg c3] at H
  have c3b0 : decide (12 < (l1.length : Int)) = false := decide_eq_false c3
  have c3b1 : decide (12 < l1.length) = false := decide_eq_false ql
  clear c3
  have H' := za.mk H
  clear H
  go_enter Try.func87,Try.ntmps87
  go_wp2
  go_loopg [15] k (fun kq v15 w' => ∃ (x15_1 : Int),v15 = .int .i64 x15_1 ∧ za (zt.l0 kq l0 l1 l1 (l1.length : Int) x15_1 = some r) ∧ za (kq ≤ k) ∧ za (Below w.heap.size w w'))
  case atStart => exact ⟨(0),qm,H',⟨Nat.le_refl _⟩,⟨by repeat (first | (with_reducible first | exact HB.out | apply ze | apply zb | apply zg) | exact HB.out)⟩⟩
  case round =>
   clear H'
   try clear c1
   try clear p2
   try clear c3
   try clear c3b0
   try clear c3b1
   obtain ⟨x15_1,rfl,HA,HK1,HB⟩ := hrel
   cases gk with
   | zero => exact absurd HA.out (by simp [zt.l0])
   | succ k1 =>
    have H := HA.out
    clear HA
    simp only [zt.l0] at H
    by_cases c4 : x15_1 < (l1.length : Int)
    ·rw [if_pos c4] at H
     have c4b0 : decide (x15_1 < (l1.length : Int)) = true := decide_eq_true c4
     clear c4
     by_cases c5 : 0 ≤ x15_1
     ·rw [if_pos c5] at H
      have c5b0 : decide (0 ≤ x15_1) = true := decide_eq_true c5
      clear c5
      by_cases c6 : x15_1 < (l1.length : Int)
      ·rw [if_pos c6] at H
       have c6b0 : decide (x15_1 < (l1.length : Int)) = true := decide_eq_true c6
       clear c6
       have HC7 := za.mk H
       clear H
       have p117 : 0 ≤ (x15_1 : Int) := of_decide_eq_true qd
       have q117 : x15_1 < (l1.length : Int) := of_decide_eq_true qd
       obtain ⟨ad117,e117,hx117_0,hx117_1,hx117_2⟩ := zbb HR1.out x15_1 p117 q117
       cases e117
       replace hx117_0 := (HB.out.cell (World.block_lt_of_cell? w _ hx117_0)).trans hx117_0
       replace hx117_1 := (HB.out.cell (World.block_lt_of_cell? w _ hx117_1)).trans hx117_1
       replace hx117_2 := (HB.out.cell (World.block_lt_of_cell? w _ hx117_2)).trans hx117_2
       replace p117 := eq_true p117
       replace q117 := eq_true q117
       go_upto_region 6 with (first | ((with_reducible refine zaa (N := 6) rfl ?_); refine zao ?hg (N := 6) ?hd (cs := #[.int .i64 0, .int .i64 0, .string (⟨#[]⟩ : ByteArray)]) (t := 63) ?hr ?_; (case hd => rfl); (case hg => rfl); (case hr => exact qk); intro gb118 hg w8 hbox hb; have n0_ := za.mk (zo (qc HB.out) hb); have n1_ := za.mk (hbox); have n2_ := za.mk ((by rw [hg]; exact (zy (qc HB.out)) : w.heap.size ≤ gb118)); have n3_ := za.mk ((by rw [hg]; exact (zy (qc HB.out)) : w.heap.size ≤ gb118)); clear HB; have HB := n0_; have BK118 := n1_; have GW118 := n2_; have GE118 := n3_; clear n0_ n1_ n2_ n3_; clear hb hbox hg; have hcz9_0 : w8.cell? ⟨gb118,0,none⟩ = some (.int .i64 0) := (zf BK118.out 0).trans rfl; have hcz9_1 : w8.cell? ⟨gb118,1,none⟩ = some (.int .i64 0) := (zf BK118.out 1).trans rfl; have hcz9_2 : w8.cell? ⟨gb118,2,none⟩ = some (.string (⟨#[]⟩ : ByteArray)) := (zf BK118.out 2).trans rfl; have hfz9_0 := zn BK118.out 0; have hfz9_1 := zn BK118.out 1; have hfz9_2 := zn BK118.out 2))
       (try simp only [Act.put,List.setIfInBounds_toArray,List.set_cons_zero,List.set_cons_succ])
       go_cut [27] (fun v27 wc => ∃ (kq : Nat) (x27_6 : Bool),v27 = .bool x27_6 ∧ za (zt.j1 kq l0 l1 x15_1 l1 (l1.length : Int) x15_1 x27_6 ((zk l1 x15_1).f0) ((zk l1 x15_1).f1) ((zk l1 x15_1).f2) = some r) ∧ za (kq ≤ k1) ∧ za (wc.heap[gb118]? = some (.cells #[.int .i64 ((zk l1 x15_1).f0), .int .i64 ((zk l1 x15_1).f1), .string ((zk l1 x15_1).f2)] 63 (0,0))) ∧ za (Below w.heap.size w wc))
       case first =>
        have H := HC7.out
        clear HC7
        by_cases c10 : ((zk l1 x15_1).f0) < 1
        ·rw [if_pos c10] at H
         have c10b0 : decide (((zk l1 x15_1).f0) < 1) = true := decide_eq_true c10
         clear c10
         (first | rw [c10b0] | (simp only [zS,zT]; rw [c10b0]) | skip)
         have H' := za.mk H
         clear H
         have hcz11_0 : w8.cell? ⟨gb118,0,none⟩ = some (.int .i64 0) := (zf BK118.out 0).trans rfl
         have hcz11_1 : w8.cell? ⟨gb118,1,none⟩ = some (.int .i64 0) := (zf BK118.out 1).trans rfl
         have hcz11_2 : w8.cell? ⟨gb118,2,none⟩ = some (.string (⟨#[]⟩ : ByteArray)) := (zf BK118.out 2).trans rfl
         have hfz11_0 := zn BK118.out 0
         have hfz11_1 := zn BK118.out 1
         have hfz11_2 := zn BK118.out 2
         go_wp2
         go_meet
         case rel => exact ⟨_,(true),qm,H',⟨by have := HK1.out; first | omega | exact Nat.le_refl _⟩,⟨by (with_reducible repeat (first | refine zl ?_ _ | refine zm ?_ | refine zi ?_ _)); refine zV (cs := #[.int .i64 ((zk l1 x15_1).f0), .int .i64 ((zk l1 x15_1).f1), .string (⟨#[]⟩ : ByteArray)]) ?_ 2 _ rfl; (with_reducible repeat (first | refine zl ?_ _ | refine zm ?_ | refine zi ?_ _)); refine zV (cs := #[.int .i64 ((zk l1 x15_1).f0), .int .i64 0, .string (⟨#[]⟩ : ByteArray)]) ?_ 1 _ rfl; (with_reducible repeat (first | refine zl ?_ _ | refine zm ?_ | refine zi ?_ _)); refine zV (cs := #[.int .i64 0, .int .i64 0, .string (⟨#[]⟩ : ByteArray)]) ?_ 0 _ rfl; (with_reducible repeat (first | refine zl ?_ _ | refine zm ?_ | refine zi ?_ _)); exact BK118.out⟩,⟨by repeat (first | (with_reducible first | exact HB.out | apply ze | apply zb | apply zg | refine zh ?_ GE118.out) | exact HB.out)⟩⟩
        ·rw [if_neg c10] at H
         have c10b0 : decide (((zk l1 x15_1).f0) < 1) = false := decide_eq_false c10
         clear c10
         (first | rw [c10b0] | (simp only [zS,zT]; rw [c10b0]) | skip)
         have H' := za.mk H
         clear H
         have hcz12_0 : w8.cell? ⟨gb118,0,none⟩ = some (.int .i64 0) := (zf BK118.out 0).trans rfl
         have hcz12_1 : w8.cell? ⟨gb118,1,none⟩ = some (.int .i64 0) := (zf BK118.out 1).trans rfl
         have hcz12_2 : w8.cell? ⟨gb118,2,none⟩ = some (.string (⟨#[]⟩ : ByteArray)) := (zf BK118.out 2).trans rfl
         have hfz12_0 := zn BK118.out 0
         have hfz12_1 := zn BK118.out 1
         have hfz12_2 := zn BK118.out 2
         go_wp2
         go_meet
         case rel => exact ⟨_,(decide (((zk l1 x15_1).f0) > 3)),qm,H',⟨by have := HK1.out; first | omega | exact Nat.le_refl _⟩,⟨by (with_reducible repeat (first | refine zl ?_ _ | refine zm ?_ | refine zi ?_ _)); refine zV (cs := #[.int .i64 ((zk l1 x15_1).f0), .int .i64 ((zk l1 x15_1).f1), .string (⟨#[]⟩ : ByteArray)]) ?_ 2 _ rfl; (with_reducible repeat (first | refine zl ?_ _ | refine zm ?_ | refine zi ?_ _)); refine zV (cs := #[.int .i64 ((zk l1 x15_1).f0), .int .i64 0, .string (⟨#[]⟩ : ByteArray)]) ?_ 1 _ rfl; (with_reducible repeat (first | refine zl ?_ _ | refine zm ?_ | refine zi ?_ _)); refine zV (cs := #[.int .i64 0, .int .i64 0, .string (⟨#[]⟩ : ByteArray)]) ?_ 0 _ rfl; (with_reducible repeat (first | refine zl ?_ _ | refine zm ?_ | refine zi ?_ _)); exact BK118.out⟩,⟨by repeat (first | (with_reducible first | exact HB.out | apply ze | apply zb | apply zg | refine zh ?_ GE118.out) | exact HB.out)⟩⟩
       case rest =>
        clear HC7
        try clear c1
        try clear p1
        try clear q1
        try clear hx1
        try clear p2
        try clear c3
        try clear c3b0
        try clear c3b1
        try clear c4
        try clear c4b0
        try clear c5
        try clear c5b0
        try clear c6
        try clear c6b0
        try clear c8
        try clear c10
        try clear c10b0
        try clear p11
        try clear q11
        try clear hx11
        try clear hcz11_0
        try clear hcz11_1
        try clear hcz11_2
        try clear hcz12_0
        try clear hcz12_1
        try clear hcz12_2
        try clear hcz9_0
        try clear hcz9_1
        try clear hcz9_2
        try clear hfz11_0
        try clear hfz11_1
        try clear hfz11_2
        try clear hfz12_0
        try clear hfz12_1
        try clear hfz12_2
        try clear hfz9_0
        try clear hfz9_1
        try clear hfz9_2
        try clear hx117_0
        try clear hx117_1
        try clear hx117_2
        try clear p117
        try clear p2
        try clear q117
        obtain ⟨kq,x27_6,rfl,HA,HJ6,BK118,HB⟩ := hcut
        cases kq with
        | zero => exact absurd HA.out (by simp [zt.j1])
        | succ kj6 =>
         have H := HA.out
         clear HA
         simp only [zt.j1] at H
         by_cases c13 : x27_6 = true
         ·subst c13
          have H1 : (some 8) = some r := by rw [if_pos rfl] at H; exact H
          clear H
          have H := H1
          clear H1
          obtain rfl := Option.some.inj H
          go_wp2
          go_ret
          exact ⟨by first | rfl | (simp [zw,zx] <;> rfl) | (simp [*,zw,zx] <;> rfl),by repeat (first | (with_reducible first | exact HB.out | apply ze | apply zb | apply zg | refine zh ?_ GE118.out) | exact HB.out)⟩
         ·replace c13 := Bool.eq_false_iff.mpr c13
          subst c13
          have H1 : (if ((zk l1 x15_1).f0) = 1 then (zt.j2 kj6 l0 l1 x15_1 (wrap64 ((wrap64 ((l0.length : Int) - 1)) + 1)) l1 (l1.length : Int) x15_1 ((zk l1 x15_1).f0) ((zk l1 x15_1).f1) ((zk l1 x15_1).f2)) else (zt.j2 kj6 l0 l1 x15_1 (wrap64 ((l0.length : Int) - 1)) l1 (l1.length : Int) x15_1 ((zk l1 x15_1).f0) ((zk l1 x15_1).f1) ((zk l1 x15_1).f2))) = some r := by rw [if_neg (show ¬ (false = true) by decide)] at H; exact H
          clear H
          have H := H1
          clear H1
          have HC14 := za.mk H
          clear H
          have hcz15_0 : wc.cell? ⟨gb118,0,none⟩ = some (.int .i64 ((zk l1 x15_1).f0)) := (zf BK118.out 0).trans rfl
          have hcz15_1 : wc.cell? ⟨gb118,1,none⟩ = some (.int .i64 ((zk l1 x15_1).f1)) := (zf BK118.out 1).trans rfl
          have hcz15_2 : wc.cell? ⟨gb118,2,none⟩ = some (.string ((zk l1 x15_1).f2)) := (zf BK118.out 2).trans rfl
          have hfz15_0 := zn BK118.out 0
          have hfz15_1 := zn BK118.out 1
          have hfz15_2 := zn BK118.out 2
          go_upto_if 33 with (fail)
          go_cut [7] (fun v7 wc => ∃ (kq : Nat) (x7_13 : Int),v7 = .int .i64 x7_13 ∧ za (zt.j2 kq l0 l1 x15_1 x7_13 l1 (l1.length : Int) x15_1 ((zk l1 x15_1).f0) ((zk l1 x15_1).f1) ((zk l1 x15_1).f2) = some r) ∧ za (kq ≤ kj6) ∧ za (wc.heap[gb118]? = some (.cells #[.int .i64 ((zk l1 x15_1).f0), .int .i64 ((zk l1 x15_1).f1), .string ((zk l1 x15_1).f2)] 63 (0,0))) ∧ za (Below w.heap.size w wc))
          case first =>
           have H := HC14.out
           clear HC14
           by_cases c16 : ((zk l1 x15_1).f0) = 1
           ·rw [if_pos c16] at H
            have c16b0 : (((zk l1 x15_1).f0) == 1) = true := beq_iff_eq.mpr c16
            have c16b1 : (((zk l1 x15_1).f0) != 1) = false := bne_eq_false_iff_eq.mpr c16
            clear c16
            (first | rw [c16b0] | (simp only [zS,zT]; rw [c16b0]) | skip)
            have H' := za.mk H
            clear H
            go_wp2
            go_meet
            case rel => exact ⟨_,(wrap64 ((wrap64 ((l0.length : Int) - 1)) + 1)),qm,H',⟨by have := HK1.out; have := HJ6.out; first | omega | exact Nat.le_refl _⟩,⟨by (with_reducible repeat (first | refine zl ?_ _ | refine zm ?_ | refine zi ?_ _)); exact BK118.out⟩,⟨by repeat (first | (with_reducible first | exact HB.out | apply ze | apply zb | apply zg | refine zh ?_ GE118.out) | exact HB.out)⟩⟩
           ·rw [if_neg c16] at H
            have c16b0 : (((zk l1 x15_1).f0) == 1) = false := beq_eq_false_iff_ne.mpr c16
            have c16b1 : (((zk l1 x15_1).f0) != 1) = true := bne_iff_ne.mpr c16
            (first | rw [c16b0] | (simp only [zS,zT]; rw [c16b0]) | skip)
            have H' := za.mk H
            clear H
            go_wp2
            go_meet
            case rel => exact ⟨_,(wrap64 ((l0.length : Int) - 1)),qm,H',⟨by have := HK1.out; have := HJ6.out; first | omega | exact Nat.le_refl _⟩,⟨by (with_reducible repeat (first | refine zl ?_ _ | refine zm ?_ | refine zi ?_ _)); exact BK118.out⟩,⟨by repeat (first | (with_reducible first | exact HB.out | apply ze | apply zb | apply zg | refine zh ?_ GE118.out) | exact HB.out)⟩⟩
          case rest =>
           clear HC14
           try clear c1
           try clear p1
           try clear q1
           try clear hx1
           try clear p2
           try clear c3
           try clear c3b0
           try clear c3b1
           try clear c4
           try clear c4b0
           try clear c5
           try clear c5b0
           try clear c6
           try clear c6b0
           try clear p6
           try clear c8
           try clear c10
           try clear c10b0
           try clear p11
           try clear q11
           try clear hx11
           try clear c13
           try clear c16
           try clear c16b0
           try clear c16b1
           try clear hcz11_0
           try clear hcz11_1
           try clear hcz11_2
           try clear hcz12_0
           try clear hcz12_1
           try clear hcz12_2
           try clear hcz15_0
           try clear hcz15_1
           try clear hcz15_2
           try clear hcz9_0
           try clear hcz9_1
           try clear hcz9_2
           try clear hfz11_0
           try clear hfz11_1
           try clear hfz11_2
           try clear hfz12_0
           try clear hfz12_1
           try clear hfz12_2
           try clear hfz15_0
           try clear hfz15_1
           try clear hfz15_2
           try clear hfz9_0
           try clear hfz9_1
           try clear hfz9_2
           try clear hx117_0
           try clear hx117_1
           try clear hx117_2
           try clear p1
           try clear p11
           try clear p117
           try clear p2
           try clear q1
           try clear q11
           try clear q117
           obtain ⟨kq,x7_13,rfl,HA,HJ13,BK118,HB⟩ := hcut
           cases kq with
           | zero => exact absurd HA.out (by simp [zt.j2])
           | succ kj13 =>
            have H := HA.out
            clear HA
            simp only [zt.j2] at H
            have HC17 := za.mk H
            clear H
            go_upto_region 11 with (fail)
            go_cut [44] (fun v44 wc => ∃ (kq : Nat) (x44_16 : Bool),v44 = .bool x44_16 ∧ za (zt.j3 kq l0 l1 x15_1 l1 (l1.length : Int) x15_1 x44_16 ((zk l1 x15_1).f0) ((zk l1 x15_1).f1) ((zk l1 x15_1).f2) = some r) ∧ za (kq ≤ kj13) ∧ za (wc.heap[gb118]? = some (.cells #[.int .i64 ((zk l1 x15_1).f0), .int .i64 ((zk l1 x15_1).f1), .string ((zk l1 x15_1).f2)] 63 (0,0))) ∧ za (Below w.heap.size w wc))
            case first =>
             have H := HC17.out
             clear HC17
             by_cases c18 : ((zk l1 x15_1).f1) < 0
             ·rw [if_pos c18] at H
              have c18b0 : decide (((zk l1 x15_1).f1) < 0) = true := decide_eq_true c18
              clear c18
              (first | rw [c18b0] | (simp only [zS,zT]; rw [c18b0]) | skip)
              have H' := za.mk H
              clear H
              have hcz19_0 : wc.cell? ⟨gb118,0,none⟩ = some (.int .i64 ((zk l1 x15_1).f0)) := (zf BK118.out 0).trans rfl
              have hcz19_1 : wc.cell? ⟨gb118,1,none⟩ = some (.int .i64 ((zk l1 x15_1).f1)) := (zf BK118.out 1).trans rfl
              have hcz19_2 : wc.cell? ⟨gb118,2,none⟩ = some (.string ((zk l1 x15_1).f2)) := (zf BK118.out 2).trans rfl
              have hfz19_0 := zn BK118.out 0
              have hfz19_1 := zn BK118.out 1
              have hfz19_2 := zn BK118.out 2
              go_wp2
              go_meet
              case rel => exact ⟨_,(true),qm,H',⟨by have := HK1.out; have := HJ6.out; have := HJ13.out; first | omega | exact Nat.le_refl _⟩,⟨by (with_reducible repeat (first | refine zl ?_ _ | refine zm ?_ | refine zi ?_ _)); exact BK118.out⟩,⟨by repeat (first | (with_reducible first | exact HB.out | apply ze | apply zb | apply zg | refine zh ?_ GE118.out) | exact HB.out)⟩⟩
             ·rw [if_neg c18] at H
              have c18b0 : decide (((zk l1 x15_1).f1) < 0) = false := decide_eq_false c18
              clear c18
              (first | rw [c18b0] | (simp only [zS,zT]; rw [c18b0]) | skip)
              have H' := za.mk H
              clear H
              have hcz20_0 : wc.cell? ⟨gb118,0,none⟩ = some (.int .i64 ((zk l1 x15_1).f0)) := (zf BK118.out 0).trans rfl
              have hcz20_1 : wc.cell? ⟨gb118,1,none⟩ = some (.int .i64 ((zk l1 x15_1).f1)) := (zf BK118.out 1).trans rfl
              have hcz20_2 : wc.cell? ⟨gb118,2,none⟩ = some (.string ((zk l1 x15_1).f2)) := (zf BK118.out 2).trans rfl
              have hfz20_0 := zn BK118.out 0
              have hfz20_1 := zn BK118.out 1
              have hfz20_2 := zn BK118.out 2
              go_wp2
              go_meet
              case rel => exact ⟨_,(decide (((zk l1 x15_1).f1) > x7_13)),qm,H',⟨by have := HK1.out; have := HJ6.out; have := HJ13.out; first | omega | exact Nat.le_refl _⟩,⟨by (with_reducible repeat (first | refine zl ?_ _ | refine zm ?_ | refine zi ?_ _)); exact BK118.out⟩,⟨by repeat (first | (with_reducible first | exact HB.out | apply ze | apply zb | apply zg | refine zh ?_ GE118.out) | exact HB.out)⟩⟩
            case rest =>
             clear HC17
             try clear c1
             try clear p1
             try clear q1
             try clear hx1
             try clear p2
             try clear c3
             try clear c3b0
             try clear c3b1
             try clear c4
             try clear c4b0
             try clear c5
             try clear c5b0
             try clear c6
             try clear c6b0
             try clear p6
             try clear c8
             try clear c10
             try clear c10b0
             try clear p11
             try clear q11
             try clear hx11
             try clear c13
             try clear c16
             try clear c16b0
             try clear c16b1
             try clear c18
             try clear c18b0
             try clear hcz11_0
             try clear hcz11_1
             try clear hcz11_2
             try clear hcz12_0
             try clear hcz12_1
             try clear hcz12_2
             try clear hcz15_0
             try clear hcz15_1
             try clear hcz15_2
             try clear hcz19_0
             try clear hcz19_1
             try clear hcz19_2
             try clear hcz20_0
             try clear hcz20_1
             try clear hcz20_2
             try clear hcz9_0
             try clear hcz9_1
             try clear hcz9_2
             try clear hfz11_0
             try clear hfz11_1
             try clear hfz11_2
             try clear hfz12_0
             try clear hfz12_1
             try clear hfz12_2
             try clear hfz15_0
             try clear hfz15_1
             try clear hfz15_2
             try clear hfz19_0
             try clear hfz19_1
             try clear hfz19_2
             try clear hfz20_0
             try clear hfz20_1
             try clear hfz20_2
             try clear hfz9_0
             try clear hfz9_1
             try clear hfz9_2
             try clear hx117_0
             try clear hx117_1
             try clear hx117_2
             try clear p1
             try clear p11
             try clear p117
             try clear p2
             try clear p6
             try clear q1
             try clear q11
             try clear q117
             obtain ⟨kq,x44_16,rfl,HA,HJ16,BK118,HB⟩ := hcut
             cases kq with
             | zero => exact absurd HA.out (by simp [zt.j3])
             | succ kj16 =>
              have H := HA.out
              clear HA
              simp only [zt.j3] at H
              by_cases c21 : x44_16 = true
              ·subst c21
               have H1 : (some 3) = some r := by rw [if_pos rfl] at H; exact H
               clear H
               have H := H1
               clear H1
               obtain rfl := Option.some.inj H
               go_wp2
               go_ret
               exact ⟨by first | rfl | (simp [zw,zx] <;> rfl) | (simp [*,zw,zx] <;> rfl),by repeat (first | (with_reducible first | exact HB.out | apply ze | apply zb | apply zg | refine zh ?_ GE118.out) | exact HB.out)⟩
              ·replace c21 := Bool.eq_false_iff.mpr c21
               subst c21
               have H1 : ((za6.f ((zk l1 x15_1).f0) ((zk l1 x15_1).f1) ((zk l1 x15_1).f2)).bind fun t119 => (if t119 = 0 then (if x15_1 = 0 then (zt.l0 kj16 l0 l1 l1 (l1.length : Int) (wrap64 (x15_1 + 1))) else (if 0 ≤ (wrap64 (x15_1 - 1)) then (if (wrap64 (x15_1 - 1)) < (l1.length : Int) then (if ((zk l1 x15_1).f1) < ((zk l1 (wrap64 (x15_1 - 1))).f1) then (some 5) else (if ((zk l1 x15_1).f1) > ((zk l1 (wrap64 (x15_1 - 1))).f1) then (zt.j4 kj16 l0 l1 l1 (l1.length : Int) x15_1 true ((zk l1 x15_1).f0) ((zk l1 x15_1).f1) ((zk l1 x15_1).f2)) else (zt.j4 kj16 l0 l1 l1 (l1.length : Int) x15_1 (((zk l1 (wrap64 (x15_1 - 1))).f0) == 1) ((zk l1 x15_1).f0) ((zk l1 x15_1).f1) ((zk l1 x15_1).f2)))) else (none)) else (none))) else (some t119))) = some r := by rw [if_neg (show ¬ (false = true) by decide)] at H; exact H
               clear H
               have H := H1
               clear H1
               replace H := Option.bind_eq_some_iff.mp H
               obtain ⟨t119,A220,H⟩ := H
               replace H : (if t119 = 0 then (if x15_1 = 0 then (zt.l0 kj16 l0 l1 l1 (l1.length : Int) (wrap64 (x15_1 + 1))) else (if 0 ≤ (wrap64 (x15_1 - 1)) then (if (wrap64 (x15_1 - 1)) < (l1.length : Int) then (if ((zk l1 x15_1).f1) < ((zk l1 (wrap64 (x15_1 - 1))).f1) then (some 5) else (if ((zk l1 x15_1).f1) > ((zk l1 (wrap64 (x15_1 - 1))).f1) then (zt.j4 kj16 l0 l1 l1 (l1.length : Int) x15_1 true ((zk l1 x15_1).f0) ((zk l1 x15_1).f1) ((zk l1 x15_1).f2)) else (zt.j4 kj16 l0 l1 l1 (l1.length : Int) x15_1 (((zk l1 (wrap64 (x15_1 - 1))).f0) == 1) ((zk l1 x15_1).f0) ((zk l1 x15_1).f1) ((zk l1 x15_1).f2)))) else (none)) else (none))) else (some t119)) = some r := H
               have A22 := za.mk A220
               clear A220
               by_cases c23 : t119 = 0
               ·rw [if_pos c23] at H
                have c23b0 : (t119 == 0) = true := beq_iff_eq.mpr c23
                have c23b1 : (t119 != 0) = false := bne_eq_false_iff_eq.mpr c23
                clear c23
                by_cases c24 : x15_1 = 0
                ·rw [if_pos c24] at H
                 have c24b0 : (x15_1 == 0) = true := beq_iff_eq.mpr c24
                 have c24b1 : (x15_1 != 0) = false := bne_eq_false_iff_eq.mpr c24
                 clear c24
                 have H' := za.mk H
                 clear H
                 have hcz25_0 : wc.cell? ⟨gb118,0,none⟩ = some (.int .i64 ((zk l1 x15_1).f0)) := (zf BK118.out 0).trans rfl
                 have hcz25_1 : wc.cell? ⟨gb118,1,none⟩ = some (.int .i64 ((zk l1 x15_1).f1)) := (zf BK118.out 1).trans rfl
                 have hcz25_2 : wc.cell? ⟨gb118,2,none⟩ = some (.string ((zk l1 x15_1).f2)) := (zf BK118.out 2).trans rfl
                 have hfz25_0 := zn BK118.out 0
                 have hfz25_1 := zn BK118.out 1
                 have hfz25_2 := zn BK118.out 2
                 go_wp2_with (first | ((with_reducible refine zA (f := 109) rfl ?_); refine zW (some 46) rfl rfl Try.func109 qg rfl #[.agg #[.int .i64 ((zk l1 x15_1).f0), .int .i64 ((zk l1 x15_1).f1), .string ((zk l1 x15_1).f2)]] rfl qb ?_; (with_reducible refine (za6.calls ((zk l1 x15_1).f0) ((zk l1 x15_1).f1) ((zk l1 x15_1).f2) t119 _ A22.out).mono ?_); rintro e w26 ⟨rfl,hb⟩; refine ⟨_,rfl,?_⟩; have n0_ := za.mk (zu (g := gb118) (o := .cells #[.int .i64 ((zk l1 x15_1).f0), .int .i64 ((zk l1 x15_1).f1), .string ((zk l1 x15_1).f2)] 63 (0,0)) (qa BK118.out) hb); have n1_ := za.mk (zo (qf HB.out GE118.out) hb); clear BK118; clear HB; have BK118 := n0_; have HB := n1_; clear n0_ n1_; (try clear hb); (try clear hb2); (try clear hk); (try clear hi)))
                 go_roundg kj16
                 case measure => have := HK1.out; have := HJ6.out; have := HJ13.out; have := HJ16.out; omega
                 case rel => exact ⟨(wrap64 (x15_1 + 1)),qm,H',⟨by have := HK1.out; have := HJ6.out; have := HJ13.out; have := HJ16.out; omega⟩,⟨by repeat (first | (with_reducible first | exact HB.out | apply ze | apply zb | apply zg | refine zh ?_ GE118.out) | exact HB.out)⟩⟩
                ·rw [if_neg c24] at H
                 have c24b0 : (x15_1 == 0) = false := beq_eq_false_iff_ne.mpr c24
                 have c24b1 : (x15_1 != 0) = true := bne_iff_ne.mpr c24
                 obtain ⟨ji27,hji27⟩ : ∃ j_ : Int,(wrap64 (x15_1 - 1)) = j_ := ⟨_,rfl⟩
                 replace H : (if 0 ≤ (ji27) then (if (ji27) < (l1.length : Int) then (if ((zk l1 x15_1).f1) < ((zk l1 (ji27)).f1) then (some 5) else (if ((zk l1 x15_1).f1) > ((zk l1 (ji27)).f1) then (zt.j4 kj16 l0 l1 l1 (l1.length : Int) x15_1 true ((zk l1 x15_1).f0) ((zk l1 x15_1).f1) ((zk l1 x15_1).f2)) else (zt.j4 kj16 l0 l1 l1 (l1.length : Int) x15_1 (((zk l1 (ji27)).f0) == 1) ((zk l1 x15_1).f0) ((zk l1 x15_1).f1) ((zk l1 x15_1).f2)))) else (none)) else (none)) = some r := by first | (rw [hji27] at H; exact H) | (simp only [hji27] at H ⊢; exact H)
                 (try rw [hji27] at A22)
                 have hji27w : (IntKind.i64.wrap (x15_1 - 1)) = ji27 := (zS _).trans hji27
                 by_cases c28 : 0 ≤ (ji27)
                 ·rw [if_pos c28] at H
                  have c28b0 : decide (0 ≤ (ji27)) = true := decide_eq_true c28
                  clear c28
                  by_cases c29 : (ji27) < (l1.length : Int)
                  ·rw [if_pos c29] at H
                   have c29b0 : decide ((ji27) < (l1.length : Int)) = true := decide_eq_true c29
                   clear c29
                   by_cases c30 : ((zk l1 x15_1).f1) < ((zk l1 (ji27)).f1)
                   ·rw [if_pos c30] at H
                    have c30b0 : decide (((zk l1 x15_1).f1) < ((zk l1 (ji27)).f1)) = true := decide_eq_true c30
                    clear c30
                    obtain rfl := Option.some.inj H
                    have hcz31_0 : wc.cell? ⟨gb118,0,none⟩ = some (.int .i64 ((zk l1 x15_1).f0)) := (zf BK118.out 0).trans rfl
                    have hcz31_1 : wc.cell? ⟨gb118,1,none⟩ = some (.int .i64 ((zk l1 x15_1).f1)) := (zf BK118.out 1).trans rfl
                    have hcz31_2 : wc.cell? ⟨gb118,2,none⟩ = some (.string ((zk l1 x15_1).f2)) := (zf BK118.out 2).trans rfl
                    have hfz31_0 := zn BK118.out 0
                    have hfz31_1 := zn BK118.out 1
                    have hfz31_2 := zn BK118.out 2
                    go_wp2_with (first | ((with_reducible refine zA (f := 109) rfl ?_); refine zW (some 46) rfl rfl Try.func109 qg rfl #[.agg #[.int .i64 ((zk l1 x15_1).f0), .int .i64 ((zk l1 x15_1).f1), .string ((zk l1 x15_1).f2)]] rfl qb ?_; (with_reducible refine (za6.calls ((zk l1 x15_1).f0) ((zk l1 x15_1).f1) ((zk l1 x15_1).f2) t119 _ A22.out).mono ?_); rintro e w32 ⟨rfl,hb⟩; refine ⟨_,rfl,?_⟩; have n0_ := za.mk (zu (g := gb118) (o := .cells #[.int .i64 ((zk l1 x15_1).f0), .int .i64 ((zk l1 x15_1).f1), .string ((zk l1 x15_1).f2)] 63 (0,0)) (qa BK118.out) hb); have n1_ := za.mk (zo (qf HB.out GE118.out) hb); clear BK118; clear HB; have BK118 := n0_; have HB := n1_; clear n0_ n1_; (try clear hb); (try clear hb2); (try clear hk); (try clear hi); have p120 : 0 ≤ ((ji27) : Int) := of_decide_eq_true qd; have q120 : (ji27) < (l1.length : Int) := of_decide_eq_true qd; obtain ⟨ad120,e120,hx120_0,hx120_1,hx120_2⟩ := zbb HR1.out (ji27) p120 q120; obtain rfl : ad117 = ad120 := (by injection e120); replace hx120_0 := (HB.out.cell (World.block_lt_of_cell? w _ hx120_0)).trans hx120_0; replace hx120_1 := (HB.out.cell (World.block_lt_of_cell? w _ hx120_1)).trans hx120_1; replace hx120_2 := (HB.out.cell (World.block_lt_of_cell? w _ hx120_2)).trans hx120_2; replace p120 := eq_true p120; replace q120 := eq_true q120) | ((with_reducible refine zaa (N := 9) rfl ?_); refine zao ?hg (N := 9) ?hd (cs := #[.int .i64 0, .int .i64 0, .string (⟨#[]⟩ : ByteArray)]) (t := 63) ?hr ?_; (case hd => rfl); (case hg => rfl); (case hr => exact qk); intro gb121 hg w33 hbox hb; have n0_ := za.mk (zu (g := gb118) (o := .cells #[.int .i64 ((zk l1 x15_1).f0), .int .i64 ((zk l1 x15_1).f1), .string ((zk l1 x15_1).f2)] 63 (0,0)) (qa BK118.out) hb); have n1_ := za.mk (zo (qf HB.out GE118.out) hb); have n2_ := za.mk (hbox); have n3_ := za.mk ((by rw [hg]; exact (zy (qf HB.out GE118.out)) : w.heap.size ≤ gb121)); have n4_ := za.mk ((by rw [hg]; exact (zy (qf HB.out GE118.out)) : w.heap.size ≤ gb121)); have n5_ := za.mk ((by rw [hg]; exact Nat.ne_of_lt (zR (g := gb118) (o := .cells #[.int .i64 ((zk l1 x15_1).f0), .int .i64 ((zk l1 x15_1).f1), .string ((zk l1 x15_1).f2)] 63 (0,0)) (qa BK118.out)) : gb118 ≠ gb121)); have n6_ := za.mk ((by rw [hg]; exact Nat.ne_of_gt (zR (g := gb118) (o := .cells #[.int .i64 ((zk l1 x15_1).f0), .int .i64 ((zk l1 x15_1).f1), .string ((zk l1 x15_1).f2)] 63 (0,0)) (qa BK118.out)) : gb121 ≠ gb118)); clear BK118; clear HB; have BK118 := n0_; have HB := n1_; have BK121 := n2_; have GW121 := n3_; have GE121 := n4_; have NB118_121 := n5_; have NB121_118 := n6_; clear n0_ n1_ n2_ n3_ n4_ n5_ n6_; clear hb hbox hg; have hnb34 := NB121_118.out; have hnc34 := NB118_121.out; have hcz35_0 : w33.cell? ⟨gb121,0,none⟩ = some (.int .i64 0) := (zf BK121.out 0).trans rfl; have hcz35_1 : w33.cell? ⟨gb121,1,none⟩ = some (.int .i64 0) := (zf BK121.out 1).trans rfl; have hcz35_2 : w33.cell? ⟨gb121,2,none⟩ = some (.string (⟨#[]⟩ : ByteArray)) := (zf BK121.out 2).trans rfl; have hfz35_0 := zn BK121.out 0; have hfz35_1 := zn BK121.out 1; have hfz35_2 := zn BK121.out 2; have hcz36_0 : w33.cell? ⟨gb118,0,none⟩ = some (.int .i64 ((zk l1 x15_1).f0)) := (zf BK118.out 0).trans rfl; have hcz36_1 : w33.cell? ⟨gb118,1,none⟩ = some (.int .i64 ((zk l1 x15_1).f1)) := (zf BK118.out 1).trans rfl; have hcz36_2 : w33.cell? ⟨gb118,2,none⟩ = some (.string ((zk l1 x15_1).f2)) := (zf BK118.out 2).trans rfl; have hfz36_0 := zn BK118.out 0; have hfz36_1 := zn BK118.out 1; have hfz36_2 := zn BK118.out 2))
                    go_ret
                    exact ⟨by first | rfl | (simp [zw,zx] <;> rfl) | (simp only [← hji27]; first | rfl | (simp [zw,zx] <;> rfl)) | (simp [*,zw,zx] <;> rfl),by repeat (first | (with_reducible first | exact HB.out | apply ze | apply zb | apply zg | refine zh ?_ GE118.out | refine zh ?_ GE121.out) | exact HB.out)⟩
                   ·rw [if_neg c30] at H
                    have c30b0 : decide (((zk l1 x15_1).f1) < ((zk l1 (ji27)).f1)) = false := decide_eq_false c30
                    clear c30
                    have HC37 := za.mk H
                    clear H
                    have hcz38_0 : wc.cell? ⟨gb118,0,none⟩ = some (.int .i64 ((zk l1 x15_1).f0)) := (zf BK118.out 0).trans rfl
                    have hcz38_1 : wc.cell? ⟨gb118,1,none⟩ = some (.int .i64 ((zk l1 x15_1).f1)) := (zf BK118.out 1).trans rfl
                    have hcz38_2 : wc.cell? ⟨gb118,2,none⟩ = some (.string ((zk l1 x15_1).f2)) := (zf BK118.out 2).trans rfl
                    have hfz38_0 := zn BK118.out 0
                    have hfz38_1 := zn BK118.out 1
                    have hfz38_2 := zn BK118.out 2
                    go_upto_region 21 with (first | ((with_reducible refine zA (f := 109) rfl ?_); refine zW (some 46) rfl rfl Try.func109 qg rfl #[.agg #[.int .i64 ((zk l1 x15_1).f0), .int .i64 ((zk l1 x15_1).f1), .string ((zk l1 x15_1).f2)]] rfl qb ?_; (with_reducible refine (za6.calls ((zk l1 x15_1).f0) ((zk l1 x15_1).f1) ((zk l1 x15_1).f2) t119 _ A22.out).mono ?_); rintro e w39 ⟨rfl,hb⟩; refine ⟨_,rfl,?_⟩; have n0_ := za.mk (zu (g := gb118) (o := .cells #[.int .i64 ((zk l1 x15_1).f0), .int .i64 ((zk l1 x15_1).f1), .string ((zk l1 x15_1).f2)] 63 (0,0)) (qa BK118.out) hb); have n1_ := za.mk (zo (qf HB.out GE118.out) hb); clear BK118; clear HB; have BK118 := n0_; have HB := n1_; clear n0_ n1_; (try clear hb); (try clear hb2); (try clear hk); (try clear hi); have p120 : 0 ≤ ((ji27) : Int) := of_decide_eq_true qd; have q120 : (ji27) < (l1.length : Int) := of_decide_eq_true qd; obtain ⟨ad120,e120,hx120_0,hx120_1,hx120_2⟩ := zbb HR1.out (ji27) p120 q120; obtain rfl : ad117 = ad120 := (by injection e120); replace hx120_0 := (HB.out.cell (World.block_lt_of_cell? w _ hx120_0)).trans hx120_0; replace hx120_1 := (HB.out.cell (World.block_lt_of_cell? w _ hx120_1)).trans hx120_1; replace hx120_2 := (HB.out.cell (World.block_lt_of_cell? w _ hx120_2)).trans hx120_2; replace p120 := eq_true p120; replace q120 := eq_true q120) | ((with_reducible refine zaa (N := 9) rfl ?_); refine zao ?hg (N := 9) ?hd (cs := #[.int .i64 0, .int .i64 0, .string (⟨#[]⟩ : ByteArray)]) (t := 63) ?hr ?_; (case hd => rfl); (case hg => rfl); (case hr => exact qk); intro gb121 hg w40 hbox hb; have n0_ := za.mk (zu (g := gb118) (o := .cells #[.int .i64 ((zk l1 x15_1).f0), .int .i64 ((zk l1 x15_1).f1), .string ((zk l1 x15_1).f2)] 63 (0,0)) (qa BK118.out) hb); have n1_ := za.mk (zo (qf HB.out GE118.out) hb); have n2_ := za.mk (hbox); have n3_ := za.mk ((by rw [hg]; exact (zy (qf HB.out GE118.out)) : w.heap.size ≤ gb121)); have n4_ := za.mk ((by rw [hg]; exact (zy (qf HB.out GE118.out)) : w.heap.size ≤ gb121)); have n5_ := za.mk ((by rw [hg]; exact Nat.ne_of_lt (zR (g := gb118) (o := .cells #[.int .i64 ((zk l1 x15_1).f0), .int .i64 ((zk l1 x15_1).f1), .string ((zk l1 x15_1).f2)] 63 (0,0)) (qa BK118.out)) : gb118 ≠ gb121)); have n6_ := za.mk ((by rw [hg]; exact Nat.ne_of_gt (zR (g := gb118) (o := .cells #[.int .i64 ((zk l1 x15_1).f0), .int .i64 ((zk l1 x15_1).f1), .string ((zk l1 x15_1).f2)] 63 (0,0)) (qa BK118.out)) : gb121 ≠ gb118)); clear BK118; clear HB; have BK118 := n0_; have HB := n1_; have BK121 := n2_; have GW121 := n3_; have GE121 := n4_; have NB118_121 := n5_; have NB121_118 := n6_; clear n0_ n1_ n2_ n3_ n4_ n5_ n6_; clear hb hbox hg; have hnb41 := NB121_118.out; have hnc41 := NB118_121.out; have hcz42_0 : w40.cell? ⟨gb121,0,none⟩ = some (.int .i64 0) := (zf BK121.out 0).trans rfl; have hcz42_1 : w40.cell? ⟨gb121,1,none⟩ = some (.int .i64 0) := (zf BK121.out 1).trans rfl; have hcz42_2 : w40.cell? ⟨gb121,2,none⟩ = some (.string (⟨#[]⟩ : ByteArray)) := (zf BK121.out 2).trans rfl; have hfz42_0 := zn BK121.out 0; have hfz42_1 := zn BK121.out 1; have hfz42_2 := zn BK121.out 2; have hcz43_0 : w40.cell? ⟨gb118,0,none⟩ = some (.int .i64 ((zk l1 x15_1).f0)) := (zf BK118.out 0).trans rfl; have hcz43_1 : w40.cell? ⟨gb118,1,none⟩ = some (.int .i64 ((zk l1 x15_1).f1)) := (zf BK118.out 1).trans rfl; have hcz43_2 : w40.cell? ⟨gb118,2,none⟩ = some (.string ((zk l1 x15_1).f2)) := (zf BK118.out 2).trans rfl; have hfz43_0 := zn BK118.out 0; have hfz43_1 := zn BK118.out 1; have hfz43_2 := zn BK118.out 2))
                    (try simp only [Act.put,List.setIfInBounds_toArray,List.set_cons_zero,List.set_cons_succ])
                    go_cut [63] (fun v63 wc => ∃ (kq : Nat) (x63_36 : Bool),v63 = .bool x63_36 ∧ za (zt.j4 kq l0 l1 l1 (l1.length : Int) x15_1 x63_36 ((zk l1 x15_1).f0) ((zk l1 x15_1).f1) ((zk l1 x15_1).f2) = some r) ∧ za (kq ≤ kj16) ∧ za (wc.heap[gb118]? = some (.cells #[.int .i64 ((zk l1 x15_1).f0), .int .i64 ((zk l1 x15_1).f1), .string ((zk l1 x15_1).f2)] 63 (0,0))) ∧ za (wc.heap[gb121]? = some (.cells #[.int .i64 ((zk l1 (ji27)).f0), .int .i64 ((zk l1 (ji27)).f1), .string ((zk l1 (ji27)).f2)] 63 (0,0))) ∧ za (Below w.heap.size w wc))
                    case first =>
                     have H := HC37.out
                     clear HC37
                     by_cases c44 : ((zk l1 x15_1).f1) > ((zk l1 (ji27)).f1)
                     ·rw [if_pos c44] at H
                      have c44b0 : decide (((zk l1 (ji27)).f1) < ((zk l1 x15_1).f1)) = true := decide_eq_true c44
                      clear c44
                      (first | rw [c44b0] | (simp only [zS,zT]; rw [c44b0]) | skip)
                      have H' := za.mk H
                      clear H
                      have hnb45 := NB118_121.out
                      have hnc45 := NB121_118.out
                      have hcz46_0 : w40.cell? ⟨gb118,0,none⟩ = some (.int .i64 ((zk l1 x15_1).f0)) := (zf BK118.out 0).trans rfl
                      have hcz46_1 : w40.cell? ⟨gb118,1,none⟩ = some (.int .i64 ((zk l1 x15_1).f1)) := (zf BK118.out 1).trans rfl
                      have hcz46_2 : w40.cell? ⟨gb118,2,none⟩ = some (.string ((zk l1 x15_1).f2)) := (zf BK118.out 2).trans rfl
                      have hfz46_0 := zn BK118.out 0
                      have hfz46_1 := zn BK118.out 1
                      have hfz46_2 := zn BK118.out 2
                      have hcz47_0 : w40.cell? ⟨gb121,0,none⟩ = some (.int .i64 0) := (zf BK121.out 0).trans rfl
                      have hcz47_1 : w40.cell? ⟨gb121,1,none⟩ = some (.int .i64 0) := (zf BK121.out 1).trans rfl
                      have hcz47_2 : w40.cell? ⟨gb121,2,none⟩ = some (.string (⟨#[]⟩ : ByteArray)) := (zf BK121.out 2).trans rfl
                      have hfz47_0 := zn BK121.out 0
                      have hfz47_1 := zn BK121.out 1
                      have hfz47_2 := zn BK121.out 2
                      go_wp2
                      go_meet
                      case rel => exact ⟨_,(true),qm,H',⟨by have := HK1.out; have := HJ6.out; have := HJ13.out; have := HJ16.out; first | omega | exact Nat.le_refl _⟩,⟨by (with_reducible repeat (first | refine zl ?_ _ | refine zm ?_ | refine zi ?_ _)); refine zav ?_ NB118_121.out _; (with_reducible repeat (first | refine zl ?_ _ | refine zm ?_ | refine zi ?_ _)); refine zav ?_ NB118_121.out _; (with_reducible repeat (first | refine zl ?_ _ | refine zm ?_ | refine zi ?_ _)); refine zav ?_ NB118_121.out _; (with_reducible repeat (first | refine zl ?_ _ | refine zm ?_ | refine zi ?_ _)); exact BK118.out⟩,⟨by (with_reducible repeat (first | refine zl ?_ _ | refine zm ?_ | refine zi ?_ _)); refine zV (cs := #[.int .i64 ((zk l1 (ji27)).f0), .int .i64 ((zk l1 (ji27)).f1), .string (⟨#[]⟩ : ByteArray)]) ?_ 2 _ rfl; (with_reducible repeat (first | refine zl ?_ _ | refine zm ?_ | refine zi ?_ _)); refine zV (cs := #[.int .i64 ((zk l1 (ji27)).f0), .int .i64 0, .string (⟨#[]⟩ : ByteArray)]) ?_ 1 _ rfl; (with_reducible repeat (first | refine zl ?_ _ | refine zm ?_ | refine zi ?_ _)); refine zV (cs := #[.int .i64 0, .int .i64 0, .string (⟨#[]⟩ : ByteArray)]) ?_ 0 _ rfl; (with_reducible repeat (first | refine zl ?_ _ | refine zm ?_ | refine zi ?_ _)); exact BK121.out⟩,⟨by repeat (first | (with_reducible first | exact HB.out | apply ze | apply zb | apply zg | refine zh ?_ GE118.out | refine zh ?_ GE121.out) | exact HB.out)⟩⟩
                     ·rw [if_neg c44] at H
                      have c44b0 : decide (((zk l1 (ji27)).f1) < ((zk l1 x15_1).f1)) = false := decide_eq_false c44
                      clear c44
                      (first | rw [c44b0] | (simp only [zS,zT]; rw [c44b0]) | skip)
                      have H' := za.mk H
                      clear H
                      have hnb48 := NB118_121.out
                      have hnc48 := NB121_118.out
                      have hcz49_0 : w40.cell? ⟨gb118,0,none⟩ = some (.int .i64 ((zk l1 x15_1).f0)) := (zf BK118.out 0).trans rfl
                      have hcz49_1 : w40.cell? ⟨gb118,1,none⟩ = some (.int .i64 ((zk l1 x15_1).f1)) := (zf BK118.out 1).trans rfl
                      have hcz49_2 : w40.cell? ⟨gb118,2,none⟩ = some (.string ((zk l1 x15_1).f2)) := (zf BK118.out 2).trans rfl
                      have hfz49_0 := zn BK118.out 0
                      have hfz49_1 := zn BK118.out 1
                      have hfz49_2 := zn BK118.out 2
                      have hcz50_0 : w40.cell? ⟨gb121,0,none⟩ = some (.int .i64 0) := (zf BK121.out 0).trans rfl
                      have hcz50_1 : w40.cell? ⟨gb121,1,none⟩ = some (.int .i64 0) := (zf BK121.out 1).trans rfl
                      have hcz50_2 : w40.cell? ⟨gb121,2,none⟩ = some (.string (⟨#[]⟩ : ByteArray)) := (zf BK121.out 2).trans rfl
                      have hfz50_0 := zn BK121.out 0
                      have hfz50_1 := zn BK121.out 1
                      have hfz50_2 := zn BK121.out 2
                      go_wp2
                      go_meet
                      case rel => exact ⟨_,((((zk l1 (ji27)).f0) == 1)),(by first | rfl | (simp; done) | (simp only [← hji27] <;> (first | rfl | simp)) | (simp [*]; done)),H',⟨by have := HK1.out; have := HJ6.out; have := HJ13.out; have := HJ16.out; first | omega | exact Nat.le_refl _⟩,⟨by (with_reducible repeat (first | refine zl ?_ _ | refine zm ?_ | refine zi ?_ _)); refine zav ?_ NB118_121.out _; (with_reducible repeat (first | refine zl ?_ _ | refine zm ?_ | refine zi ?_ _)); refine zav ?_ NB118_121.out _; (with_reducible repeat (first | refine zl ?_ _ | refine zm ?_ | refine zi ?_ _)); refine zav ?_ NB118_121.out _; (with_reducible repeat (first | refine zl ?_ _ | refine zm ?_ | refine zi ?_ _)); exact BK118.out⟩,⟨by (with_reducible repeat (first | refine zl ?_ _ | refine zm ?_ | refine zi ?_ _)); refine zV (cs := #[.int .i64 ((zk l1 (ji27)).f0), .int .i64 ((zk l1 (ji27)).f1), .string (⟨#[]⟩ : ByteArray)]) ?_ 2 _ rfl; (with_reducible repeat (first | refine zl ?_ _ | refine zm ?_ | refine zi ?_ _)); refine zV (cs := #[.int .i64 ((zk l1 (ji27)).f0), .int .i64 0, .string (⟨#[]⟩ : ByteArray)]) ?_ 1 _ rfl; (with_reducible repeat (first | refine zl ?_ _ | refine zm ?_ | refine zi ?_ _)); refine zV (cs := #[.int .i64 0, .int .i64 0, .string (⟨#[]⟩ : ByteArray)]) ?_ 0 _ rfl; (with_reducible repeat (first | refine zl ?_ _ | refine zm ?_ | refine zi ?_ _)); exact BK121.out⟩,⟨by repeat (first | (with_reducible first | exact HB.out | apply ze | apply zb | apply zg | refine zh ?_ GE118.out | refine zh ?_ GE121.out) | exact HB.out)⟩⟩
                    case rest =>
                     clear HC37
                     try clear c1
                     try clear p1
                     try clear q1
                     try clear hx1
                     try clear c2
                     try clear p2
                     try clear c3
                     try clear c3b0
                     try clear c3b1
                     try clear c4
                     try clear c4b0
                     try clear c5
                     try clear c5b0
                     try clear c6
                     try clear c6b0
                     try clear p6
                     try clear c8
                     try clear c10
                     try clear c10b0
                     try clear p11
                     try clear q11
                     try clear hx11
                     try clear p12
                     try clear q12
                     try clear hx12
                     try clear c13
                     try clear c16
                     try clear c16b0
                     try clear c16b1
                     try clear c18
                     try clear c18b0
                     try clear c21
                     try clear c23
                     try clear c23b0
                     try clear c23b1
                     try clear c24
                     try clear c24b0
                     try clear c24b1
                     try clear c28
                     try clear c28b0
                     try clear c29
                     try clear c29b0
                     try clear c30
                     try clear c30b0
                     try clear c34
                     try clear c41
                     try clear c44
                     try clear c44b0
                     try clear c45
                     try clear c48
                     try clear hcz11_0
                     try clear hcz11_1
                     try clear hcz11_2
                     try clear hcz12_0
                     try clear hcz12_1
                     try clear hcz12_2
                     try clear hcz15_0
                     try clear hcz15_1
                     try clear hcz15_2
                     try clear hcz19_0
                     try clear hcz19_1
                     try clear hcz19_2
                     try clear hcz20_0
                     try clear hcz20_1
                     try clear hcz20_2
                     try clear hcz25_0
                     try clear hcz25_1
                     try clear hcz25_2
                     try clear hcz31_0
                     try clear hcz31_1
                     try clear hcz31_2
                     try clear hcz35_0
                     try clear hcz35_1
                     try clear hcz35_2
                     try clear hcz36_0
                     try clear hcz36_1
                     try clear hcz36_2
                     try clear hcz38_0
                     try clear hcz38_1
                     try clear hcz38_2
                     try clear hcz42_0
                     try clear hcz42_1
                     try clear hcz42_2
                     try clear hcz43_0
                     try clear hcz43_1
                     try clear hcz43_2
                     try clear hcz46_0
                     try clear hcz46_1
                     try clear hcz46_2
                     try clear hcz47_0
                     try clear hcz47_1
                     try clear hcz47_2
                     try clear hcz49_0
                     try clear hcz49_1
                     try clear hcz49_2
                     try clear hcz50_0
                     try clear hcz50_1
                     try clear hcz50_2
                     try clear hcz9_0
                     try clear hcz9_1
                     try clear hcz9_2
                     try clear hfz11_0
                     try clear hfz11_1
                     try clear hfz11_2
                     try clear hfz12_0
                     try clear hfz12_1
                     try clear hfz12_2
                     try clear hfz15_0
                     try clear hfz15_1
                     try clear hfz15_2
                     try clear hfz19_0
                     try clear hfz19_1
                     try clear hfz19_2
                     try clear hfz20_0
                     try clear hfz20_1
                     try clear hfz20_2
                     try clear hfz25_0
                     try clear hfz25_1
                     try clear hfz25_2
                     try clear hfz31_0
                     try clear hfz31_1
                     try clear hfz31_2
                     try clear hfz35_0
                     try clear hfz35_1
                     try clear hfz35_2
                     try clear hfz36_0
                     try clear hfz36_1
                     try clear hfz36_2
                     try clear hfz38_0
                     try clear hfz38_1
                     try clear hfz38_2
                     try clear hfz42_0
                     try clear hfz42_1
                     try clear hfz42_2
                     try clear hfz43_0
                     try clear hfz43_1
                     try clear hfz43_2
                     try clear hfz46_0
                     try clear hfz46_1
                     try clear hfz46_2
                     try clear hfz47_0
                     try clear hfz47_1
                     try clear hfz47_2
                     try clear hfz49_0
                     try clear hfz49_1
                     try clear hfz49_2
                     try clear hfz50_0
                     try clear hfz50_1
                     try clear hfz50_2
                     try clear hfz9_0
                     try clear hfz9_1
                     try clear hfz9_2
                     try clear hx117_0
                     try clear hx117_1
                     try clear hx117_2
                     try clear hx120_0
                     try clear hx120_1
                     try clear hx120_2
                     try clear p1
                     try clear p11
                     try clear p117
                     try clear p120
                     try clear p2
                     try clear p6
                     try clear q1
                     try clear q11
                     try clear q117
                     try clear q120
                     obtain ⟨kq,x63_36,rfl,HA,HJ36,BK118,BK121,HB⟩ := hcut
                     cases kq with
                     | zero => exact absurd HA.out (by simp [zt.j4])
                     | succ kj36 =>
                      have H := HA.out
                      clear HA
                      simp only [zt.j4] at H
                      by_cases c51 : x63_36 = true
                      ·subst c51
                       have H1 : (zt.l0 kj36 l0 l1 l1 (l1.length : Int) (wrap64 (x15_1 + 1))) = some r := by rw [if_pos rfl] at H; exact H
                       clear H
                       have H := H1
                       clear H1
                       have H' := za.mk H
                       clear H
                       go_wp2
                       go_roundg kj36
                       case measure => have := HK1.out; have := HJ6.out; have := HJ13.out; have := HJ16.out; have := HJ36.out; omega
                       case rel => exact ⟨(wrap64 (x15_1 + 1)),qm,H',⟨by have := HK1.out; have := HJ6.out; have := HJ13.out; have := HJ16.out; have := HJ36.out; omega⟩,⟨by repeat (first | (with_reducible first | exact HB.out | apply ze | apply zb | apply zg | refine zh ?_ GE118.out | refine zh ?_ GE121.out) | exact HB.out)⟩⟩
                      ·replace c51 := Bool.eq_false_iff.mpr c51
                       subst c51
                       have H1 : (if ((zk l1 x15_1).f0) = 1 then (some 5) else (some 4)) = some r := by rw [if_neg (show ¬ (false = true) by decide)] at H; exact H
                       clear H
                       have H := H1
                       clear H1
                       by_cases c52 : ((zk l1 x15_1).f0) = 1
                       ·rw [if_pos c52] at H
                        have c52b0 : (((zk l1 x15_1).f0) == 1) = true := beq_iff_eq.mpr c52
                        have c52b1 : (((zk l1 x15_1).f0) != 1) = false := bne_eq_false_iff_eq.mpr c52
                        clear c52
                        obtain rfl := Option.some.inj H
                        have hnb53 := NB118_121.out
                        have hnc53 := NB121_118.out
                        have hcz54_0 : wc.cell? ⟨gb118,0,none⟩ = some (.int .i64 ((zk l1 x15_1).f0)) := (zf BK118.out 0).trans rfl
                        have hcz54_1 : wc.cell? ⟨gb118,1,none⟩ = some (.int .i64 ((zk l1 x15_1).f1)) := (zf BK118.out 1).trans rfl
                        have hcz54_2 : wc.cell? ⟨gb118,2,none⟩ = some (.string ((zk l1 x15_1).f2)) := (zf BK118.out 2).trans rfl
                        have hfz54_0 := zn BK118.out 0
                        have hfz54_1 := zn BK118.out 1
                        have hfz54_2 := zn BK118.out 2
                        go_wp2
                        go_ret
                        exact ⟨by first | rfl | (simp [zw,zx] <;> rfl) | (simp only [← hji27]; first | rfl | (simp [zw,zx] <;> rfl)) | (simp [*,zw,zx] <;> rfl),by repeat (first | (with_reducible first | exact HB.out | apply ze | apply zb | apply zg | refine zh ?_ GE118.out | refine zh ?_ GE121.out) | exact HB.out)⟩
                       ·rw [if_neg c52] at H
                        have c52b0 : (((zk l1 x15_1).f0) == 1) = false := beq_eq_false_iff_ne.mpr c52
                        have c52b1 : (((zk l1 x15_1).f0) != 1) = true := bne_iff_ne.mpr c52
                        obtain rfl := Option.some.inj H
                        have hnb55 := NB118_121.out
                        have hnc55 := NB121_118.out
                        have hcz56_0 : wc.cell? ⟨gb118,0,none⟩ = some (.int .i64 ((zk l1 x15_1).f0)) := (zf BK118.out 0).trans rfl
                        have hcz56_1 : wc.cell? ⟨gb118,1,none⟩ = some (.int .i64 ((zk l1 x15_1).f1)) := (zf BK118.out 1).trans rfl
                        have hcz56_2 : wc.cell? ⟨gb118,2,none⟩ = some (.string ((zk l1 x15_1).f2)) := (zf BK118.out 2).trans rfl
                        have hfz56_0 := zn BK118.out 0
                        have hfz56_1 := zn BK118.out 1
                        have hfz56_2 := zn BK118.out 2
                        go_wp2
                        go_ret
                        exact ⟨by first | rfl | (simp [zw,zx] <;> rfl) | (simp only [← hji27]; first | rfl | (simp [zw,zx] <;> rfl)) | (simp [*,zw,zx] <;> rfl),by repeat (first | (with_reducible first | exact HB.out | apply ze | apply zb | apply zg | refine zh ?_ GE118.out | refine zh ?_ GE121.out) | exact HB.out)⟩
                  ·rw [if_neg c29] at H
                   exact absurd H qC
                 ·rw [if_neg c28] at H
                  exact absurd H qC
               ·rw [if_neg c23] at H
                have c23b0 : (t119 == 0) = false := beq_eq_false_iff_ne.mpr c23
                have c23b1 : (t119 != 0) = true := bne_iff_ne.mpr c23
                obtain rfl := Option.some.inj H
                have hcz57_0 : wc.cell? ⟨gb118,0,none⟩ = some (.int .i64 ((zk l1 x15_1).f0)) := (zf BK118.out 0).trans rfl
                have hcz57_1 : wc.cell? ⟨gb118,1,none⟩ = some (.int .i64 ((zk l1 x15_1).f1)) := (zf BK118.out 1).trans rfl
                have hcz57_2 : wc.cell? ⟨gb118,2,none⟩ = some (.string ((zk l1 x15_1).f2)) := (zf BK118.out 2).trans rfl
                have hfz57_0 := zn BK118.out 0
                have hfz57_1 := zn BK118.out 1
                have hfz57_2 := zn BK118.out 2
                go_wp2_with (first | ((with_reducible refine zA (f := 109) rfl ?_); refine zW (some 46) rfl rfl Try.func109 qg rfl #[.agg #[.int .i64 ((zk l1 x15_1).f0), .int .i64 ((zk l1 x15_1).f1), .string ((zk l1 x15_1).f2)]] rfl qb ?_; (with_reducible refine (za6.calls ((zk l1 x15_1).f0) ((zk l1 x15_1).f1) ((zk l1 x15_1).f2) t119 _ A22.out).mono ?_); rintro e w58 ⟨rfl,hb⟩; refine ⟨_,rfl,?_⟩; have n0_ := za.mk (zu (g := gb118) (o := .cells #[.int .i64 ((zk l1 x15_1).f0), .int .i64 ((zk l1 x15_1).f1), .string ((zk l1 x15_1).f2)] 63 (0,0)) (qa BK118.out) hb); have n1_ := za.mk (zo (qf HB.out GE118.out) hb); clear BK118; clear HB; have BK118 := n0_; have HB := n1_; clear n0_ n1_; (try clear hb); (try clear hb2); (try clear hk); (try clear hi)))
                go_ret
                exact ⟨by first | rfl | (simp [zw,zx] <;> rfl) | (simp [*,zw,zx] <;> rfl),by repeat (first | (with_reducible first | exact HB.out | apply ze | apply zb | apply zg | refine zh ?_ GE118.out) | exact HB.out)⟩
      ·rw [if_neg c6] at H
       exact absurd H qC
     ·rw [if_neg c5] at H
      exact absurd H qC
    ·rw [if_neg c4] at H
     have c4b0 : decide (x15_1 < (l1.length : Int)) = false := decide_eq_false c4
     clear c4
     obtain rfl := Option.some.inj H
     go_wp2
     go_ret
     exact ⟨by first | rfl | (simp [zw,zx] <;> rfl) | (simp [*,zw,zx] <;> rfl),by repeat (first | (with_reducible first | exact HB.out | apply ze | apply zb | apply zg) | exact HB.out)⟩
def zat.f (k : Nat) (l0 : List ByteArray) (l1 : List (S63)) : Option (Int) := (zY.f k l0).bind fun t122 => (if t122 = 0 then ((zt.f k l0 l1).bind fun t123 => (some t123)) else (some t122))
set_option maxHeartbeats 8000000 in
set_option maxRecDepth 100000 in
theorem zat.calls (k : Nat) (A0 : Option Addr) (c0 : Nat) (l0 : List ByteArray) (A1 : Option Addr) (c1 : Nat) (l1 : List (S63)) (r : Int) (w : World) (hr0 : Kd.C Kd.string w A0 l0.length l0) (hc0 : l0.length ≤ c0) (hr1 : Kd.C k63 w A1 l1.length l1) (hc1 : l1.length ≤ c1) (h : zat.f k l0 l1 = some r) :
  Calls Try.prog 67 #[.slice A0 l0.length c0, .slice A1 l1.length c1] w fun e w' => e = .returned (.int .i64 r) ∧ Below w.heap.size w w' := by
 have HR0 := za.mk hr0
 have HC0 := za.mk hc0
 clear hr0 hc0
 have HR1 := za.mk hr1
 have HC1 := za.mk hc1
 clear hr1 hc1
 have HB := za.mk (Below.refl w.heap.size w)
 have H : ((zY.f k l0).bind fun t122 => (if t122 = 0 then ((zt.f k l0 l1).bind fun t123 => (some t123)) else (some t122))) = some r := h
 clear h
 replace H := Option.bind_eq_some_iff.mp H
 obtain ⟨t122,A30,H⟩ := H
 replace H : (if t122 = 0 then ((zt.f k l0 l1).bind fun t123 => (some t123)) else (some t122)) = some r := H
 have A3 := za.mk A30
 clear A30
 by_cases c4 : t122 = 0
 ·rw [if_pos c4] at H
  have c4b0 : (t122 == 0) = true := beq_iff_eq.mpr c4
  have c4b1 : (t122 != 0) = false := bne_eq_false_iff_eq.mpr c4
  clear c4
  replace H := Option.bind_eq_some_iff.mp H
  obtain ⟨t123,A50,H⟩ := H
  replace H : (some t123) = some r := H
  have A5 := za.mk A50
  clear A50
  obtain rfl := Option.some.inj H
  go_enter Try.func67,Try.ntmps67
  go_wp2_with (first | ((with_reducible refine zA (f := 46) rfl ?_); refine zW (some 7) rfl rfl Try.func46 qg rfl #[.slice A0 l0.length c0] rfl qb ?_; (with_reducible refine (zY.calls k _ _ l0 t122 _ ?side1 ?side2 A3.out).mono ?_); (case side1 => exact qe HR0.out); (case side2 => exact HC0.out); rintro e w6 ⟨rfl,hb⟩; refine ⟨_,rfl,?_⟩; have n0_ := za.mk (zo (qc HB.out) hb); clear HB; have HB := n0_; clear n0_; (try clear hb); (try clear hb2); (try clear hk); (try clear hi)) | ((with_reducible refine zA (f := 87) rfl ?_); refine zW (some 13) rfl rfl Try.func87 qg rfl #[.slice A0 l0.length c0, .slice A1 l1.length c1] rfl qb ?_; (with_reducible refine (zt.calls k _ _ l0 _ _ l1 t123 _ ?side1 ?side2 ?side3 ?side4 A5.out).mono ?_); (case side1 => exact qj HR0.out HB.out); (case side2 => exact HC0.out); (case side3 => exact qj HR1.out HB.out); (case side4 => exact HC1.out); rintro e w7 ⟨rfl,hb⟩; refine ⟨_,rfl,?_⟩; have n0_ := za.mk (zo (qc HB.out) hb); clear HB; have HB := n0_; clear n0_; (try clear hb); (try clear hb2); (try clear hk); (try clear hi)))
  go_ret
  exact ⟨by first | rfl | (simp [zw,zx] <;> rfl) | (simp [*,zw,zx] <;> rfl),by repeat (first | (with_reducible first | exact HB.out | apply ze | apply zb | apply zg) | exact HB.out)⟩
 ·rw [if_neg c4] at H
  have c4b0 : (t122 == 0) = false := beq_eq_false_iff_ne.mpr c4
  have c4b1 : (t122 != 0) = true := bne_iff_ne.mpr c4
  obtain rfl := Option.some.inj H
  go_enter Try.func67,Try.ntmps67
  go_wp2_with (first | ((with_reducible refine zA (f := 46) rfl ?_); refine zW (some 7) rfl rfl Try.func46 qg rfl #[.slice A0 l0.length c0] rfl qb ?_; (with_reducible refine (zY.calls k _ _ l0 t122 _ ?side1 ?side2 A3.out).mono ?_); (case side1 => exact qe HR0.out); (case side2 => exact HC0.out); rintro e w8 ⟨rfl,hb⟩; refine ⟨_,rfl,?_⟩; have n0_ := za.mk (zo (qc HB.out) hb); clear HB; have HB := n0_; clear n0_; (try clear hb); (try clear hb2); (try clear hk); (try clear hi)))
  go_ret
  exact ⟨by first | rfl | (simp [zw,zx] <;> rfl) | (simp [*,zw,zx] <;> rfl),by repeat (first | (with_reducible first | exact HB.out | apply ze | apply zb | apply zg) | exact HB.out)⟩
def zaw.l0 : Nat → List (List ByteArray) → Int → Int → Option (Int)
 | 0,_,_,_ => none
 | k + 1,x9,x10,x11 => if x11 < x10 then (if 0 ≤ x11 then (if x11 < (x9.length : Int) then ((zY.f k (zb2 x9 x11)).bind fun t131 => (if t131 = 0 then (zaw.l0 k x9 x10 (wrap64 (x11 + 1))) else (some t131))) else (none)) else (none)) else (some 0)
def zaw.f (k : Nat) (l0 : List (List ByteArray)) : Option (Int) := if (l0.length : Int) > 4 then (some 6) else (zaw.l0 k l0 (l0.length : Int) 0)
set_option maxHeartbeats 8000000 in
set_option maxRecDepth 100000 in
theorem zaw.calls (k : Nat) (A0 : Option Addr) (c0 : Nat) (l0 : List (List ByteArray)) (r : Int) (w : World) (hr0 : Kd.C (Kd.slice 9 Kd.string) w A0 l0.length l0) (hc0 : l0.length ≤ c0) (h : zaw.f k l0 = some r) :
  Calls Try.prog 73 #[.slice A0 l0.length c0] w fun e w' => e = .returned (.int .i64 r) ∧ Below w.heap.size w w' := by
 have HR0 := za.mk hr0
 have HC0 := za.mk hc0
 clear hr0 hc0
 have HB := za.mk (Below.refl w.heap.size w)
 have H : (if (l0.length : Int) > 4 then (some 6) else (zaw.l0 k l0 (l0.length : Int) 0)) = some r := h
 clear h
 by_cases c2 : (l0.length : Int) > 4
 ·rw [if_pos c2] at H
  have c2b0 : decide (4 < (l0.length : Int)) = true := decide_eq_true c2
  have c2b1 : decide (4 < l0.length) = true := decide_eq_true ql
  clear c2
  obtain rfl := Option.some.inj H
  go_enter Try.func73,Try.ntmps73
  go_wp2
  go_ret
  exact ⟨by first | rfl | (simp [zw,zx] <;> rfl) | (simp [*,zw,zx] <;> rfl),by repeat (first | (with_reducible first | exact HB.out | apply ze | apply zb | apply zg) | exact HB.out)⟩
 ·rw [if_neg c2] at H
  have c2b0 : decide (4 < (l0.length : Int)) = false := decide_eq_false c2
  have c2b1 : decide (4 < l0.length) = false := decide_eq_false ql
  clear c2
  have H' := za.mk H
  clear H
  go_enter Try.func73,Try.ntmps73
  go_wp2
  go_loopg [11] k (fun kq v11 w' => ∃ (x11_1 : Int),v11 = .int .i64 x11_1 ∧ za (zaw.l0 kq l0 (l0.length : Int) x11_1 = some r) ∧ za (kq ≤ k) ∧ za (Below w.heap.size w w'))
  case atStart => exact ⟨(0),qm,H',⟨Nat.le_refl _⟩,⟨by repeat (first | (with_reducible first | exact HB.out | apply ze | apply zb | apply zg) | exact HB.out)⟩⟩
  case round =>
   clear H'
   try clear c2
   try clear c2b0
   try clear c2b1
   try clear p2
   obtain ⟨x11_1,rfl,HA,HK1,HB⟩ := hrel
   cases gk with
   | zero => exact absurd HA.out (by simp [zaw.l0])
   | succ k1 =>
    have H := HA.out
    clear HA
    simp only [zaw.l0] at H
    by_cases c3 : x11_1 < (l0.length : Int)
    ·rw [if_pos c3] at H
     have c3b0 : decide (x11_1 < (l0.length : Int)) = true := decide_eq_true c3
     clear c3
     by_cases c4 : 0 ≤ x11_1
     ·rw [if_pos c4] at H
      have c4b0 : decide (0 ≤ x11_1) = true := decide_eq_true c4
      clear c4
      by_cases c5 : x11_1 < (l0.length : Int)
      ·rw [if_pos c5] at H
       have c5b0 : decide (x11_1 < (l0.length : Int)) = true := decide_eq_true c5
       clear c5
       replace H := Option.bind_eq_some_iff.mp H
       obtain ⟨t131,A60,H⟩ := H
       replace H : (if t131 = 0 then (zaw.l0 k1 l0 (l0.length : Int) (wrap64 (x11_1 + 1))) else (some t131)) = some r := H
       have A6 := za.mk A60
       clear A60
       by_cases c7 : t131 = 0
       ·rw [if_pos c7] at H
        have c7b0 : (t131 == 0) = true := beq_iff_eq.mpr c7
        have c7b1 : (t131 != 0) = false := bne_eq_false_iff_eq.mpr c7
        clear c7
        have H' := za.mk H
        clear H
        have p130 : 0 ≤ (x11_1 : Int) := of_decide_eq_true qd
        have q130 : x11_1 < (l0.length : Int) := of_decide_eq_true qd
        obtain ⟨ad130,A130_0,c130_0,e130,hx130_0,hl130_0,hi130_0⟩ := ze4 HR0.out x11_1 p130 q130
        cases e130
        replace hx130_0 := (HB.out.cell (World.block_lt_of_cell? w _ hx130_0)).trans hx130_0
        have HR130_0 := za.mk hi130_0
        have HC130_0 := za.mk hl130_0
        clear hi130_0 hl130_0
        replace p130 := eq_true p130
        replace q130 := eq_true q130
        go_wp2_with (first | ((with_reducible refine zA (f := 46) rfl ?_); refine zW (some 16) rfl rfl Try.func46 qg rfl #[.slice A130_0 (zb2 l0 x11_1).length c130_0] rfl qb ?_; (with_reducible refine (zY.calls k1 _ _ (zb2 l0 x11_1) t131 _ ?side1 ?side2 A6.out).mono ?_); (case side1 => exact qj HR130_0.out HB.out); (case side2 => exact HC130_0.out); rintro e w8 ⟨rfl,hb⟩; refine ⟨_,rfl,?_⟩; have n0_ := za.mk (zo (qc HB.out) hb); clear HB; have HB := n0_; clear n0_; (try clear hb); (try clear hb2); (try clear hk); (try clear hi)))
        go_roundg k1
        case measure => have := HK1.out; omega
        case rel => exact ⟨(wrap64 (x11_1 + 1)),qm,H',⟨by have := HK1.out; omega⟩,⟨by repeat (first | (with_reducible first | exact HB.out | apply ze | apply zb | apply zg) | exact HB.out)⟩⟩
       ·rw [if_neg c7] at H
        have c7b0 : (t131 == 0) = false := beq_eq_false_iff_ne.mpr c7
        have c7b1 : (t131 != 0) = true := bne_iff_ne.mpr c7
        obtain rfl := Option.some.inj H
        have p130 : 0 ≤ (x11_1 : Int) := of_decide_eq_true qd
        have q130 : x11_1 < (l0.length : Int) := of_decide_eq_true qd
        obtain ⟨ad130,A130_0,c130_0,e130,hx130_0,hl130_0,hi130_0⟩ := ze4 HR0.out x11_1 p130 q130
        cases e130
        replace hx130_0 := (HB.out.cell (World.block_lt_of_cell? w _ hx130_0)).trans hx130_0
        have HR130_0 := za.mk hi130_0
        have HC130_0 := za.mk hl130_0
        clear hi130_0 hl130_0
        replace p130 := eq_true p130
        replace q130 := eq_true q130
        go_wp2_with (first | ((with_reducible refine zA (f := 46) rfl ?_); refine zW (some 16) rfl rfl Try.func46 qg rfl #[.slice A130_0 (zb2 l0 x11_1).length c130_0] rfl qb ?_; (with_reducible refine (zY.calls k1 _ _ (zb2 l0 x11_1) t131 _ ?side1 ?side2 A6.out).mono ?_); (case side1 => exact qj HR130_0.out HB.out); (case side2 => exact HC130_0.out); rintro e w9 ⟨rfl,hb⟩; refine ⟨_,rfl,?_⟩; have n0_ := za.mk (zo (qc HB.out) hb); clear HB; have HB := n0_; clear n0_; (try clear hb); (try clear hb2); (try clear hk); (try clear hi)))
        go_ret
        exact ⟨by first | rfl | (simp [zw,zx] <;> rfl) | (simp [*,zw,zx] <;> rfl),by repeat (first | (with_reducible first | exact HB.out | apply ze | apply zb | apply zg) | exact HB.out)⟩
      ·rw [if_neg c5] at H
       exact absurd H qC
     ·rw [if_neg c4] at H
      exact absurd H qC
    ·rw [if_neg c3] at H
     have c3b0 : decide (x11_1 < (l0.length : Int)) = false := decide_eq_false c3
     clear c3
     obtain rfl := Option.some.inj H
     go_wp2
     go_ret
     exact ⟨by first | rfl | (simp [zw,zx] <;> rfl) | (simp [*,zw,zx] <;> rfl),by repeat (first | (with_reducible first | exact HB.out | apply ze | apply zb | apply zg) | exact HB.out)⟩
def zck.f (k : Nat) (l0 : List (List ByteArray)) (l1 : List ByteArray) : Option (Int) := (zaw.f k l0).bind fun t155 => (if t155 = 0 then ((zY.f k l1).bind fun t156 => (some t156)) else (some t155))
set_option maxHeartbeats 8000000 in
set_option maxRecDepth 100000 in
theorem zck.calls (k : Nat) (A0 : Option Addr) (c0 : Nat) (l0 : List (List ByteArray)) (A1 : Option Addr) (c1 : Nat) (l1 : List ByteArray) (r : Int) (w : World) (hr0 : Kd.C (Kd.slice 9 Kd.string) w A0 l0.length l0) (hc0 : l0.length ≤ c0) (hr1 : Kd.C Kd.string w A1 l1.length l1) (hc1 : l1.length ≤ c1) (h : zck.f k l0 l1 = some r) :
  Calls Try.prog 86 #[.slice A0 l0.length c0, .slice A1 l1.length c1] w fun e w' => e = .returned (.int .i64 r) ∧ Below w.heap.size w w' := by
 have HR0 := za.mk hr0
 have HC0 := za.mk hc0
 clear hr0 hc0
 have HR1 := za.mk hr1
 have HC1 := za.mk hc1
 clear hr1 hc1
 have HB := za.mk (Below.refl w.heap.size w)
 have H : ((zaw.f k l0).bind fun t155 => (if t155 = 0 then ((zY.f k l1).bind fun t156 => (some t156)) else (some t155))) = some r := h
 clear h
 replace H := Option.bind_eq_some_iff.mp H
 obtain ⟨t155,A30,H⟩ := H
 replace H : (if t155 = 0 then ((zY.f k l1).bind fun t156 => (some t156)) else (some t155)) = some r := H
 have A3 := za.mk A30
 clear A30
 by_cases c4 : t155 = 0
 ·rw [if_pos c4] at H
  have c4b0 : (t155 == 0) = true := beq_iff_eq.mpr c4
  have c4b1 : (t155 != 0) = false := bne_eq_false_iff_eq.mpr c4
  clear c4
  replace H := Option.bind_eq_some_iff.mp H
  obtain ⟨t156,A50,H⟩ := H
  replace H : (some t156) = some r := H
  have A5 := za.mk A50
  clear A50
  obtain rfl := Option.some.inj H
  go_enter Try.func86,Try.ntmps86
  go_wp2_with (first | ((with_reducible refine zA (f := 73) rfl ?_); refine zW (some 7) rfl rfl Try.func73 qg rfl #[.slice A0 l0.length c0] rfl qb ?_; (with_reducible refine (zaw.calls k _ _ l0 t155 _ ?side1 ?side2 A3.out).mono ?_); (case side1 => exact qe HR0.out); (case side2 => exact HC0.out); rintro e w6 ⟨rfl,hb⟩; refine ⟨_,rfl,?_⟩; have n0_ := za.mk (zo (qc HB.out) hb); clear HB; have HB := n0_; clear n0_; (try clear hb); (try clear hb2); (try clear hk); (try clear hi)) | ((with_reducible refine zA (f := 46) rfl ?_); refine zW (some 12) rfl rfl Try.func46 qg rfl #[.slice A1 l1.length c1] rfl qb ?_; (with_reducible refine (zY.calls k _ _ l1 t156 _ ?side1 ?side2 A5.out).mono ?_); (case side1 => exact qj HR1.out HB.out); (case side2 => exact HC1.out); rintro e w7 ⟨rfl,hb⟩; refine ⟨_,rfl,?_⟩; have n0_ := za.mk (zo (qc HB.out) hb); clear HB; have HB := n0_; clear n0_; (try clear hb); (try clear hb2); (try clear hk); (try clear hi)))
  go_ret
  exact ⟨by first | rfl | (simp [zw,zx] <;> rfl) | (simp [*,zw,zx] <;> rfl),by repeat (first | (with_reducible first | exact HB.out | apply ze | apply zb | apply zg) | exact HB.out)⟩
 ·rw [if_neg c4] at H
  have c4b0 : (t155 == 0) = false := beq_eq_false_iff_ne.mpr c4
  have c4b1 : (t155 != 0) = true := bne_iff_ne.mpr c4
  obtain rfl := Option.some.inj H
  go_enter Try.func86,Try.ntmps86
  go_wp2_with (first | ((with_reducible refine zA (f := 73) rfl ?_); refine zW (some 7) rfl rfl Try.func73 qg rfl #[.slice A0 l0.length c0] rfl qb ?_; (with_reducible refine (zaw.calls k _ _ l0 t155 _ ?side1 ?side2 A3.out).mono ?_); (case side1 => exact qe HR0.out); (case side2 => exact HC0.out); rintro e w8 ⟨rfl,hb⟩; refine ⟨_,rfl,?_⟩; have n0_ := za.mk (zo (qc HB.out) hb); clear HB; have HB := n0_; clear n0_; (try clear hb); (try clear hb2); (try clear hk); (try clear hi)))
  go_ret
  exact ⟨by first | rfl | (simp [zw,zx] <;> rfl) | (simp [*,zw,zx] <;> rfl),by repeat (first | (with_reducible first | exact HB.out | apply ze | apply zb | apply zg) | exact HB.out)⟩
def zaW.l0 : Nat → List (List ByteArray) → List Int → List ByteArray → Int → Int → Option (List Int × Int)
 | 0,_,_,_,_,_ => none
 | k + 1,x0,x7,x16,x17,x18 => if x18 < x17 then (if 0 ≤ x18 then (if x18 < (x16.length : Int) then ((zaQ.f k x0 (zaC ByteArray.empty x16 x18)).bind fun t159 => (if x7.length < 17592186044416 then (zaW.l0 k x0 (x7 ++ [t159]) x16 x17 (wrap64 (x18 + 1))) else (none))) else (none)) else (none)) else (some (x7,0))
def zaW.f (k : Nat) (l0 : List (List ByteArray)) (l1 : List ByteArray) : Option (List Int × Int) := (zck.f k l0 l1).bind fun t157 => (if t157 = 0 then (zaW.l0 k l0 ([] : List Int) l1 (l1.length : Int) 0) else (some (([] : List Int),t157)))
set_option maxHeartbeats 8000000 in
set_option maxRecDepth 100000 in
theorem zaW.calls (k : Nat) (A0 : Option Addr) (c0 : Nat) (l0 : List (List ByteArray)) (A1 : Option Addr) (c1 : Nat) (l1 : List ByteArray) (r1 : List Int) (r2 : Int) (w : World) (hr0 : Kd.C (Kd.slice 9 Kd.string) w A0 l0.length l0) (hc0 : l0.length ≤ c0) (hr1 : Kd.C Kd.string w A1 l1.length l1) (hc1 : l1.length ≤ c1) (h : zaW.f k l0 l1 = some (r1,r2)) :
  Calls Try.prog 52 #[.slice A0 l0.length c0, .slice A1 l1.length c1] w fun e w' => ∃ v0_ : Value,e = .returned (.tuple #[v0_, .int .i64 r2]) ∧ Kd.R (Kd.int .i64) 3 w' w.heap.size (fun _ => True) v0_ r1 ∧ Below w.heap.size w w' := by
 have HR0 := za.mk hr0
 have HC0 := za.mk hc0
 clear hr0 hc0
 have HR1 := za.mk hr1
 have HC1 := za.mk hc1
 clear hr1 hc1
 have HB := za.mk (Below.refl w.heap.size w)
 have H : ((zck.f k l0 l1).bind fun t157 => (if t157 = 0 then (zaW.l0 k l0 ([] : List Int) l1 (l1.length : Int) 0) else (some (([] : List Int),t157)))) = some (r1,r2) := h
 clear h
 replace H := Option.bind_eq_some_iff.mp H
 obtain ⟨t157,A30,H⟩ := H
 replace H : (if t157 = 0 then (zaW.l0 k l0 ([] : List Int) l1 (l1.length : Int) 0) else (some (([] : List Int),t157))) = some (r1,r2) := H
 have A3 := za.mk A30
 clear A30
 by_cases c4 : t157 = 0
 ·rw [if_pos c4] at H
  have c4b0 : (t157 == 0) = true := beq_iff_eq.mpr c4
  have c4b1 : (t157 != 0) = false := bne_eq_false_iff_eq.mpr c4
  clear c4
  have H' := za.mk H
  clear H
  go_enter Try.func52,Try.ntmps52
  go_wp2_with (first | ((with_reducible refine zA (f := 86) rfl ?_); refine zW (some 12) rfl rfl Try.func86 qg rfl #[.slice A0 l0.length c0, .slice A1 l1.length c1] rfl qb ?_; (with_reducible refine (zck.calls k _ _ l0 _ _ l1 t157 _ ?side1 ?side2 ?side3 ?side4 A3.out).mono ?_); (case side1 => exact qe HR0.out); (case side2 => exact HC0.out); (case side3 => exact qe HR1.out); (case side4 => exact HC1.out); rintro e w5 ⟨rfl,hb⟩; refine ⟨_,rfl,?_⟩; have n0_ := za.mk (zo (qc HB.out) hb); clear HB; have HB := n0_; clear n0_; (try clear hb); (try clear hb2); (try clear hk); (try clear hi)))
  go_loopg [7,18] k (fun kq v7 v18 w' => ∃ (x7_1 : List Int) (x18_1 : Int),v18 = .int .i64 x18_1 ∧ za (zaW.l0 kq l0 x7_1 l1 (l1.length : Int) x18_1 = some (r1,r2)) ∧ za (kq ≤ k) ∧ za (Kd.R (Kd.int .i64) 3 w' w.heap.size (fun _ => True) v7 x7_1) ∧ za (Below w.heap.size w w'))
  case atStart => exact ⟨(([] : List Int)),(0),qm,H',⟨Nat.le_refl _⟩,⟨by first | exact Kd.zbG _ _ _ _ _ | exact Kd.zd8 _ _ _ _ _ | exact Kd.zd4 _ _ _ _ _ | exact Kd.zeh _ _ _ _ _ | exact Kd.zd5 _ _ _ _ _⟩,⟨by repeat (first | (with_reducible first | exact HB.out | apply ze | apply zb | apply zg) | exact HB.out)⟩⟩
  case round =>
   clear H'
   try clear c1
   try clear p2
   try clear c4
   try clear c4b0
   try clear c4b1
   try clear c5
   obtain ⟨x7_1,x18_1,rfl,HA,HK1,HO_7,HB⟩ := hrel
   cases gk with
   | zero => exact absurd HA.out (by simp [zaW.l0])
   | succ k1 =>
    have H := HA.out
    clear HA
    simp only [zaW.l0] at H
    by_cases c6 : x18_1 < (l1.length : Int)
    ·rw [if_pos c6] at H
     have c6b0 : decide (x18_1 < (l1.length : Int)) = true := decide_eq_true c6
     clear c6
     by_cases c7 : 0 ≤ x18_1
     ·rw [if_pos c7] at H
      have c7b0 : decide (0 ≤ x18_1) = true := decide_eq_true c7
      clear c7
      by_cases c8 : x18_1 < (l1.length : Int)
      ·rw [if_pos c8] at H
       have c8b0 : decide (x18_1 < (l1.length : Int)) = true := decide_eq_true c8
       clear c8
       replace H := Option.bind_eq_some_iff.mp H
       obtain ⟨t159,A90,H⟩ := H
       replace H : (if x7_1.length < 17592186044416 then (zaW.l0 k1 l0 (x7_1 ++ [t159]) l1 (l1.length : Int) (wrap64 (x18_1 + 1))) else (none)) = some (r1,r2) := H
       have A9 := za.mk A90
       clear A90
       by_cases c10 : x7_1.length < 17592186044416
       ·rw [if_pos c10] at H
        have LMc10 := za.mk c10
        clear c10
        obtain ⟨y160,hy160⟩ : ∃ y_ : List Int,y_ = (x7_1 ++ [t159]) := ⟨_,rfl⟩
        replace H : (zaW.l0 k1 l0 y160 l1 (l1.length : Int) (wrap64 (x18_1 + 1))) = some (r1,r2) := by first | (rw [hy160]; with_reducible exact H) | (have H2_ := (Option.bind_some _ _).symm.trans H; rw [hy160]; with_reducible exact H2_) | (have H2_ := (Option.bind_some _ _).symm.trans H; with_reducible exact H2_) | with_reducible exact H | (rw [hy160]; exact H) | exact H
        have Ny160 := za.mk hy160
        clear hy160
        have H' := za.mk H
        clear H
        have p158 : 0 ≤ (x18_1 : Int) := of_decide_eq_true qd
        have q158 : x18_1 < (l1.length : Int) := of_decide_eq_true qd
        obtain ⟨ad158,e158,hx158_0⟩ := Kd.zaV HR1.out x18_1 p158 q158
        cases e158
        replace hx158_0 := (HB.out.cell (World.block_lt_of_cell? w _ hx158_0)).trans hx158_0
        replace p158 := eq_true p158
        replace q158 := eq_true q158
        go_wp2_with (first | ((with_reducible refine zA (f := 75) rfl ?_); refine zW (some 25) rfl rfl Try.func75 qg rfl #[.slice A0 l0.length c0, .string (zaC ByteArray.empty l1 x18_1)] rfl qb ?_; (with_reducible refine (zaQ.calls k1 _ _ l0 (zaC ByteArray.empty l1 x18_1) t159 _ ?side1 ?side2 A9.out).mono ?_); (case side1 => exact qj HR0.out HB.out); (case side2 => exact HC0.out); rintro e w' ⟨rfl,⟨nd,rfl⟩⟩; refine ⟨_,rfl,?_⟩) | ((with_reducible refine za1 (b := .append) (xs := #[.tmp 22, .tmp 26]) rfl ?_); at_builtin; refine Kd.zc4 (Kd.int .i64) (w0 := w) w.heap.size rfl (.tmp 22) (.tmp 26) 23 3 (.int .i64 0) 8 rfl Try.underlying23 info3 rfl qq ql u7 x7_1 t159 [.int .i64 t159] (fun _ => True) (fun _ => False) rfl rfl ?aP (fun _ hk => hk.elim) ?aF ?aO ?aB ?aS ?aL ?_; (case aP => exact rfl); (case aB => exact (qc HB.out)); (case aF => exact (fun _ _ => trivial)); (case aO => exact (qp HO_7.out)); (case aS => exact (zy (qc HB.out))); (case aL => have := LMc10.out; omega); intro v161 w11 ho hb hg hat; rw [← Ny160.out] at ho; have n0_ := za.mk (hb); have n1_ := za.mk (ho); clear HB; clear HO_7; have HB := n0_; have HO162 := n1_; clear n0_ n1_; clear ho hb hg hat))
        go_roundg k1
        case measure => have := HK1.out; omega
        case rel => exact ⟨(y160),(wrap64 (x18_1 + 1)),qm,H',⟨by have := HK1.out; omega⟩,⟨by (with_reducible repeat (first | apply Kd.zaE | apply Kd.zau | apply Kd.zaJ)); exact HO162.out⟩,⟨by repeat (first | (with_reducible first | exact HB.out | apply ze | apply zb | apply zg) | exact HB.out)⟩⟩
       ·rw [if_neg c10] at H
        exact absurd H qC
      ·rw [if_neg c8] at H
       exact absurd H qC
     ·rw [if_neg c7] at H
      exact absurd H qC
    ·rw [if_neg c6] at H
     have c6b0 : decide (x18_1 < (l1.length : Int)) = false := decide_eq_false c6
     clear c6
     simp only [Option.some.injEq,Prod.mk.injEq] at H
     obtain ⟨rfl,rfl⟩ := H
     go_wp2
     go_ret2
     exact ⟨_,by first | rfl | (simp [zw,zx] <;> rfl) | (simp [*,zw,zx] <;> rfl),by (with_reducible repeat (first | apply Kd.zaE | apply Kd.zau | apply Kd.zaJ)); exact HO_7.out,by repeat (first | (with_reducible first | exact HB.out | apply ze | apply zb | apply zg) | exact HB.out)⟩
 ·rw [if_neg c4] at H
  have c4b0 : (t157 == 0) = false := beq_eq_false_iff_ne.mpr c4
  have c4b1 : (t157 != 0) = true := bne_iff_ne.mpr c4
  simp only [Option.some.injEq,Prod.mk.injEq] at H
  obtain ⟨rfl,rfl⟩ := H
  go_enter Try.func52,Try.ntmps52
  go_wp2_with (first | ((with_reducible refine zA (f := 86) rfl ?_); refine zW (some 12) rfl rfl Try.func86 qg rfl #[.slice A0 l0.length c0, .slice A1 l1.length c1] rfl qb ?_; (with_reducible refine (zck.calls k _ _ l0 _ _ l1 t157 _ ?side1 ?side2 ?side3 ?side4 A3.out).mono ?_); (case side1 => exact qe HR0.out); (case side2 => exact HC0.out); (case side3 => exact qe HR1.out); (case side4 => exact HC1.out); rintro e w12 ⟨rfl,hb⟩; refine ⟨_,rfl,?_⟩; have n0_ := za.mk (zo (qc HB.out) hb); clear HB; have HB := n0_; clear n0_; (try clear hb); (try clear hb2); (try clear hk); (try clear hi)))
  go_ret2
  exact ⟨_,by first | rfl | (simp [zw,zx] <;> rfl) | (simp [*,zw,zx] <;> rfl),by first | exact Kd.zbG _ _ _ _ _ | exact Kd.zd8 _ _ _ _ _ | exact Kd.zd4 _ _ _ _ _ | exact Kd.zeh _ _ _ _ _ | exact Kd.zd5 _ _ _ _ _,by repeat (first | (with_reducible first | exact HB.out | apply ze | apply zb | apply zg) | exact HB.out)⟩
def zaZ.l0 : Nat → Int → List (S63) → Int → Int → Option (Int × Int)
 | 0,_,_,_,_ => none
 | k + 1,x7,x16,x17,x18 => if x18 < x17 then (if 0 ≤ x18 then (if x18 < (x16.length : Int) then (if ((zk x16 x18).f0) = 3 then (zaZ.l0 k x7 x16 x17 (wrap64 (x18 + 1))) else (zaZ.l0 k (wrap64 (x7 + 1)) x16 x17 (wrap64 (x18 + 1)))) else (none)) else (none)) else (some (x7,0))
def zaZ.f (k : Nat) (l0 : List ByteArray) (l1 : List (S63)) : Option (Int × Int) := (zat.f k l0 l1).bind fun t585 => (if t585 = 0 then (zaZ.l0 k 0 l1 (l1.length : Int) 0) else (some (0,t585)))
set_option maxHeartbeats 8000000 in
set_option maxRecDepth 100000 in
theorem zaZ.calls (k : Nat) (A0 : Option Addr) (c0 : Nat) (l0 : List ByteArray) (A1 : Option Addr) (c1 : Nat) (l1 : List (S63)) (r1 : Int) (r2 : Int) (w : World) (hr0 : Kd.C Kd.string w A0 l0.length l0) (hc0 : l0.length ≤ c0) (hr1 : Kd.C k63 w A1 l1.length l1) (hc1 : l1.length ≤ c1) (h : zaZ.f k l0 l1 = some (r1,r2)) :
  Calls Try.prog 44 #[.slice A0 l0.length c0, .slice A1 l1.length c1] w fun e w' => e = .returned (.tuple #[.int .i64 r1, .int .i64 r2]) ∧ Below w.heap.size w w' := by
 have hu63 := Try.underlying63
 have HR0 := za.mk hr0
 have HC0 := za.mk hc0
 clear hr0 hc0
 have HR1 := za.mk hr1
 have HC1 := za.mk hc1
 clear hr1 hc1
 have HB := za.mk (Below.refl w.heap.size w)
 have H : ((zat.f k l0 l1).bind fun t585 => (if t585 = 0 then (zaZ.l0 k 0 l1 (l1.length : Int) 0) else (some (0,t585)))) = some (r1,r2) := h
 clear h
 replace H := Option.bind_eq_some_iff.mp H
 obtain ⟨t585,A30,H⟩ := H
 replace H : (if t585 = 0 then (zaZ.l0 k 0 l1 (l1.length : Int) 0) else (some (0,t585))) = some (r1,r2) := H
 have A3 := za.mk A30
 clear A30
 by_cases c4 : t585 = 0
 ·rw [if_pos c4] at H
  have c4b0 : (t585 == 0) = true := beq_iff_eq.mpr c4
  have c4b1 : (t585 != 0) = false := bne_eq_false_iff_eq.mpr c4
  clear c4
  have H' := za.mk H
  clear H
  go_enter Try.func44,Try.ntmps44
  go_wp2_with (first | ((with_reducible refine zA (f := 67) rfl ?_); refine zW (some 12) rfl rfl Try.func67 qg rfl #[.slice A0 l0.length c0, .slice A1 l1.length c1] rfl qb ?_; (with_reducible refine (zat.calls k _ _ l0 _ _ l1 t585 _ ?side1 ?side2 ?side3 ?side4 A3.out).mono ?_); (case side1 => exact qe HR0.out); (case side2 => exact HC0.out); (case side3 => exact qe HR1.out); (case side4 => exact HC1.out); rintro e w5 ⟨rfl,hb⟩; refine ⟨_,rfl,?_⟩; have n0_ := za.mk (zo (qc HB.out) hb); clear HB; have HB := n0_; clear n0_; (try clear hb); (try clear hb2); (try clear hk); (try clear hi)))
  go_loopg [7,18] k (fun kq v7 v18 w' => ∃ (x7_1 : Int) (x18_1 : Int),v7 = .int .i64 x7_1 ∧ v18 = .int .i64 x18_1 ∧ za (zaZ.l0 kq x7_1 l1 (l1.length : Int) x18_1 = some (r1,r2)) ∧ za (kq ≤ k) ∧ za (Below w.heap.size w w'))
  case atStart => exact ⟨(0),(0),qm,qm,H',⟨Nat.le_refl _⟩,⟨by repeat (first | (with_reducible first | exact HB.out | apply ze | apply zb | apply zg) | exact HB.out)⟩⟩
  case round =>
   clear H'
   try clear c1
   try clear p2
   try clear c4
   try clear c4b0
   try clear c4b1
   obtain ⟨x7_1,x18_1,rfl,rfl,HA,HK1,HB⟩ := hrel
   cases gk with
   | zero => exact absurd HA.out (by simp [zaZ.l0])
   | succ k1 =>
    have H := HA.out
    clear HA
    simp only [zaZ.l0] at H
    by_cases c6 : x18_1 < (l1.length : Int)
    ·rw [if_pos c6] at H
     have c6b0 : decide (x18_1 < (l1.length : Int)) = true := decide_eq_true c6
     clear c6
     by_cases c7 : 0 ≤ x18_1
     ·rw [if_pos c7] at H
      have c7b0 : decide (0 ≤ x18_1) = true := decide_eq_true c7
      clear c7
      by_cases c8 : x18_1 < (l1.length : Int)
      ·rw [if_pos c8] at H
       have c8b0 : decide (x18_1 < (l1.length : Int)) = true := decide_eq_true c8
       clear c8
       by_cases c9 : ((zk l1 x18_1).f0) = 3
       ·rw [if_pos c9] at H
        have c9b0 : (((zk l1 x18_1).f0) == 3) = true := beq_iff_eq.mpr c9
        have c9b1 : (((zk l1 x18_1).f0) != 3) = false := bne_eq_false_iff_eq.mpr c9
        clear c9
        have H' := za.mk H
        clear H
        have p586 : 0 ≤ (x18_1 : Int) := of_decide_eq_true qd
        have q586 : x18_1 < (l1.length : Int) := of_decide_eq_true qd
        obtain ⟨ad586,e586,hx586_0,hx586_1,hx586_2⟩ := zbb HR1.out x18_1 p586 q586
        cases e586
        replace hx586_0 := (HB.out.cell (World.block_lt_of_cell? w _ hx586_0)).trans hx586_0
        replace hx586_1 := (HB.out.cell (World.block_lt_of_cell? w _ hx586_1)).trans hx586_1
        replace hx586_2 := (HB.out.cell (World.block_lt_of_cell? w _ hx586_2)).trans hx586_2
        replace p586 := eq_true p586
        replace q586 := eq_true q586
        go_wp2_with (first | ((with_reducible refine zaa (N := 9) rfl ?_); refine zao ?hg (N := 9) ?hd (cs := #[.int .i64 0, .int .i64 0, .string (⟨#[]⟩ : ByteArray)]) (t := 63) ?hr ?_; (case hd => rfl); (case hg => rfl); (case hr => exact qk); intro gb587 hg w10 hbox hb; have n0_ := za.mk (zo (qc HB.out) hb); have n1_ := za.mk (hbox); have n2_ := za.mk ((by rw [hg]; exact (zy (qc HB.out)) : w.heap.size ≤ gb587)); have n3_ := za.mk ((by rw [hg]; exact (zy (qc HB.out)) : w.heap.size ≤ gb587)); clear HB; have HB := n0_; have BK587 := n1_; have GW587 := n2_; have GE587 := n3_; clear n0_ n1_ n2_ n3_; clear hb hbox hg; have hcz11_0 : w10.cell? ⟨gb587,0,none⟩ = some (.int .i64 0) := (zf BK587.out 0).trans rfl; have hcz11_1 : w10.cell? ⟨gb587,1,none⟩ = some (.int .i64 0) := (zf BK587.out 1).trans rfl; have hcz11_2 : w10.cell? ⟨gb587,2,none⟩ = some (.string (⟨#[]⟩ : ByteArray)) := (zf BK587.out 2).trans rfl; have hfz11_0 := zn BK587.out 0; have hfz11_1 := zn BK587.out 1; have hfz11_2 := zn BK587.out 2))
        go_roundg k1
        case measure => have := HK1.out; omega
        case rel => exact ⟨(x7_1),(wrap64 (x18_1 + 1)),qm,qm,H',⟨by have := HK1.out; omega⟩,⟨by repeat (first | (with_reducible first | exact HB.out | apply ze | apply zb | apply zg | refine zh ?_ GE587.out) | exact HB.out)⟩⟩
       ·rw [if_neg c9] at H
        have c9b0 : (((zk l1 x18_1).f0) == 3) = false := beq_eq_false_iff_ne.mpr c9
        have c9b1 : (((zk l1 x18_1).f0) != 3) = true := bne_iff_ne.mpr c9
        have H' := za.mk H
        clear H
        have p586 : 0 ≤ (x18_1 : Int) := of_decide_eq_true qd
        have q586 : x18_1 < (l1.length : Int) := of_decide_eq_true qd
        obtain ⟨ad586,e586,hx586_0,hx586_1,hx586_2⟩ := zbb HR1.out x18_1 p586 q586
        cases e586
        replace hx586_0 := (HB.out.cell (World.block_lt_of_cell? w _ hx586_0)).trans hx586_0
        replace hx586_1 := (HB.out.cell (World.block_lt_of_cell? w _ hx586_1)).trans hx586_1
        replace hx586_2 := (HB.out.cell (World.block_lt_of_cell? w _ hx586_2)).trans hx586_2
        replace p586 := eq_true p586
        replace q586 := eq_true q586
        go_wp2_with (first | ((with_reducible refine zaa (N := 9) rfl ?_); refine zao ?hg (N := 9) ?hd (cs := #[.int .i64 0, .int .i64 0, .string (⟨#[]⟩ : ByteArray)]) (t := 63) ?hr ?_; (case hd => rfl); (case hg => rfl); (case hr => exact qk); intro gb587 hg w12 hbox hb; have n0_ := za.mk (zo (qc HB.out) hb); have n1_ := za.mk (hbox); have n2_ := za.mk ((by rw [hg]; exact (zy (qc HB.out)) : w.heap.size ≤ gb587)); have n3_ := za.mk ((by rw [hg]; exact (zy (qc HB.out)) : w.heap.size ≤ gb587)); clear HB; have HB := n0_; have BK587 := n1_; have GW587 := n2_; have GE587 := n3_; clear n0_ n1_ n2_ n3_; clear hb hbox hg; have hcz13_0 : w12.cell? ⟨gb587,0,none⟩ = some (.int .i64 0) := (zf BK587.out 0).trans rfl; have hcz13_1 : w12.cell? ⟨gb587,1,none⟩ = some (.int .i64 0) := (zf BK587.out 1).trans rfl; have hcz13_2 : w12.cell? ⟨gb587,2,none⟩ = some (.string (⟨#[]⟩ : ByteArray)) := (zf BK587.out 2).trans rfl; have hfz13_0 := zn BK587.out 0; have hfz13_1 := zn BK587.out 1; have hfz13_2 := zn BK587.out 2))
        go_roundg k1
        case measure => have := HK1.out; omega
        case rel => exact ⟨(wrap64 (x7_1 + 1)),(wrap64 (x18_1 + 1)),qm,qm,H',⟨by have := HK1.out; omega⟩,⟨by repeat (first | (with_reducible first | exact HB.out | apply ze | apply zb | apply zg | refine zh ?_ GE587.out) | exact HB.out)⟩⟩
      ·rw [if_neg c8] at H
       exact absurd H qC
     ·rw [if_neg c7] at H
      exact absurd H qC
    ·rw [if_neg c6] at H
     have c6b0 : decide (x18_1 < (l1.length : Int)) = false := decide_eq_false c6
     clear c6
     simp only [Option.some.injEq,Prod.mk.injEq] at H
     obtain ⟨rfl,rfl⟩ := H
     go_wp2
     go_ret2
     exact ⟨by first | rfl | (simp [zw,zx] <;> rfl) | (simp [*,zw,zx] <;> rfl),by repeat (first | (with_reducible first | exact HB.out | apply ze | apply zb | apply zg) | exact HB.out)⟩
 ·rw [if_neg c4] at H
  have c4b0 : (t585 == 0) = false := beq_eq_false_iff_ne.mpr c4
  have c4b1 : (t585 != 0) = true := bne_iff_ne.mpr c4
  simp only [Option.some.injEq,Prod.mk.injEq] at H
  obtain ⟨rfl,rfl⟩ := H
  go_enter Try.func44,Try.ntmps44
  go_wp2_with (first | ((with_reducible refine zA (f := 67) rfl ?_); refine zW (some 12) rfl rfl Try.func67 qg rfl #[.slice A0 l0.length c0, .slice A1 l1.length c1] rfl qb ?_; (with_reducible refine (zat.calls k _ _ l0 _ _ l1 t585 _ ?side1 ?side2 ?side3 ?side4 A3.out).mono ?_); (case side1 => exact qe HR0.out); (case side2 => exact HC0.out); (case side3 => exact qe HR1.out); (case side4 => exact HC1.out); rintro e w14 ⟨rfl,hb⟩; refine ⟨_,rfl,?_⟩; have n0_ := za.mk (zo (qc HB.out) hb); clear HB; have HB := n0_; clear n0_; (try clear hb); (try clear hb2); (try clear hk); (try clear hi)))
  go_ret2
  exact ⟨by first | rfl | (simp [zw,zx] <;> rfl) | (simp [*,zw,zx] <;> rfl),by repeat (first | (with_reducible first | exact HB.out | apply ze | apply zb | apply zg) | exact HB.out)⟩
end Go.Proofs.Ytgmbbfmbimofoaa.P
