-- MERGED BY A PROGRAM out of texts of this claim: hand work, and what a (turned) print of the kit has written for it
import Derived.IntWalk
import Derived.Outline
import Derived.Deep.DeepCutAuto
import Derived.Deep.CutBlock
import Derived.Test.YtgmbbfmbimofoaaMg6
import Derived.Test.YtgmbbfmbimofoaaMg5
namespace Go.Proofs.Ytgmbbfmbimofoaa.P
open Go.RowKit Go.Proofs.YtgmbbfmbimofoaaW.PrintWords Go.Proofs.YtgmbbfmbimofoaaW.PrintLast Go.Proofs.YtgmbbfmbimofoaaW.PrintMore
attribute [local go_sem] zI zJ zP zO zH zG zM zK
set_option linter.unusedVariables false
set_option linter.unusedSimpArgs false
def zbI (m : S63) : Int := if m.f0 = 1 then 1 else if m.f0 = 3 then -1 else 0
theorem zh9 (m : S63) : za7.f m.f0 m.f1 m.f2 = some (zbI m) := by
 unfold za7.f zbI
 split
 ·rfl
 ·split <;> rfl
theorem zff (m : S63) : -1 ≤ zbI m ∧ zbI m ≤ 1 := by unfold zbI; split <;> (try split) <;> omega
def zbP (ms : List S63) (most : Int) : Nat → List Int → Int → Option (List Int)
 | 0, done, _ => some done
 | f + 1, done, lines => (List.range ms.length).findSome? fun (i : Nat) =>
   if done.contains (i : Int) = true then none else if most < lines + zbI (zh ms i) then none else zbP ms most f (done ++ [(i : Int)]) (lines + zbI (zh ms i))
def zcJ (ms : List S63) (most : Int) (f : Nat) (done : List Int) (lines : Int) (i : Nat) : Option (List Int) :=
 if done.contains (i : Int) = true then none else if most < lines + zbI (zh ms i) then none else zbP ms most f (done ++ [(i : Int)]) (lines + zbI (zh ms i))
def zfX : Option (List Int) → List Int
 | some x => x
 | none => []
def zeB : Option (List Int) → Bool
 | some _ => true
 | none => false
structure SIn (w : World) (base : Nat) (A0 : Option Addr) (c0 : Nat) (ms : List S63) (vd : Value) (done : List Int) : Prop where
 rm : k63.C w A0 ms.length ms
 hm : ms.length ≤ c0
 rd : (Kd.int .i64).R 3 w base (fun _ => True) vd done
 hb : base ≤ w.heap.size
theorem SIn.below {w w' : World} {base : Nat} {A0 : Option Addr} {c0 : Nat} {ms : List S63} {vd : Value} {done : List Int} (h : SIn w base A0 c0 ms vd done) (hb : Below w.heap.size w w') : SIn w' base A0 c0 ms vd done :=
 ⟨Kd.zU h.rm hb, h.hm, Kd.zN h.rd hb, Nat.le_trans h.hb hb.size⟩
theorem zfr {l : List Int} {k : Nat} (h : k < l.length) (x : Int) : (l.take (k + 1)).contains x = ((l.take k).contains x || (l[k] == x)) := by
 rw [List.take_succ_eq_append_getElem h, Bool.eq_iff_iff]
 simp only [List.contains_iff_mem, List.mem_append, List.mem_singleton, Bool.or_eq_true, beq_iff_eq]
 exact ⟨fun h => h.imp id Eq.symm, fun h => h.imp id Eq.symm⟩
set_option maxHeartbeats 16000000 in
set_option maxRecDepth 100000 in
theorem zhD (ms : List S63) (hms : ms.length ≤ 5) (most : Int) : ∀ (f : Nat) (done : List Int) (lines : Int) (A0 : Option Addr) (c0 : Nat) (vd : Value) (base : Nat) (w : World), done.length + f = ms.length → -100 ≤ lines - f → lines + f ≤ 100 → SIn w base A0 c0 ms vd done →
  Calls Try.prog 70 #[.slice A0 ms.length c0, vd, .int .i64 lines, .int .i64 most] w fun e w' => ∃ v : Value, e = .returned (.tuple #[v, .bool (zeB (zbP ms most f done lines))]) ∧ (Kd.int .i64).R 3 w' base (fun _ => True) v (zfX (zbP ms most f done lines)) ∧ Below w.heap.size w w' := by
 intro f
 induction f with
 | zero =>
  intro done lines A0 c0 vd base w hlen _ _ hin
  obtain ⟨A1, c1, rfl, hc1, _⟩ := Kd.zan hin.rd
  have HI := za.mk hin
  have t1 : ((done.length : Int) == (ms.length : Int)) = true := beq_iff_eq.2 (by omega)
  have t2 : (done.length == ms.length) = true := beq_iff_eq.2 (by omega)
  clear hin hc1 hlen
  go_enter Try.func70, Try.ntmps70
  go_wp2_with fail
  go_ret2
  exact ⟨_, rfl, HI.out.rd, Below.refl _ _⟩
 | succ f ih =>
  intro done lines A0 c0 vd base w hlen hl0 hl1 hin
  obtain ⟨A1, c1, rfl, hc1, _⟩ := Kd.zan hin.rd
  have HI := za.mk hin
  have IH := za.mk ih
  have HL := za.mk (And.intro hlen (And.intro hl0 hl1))
  have t1 : ((done.length : Int) == (ms.length : Int)) = false := beq_eq_false_iff_ne.2 (by omega)
  have t2 : (done.length == ms.length) = false := beq_eq_false_iff_ne.2 (by omega)
  have HF : za ((List.range ms.length).findSome? (zcJ ms most f done lines) = zbP ms most (f + 1) done lines) := ⟨by rw [zbP]; rfl⟩
  obtain ⟨res, hres⟩ : ∃ r, zbP ms most (f + 1) done lines = r := ⟨_, rfl⟩
  rw [hres] at HF ⊢
  have HB := za.mk (Below.refl w.heap.size w)
  clear hin hc1 hlen hl0 hl1 ih hres
  have hu63 := Try.underlying63
  go_enter Try.func70, Try.ntmps70
  go_wp2_with fail
  go_loopw [10] (fun v10 W => ∃ i : Nat, i ≤ ms.length ∧ v10 = .int .i64 i ∧ za (Below w.heap.size w W) ∧ za (((List.range ms.length).drop i).findSome? (zcJ ms most f done lines) = res)) (fun v10 _ => ms.length - (intOf v10).toNat)
  case atStart => exact ⟨0, Nat.zero_le _, rfl, HB, HF⟩
  case round =>
   obtain ⟨i, hi, rfl, HBr, HFr⟩ := hrel
   have HIr := za.mk (HI.out.below HBr.out)
   by_cases hlt : i < ms.length
   ·have d1 : decide ((i : Int) < (ms.length : Int)) = true := decide_eq_true (by omega)
    have d2 : decide (i < ms.length) = true := decide_eq_true hlt
    have hlt6 : i < 6 := by omega
    have hd6 : done.length < 6 := by have := HL.out.1; omega
    clear HF HB
    have hdrop : (List.range ms.length).drop i = i :: (List.range ms.length).drop (i + 1) := by
     rw [List.drop_eq_getElem_cons (by simpa using hlt), List.getElem_range]
    have HN : za (zcJ ms most f done lines i = none → ((List.range ms.length).drop (i + 1)).findSome? (zcJ ms most f done lines) = res) := ⟨fun hn => by
     have h := HFr.out
     rw [hdrop, List.findSome?_cons, hn] at h
     exact h⟩
    have HY : za (∀ x, zcJ ms most f done lines i = some x → some x = res) := ⟨fun x hx => by
     have h := HFr.out
     rw [hdrop, List.findSome?_cons, hx] at h
     exact h⟩
    clear hdrop HFr
    go_wp2_with fail
    go_loop [11, 12] (fun v11 v12 => ∃ k : Nat, k ≤ done.length ∧ v12 = .int .i64 k ∧ v11 = .bool ((done.take k).contains (i : Int))) (fun _ v12 => done.length - (intOf v12).toNat)
    case atStart => exact ⟨0, Nat.zero_le _, rfl, by simp⟩
    case round =>
     obtain ⟨k, hk, rfl, rfl⟩ := hrel
     by_cases hk2 : k < done.length
     ·have e1 : decide ((k : Int) < (done.length : Int)) = true := decide_eq_true (by omega)
      have e2 : decide (k < done.length) = true := decide_eq_true hk2
      have HCT := za.mk (zfr hk2 (i : Int))
      obtain ⟨b, hb⟩ : ∃ b, (done.take k).contains (i : Int) = b := ⟨_, rfl⟩
      rw [hb] at HCT ⊢
      clear hb
      cases b with
      | true =>
       go_wp2_with fail
       go_round
       case rel => exact ⟨k + 1, by omega, by go_num, by rw [HCT.out]; rfl⟩
       case measure => simp [intOf]; omega
      | false =>
       obtain ⟨ad, rfl, hx⟩ := Kd.zcL (Kd.zbR HIr.out.rd).2.2 (k : Int) (by omega) (by omega)
       have hrdk : rd done (k : Int) = done[k] := by simp [rd, hk2]
       obtain ⟨y, hy⟩ : ∃ y, done[k] = y := ⟨_, rfl⟩
       rw [hrdk, hy] at hx
       rw [hy] at HCT
       have q1 : ((k : Int) < (done.length : Int)) = True := eq_true (by omega)
       have q2 : (0 ≤ (k : Int)) = True := eq_true (by omega)
       rw [Int.toNat_natCast] at hx
       clear hrdk hy
       go_wp2_with fail
       go_round
       case rel => exact ⟨k + 1, by omega, by go_num, by rw [HCT.out, Bool.false_or]⟩
       case measure => simp [intOf]; omega
     ·obtain rfl : k = done.length := by omega
      rw [List.take_length]
      obtain ⟨b, hb⟩ : ∃ b, done.contains (i : Int) = b := ⟨_, rfl⟩
      rw [hb]
      have HC := za.mk hb
      clear hb
      have e1 : decide ((done.length : Int) < (done.length : Int)) = false := decide_eq_false (by omega)
      have e2 : decide (done.length < done.length) = false := decide_eq_false (by omega)
      cases b with
      | true =>
       have hnx := HN.out (by unfold zcJ; rw [if_pos HC.out])
       have HNX := za.mk hnx
       clear hnx HN HY
       go_wp2_with fail
       go_roundw
       case rel => exact ⟨i + 1, by omega, by go_num, HBr, HNX⟩
       case measure => simp [intOf]; omega
      | false =>
       obtain ⟨am, rfl, hx0, hx1, hx2⟩ := zbt HIr.out.rm (i : Int) (by omega) (by omega)
       have HG := za.mk (zff (zh ms (i : Int)))
       have HGF := za.mk (zh9 (zh ms (i : Int)))
       have HSO : za (zcJ ms most f done lines i = if most < lines + zbI (zh ms (i : Int)) then none else zbP ms most f (done ++ [(i : Int)]) (lines + zbI (zh ms (i : Int)))) := ⟨by unfold zcJ; rw [if_neg (by rw [HC.out]; decide)]⟩
       obtain ⟨mk, hmk⟩ : ∃ mk, zh ms (i : Int) = mk := ⟨_, rfl⟩
       rw [hmk] at hx0 hx1 hx2 HG HGF HSO
       obtain ⟨gr, hgr⟩ : ∃ gr, zbI mk = gr := ⟨_, rfl⟩
       rw [hgr] at HG HGF HSO
       rw [Int.toNat_natCast] at hx0 hx1 hx2
       clear hmk hgr
       have b1 : -1 ≤ gr := HG.out.1
       have b2 : gr ≤ 1 := HG.out.2
       have b3 : -100 ≤ lines := by have := HL.out.2.1; omega
       have b4 : lines ≤ 100 := by have := HL.out.2.2; omega
       have q1 : ((i : Int) < (ms.length : Int)) = True := eq_true (by omega)
       have hw : IntKind.i64.wrap (lines + gr) = lines + gr := IntWalk.i64_in (lines + gr) (by omega)
       have HX := za.mk (And.intro hx0 (And.intro hx1 hx2))
       go_wp2_with fail
       refine (za7.calls mk.f0 mk.f1 mk.f2 gr _ HGF.out).mono ?_
       rintro e w2 ⟨rfl, hb⟩
       by_cases hgt : most < lines + gr
       ·have e3 : decide (lines + gr > most) = true := decide_eq_true hgt
        have e4 : decide (most < lines + gr) = true := decide_eq_true hgt
        have NX := za.mk (HN.out (by rw [HSO.out, if_pos hgt]))
        have HB2 := za.mk (zo HBr.out hb)
        clear HN HY HSO hb hx0 hx1 hx2
        go_wp2_with fail
        go_roundw
        case rel => exact ⟨i + 1, by omega, by go_num, HB2, NX⟩
        case measure => simp [intOf]; omega
       ·have e3 : decide (lines + gr > most) = false := decide_eq_false hgt
        have e4 : decide (most < lines + gr) = false := decide_eq_false hgt
        obtain ⟨sub, hsub⟩ : ∃ r, zbP ms most f (done ++ [(i : Int)]) (lines + gr) = r := ⟨_, rfl⟩
        have hso := HSO.out
        rw [if_neg hgt, hsub] at hso
        have HSU := za.mk hsub
        have HSO2 := za.mk hso
        have HB2 := za.mk hb
        have HI2 := za.mk (HIr.out.below hb)
        clear HSO hso hsub hx0 hx1 hx2 hb
        go_upto_region 12 with fail
        go_cut [13, 14] (fun v13 v14 wc => v14 = .bool (zeB sub) ∧ za ((Kd.int .i64).R 3 wc base (fun _ => True) v13 (zfX sub)) ∧ za (Below w2.heap.size w2 wc))
        case first =>
         have hb := zf (Below.refl w2.heap.size w2)
         have HW := za.mk hb
         have HI3 := za.mk (HI2.out.below hb)
         obtain ⟨wd, hwd⟩ : ∃ W, w2.drew = W := ⟨_, rfl⟩
         have hS : ∀ W, Below wr.heap.size wr W → W.cell? (am.add (i * 3)) = some (.int .i64 mk.f0) ∧ W.cell? ⟨(am.add (i * 3)).block, (am.add (i * 3)).off + 1, none⟩ = some (.int .i64 mk.f1) ∧ W.cell? ⟨(am.add (i * 3)).block, (am.add (i * 3)).off + 2, none⟩ = some (.string mk.f2) := fun W h =>
          ⟨(h.cell (World.block_lt_of_cell? wr _ HX.out.1)).trans HX.out.1, (h.cell (World.block_lt_of_cell? wr _ HX.out.2.1)).trans HX.out.2.1, (h.cell (World.block_lt_of_cell? wr _ HX.out.2.2)).trans HX.out.2.2⟩
         have HSS := za.mk hS
         refine zaz (fun W => W.cell? (am.add (i * 3)) = some (.int .i64 mk.f0) ∧ W.cell? ⟨(am.add (i * 3)).block, (am.add (i * 3)).off + 1, none⟩ = some (.int .i64 mk.f1) ∧ W.cell? ⟨(am.add (i * 3)).block, (am.add (i * 3)).off + 2, none⟩ = some (.string mk.f2)) [] (by kernel_rfl) ?_
         rw [hwd] at HW HI3 ⊢
         clear hwd hb hS
         have HS := HSS.out wd (zo HB2.out HW.out)
         refine tk 0 ?_
         (try simp only [pu0, pu1, pu2, pu3, pu4])
         refine tk 2 ?_
         (try simp only [pu0, pu1, pu2, pu3, pu4])
         refine tk 4 ?_
         (try simp only [pu0, pu1, pu2, pu3, pu4])
         refine tk 7 ?_
         (try simp only [pu0, pu1, pu2, pu3, pu4])
         refine tk 8 ?_
         (try simp only [pu0, pu1, pu2, pu3, pu4])
         refine tk 9 ?_
         (try simp only [pu0, pu1, pu2, pu3, pu4])
         refine tk 10 ?_
         (try simp only [pu0, pu1, pu2, pu3, pu4])
         refine tk 11 ?_
         (try simp only [pu0, pu1, pu2, pu3, pu4])
         refine tk 14 ?_
         (try simp only [pu0, pu1, pu2, pu3, pu4])
         refine on2 1 5 (fun K hK => ?_) (fun K hK => ?_)
         ·skip
          clear HS
          refine Kd.zbL (Kd.int .i64) (w0 := wd) _ 3 ?hg (N := 56) ?hd (xs := ([] : List Int)) (inner := []) (ok := fun _ => True) (okp := fun _ => True) ?hr ?hp (fun _ hk => hk) trivial (Below.refl _ _) (Nat.le_refl _) (by simp) ?_
          case hd => rfl
          case hg => rfl
          case hr => first | (go_simp; done) | (go_simp; rfl)
          case hp => exact (zZ.none _ _)
          intro v56 wl hRl hbl hgl hnl
          have R56 := za.mk (Kd.zaQ hRl HW.out.size)
          replace HW := za.mk (zo HW.out hbl)
          replace HI3 := za.mk (HI3.out.below hbl)
          clear hRl hbl hgl hnl
          have HS := HSS.out wl (zo HB2.out HW.out)
          refine hK.out _ _ (fun _ => HS) ?_
          clear hK K
          (try simp only [pu0, pu1, pu2, pu3, pu4])
          refine on2 3 5 (fun K hK => ?_) (fun K hK => ?_)
          ·skip
           clear HS
           refine Kd.zaB (Kd.int .i64) (w0 := w2) w2.heap.size (by rfl) _ _ 23 3 _ 8 (by rfl) Try.underlying23 info3 rfl (by decide) (by decide) v56 [] done A1 done.length _ (fun _ => True) (fun _ => False) (by rfl) (by rfl) R56.out (zaS HI3.out.rd).1 (fun _ _ h => h) (fun _ h => h.elim) (fun _ _ => trivial) HW.out HW.out.size (by have := HL.out.1; simp; omega) ?_
           intro v58 wz hR58 hbz hgz hatz
           rw [List.nil_append] at hR58
           have R58 := za.mk hR58
           replace HW := za.mk hbz
           replace HI3 := za.mk (HI2.out.below hbz)
           clear hR58 hbz hgz hatz R56
           have HS := HSS.out wz (zo HB2.out HW.out)
           refine hK.out _ _ (fun _ => HS) ?_
           clear hK K
           (try simp only [pu0, pu1, pu2, pu3, pu4])
           refine on1 5 fun K hK => ?_
           clear HS
           go_simp
           have hbk := ze (Below.refl wz.heap.size wz) (.cells #[.int .i64 i] 3)
           have B60 := za.mk (heap_alloc_new wz (.cells #[.int .i64 i] 3))
           obtain ⟨g60, hg60⟩ : ∃ g, wz.heap.size = g := ⟨_, rfl⟩
           have G60 := za.mk hg60
           obtain ⟨wy, hwl⟩ : ∃ W, wz.alloc (.cells #[.int .i64 i] 3) = W := ⟨_, rfl⟩
           replace R58 := za.mk (Kd.zN R58.out hbk)
           replace HW := za.mk (zo HW.out hbk)
           replace HI3 := za.mk (HI3.out.below hbk)
           rw [hwl] at R58 B60 HW HI3 ⊢
           rw [hg60] at B60 ⊢
           clear hwl hg60 hbk
           have HS := HSS.out wy (zo HB2.out HW.out)
           refine hK.out _ _ (fun _ => HS) ?_
           clear hK K
           (try simp only [pu0, pu1, pu2, pu3, pu4])
           refine on1 6 fun K hK => ?_
           clear HS
           refine Kd.zaB (Kd.int .i64) (w0 := w2) w2.heap.size (by rfl) _ _ 23 3 _ 8 (by rfl) Try.underlying23 info3 rfl (by decide) (by decide) v58 done [(i : Int)] (some ⟨g60, 0, none⟩) 1 _ (fun _ => True) (fun _ => False) (by rfl) (by rfl) R58.out (zd9 (xs := [(i : Int)]) B60.out rfl (by simp [maxLen])) (fun _ _ h => h) (fun _ h => h.elim) (fun _ _ => trivial) HW.out HW.out.size (by have := HL.out.1; omega) ?_
           intro v61 wa hR61 hba hga hata
           have R61 := za.mk hR61
           replace HW := za.mk hba
           replace HI3 := za.mk (HI2.out.below hba)
           clear hR61 hba hga hata R58 B60
           have HS := HSS.out wa (zo HB2.out HW.out)
           refine hK.out _ _ (fun _ => HS) ?_
           clear hK K
           (try simp only [pu0, pu1, pu2, pu3, pu4])
           refine on1 12 fun K hK => ?_
           clear HS
           refine zbh Try.func103 (by kernel_rfl) rfl #[.agg #[.int .i64 mk.f0, .int .i64 mk.f1, .string mk.f2]] (by rfl) rfl rfl (by simp only [List.map_toArray, List.map_cons, List.map_nil]; rfl) ?_
           refine (za7.calls mk.f0 mk.f1 mk.f2 gr wa HGF.out).mono ?_
           rintro e wb ⟨rfl, hb⟩
           refine ⟨_, rfl, ?_⟩
           replace R61 := za.mk (Kd.zN R61.out hb)
           replace HW := za.mk (zo HW.out hb)
           replace HI3 := za.mk (HI3.out.below hb)
           clear hb
           have HS := HSS.out wb (zo HB2.out HW.out)
           refine hK.out _ _ (fun _ => HS) ?_
           clear hK K
           (try simp only [pu0, pu1, pu2, pu3, pu4])
           refine tk 13 ?_
           (try simp only [pu0, pu1, pu2, pu3, pu4])
           refine on1 15 fun K hK => ?_
           clear HS
           obtain ⟨A61, c61, rfl, _, _⟩ := Kd.zan R61.out
           refine zbh Try.func70 (by kernel_rfl) rfl #[.slice (some am) ms.length c0, .slice A61 (done ++ [(i : Int)]).length c61, .int .i64 (lines + gr), .int .i64 most] (by rfl) rfl rfl (by simp only [List.map_toArray, List.map_cons, List.map_nil]; rfl) ?_
           refine (IH.out (done ++ [(i : Int)]) (lines + gr) (some am) c0 _ base wb (by have := HL.out.1; simp; omega) (by have := HL.out.2.1; omega) (by have := HL.out.2.2; omega) ⟨HI3.out.rm, HI3.out.hm, Kd.zaQ R61.out (Nat.le_trans HI2.out.hb (Nat.le_refl _)), HI3.out.hb⟩).mono ?_
           rintro e wc ⟨vr, rfl, hRr, hb⟩
           refine ⟨_, rfl, ?_⟩
           rw [HSU.out] at hRr ⊢
           have RR := za.mk hRr
           clear hRr R61
           replace HW := za.mk (zo HW.out hb)
           replace HI3 := za.mk (HI3.out.below hb)
           clear hb
           have HS := HSS.out wc (zo HB2.out HW.out)
           refine hK.out _ _ (fun _ => HS) ?_
           clear hK K
           (try simp only [pu0, pu1, pu2, pu3, pu4])
           refine tk 16 ?_
           (try simp only [pu0, pu1, pu2, pu3, pu4])
           refine tk 17 ?_
           (try simp only [pu0, pu1, pu2, pu3, pu4])
           refine tk 18 ?_
           (try simp only [pu0, pu1, pu2, pu3, pu4])
           refine tk 19 ?_
           (try simp only [pu0, pu1, pu2, pu3, pu4])
           refine tk 20 ?_
           (try simp only [pu0, pu1, pu2, pu3, pu4])
           refine zal (by kernel_rfl) ?_ _
           clear HS
           go_wp2_with fail
           go_meet
           case rel => exact ⟨rfl, RR, HW⟩
          ·skip
           clear HS
           go_simp
           have hbk := ze (Below.refl wl.heap.size wl) (.cells #[.int .i64 i] 3)
           have B60 := za.mk (heap_alloc_new wl (.cells #[.int .i64 i] 3))
           obtain ⟨g60, hg60⟩ : ∃ g, wl.heap.size = g := ⟨_, rfl⟩
           have G60 := za.mk hg60
           obtain ⟨wy, hwl⟩ : ∃ W, wl.alloc (.cells #[.int .i64 i] 3) = W := ⟨_, rfl⟩
           have HNE : za (some g60 ≠ v56.ownBlock) := ⟨fun h => by have := Kd.zic R56.out g60 h.symm; rw [← hg60] at this; exact Nat.lt_irrefl _ this⟩
           replace R56 := za.mk (Kd.zN R56.out hbk)
           replace HW := za.mk (zo HW.out hbk)
           replace HI3 := za.mk (HI3.out.below hbk)
           rw [hwl] at R56 B60 HW HI3 ⊢
           rw [hg60] at B60 ⊢
           clear hwl hg60 hbk
           have HS := HSS.out wy (zo HB2.out HW.out)
           refine hK.out _ _ (fun _ => HS) ?_
           clear hK K
           (try simp only [pu0, pu1, pu2, pu3, pu4])
           refine on1 3 fun K hK => ?_
           clear HS
           refine Kd.zaB (Kd.int .i64) (w0 := w2) w2.heap.size (by rfl) _ _ 23 3 _ 8 (by rfl) Try.underlying23 info3 rfl (by decide) (by decide) v56 [] done A1 done.length _ (fun _ => True) (fun _ => False) (by rfl) (by rfl) R56.out (zaS HI3.out.rd).1 (fun _ _ h => h) (fun _ h => h.elim) (fun _ _ => trivial) HW.out HW.out.size (by have := HL.out.1; simp; omega) ?_
           intro v58 wz hR58 hbz hgz hatz
           rw [List.nil_append] at hR58
           have R58 := za.mk hR58
           replace B60 := za.mk (zaJ B60.out hgz HNE.out)
           replace HW := za.mk hbz
           replace HI3 := za.mk (HI2.out.below hbz)
           clear hR58 hbz hgz hatz R56 HNE
           have HS := HSS.out wz (zo HB2.out HW.out)
           refine hK.out _ _ (fun _ => HS) ?_
           clear hK K
           (try simp only [pu0, pu1, pu2, pu3, pu4])
           refine on1 6 fun K hK => ?_
           clear HS
           refine Kd.zaB (Kd.int .i64) (w0 := w2) w2.heap.size (by rfl) _ _ 23 3 _ 8 (by rfl) Try.underlying23 info3 rfl (by decide) (by decide) v58 done [(i : Int)] (some ⟨g60, 0, none⟩) 1 _ (fun _ => True) (fun _ => False) (by rfl) (by rfl) R58.out (zd9 (xs := [(i : Int)]) B60.out rfl (by simp [maxLen])) (fun _ _ h => h) (fun _ h => h.elim) (fun _ _ => trivial) HW.out HW.out.size (by have := HL.out.1; omega) ?_
           intro v61 wa hR61 hba hga hata
           have R61 := za.mk hR61
           replace HW := za.mk hba
           replace HI3 := za.mk (HI2.out.below hba)
           clear hR61 hba hga hata R58 B60
           have HS := HSS.out wa (zo HB2.out HW.out)
           refine hK.out _ _ (fun _ => HS) ?_
           clear hK K
           (try simp only [pu0, pu1, pu2, pu3, pu4])
           refine on1 12 fun K hK => ?_
           clear HS
           refine zbh Try.func103 (by kernel_rfl) rfl #[.agg #[.int .i64 mk.f0, .int .i64 mk.f1, .string mk.f2]] (by rfl) rfl rfl (by simp only [List.map_toArray, List.map_cons, List.map_nil]; rfl) ?_
           refine (za7.calls mk.f0 mk.f1 mk.f2 gr wa HGF.out).mono ?_
           rintro e wb ⟨rfl, hb⟩
           refine ⟨_, rfl, ?_⟩
           replace R61 := za.mk (Kd.zN R61.out hb)
           replace HW := za.mk (zo HW.out hb)
           replace HI3 := za.mk (HI3.out.below hb)
           clear hb
           have HS := HSS.out wb (zo HB2.out HW.out)
           refine hK.out _ _ (fun _ => HS) ?_
           clear hK K
           (try simp only [pu0, pu1, pu2, pu3, pu4])
           refine tk 13 ?_
           (try simp only [pu0, pu1, pu2, pu3, pu4])
           refine on1 15 fun K hK => ?_
           clear HS
           obtain ⟨A61, c61, rfl, _, _⟩ := Kd.zan R61.out
           refine zbh Try.func70 (by kernel_rfl) rfl #[.slice (some am) ms.length c0, .slice A61 (done ++ [(i : Int)]).length c61, .int .i64 (lines + gr), .int .i64 most] (by rfl) rfl rfl (by simp only [List.map_toArray, List.map_cons, List.map_nil]; rfl) ?_
           refine (IH.out (done ++ [(i : Int)]) (lines + gr) (some am) c0 _ base wb (by have := HL.out.1; simp; omega) (by have := HL.out.2.1; omega) (by have := HL.out.2.2; omega) ⟨HI3.out.rm, HI3.out.hm, Kd.zaQ R61.out (Nat.le_trans HI2.out.hb (Nat.le_refl _)), HI3.out.hb⟩).mono ?_
           rintro e wc ⟨vr, rfl, hRr, hb⟩
           refine ⟨_, rfl, ?_⟩
           rw [HSU.out] at hRr ⊢
           have RR := za.mk hRr
           clear hRr R61
           replace HW := za.mk (zo HW.out hb)
           replace HI3 := za.mk (HI3.out.below hb)
           clear hb
           have HS := HSS.out wc (zo HB2.out HW.out)
           refine hK.out _ _ (fun _ => HS) ?_
           clear hK K
           (try simp only [pu0, pu1, pu2, pu3, pu4])
           refine tk 16 ?_
           (try simp only [pu0, pu1, pu2, pu3, pu4])
           refine tk 17 ?_
           (try simp only [pu0, pu1, pu2, pu3, pu4])
           refine tk 18 ?_
           (try simp only [pu0, pu1, pu2, pu3, pu4])
           refine tk 19 ?_
           (try simp only [pu0, pu1, pu2, pu3, pu4])
           refine tk 20 ?_
           (try simp only [pu0, pu1, pu2, pu3, pu4])
           refine zal (by kernel_rfl) ?_ _
           clear HS
           go_wp2_with fail
           go_meet
           case rel => exact ⟨rfl, RR, HW⟩
         ·skip
          clear HS
          go_simp
          have hbk := ze (Below.refl wd.heap.size wd) (.cells #[.int .i64 i] 3)
          have B60 := za.mk (heap_alloc_new wd (.cells #[.int .i64 i] 3))
          obtain ⟨g60, hg60⟩ : ∃ g, wd.heap.size = g := ⟨_, rfl⟩
          have G60 := za.mk hg60
          obtain ⟨wy, hwl⟩ : ∃ W, wd.alloc (.cells #[.int .i64 i] 3) = W := ⟨_, rfl⟩
          replace HW := za.mk (zo HW.out hbk)
          replace HI3 := za.mk (HI3.out.below hbk)
          rw [hwl] at B60 HW HI3 ⊢
          rw [hg60] at B60 ⊢
          clear hwl hg60 hbk
          have HS := HSS.out wy (zo HB2.out HW.out)
          refine hK.out _ _ (fun _ => HS) ?_
          clear hK K
          (try simp only [pu0, pu1, pu2, pu3, pu4])
          refine on1 1 fun K hK => ?_
          clear HS
          refine Kd.zbL (Kd.int .i64) (w0 := wy) _ 3 ?hg (N := 56) ?hd (xs := ([] : List Int)) (inner := []) (ok := fun _ => True) (okp := fun _ => True) ?hr ?hp (fun _ hk => hk) trivial (Below.refl _ _) (Nat.le_refl _) (by simp) ?_
          case hd => rfl
          case hg => rfl
          case hr => first | (go_simp; done) | (go_simp; rfl)
          case hp => exact (zZ.none _ _)
          intro v56 wl hRl hbl hgl hnl
          have R56 := za.mk (Kd.zaQ hRl HW.out.size)
          have HNE : za (some g60 ≠ v56.ownBlock) := ⟨fun h => by
           obtain ⟨bb, h1, h2⟩ := hnl
           have h3 := zR B60.out
           rw [h1] at h
           injection h with h
           omega⟩
          replace B60 := za.mk (zF B60.out hbl)
          replace HW := za.mk (zo HW.out hbl)
          replace HI3 := za.mk (HI3.out.below hbl)
          clear hRl hbl hgl hnl
          have HS := HSS.out wl (zo HB2.out HW.out)
          refine hK.out _ _ (fun _ => HS) ?_
          clear hK K
          (try simp only [pu0, pu1, pu2, pu3, pu4])
          refine on1 3 fun K hK => ?_
          clear HS
          refine Kd.zaB (Kd.int .i64) (w0 := w2) w2.heap.size (by rfl) _ _ 23 3 _ 8 (by rfl) Try.underlying23 info3 rfl (by decide) (by decide) v56 [] done A1 done.length _ (fun _ => True) (fun _ => False) (by rfl) (by rfl) R56.out (zaS HI3.out.rd).1 (fun _ _ h => h) (fun _ h => h.elim) (fun _ _ => trivial) HW.out HW.out.size (by have := HL.out.1; simp; omega) ?_
          intro v58 wz hR58 hbz hgz hatz
          rw [List.nil_append] at hR58
          have R58 := za.mk hR58
          replace B60 := za.mk (zaJ B60.out hgz HNE.out)
          replace HW := za.mk hbz
          replace HI3 := za.mk (HI2.out.below hbz)
          clear hR58 hbz hgz hatz R56 HNE
          have HS := HSS.out wz (zo HB2.out HW.out)
          refine hK.out _ _ (fun _ => HS) ?_
          clear hK K
          (try simp only [pu0, pu1, pu2, pu3, pu4])
          refine on1 6 fun K hK => ?_
          clear HS
          refine Kd.zaB (Kd.int .i64) (w0 := w2) w2.heap.size (by rfl) _ _ 23 3 _ 8 (by rfl) Try.underlying23 info3 rfl (by decide) (by decide) v58 done [(i : Int)] (some ⟨g60, 0, none⟩) 1 _ (fun _ => True) (fun _ => False) (by rfl) (by rfl) R58.out (zd9 (xs := [(i : Int)]) B60.out rfl (by simp [maxLen])) (fun _ _ h => h) (fun _ h => h.elim) (fun _ _ => trivial) HW.out HW.out.size (by have := HL.out.1; omega) ?_
          intro v61 wa hR61 hba hga hata
          have R61 := za.mk hR61
          replace HW := za.mk hba
          replace HI3 := za.mk (HI2.out.below hba)
          clear hR61 hba hga hata R58 B60
          have HS := HSS.out wa (zo HB2.out HW.out)
          refine hK.out _ _ (fun _ => HS) ?_
          clear hK K
          (try simp only [pu0, pu1, pu2, pu3, pu4])
          refine on1 12 fun K hK => ?_
          clear HS
          refine zbh Try.func103 (by kernel_rfl) rfl #[.agg #[.int .i64 mk.f0, .int .i64 mk.f1, .string mk.f2]] (by rfl) rfl rfl (by simp only [List.map_toArray, List.map_cons, List.map_nil]; rfl) ?_
          refine (za7.calls mk.f0 mk.f1 mk.f2 gr wa HGF.out).mono ?_
          rintro e wb ⟨rfl, hb⟩
          refine ⟨_, rfl, ?_⟩
          replace R61 := za.mk (Kd.zN R61.out hb)
          replace HW := za.mk (zo HW.out hb)
          replace HI3 := za.mk (HI3.out.below hb)
          clear hb
          have HS := HSS.out wb (zo HB2.out HW.out)
          refine hK.out _ _ (fun _ => HS) ?_
          clear hK K
          (try simp only [pu0, pu1, pu2, pu3, pu4])
          refine tk 13 ?_
          (try simp only [pu0, pu1, pu2, pu3, pu4])
          refine on1 15 fun K hK => ?_
          clear HS
          obtain ⟨A61, c61, rfl, _, _⟩ := Kd.zan R61.out
          refine zbh Try.func70 (by kernel_rfl) rfl #[.slice (some am) ms.length c0, .slice A61 (done ++ [(i : Int)]).length c61, .int .i64 (lines + gr), .int .i64 most] (by rfl) rfl rfl (by simp only [List.map_toArray, List.map_cons, List.map_nil]; rfl) ?_
          refine (IH.out (done ++ [(i : Int)]) (lines + gr) (some am) c0 _ base wb (by have := HL.out.1; simp; omega) (by have := HL.out.2.1; omega) (by have := HL.out.2.2; omega) ⟨HI3.out.rm, HI3.out.hm, Kd.zaQ R61.out (Nat.le_trans HI2.out.hb (Nat.le_refl _)), HI3.out.hb⟩).mono ?_
          rintro e wc ⟨vr, rfl, hRr, hb⟩
          refine ⟨_, rfl, ?_⟩
          rw [HSU.out] at hRr ⊢
          have RR := za.mk hRr
          clear hRr R61
          replace HW := za.mk (zo HW.out hb)
          replace HI3 := za.mk (HI3.out.below hb)
          clear hb
          have HS := HSS.out wc (zo HB2.out HW.out)
          refine hK.out _ _ (fun _ => HS) ?_
          clear hK K
          (try simp only [pu0, pu1, pu2, pu3, pu4])
          refine tk 16 ?_
          (try simp only [pu0, pu1, pu2, pu3, pu4])
          refine tk 17 ?_
          (try simp only [pu0, pu1, pu2, pu3, pu4])
          refine tk 18 ?_
          (try simp only [pu0, pu1, pu2, pu3, pu4])
          refine tk 19 ?_
          (try simp only [pu0, pu1, pu2, pu3, pu4])
          refine tk 20 ?_
          (try simp only [pu0, pu1, pu2, pu3, pu4])
          refine zal (by kernel_rfl) ?_ _
          clear HS
          go_wp2_with fail
          go_meet
          case rel => exact ⟨rfl, RR, HW⟩
        case rest =>
         obtain ⟨rfl, HRR, HWW⟩ := hcut
         obtain ⟨A13, c13, rfl, _, _⟩ := Kd.zan HRR.out
         have HB3 := za.mk (zo (zo HBr.out HB2.out) HWW.out)
         cases sub with
         | none =>
          have NX := za.mk (HN.out HSO2.out)
          clear HN HY HSO2
          simp only [zeB]
          go_wp2_with fail
          go_roundw
          case rel => exact ⟨i + 1, by omega, by go_num, HB3, NX⟩
          case measure => simp [intOf]; omega
         | some x =>
          have HYX := za.mk (HY.out x HSO2.out)
          clear HN HY HSO2
          simp only [zeB, zfX] at HRR ⊢
          go_wp2_with fail
          go_ret2
          rw [← HYX.out]
          exact ⟨_, rfl, HRR.out, HB3.out⟩
   ·obtain rfl : i = ms.length := by omega
    have e1 : decide ((ms.length : Int) < (ms.length : Int)) = false := decide_eq_false (by omega)
    have e2 : decide (ms.length < ms.length) = false := decide_eq_false (by omega)
    have hn : res = none := by
     have h := HFr.out
     rw [List.drop_eq_nil_of_le (by simp), List.findSome?_nil] at h
     exact h.symm
    subst hn
    go_wp2_with fail
    go_ret2
    exact ⟨_, rfl, Kd.zbp _ _ _ _ _, HBr.out⟩
def zaT.f (l0 : List S63) (l1 : List Int) (a2 a3 : Int) : Option (List Int × Bool) :=
 if l0.length ≤ 5 ∧ l1 = [] ∧ 0 ≤ a2 ∧ a2 ≤ 90 then some (zfX (zbP l0 a3 l0.length [] a2), zeB (zbP l0 a3 l0.length [] a2)) else none
theorem zaT.calls (A0 : Option Addr) (c0 : Nat) (l0 : List S63) (A1 : Option Addr) (c1 : Nat) (l1 : List Int) (a2 a3 : Int) (r1 : List Int) (r2 : Bool) (w : World) (hr0 : Kd.C k63 w A0 l0.length l0) (hc0 : l0.length ≤ c0) (hr1 : Kd.C (Kd.int .i64) w A1 l1.length l1) (hc1 : l1.length ≤ c1)
  (h : zaT.f l0 l1 a2 a3 = some (r1, r2)) (hA : A1 = none := by rfl) (hC : c1 = 0 := by rfl) :
  Calls Try.prog 70 #[.slice A0 l0.length c0, .slice A1 l1.length c1, .int .i64 a2, .int .i64 a3] w fun e w' => ∃ v0_ : Value, e = .returned (.tuple #[v0_, .bool r2]) ∧ Kd.R (Kd.int .i64) 3 w' w.heap.size (fun _ => True) v0_ r1 ∧ Below w.heap.size w w' := by
 unfold zaT.f at h
 by_cases hb : l0.length ≤ 5 ∧ l1 = [] ∧ 0 ≤ a2 ∧ a2 ≤ 90
 ·rw [if_pos hb] at h
  simp only [Option.some.injEq, Prod.mk.injEq] at h
  obtain ⟨rfl, rfl⟩ := h
  obtain ⟨h1, rfl, h2, h3⟩ := hb
  subst hA hC
  exact zhD l0 h1 a3 l0.length [] a2 A0 c0 _ w.heap.size w (by simp) (by omega) (by omega) ⟨hr0, hc0, Kd.zbp _ _ _ _ _, Nat.le_refl _⟩
 ·rw [if_neg hb] at h; cases h
def zbF.f (k : Nat) (l0 : List ByteArray) (l1 : List (S63)) (a2 : Int) : Option (List Int × Int) := (zaM.f k l0 l1).bind fun t283 => (if t283 = 0 then (if (l1.length : Int) > 5 then (some (([] : List Int), 6)) else (if a2 < 0 then (some (([] : List Int), 1)) else (if (l0.length : Int) > a2 then (some (([] : List Int), 12)) else ((zaT.f l1 ([] : List Int) (l0.length : Int) a2).bind fun bt284 => (if bt284.2 = true then (some (bt284.1, 0)) else (some (([] : List Int), 11))))))) else (some (([] : List Int), t283)))
set_option maxHeartbeats 8000000 in
set_option maxRecDepth 100000 in
theorem zbF.calls (k : Nat) (A0 : Option Addr) (c0 : Nat) (l0 : List ByteArray) (A1 : Option Addr) (c1 : Nat) (l1 : List (S63)) (a2 : Int) (r1 : List Int) (r2 : Int) (w : World) (hr0 : Kd.C Kd.string w A0 l0.length l0) (hc0 : l0.length ≤ c0) (hr1 : Kd.C k63 w A1 l1.length l1) (hc1 : l1.length ≤ c1) (h : zbF.f k l0 l1 a2 = some (r1, r2)) :
  Calls Try.prog 30 #[.slice A0 l0.length c0, .slice A1 l1.length c1, .int .i64 a2] w fun e w' => ∃ v0_ : Value, e = .returned (.tuple #[v0_, .int .i64 r2]) ∧ Kd.R (Kd.int .i64) 3 w' w.heap.size (fun _ => True) v0_ r1 ∧ Below w.heap.size w w' := by
 have HR0 := za.mk hr0
 have HC0 := za.mk hc0
 clear hr0 hc0
 have HR1 := za.mk hr1
 have HC1 := za.mk hc1
 clear hr1 hc1
 have HB := za.mk (Below.refl w.heap.size w)
 have H : ((zaM.f k l0 l1).bind fun t283 => (if t283 = 0 then (if (l1.length : Int) > 5 then (some (([] : List Int), 6)) else (if a2 < 0 then (some (([] : List Int), 1)) else (if (l0.length : Int) > a2 then (some (([] : List Int), 12)) else ((zaT.f l1 ([] : List Int) (l0.length : Int) a2).bind fun bt284 => (if bt284.2 = true then (some (bt284.1, 0)) else (some (([] : List Int), 11))))))) else (some (([] : List Int), t283)))) = some (r1, r2) := h
 clear h
 replace H := Option.bind_eq_some_iff.mp H
 obtain ⟨t283, A40, H⟩ := H
 replace H : (if t283 = 0 then (if (l1.length : Int) > 5 then (some (([] : List Int), 6)) else (if a2 < 0 then (some (([] : List Int), 1)) else (if (l0.length : Int) > a2 then (some (([] : List Int), 12)) else ((zaT.f l1 ([] : List Int) (l0.length : Int) a2).bind fun bt284 => (if bt284.2 = true then (some (bt284.1, 0)) else (some (([] : List Int), 11))))))) else (some (([] : List Int), t283))) = some (r1, r2) := H
 have A4 := za.mk A40
 clear A40
 by_cases c5 : t283 = 0
 ·rw [if_pos c5] at H
  have c5b0 : (t283 == 0) = true := beq_iff_eq.mpr c5
  have c5b1 : (t283 != 0) = false := bne_eq_false_iff_eq.mpr c5
  clear c5
  by_cases c6 : (l1.length : Int) > 5
  ·rw [if_pos c6] at H
   have c6b0 : decide (5 < (l1.length : Int)) = true := decide_eq_true c6
   have c6b1 : decide (5 < l1.length) = true := decide_eq_true (by omega)
   clear c6
   simp only [Option.some.injEq, Prod.mk.injEq] at H
   obtain ⟨rfl, rfl⟩ := H
   go_enter Try.func30, Try.ntmps30
   go_wp2_with (first | ((with_reducible refine zB (f := 69) rfl ?_); refine zS (some 13) rfl rfl Try.func69 (by kernel_rfl) rfl #[.slice A0 l0.length c0, .slice A1 l1.length c1] rfl (by (try simp only [List.map_toArray, List.map_cons, List.map_nil]); first | done | rfl | (simp only [List.length_drop, List.length_take]; rfl)) ?_; (with_reducible refine (zaM.calls k _ _ l0 _ _ l1 t283 _ ?side1 ?side2 ?side3 ?side4 A4.out).mono ?_); (case side1 => repeat (first | exact HR0.out | (with_reducible refine Kd.zY ?_ _) | (with_reducible refine Kd.zX ?_ _) | (with_reducible refine Kd.zai ?_))); (case side2 => exact HC0.out); (case side3 => repeat (first | exact HR1.out | (with_reducible refine Kd.zY ?_ _) | (with_reducible refine Kd.zX ?_ _) | (with_reducible refine Kd.zai ?_))); (case side4 => exact HC1.out); rintro e w7 ⟨rfl, hb⟩; refine ⟨_, rfl, ?_⟩; have n0_ := za.mk (zo (by repeat (first | (with_reducible first | exact HB.out | apply ze | apply zb | apply zf) | exact HB.out)) hb); clear HB; have HB := n0_; clear n0_; (try clear hb); (try clear hb2); (try clear hk); (try clear hi)))
   go_ret2
   exact ⟨_, by first | rfl | (simp [zu, zt] <;> rfl) | (simp [*, zu, zt] <;> rfl), by first | exact Kd.zbp _ _ _ _ _ | exact Kd.zcD _ _ _ _ _ | exact Kd.zcC _ _ _ _ _ | exact Kd.zcB _ _ _ _ _ | exact Kd.zcE _ _ _ _ _, by repeat (first | (with_reducible first | exact HB.out | apply ze | apply zb | apply zf) | exact HB.out)⟩
  ·rw [if_neg c6] at H
   have c6b0 : decide (5 < (l1.length : Int)) = false := decide_eq_false c6
   have c6b1 : decide (5 < l1.length) = false := decide_eq_false (by omega)
   clear c6
   by_cases c8 : a2 < 0
   ·rw [if_pos c8] at H
    have c8b0 : decide (a2 < 0) = true := decide_eq_true c8
    clear c8
    simp only [Option.some.injEq, Prod.mk.injEq] at H
    obtain ⟨rfl, rfl⟩ := H
    go_enter Try.func30, Try.ntmps30
    go_wp2_with (first | ((with_reducible refine zB (f := 69) rfl ?_); refine zS (some 13) rfl rfl Try.func69 (by kernel_rfl) rfl #[.slice A0 l0.length c0, .slice A1 l1.length c1] rfl (by (try simp only [List.map_toArray, List.map_cons, List.map_nil]); first | done | rfl | (simp only [List.length_drop, List.length_take]; rfl)) ?_; (with_reducible refine (zaM.calls k _ _ l0 _ _ l1 t283 _ ?side1 ?side2 ?side3 ?side4 A4.out).mono ?_); (case side1 => repeat (first | exact HR0.out | (with_reducible refine Kd.zY ?_ _) | (with_reducible refine Kd.zX ?_ _) | (with_reducible refine Kd.zai ?_))); (case side2 => exact HC0.out); (case side3 => repeat (first | exact HR1.out | (with_reducible refine Kd.zY ?_ _) | (with_reducible refine Kd.zX ?_ _) | (with_reducible refine Kd.zai ?_))); (case side4 => exact HC1.out); rintro e w9 ⟨rfl, hb⟩; refine ⟨_, rfl, ?_⟩; have n0_ := za.mk (zo (by repeat (first | (with_reducible first | exact HB.out | apply ze | apply zb | apply zf) | exact HB.out)) hb); clear HB; have HB := n0_; clear n0_; (try clear hb); (try clear hb2); (try clear hk); (try clear hi)))
    go_ret2
    exact ⟨_, by first | rfl | (simp [zu, zt] <;> rfl) | (simp [*, zu, zt] <;> rfl), by first | exact Kd.zbp _ _ _ _ _ | exact Kd.zcD _ _ _ _ _ | exact Kd.zcC _ _ _ _ _ | exact Kd.zcB _ _ _ _ _ | exact Kd.zcE _ _ _ _ _, by repeat (first | (with_reducible first | exact HB.out | apply ze | apply zb | apply zf) | exact HB.out)⟩
   ·rw [if_neg c8] at H
    have c8b0 : decide (a2 < 0) = false := decide_eq_false c8
    clear c8
    by_cases c10 : (l0.length : Int) > a2
    ·rw [if_pos c10] at H
     have c10b0 : decide (a2 < (l0.length : Int)) = true := decide_eq_true c10
     clear c10
     simp only [Option.some.injEq, Prod.mk.injEq] at H
     obtain ⟨rfl, rfl⟩ := H
     go_enter Try.func30, Try.ntmps30
     go_wp2_with (first | ((with_reducible refine zB (f := 69) rfl ?_); refine zS (some 13) rfl rfl Try.func69 (by kernel_rfl) rfl #[.slice A0 l0.length c0, .slice A1 l1.length c1] rfl (by (try simp only [List.map_toArray, List.map_cons, List.map_nil]); first | done | rfl | (simp only [List.length_drop, List.length_take]; rfl)) ?_; (with_reducible refine (zaM.calls k _ _ l0 _ _ l1 t283 _ ?side1 ?side2 ?side3 ?side4 A4.out).mono ?_); (case side1 => repeat (first | exact HR0.out | (with_reducible refine Kd.zY ?_ _) | (with_reducible refine Kd.zX ?_ _) | (with_reducible refine Kd.zai ?_))); (case side2 => exact HC0.out); (case side3 => repeat (first | exact HR1.out | (with_reducible refine Kd.zY ?_ _) | (with_reducible refine Kd.zX ?_ _) | (with_reducible refine Kd.zai ?_))); (case side4 => exact HC1.out); rintro e w11 ⟨rfl, hb⟩; refine ⟨_, rfl, ?_⟩; have n0_ := za.mk (zo (by repeat (first | (with_reducible first | exact HB.out | apply ze | apply zb | apply zf) | exact HB.out)) hb); clear HB; have HB := n0_; clear n0_; (try clear hb); (try clear hb2); (try clear hk); (try clear hi)))
     go_ret2
     exact ⟨_, by first | rfl | (simp [zu, zt] <;> rfl) | (simp [*, zu, zt] <;> rfl), by first | exact Kd.zbp _ _ _ _ _ | exact Kd.zcD _ _ _ _ _ | exact Kd.zcC _ _ _ _ _ | exact Kd.zcB _ _ _ _ _ | exact Kd.zcE _ _ _ _ _, by repeat (first | (with_reducible first | exact HB.out | apply ze | apply zb | apply zf) | exact HB.out)⟩
    ·rw [if_neg c10] at H
     have c10b0 : decide (a2 < (l0.length : Int)) = false := decide_eq_false c10
     clear c10
     replace H := Option.bind_eq_some_iff.mp H
     obtain ⟨⟨t284, t285⟩, A120, H⟩ := H
     replace H : (if t285 = true then (some (t284, 0)) else (some (([] : List Int), 11))) = some (r1, r2) := H
     have A12 := za.mk A120
     clear A120
     by_cases c13 : t285 = true
     ·subst c13
      have H1 : (some (t284, 0)) = some (r1, r2) := by rw [if_pos rfl] at H; exact H
      clear H
      have H := H1
      clear H1
      simp only [Option.some.injEq, Prod.mk.injEq] at H
      obtain ⟨rfl, rfl⟩ := H
      go_enter Try.func30, Try.ntmps30
      go_wp2_with (first | ((with_reducible refine zB (f := 69) rfl ?_); refine zS (some 13) rfl rfl Try.func69 (by kernel_rfl) rfl #[.slice A0 l0.length c0, .slice A1 l1.length c1] rfl (by (try simp only [List.map_toArray, List.map_cons, List.map_nil]); first | done | rfl | (simp only [List.length_drop, List.length_take]; rfl)) ?_; (with_reducible refine (zaM.calls k _ _ l0 _ _ l1 t283 _ ?side1 ?side2 ?side3 ?side4 A4.out).mono ?_); (case side1 => repeat (first | exact HR0.out | (with_reducible refine Kd.zY ?_ _) | (with_reducible refine Kd.zX ?_ _) | (with_reducible refine Kd.zai ?_))); (case side2 => exact HC0.out); (case side3 => repeat (first | exact HR1.out | (with_reducible refine Kd.zY ?_ _) | (with_reducible refine Kd.zX ?_ _) | (with_reducible refine Kd.zai ?_))); (case side4 => exact HC1.out); rintro e w14 ⟨rfl, hb⟩; refine ⟨_, rfl, ?_⟩; have n0_ := za.mk (zo (by repeat (first | (with_reducible first | exact HB.out | apply ze | apply zb | apply zf) | exact HB.out)) hb); clear HB; have HB := n0_; clear n0_; (try clear hb); (try clear hb2); (try clear hk); (try clear hi)) | ((with_reducible refine zB (f := 70) rfl ?_); refine zS (some 31) rfl rfl Try.func70 (by kernel_rfl) rfl #[.slice A1 l1.length c1, .slice none 0 0, .int .i64 (l0.length : Int), .int .i64 a2] rfl (by (try simp only [List.map_toArray, List.map_cons, List.map_nil]); first | done | rfl | (simp only [List.length_drop, List.length_take]; rfl)) ?_; (refine (zaT.calls _ _ l1 _ _ ([] : List Int) (l0.length : Int) a2 t284 true _ ?side1 ?side2 ?side3 ?side4 A12.out).mono ?_); (case side1 => repeat (first | exact (Kd.zU HR1.out HB.out) | (with_reducible refine Kd.zY ?_ _) | (with_reducible refine Kd.zX ?_ _) | (with_reducible refine Kd.zai ?_))); (case side2 => exact HC1.out); (case side3 => exact Kd.zfx _ _); (case side4 => exact Nat.le_refl _); rintro e w15 ⟨v286, rfl, ho0, hb⟩; refine ⟨_, rfl, ?_⟩; have n0_ := za.mk (Kd.zaQ ho0 (zC (by repeat (first | (with_reducible first | exact HB.out | apply ze | apply zb | apply zf) | exact HB.out)))); have n1_ := za.mk (zo (by repeat (first | (with_reducible first | exact HB.out | apply ze | apply zb | apply zf) | exact HB.out)) hb); clear HB; have HO287 := n0_; have HB := n1_; clear n0_ n1_; (try clear hb); (try clear hb2); (try clear hk); (try clear hi); (try clear ho0)))
      go_ret2
      exact ⟨_, by first | rfl | (simp [zu, zt] <;> rfl) | (simp [*, zu, zt] <;> rfl), by (with_reducible repeat (first | apply Kd.zah | apply Kd.zaf | apply Kd.zau)); exact HO287.out, by repeat (first | (with_reducible first | exact HB.out | apply ze | apply zb | apply zf) | exact HB.out)⟩
     ·replace c13 := Bool.eq_false_iff.mpr c13
      subst c13
      have H1 : (some (([] : List Int), 11)) = some (r1, r2) := by rw [if_neg (show ¬ (false = true) by decide)] at H; exact H
      clear H
      have H := H1
      clear H1
      simp only [Option.some.injEq, Prod.mk.injEq] at H
      obtain ⟨rfl, rfl⟩ := H
      go_enter Try.func30, Try.ntmps30
      go_wp2_with (first | ((with_reducible refine zB (f := 69) rfl ?_); refine zS (some 13) rfl rfl Try.func69 (by kernel_rfl) rfl #[.slice A0 l0.length c0, .slice A1 l1.length c1] rfl (by (try simp only [List.map_toArray, List.map_cons, List.map_nil]); first | done | rfl | (simp only [List.length_drop, List.length_take]; rfl)) ?_; (with_reducible refine (zaM.calls k _ _ l0 _ _ l1 t283 _ ?side1 ?side2 ?side3 ?side4 A4.out).mono ?_); (case side1 => repeat (first | exact HR0.out | (with_reducible refine Kd.zY ?_ _) | (with_reducible refine Kd.zX ?_ _) | (with_reducible refine Kd.zai ?_))); (case side2 => exact HC0.out); (case side3 => repeat (first | exact HR1.out | (with_reducible refine Kd.zY ?_ _) | (with_reducible refine Kd.zX ?_ _) | (with_reducible refine Kd.zai ?_))); (case side4 => exact HC1.out); rintro e w16 ⟨rfl, hb⟩; refine ⟨_, rfl, ?_⟩; have n0_ := za.mk (zo (by repeat (first | (with_reducible first | exact HB.out | apply ze | apply zb | apply zf) | exact HB.out)) hb); clear HB; have HB := n0_; clear n0_; (try clear hb); (try clear hb2); (try clear hk); (try clear hi)) | ((with_reducible refine zB (f := 70) rfl ?_); refine zS (some 31) rfl rfl Try.func70 (by kernel_rfl) rfl #[.slice A1 l1.length c1, .slice none 0 0, .int .i64 (l0.length : Int), .int .i64 a2] rfl (by (try simp only [List.map_toArray, List.map_cons, List.map_nil]); first | done | rfl | (simp only [List.length_drop, List.length_take]; rfl)) ?_; (refine (zaT.calls _ _ l1 _ _ ([] : List Int) (l0.length : Int) a2 t284 false _ ?side1 ?side2 ?side3 ?side4 A12.out).mono ?_); (case side1 => repeat (first | exact (Kd.zU HR1.out HB.out) | (with_reducible refine Kd.zY ?_ _) | (with_reducible refine Kd.zX ?_ _) | (with_reducible refine Kd.zai ?_))); (case side2 => exact HC1.out); (case side3 => exact Kd.zfx _ _); (case side4 => exact Nat.le_refl _); rintro e w17 ⟨v286, rfl, ho0, hb⟩; refine ⟨_, rfl, ?_⟩; have n0_ := za.mk (Kd.zaQ ho0 (zC (by repeat (first | (with_reducible first | exact HB.out | apply ze | apply zb | apply zf) | exact HB.out)))); have n1_ := za.mk (zo (by repeat (first | (with_reducible first | exact HB.out | apply ze | apply zb | apply zf) | exact HB.out)) hb); clear HB; have HO287 := n0_; have HB := n1_; clear n0_ n1_; (try clear hb); (try clear hb2); (try clear hk); (try clear hi); (try clear ho0)))
      go_ret2
      exact ⟨_, by first | rfl | (simp [zu, zt] <;> rfl) | (simp [*, zu, zt] <;> rfl), by first | exact Kd.zbp _ _ _ _ _ | exact Kd.zcD _ _ _ _ _ | exact Kd.zcC _ _ _ _ _ | exact Kd.zcB _ _ _ _ _ | exact Kd.zcE _ _ _ _ _, by repeat (first | (with_reducible first | exact HB.out | apply ze | apply zb | apply zf) | exact HB.out)⟩
 ·rw [if_neg c5] at H
  have c5b0 : (t283 == 0) = false := beq_eq_false_iff_ne.mpr c5
  have c5b1 : (t283 != 0) = true := bne_iff_ne.mpr c5
  simp only [Option.some.injEq, Prod.mk.injEq] at H
  obtain ⟨rfl, rfl⟩ := H
  go_enter Try.func30, Try.ntmps30
  go_wp2_with (first | ((with_reducible refine zB (f := 69) rfl ?_); refine zS (some 13) rfl rfl Try.func69 (by kernel_rfl) rfl #[.slice A0 l0.length c0, .slice A1 l1.length c1] rfl (by (try simp only [List.map_toArray, List.map_cons, List.map_nil]); first | done | rfl | (simp only [List.length_drop, List.length_take]; rfl)) ?_; (with_reducible refine (zaM.calls k _ _ l0 _ _ l1 t283 _ ?side1 ?side2 ?side3 ?side4 A4.out).mono ?_); (case side1 => repeat (first | exact HR0.out | (with_reducible refine Kd.zY ?_ _) | (with_reducible refine Kd.zX ?_ _) | (with_reducible refine Kd.zai ?_))); (case side2 => exact HC0.out); (case side3 => repeat (first | exact HR1.out | (with_reducible refine Kd.zY ?_ _) | (with_reducible refine Kd.zX ?_ _) | (with_reducible refine Kd.zai ?_))); (case side4 => exact HC1.out); rintro e w18 ⟨rfl, hb⟩; refine ⟨_, rfl, ?_⟩; have n0_ := za.mk (zo (by repeat (first | (with_reducible first | exact HB.out | apply ze | apply zb | apply zf) | exact HB.out)) hb); clear HB; have HB := n0_; clear n0_; (try clear hb); (try clear hb2); (try clear hk); (try clear hi)))
  go_ret2
  exact ⟨_, by first | rfl | (simp [zu, zt] <;> rfl) | (simp [*, zu, zt] <;> rfl), by first | exact Kd.zbp _ _ _ _ _ | exact Kd.zcD _ _ _ _ _ | exact Kd.zcC _ _ _ _ _ | exact Kd.zcB _ _ _ _ _ | exact Kd.zcE _ _ _ _ _, by repeat (first | (with_reducible first | exact HB.out | apply ze | apply zb | apply zf) | exact HB.out)⟩
end Go.Proofs.Ytgmbbfmbimofoaa.P
