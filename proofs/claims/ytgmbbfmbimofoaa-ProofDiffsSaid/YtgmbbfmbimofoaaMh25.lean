-- MERGED BY A PROGRAM out of texts of this claim: hand work, and what a (turned) print of the kit has written for it
import Derived.IntWalk
import Derived.Outline
import Derived.Deep.DeepCutAuto
import Derived.Deep.CutBlock
import Derived.Test.YtgmbbfmbimofoaaMh24
import Derived.Test.YtgmbbfmbimofoaaMh5
import Derived.Test.YtgmbbfmbimofoaaMh6
import Derived.Test.YtgmbbfmbimofoaaMh23
import Derived.Test.YtgmbbfmbimofoaaMh12
import Derived.Test.YtgmbbfmbimofoaaMh8
import Derived.Test.YtgmbbfmbimofoaaMh9
namespace Go.Proofs.Ytgmbbfmbimofoaa.P
open Go.RowKit Go.Proofs.YtgmbbfmbimofoaaW.PrintWords Go.Proofs.YtgmbbfmbimofoaaW.PrintLast Go.Proofs.YtgmbbfmbimofoaaW.PrintMore
attribute [local go_sem] zI zM zO zP zC zD zK zJ
set_option linter.unusedVariables false
set_option linter.unusedSimpArgs false
structure DIn (w : World) (A0 : Option Addr) (c0 : Nat) (a : List ByteArray) (A1 : Option Addr) (c1 : Nat) (b : List ByteArray) : Prop where
 ra : Kd.string.C w A0 a.length a
 ha : a.length ≤ c0
 rb : Kd.string.C w A1 b.length b
 hb : b.length ≤ c1
theorem DIn.below {w w' : World} {A0 : Option Addr} {c0 : Nat} {a : List ByteArray} {A1 : Option Addr} {c1 : Nat} {b : List ByteArray} (h : DIn w A0 c0 a A1 c1 b) (hb : Below w.heap.size w w') : DIn w' A0 c0 a A1 c1 b :=
 ⟨Kd.zW h.ra hb, h.ha, Kd.zW h.rb hb, h.hb⟩
def RDC (a b : List ByteArray) (p q : Int) (r : List S63) : Prop := ∀ (A0 A1 : Option Addr) (c0 c1 : Nat) (w : World), DIn w A0 c0 a A1 c1 b →
  Calls Try.prog 65 #[.slice A0 a.length c0, .slice A1 b.length c1, .int .i64 p, .int .i64 q] w fun e w' => ∃ v : Value, e = .returned v ∧ Kd.R k63 63 w' w.heap.size (fun _ => True) v r ∧ Below w.heap.size w w'
set_option maxHeartbeats 8000000 in
set_option maxRecDepth 100000 in
theorem ziu (a b : List ByteArray) : RDC a b a.length b.length [] := by
 intro A0 A1 c0 c1 w hin
 clear hin
 go_enter Try.func65, Try.ntmps65
 go_wp2_with fail
 go_ret
 exact ⟨_, rfl, Kd.zbz _ _ _ _ _, Below.refl _ _⟩
set_option maxHeartbeats 16000000 in
set_option maxRecDepth 100000 in
theorem ziv (a b : List ByteArray) (ha : a.length ≤ 100) (hb : b.length ≤ 100) (q : Int) (hq0 : 0 ≤ q) (hq : q < b.length) (r1 l1 : List S63) (hr1 : r1.length ≤ 200) (H1 : RDC a b a.length (q + 1) r1) (h1 : (⟨1, a.length, zaH ByteArray.empty b q⟩ :: r1 : List S63) = l1) : RDC a b a.length q l1 := by
 intro A0 A1 c0 c1 w hin
 have HD := za.mk hin
 have HW := za.mk (Below.refl w.heap.size w)
 have H1A := za.mk H1
 have HL1 := za.mk hr1
 have HE1 := za.mk h1
 obtain ⟨ady, ey, hy⟩ := Kd.za6 hin.rb q hq0 hq
 cases ey
 obtain ⟨y, hyy⟩ : ∃ y, zaH ByteArray.empty b q = y := ⟨_, rfl⟩
 rw [hyy] at hy HE1
 clear hyy
 have HXY := za.mk hy
 obtain ⟨p, hp⟩ : ∃ p : Int, (a.length : Int) = p := ⟨_, rfl⟩
 rw [hp] at H1A HE1
 have e1 : (p == (a.length : Int)) = true := beq_iff_eq.2 hp.symm
 have e1' : ((a.length : Int) == p) = true := beq_iff_eq.2 hp
 have e2 : (q == (b.length : Int)) = false := beq_eq_false_iff_ne.2 (by omega)
 have e3 : decide (p < (a.length : Int)) = false := decide_eq_false (by omega)
 have e4 : decide (q < (b.length : Int)) = true := decide_eq_true hq
 have q1 : (q < (b.length : Int)) = True := eq_true hq
 have q2 : (0 ≤ q) = True := eq_true hq0
 have hw : IntKind.i64.wrap (q + 1) = q + 1 := IntWalk.i64_in (q + 1) (by omega)
 have HPP := za.mk hp
 rw [hp]
 have HSS : za (∀ W, Below w.heap.size w W → W.cell? (ady.add q.toNat) = some (.string y)) := ⟨fun W h => (h.cell (World.block_lt_of_cell? w _ HXY.out)).trans HXY.out⟩
 clear hin H1 hr1 h1 hy hp HXY
 go_enter Try.func65, Try.ntmps65
 go_upto_region 5 with fail
 have hb := zg (Below.refl w.heap.size w)
 replace HW := za.mk (zo HW.out hb)
 obtain ⟨wd, hwd⟩ : ∃ W, w.drew = W := ⟨_, rfl⟩
 refine zaj (fun _ => True) [] (by kernel_rfl) ?_
 rw [hwd] at HW  ⊢
 clear hwd hb
 have HS := trivial
 refine tk 0 ?_
 (try simp only [pu0, pu1, pu2, pu3, pu4])
 refine tk 1 ?_
 (try simp only [pu0, pu1, pu2, pu3, pu4])
 refine tk 2 ?_
 (try simp only [pu0, pu1, pu2, pu3, pu4])
 refine tk 3 ?_
 (try simp only [pu0, pu1, pu2, pu3, pu4])
 refine tk 4 ?_
 (try simp only [pu0, pu1, pu2, pu3, pu4])
 refine tkn 5 ?_
 (try simp only [pu0, pu1, pu2, pu3, pu4])
 refine tkn 6 ?_
 (try simp only [pu0, pu1, pu2, pu3, pu4])
 refine tkn 7 ?_
 (try simp only [pu0, pu1, pu2, pu3, pu4])
 refine tkn 8 ?_
 (try simp only [pu0, pu1, pu2, pu3, pu4])
 refine tk 9 ?_
 (try simp only [pu0, pu1, pu2, pu3, pu4])
 refine tk 10 ?_
 (try simp only [pu0, pu1, pu2, pu3, pu4])
 refine tkn 11 ?_
 (try simp only [pu0, pu1, pu2, pu3, pu4])
 refine tkn 12 ?_
 (try simp only [pu0, pu1, pu2, pu3, pu4])
 refine tkn 13 ?_
 (try simp only [pu0, pu1, pu2, pu3, pu4])
 refine tkn 14 ?_
 (try simp only [pu0, pu1, pu2, pu3, pu4])
 refine tkn 15 ?_
 (try simp only [pu0, pu1, pu2, pu3, pu4])
 refine tkn 16 ?_
 (try simp only [pu0, pu1, pu2, pu3, pu4])
 refine tkn 17 ?_
 (try simp only [pu0, pu1, pu2, pu3, pu4])
 refine tkn 18 ?_
 (try simp only [pu0, pu1, pu2, pu3, pu4])
 refine tkn 19 ?_
 (try simp only [pu0, pu1, pu2, pu3, pu4])
 refine tk 20 ?_
 (try simp only [pu0, pu1, pu2, pu3, pu4])
 refine z8 (by kernel_rfl) ?_ _
 clear HS
 go_upto_region 8 with fail
 have hb := zg (Below.refl wd.heap.size wd)
 replace HW := za.mk (zo HW.out hb)
 obtain ⟨we, hwd⟩ : ∃ W, wd.drew = W := ⟨_, rfl⟩
 refine zaj (fun W => W.cell? (ady.add q.toNat) = some (.string y)) [] (by kernel_rfl) ?_
 rw [hwd] at HW  ⊢
 clear hwd hb
 have HS := HSS.out we HW.out
 refine tk 0 ?_
 (try simp only [pu0, pu1, pu2, pu3, pu4])
 refine tk 1 ?_
 (try simp only [pu0, pu1, pu2, pu3, pu4])
 refine tk 2 ?_
 (try simp only [pu0, pu1, pu2, pu3, pu4])
 refine tk 3 ?_
 (try simp only [pu0, pu1, pu2, pu3, pu4])
 refine tk 4 ?_
 (try simp only [pu0, pu1, pu2, pu3, pu4])
 refine tk 5 ?_
 (try simp only [pu0, pu1, pu2, pu3, pu4])
 refine tk 7 ?_
 (try simp only [pu0, pu1, pu2, pu3, pu4])
 refine tk 8 ?_
 (try simp only [pu0, pu1, pu2, pu3, pu4])
 refine tk 9 ?_
 (try simp only [pu0, pu1, pu2, pu3, pu4])
 refine tk 10 ?_
 (try simp only [pu0, pu1, pu2, pu3, pu4])
 refine tk 11 ?_
 (try simp only [pu0, pu1, pu2, pu3, pu4])
 refine on2 6 12 (fun K hK => ?_) (fun K hK => ?_)
 ·skip
  clear HS
  refine Kd.zbw k63 (w0 := w) w.heap.size 63 ?hg (N := 62) ?hd (xs := ([⟨1, p, y⟩] : List S63)) (inner := [.int .i64 1, .int .i64 p, .string y]) (ok := fun _ => True) (okp := fun _ => True) ?hr ?hp (fun _ hk => hk) trivial HW.out HW.out.size (by simp) ?_
  case hd => rfl
  case hg => rfl
  case hr => first | (go_simp; done) | (go_simp; rfl)
  case hp => exact (zX.c3 (show Kd.M k63 _ _ _ (⟨1, p, y⟩ : S63) [.int .i64 1, .int .i64 p, .string y] from (za8 _ _ _ (⟨1, p, y⟩ : S63))) (zX.none _ _))
  intro vL wl hRl hbl hgl hnl
  have RL := za.mk hRl
  have HN := za.mk hnl
  replace HW := za.mk hbl
  clear hRl hbl hgl hnl
  have HS := HSS.out wl HW.out
  refine hK.out _ _ (fun _ => HS) ?_
  clear hK K
  (try simp only [pu0, pu1, pu2, pu3, pu4])
  refine on1 12 fun K hK => ?_
  clear HS
  refine za5 Try.func65 (by kernel_rfl) rfl #[.slice A0 a.length c0, .slice (some ady) b.length c1, .int .i64 p, .int .i64 (q + 1)] (by rfl) rfl rfl (by simp only [List.map_toArray, List.map_cons, List.map_nil]; rfl) ?_
  refine (H1A.out _ _ _ _ wl (HD.out.below HW.out)).mono ?_
  rintro e ws ⟨vS, rfl, hRs, hbs⟩
  refine ⟨_, rfl, ?_⟩
  have RS := za.mk (Kd.zaA hRs HW.out.size)
  replace RL := za.mk (Kd.zB RL.out hbs)
  replace HW := za.mk (zo HW.out hbs)
  clear hRs hbs
  have HS := HSS.out ws HW.out
  refine hK.out _ _ (fun _ => HS) ?_
  clear hK K
  (try simp only [pu0, pu1, pu2, pu3, pu4])
  refine on1 13 fun K hK => ?_
  clear HS
  obtain ⟨AS, cS, rfl, _, _⟩ := Kd.zaa RS.out
  refine Kd.zay k63 (w0 := w) w.heap.size (by rfl) _ _ 31 63 _ 32 (by rfl) Try.underlying31 zbR rfl (by decide) (by decide) vL [⟨1, p, y⟩] r1 AS r1.length _ (fun _ => True) (fun _ => False) (by rfl) (by rfl) RL.out (zZ RS.out).1 (fun x cs h => by rw [zb4 h]; exact za8 _ _ _ x) (fun _ h => h.elim) (fun _ _ => trivial) HW.out HW.out.size (by have := HL1.out; simp; omega) ?_
  intro vA wz hRz hbz hgz hatz
  have RA := za.mk hRz
  rw [List.singleton_append, HE1.out] at RA
  replace HW := za.mk hbz
  clear hRz hbz hgz hatz RS RL HN
  have HS := HSS.out wz HW.out
  refine hK.out _ _ (fun _ => HS) ?_
  clear hK K
  (try simp only [pu0, pu1, pu2, pu3, pu4])
  refine tk 14 ?_
  (try simp only [pu0, pu1, pu2, pu3, pu4])
  refine z8 (by kernel_rfl) ?_ _
  clear HS
  obtain ⟨A11, c11, rfl, _, _⟩ := Kd.zaa RA.out
  go_wp2_with fail
  go_ret
  exact ⟨_, rfl, RA.out, HW.out⟩
 ·skip
  clear HS
  refine za5 Try.func65 (by kernel_rfl) rfl #[.slice A0 a.length c0, .slice (some ady) b.length c1, .int .i64 p, .int .i64 (q + 1)] (by rfl) rfl rfl (by simp only [List.map_toArray, List.map_cons, List.map_nil]; rfl) ?_
  refine (H1A.out _ _ _ _ we (HD.out.below HW.out)).mono ?_
  rintro e ws ⟨vS, rfl, hRs, hbs⟩
  refine ⟨_, rfl, ?_⟩
  have RS := za.mk (Kd.zaA hRs HW.out.size)
  replace HW := za.mk (zo HW.out hbs)
  clear hRs hbs
  have HS := HSS.out ws HW.out
  refine hK.out _ _ (fun _ => HS) ?_
  clear hK K
  (try simp only [pu0, pu1, pu2, pu3, pu4])
  refine on1 6 fun K hK => ?_
  clear HS
  refine Kd.zbw k63 (w0 := w) w.heap.size 63 ?hg (N := 62) ?hd (xs := ([⟨1, p, y⟩] : List S63)) (inner := [.int .i64 1, .int .i64 p, .string y]) (ok := fun _ => True) (okp := fun _ => True) ?hr ?hp (fun _ hk => hk) trivial HW.out HW.out.size (by simp) ?_
  case hd => rfl
  case hg => rfl
  case hr => first | (go_simp; done) | (go_simp; rfl)
  case hp => exact (zX.c3 (show Kd.M k63 _ _ _ (⟨1, p, y⟩ : S63) [.int .i64 1, .int .i64 p, .string y] from (za8 _ _ _ (⟨1, p, y⟩ : S63))) (zX.none _ _))
  intro vL wl hRl hbl hgl hnl
  have RL := za.mk hRl
  have HN := za.mk hnl
  replace HW := za.mk hbl
  replace RS := za.mk (Kd.zbJ RS.out hgl (fun k _ => Option.some_ne_none k))
  clear hRl hbl hgl hnl
  have HS := HSS.out wl HW.out
  refine hK.out _ _ (fun _ => HS) ?_
  clear hK K
  (try simp only [pu0, pu1, pu2, pu3, pu4])
  refine on1 13 fun K hK => ?_
  clear HS
  obtain ⟨AS, cS, rfl, _, _⟩ := Kd.zaa RS.out
  refine Kd.zay k63 (w0 := w) w.heap.size (by rfl) _ _ 31 63 _ 32 (by rfl) Try.underlying31 zbR rfl (by decide) (by decide) vL [⟨1, p, y⟩] r1 AS r1.length _ (fun _ => True) (fun _ => False) (by rfl) (by rfl) RL.out (zZ RS.out).1 (fun x cs h => by rw [zb4 h]; exact za8 _ _ _ x) (fun _ h => h.elim) (fun _ _ => trivial) HW.out HW.out.size (by have := HL1.out; simp; omega) ?_
  intro vA wz hRz hbz hgz hatz
  have RA := za.mk hRz
  rw [List.singleton_append, HE1.out] at RA
  replace HW := za.mk hbz
  clear hRz hbz hgz hatz RS RL HN
  have HS := HSS.out wz HW.out
  refine hK.out _ _ (fun _ => HS) ?_
  clear hK K
  (try simp only [pu0, pu1, pu2, pu3, pu4])
  refine tk 14 ?_
  (try simp only [pu0, pu1, pu2, pu3, pu4])
  refine z8 (by kernel_rfl) ?_ _
  clear HS
  obtain ⟨A11, c11, rfl, _, _⟩ := Kd.zaa RA.out
  go_wp2_with fail
  go_ret
  exact ⟨_, rfl, RA.out, HW.out⟩
set_option maxHeartbeats 16000000 in
set_option maxRecDepth 100000 in
theorem zin (a b : List ByteArray) (ha : a.length ≤ 100) (hb : b.length ≤ 100) (p : Int) (hp0 : 0 ≤ p) (hp : p < a.length) (r3 l3 : List S63) (hr3 : r3.length ≤ 200) (H3 : RDC a b (p + 1) b.length r3) (h3 : (⟨3, p, ⟨#[]⟩⟩ :: r3 : List S63) = l3) : RDC a b p b.length l3 := by
 intro A0 A1 c0 c1 w hin
 have HD := za.mk hin
 have HW := za.mk (Below.refl w.heap.size w)
 have H3A := za.mk H3
 have HL3 := za.mk hr3
 have HE3 := za.mk h3
 obtain ⟨q, hq⟩ : ∃ q : Int, (b.length : Int) = q := ⟨_, rfl⟩
 rw [hq] at H3A
 have e1 : (p == (a.length : Int)) = false := beq_eq_false_iff_ne.2 (by omega)
 have e3 : decide (p < (a.length : Int)) = true := decide_eq_true hp
 have e4 : decide (q < (b.length : Int)) = false := decide_eq_false (by omega)
 have hw : IntKind.i64.wrap (p + 1) = p + 1 := IntWalk.i64_in (p + 1) (by omega)
 have HPP := za.mk hq
 rw [hq]
 clear hin H3 hr3 h3 hq
 go_enter Try.func65, Try.ntmps65
 go_upto_region 5 with fail
 have hb := zg (Below.refl w.heap.size w)
 replace HW := za.mk (zo HW.out hb)
 obtain ⟨wd, hwd⟩ : ∃ W, w.drew = W := ⟨_, rfl⟩
 refine zaj (fun _ => True) [] (by kernel_rfl) ?_
 rw [hwd] at HW  ⊢
 clear hwd hb
 have HS := trivial
 refine tk 0 ?_
 (try simp only [pu0, pu1, pu2, pu3, pu4])
 refine tk 1 ?_
 (try simp only [pu0, pu1, pu2, pu3, pu4])
 refine tk 2 ?_
 (try simp only [pu0, pu1, pu2, pu3, pu4])
 refine tk 3 ?_
 (try simp only [pu0, pu1, pu2, pu3, pu4])
 refine tk 4 ?_
 (try simp only [pu0, pu1, pu2, pu3, pu4])
 refine tk 5 ?_
 (try simp only [pu0, pu1, pu2, pu3, pu4])
 refine tk 6 ?_
 (try simp only [pu0, pu1, pu2, pu3, pu4])
 refine tk 7 ?_
 (try simp only [pu0, pu1, pu2, pu3, pu4])
 refine tk 8 ?_
 (try simp only [pu0, pu1, pu2, pu3, pu4])
 refine tk 9 ?_
 (try simp only [pu0, pu1, pu2, pu3, pu4])
 refine tk 10 ?_
 (try simp only [pu0, pu1, pu2, pu3, pu4])
 refine tkn 11 ?_
 (try simp only [pu0, pu1, pu2, pu3, pu4])
 refine tkn 12 ?_
 (try simp only [pu0, pu1, pu2, pu3, pu4])
 refine tkn 13 ?_
 (try simp only [pu0, pu1, pu2, pu3, pu4])
 refine tkn 14 ?_
 (try simp only [pu0, pu1, pu2, pu3, pu4])
 refine tkn 15 ?_
 (try simp only [pu0, pu1, pu2, pu3, pu4])
 refine tkn 16 ?_
 (try simp only [pu0, pu1, pu2, pu3, pu4])
 refine tkn 17 ?_
 (try simp only [pu0, pu1, pu2, pu3, pu4])
 refine tkn 18 ?_
 (try simp only [pu0, pu1, pu2, pu3, pu4])
 refine tkn 19 ?_
 (try simp only [pu0, pu1, pu2, pu3, pu4])
 refine tk 20 ?_
 (try simp only [pu0, pu1, pu2, pu3, pu4])
 refine z8 (by kernel_rfl) ?_ _
 clear HS
 go_wp2_with (first | ((with_reducible refine zai (N := 117) rfl ?_); refine Kd.zdm k63 (w0 := w) w.heap.size 63 ?hg (N := 117) ?hd (xs := ([⟨3, p, ⟨#[]⟩⟩] : List S63)) (inner := [.int .i64 3, .int .i64 p, .string ⟨#[]⟩]) (ok := fun _ => True) (okp := fun _ => True) ?hr ?hp (fun _ hk => hk) trivial HW.out HW.out.size (by simp) ?_; (case hd => rfl); (case hg => rfl); (case hr => first | (go_simp; done) | (go_simp; rfl)); (case hp => exact (zX.c3 (show Kd.M k63 _ _ _ (⟨3, p, ⟨#[]⟩⟩ : S63) [.int .i64 3, .int .i64 p, .string ⟨#[]⟩] from (za8 _ _ _ (⟨3, p, ⟨#[]⟩⟩ : S63))) (zX.none _ _))); intro vL wl hRl hbl hgl hnl; have RL := za.mk hRl; have HN := za.mk hnl; replace HW := za.mk hbl; clear hRl hbl hgl hnl) | ((with_reducible refine zw (f := 65) rfl ?_); refine zR (some 123) rfl rfl Try.func65 (by kernel_rfl) rfl #[.slice A0 a.length c0, .slice A1 b.length c1, .int .i64 (p + 1), .int .i64 q] rfl (by (try simp only [List.map_toArray, List.map_cons, List.map_nil]); first | done | rfl) ?_; refine (H3A.out _ _ _ _ _ (HD.out.below HW.out)).mono ?_; rintro e ws ⟨vS, rfl, hRs, hbs⟩; refine ⟨_, rfl, ?_⟩; have RS := za.mk (Kd.zaA hRs HW.out.size); replace RL := za.mk (Kd.zB RL.out hbs); replace HW := za.mk (zo HW.out hbs); clear hRs hbs; obtain ⟨AS, cS, rfl, _, _⟩ := Kd.zaa RS.out) | ((with_reducible refine zbu (b := .append) (xs := #[.tmp 117, .tmp 123]) rfl ?_); at_builtin; refine Kd.zcv k63 (w0 := w) w.heap.size rfl (.tmp 117) (.tmp 123) 31 63 (.agg #[(.int .i64 0), (.int .i64 0), (.string ⟨#[]⟩)]) 32 rfl Try.underlying31 zbR rfl (by decide) (by decide) vL [⟨3, p, ⟨#[]⟩⟩] r3 AS r3.length _ (fun _ => True) (fun _ => False) rfl rfl RL.out (zZ RS.out).1 (fun x cs h => by rw [zb4 h]; exact za8 _ _ _ x) (fun _ h => h.elim) (fun _ _ => trivial) HW.out HW.out.size (by have := HL3.out; simp; omega) ?_; intro vA wz hRz hbz hgz hatz; have RA := za.mk hRz; rw [List.singleton_append, HE3.out] at RA; replace HW := za.mk hbz; clear hRz hbz hgz hatz RS RL HN))
 go_ret
 exact ⟨_, rfl, RA.out, HW.out⟩
set_option maxHeartbeats 64000000 in
set_option maxRecDepth 100000 in
theorem zh5 (a b : List ByteArray) (ha : a.length ≤ 100) (hb : b.length ≤ 100) (p q : Int) (hp0 : 0 ≤ p) (hp : p < a.length) (hq0 : 0 ≤ q) (hq : q < b.length) (r1 r2 r3 l1 l2 l3 : List S63) (hr1 : r1.length ≤ 200) (hr2 : r2.length ≤ 200) (hr3 : r3.length ≤ 200)
  (H1 : RDC a b p (q + 1) r1) (H2 : RDC a b (p + 1) (q + 1) r2) (H3 : RDC a b (p + 1) q r3) (h1 : (⟨1, p, zaH ByteArray.empty b q⟩ :: r1 : List S63) = l1) (h2 : (⟨2, p, zaH ByteArray.empty b q⟩ :: r2 : List S63) = l2) (h3 : (⟨3, p, ⟨#[]⟩⟩ :: r3 : List S63) = l3)
  (o0 o1 o2 o3 : Option (List S63)) (ho0 : (if (zaH ByteArray.empty a p).toList = (zaH ByteArray.empty b q).toList then some r2 else none) = o0) (ho1 : zbc o0 l1 = o1) (ho2 : zbc o1 l2 = o2) (ho3 : zbc o2 l3 = o3) : RDC a b p q (zbZ o3) := by
 intro A0 A1 c0 c1 w hin
 have HD := za.mk hin
 have HW := za.mk (Below.refl w.heap.size w)
 have H1A := za.mk H1
 have H2A := za.mk H2
 have H3A := za.mk H3
 have HL1 := za.mk hr1
 have HL2 := za.mk hr2
 have HL3 := za.mk hr3
 have LL1 : za (l1.length ≤ 201) := ⟨by rw [← h1, List.length_cons]; omega⟩
 have LL2 : za (l2.length ≤ 201) := ⟨by rw [← h2, List.length_cons]; omega⟩
 have LL3 : za (l3.length ≤ 201) := ⟨by rw [← h3, List.length_cons]; omega⟩
 have HE1 := za.mk h1
 have HE2 := za.mk h2
 have HE3 := za.mk h3
 have HO0 := za.mk ho0
 have HO1 := za.mk ho1
 have HO2 := za.mk ho2
 have HO3 := za.mk ho3
 have LO0 : za ((zbZ o0).length ≤ 201) := ⟨by rw [← ho0]; split <;> simp only [zbZ, List.length_nil] <;> omega⟩
 have LO1 : za ((zbZ o1).length ≤ 201) := ⟨by rw [← ho1]; exact zcy LO0.out LL1.out⟩
 have LO2 : za ((zbZ o2).length ≤ 201) := ⟨by rw [← ho2]; exact zcy LO1.out LL2.out⟩
 obtain ⟨adx, ex, hx⟩ := Kd.za6 hin.ra p hp0 hp
 cases ex
 obtain ⟨ady, ey, hy⟩ := Kd.za6 hin.rb q hq0 hq
 cases ey
 obtain ⟨x, hxx⟩ : ∃ x, zaH ByteArray.empty a p = x := ⟨_, rfl⟩
 obtain ⟨y, hyy⟩ : ∃ y, zaH ByteArray.empty b q = y := ⟨_, rfl⟩
 rw [hxx] at hx HO0
 rw [hyy] at hy HE1 HE2 HO0
 clear hxx hyy
 have HXX := za.mk hx
 have HXY := za.mk hy
 have e1 : (p == (a.length : Int)) = false := beq_eq_false_iff_ne.2 (by omega)
 have e3 : decide (p < (a.length : Int)) = true := decide_eq_true hp
 have e4 : decide (q < (b.length : Int)) = true := decide_eq_true hq
 have q1 : (q < (b.length : Int)) = True := eq_true hq
 have q2 : (0 ≤ q) = True := eq_true hq0
 have q3 : (p < (a.length : Int)) = True := eq_true hp
 have q4 : (0 ≤ p) = True := eq_true hp0
 have hw : IntKind.i64.wrap (q + 1) = q + 1 := IntWalk.i64_in (q + 1) (by omega)
 have hw2 : IntKind.i64.wrap (p + 1) = p + 1 := IntWalk.i64_in (p + 1) (by omega)
 have HSS : za (∀ W, Below w.heap.size w W → W.cell? (ady.add q.toNat) = some (.string y)) := ⟨fun W h => (h.cell (World.block_lt_of_cell? w _ HXY.out)).trans HXY.out⟩
 have HSX : za (∀ W, Below w.heap.size w W → W.cell? (adx.add p.toNat) = some (.string x) ∧ W.cell? (ady.add q.toNat) = some (.string y)) := ⟨fun W h => ⟨(h.cell (World.block_lt_of_cell? w _ HXX.out)).trans HXX.out, HSS.out W h⟩⟩
 clear hin H1 H2 H3 hr1 hr2 hr3 h1 h2 h3 ho0 ho1 ho2 ho3 hx hy HXX HXY
 go_enter Try.func65, Try.ntmps65
 go_upto_region 5 with fail
 have hb := zg (Below.refl w.heap.size w)
 replace HW := za.mk (zo HW.out hb)
 obtain ⟨wd, hwd⟩ : ∃ W, w.drew = W := ⟨_, rfl⟩
 refine zaj (fun W => W.cell? (adx.add p.toNat) = some (.string x) ∧ W.cell? (ady.add q.toNat) = some (.string y)) [] (by kernel_rfl) ?_
 rw [hwd] at HW  ⊢
 clear hwd hb
 have HS := HSX.out wd HW.out
 refine tk 0 ?_
 (try simp only [pu0, pu1, pu2, pu3, pu4])
 refine tk 1 ?_
 (try simp only [pu0, pu1, pu2, pu3, pu4])
 refine tk 2 ?_
 (try simp only [pu0, pu1, pu2, pu3, pu4])
 refine tk 3 ?_
 (try simp only [pu0, pu1, pu2, pu3, pu4])
 refine tk 4 ?_
 (try simp only [pu0, pu1, pu2, pu3, pu4])
 refine tk 5 ?_
 (try simp only [pu0, pu1, pu2, pu3, pu4])
 refine tk 6 ?_
 (try simp only [pu0, pu1, pu2, pu3, pu4])
 refine tk 7 ?_
 (try simp only [pu0, pu1, pu2, pu3, pu4])
 refine tk 8 ?_
 (try simp only [pu0, pu1, pu2, pu3, pu4])
 refine tk 9 ?_
 (try simp only [pu0, pu1, pu2, pu3, pu4])
 refine tk 10 ?_
 (try simp only [pu0, pu1, pu2, pu3, pu4])
 refine tk 11 ?_
 (try simp only [pu0, pu1, pu2, pu3, pu4])
 refine tk 12 ?_
 (try simp only [pu0, pu1, pu2, pu3, pu4])
 refine tk 13 ?_
 (try simp only [pu0, pu1, pu2, pu3, pu4])
 refine tk 14 ?_
 (try simp only [pu0, pu1, pu2, pu3, pu4])
 refine tk 15 ?_
 (try simp only [pu0, pu1, pu2, pu3, pu4])
 refine tk 16 ?_
 (try simp only [pu0, pu1, pu2, pu3, pu4])
 refine tk 17 ?_
 (try simp only [pu0, pu1, pu2, pu3, pu4])
 refine tk 18 ?_
 (try simp only [pu0, pu1, pu2, pu3, pu4])
 refine tk 19 ?_
 (try simp only [pu0, pu1, pu2, pu3, pu4])
 refine tk 20 ?_
 (try simp only [pu0, pu1, pu2, pu3, pu4])
 refine z8 (by kernel_rfl) ?_ _
 clear HS
 go_upto_if 44 with fail
 go_cut [9, 10] (fun v9 v10 wc => v10 = .bool o0.isSome ∧ za (Kd.R k63 63 wc w.heap.size (fun _ => True) v9 (zbZ o0)) ∧ za (Below w.heap.size w wc))
 case first =>
  by_cases hxy : x.toList = y.toList
  ·have ho := HO0.out
   rw [if_pos hxy] at ho
   subst ho
   have f1 : (x.toList == y.toList) = true := beq_iff_eq.2 hxy
   rw [f1]
   go_wp2_with ((with_reducible refine zw (f := 65) rfl ?_); refine zR (some 51) rfl rfl Try.func65 (by kernel_rfl) rfl #[.slice (some adx) a.length c0, .slice (some ady) b.length c1, .int .i64 (p + 1), .int .i64 (q + 1)] rfl (by (try simp only [List.map_toArray, List.map_cons, List.map_nil]); first | done | rfl) ?_; refine (H2A.out _ _ _ _ _ (HD.out.below HW.out)).mono ?_; rintro e ws ⟨vS, rfl, hRs, hbs⟩; refine ⟨_, rfl, ?_⟩; have RS := za.mk (Kd.zaA hRs HW.out.size); replace HW := za.mk (zo HW.out hbs); clear hRs hbs)
   go_meet
   case rel => exact ⟨rfl, RS, HW⟩
  ·have ho := HO0.out
   rw [if_neg hxy] at ho
   subst ho
   have f1 : (x.toList == y.toList) = false := beq_eq_false_iff_ne.2 hxy
   rw [f1]
   go_wp2_with fail
   go_meet
   case rel => exact ⟨rfl, ⟨Kd.zbz _ _ _ _ _⟩, HW⟩
 obtain ⟨rfl, R9, HW⟩ := hcut
 clear HO0
 go_upto_if 55 with fail
 go_cut [9, 10] (fun v9 v10 wc => v10 = .bool o1.isSome ∧ za (Kd.R k63 63 wc w.heap.size (fun _ => True) v9 (zbZ o1)) ∧ za (Below w.heap.size w wc))
 case first =>
  go_upto_region 8 with fail
  have hb := zg (Below.refl wc.heap.size wc)
  replace HW := za.mk (zo HW.out hb)
  replace R9 := za.mk (Kd.zB R9.out hb)
  obtain ⟨we, hwd⟩ : ∃ W, wc.drew = W := ⟨_, rfl⟩
  refine zaj (fun W => W.cell? (ady.add q.toNat) = some (.string y)) [] (by kernel_rfl) ?_
  rw [hwd] at HW R9 ⊢
  clear hwd hb
  have HS := HSS.out we HW.out
  refine tk 0 ?_
  (try simp only [pu0, pu1, pu2, pu3, pu4])
  refine tk 1 ?_
  (try simp only [pu0, pu1, pu2, pu3, pu4])
  refine tk 2 ?_
  (try simp only [pu0, pu1, pu2, pu3, pu4])
  refine tk 3 ?_
  (try simp only [pu0, pu1, pu2, pu3, pu4])
  refine tk 4 ?_
  (try simp only [pu0, pu1, pu2, pu3, pu4])
  refine tk 5 ?_
  (try simp only [pu0, pu1, pu2, pu3, pu4])
  refine tk 7 ?_
  (try simp only [pu0, pu1, pu2, pu3, pu4])
  refine tk 8 ?_
  (try simp only [pu0, pu1, pu2, pu3, pu4])
  refine tk 9 ?_
  (try simp only [pu0, pu1, pu2, pu3, pu4])
  refine tk 10 ?_
  (try simp only [pu0, pu1, pu2, pu3, pu4])
  refine tk 11 ?_
  (try simp only [pu0, pu1, pu2, pu3, pu4])
  refine on2 6 12 (fun K hK => ?_) (fun K hK => ?_)
  ·skip
   clear HS
   replace R9 := za.mk (Kd.zaC (Kd.zbd R9.out) (fun k hk => hk.2.2.1))
   refine Kd.zbw k63 (w0 := w) w.heap.size 63 ?hg (N := 62) ?hd (xs := ([⟨1, p, y⟩] : List S63)) (inner := [.int .i64 1, .int .i64 p, .string y]) (ok := fun _ => True) (okp := fun _ => True) ?hr ?hp (fun _ hk => hk) trivial HW.out HW.out.size (by simp) ?_
   case hd => rfl
   case hg => rfl
   case hr => first | (go_simp; done) | (go_simp; rfl)
   case hp => exact (zX.c3 (show Kd.M k63 _ _ _ (⟨1, p, y⟩ : S63) [.int .i64 1, .int .i64 p, .string y] from (za8 _ _ _ (⟨1, p, y⟩ : S63))) (zX.none _ _))
   intro vL wl hRl hbl hgl hnl
   have RL := za.mk hRl
   have HN := za.mk hnl
   replace HW := za.mk hbl
   replace R9 := za.mk (Kd.zbJ R9.out hgl (fun k _ => Option.some_ne_none k))
   clear hRl hbl hgl hnl
   have HS := HSS.out wl HW.out
   refine hK.out _ _ (fun _ => HS) ?_
   clear hK K
   (try simp only [pu0, pu1, pu2, pu3, pu4])
   refine on1 12 fun K hK => ?_
   clear HS
   refine za5 Try.func65 (by kernel_rfl) rfl #[.slice (some adx) a.length c0, .slice (some ady) b.length c1, .int .i64 p, .int .i64 (q + 1)] (by rfl) rfl rfl (by simp only [List.map_toArray, List.map_cons, List.map_nil]; rfl) ?_
   refine (H1A.out _ _ _ _ wl (HD.out.below HW.out)).mono ?_
   rintro e ws ⟨vS, rfl, hRs, hbs⟩
   refine ⟨_, rfl, ?_⟩
   have RS := za.mk (Kd.zaA hRs HW.out.size)
   replace R9 := za.mk (Kd.zB R9.out hbs)
   replace RL := za.mk (Kd.zB RL.out hbs)
   replace HW := za.mk (zo HW.out hbs)
   clear hRs hbs
   have HS := HSS.out ws HW.out
   refine hK.out _ _ (fun _ => HS) ?_
   clear hK K
   (try simp only [pu0, pu1, pu2, pu3, pu4])
   refine on1 13 fun K hK => ?_
   clear HS
   obtain ⟨AS, cS, rfl, _, _⟩ := Kd.zaa RS.out
   refine Kd.zay k63 (w0 := w) w.heap.size (by rfl) _ _ 31 63 _ 32 (by rfl) Try.underlying31 zbR rfl (by decide) (by decide) vL [⟨1, p, y⟩] r1 AS r1.length _ (fun _ => True) (fun _ => False) (by rfl) (by rfl) RL.out (zZ RS.out).1 (fun x cs h => by rw [zb4 h]; exact za8 _ _ _ x) (fun _ h => h.elim) (fun _ _ => trivial) HW.out HW.out.size (by have := HL1.out; simp; omega) ?_
   intro vA wz hRz hbz hgz hatz
   have RA := za.mk hRz
   rw [List.singleton_append, HE1.out] at RA
   replace R9 := za.mk (Kd.zaC (ok' := fun _ => True) (Kd.zbJ R9.out hgz (fun k hk he => by obtain ⟨b', hb', hle⟩ := HN.out; rw [hb'] at he; injection he with he; omega)) (fun _ _ => trivial))
   replace HW := za.mk hbz
   clear hRz hbz hgz hatz RS RL HN
   have HS := HSS.out wz HW.out
   refine hK.out _ _ (fun _ => HS) ?_
   clear hK K
   (try simp only [pu0, pu1, pu2, pu3, pu4])
   refine tk 14 ?_
   (try simp only [pu0, pu1, pu2, pu3, pu4])
   refine z8 (by kernel_rfl) ?_ _
   clear HS
   obtain ⟨AN, cN, rfl, _, _⟩ := Kd.zaa RA.out
   cases o0 with
   | none =>
    have ho := HO1.out
    rw [show zbc none l1 = some l1 from rfl] at ho
    subst ho
    go_wp2_with fail
    go_meet
    case rel => exact ⟨rfl, RA, HW⟩
   | some lb =>
    replace R9 := za.mk (show Kd.R k63 63 _ w.heap.size (fun _ => True) _ lb from R9.out)
    obtain ⟨A9, c9, rfl, _, _⟩ := Kd.zaa R9.out
    obtain ⟨kb, hkb⟩ := zcY l1 lb (by have := LL1.out; omega) (by have h := LO0.out; rw [show zbZ (some lb) = lb from rfl] at h; omega)
    have HBT := za.mk (hkb kb (Nat.le_refl _))
    clear hkb
    obtain ⟨bb, hbb⟩ : ∃ bb, zb3 l1 lb = bb := ⟨_, rfl⟩
    rw [hbb] at HBT
    cases bb with
    | true =>
     have ho := HO1.out
     rw [show zbc (some lb) l1 = some l1 by unfold zbc; dsimp only; rw [if_pos hbb]] at ho
     subst ho
     clear hbb
     go_wp2_with ((with_reducible refine zw (f := 84) rfl ?_); (try (refine zbE (by rfl) ?_; dsimp only)); refine zR (some 75) rfl rfl Try.func84 (by kernel_rfl) rfl #[.slice AN l1.length cN, .slice A9 lb.length c9] rfl (by (try simp only [List.map_toArray, List.map_cons, List.map_nil]); first | done | rfl) ?_; refine (zz.calls kb AN cN l1 A9 c9 lb true _ (zZ RA.out).1 (zZ RA.out).2 (zZ R9.out).1 (zZ R9.out).2 HBT.out).mono ?_; rintro e wk ⟨rfl, hbk⟩; refine ⟨_, rfl, ?_⟩; replace RA := za.mk (Kd.zB RA.out hbk); replace R9 := za.mk (Kd.zB R9.out hbk); replace HW := za.mk (zo HW.out hbk); clear hbk)
     go_meet
     case rel => exact ⟨rfl, RA, HW⟩
    | false =>
     have ho := HO1.out
     rw [show zbc (some lb) l1 = some lb by unfold zbc; dsimp only; rw [if_neg (by rw [hbb]; decide)]] at ho
     subst ho
     clear hbb
     go_wp2_with ((with_reducible refine zw (f := 84) rfl ?_); (try (refine zbE (by rfl) ?_; dsimp only)); refine zR (some 75) rfl rfl Try.func84 (by kernel_rfl) rfl #[.slice AN l1.length cN, .slice A9 lb.length c9] rfl (by (try simp only [List.map_toArray, List.map_cons, List.map_nil]); first | done | rfl) ?_; refine (zz.calls kb AN cN l1 A9 c9 lb false _ (zZ RA.out).1 (zZ RA.out).2 (zZ R9.out).1 (zZ R9.out).2 HBT.out).mono ?_; rintro e wk ⟨rfl, hbk⟩; refine ⟨_, rfl, ?_⟩; replace RA := za.mk (Kd.zB RA.out hbk); replace R9 := za.mk (Kd.zB R9.out hbk); replace HW := za.mk (zo HW.out hbk); clear hbk)
     go_meet
     case rel => exact ⟨rfl, R9, HW⟩
  ·skip
   clear HS
   refine za5 Try.func65 (by kernel_rfl) rfl #[.slice (some adx) a.length c0, .slice (some ady) b.length c1, .int .i64 p, .int .i64 (q + 1)] (by rfl) rfl rfl (by simp only [List.map_toArray, List.map_cons, List.map_nil]; rfl) ?_
   refine (H1A.out _ _ _ _ we (HD.out.below HW.out)).mono ?_
   rintro e ws ⟨vS, rfl, hRs, hbs⟩
   refine ⟨_, rfl, ?_⟩
   have RS := za.mk (Kd.zaA hRs HW.out.size)
   replace R9 := za.mk (Kd.zB R9.out hbs)
   replace HW := za.mk (zo HW.out hbs)
   clear hRs hbs
   have HS := HSS.out ws HW.out
   refine hK.out _ _ (fun _ => HS) ?_
   clear hK K
   (try simp only [pu0, pu1, pu2, pu3, pu4])
   refine on1 6 fun K hK => ?_
   clear HS
   replace R9 := za.mk (Kd.zaC (Kd.zbd R9.out) (fun k hk => hk.2.2.1))
   refine Kd.zbw k63 (w0 := w) w.heap.size 63 ?hg (N := 62) ?hd (xs := ([⟨1, p, y⟩] : List S63)) (inner := [.int .i64 1, .int .i64 p, .string y]) (ok := fun _ => True) (okp := fun _ => True) ?hr ?hp (fun _ hk => hk) trivial HW.out HW.out.size (by simp) ?_
   case hd => rfl
   case hg => rfl
   case hr => first | (go_simp; done) | (go_simp; rfl)
   case hp => exact (zX.c3 (show Kd.M k63 _ _ _ (⟨1, p, y⟩ : S63) [.int .i64 1, .int .i64 p, .string y] from (za8 _ _ _ (⟨1, p, y⟩ : S63))) (zX.none _ _))
   intro vL wl hRl hbl hgl hnl
   have RL := za.mk hRl
   have HN := za.mk hnl
   replace HW := za.mk hbl
   replace R9 := za.mk (Kd.zbJ R9.out hgl (fun k _ => Option.some_ne_none k))
   replace RS := za.mk (Kd.zbJ RS.out hgl (fun k _ => Option.some_ne_none k))
   clear hRl hbl hgl hnl
   have HS := HSS.out wl HW.out
   refine hK.out _ _ (fun _ => HS) ?_
   clear hK K
   (try simp only [pu0, pu1, pu2, pu3, pu4])
   refine on1 13 fun K hK => ?_
   clear HS
   obtain ⟨AS, cS, rfl, _, _⟩ := Kd.zaa RS.out
   refine Kd.zay k63 (w0 := w) w.heap.size (by rfl) _ _ 31 63 _ 32 (by rfl) Try.underlying31 zbR rfl (by decide) (by decide) vL [⟨1, p, y⟩] r1 AS r1.length _ (fun _ => True) (fun _ => False) (by rfl) (by rfl) RL.out (zZ RS.out).1 (fun x cs h => by rw [zb4 h]; exact za8 _ _ _ x) (fun _ h => h.elim) (fun _ _ => trivial) HW.out HW.out.size (by have := HL1.out; simp; omega) ?_
   intro vA wz hRz hbz hgz hatz
   have RA := za.mk hRz
   rw [List.singleton_append, HE1.out] at RA
   replace R9 := za.mk (Kd.zaC (ok' := fun _ => True) (Kd.zbJ R9.out hgz (fun k hk he => by obtain ⟨b', hb', hle⟩ := HN.out; rw [hb'] at he; injection he with he; omega)) (fun _ _ => trivial))
   replace HW := za.mk hbz
   clear hRz hbz hgz hatz RS RL HN
   have HS := HSS.out wz HW.out
   refine hK.out _ _ (fun _ => HS) ?_
   clear hK K
   (try simp only [pu0, pu1, pu2, pu3, pu4])
   refine tk 14 ?_
   (try simp only [pu0, pu1, pu2, pu3, pu4])
   refine z8 (by kernel_rfl) ?_ _
   clear HS
   obtain ⟨AN, cN, rfl, _, _⟩ := Kd.zaa RA.out
   cases o0 with
   | none =>
    have ho := HO1.out
    rw [show zbc none l1 = some l1 from rfl] at ho
    subst ho
    go_wp2_with fail
    go_meet
    case rel => exact ⟨rfl, RA, HW⟩
   | some lb =>
    replace R9 := za.mk (show Kd.R k63 63 _ w.heap.size (fun _ => True) _ lb from R9.out)
    obtain ⟨A9, c9, rfl, _, _⟩ := Kd.zaa R9.out
    obtain ⟨kb, hkb⟩ := zcY l1 lb (by have := LL1.out; omega) (by have h := LO0.out; rw [show zbZ (some lb) = lb from rfl] at h; omega)
    have HBT := za.mk (hkb kb (Nat.le_refl _))
    clear hkb
    obtain ⟨bb, hbb⟩ : ∃ bb, zb3 l1 lb = bb := ⟨_, rfl⟩
    rw [hbb] at HBT
    cases bb with
    | true =>
     have ho := HO1.out
     rw [show zbc (some lb) l1 = some l1 by unfold zbc; dsimp only; rw [if_pos hbb]] at ho
     subst ho
     clear hbb
     go_wp2_with ((with_reducible refine zw (f := 84) rfl ?_); (try (refine zbE (by rfl) ?_; dsimp only)); refine zR (some 75) rfl rfl Try.func84 (by kernel_rfl) rfl #[.slice AN l1.length cN, .slice A9 lb.length c9] rfl (by (try simp only [List.map_toArray, List.map_cons, List.map_nil]); first | done | rfl) ?_; refine (zz.calls kb AN cN l1 A9 c9 lb true _ (zZ RA.out).1 (zZ RA.out).2 (zZ R9.out).1 (zZ R9.out).2 HBT.out).mono ?_; rintro e wk ⟨rfl, hbk⟩; refine ⟨_, rfl, ?_⟩; replace RA := za.mk (Kd.zB RA.out hbk); replace R9 := za.mk (Kd.zB R9.out hbk); replace HW := za.mk (zo HW.out hbk); clear hbk)
     go_meet
     case rel => exact ⟨rfl, RA, HW⟩
    | false =>
     have ho := HO1.out
     rw [show zbc (some lb) l1 = some lb by unfold zbc; dsimp only; rw [if_neg (by rw [hbb]; decide)]] at ho
     subst ho
     clear hbb
     go_wp2_with ((with_reducible refine zw (f := 84) rfl ?_); (try (refine zbE (by rfl) ?_; dsimp only)); refine zR (some 75) rfl rfl Try.func84 (by kernel_rfl) rfl #[.slice AN l1.length cN, .slice A9 lb.length c9] rfl (by (try simp only [List.map_toArray, List.map_cons, List.map_nil]); first | done | rfl) ?_; refine (zz.calls kb AN cN l1 A9 c9 lb false _ (zZ RA.out).1 (zZ RA.out).2 (zZ R9.out).1 (zZ R9.out).2 HBT.out).mono ?_; rintro e wk ⟨rfl, hbk⟩; refine ⟨_, rfl, ?_⟩; replace RA := za.mk (Kd.zB RA.out hbk); replace R9 := za.mk (Kd.zB R9.out hbk); replace HW := za.mk (zo HW.out hbk); clear hbk)
     go_meet
     case rel => exact ⟨rfl, R9, HW⟩
 obtain ⟨rfl, R9, HW⟩ := hcut
 clear HO1
 go_upto_if 87 with fail
 go_cut [9, 10] (fun v9 v10 wc => v10 = .bool o2.isSome ∧ za (Kd.R k63 63 wc w.heap.size (fun _ => True) v9 (zbZ o2)) ∧ za (Below w.heap.size w wc))
 case first =>
  go_upto_region 12 with fail
  have hb := zg (Below.refl wc.heap.size wc)
  replace HW := za.mk (zo HW.out hb)
  replace R9 := za.mk (Kd.zB R9.out hb)
  obtain ⟨we, hwd⟩ : ∃ W, wc.drew = W := ⟨_, rfl⟩
  refine zaj (fun W => W.cell? (ady.add q.toNat) = some (.string y)) [] (by kernel_rfl) ?_
  rw [hwd] at HW R9 ⊢
  clear hwd hb
  have HS := HSS.out we HW.out
  refine tk 0 ?_
  (try simp only [pu0, pu1, pu2, pu3, pu4])
  refine tk 1 ?_
  (try simp only [pu0, pu1, pu2, pu3, pu4])
  refine tk 2 ?_
  (try simp only [pu0, pu1, pu2, pu3, pu4])
  refine tk 3 ?_
  (try simp only [pu0, pu1, pu2, pu3, pu4])
  refine tk 4 ?_
  (try simp only [pu0, pu1, pu2, pu3, pu4])
  refine tk 5 ?_
  (try simp only [pu0, pu1, pu2, pu3, pu4])
  refine tk 7 ?_
  (try simp only [pu0, pu1, pu2, pu3, pu4])
  refine tk 8 ?_
  (try simp only [pu0, pu1, pu2, pu3, pu4])
  refine tk 9 ?_
  (try simp only [pu0, pu1, pu2, pu3, pu4])
  refine tk 10 ?_
  (try simp only [pu0, pu1, pu2, pu3, pu4])
  refine tk 11 ?_
  (try simp only [pu0, pu1, pu2, pu3, pu4])
  refine tk 12 ?_
  (try simp only [pu0, pu1, pu2, pu3, pu4])
  refine on2 6 13 (fun K hK => ?_) (fun K hK => ?_)
  ·skip
   clear HS
   replace R9 := za.mk (Kd.zaC (Kd.zbd R9.out) (fun k hk => hk.2.2.1))
   refine Kd.zbw k63 (w0 := w) w.heap.size 63 ?hg (N := 94) ?hd (xs := ([⟨2, p, y⟩] : List S63)) (inner := [.int .i64 2, .int .i64 p, .string y]) (ok := fun _ => True) (okp := fun _ => True) ?hr ?hp (fun _ hk => hk) trivial HW.out HW.out.size (by simp) ?_
   case hd => rfl
   case hg => rfl
   case hr => first | (go_simp; done) | (go_simp; rfl)
   case hp => exact (zX.c3 (show Kd.M k63 _ _ _ (⟨2, p, y⟩ : S63) [.int .i64 2, .int .i64 p, .string y] from (za8 _ _ _ (⟨2, p, y⟩ : S63))) (zX.none _ _))
   intro vL wl hRl hbl hgl hnl
   have RL := za.mk hRl
   have HN := za.mk hnl
   replace HW := za.mk hbl
   replace R9 := za.mk (Kd.zbJ R9.out hgl (fun k _ => Option.some_ne_none k))
   clear hRl hbl hgl hnl
   have HS := HSS.out wl HW.out
   refine hK.out _ _ (fun _ => HS) ?_
   clear hK K
   (try simp only [pu0, pu1, pu2, pu3, pu4])
   refine on1 13 fun K hK => ?_
   clear HS
   refine za5 Try.func65 (by kernel_rfl) rfl #[.slice (some adx) a.length c0, .slice (some ady) b.length c1, .int .i64 (p + 1), .int .i64 (q + 1)] (by rfl) rfl rfl (by simp only [List.map_toArray, List.map_cons, List.map_nil]; rfl) ?_
   refine (H2A.out _ _ _ _ wl (HD.out.below HW.out)).mono ?_
   rintro e ws ⟨vS, rfl, hRs, hbs⟩
   refine ⟨_, rfl, ?_⟩
   have RS := za.mk (Kd.zaA hRs HW.out.size)
   replace R9 := za.mk (Kd.zB R9.out hbs)
   replace RL := za.mk (Kd.zB RL.out hbs)
   replace HW := za.mk (zo HW.out hbs)
   clear hRs hbs
   have HS := HSS.out ws HW.out
   refine hK.out _ _ (fun _ => HS) ?_
   clear hK K
   (try simp only [pu0, pu1, pu2, pu3, pu4])
   refine on1 14 fun K hK => ?_
   clear HS
   obtain ⟨AS, cS, rfl, _, _⟩ := Kd.zaa RS.out
   refine Kd.zay k63 (w0 := w) w.heap.size (by rfl) _ _ 31 63 _ 32 (by rfl) Try.underlying31 zbR rfl (by decide) (by decide) vL [⟨2, p, y⟩] r2 AS r2.length _ (fun _ => True) (fun _ => False) (by rfl) (by rfl) RL.out (zZ RS.out).1 (fun x cs h => by rw [zb4 h]; exact za8 _ _ _ x) (fun _ h => h.elim) (fun _ _ => trivial) HW.out HW.out.size (by have := HL2.out; simp; omega) ?_
   intro vA wz hRz hbz hgz hatz
   have RA := za.mk hRz
   rw [List.singleton_append, HE2.out] at RA
   replace R9 := za.mk (Kd.zaC (ok' := fun _ => True) (Kd.zbJ R9.out hgz (fun k hk he => by obtain ⟨b', hb', hle⟩ := HN.out; rw [hb'] at he; injection he with he; omega)) (fun _ _ => trivial))
   replace HW := za.mk hbz
   clear hRz hbz hgz hatz RS RL HN
   have HS := HSS.out wz HW.out
   refine hK.out _ _ (fun _ => HS) ?_
   clear hK K
   (try simp only [pu0, pu1, pu2, pu3, pu4])
   refine tk 15 ?_
   (try simp only [pu0, pu1, pu2, pu3, pu4])
   refine z8 (by kernel_rfl) ?_ _
   clear HS
   obtain ⟨AN, cN, rfl, _, _⟩ := Kd.zaa RA.out
   cases o1 with
   | none =>
    have ho := HO2.out
    rw [show zbc none l2 = some l2 from rfl] at ho
    subst ho
    go_wp2_with fail
    go_meet
    case rel => exact ⟨rfl, RA, HW⟩
   | some lb =>
    replace R9 := za.mk (show Kd.R k63 63 _ w.heap.size (fun _ => True) _ lb from R9.out)
    obtain ⟨A9, c9, rfl, _, _⟩ := Kd.zaa R9.out
    obtain ⟨kb, hkb⟩ := zcY l2 lb (by have := LL2.out; omega) (by have h := LO1.out; rw [show zbZ (some lb) = lb from rfl] at h; omega)
    have HBT := za.mk (hkb kb (Nat.le_refl _))
    clear hkb
    obtain ⟨bb, hbb⟩ : ∃ bb, zb3 l2 lb = bb := ⟨_, rfl⟩
    rw [hbb] at HBT
    cases bb with
    | true =>
     have ho := HO2.out
     rw [show zbc (some lb) l2 = some l2 by unfold zbc; dsimp only; rw [if_pos hbb]] at ho
     subst ho
     clear hbb
     go_wp2_with ((with_reducible refine zw (f := 84) rfl ?_); (try (refine zbE (by rfl) ?_; dsimp only)); refine zR (some 108) rfl rfl Try.func84 (by kernel_rfl) rfl #[.slice AN l2.length cN, .slice A9 lb.length c9] rfl (by (try simp only [List.map_toArray, List.map_cons, List.map_nil]); first | done | rfl) ?_; refine (zz.calls kb AN cN l2 A9 c9 lb true _ (zZ RA.out).1 (zZ RA.out).2 (zZ R9.out).1 (zZ R9.out).2 HBT.out).mono ?_; rintro e wk ⟨rfl, hbk⟩; refine ⟨_, rfl, ?_⟩; replace RA := za.mk (Kd.zB RA.out hbk); replace R9 := za.mk (Kd.zB R9.out hbk); replace HW := za.mk (zo HW.out hbk); clear hbk)
     go_meet
     case rel => exact ⟨rfl, RA, HW⟩
    | false =>
     have ho := HO2.out
     rw [show zbc (some lb) l2 = some lb by unfold zbc; dsimp only; rw [if_neg (by rw [hbb]; decide)]] at ho
     subst ho
     clear hbb
     go_wp2_with ((with_reducible refine zw (f := 84) rfl ?_); (try (refine zbE (by rfl) ?_; dsimp only)); refine zR (some 108) rfl rfl Try.func84 (by kernel_rfl) rfl #[.slice AN l2.length cN, .slice A9 lb.length c9] rfl (by (try simp only [List.map_toArray, List.map_cons, List.map_nil]); first | done | rfl) ?_; refine (zz.calls kb AN cN l2 A9 c9 lb false _ (zZ RA.out).1 (zZ RA.out).2 (zZ R9.out).1 (zZ R9.out).2 HBT.out).mono ?_; rintro e wk ⟨rfl, hbk⟩; refine ⟨_, rfl, ?_⟩; replace RA := za.mk (Kd.zB RA.out hbk); replace R9 := za.mk (Kd.zB R9.out hbk); replace HW := za.mk (zo HW.out hbk); clear hbk)
     go_meet
     case rel => exact ⟨rfl, R9, HW⟩
  ·skip
   clear HS
   refine za5 Try.func65 (by kernel_rfl) rfl #[.slice (some adx) a.length c0, .slice (some ady) b.length c1, .int .i64 (p + 1), .int .i64 (q + 1)] (by rfl) rfl rfl (by simp only [List.map_toArray, List.map_cons, List.map_nil]; rfl) ?_
   refine (H2A.out _ _ _ _ we (HD.out.below HW.out)).mono ?_
   rintro e ws ⟨vS, rfl, hRs, hbs⟩
   refine ⟨_, rfl, ?_⟩
   have RS := za.mk (Kd.zaA hRs HW.out.size)
   replace R9 := za.mk (Kd.zB R9.out hbs)
   replace HW := za.mk (zo HW.out hbs)
   clear hRs hbs
   have HS := HSS.out ws HW.out
   refine hK.out _ _ (fun _ => HS) ?_
   clear hK K
   (try simp only [pu0, pu1, pu2, pu3, pu4])
   refine on1 6 fun K hK => ?_
   clear HS
   replace R9 := za.mk (Kd.zaC (Kd.zbd R9.out) (fun k hk => hk.2.2.1))
   refine Kd.zbw k63 (w0 := w) w.heap.size 63 ?hg (N := 94) ?hd (xs := ([⟨2, p, y⟩] : List S63)) (inner := [.int .i64 2, .int .i64 p, .string y]) (ok := fun _ => True) (okp := fun _ => True) ?hr ?hp (fun _ hk => hk) trivial HW.out HW.out.size (by simp) ?_
   case hd => rfl
   case hg => rfl
   case hr => first | (go_simp; done) | (go_simp; rfl)
   case hp => exact (zX.c3 (show Kd.M k63 _ _ _ (⟨2, p, y⟩ : S63) [.int .i64 2, .int .i64 p, .string y] from (za8 _ _ _ (⟨2, p, y⟩ : S63))) (zX.none _ _))
   intro vL wl hRl hbl hgl hnl
   have RL := za.mk hRl
   have HN := za.mk hnl
   replace HW := za.mk hbl
   replace R9 := za.mk (Kd.zbJ R9.out hgl (fun k _ => Option.some_ne_none k))
   replace RS := za.mk (Kd.zbJ RS.out hgl (fun k _ => Option.some_ne_none k))
   clear hRl hbl hgl hnl
   have HS := HSS.out wl HW.out
   refine hK.out _ _ (fun _ => HS) ?_
   clear hK K
   (try simp only [pu0, pu1, pu2, pu3, pu4])
   refine on1 14 fun K hK => ?_
   clear HS
   obtain ⟨AS, cS, rfl, _, _⟩ := Kd.zaa RS.out
   refine Kd.zay k63 (w0 := w) w.heap.size (by rfl) _ _ 31 63 _ 32 (by rfl) Try.underlying31 zbR rfl (by decide) (by decide) vL [⟨2, p, y⟩] r2 AS r2.length _ (fun _ => True) (fun _ => False) (by rfl) (by rfl) RL.out (zZ RS.out).1 (fun x cs h => by rw [zb4 h]; exact za8 _ _ _ x) (fun _ h => h.elim) (fun _ _ => trivial) HW.out HW.out.size (by have := HL2.out; simp; omega) ?_
   intro vA wz hRz hbz hgz hatz
   have RA := za.mk hRz
   rw [List.singleton_append, HE2.out] at RA
   replace R9 := za.mk (Kd.zaC (ok' := fun _ => True) (Kd.zbJ R9.out hgz (fun k hk he => by obtain ⟨b', hb', hle⟩ := HN.out; rw [hb'] at he; injection he with he; omega)) (fun _ _ => trivial))
   replace HW := za.mk hbz
   clear hRz hbz hgz hatz RS RL HN
   have HS := HSS.out wz HW.out
   refine hK.out _ _ (fun _ => HS) ?_
   clear hK K
   (try simp only [pu0, pu1, pu2, pu3, pu4])
   refine tk 15 ?_
   (try simp only [pu0, pu1, pu2, pu3, pu4])
   refine z8 (by kernel_rfl) ?_ _
   clear HS
   obtain ⟨AN, cN, rfl, _, _⟩ := Kd.zaa RA.out
   cases o1 with
   | none =>
    have ho := HO2.out
    rw [show zbc none l2 = some l2 from rfl] at ho
    subst ho
    go_wp2_with fail
    go_meet
    case rel => exact ⟨rfl, RA, HW⟩
   | some lb =>
    replace R9 := za.mk (show Kd.R k63 63 _ w.heap.size (fun _ => True) _ lb from R9.out)
    obtain ⟨A9, c9, rfl, _, _⟩ := Kd.zaa R9.out
    obtain ⟨kb, hkb⟩ := zcY l2 lb (by have := LL2.out; omega) (by have h := LO1.out; rw [show zbZ (some lb) = lb from rfl] at h; omega)
    have HBT := za.mk (hkb kb (Nat.le_refl _))
    clear hkb
    obtain ⟨bb, hbb⟩ : ∃ bb, zb3 l2 lb = bb := ⟨_, rfl⟩
    rw [hbb] at HBT
    cases bb with
    | true =>
     have ho := HO2.out
     rw [show zbc (some lb) l2 = some l2 by unfold zbc; dsimp only; rw [if_pos hbb]] at ho
     subst ho
     clear hbb
     go_wp2_with ((with_reducible refine zw (f := 84) rfl ?_); (try (refine zbE (by rfl) ?_; dsimp only)); refine zR (some 108) rfl rfl Try.func84 (by kernel_rfl) rfl #[.slice AN l2.length cN, .slice A9 lb.length c9] rfl (by (try simp only [List.map_toArray, List.map_cons, List.map_nil]); first | done | rfl) ?_; refine (zz.calls kb AN cN l2 A9 c9 lb true _ (zZ RA.out).1 (zZ RA.out).2 (zZ R9.out).1 (zZ R9.out).2 HBT.out).mono ?_; rintro e wk ⟨rfl, hbk⟩; refine ⟨_, rfl, ?_⟩; replace RA := za.mk (Kd.zB RA.out hbk); replace R9 := za.mk (Kd.zB R9.out hbk); replace HW := za.mk (zo HW.out hbk); clear hbk)
     go_meet
     case rel => exact ⟨rfl, RA, HW⟩
    | false =>
     have ho := HO2.out
     rw [show zbc (some lb) l2 = some lb by unfold zbc; dsimp only; rw [if_neg (by rw [hbb]; decide)]] at ho
     subst ho
     clear hbb
     go_wp2_with ((with_reducible refine zw (f := 84) rfl ?_); (try (refine zbE (by rfl) ?_; dsimp only)); refine zR (some 108) rfl rfl Try.func84 (by kernel_rfl) rfl #[.slice AN l2.length cN, .slice A9 lb.length c9] rfl (by (try simp only [List.map_toArray, List.map_cons, List.map_nil]); first | done | rfl) ?_; refine (zz.calls kb AN cN l2 A9 c9 lb false _ (zZ RA.out).1 (zZ RA.out).2 (zZ R9.out).1 (zZ R9.out).2 HBT.out).mono ?_; rintro e wk ⟨rfl, hbk⟩; refine ⟨_, rfl, ?_⟩; replace RA := za.mk (Kd.zB RA.out hbk); replace R9 := za.mk (Kd.zB R9.out hbk); replace HW := za.mk (zo HW.out hbk); clear hbk)
     go_meet
     case rel => exact ⟨rfl, R9, HW⟩
 obtain ⟨rfl, R9, HW⟩ := hcut
 clear HO2
 go_upto_if 114 with fail
 go_cut [9, 10] (fun v9 v10 wc => v10 = .bool o3.isSome ∧ za (Kd.R k63 63 wc w.heap.size (fun _ => True) v9 (zbZ o3)) ∧ za (Below w.heap.size w wc))
 case first =>
  go_upto_region 17 with (first | ((with_reducible refine zai (N := 117) rfl ?_); replace R9 := za.mk (Kd.zaC (Kd.zbd R9.out) (fun k hk => hk.2.2.1)); refine Kd.zdm k63 (w0 := w) w.heap.size 63 ?hg (N := 117) ?hd (xs := ([⟨3, p, ⟨#[]⟩⟩] : List S63)) (inner := [.int .i64 3, .int .i64 p, .string ⟨#[]⟩]) (ok := fun _ => True) (okp := fun _ => True) ?hr ?hp (fun _ hk => hk) trivial HW.out HW.out.size (by simp) ?_; (case hd => rfl); (case hg => rfl); (case hr => first | (go_simp; done) | (go_simp; rfl)); (case hp => exact (zX.c3 (show Kd.M k63 _ _ _ (⟨3, p, ⟨#[]⟩⟩ : S63) [.int .i64 3, .int .i64 p, .string ⟨#[]⟩] from (za8 _ _ _ (⟨3, p, ⟨#[]⟩⟩ : S63))) (zX.none _ _))); intro vL wl hRl hbl hgl hnl; have RL := za.mk hRl; have HN := za.mk hnl; replace HW := za.mk hbl; replace R9 := za.mk (Kd.zbJ R9.out hgl (fun k _ => Option.some_ne_none k)); clear hRl hbl hgl hnl) | ((with_reducible refine zw (f := 65) rfl ?_); refine zR (some 123) rfl rfl Try.func65 (by kernel_rfl) rfl #[.slice (some adx) a.length c0, .slice (some ady) b.length c1, .int .i64 (p + 1), .int .i64 q] rfl (by (try simp only [List.map_toArray, List.map_cons, List.map_nil]); first | done | rfl) ?_; refine (H3A.out _ _ _ _ _ (HD.out.below HW.out)).mono ?_; rintro e ws ⟨vS, rfl, hRs, hbs⟩; refine ⟨_, rfl, ?_⟩; have RS := za.mk (Kd.zaA hRs HW.out.size); replace RL := za.mk (Kd.zB RL.out hbs); replace R9 := za.mk (Kd.zB R9.out hbs); replace HW := za.mk (zo HW.out hbs); clear hRs hbs; obtain ⟨AS, cS, rfl, _, _⟩ := Kd.zaa RS.out) | ((with_reducible refine zbu (b := .append) (xs := #[.tmp 117, .tmp 123]) rfl ?_); at_builtin; refine Kd.zcv k63 (w0 := w) w.heap.size rfl (.tmp 117) (.tmp 123) 31 63 (.agg #[(.int .i64 0), (.int .i64 0), (.string ⟨#[]⟩)]) 32 rfl Try.underlying31 zbR rfl (by decide) (by decide) vL [⟨3, p, ⟨#[]⟩⟩] r3 AS r3.length _ (fun _ => True) (fun _ => False) rfl rfl RL.out (zZ RS.out).1 (fun x cs h => by rw [zb4 h]; exact za8 _ _ _ x) (fun _ h => h.elim) (fun _ _ => trivial) HW.out HW.out.size (by have := HL3.out; simp; omega) ?_; intro vA wz hRz hbz hgz hatz; have RA := za.mk hRz; rw [List.singleton_append, HE3.out] at RA; replace R9 := za.mk (Kd.zaC (ok' := fun _ => True) (Kd.zbJ R9.out hgz (fun k hk he => by obtain ⟨b', hb', hle⟩ := HN.out; rw [hb'] at he; injection he with he; omega)) (fun _ _ => trivial)); replace HW := za.mk hbz; clear hRz hbz hgz hatz RS RL HN))
  obtain ⟨AN, cN, rfl, _, _⟩ := Kd.zaa RA.out
  cases o2 with
  | none =>
   have ho := HO3.out
   rw [show zbc none l3 = some l3 from rfl] at ho
   subst ho
   go_wp2_with fail
   go_meet
   case rel => exact ⟨rfl, RA, HW⟩
  | some lb =>
   replace R9 := za.mk (show Kd.R k63 63 _ w.heap.size (fun _ => True) _ lb from R9.out)
   obtain ⟨A9, c9, rfl, _, _⟩ := Kd.zaa R9.out
   obtain ⟨kb, hkb⟩ := zcY l3 lb (by have := LL3.out; omega) (by have h := LO2.out; rw [show zbZ (some lb) = lb from rfl] at h; omega)
   have HBT := za.mk (hkb kb (Nat.le_refl _))
   clear hkb
   obtain ⟨bb, hbb⟩ : ∃ bb, zb3 l3 lb = bb := ⟨_, rfl⟩
   rw [hbb] at HBT
   cases bb with
   | true =>
    have ho := HO3.out
    rw [show zbc (some lb) l3 = some l3 by unfold zbc; dsimp only; rw [if_pos hbb]] at ho
    subst ho
    clear hbb
    go_wp2_with ((with_reducible refine zw (f := 84) rfl ?_); (try (refine zbE (by rfl) ?_; dsimp only)); refine zR (some 130) rfl rfl Try.func84 (by kernel_rfl) rfl #[.slice AN l3.length cN, .slice A9 lb.length c9] rfl (by (try simp only [List.map_toArray, List.map_cons, List.map_nil]); first | done | rfl) ?_; refine (zz.calls kb AN cN l3 A9 c9 lb true _ (zZ RA.out).1 (zZ RA.out).2 (zZ R9.out).1 (zZ R9.out).2 HBT.out).mono ?_; rintro e wk ⟨rfl, hbk⟩; refine ⟨_, rfl, ?_⟩; replace RA := za.mk (Kd.zB RA.out hbk); replace R9 := za.mk (Kd.zB R9.out hbk); replace HW := za.mk (zo HW.out hbk); clear hbk)
    go_meet
    case rel => exact ⟨rfl, RA, HW⟩
   | false =>
    have ho := HO3.out
    rw [show zbc (some lb) l3 = some lb by unfold zbc; dsimp only; rw [if_neg (by rw [hbb]; decide)]] at ho
    subst ho
    clear hbb
    go_wp2_with ((with_reducible refine zw (f := 84) rfl ?_); (try (refine zbE (by rfl) ?_; dsimp only)); refine zR (some 130) rfl rfl Try.func84 (by kernel_rfl) rfl #[.slice AN l3.length cN, .slice A9 lb.length c9] rfl (by (try simp only [List.map_toArray, List.map_cons, List.map_nil]); first | done | rfl) ?_; refine (zz.calls kb AN cN l3 A9 c9 lb false _ (zZ RA.out).1 (zZ RA.out).2 (zZ R9.out).1 (zZ R9.out).2 HBT.out).mono ?_; rintro e wk ⟨rfl, hbk⟩; refine ⟨_, rfl, ?_⟩; replace RA := za.mk (Kd.zB RA.out hbk); replace R9 := za.mk (Kd.zB R9.out hbk); replace HW := za.mk (zo HW.out hbk); clear hbk)
    go_meet
    case rel => exact ⟨rfl, R9, HW⟩
 obtain ⟨rfl, R9, HW⟩ := hcut
 clear HO3
 go_wp2_with fail
 go_ret
 exact ⟨_, rfl, R9.out, HW.out⟩
theorem zfb {l : List ByteArray} {i : Nat} (h : i < l.length) : zaH ByteArray.empty l (i : Int) = l[i] := by
 simp [zaH, h]
theorem zhv (a b : List ByteArray) (ha : a.length ≤ 100) (hb : b.length ≤ 100) : ∀ (s i k : Nat), (a.length - i) + (b.length - k) = s → i ≤ a.length → k ≤ b.length → RDC a b i k (rdS i (a.drop i) (b.drop k)) := by
 intro s
 induction s using Nat.strongRecOn with
 | _ s ih =>
  intro i k hs hi hk
  have hlen : ∀ i' k' : Nat, (rdS i' (a.drop i') (b.drop k')).length ≤ 200 := fun i' k' => by
   have := zdn (a.drop i') (b.drop k') i'
   rw [List.length_drop, List.length_drop] at this
   omega
  by_cases h1 : i < a.length
  ·have d1 := List.drop_eq_getElem_cons h1
   have r1 := zfb h1
   by_cases h2 : k < b.length
   ·have d2 := List.drop_eq_getElem_cons h2
    have r2 := zfb h2
    have H1 := ih ((a.length - i) + (b.length - (k + 1))) (by omega) i (k + 1) rfl (by omega) (by omega)
    have H2 := ih ((a.length - (i + 1)) + (b.length - (k + 1))) (by omega) (i + 1) (k + 1) rfl (by omega) (by omega)
    have H3 := ih ((a.length - (i + 1)) + (b.length - k)) (by omega) (i + 1) k rfl (by omega) (by omega)
    have := zh5 a b ha hb (i : Int) (k : Int) (by omega) (by omega) (by omega) (by omega) _ _ _ _ _ _ (hlen i (k + 1)) (hlen (i + 1) (k + 1)) (hlen (i + 1) k) H1 H2 H3 rfl rfl rfl _ _ _ _ rfl rfl rfl rfl
    rw [r1, r2] at this
    rw [d1, d2, rdS, ← d1, ← d2]
    exact this
   ·obtain rfl : k = b.length := by omega
    have H3 := ih ((a.length - (i + 1)) + (b.length - b.length)) (by omega) (i + 1) b.length rfl (by omega) (by omega)
    have := zin a b ha hb (i : Int) (by omega) (by omega) _ _ (hlen (i + 1) b.length) H3 rfl
    rw [List.drop_length] at this ⊢
    rw [d1, rdS]
    exact this
  ·obtain rfl : i = a.length := by omega
   by_cases h2 : k < b.length
   ·have d2 := List.drop_eq_getElem_cons h2
    have r2 := zfb h2
    have H1 := ih ((a.length - a.length) + (b.length - (k + 1))) (by omega) a.length (k + 1) rfl (by omega) (by omega)
    have := ziv a b ha hb (k : Int) (by omega) (by omega) _ _ (hlen a.length (k + 1)) H1 rfl
    rw [r2] at this
    rw [List.drop_length] at this ⊢
    rw [d2, rdS]
    exact this
   ·obtain rfl : k = b.length := by omega
    rw [List.drop_length, List.drop_length, rdS]
    exact ziu a b
def zaN.f (l0 l1 : List ByteArray) (a2 a3 : Int) : Option (List S63) :=
 if l0.length ≤ 100 ∧ l1.length ≤ 100 ∧ a2 = 0 ∧ a3 = 0 then some (rdS 0 l0 l1) else none
theorem zaN.calls (A0 : Option Addr) (c0 : Nat) (l0 : List ByteArray) (A1 : Option Addr) (c1 : Nat) (l1 : List ByteArray) (a2 a3 : Int) (r : List S63) (w : World) (hr0 : Kd.C Kd.string w A0 l0.length l0) (hc0 : l0.length ≤ c0) (hr1 : Kd.C Kd.string w A1 l1.length l1) (hc1 : l1.length ≤ c1)
  (h : zaN.f l0 l1 a2 a3 = some r) :
  Calls Try.prog 65 #[.slice A0 l0.length c0, .slice A1 l1.length c1, .int .i64 a2, .int .i64 a3] w fun e w' => ∃ v0_ : Value, e = .returned v0_ ∧ Kd.R k63 63 w' w.heap.size (fun _ => True) v0_ r ∧ Below w.heap.size w w' := by
 unfold zaN.f at h
 by_cases hb : l0.length ≤ 100 ∧ l1.length ≤ 100 ∧ a2 = 0 ∧ a3 = 0
 ·rw [if_pos hb] at h
  injection h with h
  subst h
  obtain ⟨h0, h1, rfl, rfl⟩ := hb
  exact zhv l0 l1 h0 h1 _ 0 0 rfl (Nat.zero_le _) (Nat.zero_le _) A0 A1 c0 c1 w ⟨hr0, hc0, hr1, hc1⟩
 ·rw [if_neg hb] at h; cases h
def zbs.f (k : Nat) (l0 : List ByteArray) (l1 : List ByteArray) : Option ((List (S63)) × Int) := (zV.f k l0).bind fun t230 => (if t230 = 0 then ((zV.f k l1).bind fun t231 => (if t231 = 0 then ((zaN.f l0 l1 0 0).bind fun t232 => (some (t232, 0))) else (some (([] : List (S63)), t231)))) else (some (([] : List (S63)), t230)))
set_option maxHeartbeats 8000000 in
set_option maxRecDepth 100000 in
theorem zbs.calls (k : Nat) (A0 : Option Addr) (c0 : Nat) (l0 : List ByteArray) (A1 : Option Addr) (c1 : Nat) (l1 : List ByteArray) (r1 : List (S63)) (r2 : Int) (w : World) (hr0 : Kd.C Kd.string w A0 l0.length l0) (hc0 : l0.length ≤ c0) (hr1 : Kd.C Kd.string w A1 l1.length l1) (hc1 : l1.length ≤ c1) (h : zbs.f k l0 l1 = some (r1, r2)) :
  Calls Try.prog 23 #[.slice A0 l0.length c0, .slice A1 l1.length c1] w fun e w' => ∃ v0_ : Value, e = .returned (.tuple #[v0_, .int .i64 r2]) ∧ Kd.R k63 63 w' w.heap.size (fun _ => True) v0_ r1 ∧ Below w.heap.size w w' := by
 have HR0 := za.mk hr0
 have HC0 := za.mk hc0
 clear hr0 hc0
 have HR1 := za.mk hr1
 have HC1 := za.mk hc1
 clear hr1 hc1
 have HB := za.mk (Below.refl w.heap.size w)
 have H : ((zV.f k l0).bind fun t230 => (if t230 = 0 then ((zV.f k l1).bind fun t231 => (if t231 = 0 then ((zaN.f l0 l1 0 0).bind fun t232 => (some (t232, 0))) else (some (([] : List (S63)), t231)))) else (some (([] : List (S63)), t230)))) = some (r1, r2) := h
 clear h
 replace H := Option.bind_eq_some_iff.mp H
 obtain ⟨t230, A30, H⟩ := H
 replace H : (if t230 = 0 then ((zV.f k l1).bind fun t231 => (if t231 = 0 then ((zaN.f l0 l1 0 0).bind fun t232 => (some (t232, 0))) else (some (([] : List (S63)), t231)))) else (some (([] : List (S63)), t230))) = some (r1, r2) := H
 have A3 := za.mk A30
 clear A30
 by_cases c4 : t230 = 0
 ·rw [if_pos c4] at H
  have c4b0 : (t230 == 0) = true := beq_iff_eq.mpr c4
  have c4b1 : (t230 != 0) = false := bne_eq_false_iff_eq.mpr c4
  clear c4
  replace H := Option.bind_eq_some_iff.mp H
  obtain ⟨t231, A50, H⟩ := H
  replace H : (if t231 = 0 then ((zaN.f l0 l1 0 0).bind fun t232 => (some (t232, 0))) else (some (([] : List (S63)), t231))) = some (r1, r2) := H
  have A5 := za.mk A50
  clear A50
  by_cases c6 : t231 = 0
  ·rw [if_pos c6] at H
   have c6b0 : (t231 == 0) = true := beq_iff_eq.mpr c6
   have c6b1 : (t231 != 0) = false := bne_eq_false_iff_eq.mpr c6
   clear c6
   replace H := Option.bind_eq_some_iff.mp H
   obtain ⟨t232, A70, H⟩ := H
   replace H : (some (t232, 0)) = some (r1, r2) := H
   have A7 := za.mk A70
   clear A70
   simp only [Option.some.injEq, Prod.mk.injEq] at H
   obtain ⟨rfl, rfl⟩ := H
   go_enter Try.func23, Try.ntmps23
   go_wp2_with (first | ((with_reducible refine zw (f := 47) rfl ?_); refine zR (some 9) rfl rfl Try.func47 (by kernel_rfl) rfl #[.slice A0 l0.length c0] rfl (by (try simp only [List.map_toArray, List.map_cons, List.map_nil]); first | done | rfl | (simp only [List.length_drop, List.length_take]; rfl)) ?_; (with_reducible refine (zV.calls k _ _ l0 t230 _ ?side1 ?side2 A3.out).mono ?_); (case side1 => repeat (first | exact HR0.out | (with_reducible refine Kd.zab ?_ _) | (with_reducible refine Kd.zac ?_ _) | (with_reducible refine Kd.zah ?_))); (case side2 => exact HC0.out); rintro e w' ⟨rfl, ⟨nd, rfl⟩⟩; refine ⟨_, rfl, ?_⟩) | ((with_reducible refine zw (f := 47) rfl ?_); refine zR (some 14) rfl rfl Try.func47 (by kernel_rfl) rfl #[.slice A1 l1.length c1] rfl (by (try simp only [List.map_toArray, List.map_cons, List.map_nil]); first | done | rfl | (simp only [List.length_drop, List.length_take]; rfl)) ?_; (with_reducible refine (zV.calls k _ _ l1 t231 _ ?side1 ?side2 A5.out).mono ?_); (case side1 => repeat (first | exact HR1.out | (with_reducible refine Kd.zab ?_ _) | (with_reducible refine Kd.zac ?_ _) | (with_reducible refine Kd.zah ?_))); (case side2 => exact HC1.out); rintro e w' ⟨rfl, ⟨nd, rfl⟩⟩; refine ⟨_, rfl, ?_⟩) | ((with_reducible refine zw (f := 65) rfl ?_); refine zR (some 20) rfl rfl Try.func65 (by kernel_rfl) rfl #[.slice A0 l0.length c0, .slice A1 l1.length c1, .int .i64 0, .int .i64 0] rfl (by (try simp only [List.map_toArray, List.map_cons, List.map_nil]); first | done | rfl | (simp only [List.length_drop, List.length_take]; rfl)) ?_; (with_reducible refine (zaN.calls _ _ l0 _ _ l1 0 0 t232 _ ?side1 ?side2 ?side3 ?side4 A7.out).mono ?_); (case side1 => repeat (first | exact HR0.out | (with_reducible refine Kd.zab ?_ _) | (with_reducible refine Kd.zac ?_ _) | (with_reducible refine Kd.zah ?_))); (case side2 => exact HC0.out); (case side3 => repeat (first | exact HR1.out | (with_reducible refine Kd.zab ?_ _) | (with_reducible refine Kd.zac ?_ _) | (with_reducible refine Kd.zah ?_))); (case side4 => exact HC1.out); rintro e w8 ⟨v233, rfl, ho0, hb⟩; refine ⟨_, rfl, ?_⟩; have n0_ := za.mk (Kd.zaA ho0 (zy (by repeat (first | (with_reducible first | exact HB.out | apply ze | apply zb | apply zg) | exact HB.out)))); have n1_ := za.mk (zo (by repeat (first | (with_reducible first | exact HB.out | apply ze | apply zb | apply zg) | exact HB.out)) hb); clear HB; have HO234 := n0_; have HB := n1_; clear n0_ n1_; (try clear hb); (try clear hb2); (try clear hk); (try clear hi); (try clear ho0)))
   go_ret2
   exact ⟨_, by first | rfl | (simp [zt, zu] <;> rfl) | (simp [*, zt, zu] <;> rfl), by (with_reducible repeat (first | apply Kd.zaE | apply Kd.zaF | apply Kd.zaM)); exact HO234.out, by repeat (first | (with_reducible first | exact HB.out | apply ze | apply zb | apply zg) | exact HB.out)⟩
  ·rw [if_neg c6] at H
   have c6b0 : (t231 == 0) = false := beq_eq_false_iff_ne.mpr c6
   have c6b1 : (t231 != 0) = true := bne_iff_ne.mpr c6
   simp only [Option.some.injEq, Prod.mk.injEq] at H
   obtain ⟨rfl, rfl⟩ := H
   go_enter Try.func23, Try.ntmps23
   go_wp2_with (first | ((with_reducible refine zw (f := 47) rfl ?_); refine zR (some 9) rfl rfl Try.func47 (by kernel_rfl) rfl #[.slice A0 l0.length c0] rfl (by (try simp only [List.map_toArray, List.map_cons, List.map_nil]); first | done | rfl | (simp only [List.length_drop, List.length_take]; rfl)) ?_; (with_reducible refine (zV.calls k _ _ l0 t230 _ ?side1 ?side2 A3.out).mono ?_); (case side1 => repeat (first | exact HR0.out | (with_reducible refine Kd.zab ?_ _) | (with_reducible refine Kd.zac ?_ _) | (with_reducible refine Kd.zah ?_))); (case side2 => exact HC0.out); rintro e w' ⟨rfl, ⟨nd, rfl⟩⟩; refine ⟨_, rfl, ?_⟩) | ((with_reducible refine zw (f := 47) rfl ?_); refine zR (some 14) rfl rfl Try.func47 (by kernel_rfl) rfl #[.slice A1 l1.length c1] rfl (by (try simp only [List.map_toArray, List.map_cons, List.map_nil]); first | done | rfl | (simp only [List.length_drop, List.length_take]; rfl)) ?_; (with_reducible refine (zV.calls k _ _ l1 t231 _ ?side1 ?side2 A5.out).mono ?_); (case side1 => repeat (first | exact HR1.out | (with_reducible refine Kd.zab ?_ _) | (with_reducible refine Kd.zac ?_ _) | (with_reducible refine Kd.zah ?_))); (case side2 => exact HC1.out); rintro e w' ⟨rfl, ⟨nd, rfl⟩⟩; refine ⟨_, rfl, ?_⟩))
   go_ret2
   exact ⟨_, by first | rfl | (simp [zt, zu] <;> rfl) | (simp [*, zt, zu] <;> rfl), by first | exact Kd.zbz _ _ _ _ _ | exact Kd.zdk _ _ _ _ _ | exact Kd.zdb _ _ _ _ _ | exact Kd.zda _ _ _ _ _ | exact Kd.zdc _ _ _ _ _, by repeat (first | (with_reducible first | exact HB.out | apply ze | apply zb | apply zg) | exact HB.out)⟩
 ·rw [if_neg c4] at H
  have c4b0 : (t230 == 0) = false := beq_eq_false_iff_ne.mpr c4
  have c4b1 : (t230 != 0) = true := bne_iff_ne.mpr c4
  simp only [Option.some.injEq, Prod.mk.injEq] at H
  obtain ⟨rfl, rfl⟩ := H
  go_enter Try.func23, Try.ntmps23
  go_wp2_with (first | ((with_reducible refine zw (f := 47) rfl ?_); refine zR (some 9) rfl rfl Try.func47 (by kernel_rfl) rfl #[.slice A0 l0.length c0] rfl (by (try simp only [List.map_toArray, List.map_cons, List.map_nil]); first | done | rfl | (simp only [List.length_drop, List.length_take]; rfl)) ?_; (with_reducible refine (zV.calls k _ _ l0 t230 _ ?side1 ?side2 A3.out).mono ?_); (case side1 => repeat (first | exact HR0.out | (with_reducible refine Kd.zab ?_ _) | (with_reducible refine Kd.zac ?_ _) | (with_reducible refine Kd.zah ?_))); (case side2 => exact HC0.out); rintro e w' ⟨rfl, ⟨nd, rfl⟩⟩; refine ⟨_, rfl, ?_⟩))
  go_ret2
  exact ⟨_, by first | rfl | (simp [zt, zu] <;> rfl) | (simp [*, zt, zu] <;> rfl), by first | exact Kd.zbz _ _ _ _ _ | exact Kd.zdk _ _ _ _ _ | exact Kd.zdb _ _ _ _ _ | exact Kd.zda _ _ _ _ _ | exact Kd.zdc _ _ _ _ _, by repeat (first | (with_reducible first | exact HB.out | apply ze | apply zb | apply zg) | exact HB.out)⟩
structure Cmp {α : Type} (c : α → α → Int) : Prop where
 neg : ∀ x y, c y x = - c x y
 tr : ∀ x y z, c x y ≤ 0 → c y z ≤ 0 → c x z ≤ 0
 eq : ∀ x y, c x y = 0 → x = y
theorem Cmp.str {α : Type} {c : α → α → Int} (h : Cmp c) {x y z : α} (h1 : c x y < 0) (h2 : c y z ≤ 0) : c x z < 0 := by
 have h3 := h.tr x y z (by omega) h2
 by_cases h4 : c x z = 0
 ·have := h.eq x z h4
  subst this
  have := h.neg x y
  omega
 ·omega
def lx (a b : Int) : Int := if a = 0 then b else a
theorem zfV (a b c : Int) : or3 a b c = lx a (lx b c) := rfl
theorem zhQ {α : Type} {c : α → α → Int} (h : Cmp c) (x y z : α) {u v t : Int} (ht : u ≤ 0 → v ≤ 0 → t ≤ 0) (h1 : lx (c x y) u ≤ 0) (h2 : lx (c y z) v ≤ 0) : lx (c x z) t ≤ 0 := by
 unfold lx at h1 h2 ⊢
 by_cases e1 : c x y = 0
 ·rw [if_pos e1] at h1
  have := h.eq _ _ e1
  subst this
  by_cases e2 : c x z = 0
  ·rw [if_pos e2] at h2 ⊢
   exact ht h1 h2
  ·rw [if_neg e2] at h2 ⊢
   exact h2
 ·rw [if_neg e1] at h1
  by_cases e2 : c y z = 0
  ·have := h.eq _ _ e2
   subst this
   rw [if_neg e1]; exact h1
  ·rw [if_neg e2] at h2
   have := h.str (x := x) (y := y) (z := z) (by omega) h2
   rw [if_neg (by omega)]; omega
theorem zgU {a b a' b' : Int} (h1 : a' = -a) (h2 : b' = -b) : lx a' b' = - lx a b := by
 unfold lx; subst h1 h2; split <;> split <;> omega
theorem zel {a b : Int} (h : lx a b = 0) : a = 0 ∧ b = 0 := by
 unfold lx at h; split at h
 ·exact ⟨by assumption, h⟩
 ·exact absurd h (by assumption)
theorem Cmp.lex {β γ : Type} {c1 : β → β → Int} {c2 : γ → γ → Int} (h1 : Cmp c1) (h2 : Cmp c2) : Cmp (fun (x y : β × γ) => lx (c1 x.1 y.1) (c2 x.2 y.2)) where
 neg := fun x y => zgU (h1.neg _ _) (h2.neg _ _)
 tr := fun x y z => zhQ h1 _ _ _ (h2.tr _ _ _)
 eq := fun x y h => Prod.ext (h1.eq _ _ (zel h).1) (h2.eq _ _ (zel h).2)
theorem Cmp.inj {α β : Type} {c : β → β → Int} (h : Cmp c) (f : α → β) (hf : ∀ x y, f x = f y → x = y) : Cmp (fun x y => c (f x) (f y)) where
 neg := fun x y => h.neg _ _
 tr := fun x y z => h.tr _ _ _
 eq := fun x y e => hf _ _ (h.eq _ _ e)
theorem zds : Cmp zcL where
 neg := fun x y => by unfold zcL; split <;> split <;> omega
 tr := fun x y z => by unfold zcL; repeat' split <;> (try omega)
 eq := fun x y => by unfold zcL; repeat' split <;> (try omega)
theorem zfZ : ∀ (x y z : List UInt8), Op.bytesLess x y = true → Op.bytesLess y z = true → Op.bytesLess x z = true
 | _, [], _, h, _ => by simp [Op.bytesLess] at h
 | _, _ :: _, [], _, h => by simp [Op.bytesLess] at h
 | [], _ :: _, _ :: _, _, _ => by simp [Op.bytesLess]
 | a :: x, b :: y, c :: z, h1, h2 => by
  have ih := zfZ x y z
  rw [Op.bytesLess] at h1 h2 ⊢
  simp only [Bool.or_eq_true, Bool.and_eq_true, decide_eq_true_eq, beq_iff_eq] at h1 h2 ⊢
  rcases h1 with h1 | ⟨rfl, h1⟩
  ·rcases h2 with h2 | ⟨rfl, h2⟩
   ·exact .inl (Nat.lt_trans (m := b.toNat) h1 h2)
   ·exact .inl h1
  ·rcases h2 with h2 | ⟨rfl, h2⟩
   ·exact .inl h2
   ·exact .inr ⟨rfl, ih h1 h2⟩
theorem zbS (x y : ByteArray) : (Op.bytesLess x.toList y.toList = true ∧ Op.bytesLess y.toList x.toList = false ∧ zdu x y = -1) ∨ (Op.bytesLess x.toList y.toList = false ∧ Op.bytesLess y.toList x.toList = true ∧ zdu x y = 1) ∨ (Op.bytesLess x.toList y.toList = false ∧ Op.bytesLess y.toList x.toList = false ∧ x = y ∧ zdu x y = 0) := by
 have hg := zeD x.toList y.toList
 unfold zdu
 cases h1 : Op.bytesLess x.toList y.toList
 ·cases h2 : Op.bytesLess y.toList x.toList
  ·rw [h1, h2] at hg
   refine .inr (.inr ⟨rfl, rfl, ?_, by simp⟩)
   exact bytes_inj (by simpa using hg)
  ·exact .inr (.inl ⟨rfl, rfl, by simp⟩)
 ·rw [h1] at hg
  have h2 : Op.bytesLess y.toList x.toList = false := by rw [← hg]; rfl
  exact .inl ⟨rfl, h2, by simp⟩
theorem zfU : Cmp zdu where
 neg := fun x y => by
  rcases zbS x y with ⟨h1, h2, h3⟩ | ⟨h1, h2, h3⟩ | ⟨h1, h2, rfl, h3⟩
  ·rcases zbS y x with ⟨k1, k2, k3⟩ | ⟨k1, k2, k3⟩ | ⟨k1, k2, _, k3⟩
   ·rw [k1] at h2; cases h2
   ·rw [h3, k3]; rfl
   ·rw [k2] at h1; cases h1
  ·rcases zbS y x with ⟨k1, k2, k3⟩ | ⟨k1, k2, k3⟩ | ⟨k1, k2, _, k3⟩
   ·rw [h3, k3]
   ·rw [k1] at h2; cases h2
   ·rw [k1] at h2; cases h2
  ·rw [h3]; rfl
 tr := fun x y z => by
  intro a1 a2
  rcases zbS x y with ⟨h1, h2, h3⟩ | ⟨h1, h2, h3⟩ | ⟨h1, h2, rfl, h3⟩
  ·rcases zbS y z with ⟨k1, k2, k3⟩ | ⟨k1, k2, k3⟩ | ⟨k1, k2, rfl, k3⟩
   ·have := zfZ _ _ _ h1 k1
    unfold zdu; rw [if_pos this]; decide
   ·omega
   ·exact a1
  ·omega
  ·exact a2
 eq := fun x y h => by
  rcases zbS x y with ⟨h1, h2, h3⟩ | ⟨h1, h2, h3⟩ | ⟨h1, h2, rfl, h3⟩
  ·omega
  ·omega
  ·rfl
theorem zeC : Cmp zdw := (zds.lex (zds.lex zfU)).inj (fun m : S63 => (m.f1, m.f0, m.f2)) (fun x y h => by
 cases x; cases y
 simp only [Prod.mk.injEq] at h
 obtain ⟨rfl, rfl, rfl⟩ := h
 rfl)
theorem zcx (a b : S63) (x y : List S63) : zbM (a :: x) (b :: y) = lx (zdw a b) (zbM x y) := by rw [zbM]; rfl
theorem zgQ : Cmp zbM where
 neg := fun x => by
  induction x with
  | nil => intro y; cases y <;> simp [zbM]
  | cons a x ih =>
   intro y
   cases y with
   | nil => simp [zbM]
   | cons b y => rw [zcx, zcx]; exact zgU (zeC.neg _ _) (ih _)
 tr := fun x => by
  induction x with
  | nil => intro y z _ _; cases z <;> simp [zbM]
  | cons a x ih =>
   intro y z
   cases y with
   | nil => intro h _; simp [zbM] at h
   | cons b y =>
    cases z with
    | nil => intro _ h; simp [zbM] at h
    | cons c z => rw [zcx, zcx, zcx]; exact zhQ zeC _ _ _ (ih y z)
 eq := fun x => by
  induction x with
  | nil => intro y h; cases y with | nil => rfl | cons b y => simp [zbM] at h
  | cons a x ih =>
   intro y h
   cases y with
   | nil => simp [zbM] at h
   | cons b y =>
    rw [zcx] at h
    rw [zeC.eq _ _ (zel h).1, ih _ (zel h).2]
theorem zcR : Cmp cmpL := (zds.lex (zds.lex zgQ)).inj (fun x : Int × List S63 => (x.1, (x.2.length : Int), x.2)) (fun x y h => by
 simp only [Prod.mk.injEq] at h
 exact Prod.ext h.1 h.2.2)
theorem zcB (a b : Int) : zcL a b = 0 ↔ a = b := ⟨zds.eq a b, fun h => by subst h; simp [zcL]⟩
theorem zd3 (a b : Int) : zcL a b < 0 ↔ a < b := by unfold zcL; repeat' split <;> (try omega)
theorem zg3 (x y : ByteArray) : zdu x y = 0 ↔ x.toList = y.toList := ⟨fun h => by rw [zfU.eq _ _ h], fun h => by
 have := bytes_inj h
 subst this
 rcases zbS x x with ⟨h1, h2, h3⟩ | ⟨h1, h2, h3⟩ | ⟨h1, h2, _, h3⟩
 ·rw [h1] at h2; cases h2
 ·rw [h1] at h2; cases h2
 ·exact h3⟩
theorem zhq (x y : ByteArray) : zdu x y < 0 ↔ Op.bytesLess x.toList y.toList = true := by
 rcases zbS x y with ⟨h1, h2, h3⟩ | ⟨h1, h2, h3⟩ | ⟨h1, h2, _, h3⟩ <;> rw [h1, h3] <;> simp
theorem zeJ (a b : Int) : lx a b < 0 ↔ (a < 0 ∨ (a = 0 ∧ b < 0)) := by unfold lx; split <;> omega
theorem zhT (a b : Int) : lx a b = 0 ↔ (a = 0 ∧ b = 0) := by unfold lx; split <;> omega
theorem zfl (a b : S63) : zdV a b = true ↔ zdw a b = 0 := by
 unfold zdV zdw
 rw [zfV, zhT, zhT, zcB, zcB, zg3]
 simp only [Bool.and_eq_true, beq_iff_eq]
 constructor
 ·rintro ⟨⟨h1, h2⟩, h3⟩; exact ⟨h2, h1, h3⟩
 ·rintro ⟨h2, h1, h3⟩; exact ⟨⟨h1, h2⟩, h3⟩
theorem zf8 (a b : S63) : zdR a b = true ↔ zdw a b < 0 := by
 unfold zdR zdw
 rw [zfV, zeJ, zeJ, zd3, zd3, zcB, zcB, zhq]
 by_cases h1 : a.f1 = b.f1
 ·rw [if_pos h1]
  by_cases h2 : a.f0 = b.f0
  ·rw [if_pos h2]
   constructor
   ·intro h; exact .inr ⟨h1, .inr ⟨h2, h⟩⟩
   ·rintro (h | ⟨_, h | ⟨_, h⟩⟩)
    ·omega
    ·omega
    ·exact h
  ·rw [if_neg h2, decide_eq_true_iff]
   constructor
   ·intro h; exact .inr ⟨h1, .inl h⟩
   ·rintro (h | ⟨_, h | ⟨h, _⟩⟩)
    ·omega
    ·exact h
    ·exact absurd h h2
 ·rw [if_neg h1, decide_eq_true_iff]
  constructor
  ·intro h; exact .inl h
  ·rintro (h | ⟨h, _⟩)
   ·exact h
   ·exact absurd h h1
theorem zec : ∀ (x y : List S63), x.length = y.length → (zcl x y = true ↔ zbM x y < 0)
 | [], [], _ => by simp [zcl, zbM]
 | [], _ :: _, h => by simp at h
 | _ :: _, [], h => by simp at h
 | a :: x, b :: y, h => by
  have ih := zec x y (by simpa using h)
  rw [zcl, zcx, zeJ]
  by_cases hs : zdV a b = true
  ·rw [if_pos hs, ih]
   have := (zfl a b).1 hs
   constructor
   ·intro h; exact .inr ⟨this, h⟩
   ·rintro (h | h)
    ·omega
    ·exact h.2
  ·rw [if_neg hs, zf8]
   constructor
   ·exact .inl
   ·rintro (h | h)
    ·exact h
    ·exact absurd ((zfl a b).2 h.1) hs
def prc (l : List S63) : Int × List S63 := (zby l, l)
theorem zew (x y : List S63) : zb3 x y = true ↔ cmpL (prc x) (prc y) < 0 := by
 unfold zb3 cmpL prc
 rw [zfV, zeJ, zeJ, zd3, zd3, zcB, zcB]
 dsimp only
 by_cases h1 : zby x = zby y
 ·rw [if_pos h1]
  by_cases h2 : x.length = y.length
  ·rw [if_pos h2, zec x y h2]
   constructor
   ·intro h; exact .inr ⟨h1, .inr ⟨by omega, h⟩⟩
   ·rintro (h | ⟨_, h | ⟨_, h⟩⟩)
    ·omega
    ·omega
    ·exact h
  ·rw [if_neg h2, decide_eq_true_iff]
   constructor
   ·intro h; exact .inr ⟨h1, .inl (by omega)⟩
   ·rintro (h | ⟨_, h | ⟨h, _⟩⟩)
    ·omega
    ·omega
    ·omega
 ·rw [if_neg h1, decide_eq_true_iff]
  constructor
  ·intro h; exact .inl h
  ·rintro (h | ⟨h, _⟩)
   ·exact h
   ·exact absurd h h1
theorem zfj (xs : List (Int × List S63)) : ∀ f, cmpL (za3 f xs) f ≤ 0 ∧ ∀ x ∈ xs, cmpL (za3 f xs) x ≤ 0 := by
 have hr : ∀ x, cmpL x x ≤ 0 := fun x => by have := zcR.neg x x; omega
 induction xs with
 | nil => intro f; exact ⟨hr _, fun x h => by cases h⟩
 | cons x xs ih =>
  intro f
  have := ih (if cmpL x f < 0 then x else f)
  rw [za3]
  have h1 : cmpL (if cmpL x f < 0 then x else f) f ≤ 0 := by
   split
   ·omega
   ·exact hr _
  have h2 : cmpL (if cmpL x f < 0 then x else f) x ≤ 0 := by
   split
   ·exact hr _
   ·have := zcR.neg x f; omega
  refine ⟨zcR.tr _ _ _ this.1 h1, fun y hy => ?_⟩
  rcases List.mem_cons.1 hy with rfl | hy
  ·exact zcR.tr _ _ _ this.1 h2
  ·exact this.2 y hy
theorem zev (f g : Int × List S63) (xs ys : List (Int × List S63)) (h1 : ∀ x, x ∈ f :: xs → x ∈ g :: ys) (h2 : ∀ x, x ∈ g :: ys → x ∈ f :: xs) : za3 f xs = za3 g ys := by
 have le : ∀ (f : Int × List S63) xs x, x ∈ f :: xs → cmpL (za3 f xs) x ≤ 0 := fun f xs x hx => by
  rcases List.mem_cons.1 hx with rfl | hx
  ·exact (zfj xs _).1
  ·exact (zfj xs f).2 x hx
 have mem : ∀ (f : Int × List S63) xs, za3 f xs ∈ f :: xs := fun f xs => by
  rcases zeQ xs f with h | h
  ·rw [h]; exact List.mem_cons_self
  ·exact List.mem_cons_of_mem _ h
 refine zcR.eq _ _ ?_
 have a := le f xs _ (h2 _ (mem g ys))
 have b := le g ys _ (h1 _ (mem f xs))
 have := zcR.neg (za3 f xs) (za3 g ys)
 omega
theorem zc4 (b l : List S63) : ∃ c, zbc (some b) l = some c ∧ prc c = za3 (prc b) [prc l] := by
 unfold zbc
 dsimp only [za3]
 by_cases h : zb3 l b = true
 ·rw [if_pos h, if_pos ((zew l b).1 h)]; exact ⟨_, rfl, rfl⟩
 ·rw [if_neg h, if_neg (fun h' => h ((zew l b).2 h'))]; exact ⟨_, rfl, rfl⟩
theorem zcK (m : S63) (l : List S63) (h : l.length ≤ 2000) : zx m (prc l) = prc (m :: l) := by
 have hc := zf3 l
 refine Prod.ext ?_ rfl
 rw [zgt m (prc l) (by exact hc.1) (by show zby l ≤ 5000; omega)]
 simp only [prc, zby]
 split <;> omega
theorem zik (a : List ByteArray) : ∀ (b : List ByteArray) (i : Nat), a.length + b.length ≤ 1000 → dsp i a b = prc (rdS i a b) := by
 induction a with
 | nil =>
  intro b
  induction b with
  | nil => intro i _; rw [dsp, rdS]; rfl
  | cons y b ih =>
   intro i hl
   simp only [List.length_cons, List.length_nil] at hl
   have hn := zdn [] b i
   simp only [List.length_nil] at hn
   rw [dsp, rdS, ih i (by simp only [List.length_nil]; omega), zcK _ _ (by omega)]
   rfl
 | cons x a iha =>
  intro b
  induction b with
  | nil =>
   intro i hl
   simp only [List.length_cons, List.length_nil] at hl
   have hn := zdn a [] (i + 1)
   simp only [List.length_nil] at hn
   rw [dsp, rdS, iha [] (i + 1) (by simp only [List.length_nil]; omega), zcK _ _ (by omega)]
   rfl
  | cons y b ih =>
   intro i hl
   simp only [List.length_cons] at hl
   have n1 := zdn (x :: a) b i
   have n2 := zdn a (y :: b) (i + 1)
   have n3 := zdn a b (i + 1)
   simp only [List.length_cons] at n1 n2
   rw [dsp, rdS, ih i (by simp only [List.length_cons]; omega), iha (y :: b) (i + 1) (by simp only [List.length_cons]; omega), iha b (i + 1) (by omega), zcK _ _ (by omega), zcK _ _ (by omega), zcK _ _ (by omega)]
   obtain ⟨l1, e1⟩ : ∃ l, (⟨1, i, y⟩ :: rdS i (x :: a) b : List S63) = l := ⟨_, rfl⟩
   obtain ⟨l2, e2⟩ : ∃ l, (⟨2, i, y⟩ :: rdS (i + 1) a b : List S63) = l := ⟨_, rfl⟩
   obtain ⟨l3, e3⟩ : ∃ l, (⟨3, i, ⟨#[]⟩⟩ :: rdS (i + 1) a (y :: b) : List S63) = l := ⟨_, rfl⟩
   rw [e1, e2, e3]
   by_cases he : x.toList = y.toList
   ·rw [if_pos (beq_iff_eq.2 he), if_pos he]
    obtain ⟨c1, u1, p1⟩ := zc4 (rdS (i + 1) a b) l1
    obtain ⟨c2, u2, p2⟩ := zc4 c1 l2
    obtain ⟨c3, u3, p3⟩ := zc4 c2 l3
    rw [u1, u2, u3]
    show _ = prc c3
    have : prc c3 = za3 (prc (rdS (i + 1) a b)) [prc l1, prc l2, prc l3] := by
     rw [p3, p2, p1]; rfl
    rw [this]
    refine zev _ _ _ _ ?_ ?_ <;> intro z hz <;> simp only [List.cons_append, List.nil_append, List.mem_cons, List.not_mem_nil, or_false] at hz ⊢ <;> rcases hz with h | h | h | h <;> simp [h]
   ·rw [if_neg (fun h => he (beq_iff_eq.1 h)), if_neg he]
    have u1 : zbc none l1 = some l1 := rfl
    obtain ⟨c2, u2, p2⟩ := zc4 l1 l2
    obtain ⟨c3, u3, p3⟩ := zc4 c2 l3
    rw [u1, u2, u3]
    show _ = prc c3
    have : prc c3 = za3 (prc l1) [prc l2, prc l3] := by
     rw [p3, p2]; rfl
    rw [this]
    refine zev _ _ _ _ ?_ ?_ <;> intro z hz <;> simp only [List.cons_append, List.nil_append, List.append_nil, List.mem_cons, List.not_mem_nil, or_false] at hz ⊢ <;> rcases hz with h | h | h <;> simp [h]
theorem zh0 (a b : List ByteArray) (h : a.length + b.length ≤ 1000) : rdS 0 a b = (dsp 0 a b).2 := by rw [zik a b 0 h]; rfl
theorem zgz (a b : List ByteArray) : Ev (fun k => zbA.f k a b) (if zaS a = 0 then (if zaS b = 0 then ((dsp 0 a b).2, 0) else ([], zaS b)) else ([], zaS a)) := by
 by_cases ha : zaS a = 0
 ·rw [if_pos ha]
  by_cases hb : zaS b = 0
  ·rw [if_pos hb]; exact zhV a b ha hb
  ·rw [if_neg hb]
   unfold zbA.f
   refine Ev.be (zdx a) ?_
   refine Ev.ifp ha ?_
   refine Ev.be (zdx b) ?_
   exact Ev.ifn hb (Ev.now _)
 ·rw [if_neg ha]
  unfold zbA.f
  refine Ev.be (zdx a) ?_
  exact Ev.ifn ha (Ev.now _)
theorem zgG (a b : List ByteArray) : Ev (fun k => zbs.f k a b) (if zaS a = 0 then (if zaS b = 0 then ((dsp 0 a b).2, 0) else ([], zaS b)) else ([], zaS a)) := by
 unfold zbs.f
 refine Ev.be (zer a) ?_
 by_cases ha : zaS a = 0
 ·simp only [if_pos ha]
  refine Ev.be (zer b) ?_
  by_cases hb : zaS b = 0
  ·simp only [if_pos hb]
   have l1 := zdl ha
   have l2 := zdl hb
   have hd : zaN.f a b 0 0 = some (dsp 0 a b).2 := by
    unfold zaN.f
    rw [if_pos ⟨by omega, by omega, rfl, rfl⟩, zh0 a b (by omega)]
   exact Ev.bs hd (Ev.now _)
  ·simp only [if_neg hb]
   exact Ev.now _
 ·simp only [if_neg ha]
  exact Ev.now _
end Go.Proofs.Ytgmbbfmbimofoaa.P
