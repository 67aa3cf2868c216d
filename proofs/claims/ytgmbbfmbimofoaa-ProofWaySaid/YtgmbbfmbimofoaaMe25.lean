-- MERGED BY A PROGRAM out of texts of this claim: hand work, and what a (turned) print of the kit has written for it
import Derived.IntWalk
import Derived.Outline
import Derived.Test.YtgmbbfmbimofoaaMe21
import Derived.Test.YtgmbbfmbimofoaaMe22
import Derived.Test.YtgmbbfmbimofoaaMe24
import Derived.Test.YtgmbbfmbimofoaaMe5
import Derived.Test.YtgmbbfmbimofoaaMe7
import Derived.Test.YtgmbbfmbimofoaaMe12
import Derived.Test.YtgmbbfmbimofoaaMe19
namespace Go.Proofs.Ytgmbbfmbimofoaa.P
open Go.RowKit Go.Proofs.YtgmbbfmbimofoaaW.PrintWords Go.Proofs.YtgmbbfmbimofoaaW.PrintLast Go.Proofs.YtgmbbfmbimofoaaW.PrintMore
attribute [local go_sem] zJ zH zP zO zD zF zK zI
set_option linter.unusedVariables false
set_option linter.unusedSimpArgs false
set_option maxHeartbeats 4000000 in
set_option maxRecDepth 100000 in
theorem zgT (A0 : Option Addr) (c0 : Nat) (l0 : List Int) (w : World) (hr0 : Kd.C (Kd.int .i64) w A0 l0.length l0) (hc0 : l0.length ≤ c0) (hl : l0.length ≤ 17592186044416) :
  Calls Try.prog 11 #[.slice A0 l0.length c0] w fun e w' => e = .returned (.bool true) ∧ Below w.heap.size w w' := by
 obtain ⟨a, t1, t2, p1, p2, p3, p4⟩ := zeZ l0 0 11400714819323198485 (Int.le_refl _) hl 5 (by decide) 200 (by decide)
 obtain ⟨b, u1, u2, q1, q2, q3, q4⟩ := zeZ l0 t1 t2 p4 hl 5 (by decide) 200 (by decide)
 obtain ⟨c, v1, v2, r1, r2, r3, r4⟩ := zeZ l0 u1 u2 q4 hl 5 (by decide) 200 (by decide)
 obtain ⟨o, x1, x2, o1, o2⟩ := zhK l0 v1 v2 r4 hl 3 (by decide) (by decide)
 have ga : Good 6 a := ⟨by omega, p3⟩
 have gb : Good 6 b := ⟨by omega, q3⟩
 have gc : Good 6 c := ⟨by omega, r3⟩
 have P := za.mk (And.intro p1 (And.intro q1 (And.intro r1 o1)))
 have HR := za.mk (And.intro hr0 hc0)
 have G := za.mk (And.intro ga (And.intro gb gc))
 clear p1 p2 p3 p4 q1 q2 q3 q4 r1 r2 r3 r4 o1 o2 ga gb gc hr0 hc0 hl
 go_enter Try.func11, Try.ntmps11
 go_wp2_with fail
 refine (zb7.calls _ _ l0 l0 0 11400714819323198485 w _ (Below.refl _ _) HR.out.1 HR.out.2 rfl).mono ?_
 rintro e w1 ⟨g, rfl, hI, hB, _⟩
 have HI := za.mk hI
 have HB := za.mk hB
 clear hI hB
 go_wp2_with fail
 refine (z8.calls 200 g l0 0 11400714819323198485 5 a t1 t2 w w1 HI.out HB.out P.out.1).mono ?_
 rintro e w2 ⟨v, rfl, hR, hI, hB, hk⟩
 obtain ⟨Aa, ca, rfl, hc, hF⟩ := zfs hR HI.out.lt
 have Fa := za.mk hF
 have Ca := za.mk hc
 replace HI := za.mk hI
 replace HB := za.mk hB
 clear hF hc hI hB hk hR
 go_wp2_with fail
 refine (z8.calls 200 g l0 t1 t2 5 b u1 u2 w w2 HI.out HB.out P.out.2.1).mono ?_
 rintro e w3 ⟨v, rfl, hR, hI, hB, hk⟩
 obtain ⟨Ab, cb, rfl, hc, hF⟩ := zfs hR HI.out.lt
 replace Fa := za.mk (zS Fa.out hk)
 have Fb := za.mk hF
 have Cb := za.mk hc
 replace HI := za.mk hI
 replace HB := za.mk hB
 clear hF hc hI hB hk hR
 go_wp2_with fail
 refine (z8.calls 200 g l0 u1 u2 5 c v1 v2 w w3 HI.out HB.out P.out.2.2.1).mono ?_
 rintro e w4 ⟨v, rfl, hR, hI, hB, hk⟩
 obtain ⟨Ac, cc, rfl, hc, hF⟩ := zfs hR HI.out.lt
 replace Fa := za.mk (zS Fa.out hk)
 replace Fb := za.mk (zS Fb.out hk)
 have Fc := za.mk hF
 have Cc := za.mk hc
 replace HI := za.mk hI
 replace HB := za.mk hB
 clear hF hc hI hB hk hR
 go_wp2_with fail
 refine (zbn.calls g l0 v1 v2 3 o x1 x2 w w4 HI.out HB.out P.out.2.2.2).mono ?_
 rintro e w5 ⟨rfl, hI, hB, hk⟩
 replace HI := za.mk hI
 replace HB := za.mk hB
 replace Fa := za.mk (zS Fa.out hk)
 replace Fb := za.mk (zS Fb.out hk)
 replace Fc := za.mk (zS Fc.out hk)
 clear hI hB hk
 have tail : ∀ (B : List ByteArray) (Ab : Option Addr) (cb : Nat), Good 6 B → B.length ≤ cb → (∀ W', zC w5 W' g none → Kd.string.C W' Ab B.length B) → True := fun _ _ _ _ _ _ => trivial
 clear tail
 by_cases hc : o = true ∧ 1 < a.length
 ·obtain ⟨rfl, hc⟩ := hc
  have d1 : decide ((a.length : Int) > 1) = true := decide_eq_true (by omega)
  have d2 : decide ((1 : Int) < (a.length : Int)) = true := decide_eq_true (by omega)
  have d3 : decide (1 < a.length) = true := decide_eq_true hc
  obtain ⟨i0, hi0, hz0, hz1, hz2⟩ := info_parts zdo
  obtain ⟨AB, hsl, hread, hcap⟩ := zdV (P := Try.prog) Value.string ByteArray.empty 22 9 .i64 Try.underlying22 hi0 hz1 Aa ca a 1 (by decide) (by omega) Ca.out
  have GB := za.mk (show Good 6 (a.drop (1 : Int).toNat) from ⟨by have := G.out.1.1; rw [List.length_drop]; omega, fun z hz => G.out.1.2 z (List.mem_of_mem_drop hz)⟩)
  have CB := za.mk hcap
  have FB : za (∀ W', zC w5 W' g none → Kd.string.C W' AB (a.drop (1 : Int).toNat).length (a.drop (1 : Int).toNat)) := ⟨fun W' hk => Kd.zc9 (hread W' (Kd.zcs (d := ByteArray.empty) (Fa.out W' hk)))⟩
  obtain ⟨B, hB⟩ : ∃ B, a.drop (1 : Int).toNat = B := ⟨_, rfl⟩
  obtain ⟨cB, hcB⟩ : ∃ cB, ca - (1 : Int).toNat = cB := ⟨_, rfl⟩
  rw [hB] at GB CB FB hsl
  rw [hcB] at CB hsl
  clear hi0 hz0 hz1 hz2 hread hcap hB hcB hc
  obtain ⟨K1, hK1⟩ := zb2 a B G.out.1.check GB.out.check
  obtain ⟨K2, hK2⟩ := zb2 B c GB.out.check G.out.2.2.check
  obtain ⟨K3, hK3⟩ := zb2 a c G.out.1.check G.out.2.2.check
  obtain ⟨K4, hK4⟩ := zcA B a (by have := GB.out.1; omega) (by have := G.out.1.1; omega)
  obtain ⟨K5, hK5⟩ := zcA c B (by have := G.out.2.2.1; omega) (by have := GB.out.1; omega)
  have e1 := zcq a B
  have e2 := zcq B c
  have e3 := zdZ a B c
  have b1 := zcn a B
  have b2 := zcn B c
  have b3 := GB.out.1
  have b4 := G.out.2.2.1
  have K := za.mk (And.intro (hK1 K1 (Nat.le_refl _)) (And.intro (hK2 K2 (Nat.le_refl _)) (And.intro (hK3 K3 (Nat.le_refl _)) (And.intro (hK4 K4 (Nat.le_refl _)) (hK5 K5 (Nat.le_refl _))))))
  clear hK1 hK2 hK3 hK4 hK5
  obtain ⟨x, hx⟩ : ∃ x, prS a B = x := ⟨_, rfl⟩
  obtain ⟨y, hy⟩ : ∃ y, prS B c = y := ⟨_, rfl⟩
  obtain ⟨z, hz⟩ : ∃ z, prS a c = z := ⟨_, rfl⟩
  rw [hx] at e1 e3 b1 K
  rw [hy] at e2 e3 b2 K
  rw [hz] at e3 K
  obtain ⟨f1, hf1⟩ : ∃ f, ((zbQ B a : Int) == (B.length : Int)) = f := ⟨_, rfl⟩
  obtain ⟨f2, hf2⟩ : ∃ f, ((zbQ c B : Int) == (c.length : Int)) = f := ⟨_, rfl⟩
  rw [hf1] at e1 K
  rw [hf2] at e2 K
  clear hx hy hz hf1 hf2
  go_wp2_with fail
  refine (zam.calls K1 Aa ca a AB cB B x true w5 (zaB Fa.out) Ca.out (zaB FB.out) CB.out K.out.1).mono ?_
  rintro e w6 ⟨rfl, hb⟩
  replace Fa := za.mk (zS Fa.out (zN hb g))
  replace FB := za.mk (zS FB.out (zN hb g))
  replace Fc := za.mk (zS Fc.out (zN hb g))
  replace HB := za.mk (zo HB.out hb)
  clear hb
  go_wp2_with fail
  refine (zam.calls K2 AB cB B Ac cc c y true w6 (zaB FB.out) CB.out (zaB Fc.out) Cc.out K.out.2.1).mono ?_
  rintro e w7 ⟨rfl, hb⟩
  replace Fa := za.mk (zS Fa.out (zN hb g))
  replace FB := za.mk (zS FB.out (zN hb g))
  replace Fc := za.mk (zS Fc.out (zN hb g))
  replace HB := za.mk (zo HB.out hb)
  clear hb
  go_wp2_with fail
  refine (zam.calls K3 Aa ca a Ac cc c z true w7 (zaB Fa.out) Ca.out (zaB Fc.out) Cc.out K.out.2.2.1).mono ?_
  rintro e w8 ⟨rfl, hb⟩
  replace Fa := za.mk (zS Fa.out (zN hb g))
  replace FB := za.mk (zS FB.out (zN hb g))
  replace Fc := za.mk (zS Fc.out (zN hb g))
  replace HB := za.mk (zo HB.out hb)
  clear hb
  have hw : IntKind.i64.wrap (x + y) = x + y := IntWalk.i64_in (x + y) (by omega)
  have d1 : decide (z ≤ x + y) = true := decide_eq_true e3
  have E1 := za.mk e1
  have E2 := za.mk e2
  have D1 := za.mk (And.intro hw d1)
  clear e1 e2 e3 b1 b2 b3 b4 hw d1
  have hw := D1.out.1
  have d1 := D1.out.2
  go_wp2_with fail
  refine (zaF.calls K4 AB cB B Aa ca a f1 w8 (zaB FB.out) CB.out (zaB Fa.out) Ca.out K.out.2.2.2.1).mono ?_
  rintro e w9 ⟨rfl, hb⟩
  replace Fa := za.mk (zS Fa.out (zN hb g))
  replace FB := za.mk (zS FB.out (zN hb g))
  replace Fc := za.mk (zS Fc.out (zN hb g))
  replace HB := za.mk (zo HB.out hb)
  clear hb
  have g1 : ((x == 0) == f1) = true := beq_iff_eq.2 E1.out
  go_wp2_with fail
  refine (zaF.calls K5 Ac cc c AB cB B f2 w9 (zaB Fc.out) Cc.out (zaB FB.out) CB.out K.out.2.2.2.2).mono ?_
  rintro e w10 ⟨rfl, hb⟩
  replace Fa := za.mk (zS Fa.out (zN hb g))
  replace FB := za.mk (zS FB.out (zN hb g))
  replace Fc := za.mk (zS Fc.out (zN hb g))
  replace HB := za.mk (zo HB.out hb)
  clear hb
  have g2 : ((y == 0) == f2) = true := beq_iff_eq.2 E2.out
  go_wp2_with fail
  refine (zcI w10).mono ?_
  rintro e w11 ⟨rfl, hb⟩
  replace HB := za.mk (zo HB.out hb)
  clear hb
  go_wp2_with fail
  go_ret
  exact ⟨rfl, HB.out⟩
 ·have HC := za.mk hc
  have GB := za.mk G.out.2.1
  have FB := Fb
  have CB := Cb
  clear hc
  cases o with
  | false =>
   obtain ⟨K1, hK1⟩ := zb2 a b G.out.1.check GB.out.check
   obtain ⟨K2, hK2⟩ := zb2 b c GB.out.check G.out.2.2.check
   obtain ⟨K3, hK3⟩ := zb2 a c G.out.1.check G.out.2.2.check
   obtain ⟨K4, hK4⟩ := zcA b a (by have := GB.out.1; omega) (by have := G.out.1.1; omega)
   obtain ⟨K5, hK5⟩ := zcA c b (by have := G.out.2.2.1; omega) (by have := GB.out.1; omega)
   have e1 := zcq a b
   have e2 := zcq b c
   have e3 := zdZ a b c
   have b1 := zcn a b
   have b2 := zcn b c
   have b3 := GB.out.1
   have b4 := G.out.2.2.1
   have K := za.mk (And.intro (hK1 K1 (Nat.le_refl _)) (And.intro (hK2 K2 (Nat.le_refl _)) (And.intro (hK3 K3 (Nat.le_refl _)) (And.intro (hK4 K4 (Nat.le_refl _)) (hK5 K5 (Nat.le_refl _))))))
   clear hK1 hK2 hK3 hK4 hK5
   obtain ⟨x, hx⟩ : ∃ x, prS a b = x := ⟨_, rfl⟩
   obtain ⟨y, hy⟩ : ∃ y, prS b c = y := ⟨_, rfl⟩
   obtain ⟨z, hz⟩ : ∃ z, prS a c = z := ⟨_, rfl⟩
   rw [hx] at e1 e3 b1 K
   rw [hy] at e2 e3 b2 K
   rw [hz] at e3 K
   obtain ⟨f1, hf1⟩ : ∃ f, ((zbQ b a : Int) == (b.length : Int)) = f := ⟨_, rfl⟩
   obtain ⟨f2, hf2⟩ : ∃ f, ((zbQ c b : Int) == (c.length : Int)) = f := ⟨_, rfl⟩
   rw [hf1] at e1 K
   rw [hf2] at e2 K
   clear hx hy hz hf1 hf2
   go_wp2_with fail
   refine (zam.calls K1 Aa ca a Ab cb b x true w5 (zaB Fa.out) Ca.out (zaB FB.out) CB.out K.out.1).mono ?_
   rintro e w6 ⟨rfl, hb⟩
   replace Fa := za.mk (zS Fa.out (zN hb g))
   replace FB := za.mk (zS FB.out (zN hb g))
   replace Fc := za.mk (zS Fc.out (zN hb g))
   replace HB := za.mk (zo HB.out hb)
   clear hb
   go_wp2_with fail
   refine (zam.calls K2 Ab cb b Ac cc c y true w6 (zaB FB.out) CB.out (zaB Fc.out) Cc.out K.out.2.1).mono ?_
   rintro e w7 ⟨rfl, hb⟩
   replace Fa := za.mk (zS Fa.out (zN hb g))
   replace FB := za.mk (zS FB.out (zN hb g))
   replace Fc := za.mk (zS Fc.out (zN hb g))
   replace HB := za.mk (zo HB.out hb)
   clear hb
   go_wp2_with fail
   refine (zam.calls K3 Aa ca a Ac cc c z true w7 (zaB Fa.out) Ca.out (zaB Fc.out) Cc.out K.out.2.2.1).mono ?_
   rintro e w8 ⟨rfl, hb⟩
   replace Fa := za.mk (zS Fa.out (zN hb g))
   replace FB := za.mk (zS FB.out (zN hb g))
   replace Fc := za.mk (zS Fc.out (zN hb g))
   replace HB := za.mk (zo HB.out hb)
   clear hb
   have hw : IntKind.i64.wrap (x + y) = x + y := IntWalk.i64_in (x + y) (by omega)
   have d1 : decide (z ≤ x + y) = true := decide_eq_true e3
   have E1 := za.mk e1
   have E2 := za.mk e2
   have D1 := za.mk (And.intro hw d1)
   clear e1 e2 e3 b1 b2 b3 b4 hw d1
   have hw := D1.out.1
   have d1 := D1.out.2
   go_wp2_with fail
   refine (zaF.calls K4 Ab cb b Aa ca a f1 w8 (zaB FB.out) CB.out (zaB Fa.out) Ca.out K.out.2.2.2.1).mono ?_
   rintro e w9 ⟨rfl, hb⟩
   replace Fa := za.mk (zS Fa.out (zN hb g))
   replace FB := za.mk (zS FB.out (zN hb g))
   replace Fc := za.mk (zS Fc.out (zN hb g))
   replace HB := za.mk (zo HB.out hb)
   clear hb
   have g1 : ((x == 0) == f1) = true := beq_iff_eq.2 E1.out
   go_wp2_with fail
   refine (zaF.calls K5 Ac cc c Ab cb b f2 w9 (zaB Fc.out) Cc.out (zaB FB.out) CB.out K.out.2.2.2.2).mono ?_
   rintro e w10 ⟨rfl, hb⟩
   replace Fa := za.mk (zS Fa.out (zN hb g))
   replace FB := za.mk (zS FB.out (zN hb g))
   replace Fc := za.mk (zS Fc.out (zN hb g))
   replace HB := za.mk (zo HB.out hb)
   clear hb
   have g2 : ((y == 0) == f2) = true := beq_iff_eq.2 E2.out
   go_wp2_with fail
   refine (zcI w10).mono ?_
   rintro e w11 ⟨rfl, hb⟩
   replace HB := za.mk (zo HB.out hb)
   clear hb
   go_wp2_with fail
   go_ret
   exact ⟨rfl, HB.out⟩
  | true =>
   have hn : ¬ 1 < a.length := fun h => HC.out ⟨rfl, h⟩
   have d1 : decide ((a.length : Int) > 1) = false := decide_eq_false (by omega)
   have d2 : decide ((1 : Int) < (a.length : Int)) = false := decide_eq_false (by omega)
   have d3 : decide (1 < a.length) = false := decide_eq_false hn
   clear hn
   obtain ⟨K1, hK1⟩ := zb2 a b G.out.1.check GB.out.check
   obtain ⟨K2, hK2⟩ := zb2 b c GB.out.check G.out.2.2.check
   obtain ⟨K3, hK3⟩ := zb2 a c G.out.1.check G.out.2.2.check
   obtain ⟨K4, hK4⟩ := zcA b a (by have := GB.out.1; omega) (by have := G.out.1.1; omega)
   obtain ⟨K5, hK5⟩ := zcA c b (by have := G.out.2.2.1; omega) (by have := GB.out.1; omega)
   have e1 := zcq a b
   have e2 := zcq b c
   have e3 := zdZ a b c
   have b1 := zcn a b
   have b2 := zcn b c
   have b3 := GB.out.1
   have b4 := G.out.2.2.1
   have K := za.mk (And.intro (hK1 K1 (Nat.le_refl _)) (And.intro (hK2 K2 (Nat.le_refl _)) (And.intro (hK3 K3 (Nat.le_refl _)) (And.intro (hK4 K4 (Nat.le_refl _)) (hK5 K5 (Nat.le_refl _))))))
   clear hK1 hK2 hK3 hK4 hK5
   obtain ⟨x, hx⟩ : ∃ x, prS a b = x := ⟨_, rfl⟩
   obtain ⟨y, hy⟩ : ∃ y, prS b c = y := ⟨_, rfl⟩
   obtain ⟨z, hz⟩ : ∃ z, prS a c = z := ⟨_, rfl⟩
   rw [hx] at e1 e3 b1 K
   rw [hy] at e2 e3 b2 K
   rw [hz] at e3 K
   obtain ⟨f1, hf1⟩ : ∃ f, ((zbQ b a : Int) == (b.length : Int)) = f := ⟨_, rfl⟩
   obtain ⟨f2, hf2⟩ : ∃ f, ((zbQ c b : Int) == (c.length : Int)) = f := ⟨_, rfl⟩
   rw [hf1] at e1 K
   rw [hf2] at e2 K
   clear hx hy hz hf1 hf2
   go_wp2_with fail
   refine (zam.calls K1 Aa ca a Ab cb b x true w5 (zaB Fa.out) Ca.out (zaB FB.out) CB.out K.out.1).mono ?_
   rintro e w6 ⟨rfl, hb⟩
   replace Fa := za.mk (zS Fa.out (zN hb g))
   replace FB := za.mk (zS FB.out (zN hb g))
   replace Fc := za.mk (zS Fc.out (zN hb g))
   replace HB := za.mk (zo HB.out hb)
   clear hb
   go_wp2_with fail
   refine (zam.calls K2 Ab cb b Ac cc c y true w6 (zaB FB.out) CB.out (zaB Fc.out) Cc.out K.out.2.1).mono ?_
   rintro e w7 ⟨rfl, hb⟩
   replace Fa := za.mk (zS Fa.out (zN hb g))
   replace FB := za.mk (zS FB.out (zN hb g))
   replace Fc := za.mk (zS Fc.out (zN hb g))
   replace HB := za.mk (zo HB.out hb)
   clear hb
   go_wp2_with fail
   refine (zam.calls K3 Aa ca a Ac cc c z true w7 (zaB Fa.out) Ca.out (zaB Fc.out) Cc.out K.out.2.2.1).mono ?_
   rintro e w8 ⟨rfl, hb⟩
   replace Fa := za.mk (zS Fa.out (zN hb g))
   replace FB := za.mk (zS FB.out (zN hb g))
   replace Fc := za.mk (zS Fc.out (zN hb g))
   replace HB := za.mk (zo HB.out hb)
   clear hb
   have hw : IntKind.i64.wrap (x + y) = x + y := IntWalk.i64_in (x + y) (by omega)
   have d1 : decide (z ≤ x + y) = true := decide_eq_true e3
   have E1 := za.mk e1
   have E2 := za.mk e2
   have D1 := za.mk (And.intro hw d1)
   clear e1 e2 e3 b1 b2 b3 b4 hw d1
   have hw := D1.out.1
   have d1 := D1.out.2
   go_wp2_with fail
   refine (zaF.calls K4 Ab cb b Aa ca a f1 w8 (zaB FB.out) CB.out (zaB Fa.out) Ca.out K.out.2.2.2.1).mono ?_
   rintro e w9 ⟨rfl, hb⟩
   replace Fa := za.mk (zS Fa.out (zN hb g))
   replace FB := za.mk (zS FB.out (zN hb g))
   replace Fc := za.mk (zS Fc.out (zN hb g))
   replace HB := za.mk (zo HB.out hb)
   clear hb
   have g1 : ((x == 0) == f1) = true := beq_iff_eq.2 E1.out
   go_wp2_with fail
   refine (zaF.calls K5 Ac cc c Ab cb b f2 w9 (zaB Fc.out) Cc.out (zaB FB.out) CB.out K.out.2.2.2.2).mono ?_
   rintro e w10 ⟨rfl, hb⟩
   replace Fa := za.mk (zS Fa.out (zN hb g))
   replace FB := za.mk (zS FB.out (zN hb g))
   replace Fc := za.mk (zS Fc.out (zN hb g))
   replace HB := za.mk (zo HB.out hb)
   clear hb
   have g2 : ((y == 0) == f2) = true := beq_iff_eq.2 E2.out
   go_wp2_with fail
   refine (zcI w10).mono ?_
   rintro e w11 ⟨rfl, hb⟩
   replace HB := za.mk (zo HB.out hb)
   clear hb
   go_wp2_with fail
   go_ret
   exact ⟨rfl, HB.out⟩
theorem zha (a0 : Option Addr) (len0 cap0 : Nat) (z0 : List Int) (w : World) (w0 : (a0 = none ∧ len0 = 0 ∧ cap0 = 0 ∧ z0 = []) ∨ ∃ x, a0 = some x ∧ len0 ≤ cap0 ∧ cap0 ≤ maxLen ∧ z0.length = cap0 ∧ (∀ i, i < z0.length → w.cell? (x.add i) = some (.int .i64 (z0.getD i 0))) ∧ ∀ n ∈ z0, (Lit.int .i64 n).wf = true) (y0 : len0 * 8 ≤ 140737488351232) :
  Calls Try.prog 11 #[.slice a0 len0 cap0] w fun e w' => e = .returned (.bool true) ∧ Below w.heap.size w w' := by
 obtain ⟨l0, rfl, hr0, hm0, hw0, hc0⟩ := zaL.zh9 w0
 exact zgT _ _ l0 w (Kd.zc9 (d := (0 : Int)) (h1 := fun _ => rfl) hr0) hc0 (by omega)
end Go.Proofs.Ytgmbbfmbimofoaa.P
