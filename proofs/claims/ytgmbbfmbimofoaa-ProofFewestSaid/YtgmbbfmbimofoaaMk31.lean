-- MERGED BY A PROGRAM out of texts of this claim: hand work, and what a (turned) print of the kit has written for it
import Derived.IntWalk
import Derived.Outline
import Derived.Test.YtgmbbfmbimofoaaMk29
import Derived.Test.YtgmbbfmbimofoaaMk23
import Derived.Test.YtgmbbfmbimofoaaMk30
namespace Go.Proofs.Ytgmbbfmbimofoaa.P
open Go.RowKit Go.Proofs.YtgmbbfmbimofoaaW.PrintWords Go.Proofs.YtgmbbfmbimofoaaW.PrintLast Go.Proofs.YtgmbbfmbimofoaaW.PrintMore
attribute [local go_sem] zH zI zP zO zC zB zJ zK
set_option linter.unusedVariables false
set_option linter.unusedSimpArgs false
theorem Good.take {p : List ByteArray} (h : Good 6 p) (n : Nat) : Good 6 (p.take n) := ⟨by rw [List.length_take]; have := h.1; omega,fun x hx => h.2 x (List.mem_of_mem_take hx)⟩
set_option maxHeartbeats 16000000 in
set_option maxRecDepth 100000 in
theorem zhI (A0 : Option Addr) (c0 : Nat) (l0 : List Int) (w : World) (hr0 : Kd.C (Kd.int .i64) w A0 l0.length l0) (hc0 : l0.length ≤ c0) (hl : l0.length ≤ 17592186044416) :
  Calls Try.prog 10 #[.slice A0 l0.length c0] w fun e w' => e = .returned (.bool true) ∧ Below w.heap.size w w' := by
 obtain ⟨a,t1,t2,p1,p2,p3,p4⟩ := zgH l0 0 11400714819323198485 (Int.le_refl _) hl 6 qq 200 qq
 obtain ⟨b,u1,u2,q1,q2,q3,q4⟩ := zgH l0 t1 t2 p4 hl 6 qq 200 qq
 have ga : Good 6 a := ⟨p2,p3⟩
 have gb : Good 6 b := ⟨q2,q3⟩
 obtain ⟨na,hna⟩ : ∃ n : Nat,min 3 a.length = n := ⟨_,rfl⟩
 obtain ⟨nb,hnb⟩ : ∃ n : Nat,min 3 b.length = n := ⟨_,rfl⟩
 have hxl : (a.take na).length = na := by rw [List.length_take]; omega
 have hyl : (b.take nb).length = nb := by rw [List.length_take]; omega
 obtain ⟨KD,hKD⟩ := zgR a b ga.check gb.check
 obtain ⟨ds,hds⟩ : ∃ d,(dsp 0 a b).2 = d := ⟨_,rfl⟩
 have hcost := ziP a _ (zga a b ga.check gb.check)
 have hpr := zhg a b ql
 rw [hds] at hKD hcost hpr
 rw [hpr] at hcost
 obtain ⟨KC,hKC⟩ := hcost
 obtain ⟨KM,hKM⟩ := zhq a b ql ql
 have hlc := (zgM a b).2
 obtain ⟨lc,hlce⟩ : ∃ n,zc1 a b = n := ⟨_,rfl⟩
 have hprv : prS a b = (b.length : Int) - (lc : Int) := by unfold prS; rw [hlce]
 rw [hprv] at hKC
 rw [hlce] at hKM hlc
 obtain ⟨x,hx⟩ : ∃ x,a.take na = x := ⟨_,rfl⟩
 obtain ⟨y,hy⟩ : ∃ y,b.take nb = y := ⟨_,rfl⟩
 have gx : Good 6 x := by rw [← hx]; exact ga.take na
 have gy : Good 6 y := by rw [← hy]; exact gb.take nb
 obtain ⟨KX,hKX⟩ := zgR x y gx.check gy.check
 obtain ⟨dx,hdx⟩ : ∃ d,(dsp 0 x y).2 = d := ⟨_,rfl⟩
 have hst : zby 0 (x.drop 0) (y.drop 0) [] none = some dx := by
  rw [List.drop_zero,List.drop_zero,ziO _ x y 0 [] none rfl (by have := gx.1; have := gy.1; omega),List.nil_append,ziQ x y (by have := gx.1; have := gy.1; omega),hdx]; rfl
 rw [hdx] at hKX
 have hdl : dx.length ≤ 100 := by rw [← hdx]; have := zfz x y 0; have := gx.1; have := gy.1; omega
 obtain ⟨KE,hKE⟩ := zgT dx ql
 have K := za.mk (And.intro p1 (And.intro q1 (And.intro (hKD KD (Nat.le_refl _)) (And.intro (hKC KC (Nat.le_refl _)) (And.intro (hKM KM (Nat.le_refl _)) (And.intro (hKX KX (Nat.le_refl _)) (hKE KE (Nat.le_refl _))))))))
 have HR := za.mk (And.intro hr0 hc0)
 have Z := za.mk (And.intro p2 (And.intro q2 (And.intro hlc (And.intro hna (And.intro hnb (And.intro hx (And.intro hy (And.intro hst (And.intro gx.1 gy.1)))))))))
 rw [hx] at hxl
 rw [hy] at hyl
 have ZL := za.mk (And.intro hxl hyl)
 clear p1 p2 p3 p4 q1 q2 q3 q4 ga gb hna hnb hKD hds hpr hKC hKM hlc hlce hprv hx hy gx gy hKX hdx hst hdl hKE hr0 hc0 hl hxl hyl
 have HB := za.mk (Below.refl w.heap.size w)
 go_enter Try.func10,Try.ntmps10
 go_wp2_with fail
 refine (zb8.calls _ _ l0 l0 0 11400714819323198485 w _ HB.out HR.out.1 HR.out.2 rfl).mono ?_
 rintro e w3 ⟨g,rfl,hI,hB,_⟩
 have HI := za.mk hI
 replace HB := za.mk hB
 have HG3 : za (g < w3.heap.size) := ⟨hI.lt⟩
 clear hI hB
 go_wp2_with fail
 refine (zab.calls 200 g l0 0 11400714819323198485 6 a t1 t2 w w3 HI.out HB.out K.out.1).mono ?_
 rintro e w4 ⟨va,rfl,hR,hI,hB,hk⟩
 have RA : za (Kd.string.R 9 w4 w3.heap.size (fun k => w3.heap.size ≤ k ∧ k < w4.heap.size) va a) := ⟨Kd.zaB (Kd.za5 hR) (fun k hk => ⟨hk.2.1,hk.2.2.1⟩)⟩
 have HL4 : za (w3.heap.size ≤ w4.heap.size) := ⟨hk.1⟩
 obtain ⟨Aa,ca,rfl⟩ := Kd.zbc hR
 replace HI := za.mk hI
 replace HB := za.mk hB
 clear hR hI hB hk
 go_wp2_with fail
 refine (zab.calls 200 g l0 t1 t2 6 b u1 u2 w w4 HI.out HB.out K.out.2.1).mono ?_
 rintro e w5 ⟨vb,rfl,hR,hI,hB,hk⟩
 replace RA := za.mk (Kd.zaB (ok' := fun k => k < w5.heap.size) (Kd.zf9 RA.out hk (fun k hk' => by have := HG3.out; omega)) (fun k hk' => by have := hk.1; omega))
 have RB : za (Kd.string.R 9 w5 w4.heap.size (fun k => k < w5.heap.size) vb b) := ⟨Kd.zaB (Kd.za5 hR) (fun k hk => hk.2.2.1)⟩
 obtain ⟨Ab,cb,rfl⟩ := Kd.zbc hR
 replace HB := za.mk hB
 have HL5 : za (w5.heap.size ≤ w5.heap.size) := ⟨Nat.le_refl _⟩
 clear hR hI hB hk HI HG3
 have FA := za.mk (zaK RA.out)
 have FB := za.mk (zaK RB.out)
 go_wp2_with fail
 refine (zbS.calls KD Aa ca a Ab cb b ds 0 w5 FA.out.1 FA.out.2 FB.out.1 FB.out.2 K.out.2.2.1).mono ?_
 rintro e w6 ⟨v,rfl,hR,hb⟩
 obtain ⟨Al,cl,rfl,hcl,_⟩ := Kd.zak hR
 have FL := za.mk (zaK hR)
 replace RA := za.mk (Kd.zD RA.out hb)
 replace RB := za.mk (Kd.zD RB.out hb)
 replace HB := za.mk (zo HB.out hb)
 replace HL5 := za.mk (Nat.le_trans HL5.out hb.size)
 clear hR hb hcl FA FB
 have FA := za.mk (zaK RA.out)
 go_wp2_with fail
 refine (zaZ.calls KC Aa ca a Al cl ds ((b.length : Int) - (lc : Int)) 0 w6 FA.out.1 FA.out.2 FL.out.1 FL.out.2 K.out.2.2.2.1).mono ?_
 rintro e w7 ⟨rfl,hb⟩
 replace RA := za.mk (Kd.zD RA.out hb)
 replace RB := za.mk (Kd.zD RB.out hb)
 replace HB := za.mk (zo HB.out hb)
 replace HL5 := za.mk (Nat.le_trans HL5.out hb.size)
 clear hb FA FL
 have FA := za.mk (zaK RA.out)
 have FB := za.mk (zaK RB.out)
 go_wp2_with fail
 refine (zQ.calls KM Aa ca a Ab cb b (lc : Int) w7 FA.out.1 FA.out.2 FB.out.1 FB.out.2 K.out.2.2.2.2.1).mono ?_
 rintro e w8 ⟨rfl,hb⟩
 replace RA := za.mk (Kd.zD RA.out hb)
 replace RB := za.mk (Kd.zD RB.out hb)
 replace HB := za.mk (zo HB.out hb)
 replace HL5 := za.mk (Nat.le_trans HL5.out hb.size)
 clear hb FA FB
 have hw : IntKind.i64.wrap ((b.length : Int) - (lc : Int)) = (b.length : Int) - (lc : Int) := IntWalk.i64_in _ (by have := Z.out.1; have := Z.out.2.1; have := Z.out.2.2.1; omega)
 go_upto_region 7 with fail
 clear hw
 have hm1 : (if (a.length : Int) < 3 then (a.length : Int) else 3) = (na : Int) := by have := Z.out.2.2.2.1; split <;> omega
 have hm2 : (if (b.length : Int) < 3 then (b.length : Int) else 3) = (nb : Int) := by have := Z.out.2.2.2.2.1; split <;> omega
 have hca : na ≤ ca := by have h1 := Z.out.2.2.2.1; have h2 := (zaK RA.out).2; omega
 have hcb : nb ≤ cb := by have h1 := Z.out.2.2.2.2.1; have h2 := (zaK RB.out).2; omega
 have hca1 : (na : Int) ≤ (ca : Int) := by omega
 have hcb1 : (nb : Int) ≤ (cb : Int) := by omega
 have HT : True := trivial
 refine zal (fun _ => True) [] qg ?_
 refine tk 0 ?_
 (try simp only [pu0,pu1,pu2,pu3,pu4])
 refine tk 1 ?_
 (try simp only [pu0,pu1,pu2,pu3,pu4])
 refine tk 2 ?_
 (try simp only [pu0,pu1,pu2,pu3,pu4])
 refine tk 3 ?_
 (try simp only [pu0,pu1,pu2,pu3,pu4])
 refine tk 4 ?_
 (try simp only [pu0,pu1,pu2,pu3,pu4])
 refine tk 5 ?_
 (try simp only [pu0,pu1,pu2,pu3,pu4])
 refine tk 6 ?_
 (try simp only [pu0,pu1,pu2,pu3,pu4])
 refine tk 7 ?_
 (try simp only [pu0,pu1,pu2,pu3,pu4])
 refine tk 8 ?_
 (try simp only [pu0,pu1,pu2,pu3,pu4])
 refine tk 9 ?_
 (try simp only [pu0,pu1,pu2,pu3,pu4])
 refine tk 10 ?_
 (try simp only [pu0,pu1,pu2,pu3,pu4])
 refine tk 11 ?_
 (try simp only [pu0,pu1,pu2,pu3,pu4])
 refine zac qg ?_ _
 have hb := zg (Below.refl w8.heap.size w8)
 replace RA := za.mk (Kd.zD RA.out hb)
 replace RB := za.mk (Kd.zD RB.out hb)
 replace HB := za.mk (zo HB.out hb)
 replace HL5 := za.mk (Nat.le_trans HL5.out hb.size)
 clear hb HT hm1 hm2 hca hcb hca1 hcb1
 obtain ⟨w9,hw9⟩ : ∃ u_,w8.drew = u_ := ⟨_,rfl⟩
 rw [hw9] at RA RB HB HL5 ⊢
 clear hw9
 have x1 := heap_alloc_new w9 (.cells #[.slice none 0 0] 31)
 have b1 := ze (Below.refl w9.heap.size w9) (.cells #[.slice none 0 0] 31)
 have x2 := heap_alloc_new (w9.alloc (.cells #[.slice none 0 0] 31)) (.cells #[.bool false] 4)
 have b2 := ze (Below.refl (w9.alloc (.cells #[.slice none 0 0] 31)).heap.size (w9.alloc (.cells #[.slice none 0 0] 31))) (.cells #[.bool false] 4)
 have hs : (w9.alloc (.cells #[.slice none 0 0] 31)).heap.size = w9.heap.size + 1 := by simp
 have x1' := zu x1 b2
 have hb := zo b1 b2
 rw [hs] at x2
 obtain ⟨pb,hpb⟩ : ∃ u_,w9.heap.size = u_ := ⟨_,rfl⟩
 obtain ⟨ps,hps⟩ : ∃ u_,pb + 1 = u_ := ⟨_,rfl⟩
 have HLS : za (LS ((w9.alloc (.cells #[.slice none 0 0] 31)).alloc (.cells #[.bool false] 4)) pb ps none) := ⟨⟨by omega,⟨none,0,0,by rw [← hpb]; exact x1',fun l h => by cases h⟩,by rw [← hps, ← hpb]; exact x2⟩⟩
 have HP : za (w.heap.size ≤ pb ∧ w.heap.size ≤ ps) := ⟨by have := HB.out.size; omega⟩
 have RA2 := Kd.zaB (ok' := fun k => k < pb) (Kd.zD RA.out hb) (fun k hk => by have := HL5.out; omega)
 have RB2 := Kd.zaB (ok' := fun k => k < pb) (Kd.zD RB.out hb) (fun k hk => by have := HL5.out; omega)
 have CA : za (∀ W',Kept ((w9.alloc (.cells #[.slice none 0 0] 31)).alloc (.cells #[.bool false] 4)) W' (FS pb ps) → Kd.string.C W' Aa x.length x) := ⟨fun W' hk => by
  have h := Kd.zbW RA2 (fun k h1 h2 => by rcases h2 with rfl | rfl <;> omega) W' hk
  rw [← Z.out.2.2.2.2.2.1]
  exact Kd.zgc h (by have := Z.out.2.2.2.1; omega)⟩
 have CB : za (∀ W',Kept ((w9.alloc (.cells #[.slice none 0 0] 31)).alloc (.cells #[.bool false] 4)) W' (FS pb ps) → Kd.string.C W' Ab y.length y) := ⟨fun W' hk => by
  have h := Kd.zbW RB2 (fun k h1 h2 => by rcases h2 with rfl | rfl <;> omega) W' hk
  rw [← Z.out.2.2.2.2.2.2.1]
  exact Kd.zgc h (by have := Z.out.2.2.2.2.1; omega)⟩
 have LA : za (x.length ≤ ca ∧ y.length ≤ cb) := ⟨by
  have h1 := (zaK RA.out).2
  have h2 := (zaK RB.out).2
  have h3 := Z.out.2.2.2.1
  have h4 := Z.out.2.2.2.2.1
  have h5 := ZL.out
  omega⟩
 replace HB := za.mk (zo HB.out hb)
 clear x1 x2 b1 b2 hs x1' hb RA RB RA2 RB2 HL5
 go_upto_region 10 with fail
 (try rw [hpb])
 obtain ⟨w10,hw10⟩ : ∃ u_,(w9.alloc (.cells #[.slice none 0 0] 31)).alloc (.cells #[.bool false] 4) = u_ := ⟨_,rfl⟩
 rw [hw10] at HLS CA CB HB ⊢
 (try rw [hps])
 clear hw10 hpb hps
 have hxl : na = x.length := ZL.out.1.symm
 have hyl : nb = y.length := ZL.out.2.symm
 rw [hxl,hyl]
 clear hxl hyl
 go_wp2_with fail
 refine (zgy w pb ps (x.length - 0 + (y.length - 0)) x y 0 0 Aa ca Ab cb none 0 [] none w10 rfl (Nat.zero_le _) (Nat.zero_le _) (by have := Z.out.2.2.2.2.2.2.2.2.1; omega) (by have := Z.out.2.2.2.2.2.2.2.2.2; omega) (by have h1 := Z.out.2.2.2.2.2.2.2.2.1; have h2 := Z.out.2.2.2.2.2.2.2.2.2; simp only [List.length_nil]; omega) ⟨CA.out,LA.out.1,CB.out,LA.out.2,Kd.zhb,Nat.le_refl _⟩ HLS.out HB.out HP.out).mono ?_
 rintro e w11 ⟨rfl,hk,hls,hbw⟩
 rw [Z.out.2.2.2.2.2.2.2.1] at hls
 have FA := za.mk (And.intro (CA.out _ hk) LA.out.1)
 have FB := za.mk (And.intro (CB.out _ hk) LA.out.2)
 obtain ⟨Ax,nx,cx,hh,hh2⟩ := hls.hb
 obtain ⟨h1,h2,h3,h4⟩ := hh2 dx rfl
 subst h1
 have FX := za.mk (And.intro (h4 _ (Kept.refl _ _)) h2)
 have BX := za.mk hh
 replace HB := za.mk hbw
 clear hk hls hbw hh hh2 h2 h3 h4 CA CB HLS
 go_wp2_with fail
 refine (zbS.calls KX Aa ca x Ab cb y dx 0 w11 FA.out.1 FA.out.2 FB.out.1 FB.out.2 K.out.2.2.2.2.2.1).mono ?_
 rintro e w12 ⟨v,rfl,hR,hb⟩
 obtain ⟨Ae,ce,rfl,hce,_⟩ := Kd.zak hR
 have FE := za.mk (zaK hR)
 replace FX := za.mk (zh0 FX.out hb)
 replace BX := za.mk (zu BX.out hb)
 replace HB := za.mk (zo HB.out hb)
 clear hR hb hce
 have z0 := (zf BX.out 0).trans rfl
 go_wp2_with fail
 refine (zae.calls KE Ae ce dx Ax cx dx true w12 FE.out.1 FE.out.2 FX.out.1 FX.out.2 K.out.2.2.2.2.2.2).mono ?_
 rintro e w13 ⟨rfl,hd⟩
 replace HB := za.mk (zo HB.out (zgx hd))
 clear hd z0
 go_wp2_with fail
 refine (ze7 w13).mono ?_
 rintro e w14 ⟨rfl,hb⟩
 replace HB := za.mk (zo HB.out hb)
 clear hb
 go_wp2_with fail
 go_ret
 exact ⟨rfl,HB.out⟩
theorem zhQ (a0 : Option Addr) (len0 cap0 : Nat) (z0 : List Int) (w : World) (w0 : (a0 = none ∧ len0 = 0 ∧ cap0 = 0 ∧ z0 = []) ∨ ∃ x,a0 = some x ∧ len0 ≤ cap0 ∧ cap0 ≤ maxLen ∧ z0.length = cap0 ∧ (∀ i,i < z0.length → w.cell? (x.add i) = some (.int .i64 (z0.getD i 0))) ∧ ∀ n ∈ z0,(Lit.int .i64 n).wf = true) (y0 : len0 * 8 ≤ 140737488351232) :
  Calls Try.prog 10 #[.slice a0 len0 cap0] w fun e w' => e = .returned (.bool true) ∧ Below w.heap.size w w' := by
 obtain ⟨l0,rfl,hr0,hm0,hw0,hc0⟩ := zaM.zi0 w0
 exact zhI _ _ l0 w (Kd.zee (d := (0 : Int)) (h1 := fun _ => rfl) hr0) hc0 ql
end Go.Proofs.Ytgmbbfmbimofoaa.P
