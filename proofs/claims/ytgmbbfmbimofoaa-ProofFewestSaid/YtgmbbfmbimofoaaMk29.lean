-- MERGED BY A PROGRAM out of texts of this claim: hand work, and what a (turned) print of the kit has written for it
import Derived.IntWalk
import Derived.Outline
import Derived.Deep.DeepCutAuto
import Derived.Deep.CutBlock
import Derived.Test.YtgmbbfmbimofoaaMk23
import Derived.Test.YtgmbbfmbimofoaaMk22
import Derived.Test.YtgmbbfmbimofoaaMk28
import Derived.Test.YtgmbbfmbimofoaaMk27
import Derived.Test.YtgmbbfmbimofoaaMk5
import Derived.Test.YtgmbbfmbimofoaaMk6
import Derived.Test.YtgmbbfmbimofoaaMk21
import Derived.Test.YtgmbbfmbimofoaaMk24
import Derived.Test.YtgmbbfmbimofoaaMk8
import Derived.Test.YtgmbbfmbimofoaaMk13
import Derived.Test.YtgmbbfmbimofoaaMk9
namespace Go.Proofs.Ytgmbbfmbimofoaa.P
open Go.RowKit Go.Proofs.YtgmbbfmbimofoaaW.PrintWords Go.Proofs.YtgmbbfmbimofoaaW.PrintLast Go.Proofs.YtgmbbfmbimofoaaW.PrintMore
attribute [local go_sem] zH zI zP zO zC zB zJ zK
set_option linter.unusedVariables false
set_option linter.unusedSimpArgs false
theorem zgx {w w' : World} (h : zz w w') : Below w.heap.size w w' := by
 obtain ⟨n,rfl⟩ := h
 exact zb (Below.refl _ _) n
theorem zh0 {α : Type} {d : Kd α} {w w' : World} {A : Option Addr} {n c : Nat} {xs : List α} (h : d.C w A n xs ∧ n ≤ c) (hb : Below w.heap.size w w') : d.C w' A n xs ∧ n ≤ c := ⟨Kd.zU h.1 hb,h.2⟩
structure zh1 (W : World) (b9 b10 : Nat) (i : Nat) (p : List ByteArray) (A : Option Addr) (c : Nat) (m : List S63) (B : Option Addr) (d : Nat) : Prop where
 c9 : W.cell? ⟨b9,i,none⟩ = some (.slice A p.length c)
 c10 : W.cell? ⟨b10,i,none⟩ = some (.slice B m.length d)
 rp : Kd.string.C W A p.length p
 hp : p.length ≤ c
 rm : k63.C W B m.length m
 hm : m.length ≤ d
 sp : p.length ≤ 20
 sm : m.length ≤ 20
theorem zh1.below {W W' : World} {b9 b10 i : Nat} {p : List ByteArray} {A : Option Addr} {c : Nat} {m : List S63} {B : Option Addr} {d : Nat} (h : zh1 W b9 b10 i p A c m B d) (hb : Below W.heap.size W W') : zh1 W' b9 b10 i p A c m B d :=
 ⟨(hb.cell (World.block_lt_of_cell? W _ h.c9)).trans h.c9,(hb.cell (World.block_lt_of_cell? W _ h.c10)).trans h.c10,Kd.zU h.rp hb,h.hp,Kd.zU h.rm hb,h.hm,h.sp,h.sm⟩
def FS (pb ps : Nat) : Nat → Prop := fun k => k = pb ∨ k = ps
structure LS (W : World) (pb ps : Nat) (st : Option (List S63)) : Prop where
 ne : pb ≠ ps
 hb : ∃ A n c,W.heap[pb]? = some (.cells #[.slice A n c] 31 (0,0)) ∧ ∀ l,st = some l → n = l.length ∧ l.length ≤ c ∧ l.length ≤ 1000 ∧ ∀ W',Kept W W' (FS pb ps) → k63.C W' A l.length l
 hs : W.heap[ps]? = some (.cells #[.bool st.isSome] 4 (0,0))
theorem LS.below {W W' : World} {pb ps : Nat} {st : Option (List S63)} (h : LS W pb ps st) (hb : Below W.heap.size W W') : LS W' pb ps st := by
 obtain ⟨A,n,c,h1,h2⟩ := h.hb
 refine ⟨h.ne,⟨A,n,c,zu h1 hb,fun l hl => ?_⟩,zu h.hs hb⟩
 obtain ⟨g1,g2,g3,g4⟩ := h2 l hl
 exact ⟨g1,g2,g3,Kd.zcn g4 (Kept.of_below hb _)⟩
structure LIn (W : World) (pb ps : Nat) (a b : List ByteArray) (g : List S63) (A0 : Option Addr) (c0 : Nat) (A1 : Option Addr) (c1 : Nat) (A4 : Option Addr) (c4 : Nat) : Prop where
 ra : ∀ W',Kept W W' (FS pb ps) → Kd.string.C W' A0 a.length a
 ha : a.length ≤ c0
 rb : ∀ W',Kept W W' (FS pb ps) → Kd.string.C W' A1 b.length b
 hb : b.length ≤ c1
 rg : ∀ W',Kept W W' (FS pb ps) → k63.C W' A4 g.length g
 hg : g.length ≤ c4
theorem LIn.step {W W' : World} {pb ps : Nat} {a b : List ByteArray} {g : List S63} {A0 : Option Addr} {c0 : Nat} {A1 : Option Addr} {c1 : Nat} {A4 : Option Addr} {c4 : Nat} (h : LIn W pb ps a b g A0 c0 A1 c1 A4 c4) (hk : Kept W W' (FS pb ps)) : LIn W' pb ps a b g A0 c0 A1 c1 A4 c4 :=
 ⟨Kd.zcn h.ra hk,h.ha,Kd.zcn h.rb hk,h.hb,Kd.zcn h.rg hk,h.hg⟩
theorem LIn.turn {W W' : World} {pb ps : Nat} {a b : List ByteArray} {g g' : List S63} {A0 : Option Addr} {c0 : Nat} {A1 : Option Addr} {c1 : Nat} {A4 A5 : Option Addr} {c4 c5 : Nat} (h : LIn W pb ps a b g A0 c0 A1 c1 A4 c4) (hk : Kept W W' (FS pb ps)) (hr : ∀ W2,Kept W' W2 (FS pb ps) → k63.C W2 A5 g'.length g') (hl : g'.length ≤ c5) : LIn W' pb ps a b g' A0 c0 A1 c1 A5 c5 :=
 ⟨Kd.zcn h.ra hk,h.ha,Kd.zcn h.rb hk,h.hb,hr,hl⟩
theorem LS.lt {W : World} {pb ps : Nat} {st : Option (List S63)} (h : LS W pb ps st) : pb < W.heap.size ∧ ps < W.heap.size := by
 obtain ⟨A,n,c,h1,_⟩ := h.hb
 exact ⟨zR h1,zR h.hs⟩
theorem zhF {w0 w W4 : World} {pb ps : Nat} {Ab : Option Addr} {nb cb : Nat} {bb : Bool} (hB : w.heap[pb]? = some (.cells #[.slice Ab nb cb] 31 (0,0))) (hS : w.heap[ps]? = some (.cells #[.bool bb] 4 (0,0))) (hne : pb ≠ ps) (hb : Below w.heap.size w W4)
  {A9 : Option Addr} {c9 : Nat} {g : List S63} (hR : k63.R 63 W4 w.heap.size (fun _ => True) (.slice A9 g.length c9) g) (hg : g.length ≤ 300) (hbw : Below w0.heap.size w0 w) (hp : w0.heap.size ≤ pb ∧ w0.heap.size ≤ ps) :
  Kept w ((W4.setCell ⟨pb,0,none⟩ (.slice A9 g.length c9)).setCell ⟨ps,0,none⟩ (.bool true)) (FS pb ps) ∧ LS ((W4.setCell ⟨pb,0,none⟩ (.slice A9 g.length c9)).setCell ⟨ps,0,none⟩ (.bool true)) pb ps (some g) ∧ Below w0.heap.size w0 ((W4.setCell ⟨pb,0,none⟩ (.slice A9 g.length c9)).setCell ⟨ps,0,none⟩ (.bool true)) := by
 have l1 := zR hB
 have l2 := zR hS
 refine ⟨((Kept.of_below hb _).setCell (.inl (.inl rfl)) _).setCell (.inl (.inr rfl)) _,⟨hne,⟨A9,g.length,c9,zav (zV (zu hB hb) 0 _ rfl) hne _,fun l hl => ?_⟩,zV (zav (zu hS hb) hne.symm _) 0 _ rfl⟩,zh (zh (zo hbw hb) hp.1) hp.2⟩
 cases hl
 have hR' : k63.R 63 W4 w.heap.size (fun k => w.heap.size ≤ k) (.slice A9 g.length c9) g := Kd.zaB (Kd.za5 hR) (fun k hk => hk.2.1)
 have hR2 := Kd.zcI (Kd.zcI hR' (p := ⟨pb,0,none⟩) (fun k hk => by show k ≠ pb; omega) (.slice A9 g.length c9)) (p := ⟨ps,0,none⟩) (fun k hk => by show k ≠ ps; omega) (.bool true)
 exact ⟨rfl,(Kd.zbd hR).2.1,by omega,Kd.zbW hR2 (fun k hk hF => by rcases hF with rfl | rfl <;> omega)⟩
set_option maxHeartbeats 16000000 in
set_option maxRecDepth 100000 in
theorem zgy (w0 : World) (pb ps : Nat) : ∀ (n : Nat) (a b : List ByteArray) (i k : Nat) (A0 : Option Addr) (c0 : Nat) (A1 : Option Addr) (c1 : Nat) (A4 : Option Addr) (c4 : Nat) (g : List S63) (st : Option (List S63)) (w : World),
  (a.length - i) + (b.length - k) = n → i ≤ a.length → k ≤ b.length → a.length ≤ 100 → b.length ≤ 100 → g.length + n ≤ 300 → LIn w pb ps a b g A0 c0 A1 c1 A4 c4 → LS w pb ps st → Below w0.heap.size w0 w → w0.heap.size ≤ pb ∧ w0.heap.size ≤ ps →
  Calls Try.prog 48 #[.slice A0 a.length c0, .slice A1 b.length c1, .int .i64 i, .int .i64 k, .slice A4 g.length c4, .pointer (some ⟨pb,0,none⟩), .pointer (some ⟨ps,0,none⟩)] w fun e w' => e = .returned (.tuple #[]) ∧ Kept w w' (FS pb ps) ∧ LS w' pb ps (zby i (a.drop i) (b.drop k) g st) ∧ Below w0.heap.size w0 w' := by
 intro n
 induction n using Nat.strongRecOn with
 | _ n ih =>
 intro a b i k A0 c0 A1 c1 A4 c4 g st w hn hi hk ha hb hgn hin hls hbw hp
 have IH := za.mk ih
 have HI := za.mk hin
 have HS := za.mk hls
 have HB := za.mk hbw
 have HP := za.mk hp
 clear ih hin hls hbw hp
 by_cases hia : i < a.length
 ·by_cases hkb : k < b.length
  ·have HN := za.mk (And.intro hn (And.intro hi (And.intro hk (And.intro ha (And.intro hb (And.intro hgn (And.intro hia hkb)))))))
   clear hn hi hk ha hb hgn
   obtain ⟨x,hx⟩ : ∃ x,a[i] = x := ⟨_,rfl⟩
   have hri : zaC ByteArray.empty a (i : Int) = x := by simp [zaC,hia,hx]
   have ea : a.drop i = x :: a.drop (i + 1) := by rw [List.drop_eq_getElem_cons hia,hx]
   obtain ⟨y,hy⟩ : ∃ y,b[k] = y := ⟨_,rfl⟩
   have hrk : zaC ByteArray.empty b (k : Int) = y := by simp [zaC,hkb,hy]
   have eb : b.drop k = y :: b.drop (k + 1) := by rw [List.drop_eq_getElem_cons hkb,hy]
   have el : zby i (a.drop i) (b.drop k) g st = zby (i + 1) (a.drop (i + 1)) (b.drop (k + 1)) (g ++ [⟨2,i,y⟩]) (zby (i + 1) (a.drop (i + 1)) (b.drop k) (g ++ [⟨3,i,⟨#[]⟩⟩]) (zby i (a.drop i) (b.drop (k + 1)) (g ++ [⟨1,i,y⟩]) (if x.toList = y.toList then zby (i + 1) (a.drop (i + 1)) (b.drop (k + 1)) g st else st))) := by rw [ea,eb,zby]
   rw [el]
   clear el ea eb hx hy hia hkb
   obtain ⟨st1,hst1⟩ : ∃ s,(if x.toList = y.toList then zby (i + 1) (a.drop (i + 1)) (b.drop (k + 1)) g st else st) = s := ⟨_,rfl⟩
   rw [hst1]
   have HST1 := za.mk hst1
   clear hst1
   have p1 : decide ((i : Int) < (a.length : Int)) = true := decide_eq_true (qB HN.out)
   have p2 : decide (i < a.length) = true := decide_eq_true (qB HN.out)
   have p3 : ((i : Int) == (a.length : Int)) = false := beq_eq_false_iff_ne.2 (qB HN.out)
   have p4 : (i == a.length) = false := beq_eq_false_iff_ne.2 (qB HN.out)
   have p5 : ((i : Int) < (a.length : Int)) = True := eq_true (qB HN.out)
   have p6 : (i < a.length) = True := eq_true (qB HN.out)
   have s1 : decide ((k : Int) < (b.length : Int)) = true := decide_eq_true (qB HN.out)
   have s2 : decide (k < b.length) = true := decide_eq_true (qB HN.out)
   have s3 : ((k : Int) == (b.length : Int)) = false := beq_eq_false_iff_ne.2 (qB HN.out)
   have s4 : (k == b.length) = false := beq_eq_false_iff_ne.2 (qB HN.out)
   have s5 : ((k : Int) < (b.length : Int)) = True := eq_true (qB HN.out)
   have s6 : (k < b.length) = True := eq_true (qB HN.out)
   have hcap := HI.out.hg
   have hcap1 : (g.length : Int) ≤ (c4 : Int) := by omega
   have hw1 : IntKind.i64.wrap ((i : Int) + 1) = ((i + 1 : Nat) : Int) := by have := HN.out; rw [IntWalk.i64_in _ ql]; rfl
   have hw2 : IntKind.i64.wrap ((k : Int) + 1) = ((k + 1 : Nat) : Int) := by have := HN.out; rw [IntWalk.i64_in _ ql]; rfl
   have HK := za.mk (Kept.refl w (FS pb ps))
   go_enter Try.func48,Try.ntmps48
   go_upto_region 4 with fail
   go_cut [69] (fun v69 W => v69 = .bool (x.toList == y.toList) ∧ za (Below w.heap.size w W))
   case first =>
    obtain ⟨adi,ei,hx0⟩ := Kd.zaV (HI.out.ra _ (Kept.refl _ _)) (i : Int) ql (qB HN.out)
    subst ei
    rw [hri,Int.toNat_natCast] at hx0
    obtain ⟨adk,ek,hy0⟩ := Kd.zaV (HI.out.rb _ (Kept.refl _ _)) (k : Int) ql (qB HN.out)
    subst ek
    rw [hrk,Int.toNat_natCast] at hy0
    refine zal (fun W' => W'.cell? (adi.add i) = some (.string x) ∧ W'.cell? (adk.add k) = some (.string y)) [] qg ?_
    have HS0 : w.drew.cell? (adi.add i) = some (.string x) ∧ w.drew.cell? (adk.add k) = some (.string y) := ⟨hx0,hy0⟩
    have hbd := za.mk (zg (Below.refl w.heap.size w))
    clear hx0 hy0
    refine tk 0 ?_
    (try simp only [pu0,pu1,pu2,pu3,pu4])
    refine tk 1 ?_
    (try simp only [pu0,pu1,pu2,pu3,pu4])
    refine tk 2 ?_
    (try simp only [pu0,pu1,pu2,pu3,pu4])
    refine tk 3 ?_
    (try simp only [pu0,pu1,pu2,pu3,pu4])
    refine tk 4 ?_
    (try simp only [pu0,pu1,pu2,pu3,pu4])
    refine tk 5 ?_
    (try simp only [pu0,pu1,pu2,pu3,pu4])
    refine tk 6 ?_
    (try simp only [pu0,pu1,pu2,pu3,pu4])
    refine tk 7 ?_
    (try simp only [pu0,pu1,pu2,pu3,pu4])
    refine tk 8 ?_
    (try simp only [pu0,pu1,pu2,pu3,pu4])
    refine tk 9 ?_
    (try simp only [pu0,pu1,pu2,pu3,pu4])
    refine tk 10 ?_
    (try simp only [pu0,pu1,pu2,pu3,pu4])
    refine tk 11 ?_
    (try simp only [pu0,pu1,pu2,pu3,pu4])
    refine tk 12 ?_
    (try simp only [pu0,pu1,pu2,pu3,pu4])
    refine tk 13 ?_
    (try simp only [pu0,pu1,pu2,pu3,pu4])
    refine tk 14 ?_
    (try simp only [pu0,pu1,pu2,pu3,pu4])
    refine tk 15 ?_
    (try simp only [pu0,pu1,pu2,pu3,pu4])
    refine tk 16 ?_
    (try simp only [pu0,pu1,pu2,pu3,pu4])
    refine tk 17 ?_
    (try simp only [pu0,pu1,pu2,pu3,pu4])
    refine tk 18 ?_
    (try simp only [pu0,pu1,pu2,pu3,pu4])
    refine tk 19 ?_
    (try simp only [pu0,pu1,pu2,pu3,pu4])
    refine tk 20 ?_
    (try simp only [pu0,pu1,pu2,pu3,pu4])
    refine zac qg ?_ _
    clear HS0
    go_wp2_with fail
    go_meet
    case rel => exact ⟨rfl,hbd⟩
   case rest =>
   obtain ⟨rfl,hd⟩ := hcut
   have hb := hd.out
   clear hd
   replace HI := za.mk (HI.out.step (Kept.of_below hb _))
   replace HS := za.mk (HS.out.below hb)
   replace HB := za.mk (zo HB.out hb)
   replace HK := za.mk (HK.out.below hb)
   clear hb
   go_upto_if 69 with fail
   go_cut [14] (fun v14 W => v14 = .slice A4 g.length g.length ∧ za (LIn W pb ps a b g A0 c0 A1 c1 A4 c4) ∧ za (LS W pb ps st1) ∧ za (Below w0.heap.size w0 W) ∧ za (Kept w W (FS pb ps)))
   case first =>
    by_cases hxy : x.toList = y.toList
    ·have hc : (x.toList == y.toList) = true := beq_iff_eq.2 hxy
     rw [hc]
     have hst1 := HST1.out
     rw [if_pos hxy] at hst1
     have HST := za.mk hst1
     clear hxy hst1
     go_wp2_with fail
     refine (IH.out ((a.length - (i + 1)) + (b.length - (k + 1))) (qB HN.out) a b (i + 1) (k + 1) _ _ _ _ A4 g.length g _ wc rfl (qB HN.out) (qB HN.out) (qB HN.out) (qB HN.out) (by have := HN.out; (try have := HGL.out); omega) (⟨HI.out.ra,HI.out.ha,HI.out.rb,HI.out.hb,HI.out.rg,Nat.le_refl _⟩) HS.out HB.out HP.out).mono ?_
     rintro e_ u0 ⟨rfl,hk,hls,hbw⟩
     replace HI := za.mk (HI.out.step hk)
     replace HK := za.mk (HK.out.zc7 hk (fun _ h => .inl h))
     replace HS := za.mk hls
     replace HB := za.mk hbw
     clear hk hls hbw
     rw [HST.out] at HS
     go_wp2_with fail
     go_meet
     case rel => exact ⟨rfl,HI,HS,HB,HK⟩
    ·have hc : (x.toList == y.toList) = false := beq_eq_false_iff_ne.2 hxy
     rw [hc]
     have hst1 := HST1.out
     rw [if_neg hxy] at hst1
     subst hst1
     clear hxy
     go_wp2_with fail
     go_meet
     case rel => exact ⟨rfl,HI,HS,HB,HK⟩
   case rest =>
   obtain ⟨rfl,HI,HS,HB,HK⟩ := hcut
   obtain ⟨adk,ek,hy0⟩ := Kd.zaV (HI.out.rb _ (Kept.refl _ _)) (k : Int) ql (qB HN.out)
   subst ek
   rw [hrk,Int.toNat_natCast] at hy0
   go_wp2_with fail
   refine (za3.calls (i : Int) y 1 (i : Int) y wc rfl).mono ?_
   rintro e_ u0a ⟨rfl,hb⟩
   replace HI := za.mk (HI.out.step (Kept.of_below hb _))
   replace HS := za.mk (HS.out.below hb)
   replace HB := za.mk (zo HB.out hb)
   replace HK := za.mk (HK.out.below hb)
   clear hb
   go_wp2_with ((with_reducible refine za1 (b := .append) (xs := #[.tmp 89, .tmp 96]) rfl ?_); at_builtin; refine zcG k63 (W := u0a) rfl (.tmp 89) (.tmp 96) 31 63 _ 32 rfl Try.underlying31 zb4 ?h1 ?h2 ?h3 A4 g ⟨1,i,y⟩ [.int .i64 1, .int .i64 i, .string y] ?h4 ?h5 ?h6 ?h7 ?h8 ?h9 ?h10 ?_; (case h1 => rfl); (case h2 => decide); (case h3 => decide); (case h4 => rfl); (case h5 => rfl); (case h6 => exact HI.out.rg _ (Kept.refl _ _)); (case h7 => exact zcR (HI.out.rg _ (Kept.refl _ _))); (case h8 => exact zd1 _ _); (case h9 => exact (fun _ _ _ _ x c h => by rw [zct h]; exact zbK _ _ _ x)); (case h10 => have := HN.out; omega); intro v9_ u0b hR hb; obtain ⟨g',hg'⟩ : ∃ l,g ++ [⟨1,i,y⟩] = l := ⟨_,rfl⟩; rw [hg'] at hR; have HG' := za.mk hg'; have HGL : za (g'.length = g.length + 1) := ⟨by rw [← hg']; simp⟩; clear hg'; obtain ⟨A5,c5,rfl,hc5,_⟩ := Kd.zak hR; have RA := za.mk hR; have RB := za.mk hb; have RC := za.mk hc5; clear hR hb hc5)
   have HT5 := za.mk (HI.out.turn (Kept.of_below RB.out _) (Kd.zbW (Kd.zaB (ok' := fun k => u0a.heap.size ≤ k) (Kd.za5 RA.out) (fun k hk => hk.2.1)) (fun k hk hF => by have := HS.out.lt; rcases hF with rfl | rfl <;> omega)) RC.out)
   have hb := RB.out
   replace HI := za.mk (HI.out.step (Kept.of_below hb _))
   replace HS := za.mk (HS.out.below hb)
   replace HB := za.mk (zo HB.out hb)
   replace HK := za.mk (HK.out.below hb)
   clear hb
   clear RA RB RC
   refine (IH.out ((a.length - (i)) + (b.length - (k + 1))) (qB HN.out) a b (i) (k + 1) _ _ _ _ A5 c5 g' _ u0b rfl (qB HN.out) (qB HN.out) (qB HN.out) (qB HN.out) (by have := HN.out; (try have := HGL.out); omega) (HT5.out) HS.out HB.out HP.out).mono ?_
   rintro e_ u0c ⟨rfl,hk,hls,hbw⟩
   rw [← HG'.out] at hls
   clear HT5 HG' HGL
   replace HI := za.mk (HI.out.step hk)
   replace HK := za.mk (HK.out.zc7 hk (fun _ h => .inl h))
   replace HS := za.mk hls
   replace HB := za.mk hbw
   clear hk hls hbw
   clear hy0
   go_wp2_with fail
   refine (zbs.calls (i : Int) 3 (i : Int) ⟨#[]⟩ u0c rfl).mono ?_
   rintro e_ u1a ⟨rfl,hb⟩
   replace HI := za.mk (HI.out.step (Kept.of_below hb _))
   replace HS := za.mk (HS.out.below hb)
   replace HB := za.mk (zo HB.out hb)
   replace HK := za.mk (HK.out.below hb)
   clear hb
   go_wp2_with ((with_reducible refine za1 (b := .append) (xs := #[.tmp 110, .tmp 113]) rfl ?_); at_builtin; refine zcG k63 (W := u1a) rfl (.tmp 110) (.tmp 113) 31 63 _ 32 rfl Try.underlying31 zb4 ?h1 ?h2 ?h3 A4 g ⟨3,i,⟨#[]⟩⟩ [.int .i64 3, .int .i64 i, .string ⟨#[]⟩] ?h4 ?h5 ?h6 ?h7 ?h8 ?h9 ?h10 ?_; (case h1 => rfl); (case h2 => decide); (case h3 => decide); (case h4 => rfl); (case h5 => rfl); (case h6 => exact HI.out.rg _ (Kept.refl _ _)); (case h7 => exact zcR (HI.out.rg _ (Kept.refl _ _))); (case h8 => exact zd1 _ _); (case h9 => exact (fun _ _ _ _ x c h => by rw [zct h]; exact zbK _ _ _ x)); (case h10 => have := HN.out; omega); intro v9_ u1b hR hb; obtain ⟨g',hg'⟩ : ∃ l,g ++ [⟨3,i,⟨#[]⟩⟩] = l := ⟨_,rfl⟩; rw [hg'] at hR; have HG' := za.mk hg'; have HGL : za (g'.length = g.length + 1) := ⟨by rw [← hg']; simp⟩; clear hg'; obtain ⟨A5,c5,rfl,hc5,_⟩ := Kd.zak hR; have RA := za.mk hR; have RB := za.mk hb; have RC := za.mk hc5; clear hR hb hc5)
   have HT5 := za.mk (HI.out.turn (Kept.of_below RB.out _) (Kd.zbW (Kd.zaB (ok' := fun k => u1a.heap.size ≤ k) (Kd.za5 RA.out) (fun k hk => hk.2.1)) (fun k hk hF => by have := HS.out.lt; rcases hF with rfl | rfl <;> omega)) RC.out)
   have hb := RB.out
   replace HI := za.mk (HI.out.step (Kept.of_below hb _))
   replace HS := za.mk (HS.out.below hb)
   replace HB := za.mk (zo HB.out hb)
   replace HK := za.mk (HK.out.below hb)
   clear hb
   clear RA RB RC
   refine (IH.out ((a.length - (i + 1)) + (b.length - (k))) (qB HN.out) a b (i + 1) (k) _ _ _ _ A5 c5 g' _ u1b rfl (qB HN.out) (qB HN.out) (qB HN.out) (qB HN.out) (by have := HN.out; (try have := HGL.out); omega) (HT5.out) HS.out HB.out HP.out).mono ?_
   rintro e_ u1c ⟨rfl,hk,hls,hbw⟩
   rw [← HG'.out] at hls
   clear HT5 HG' HGL
   replace HI := za.mk (HI.out.step hk)
   replace HK := za.mk (HK.out.zc7 hk (fun _ h => .inl h))
   replace HS := za.mk hls
   replace HB := za.mk hbw
   clear hk hls hbw
   obtain ⟨adk,ek,hy0⟩ := Kd.zaV (HI.out.rb _ (Kept.refl _ _)) (k : Int) ql (qB HN.out)
   injection ek with ek
   subst ek
   rw [hrk,Int.toNat_natCast] at hy0
   go_wp2_with fail
   refine (zbi.calls (i : Int) y 2 (i : Int) y u1c rfl).mono ?_
   rintro e_ u2a ⟨rfl,hb⟩
   replace HI := za.mk (HI.out.step (Kept.of_below hb _))
   replace HS := za.mk (HS.out.below hb)
   replace HB := za.mk (zo HB.out hb)
   replace HK := za.mk (HK.out.below hb)
   clear hb
   go_wp2_with ((with_reducible refine za1 (b := .append) (xs := #[.tmp 134, .tmp 141]) rfl ?_); at_builtin; refine zcG k63 (W := u2a) rfl (.tmp 134) (.tmp 141) 31 63 _ 32 rfl Try.underlying31 zb4 ?h1 ?h2 ?h3 A4 g ⟨2,i,y⟩ [.int .i64 2, .int .i64 i, .string y] ?h4 ?h5 ?h6 ?h7 ?h8 ?h9 ?h10 ?_; (case h1 => rfl); (case h2 => decide); (case h3 => decide); (case h4 => rfl); (case h5 => rfl); (case h6 => exact HI.out.rg _ (Kept.refl _ _)); (case h7 => exact zcR (HI.out.rg _ (Kept.refl _ _))); (case h8 => exact zd1 _ _); (case h9 => exact (fun _ _ _ _ x c h => by rw [zct h]; exact zbK _ _ _ x)); (case h10 => have := HN.out; omega); intro v9_ u2b hR hb; obtain ⟨g',hg'⟩ : ∃ l,g ++ [⟨2,i,y⟩] = l := ⟨_,rfl⟩; rw [hg'] at hR; have HG' := za.mk hg'; have HGL : za (g'.length = g.length + 1) := ⟨by rw [← hg']; simp⟩; clear hg'; obtain ⟨A5,c5,rfl,hc5,_⟩ := Kd.zak hR; have RA := za.mk hR; have RB := za.mk hb; have RC := za.mk hc5; clear hR hb hc5)
   have HT5 := za.mk (HI.out.turn (Kept.of_below RB.out _) (Kd.zbW (Kd.zaB (ok' := fun k => u2a.heap.size ≤ k) (Kd.za5 RA.out) (fun k hk => hk.2.1)) (fun k hk hF => by have := HS.out.lt; rcases hF with rfl | rfl <;> omega)) RC.out)
   have hb := RB.out
   replace HI := za.mk (HI.out.step (Kept.of_below hb _))
   replace HS := za.mk (HS.out.below hb)
   replace HB := za.mk (zo HB.out hb)
   replace HK := za.mk (HK.out.below hb)
   clear hb
   clear RA RB RC
   refine (IH.out ((a.length - (i + 1)) + (b.length - (k + 1))) (qB HN.out) a b (i + 1) (k + 1) _ _ _ _ A5 c5 g' _ u2b rfl (qB HN.out) (qB HN.out) (qB HN.out) (qB HN.out) (by have := HN.out; (try have := HGL.out); omega) (HT5.out) HS.out HB.out HP.out).mono ?_
   rintro e_ u2c ⟨rfl,hk,hls,hbw⟩
   rw [← HG'.out] at hls
   clear HT5 HG' HGL
   replace HI := za.mk (HI.out.step hk)
   replace HK := za.mk (HK.out.zc7 hk (fun _ h => .inl h))
   replace HS := za.mk hls
   replace HB := za.mk hbw
   clear hk hls hbw
   clear hy0
   go_wp2_with fail
   go_end0
   exact ⟨rfl,HK.out,HS.out,HB.out⟩
  ·have HN := za.mk (And.intro hn (And.intro hi (And.intro hk (And.intro ha (And.intro hb (And.intro hgn (And.intro hia hkb)))))))
   clear hn hi hk ha hb hgn
   obtain ⟨x,hx⟩ : ∃ x,a[i] = x := ⟨_,rfl⟩
   have hri : zaC ByteArray.empty a (i : Int) = x := by simp [zaC,hia,hx]
   have ea : a.drop i = x :: a.drop (i + 1) := by rw [List.drop_eq_getElem_cons hia,hx]
   have el : zby i (a.drop i) (b.drop k) g st = zby (i + 1) (a.drop (i + 1)) (b.drop k) (g ++ [⟨3,i,⟨#[]⟩⟩]) st := by rw [ea,show b.drop k = [] from List.drop_eq_nil_of_le (qB HN.out),zby]
   rw [el]
   clear el ea hx hia hkb
   have p1 : decide ((i : Int) < (a.length : Int)) = true := decide_eq_true (qB HN.out)
   have p2 : decide (i < a.length) = true := decide_eq_true (qB HN.out)
   have p3 : ((i : Int) == (a.length : Int)) = false := beq_eq_false_iff_ne.2 (qB HN.out)
   have p4 : (i == a.length) = false := beq_eq_false_iff_ne.2 (qB HN.out)
   have p5 : ((i : Int) < (a.length : Int)) = True := eq_true (qB HN.out)
   have p6 : (i < a.length) = True := eq_true (qB HN.out)
   have s1 : decide ((k : Int) < (b.length : Int)) = false := decide_eq_false (qB HN.out)
   have s2 : decide (k < b.length) = false := decide_eq_false (qB HN.out)
   have s3 : ((k : Int) == (b.length : Int)) = true := beq_iff_eq.2 (qB HN.out)
   have s4 : (k == b.length) = true := beq_iff_eq.2 (qB HN.out)
   have hcap := HI.out.hg
   have hcap1 : (g.length : Int) ≤ (c4 : Int) := by omega
   have hw1 : IntKind.i64.wrap ((i : Int) + 1) = ((i + 1 : Nat) : Int) := by have := HN.out; rw [IntWalk.i64_in _ ql]; rfl
   have HK := za.mk (Kept.refl w (FS pb ps))
   have HT : True := trivial
   go_enter Try.func48,Try.ntmps48
   go_upto_region 4 with fail
   refine zal (fun _ => True) [] qg ?_
   refine tk 0 ?_
   (try simp only [pu0,pu1,pu2,pu3,pu4])
   refine tk 1 ?_
   (try simp only [pu0,pu1,pu2,pu3,pu4])
   refine tk 2 ?_
   (try simp only [pu0,pu1,pu2,pu3,pu4])
   refine tk 3 ?_
   (try simp only [pu0,pu1,pu2,pu3,pu4])
   refine tk 4 ?_
   (try simp only [pu0,pu1,pu2,pu3,pu4])
   refine tk 5 ?_
   (try simp only [pu0,pu1,pu2,pu3,pu4])
   refine tk 6 ?_
   (try simp only [pu0,pu1,pu2,pu3,pu4])
   refine tk 7 ?_
   (try simp only [pu0,pu1,pu2,pu3,pu4])
   refine tk 8 ?_
   (try simp only [pu0,pu1,pu2,pu3,pu4])
   refine tk 9 ?_
   (try simp only [pu0,pu1,pu2,pu3,pu4])
   refine tk 10 ?_
   (try simp only [pu0,pu1,pu2,pu3,pu4])
   refine tkn 11 ?_
   (try simp only [pu0,pu1,pu2,pu3,pu4])
   refine tkn 12 ?_
   (try simp only [pu0,pu1,pu2,pu3,pu4])
   refine tkn 13 ?_
   (try simp only [pu0,pu1,pu2,pu3,pu4])
   refine tkn 14 ?_
   (try simp only [pu0,pu1,pu2,pu3,pu4])
   refine tkn 15 ?_
   (try simp only [pu0,pu1,pu2,pu3,pu4])
   refine tkn 16 ?_
   (try simp only [pu0,pu1,pu2,pu3,pu4])
   refine tkn 17 ?_
   (try simp only [pu0,pu1,pu2,pu3,pu4])
   refine tkn 18 ?_
   (try simp only [pu0,pu1,pu2,pu3,pu4])
   refine tkn 19 ?_
   (try simp only [pu0,pu1,pu2,pu3,pu4])
   refine tk 20 ?_
   (try simp only [pu0,pu1,pu2,pu3,pu4])
   refine zac qg ?_ _
   have hb := zg (Below.refl w.heap.size w)
   clear HT
   replace HI := za.mk (HI.out.step (Kept.of_below hb _))
   replace HS := za.mk (HS.out.below hb)
   replace HB := za.mk (zo HB.out hb)
   replace HK := za.mk (HK.out.below hb)
   clear hb
   go_wp2_with fail
   refine (zbs.calls (i : Int) 3 (i : Int) ⟨#[]⟩ w.drew rfl).mono ?_
   rintro e_ u3a ⟨rfl,hb⟩
   replace HI := za.mk (HI.out.step (Kept.of_below hb _))
   replace HS := za.mk (HS.out.below hb)
   replace HB := za.mk (zo HB.out hb)
   replace HK := za.mk (HK.out.below hb)
   clear hb
   go_wp2_with ((with_reducible refine za1 (b := .append) (xs := #[.tmp 110, .tmp 113]) rfl ?_); at_builtin; refine zcG k63 (W := u3a) rfl (.tmp 110) (.tmp 113) 31 63 _ 32 rfl Try.underlying31 zb4 ?h1 ?h2 ?h3 A4 g ⟨3,i,⟨#[]⟩⟩ [.int .i64 3, .int .i64 i, .string ⟨#[]⟩] ?h4 ?h5 ?h6 ?h7 ?h8 ?h9 ?h10 ?_; (case h1 => rfl); (case h2 => decide); (case h3 => decide); (case h4 => rfl); (case h5 => rfl); (case h6 => exact HI.out.rg _ (Kept.refl _ _)); (case h7 => exact zcR (HI.out.rg _ (Kept.refl _ _))); (case h8 => exact zd1 _ _); (case h9 => exact (fun _ _ _ _ x c h => by rw [zct h]; exact zbK _ _ _ x)); (case h10 => have := HN.out; omega); intro v9_ u3b hR hb; obtain ⟨g',hg'⟩ : ∃ l,g ++ [⟨3,i,⟨#[]⟩⟩] = l := ⟨_,rfl⟩; rw [hg'] at hR; have HG' := za.mk hg'; have HGL : za (g'.length = g.length + 1) := ⟨by rw [← hg']; simp⟩; clear hg'; obtain ⟨A5,c5,rfl,hc5,_⟩ := Kd.zak hR; have RA := za.mk hR; have RB := za.mk hb; have RC := za.mk hc5; clear hR hb hc5)
   have HT5 := za.mk (HI.out.turn (Kept.of_below RB.out _) (Kd.zbW (Kd.zaB (ok' := fun k => u3a.heap.size ≤ k) (Kd.za5 RA.out) (fun k hk => hk.2.1)) (fun k hk hF => by have := HS.out.lt; rcases hF with rfl | rfl <;> omega)) RC.out)
   have hb := RB.out
   replace HI := za.mk (HI.out.step (Kept.of_below hb _))
   replace HS := za.mk (HS.out.below hb)
   replace HB := za.mk (zo HB.out hb)
   replace HK := za.mk (HK.out.below hb)
   clear hb
   clear RA RB RC
   refine (IH.out ((a.length - (i + 1)) + (b.length - (k))) (qB HN.out) a b (i + 1) (k) _ _ _ _ A5 c5 g' _ u3b rfl (qB HN.out) (qB HN.out) (qB HN.out) (qB HN.out) (by have := HN.out; (try have := HGL.out); omega) (HT5.out) HS.out HB.out HP.out).mono ?_
   rintro e_ u3c ⟨rfl,hk,hls,hbw⟩
   rw [← HG'.out] at hls
   clear HT5 HG' HGL
   replace HI := za.mk (HI.out.step hk)
   replace HK := za.mk (HK.out.zc7 hk (fun _ h => .inl h))
   replace HS := za.mk hls
   replace HB := za.mk hbw
   clear hk hls hbw
   go_wp2_with fail
   go_end0
   exact ⟨rfl,HK.out,HS.out,HB.out⟩
 ·by_cases hkb : k < b.length
  ·have HN := za.mk (And.intro hn (And.intro hi (And.intro hk (And.intro ha (And.intro hb (And.intro hgn (And.intro hia hkb)))))))
   clear hn hi hk ha hb hgn
   obtain ⟨y,hy⟩ : ∃ y,b[k] = y := ⟨_,rfl⟩
   have hrk : zaC ByteArray.empty b (k : Int) = y := by simp [zaC,hkb,hy]
   have eb : b.drop k = y :: b.drop (k + 1) := by rw [List.drop_eq_getElem_cons hkb,hy]
   have el : zby i (a.drop i) (b.drop k) g st = zby i (a.drop i) (b.drop (k + 1)) (g ++ [⟨1,i,y⟩]) st := by rw [eb,show a.drop i = [] from List.drop_eq_nil_of_le (qB HN.out),zby]
   rw [el]
   clear el eb hy hia hkb
   have p1 : decide ((i : Int) < (a.length : Int)) = false := decide_eq_false (qB HN.out)
   have p2 : decide (i < a.length) = false := decide_eq_false (qB HN.out)
   have p3 : ((i : Int) == (a.length : Int)) = true := beq_iff_eq.2 (qB HN.out)
   have p4 : (i == a.length) = true := beq_iff_eq.2 (qB HN.out)
   have s1 : decide ((k : Int) < (b.length : Int)) = true := decide_eq_true (qB HN.out)
   have s2 : decide (k < b.length) = true := decide_eq_true (qB HN.out)
   have s3 : ((k : Int) == (b.length : Int)) = false := beq_eq_false_iff_ne.2 (qB HN.out)
   have s4 : (k == b.length) = false := beq_eq_false_iff_ne.2 (qB HN.out)
   have s5 : ((k : Int) < (b.length : Int)) = True := eq_true (qB HN.out)
   have s6 : (k < b.length) = True := eq_true (qB HN.out)
   have hcap := HI.out.hg
   have hcap1 : (g.length : Int) ≤ (c4 : Int) := by omega
   have hw2 : IntKind.i64.wrap ((k : Int) + 1) = ((k + 1 : Nat) : Int) := by have := HN.out; rw [IntWalk.i64_in _ ql]; rfl
   have HK := za.mk (Kept.refl w (FS pb ps))
   have HT : True := trivial
   go_enter Try.func48,Try.ntmps48
   go_upto_region 4 with fail
   refine zal (fun _ => True) [] qg ?_
   refine tk 0 ?_
   (try simp only [pu0,pu1,pu2,pu3,pu4])
   refine tk 1 ?_
   (try simp only [pu0,pu1,pu2,pu3,pu4])
   refine tk 2 ?_
   (try simp only [pu0,pu1,pu2,pu3,pu4])
   refine tk 3 ?_
   (try simp only [pu0,pu1,pu2,pu3,pu4])
   refine tk 4 ?_
   (try simp only [pu0,pu1,pu2,pu3,pu4])
   refine tkn 5 ?_
   (try simp only [pu0,pu1,pu2,pu3,pu4])
   refine tkn 6 ?_
   (try simp only [pu0,pu1,pu2,pu3,pu4])
   refine tkn 7 ?_
   (try simp only [pu0,pu1,pu2,pu3,pu4])
   refine tkn 8 ?_
   (try simp only [pu0,pu1,pu2,pu3,pu4])
   refine tk 9 ?_
   (try simp only [pu0,pu1,pu2,pu3,pu4])
   refine tk 10 ?_
   (try simp only [pu0,pu1,pu2,pu3,pu4])
   refine tkn 11 ?_
   (try simp only [pu0,pu1,pu2,pu3,pu4])
   refine tkn 12 ?_
   (try simp only [pu0,pu1,pu2,pu3,pu4])
   refine tkn 13 ?_
   (try simp only [pu0,pu1,pu2,pu3,pu4])
   refine tkn 14 ?_
   (try simp only [pu0,pu1,pu2,pu3,pu4])
   refine tkn 15 ?_
   (try simp only [pu0,pu1,pu2,pu3,pu4])
   refine tkn 16 ?_
   (try simp only [pu0,pu1,pu2,pu3,pu4])
   refine tkn 17 ?_
   (try simp only [pu0,pu1,pu2,pu3,pu4])
   refine tkn 18 ?_
   (try simp only [pu0,pu1,pu2,pu3,pu4])
   refine tkn 19 ?_
   (try simp only [pu0,pu1,pu2,pu3,pu4])
   refine tk 20 ?_
   (try simp only [pu0,pu1,pu2,pu3,pu4])
   refine zac qg ?_ _
   have hb := zg (Below.refl w.heap.size w)
   clear HT
   replace HI := za.mk (HI.out.step (Kept.of_below hb _))
   replace HS := za.mk (HS.out.below hb)
   replace HB := za.mk (zo HB.out hb)
   replace HK := za.mk (HK.out.below hb)
   clear hb
   obtain ⟨adk,ek,hy0⟩ := Kd.zaV (HI.out.rb _ (Kept.refl _ _)) (k : Int) ql (qB HN.out)
   subst ek
   rw [hrk,Int.toNat_natCast] at hy0
   go_wp2_with fail
   refine (za3.calls (i : Int) y 1 (i : Int) y w.drew rfl).mono ?_
   rintro e_ u4a ⟨rfl,hb⟩
   replace HI := za.mk (HI.out.step (Kept.of_below hb _))
   replace HS := za.mk (HS.out.below hb)
   replace HB := za.mk (zo HB.out hb)
   replace HK := za.mk (HK.out.below hb)
   clear hb
   go_wp2_with ((with_reducible refine za1 (b := .append) (xs := #[.tmp 89, .tmp 96]) rfl ?_); at_builtin; refine zcG k63 (W := u4a) rfl (.tmp 89) (.tmp 96) 31 63 _ 32 rfl Try.underlying31 zb4 ?h1 ?h2 ?h3 A4 g ⟨1,i,y⟩ [.int .i64 1, .int .i64 i, .string y] ?h4 ?h5 ?h6 ?h7 ?h8 ?h9 ?h10 ?_; (case h1 => rfl); (case h2 => decide); (case h3 => decide); (case h4 => rfl); (case h5 => rfl); (case h6 => exact HI.out.rg _ (Kept.refl _ _)); (case h7 => exact zcR (HI.out.rg _ (Kept.refl _ _))); (case h8 => exact zd1 _ _); (case h9 => exact (fun _ _ _ _ x c h => by rw [zct h]; exact zbK _ _ _ x)); (case h10 => have := HN.out; omega); intro v9_ u4b hR hb; obtain ⟨g',hg'⟩ : ∃ l,g ++ [⟨1,i,y⟩] = l := ⟨_,rfl⟩; rw [hg'] at hR; have HG' := za.mk hg'; have HGL : za (g'.length = g.length + 1) := ⟨by rw [← hg']; simp⟩; clear hg'; obtain ⟨A5,c5,rfl,hc5,_⟩ := Kd.zak hR; have RA := za.mk hR; have RB := za.mk hb; have RC := za.mk hc5; clear hR hb hc5)
   have HT5 := za.mk (HI.out.turn (Kept.of_below RB.out _) (Kd.zbW (Kd.zaB (ok' := fun k => u4a.heap.size ≤ k) (Kd.za5 RA.out) (fun k hk => hk.2.1)) (fun k hk hF => by have := HS.out.lt; rcases hF with rfl | rfl <;> omega)) RC.out)
   have hb := RB.out
   replace HI := za.mk (HI.out.step (Kept.of_below hb _))
   replace HS := za.mk (HS.out.below hb)
   replace HB := za.mk (zo HB.out hb)
   replace HK := za.mk (HK.out.below hb)
   clear hb
   clear RA RB RC
   refine (IH.out ((a.length - (i)) + (b.length - (k + 1))) (qB HN.out) a b (i) (k + 1) _ _ _ _ A5 c5 g' _ u4b rfl (qB HN.out) (qB HN.out) (qB HN.out) (qB HN.out) (by have := HN.out; (try have := HGL.out); omega) (HT5.out) HS.out HB.out HP.out).mono ?_
   rintro e_ u4c ⟨rfl,hk,hls,hbw⟩
   rw [← HG'.out] at hls
   clear HT5 HG' HGL
   replace HI := za.mk (HI.out.step hk)
   replace HK := za.mk (HK.out.zc7 hk (fun _ h => .inl h))
   replace HS := za.mk hls
   replace HB := za.mk hbw
   clear hk hls hbw
   clear hy0
   go_wp2_with fail
   go_end0
   exact ⟨rfl,HK.out,HS.out,HB.out⟩
  ·have e : zby i (a.drop i) (b.drop k) g st = zbA st g := by rw [List.drop_eq_nil_of_le ql,List.drop_eq_nil_of_le ql,zby]
   rw [e]
   clear e
   have t1 : ((i : Int) == (a.length : Int)) = true := beq_iff_eq.2 ql
   have t2 : ((k : Int) == (b.length : Int)) = true := beq_iff_eq.2 ql
   have t3 : (i == a.length) = true := beq_iff_eq.2 ql
   have t4 : (k == b.length) = true := beq_iff_eq.2 ql
   have hg3 : g.length ≤ 300 := by omega
   clear hn hi hk ha hb hgn hia hkb
   obtain ⟨Ab,nb,cb,hB0,hB1⟩ := HS.out.hb
   have hs0 := HS.out.hs
   have BB := za.mk hB0
   have BS := za.mk hs0
   have NE := za.mk HS.out.ne
   cases st with
   | none =>
    have z0 := (zf hs0 0).trans rfl
    clear hs0 hB0 hB1
    go_enter Try.func48,Try.ntmps48
    go_wp2_with (first | ((with_reducible refine zaa (N := 38) rfl ?_); refine Kd.zdq k63 (w0 := w) w.heap.size 63 ?hg (N := 38) ?hd (xs := ([] : List S63)) (inner := []) (ok := fun _ => True) (okp := fun _ => True) ?hr ?hp (fun _ hk => hk) trivial (Below.refl _ _) (Nat.le_refl _) qC ?_; (case hd => rfl); (case hg => rfl); (case hr => exact qk); (case hp => exact (zX.none _ _)); intro v38 w3 ho3 hb3 hg3_ hn3_; have R3 := za.mk ho3; have HB3 := za.mk hb3; clear ho3 hb3 hg3_ hn3_) | ((with_reducible refine za1 (b := .append) (xs := #[.tmp 38, .tmp 39]) rfl ?_); at_builtin; refine Kd.zdi k63 (w0 := w) w.heap.size rfl (.tmp 38) (.tmp 39) 31 63 _ 32 rfl Try.underlying31 zb4 rfl qq qq v38 [] g A4 g.length c4 (fun _ => True) (fun _ => False) rfl rfl R3.out (Kd.zU (HI.out.rg _ (Kept.refl _ _)) HB3.out) (fun x cs h => by rw [zct h]; exact zbK _ _ _ x) (fun _ h => h.elim) (fun _ _ => trivial) HB3.out HB3.out.size qI ?_; intro v40 w4 ho4 hb4 hg4 hat4; obtain ⟨A9,c9,e9,hc9,_⟩ := Kd.zak ho4; subst e9; have R4 := za.mk ho4; have HB4 := za.mk hb4; have x1 := (zf (zu BB.out hb4) 0).trans rfl; have x2 := zn (zu BB.out hb4) 0; have x3 := fun u => (zf (zav (zu BS.out hb4) (p := ⟨pb,0,none⟩) NE.out.symm u) 0).trans rfl; have x4 := fun u => zn (zav (zu BS.out hb4) (p := ⟨pb,0,none⟩) NE.out.symm u) 0; clear ho4 hb4 hg4 hat4 hc9))
    clear x1 x2 x3 x4
    have hF := zhF BB.out BS.out NE.out HB4.out R4.out hg3 HB.out HP.out
    refine bodyPost_ret (results_none rfl _ _ _) rfl ?_
    exact ⟨rfl,hF⟩
   | some l =>
    obtain ⟨h1,h2,h3,h4⟩ := hB1 l rfl
    subst h1
    have z0 := (zf hs0 0).trans rfl
    have z1 := (zf hB0 0).trans rfl
    obtain ⟨KB,hKB⟩ := zhH g l ql h3
    obtain ⟨r,hr⟩ : ∃ r,zc3 g l = r := ⟨_,rfl⟩
    rw [hr] at hKB
    have KK := za.mk (And.intro (hKB KB (Nat.le_refl _)) (And.intro h2 (h4 _ (Kept.refl _ _))))
    clear hKB h2 h3 h4 hs0 hB0 hB1
    obtain ⟨st2,hst2⟩ : ∃ s,zbA (some l) g = s := ⟨_,rfl⟩
    rw [hst2]
    have HR2 := za.mk (And.intro hst2 hr)
    clear hst2 hr
    go_enter Try.func48,Try.ntmps48
    go_wp2_with fail
    refine (zF.calls KB A4 c4 g Ab cb l r w (HI.out.rg _ (Kept.refl _ _)) HI.out.hg KK.out.2.2 KK.out.2.1 KK.out.1).mono ?_
    rintro e_ wB ⟨rfl,hb⟩
    clear z0 z1
    have HK := za.mk (Kept.of_below hb (FS pb ps))
    replace BB := za.mk (zu BB.out hb)
    replace BS := za.mk (zu BS.out hb)
    replace HI := za.mk (HI.out.step (Kept.of_below hb _))
    replace HS := za.mk (HS.out.below hb)
    replace HB := za.mk (zo HB.out hb)
    clear hb
    cases r with
    | true =>
     have e9 : zbA (some l) g = some g := by unfold zbA; dsimp only; rw [if_pos HR2.out.2]
     obtain rfl : st2 = some g := HR2.out.1.symm.trans e9
     clear e9 HR2
     go_wp2_with (first | ((with_reducible refine zaa (N := 38) rfl ?_); refine Kd.zdq k63 (w0 := wB) wB.heap.size 63 ?hg (N := 38) ?hd (xs := ([] : List S63)) (inner := []) (ok := fun _ => True) (okp := fun _ => True) ?hr ?hp (fun _ hk => hk) trivial (Below.refl _ _) (Nat.le_refl _) qC ?_; (case hd => rfl); (case hg => rfl); (case hr => exact qk); (case hp => exact (zX.none _ _)); intro v38 w3 ho3 hb3 hg3_ hn3_; have R3 := za.mk ho3; have HB3 := za.mk hb3; clear ho3 hb3 hg3_ hn3_) | ((with_reducible refine za1 (b := .append) (xs := #[.tmp 38, .tmp 39]) rfl ?_); at_builtin; refine Kd.zdi k63 (w0 := wB) wB.heap.size rfl (.tmp 38) (.tmp 39) 31 63 _ 32 rfl Try.underlying31 zb4 rfl qq qq v38 [] g A4 g.length c4 (fun _ => True) (fun _ => False) rfl rfl R3.out (Kd.zU (HI.out.rg _ (Kept.refl _ _)) HB3.out) (fun x cs h => by rw [zct h]; exact zbK _ _ _ x) (fun _ h => h.elim) (fun _ _ => trivial) HB3.out HB3.out.size qI ?_; intro v40 w4 ho4 hb4 hg4 hat4; obtain ⟨A9,c9,e9,hc9,_⟩ := Kd.zak ho4; subst e9; have R4 := za.mk ho4; have HB4 := za.mk hb4; have x1 := (zf (zu BB.out hb4) 0).trans rfl; have x2 := zn (zu BB.out hb4) 0; have x3 := fun u => (zf (zav (zu BS.out hb4) (p := ⟨pb,0,none⟩) NE.out.symm u) 0).trans rfl; have x4 := fun u => zn (zav (zu BS.out hb4) (p := ⟨pb,0,none⟩) NE.out.symm u) 0; clear ho4 hb4 hg4 hat4 hc9))
     clear x1 x2 x3 x4
     have hF := zhF BB.out BS.out NE.out HB4.out R4.out hg3 HB.out HP.out
     refine bodyPost_ret (results_none rfl _ _ _) rfl ?_
     exact ⟨rfl,HK.out.zc7 hF.1 (fun _ h => .inl h),hF.2⟩
    | false =>
     have e9 : zbA (some l) g = some l := by unfold zbA; dsimp only; rw [if_neg (by rw [HR2.out.2]; decide)]
     obtain rfl : st2 = some l := HR2.out.1.symm.trans e9
     clear e9 HR2
     go_wp2_with fail
     refine bodyPost_ret (results_none rfl _ _ _) rfl ?_
     exact ⟨rfl,HK.out,HS.out,HB.out⟩
structure zgV (W : World) (b9 b10 : Nat) (i : Nat) (p : List ByteArray) (A : Option Addr) (c : Nat) (m : List ByteArray) (B : Option Addr) (d : Nat) : Prop where
 c9 : W.cell? ⟨b9,i,none⟩ = some (.slice A p.length c)
 c10 : W.cell? ⟨b10,i,none⟩ = some (.slice B m.length d)
 rp : Kd.string.C W A p.length p
 hp : p.length ≤ c
 rm : Kd.string.C W B m.length m
 hm : m.length ≤ d
 sp : p.length ≤ 20
 sm : m.length ≤ 20
theorem zgV.below {W W' : World} {b9 b10 i : Nat} {p : List ByteArray} {A : Option Addr} {c : Nat} {m : List ByteArray} {B : Option Addr} {d : Nat} (h : zgV W b9 b10 i p A c m B d) (hb : Below W.heap.size W W') : zgV W' b9 b10 i p A c m B d :=
 ⟨(hb.cell (World.block_lt_of_cell? W _ h.c9)).trans h.c9,(hb.cell (World.block_lt_of_cell? W _ h.c10)).trans h.c10,Kd.zU h.rp hb,h.hp,Kd.zU h.rm hb,h.hm,h.sp,h.sm⟩
end Go.Proofs.Ytgmbbfmbimofoaa.P
