-- MERGED BY A PROGRAM out of texts of this claim: hand work, and what a (turned) print of the kit has written for it
import Derived.Shelf.Abstract
import Derived.Shelf.RegionOpen
import Derived.WalkKit
import Derived.OwnWalkIn
import Derived.TacticsInMore
import Derived.LoopNIn
import Derived.LoopIn
import Derived.Outline
import Derived.Deep.AppendLies
import Derived.Test.YtgmbbfmbimofoaaMk15
import Derived.Test.YtgmbbfmbimofoaaMk5
namespace Go.Proofs.Ytgmbbfmbimofoaa.P
open Go.RowKit Go.Proofs.YtgmbbfmbimofoaaW.PrintWords Go.Proofs.YtgmbbfmbimofoaaW.PrintLast Go.Proofs.YtgmbbfmbimofoaaW.PrintMore
attribute [local go_sem] zH zI zP zO zC zB zJ zK
set_option linter.unusedVariables false
set_option linter.unusedSimpArgs false
open Go.Shelf
theorem zeN {m m' : Nat} {P : Program} {l : Nat} {f : FuncId} {tmps : Array Value} {assign body : Code} {w : World} {R : Ending → World → Prop} (h : RoundIn Fence.wide m P l f tmps assign body w R) : RoundIn Fence.wide m' P l f tmps assign body w R := ⟨h.1,fun c cs _ => h.2 c cs (room_wide _)⟩
set_option maxHeartbeats 4000000 in
set_option maxRecDepth 100000 in
theorem grow_end (fits : List Int → Bool) (J : World → Prop) (Jx : List Int → World → Prop) (n gn gy gg lp base : Nat) (hY : zfr fits J Jx n base lp) (l : List Int) (v : Value) (W : World) (hn : n < 1000) (hl : l.length = n) (hin : ∀ i ∈ l,0 ≤ i ∧ i < (n : Int)) (hG : GSt J n gn gy gg lp W) (hv : Kd.R (Kd.int .i64) 3 W base (fun _ => True) v l) :
  Calls Try.prog 100 #[v, .pointer (some ⟨gn,0,none⟩), .pointer (some ⟨gy,0,none⟩), .pointer (some ⟨gg,0,none⟩)] W (zii fits J Jx n gn gy gg lp [l] W) := by
 obtain ⟨fn,tmps,assign,body,hy,hR⟩ := hY W v l hG.j hG.lpr hl hin hv
 obtain ⟨A,c,rfl,hc,hC⟩ := Kd.zak hv
 have c1 : W.cell? ⟨gn,0,none⟩ = some (.int .i64 n) := zf hG.bn 0
 have c2 : W.cell? ⟨gy,0,none⟩ = some (.func (.yield lp) #[] #[]) := zf hG.bY 0
 have t1 : ((l.length : Int) == (n : Int)) = true := by rw [hl]; simp
 have HG := za.mk hG
 have HL := za.mk hl
 clear hG hv hc hC hl
 refine (callsIn_wide (n := 5)).1 ?_
 refine callsIn_of_wp Try.func100 rfl trivial ?_ rfl
 simp only [Try.ntmps100,List.size_toArray,List.length_cons,List.length_nil,Nat.reduceAdd,Nat.reduceSub,Array.replicate_succ,Array.replicate_zero,List.push_toArray,List.append_toArray,List.nil_append,List.cons_append]
 gi_wp2
 refine (zeN hR).mono ?_
 clear hR hy
 rintro e W' (⟨rfl,hf,hj,hl',hk⟩ | ⟨rfl,hf,hx,hkx⟩)
 ·have HH := za.mk (And.intro hf (And.intro hj (And.intro hl' hk)))
  clear hf hj hl' hk
  gi_wp2
  go_ret
  exact .inl ⟨rfl,by simp [HH.out.1],HG.out.round HH.out.2.1 HH.out.2.2.1 HH.out.2.2.2,HH.out.2.2.2⟩
 ·have HH := za.mk (And.intro hf (And.intro hx hkx))
  clear hf hx hkx
  gi_wp2
  go_ret
  exact .inr ⟨rfl,l,by simp [HH.out.1],HH.out.2.1,HH.out.2.2⟩
theorem ziL {b : Bool} (h : b = true) {p q : Prop} (hp : p) : if b = true then p else q := by
 subst h; exact hp
theorem zb0 {b : Bool} (h : b = false) {p q : Prop} (hq : q) : if b = true then p else q := by
 subst h; exact hq
theorem zdc {β : Type} {g : Nat → List β} {n k : Nat} (h : k < n) : ((List.range n).take (k + 1)).flatMap g = ((List.range n).take k).flatMap g ++ g k := by
 rw [List.take_add_one,List.flatMap_append]
 simp [h]
theorem zgo {β : Type} (p : β → Bool) (g : Nat → List β) {n k : Nat} (hk : k < n) (h : (((List.range n).take k).flatMap g).find? p = none) {x : β} (hx : (g k).find? p = some x) : ((List.range n).flatMap g).find? p = some x := by
 rw [← List.take_append_drop (k + 1) (List.range n),List.flatMap_append,zdc hk,List.find?_append,List.find?_append,h,hx]
 rfl
theorem zgD {l : List Int} {n k : Nat} (h : ∀ i ∈ l,0 ≤ i ∧ i < (n : Int)) (hk : k < n) : ∀ i ∈ l ++ [(k : Int)],0 ≤ i ∧ i < (n : Int) := by
 intro i hi
 rcases List.mem_append.1 hi with hi | hi
 ·exact h i hi
 ·rw [List.mem_singleton.1 hi]; omega
theorem zfE {W W1 : World} {lp base : Nat} {A : Option Addr} {c : Nat} {l : List Int} (hl : ∃ r,W.heap[lp]? = some (.loop r)) (hk : zM W W1 lp none) (h : Kd.R (Kd.int .i64) 3 W base (fun _ => True) (.slice A l.length c) l) : Kd.C (Kd.int .i64) W1 A l.length l := by
 obtain ⟨A',c',e,_,hC⟩ := Kd.zak (zdf hl hk h)
 injection e with e1 _ _
 rw [e1]; exact hC
set_option maxHeartbeats 4000000 in
set_option maxRecDepth 100000 in
theorem zg6 (fits : List Int → Bool) (J : World → Prop) (Jx : List Int → World → Prop) (n gn gy gg lp base : Nat) (hJ : Stable J) (hY : zfr fits J Jx n base lp) (hn : n < 1000) (hbase : base ≤ lp) : ∀ (f : Nat) (l : List Int) (v : Value) (W : World),l.length + f = n → (∀ i ∈ l,0 ≤ i ∧ i < (n : Int)) → GSt J n gn gy gg lp W → Kd.R (Kd.int .i64) 3 W base (fun _ => True) v l →
  Calls Try.prog 100 #[v, .pointer (some ⟨gn,0,none⟩), .pointer (some ⟨gy,0,none⟩), .pointer (some ⟨gg,0,none⟩)] W (zii fits J Jx n gn gy gg lp (zcM n f l) W) := by
 intro f
 induction f with
 | zero =>
  intro l v W hl hin hG hv
  exact grow_end fits J Jx n gn gy gg lp base hY l v W hn ql hin hG hv
 | succ f ih =>
  intro l v W hl hin hG hv
  have HIN := za.mk hin
  clear hin
  obtain ⟨A,c,rfl,hc,hC⟩ := Kd.zak hv
  have c1 : W.cell? ⟨gn,0,none⟩ = some (.int .i64 n) := zf hG.bn 0
  have t1 : ((l.length : Int) == (n : Int)) = false := by simp; omega
  have HL : za (l.length < 1000) := ⟨by omega⟩
  have HC := za.mk hc
  have HLn := za.mk hl
  have HI := za.mk (And.intro hG (And.intro hv hC))
  clear hG hv hc hC
  go_enter Try.func100,Try.ntmps100
  go_wp2_with fail
  clear c1 t1
  go_loopw [6,15,16,17,18,19,20,21,22,23,24,25,26,27,28,29,30,31,32] (fun v6 v15 v16 v17 v18 v19 v20 v21 v22 v23 v24 v25 v26 v27 v28 v29 v30 v31 v32 wr => ∃ k : Nat,k ≤ n ∧ v15 = .int .i64 k ∧ za (GSt J n gn gy gg lp wr ∧ zM W wr lp none ∧ Kd.R (Kd.int .i64) 3 wr base (fun _ => True) (.slice A l.length c) l ∧ Kd.C (Kd.int .i64) wr A l.length l ∧ (((List.range n).take k).flatMap fun i => if l.contains ((i : Nat) : Int) = true then [] else zcM n f (l ++ [((i : Nat) : Int)])).find? fits = none)) (fun v6 v15 v16 v17 v18 v19 v20 v21 v22 v23 v24 v25 v26 v27 v28 v29 v30 v31 v32 wr => n - (intOf v15).toNat)
  case atStart => exact ⟨0,by omega,rfl,⟨HI.out.1,zM.refl _ _ _,HI.out.2.1,HI.out.2.2,by simp⟩⟩
  case round =>
   obtain ⟨k,hk,rfl,HA⟩ := hrel
   by_cases hkn : k < n
   ·have c0 : decide ((k : Int) < (n : Int)) = true := decide_eq_true ql
    have c0' : decide (k < n) = true := decide_eq_true hkn
    have hwr : lp ≤ wr.heap.size := by
     obtain ⟨r,hr⟩ := HA.out.1.lpr
     exact Nat.le_of_lt (zR hr)
    by_cases hcc : l.contains (k : Int) = true
    ·have HCC := za.mk hcc
     clear hcc
     go_wp2_with fail
     refine zal (fun W' => W'.cell? ⟨gg,0,none⟩ = some (.func (.func 100) #[] #[.pointer (some ⟨gn,0,none⟩), .pointer (some ⟨gy,0,none⟩), .pointer (some ⟨gg,0,none⟩)])) [] qg ?_
     have HS : wr.drew.cell? ⟨gg,0,none⟩ = some (.func (.func 100) #[] #[.pointer (some ⟨gn,0,none⟩), .pointer (some ⟨gy,0,none⟩), .pointer (some ⟨gg,0,none⟩)]) := zf (zm HA.out.1.bg) 0
     refine tk 0 ?_
     (try simp only [pu0,pu1,pu2,pu3,pu4])
     refine tk 1 ?_
     (try simp only [pu0,pu1,pu2,pu3,pu4])
     refine on1 2 fun K hK => ?_
     clear HS
     refine zbv Try.func101 qg rfl #[.slice A l.length c, .int .i64 k] qA rfl rfl qo ?_
     refine (za9.calls (l.length + 1) A c l k true wr.drew HA.out.2.2.2.1 HC.out (by rw [contains_eq l k HL.out,HCC.out])).mono ?_
     rintro e w' ⟨rfl,nd,rfl⟩
     refine ⟨_,rfl,?_⟩
     have HG := za.mk (HA.out.1.below hJ (zb (zg (Below.refl _ _)) nd))
     have HB := za.mk (show Below wr.heap.size wr (wr.drew.drewN nd) from zb (zg (Below.refl _ _)) nd)
     obtain ⟨Wa,hWa⟩ : ∃ W_,wr.drew.drewN nd = W_ := ⟨_,rfl⟩
     rw [hWa] at HG HB ⊢
     clear hWa
     have HS : Wa.cell? ⟨gg,0,none⟩ = some (.func (.func 100) #[] #[.pointer (some ⟨gn,0,none⟩), .pointer (some ⟨gy,0,none⟩), .pointer (some ⟨gg,0,none⟩)]) := zf HG.out.bg 0
     refine hK.out _ _ (fun _ => HS) ?_
     clear hK K
     (try simp only [pu0,pu1,pu2,pu3,pu4])
     refine tk 3 ?_
     (try simp only [pu0,pu1,pu2,pu3,pu4])
     refine tk 4 ?_
     (try simp only [pu0,pu1,pu2,pu3,pu4])
     refine tkn 5 ?_
     (try simp only [pu0,pu1,pu2,pu3,pu4])
     refine tkn 6 ?_
     (try simp only [pu0,pu1,pu2,pu3,pu4])
     refine tkn 8 ?_
     (try simp only [pu0,pu1,pu2,pu3,pu4])
     refine zfj (i := 7) (j := 9) (oi := { dst := some 25,op := Go.Op.call { callee := Go.Callee.value (Go.Operand.func 102),args := #[Go.Operand.tmp 24],argTypes := #[23] },type := 23,pos := "proof.go:336",after := #[{ on := 6,ground := Go.Ground.data }, { on := 4,ground := Go.Ground.chain }, { on := 4,ground := Go.Ground.guard }],guard := some (4,true) }) (oj := { dst := some 27,op := Go.Op.buildSlice 23 1 #[(0,Go.Operand.tmp 26)],type := 23,pos := "proof.go:336",after := #[{ on := 8,ground := Go.Ground.data }, { on := 4,ground := Go.Ground.guard }],guard := some (4,true) }) qg rfl rfl (fun K hK => ?_) (fun K hK => ?_)
     ·refine zb0 qA ?_
      refine hK.out _ _ (fun _ => HS) ?_
      clear hK K
      (try simp only [pu0,pu1,pu2,pu3,pu4])
      refine on1 9 fun K hK => ?_
      refine zb0 qA ?_
      refine hK.out _ _ (fun _ => HS) ?_
      clear hK K
      (try simp only [pu0,pu1,pu2,pu3,pu4])
      refine on1 10 fun K hK => ?_
      refine zb0 qA ?_
      refine hK.out _ _ (fun _ => HS) ?_
      clear hK K
      (try simp only [pu0,pu1,pu2,pu3,pu4])
      refine on1 11 fun K hK => ?_
      refine zb0 qA ?_
      refine hK.out _ _ (fun _ => HS) ?_
      clear hK K
      (try simp only [pu0,pu1,pu2,pu3,pu4])
      refine on1 12 fun K hK => ?_
      refine zb0 qA ?_
      refine hK.out _ _ (fun _ => HS) ?_
      clear hK K
      (try simp only [pu0,pu1,pu2,pu3,pu4])
      refine tk 13 ?_
      (try simp only [pu0,pu1,pu2,pu3,pu4])
      refine zac qg ?_ _
      clear HS
      go_wp2_with fail
      go_roundw
      case rel => exact ⟨k + 1,by omega,by go_num,⟨HG.out,HA.out.2.1.trans (zM.of_below HB.out _ none) (.inl rfl),Kd.zD HA.out.2.2.1 HB.out,Kd.zU HA.out.2.2.2.1 HB.out,by rw [zdc hkn,List.find?_append,HA.out.2.2.2.2,if_pos HCC.out]; rfl⟩⟩
      case measure => simp [intOf]; omega
     ·refine zb0 qA ?_
      refine hK.out _ _ (fun _ => HS) ?_
      clear hK K
      (try simp only [pu0,pu1,pu2,pu3,pu4])
      refine on1 7 fun K hK => ?_
      refine zb0 qA ?_
      refine hK.out _ _ (fun _ => HS) ?_
      clear hK K
      (try simp only [pu0,pu1,pu2,pu3,pu4])
      refine on1 10 fun K hK => ?_
      refine zb0 qA ?_
      refine hK.out _ _ (fun _ => HS) ?_
      clear hK K
      (try simp only [pu0,pu1,pu2,pu3,pu4])
      refine on1 11 fun K hK => ?_
      refine zb0 qA ?_
      refine hK.out _ _ (fun _ => HS) ?_
      clear hK K
      (try simp only [pu0,pu1,pu2,pu3,pu4])
      refine on1 12 fun K hK => ?_
      refine zb0 qA ?_
      refine hK.out _ _ (fun _ => HS) ?_
      clear hK K
      (try simp only [pu0,pu1,pu2,pu3,pu4])
      refine tk 13 ?_
      (try simp only [pu0,pu1,pu2,pu3,pu4])
      refine zac qg ?_ _
      clear HS
      go_wp2_with fail
      go_roundw
      case rel => exact ⟨k + 1,by omega,by go_num,⟨HG.out,HA.out.2.1.trans (zM.of_below HB.out _ none) (.inl rfl),Kd.zD HA.out.2.2.1 HB.out,Kd.zU HA.out.2.2.2.1 HB.out,by rw [zdc hkn,List.find?_append,HA.out.2.2.2.2,if_pos HCC.out]; rfl⟩⟩
      case measure => simp [intOf]; omega
    ·replace hcc : l.contains (k : Int) = false := by simpa using hcc
     have HCC := za.mk hcc
     clear hcc
     go_wp2_with fail
     refine zal (fun W' => W'.cell? ⟨gg,0,none⟩ = some (.func (.func 100) #[] #[.pointer (some ⟨gn,0,none⟩), .pointer (some ⟨gy,0,none⟩), .pointer (some ⟨gg,0,none⟩)])) [] qg ?_
     have HS : wr.drew.cell? ⟨gg,0,none⟩ = some (.func (.func 100) #[] #[.pointer (some ⟨gn,0,none⟩), .pointer (some ⟨gy,0,none⟩), .pointer (some ⟨gg,0,none⟩)]) := zf (zm HA.out.1.bg) 0
     refine tk 0 ?_
     (try simp only [pu0,pu1,pu2,pu3,pu4])
     refine tk 1 ?_
     (try simp only [pu0,pu1,pu2,pu3,pu4])
     refine on1 2 fun K hK => ?_
     clear HS
     refine zbv Try.func101 qg rfl #[.slice A l.length c, .int .i64 k] qA rfl rfl qo ?_
     refine (za9.calls (l.length + 1) A c l k false wr.drew HA.out.2.2.2.1 HC.out (by rw [contains_eq l k HL.out,HCC.out])).mono ?_
     rintro e w' ⟨rfl,nd,rfl⟩
     refine ⟨_,rfl,?_⟩
     have HG := za.mk (HA.out.1.below hJ (zb (zg (Below.refl _ _)) nd))
     have HB := za.mk (show Below wr.heap.size wr (wr.drew.drewN nd) from zb (zg (Below.refl _ _)) nd)
     obtain ⟨Wa,hWa⟩ : ∃ W_,wr.drew.drewN nd = W_ := ⟨_,rfl⟩
     rw [hWa] at HG HB ⊢
     clear hWa
     have HS : Wa.cell? ⟨gg,0,none⟩ = some (.func (.func 100) #[] #[.pointer (some ⟨gn,0,none⟩), .pointer (some ⟨gy,0,none⟩), .pointer (some ⟨gg,0,none⟩)]) := zf HG.out.bg 0
     refine hK.out _ _ (fun _ => HS) ?_
     clear hK K
     (try simp only [pu0,pu1,pu2,pu3,pu4])
     refine tk 3 ?_
     (try simp only [pu0,pu1,pu2,pu3,pu4])
     refine tk 4 ?_
     (try simp only [pu0,pu1,pu2,pu3,pu4])
     refine tk 5 ?_
     (try simp only [pu0,pu1,pu2,pu3,pu4])
     refine tk 6 ?_
     (try simp only [pu0,pu1,pu2,pu3,pu4])
     refine tk 8 ?_
     (try simp only [pu0,pu1,pu2,pu3,pu4])
     refine zfj (i := 7) (j := 9) (oi := { dst := some 25,op := Go.Op.call { callee := Go.Callee.value (Go.Operand.func 102),args := #[Go.Operand.tmp 24],argTypes := #[23] },type := 23,pos := "proof.go:336",after := #[{ on := 6,ground := Go.Ground.data }, { on := 4,ground := Go.Ground.chain }, { on := 4,ground := Go.Ground.guard }],guard := some (4,true) }) (oj := { dst := some 27,op := Go.Op.buildSlice 23 1 #[(0,Go.Operand.tmp 26)],type := 23,pos := "proof.go:336",after := #[{ on := 8,ground := Go.Ground.data }, { on := 4,ground := Go.Ground.guard }],guard := some (4,true) }) qg rfl rfl (fun K hK => ?_) (fun K hK => ?_)
     ·clear HS
      refine zbv Try.func102 qg rfl #[.slice A l.length c] qA rfl rfl qo ?_
      refine (zeO A c l Wa (Kd.zU HA.out.2.2.2.1 HB.out) HC.out HL.out).mono ?_
      rintro e w2 ⟨v2,rfl,hR2,hb2⟩
      refine ⟨_,rfl,?_⟩
      have HG2 := za.mk (HG.out.below hJ hb2)
      have HB2 := za.mk (hb2)
      have HR2 := za.mk hR2
      have HS : w2.cell? ⟨gg,0,none⟩ = some (.func (.func 100) #[] #[.pointer (some ⟨gn,0,none⟩), .pointer (some ⟨gy,0,none⟩), .pointer (some ⟨gg,0,none⟩)]) := zf HG2.out.bg 0
      clear hR2 hb2
      refine hK.out _ _ (fun _ => HS) ?_
      clear hK K
      (try simp only [pu0,pu1,pu2,pu3,pu4])
      refine on1 9 fun K hK => ?_
      clear HS
      have HS : (w2.alloc (.cells #[.int .i64 k] 3)).cell? ⟨gg,0,none⟩ = some (.func (.func 100) #[] #[.pointer (some ⟨gn,0,none⟩), .pointer (some ⟨gy,0,none⟩), .pointer (some ⟨gg,0,none⟩)]) := zf (zi HG2.out.bg _) 0
      go_simp
      refine hK.out _ _ (fun _ => HS) ?_
      clear hK K
      (try simp only [pu0,pu1,pu2,pu3,pu4])
      refine on1 10 fun K hK => ?_
      clear HS
      refine Kd.zcH (Kd.int .i64) (w0 := Wa) (W := w2) Wa.heap.size qA (.tmp 25) (.tmp 27) 23 3 _ 8 qA Try.underlying23 info3 rfl qq qq v2 l (k : Int) [.int .i64 k] (fun _ => True) (fun _ => False) qA qA rfl (fun k hk => hk.elim) (fun _ _ => trivial) HR2.out HB2.out HB2.out.size (qB HL.out) ?_
      intro v3 W3 hr hb hg hat
      have HG3 := za.mk (HG.out.below hJ hb)
      have HB3 := za.mk (zo HB.out hb)
      have HR3 := za.mk (Kd.zaO hr (Nat.le_trans (Nat.le_trans hbase hwr) HB.out.size))
      have HS : W3.cell? ⟨gg,0,none⟩ = some (.func (.func 100) #[] #[.pointer (some ⟨gn,0,none⟩), .pointer (some ⟨gy,0,none⟩), .pointer (some ⟨gg,0,none⟩)]) := zf HG3.out.bg 0
      clear hr hb hg hat HR2 HB2 HG2
      refine hK.out _ _ (fun _ => HS) ?_
      clear hK K
      (try simp only [pu0,pu1,pu2,pu3,pu4])
      refine on1 11 fun K hK => ?_
      clear HS
      have hih := ih (l ++ [(k : Int)]) v3 W3 qO (zgD HIN.out hkn) HG3.out HR3.out
      refine zfR Try.func100 qg rfl #[v3, .pointer (some ⟨gn,0,none⟩), .pointer (some ⟨gy,0,none⟩), .pointer (some ⟨gg,0,none⟩)] qA rfl rfl qA qo ?_
      refine hih.mono ?_
      clear hih
      rintro e W4 (⟨rfl,hn4,hG4,hk4⟩ | ⟨rfl,x,hx4,hJ4,hka⟩)
      ·refine ⟨_,rfl,?_⟩
       have HG4 := za.mk (And.intro hn4 (And.intro hG4 hk4))
       have HS : W4.cell? ⟨gg,0,none⟩ = some (.func (.func 100) #[] #[.pointer (some ⟨gn,0,none⟩), .pointer (some ⟨gy,0,none⟩), .pointer (some ⟨gg,0,none⟩)]) := zf hG4.bg 0
       clear hn4 hG4 hk4
       refine hK.out _ _ (fun _ => HS) ?_
       clear hK K
       (try simp only [pu0,pu1,pu2,pu3,pu4])
       refine tk 12 ?_
       (try simp only [pu0,pu1,pu2,pu3,pu4])
       refine tk 13 ?_
       (try simp only [pu0,pu1,pu2,pu3,pu4])
       refine zac qg ?_ _
       clear HS
       go_wp2_with fail
       go_roundw
       case rel => exact ⟨k + 1,by omega,by go_num,⟨HG4.out.2.1,(HA.out.2.1.trans (zM.of_below HB3.out _ none) (.inl rfl)).trans HG4.out.2.2 (.inl rfl),zdf HG3.out.lpr HG4.out.2.2 (Kd.zD HA.out.2.2.1 HB3.out),zfE HG3.out.lpr HG4.out.2.2 (Kd.zD HA.out.2.2.1 HB3.out),by rw [zdc hkn,List.find?_append,HA.out.2.2.2.2,if_neg (by rw [HCC.out]; decide)]; exact HG4.out.1⟩⟩
       case measure => simp [intOf]; omega
      ·refine ⟨_,rfl,?_⟩
       have HS : W4.cell? ⟨gg,0,none⟩ = some (.func (.func 100) #[] #[.pointer (some ⟨gn,0,none⟩), .pointer (some ⟨gy,0,none⟩), .pointer (some ⟨gg,0,none⟩)]) := zf ((hka.2 gg HG3.out.ggt (zR HG3.out.bg)).trans HG3.out.bg) 0
       have HX := za.mk (And.intro hx4 (And.intro hJ4 hka))
       clear hx4 hJ4 hka
       refine hK.out _ _ (fun _ => HS) ?_
       clear hK K
       (try simp only [pu0,pu1,pu2,pu3,pu4])
       refine tk 12 ?_
       (try simp only [pu0,pu1,pu2,pu3,pu4])
       refine tk 13 ?_
       (try simp only [pu0,pu1,pu2,pu3,pu4])
       refine zac qg ?_ _
       clear HS
       go_wp2_with fail
       go_ret
       exact .inr ⟨rfl,x,zgo fits _ hkn HA.out.2.2.2.2 (by rw [if_neg (by rw [HCC.out]; decide)]; exact HX.out.1),HX.out.2.1,((zbo.zhC HA.out.2.1).trans (zbo.of_below HB3.out)).trans HX.out.2.2⟩
     ·clear HS
      have HGb := za.mk (HG.out.below hJ (ze (Below.refl _ _) (.cells #[.int .i64 k] 3)))
      have HBb := za.mk (zo HB.out (ze (Below.refl _ _) (.cells #[.int .i64 k] 3)))
      have Hbx := za.mk (heap_alloc_new Wa (.cells #[.int .i64 k] 3))
      have HS : (Wa.alloc (.cells #[.int .i64 k] 3)).cell? ⟨gg,0,none⟩ = some (.func (.func 100) #[] #[.pointer (some ⟨gn,0,none⟩), .pointer (some ⟨gy,0,none⟩), .pointer (some ⟨gg,0,none⟩)]) := zf HGb.out.bg 0
      go_simp
      refine hK.out _ _ (fun _ => HS) ?_
      clear hK K
      (try simp only [pu0,pu1,pu2,pu3,pu4])
      obtain ⟨Wb,hWb⟩ : ∃ W_,Wa.alloc (.cells #[.int .i64 k] 3) = W_ := ⟨_,rfl⟩
      obtain ⟨bx,hbx⟩ : ∃ b_,Wa.heap.size = b_ := ⟨_,rfl⟩
      rw [hWb] at HGb HBb Hbx HS ⊢
      rw [hbx] at Hbx ⊢
      clear hWb hbx
      refine on1 7 fun K hK => ?_
      clear HS
      refine zbv Try.func102 qg rfl #[.slice A l.length c] qA rfl rfl qo ?_
      refine (zeO A c l Wb (Kd.zU HA.out.2.2.2.1 HBb.out) HC.out HL.out).mono ?_
      rintro e w2 ⟨v2,rfl,hR2,hb2⟩
      refine ⟨_,rfl,?_⟩
      have HG2 := za.mk (HGb.out.below hJ hb2)
      have HB2 := za.mk (hb2)
      have HR2 := za.mk hR2
      have Hbx2 := za.mk (zu Hbx.out hb2)
      have HS : w2.cell? ⟨gg,0,none⟩ = some (.func (.func 100) #[] #[.pointer (some ⟨gn,0,none⟩), .pointer (some ⟨gy,0,none⟩), .pointer (some ⟨gg,0,none⟩)]) := zf HG2.out.bg 0
      clear hR2 hb2
      refine hK.out _ _ (fun _ => HS) ?_
      clear hK K
      (try simp only [pu0,pu1,pu2,pu3,pu4])
      refine on1 10 fun K hK => ?_
      clear HS
      obtain ⟨i0,hi0,hz0,hz1,hz2⟩ := info_parts info3
      refine ziL qA ?_
      refine wp_append_lies w2 (.tmp 25) (.tmp 27) 23 qA Wb.heap.size 3 i0 _ 1 8 Try.underlying23 hi0 hz0 hz1 hz2 rfl ql v2 l.length (encs (Value.int .i64) l) qA (Kd.zel HR2.out) ⟨bx,0,none⟩ 1 1 [.int .i64 k] qA rfl (World.news_of_block Hbx2.out) (by simp [Value.oneCell']) ql (by have := HL.out; simp only [maxLen]; omega) (qB HL.out) HB2.out.size _ rfl ?_
      intro g3 c3 W3 hown hg hat hlt
      have hb : Below Wb.heap.size Wb W3 := zfu HB2.out _ HB2.out.size hg (fun k hk => by
       obtain ⟨inner,ho⟩ := Kd.zb7 HR2.out
       exact zb9 ho k hk)
      obtain ⟨v3,hv3⟩ : ∃ v_,Value.slice (some ⟨g3,0,none⟩) (l.length + 1) c3 = v_ := ⟨_,rfl⟩
      rw [hv3] at hown ⊢
      have hr : Kd.R (Kd.int .i64) 3 W3 Wb.heap.size (fun _ => True) v3 (l ++ [(k : Int)]) := Kd.zdy (by rw [List.length_append,List.length_singleton]; simpa [encs] using hown) (fun _ _ => trivial)
      have HG3 := za.mk (HGb.out.below hJ hb)
      have HB3 := za.mk (zo HBb.out hb)
      have HR3 := za.mk (Kd.zaO hr (Nat.le_trans (Nat.le_trans hbase hwr) HBb.out.size))
      have HS : W3.cell? ⟨gg,0,none⟩ = some (.func (.func 100) #[] #[.pointer (some ⟨gn,0,none⟩), .pointer (some ⟨gy,0,none⟩), .pointer (some ⟨gg,0,none⟩)]) := zf HG3.out.bg 0
      clear hr hb hg hat HR2 HB2 HG2 hown hv3
      refine hK.out _ _ (fun _ => HS) ?_
      clear hK K
      (try simp only [pu0,pu1,pu2,pu3,pu4])
      refine on1 11 fun K hK => ?_
      clear HS
      have hih := ih (l ++ [(k : Int)]) v3 W3 qO (zgD HIN.out hkn) HG3.out HR3.out
      refine zfR Try.func100 qg rfl #[v3, .pointer (some ⟨gn,0,none⟩), .pointer (some ⟨gy,0,none⟩), .pointer (some ⟨gg,0,none⟩)] qA rfl rfl qA qo ?_
      refine hih.mono ?_
      clear hih
      rintro e W4 (⟨rfl,hn4,hG4,hk4⟩ | ⟨rfl,x,hx4,hJ4,hka⟩)
      ·refine ⟨_,rfl,?_⟩
       have HG4 := za.mk (And.intro hn4 (And.intro hG4 hk4))
       have HS : W4.cell? ⟨gg,0,none⟩ = some (.func (.func 100) #[] #[.pointer (some ⟨gn,0,none⟩), .pointer (some ⟨gy,0,none⟩), .pointer (some ⟨gg,0,none⟩)]) := zf hG4.bg 0
       clear hn4 hG4 hk4
       refine hK.out _ _ (fun _ => HS) ?_
       clear hK K
       (try simp only [pu0,pu1,pu2,pu3,pu4])
       refine tk 12 ?_
       (try simp only [pu0,pu1,pu2,pu3,pu4])
       refine tk 13 ?_
       (try simp only [pu0,pu1,pu2,pu3,pu4])
       refine zac qg ?_ _
       clear HS
       go_wp2_with fail
       go_roundw
       case rel => exact ⟨k + 1,by omega,by go_num,⟨HG4.out.2.1,(HA.out.2.1.trans (zM.of_below HB3.out _ none) (.inl rfl)).trans HG4.out.2.2 (.inl rfl),zdf HG3.out.lpr HG4.out.2.2 (Kd.zD HA.out.2.2.1 HB3.out),zfE HG3.out.lpr HG4.out.2.2 (Kd.zD HA.out.2.2.1 HB3.out),by rw [zdc hkn,List.find?_append,HA.out.2.2.2.2,if_neg (by rw [HCC.out]; decide)]; exact HG4.out.1⟩⟩
       case measure => simp [intOf]; omega
      ·refine ⟨_,rfl,?_⟩
       have HS : W4.cell? ⟨gg,0,none⟩ = some (.func (.func 100) #[] #[.pointer (some ⟨gn,0,none⟩), .pointer (some ⟨gy,0,none⟩), .pointer (some ⟨gg,0,none⟩)]) := zf ((hka.2 gg HG3.out.ggt (zR HG3.out.bg)).trans HG3.out.bg) 0
       have HX := za.mk (And.intro hx4 (And.intro hJ4 hka))
       clear hx4 hJ4 hka
       refine hK.out _ _ (fun _ => HS) ?_
       clear hK K
       (try simp only [pu0,pu1,pu2,pu3,pu4])
       refine tk 12 ?_
       (try simp only [pu0,pu1,pu2,pu3,pu4])
       refine tk 13 ?_
       (try simp only [pu0,pu1,pu2,pu3,pu4])
       refine zac qg ?_ _
       clear HS
       go_wp2_with fail
       go_ret
       exact .inr ⟨rfl,x,zgo fits _ hkn HA.out.2.2.2.2 (by rw [if_neg (by rw [HCC.out]; decide)]; exact HX.out.1),HX.out.2.1,((zbo.zhC HA.out.2.1).trans (zbo.of_below HB3.out)).trans HX.out.2.2⟩
   ·have c0 : decide ((k : Int) < (n : Int)) = false := decide_eq_false ql
    have c0' : decide (k < n) = false := decide_eq_false hkn
    have hkk : k = n := by omega
    subst hkk
    go_wp2_with fail
    go_ret
    refine .inl ⟨rfl,?_,HA.out.1,HA.out.2.1⟩
    have h := HA.out.2.2.2.2
    rw [List.take_of_length_le qC] at h
    exact h
end Go.Proofs.Ytgmbbfmbimofoaa.P
