-- MERGED BY A PROGRAM out of texts of this claim: hand work, and what a (turned) print of the kit has written for it
import Derived.RangeFuncLeaves
import Derived.Laws.EntriesVeiled
import Derived.Outline
import Derived.Scope
import Derived.Shelf.Abstract
import Derived.Shelf.RegionOpen
import Derived.WalkKit
import Derived.OwnWalkIn
import Derived.TacticsInMore
import Derived.LoopNIn
import Derived.LoopIn
import Derived.Test.YtgmbbfmbimofoaaMk17
import Derived.Test.YtgmbbfmbimofoaaMk13
import Derived.Test.YtgmbbfmbimofoaaMk5
namespace Go.Proofs.Ytgmbbfmbimofoaa.P
open Go.RowKit Go.Proofs.YtgmbbfmbimofoaaW.PrintWords Go.Proofs.YtgmbbfmbimofoaaW.PrintLast Go.Proofs.YtgmbbfmbimofoaaW.PrintMore
attribute [local go_sem] zH zI zP zO zC zB zJ zK
set_option linter.unusedVariables false
set_option linter.unusedSimpArgs false
open Go.Shelf
attribute [local go_sem] Oper.semAt_some
def zeB (n kind : Int) : Int := if kind = 1 then wrap64 (n + 1) else if kind = 3 then wrap64 (n - 1) else n
def zea (l1 : List S63) (most : Int) : Int → List Int → Bool
 | _,[] => true
 | n,i :: is => if most < zeB n (zk l1 i).f0 then false else zea l1 most (zeB n (zk l1 i).f0) is
def zcj.f (l0 : List ByteArray) (l1 : List S63) (a2 : Int) : Option (List Int × Int) :=
 if l0.length ≤ 100 ∧ l1.length ≤ 100 then
  (zat.f 1000 l0 l1).bind fun e =>
   if e = 0 then
    (if 5 < l1.length then some ([],6) else if a2 < 0 then some ([],1) else if a2 < (l0.length : Int) then some ([],12) else
     match (zcM l1.length l1.length []).find? (zea l1 a2 (l0.length : Int)) with
     | some x => some (x,0)
     | none => some ([],11))
   else some ([],e)
 else none
structure zba (w : World) (v3 v4 v5 v6 v7 : Value) (W : World) : Prop where
 below : Below w.heap.size w W
 b3 : W.heap[w.heap.size]? = some (.cells #[v3] 22 (0,0))
 b4 : W.heap[w.heap.size + 1]? = some (.cells #[v4] 31 (0,0))
 b5 : W.heap[w.heap.size + 1 + 1]? = some (.cells #[v5] 3 (0,0))
 b6 : W.heap[w.heap.size + 1 + 1 + 1]? = some (.cells #[v6] 23 (0,0))
 b7 : W.heap[w.heap.size + 1 + 1 + 1 + 1]? = some (.cells #[v7] 32 (0,0))
theorem zba.next {w W W1 : World} {v3 v4 v5 v6 v7 : Value} (h : zba w v3 v4 v5 v6 v7 W) (hb : Below W.heap.size W W1) : zba w v3 v4 v5 v6 v7 W1 :=
 ⟨zo h.below hb,zu h.b3 hb,zu h.b4 hb,zu h.b5 hb,zu h.b6 hb,zu h.b7 hb⟩
theorem zba.c3 {w W : World} {v3 v4 v5 v6 v7 : Value} (h : zba w v3 v4 v5 v6 v7 W) : W.cell? ⟨w.heap.size,0,none⟩ = some v3 := zf h.b3 0
theorem zba.c4 {w W : World} {v3 v4 v5 v6 v7 : Value} (h : zba w v3 v4 v5 v6 v7 W) : W.cell? ⟨w.heap.size + 1,0,none⟩ = some v4 := zf h.b4 0
theorem zba.c5 {w W : World} {v3 v4 v5 v6 v7 : Value} (h : zba w v3 v4 v5 v6 v7 W) : W.cell? ⟨w.heap.size + 1 + 1,0,none⟩ = some v5 := zf h.b5 0
theorem zba.c6 {w W : World} {v3 v4 v5 v6 v7 : Value} (h : zba w v3 v4 v5 v6 v7 W) : W.cell? ⟨w.heap.size + 1 + 1 + 1,0,none⟩ = some v6 := zf h.b6 0
theorem zba.f6 {w W : World} {v3 v4 v5 v6 v7 : Value} (h : zba w v3 v4 v5 v6 v7 W) : W.frozen? ⟨w.heap.size + 1 + 1 + 1,0,none⟩ = false := zn h.b6 0
theorem zba.c7 {w W : World} {v3 v4 v5 v6 v7 : Value} (h : zba w v3 v4 v5 v6 v7 W) : W.cell? ⟨w.heap.size + 1 + 1 + 1 + 1,0,none⟩ = some v7 := zf h.b7 0
theorem zba.f7 {w W : World} {v3 v4 v5 v6 v7 : Value} (h : zba w v3 v4 v5 v6 v7 W) : W.frozen? ⟨w.heap.size + 1 + 1 + 1 + 1,0,none⟩ = false := zn h.b7 0
theorem zgv (w : World) (a b c : Value) : zba w a b c (.slice none 0 0) (.int .i64 0) (((((w.alloc (.cells #[a] 22)).alloc (.cells #[b] 31)).alloc (.cells #[c] 3)).alloc (.cells #[.slice none 0 0] 23)).alloc (.cells #[.int .i64 0] 32)) := by
 have sz : ∀ (u : World) (o : Obj),(u.alloc o).heap.size = u.heap.size + 1 := fun u o => Array.size_push _
 have nw : ∀ (u : World) (o : Obj) (n : Nat),u.heap.size = n → (u.alloc o).heap[n]? = some o := fun u o n hn => by subst hn; exact heap_alloc_new u o
 refine ⟨ze (ze (ze (ze (ze (Below.refl _ _) _) _) _) _) _,?_,?_,?_,?_,?_⟩
 ·exact zi (zi (zi (zi (nw _ _ _ rfl) _) _) _) _
 ·exact zi (zi (zi (nw _ _ _ qP) _) _) _
 ·exact zi (zi (nw _ _ _ qP) _) _
 ·exact zi (nw _ _ _ qP) _
 ·exact nw _ _ _ qP
theorem results29 (tmps : Array Value) (W : World) (g6 g7 : Nat) (v6 v7 : Value) (h6 : tmps.getD 6 undef = .pointer (some ⟨g6,0,none⟩)) (h7 : tmps.getD 7 undef = .pointer (some ⟨g7,0,none⟩)) (c6 : W.cell? ⟨g6,0,none⟩ = some v6) (c7 : W.cell? ⟨g7,0,none⟩ = some v7) :
  (results Try.f29 tmps).run Try.prog W = .ok (.tuple #[v6,v7]) W := by
 have u23 := Try.underlying23
 have u32 := Try.underlying32
 have e6 : tmps[6]?.getD undef = .pointer (some ⟨g6,0,none⟩) := by simpa using h6
 have e7 : tmps[7]?.getD undef = .pointer (some ⟨g7,0,none⟩) := by simpa using h7
 have hr : Try.f29.results = #[.cell 6 23, .cell 7 32] := by kernel_rfl
 unfold results
 rw [hr]
 simp [e6,e7,asAddr]
 go_simp
theorem zfQ {w W1 : World} {a b c d e0 : Value} (hB : zba w a b c d e0 W1) (u6 u7 : Value) (tmps : Array Value) (h6 : tmps.getD 6 undef = .pointer (some ⟨w.heap.size + 1 + 1 + 1,0,none⟩)) (h7 : tmps.getD 7 undef = .pointer (some ⟨w.heap.size + 1 + 1 + 1 + 1,0,none⟩)) {R : Ending → World → Prop}
  (hR : R (.returned (.tuple #[u6,u7])) ((W1.setCell ⟨w.heap.size + 1 + 1 + 1,0,none⟩ u6).setCell ⟨w.heap.size + 1 + 1 + 1 + 1,0,none⟩ u7)) :
  LeavesInM Fence.wide 9 Try.prog Try.f29 tmps R [] .returning ((W1.setCell ⟨w.heap.size + 1 + 1 + 1,0,none⟩ u6).setCell ⟨w.heap.size + 1 + 1 + 1 + 1,0,none⟩ u7) := by
 have h1 := zav (p := ⟨w.heap.size + 1 + 1 + 1 + 1,0,none⟩) (zar hB.b6 0 u6) qG u7
 have h2 := zar (zav (p := ⟨w.heap.size + 1 + 1 + 1,0,none⟩) hB.b7 qG u6) 0 u7
 exact ⟨_,results29 tmps _ _ _ u6 u7 h6 h7 ((zf h1 0).trans rfl) ((zf h2 0).trans rfl),hR⟩
theorem zdV {w W1 : World} {a b c d e0 : Value} (hB : zba w a b c d e0 W1) (u6 u7 : Value) : Below w.heap.size w ((W1.setCell ⟨w.heap.size + 1 + 1 + 1,0,none⟩ u6).setCell ⟨w.heap.size + 1 + 1 + 1 + 1,0,none⟩ u7) := zh (zh hB.below ql) ql
theorem noGoto_ret {F : Fence} {n : Nat} {P : Program} {fn : Func} {R : Ending → World → Prop} {a : Act} {w : World} (h : LeavesInM F n P fn a.tmps R a.defers .returning w) : Exit.noGoto (bodyPostM F n P fn R) Exit.ret a w := h
structure ze3 (w : World) (l0 : List ByteArray) (A0 : Option Addr) (c0 : Nat) (l1 : List S63) (A1 : Option Addr) (c1 : Nat) (a2 : Int) (x : List Int) (W : World) : Prop where
 ex : ∃ v,zba w (.slice A0 l0.length c0) (.slice A1 l1.length c1) (.int .i64 a2) v (.int .i64 0) W ∧ Kd.R (Kd.int .i64) 3 W w.heap.size (fun _ => True) v x
theorem zba.put {w W : World} {v3 v4 v5 v6 v7 : Value} (h : zba w v3 v4 v5 v6 v7 W) {k : Nat} {r : Loop} (hl : W.heap[k]? = some (.loop r)) (hk : w.heap.size ≤ k) (o : Obj) : zba w v3 v4 v5 v6 v7 (W.putObj k o) := by
 have ne : ∀ {g : Nat} {cs : Array Value} {t : TypeId},W.heap[g]? = some (.cells cs t (0,0)) → (W.putObj k o).heap[g]? = some (.cells cs t (0,0)) := fun hg => by
  rw [World.putObj_heap_other (fun e => by subst e; rw [hl] at hg; cases hg)]; exact hg
 exact ⟨zcK h.below hk o,ne h.b3,ne h.b4,ne h.b5,ne h.b6,ne h.b7⟩
theorem ze3.put {w : World} {l0 : List ByteArray} {A0 : Option Addr} {c0 : Nat} {l1 : List S63} {A1 : Option Addr} {c1 : Nat} {a2 : Int} {x : List Int} {W : World} (h : ze3 w l0 A0 c0 l1 A1 c1 a2 x W) {k : Nat} {r : Loop} (hl : W.heap[k]? = some (.loop r)) (hk : w.heap.size ≤ k) (o : Obj) : ze3 w l0 A0 c0 l1 A1 c1 a2 x (W.putObj k o) := by
 obtain ⟨v,hB,hR⟩ := h.ex
 exact ⟨v,hB.put hl hk o,zdf ⟨_,hl⟩ ⟨by rw [World.putObj_size]; exact Nat.le_refl _,fun i _ hi _ => World.putObj_heap_other hi⟩ hR⟩
theorem zba.ziu {w W : World} {v3 v4 v5 v6 v7 : Value} (h : zba w v3 v4 v5 v6 v7 W) (u6 u7 : Value) : zba w v3 v4 v5 u6 u7 ((W.setCell ⟨w.heap.size + 1 + 1 + 1,0,none⟩ u6).setCell ⟨w.heap.size + 1 + 1 + 1 + 1,0,none⟩ u7) :=
 ⟨zdV h u6 u7,zav (zav h.b3 qG _) qG _,zav (zav h.b4 qG _) qG _,zav (zav h.b5 qG _) qG _,
  zav (zV h.b6 0 _ rfl) qG _,zV (zav h.b7 qG _) 0 _ rfl⟩
theorem zba.zh5 {w W : World} {v3 v4 v5 v6 v7 : Value} (h : zba w v3 v4 v5 v6 v7 W) {k : Nat} {ds : Option (List Deferred)} (hl : W.heap[k]? = some (.deferred ds)) (hk : w.heap.size ≤ k) (o : Obj) : zba w v3 v4 v5 v6 v7 (W.putObj k o) := by
 have ne : ∀ {g : Nat} {cs : Array Value} {t : TypeId},W.heap[g]? = some (.cells cs t (0,0)) → (W.putObj k o).heap[g]? = some (.cells cs t (0,0)) := fun hg => by
  rw [World.putObj_heap_other (fun e => by subst e; rw [hl] at hg; cases hg)]; exact hg
 exact ⟨zcK h.below hk o,ne h.b3,ne h.b4,ne h.b5,ne h.b6,ne h.b7⟩
theorem zi3 {W : World} {base k : Nat} {v : Value} {l : List Int} {ds : Option (List Deferred)} (h : Kd.R (Kd.int .i64) 3 W base (fun _ => True) v l) (hl : W.heap[k]? = some (.deferred ds)) (o : Obj) : Kd.R (Kd.int .i64) 3 (W.putObj k o) base (fun _ => True) v l := by
 refine Kd.zaB (Kd.zcV (Kd.za5 h) (fun i hk2 => ?_)) (fun _ _ => trivial)
 obtain ⟨_,_,_,q,_,cells,hc⟩ := hk2
 exact World.putObj_heap_other (fun e => by rw [e,hl] at hc; cases hc)
theorem zgJ {w W : World} {a b c u6 u7 : Value} (hB : zba w a b c u6 u7 W) (k : Nat) (hk : W.heap[k]? = some (.deferred (some []))) (hw : w.heap.size ≤ k) (tmps : Array Value) (h6 : tmps.getD 6 undef = .pointer (some ⟨w.heap.size + 1 + 1 + 1,0,none⟩)) (h7 : tmps.getD 7 undef = .pointer (some ⟨w.heap.size + 1 + 1 + 1 + 1,0,none⟩)) {R : Ending → World → Prop}
  (hR : R (.returned (.tuple #[u6,u7])) (W.putObj k (.deferred none))) :
  LeavesInM Fence.wide 9 Try.prog Try.f29 tmps R [{ target := .collected k,args := #[] }] .returning W := by
 have hB2 := hB.zh5 hk hw (.deferred none)
 exact ⟨by simp, .inl ⟨_,_,rfl,run_takeDeferred hk,⟨_,results29 tmps _ _ _ u6 u7 h6 h7 hB2.c6 hB2.c7,hR⟩⟩⟩
theorem zjw {w : World} {A : Option Addr} {n : Nat} {xs : List Int} (h : Kd.C (Kd.int .i64) w A n xs) (i : Nat) (h1 : i < n) (hx : i < xs.length) : ∃ ad,A = some ad ∧ w.cell? (ad.add i) = some (.int .i64 xs[i]) := by
 obtain ⟨ad,c,e,_,hK,hc0⟩ := Kd.ze2 h (0 : Int) (i : Int) ql ql
 have hK' : c = [.int .i64 (xs.getD ((i : Int)).toNat 0)] := hK
 subst hK'
 have := hc0 0 _ rfl
 refine ⟨ad,e,?_⟩
 have e1 : ((i : Int)).toNat * (Kd.int .i64).sz + 0 = i := by show ((i : Int)).toNat * 1 + 0 = i; simp
 rw [e1] at this
 rw [this]
 simp [List.getD,hx]
set_option maxHeartbeats 4000000 in
set_option maxRecDepth 100000 in
theorem zcj.calls (A0 : Option Addr) (c0 : Nat) (l0 : List ByteArray) (A1 : Option Addr) (c1 : Nat) (l1 : List S63) (a2 : Int) (r1 : List Int) (r2 : Int) (w : World) (hr0 : Kd.C Kd.string w A0 l0.length l0) (hc0 : l0.length ≤ c0) (hr1 : Kd.C k63 w A1 l1.length l1) (hc1 : l1.length ≤ c1) (h : zcj.f l0 l1 a2 = some (r1,r2)) :
  Calls Try.prog 29 #[.slice A0 l0.length c0, .slice A1 l1.length c1, .int .i64 a2] w fun e_ w' => ∃ v0_ : Value,e_ = .returned (.tuple #[v0_, .int .i64 r2]) ∧ Kd.R (Kd.int .i64) 3 w' w.heap.size (fun _ => True) v0_ r1 ∧ Below w.heap.size w w' := by
 have hl : l0.length ≤ 100 ∧ l1.length ≤ 100 := by
  unfold zcj.f at h
  by_cases hc : l0.length ≤ 100 ∧ l1.length ≤ 100
  ·exact hc
  ·rw [if_neg hc] at h; cases h
 unfold zcj.f at h
 rw [if_pos hl] at h
 obtain ⟨e,he,h⟩ := Option.bind_eq_some_iff.mp h
 have HR := za.mk (And.intro hr0 (And.intro hc0 (And.intro hr1 (And.intro hc1 (And.intro hl.1 (And.intro hl.2 he))))))
 clear hr0 hc0 hr1 hc1 hl he
 refine (callsIn_wide (n := 9)).1 ?_
 refine callsIn_of_wp_marks Try.func29 rfl trivial ?_ rfl
 simp only [Try.ntmps29,List.size_toArray,List.length_cons,List.length_nil,Nat.reduceAdd,Nat.reduceSub,Array.replicate_succ,Array.replicate_zero,List.push_toArray,List.append_toArray,List.nil_append,List.cons_append]
 refine wpIn_wide.2 ?_
 obtain ⟨W,hW⟩ : ∃ W_,((((w.alloc (.cells #[.slice A0 l0.length c0] 22)).alloc (.cells #[.slice A1 l1.length c1] 31)).alloc (.cells #[.int .i64 a2] 3)).alloc (.cells #[.slice none 0 0] 23)).alloc (.cells #[.int .i64 0] 32) = W_ := ⟨_,rfl⟩
 have HB0 := zgv w (.slice A0 l0.length c0) (.slice A1 l1.length c1) (.int .i64 a2)
 rw [hW] at HB0
 have HB := za.mk HB0
 clear HB0
 have HW := za.mk hW
 clear hW
 have H := za.mk h
 clear h
 by_cases he0 : e = 0
 ·subst he0
  have h := H.out
  rw [if_pos rfl] at h
  replace H := za.mk h
  clear h
  by_cases g1 : 5 < l1.length
  ·have h := H.out
   rw [if_pos g1] at h
   simp only [Option.some.injEq,Prod.mk.injEq] at h
   obtain ⟨rfl,rfl⟩ := h
   have d1 : decide ((5 : Int) < (l1.length : Int)) = true := decide_eq_true ql
   clear H
   go_wp2_with fail
   refine wp_scope_straight ?_
   go_wp2_with (go_at_call 67; rw [HW.out]; refine (zat.calls 1000 A0 c0 l0 A1 c1 l1 0 W (Kd.zU HR.out.1 HB.out.below) HR.out.2.1 (Kd.zU HR.out.2.2.1 HB.out.below) HR.out.2.2.2.1 HR.out.2.2.2.2.2.2).mono ?_; rintro e_ W1 ⟨rfl,hb⟩; have HB1 := za.mk (HB.out.next hb); have h3 := HB1.out.c3; have h4 := HB1.out.c4; have h5 := HB1.out.c5; have h6 := HB1.out.c6; have f6 := HB1.out.f6; have h7 := HB1.out.c7; have f7 := HB1.out.f7; clear hb)
   refine noGoto_ret ?_
   refine zfQ HB1.out (.slice none 0 0) (.int .i64 6) _ qA qA ?_
   exact ⟨_,rfl,Kd.zbG _ _ _ _ _,zdV HB1.out _ _⟩
  ·by_cases g2 : a2 < 0
   ·have h := H.out
    rw [if_neg g1,if_pos g2] at h
    simp only [Option.some.injEq,Prod.mk.injEq] at h
    obtain ⟨rfl,rfl⟩ := h
    have d1 : decide ((5 : Int) < (l1.length : Int)) = false := decide_eq_false ql
    have d2 : decide (a2 < 0) = true := decide_eq_true g2
    clear H
    go_wp2_with fail
    refine wp_scope_straight ?_
    go_wp2_with (go_at_call 67; rw [HW.out]; refine (zat.calls 1000 A0 c0 l0 A1 c1 l1 0 W (Kd.zU HR.out.1 HB.out.below) HR.out.2.1 (Kd.zU HR.out.2.2.1 HB.out.below) HR.out.2.2.2.1 HR.out.2.2.2.2.2.2).mono ?_; rintro e_ W1 ⟨rfl,hb⟩; have HB1 := za.mk (HB.out.next hb); have h3 := HB1.out.c3; have h4 := HB1.out.c4; have h5 := HB1.out.c5; have h6 := HB1.out.c6; have f6 := HB1.out.f6; have h7 := HB1.out.c7; have f7 := HB1.out.f7; clear hb)
    refine noGoto_ret ?_
    refine zfQ HB1.out (.slice none 0 0) (.int .i64 1) _ qA qA ?_
    exact ⟨_,rfl,Kd.zbG _ _ _ _ _,zdV HB1.out _ _⟩
   ·by_cases g3 : a2 < (l0.length : Int)
    ·have h := H.out
     rw [if_neg g1,if_neg g2,if_pos g3] at h
     simp only [Option.some.injEq,Prod.mk.injEq] at h
     obtain ⟨rfl,rfl⟩ := h
     have d1 : decide ((5 : Int) < (l1.length : Int)) = false := decide_eq_false ql
     have d2 : decide (a2 < 0) = false := decide_eq_false g2
     have d3 : decide (a2 < (l0.length : Int)) = true := decide_eq_true g3
     clear H
     go_wp2_with fail
     refine wp_scope_straight ?_
     go_wp2_with (go_at_call 67; rw [HW.out]; refine (zat.calls 1000 A0 c0 l0 A1 c1 l1 0 W (Kd.zU HR.out.1 HB.out.below) HR.out.2.1 (Kd.zU HR.out.2.2.1 HB.out.below) HR.out.2.2.2.1 HR.out.2.2.2.2.2.2).mono ?_; rintro e_ W1 ⟨rfl,hb⟩; have HB1 := za.mk (HB.out.next hb); have h3 := HB1.out.c3; have h4 := HB1.out.c4; have h5 := HB1.out.c5; have h6 := HB1.out.c6; have f6 := HB1.out.f6; have h7 := HB1.out.c7; have f7 := HB1.out.f7; clear hb)
     refine noGoto_ret ?_
     refine zfQ HB1.out (.slice none 0 0) (.int .i64 12) _ qA qA ?_
     exact ⟨_,rfl,Kd.zbG _ _ _ _ _,zdV HB1.out _ _⟩
    ·have h := H.out
     rw [if_neg g1,if_neg g2,if_neg g3] at h
     replace H := za.mk h
     clear h
     have d1 : decide ((5 : Int) < (l1.length : Int)) = false := decide_eq_false ql
     have d2 : decide (a2 < 0) = false := decide_eq_false g2
     have d3 : decide (a2 < (l0.length : Int)) = false := decide_eq_false g3
     have HG := za.mk (And.intro g1 (And.intro g2 g3))
     clear g1 g2 g3
     go_wp2_with fail
     refine wp_scope_straight ?_
     go_wp2_with (go_at_call 67; rw [HW.out]; refine (zat.calls 1000 A0 c0 l0 A1 c1 l1 0 W (Kd.zU HR.out.1 HB.out.below) HR.out.2.1 (Kd.zU HR.out.2.2.1 HB.out.below) HR.out.2.2.2.1 HR.out.2.2.2.2.2.2).mono ?_; rintro e_ W1 ⟨rfl,hb⟩; have HB1 := za.mk (HB.out.next hb); have h3 := HB1.out.c3; have h4 := HB1.out.c4; have h5 := HB1.out.c5; have h6 := HB1.out.c6; have f6 := HB1.out.f6; have h7 := HB1.out.c7; have f7 := HB1.out.f7; clear hb)
     clear h6 f6 h7 f7 h3 h5
     refine wp_label ?_
     go_wp2_with (go_at_call 68; refine (zgt l1.length W1).mono ?_; rintro e_ w2 ⟨rfl,rfl⟩)
     have HB2 := za.mk (HB1.out.next (ze (Below.refl W1.heap.size W1) (.cells #[.int .i64 (l1.length : Int)] 3)))
     obtain ⟨W2,hW2⟩ : ∃ W_,W1.alloc (.cells #[.int .i64 (l1.length : Int)] 3) = W_ := ⟨_,rfl⟩
     have hgn : W2.heap[W1.heap.size]? = some (.cells #[.int .i64 (l1.length : Int)] 3 (0,0)) := by rw [← hW2]; exact heap_alloc_new W1 _
     rw [hW2] at HB2 ⊢
     clear hW2 h4
     refine zfT (zea l1 a2 (l0.length : Int)) (ze3 w l0 A0 c0 l1 A1 c1 a2) l1.length W1.heap.size w.heap.size (by have := HR.out.2.2.2.2.2.1; omega) rfl hgn HB2.out.below.size rfl ?_ (fun v => { tmps := #[.slice A0 l0.length c0, .slice A1 l1.length c1, .int .i64 a2, .pointer (some ⟨w.heap.size,0,none⟩), .pointer (some ⟨w.heap.size + 1,0,none⟩), .pointer (some ⟨w.heap.size + 1 + 1,0,none⟩), .pointer (some ⟨w.heap.size + 1 + 1 + 1,0,none⟩), .pointer (some ⟨w.heap.size + 1 + 1 + 1 + 1,0,none⟩), .int .i64 0,v,undef,undef,undef, .slice A0 l0.length c0, .slice A1 l1.length c1, .int .i64 0, .int .i64 0, .bool false,undef, .bool false, .slice A1 l1.length c1, .int .i64 (l1.length : Int), .bool false, .bool false, .int .i64 a2, .bool false, .bool false, .slice A0 l0.length c0, .int .i64 (l0.length : Int), .int .i64 a2, .bool false, .slice A1 l1.length c1, .int .i64 (l1.length : Int), .func (.func 99) #[] #[.pointer (some ⟨W1.heap.size,0,none⟩)],v,undef,undef,undef,undef,undef,undef,undef,undef,undef,undef,undef,undef,undef,undef,undef,undef,undef,undef,undef,undef,undef,undef,undef,undef,undef,undef],defers := [] }) ?assign ?body ?done ?stop
     ·intro x W r o hx hl
      exact hx.put hl (by have := HB2.out.below.size; omega) o
     case assign =>
      intro v W K hK
      gi_wp2
      exact hK
     case body =>
      intro v x Wb hbw hxn hxin hR
      obtain ⟨A,c,rfl,hc,hC⟩ := Kd.zak hR
      have HBb := za.mk (HB2.out.next hbw)
      have HX := za.mk (And.intro hxn (And.intro hxin (And.intro hC hR)))
      clear hbw hxn hxin hR hc hC hgn
      have h3 := HBb.out.c3
      have h4 := HBb.out.c4
      have h5 := HBb.out.c5
      have h6 := HBb.out.c6
      have f6 := HBb.out.f6
      have h7 := HBb.out.c7
      have f7 := HBb.out.f7
      gi_wp2
      gi_loopw [10,12,39,40,41,42,43,44,45,46,47,48,49,50,51,52,53,54,55,56,57,58,59] (fun v10 v12 v39 v40 v41 v42 v43 v44 v45 v46 v47 v48 v49 v50 v51 v52 v53 v54 v55 v56 v57 v58 v59 wr => ∃ (k : Nat) (m : Int),k ≤ x.length ∧ v39 = .int .i64 k ∧ v10 = .int .i64 m ∧ wr = Wb ∧ za (zea l1 a2 m (x.drop k) = zea l1 a2 (l0.length : Int) x)) (fun v10 v12 v39 v40 v41 v42 v43 v44 v45 v46 v47 v48 v49 v50 v51 v52 v53 v54 v55 v56 v57 v58 v59 wr => x.length - (intOf v39).toNat)
      case atStart => exact ⟨0,_,by omega,rfl,rfl,rfl,⟨by simp⟩⟩
      case round =>
       obtain ⟨k,m,hk,rfl,rfl,rfl,HF⟩ := hrel
       by_cases hkx : k < x.length
       ·have c0 : decide ((k : Int) < (x.length : Int)) = true := decide_eq_true ql
        have c0' : decide (k < x.length) = true := decide_eq_true hkx
        obtain ⟨adx,ex,hxc⟩ := zjw HX.out.2.2.1 k hkx hkx
        subst ex
        have hi := HX.out.2.1 x[k] (List.getElem_mem hkx)
        obtain ⟨i,hxi⟩ : ∃ i_,x[k] = i_ := ⟨_,rfl⟩
        have hstep := HF.out
        rw [List.drop_eq_getElem_cons hkx,hxi,zea] at hstep
        rw [hxi] at hxc hi
        obtain ⟨adl,el,hl0,_,_⟩ := zbb (Kd.zU HR.out.2.2.1 HBb.out.below) i hi.1 (by have := hi.2; exact this)
        subst el
        have p1 := eq_true hi.1
        have q1 := eq_true hi.2
        have HST := za.mk hstep
        clear hstep hi
        have eln : ((k + 1 : Nat) : Int) = (k : Int) + 1 := by omega
        have HE := za.mk eln
        clear eln
        have hwk : wrap64 ((k : Int) + 1) = ((k + 1 : Nat) : Int) := by
         have := HX.out.1
         have := HR.out.2.2.2.2.2.1
         unfold wrap64
         omega
        have HWK := za.mk hwk
        clear hwk
        obtain ⟨kd,hkd⟩ : ∃ kd_,(zk l1 i).f0 = kd_ := ⟨_,rfl⟩
        rw [hkd] at hl0 HST
        clear hkd
        by_cases k1 : kd = 1
        ·subst k1
         rw [show zeB m 1 = wrap64 (m + 1) from rfl] at HST
         by_cases hm : a2 < wrap64 (m + 1)
         ·have d4 : decide (a2 < wrap64 (m + 1)) = true := decide_eq_true hm
          gi_wp2
          exact ⟨by have h := HST.out; rw [if_pos hm] at h; exact h.symm,Below.refl _ _⟩
         ·have d4 : decide (a2 < wrap64 (m + 1)) = false := decide_eq_false hm
          gi_wp2
          go_roundw
          case rel => exact ⟨k + 1,wrap64 (m + 1),hkx,congrArg (Value.int .i64) HWK.out,rfl,trivial,⟨by have h := HST.out; rw [if_neg ql] at h; exact h⟩⟩
          case measure =>
            rw [HWK.out]
            show x.length - (k + 1) < x.length - k
            omega
        ·by_cases k3 : kd = 3
         ·subst k3
          rw [show zeB m 3 = wrap64 (m - 1) from rfl] at HST
          by_cases hm : a2 < wrap64 (m - 1)
          ·have d4 : decide (a2 < wrap64 (m - 1)) = true := decide_eq_true hm
           gi_wp2
           exact ⟨by have h := HST.out; rw [if_pos hm] at h; exact h.symm,Below.refl _ _⟩
          ·have d4 : decide (a2 < wrap64 (m - 1)) = false := decide_eq_false hm
           gi_wp2
           go_roundw
           case rel => exact ⟨k + 1,wrap64 (m - 1),hkx,congrArg (Value.int .i64) HWK.out,rfl,trivial,⟨by have h := HST.out; rw [if_neg ql] at h; exact h⟩⟩
           case measure =>
            rw [HWK.out]
            show x.length - (k + 1) < x.length - k
            omega
         ·have e1 : (kd == 1) = false := beq_eq_false_iff_ne.mpr k1
          have e3 : (kd == 3) = false := beq_eq_false_iff_ne.mpr k3
          rw [show zeB m kd = m from by unfold zeB; rw [if_neg k1,if_neg k3]] at HST
          by_cases hm : a2 < m
          ·have d4 : decide (a2 < m) = true := decide_eq_true hm
           gi_wp2
           exact ⟨by have h := HST.out; rw [if_pos hm] at h; exact h.symm,Below.refl _ _⟩
          ·have d4 : decide (a2 < m) = false := decide_eq_false hm
           gi_wp2
           go_roundw
           case rel => exact ⟨k + 1,m,hkx,congrArg (Value.int .i64) HWK.out,rfl,trivial,⟨by have h := HST.out; rw [if_neg ql] at h; exact h⟩⟩
           case measure =>
            rw [HWK.out]
            show x.length - (k + 1) < x.length - k
            omega
       ·have c0 : decide ((k : Int) < (x.length : Int)) = false := decide_eq_false ql
        have c0' : decide (k < x.length) = false := decide_eq_false hkx
        have hfit := HF.out
        rw [List.drop_eq_nil_of_le ql,zea] at hfit
        have HFT := za.mk hfit.symm
        clear hfit
        gi_wp2
        have hb6 := HBb.out.ziu (.slice A x.length c) (.int .i64 0)
        have hk6 := (zM.zbY (zM.refl wr (w.heap.size + 1 + 1 + 1) none) 0 (.slice A x.length c)).1
        have hk7 := (zM.zbY (zM.refl (wr.setCell ⟨w.heap.size + 1 + 1 + 1,0,none⟩ (.slice A x.length c)) (w.heap.size + 1 + 1 + 1 + 1) none) 0 (.int .i64 0)).1
        have hR6 := Kd.ziq HX.out.2.2.2 HBb.out.b6 qq 0 (.slice A x.length c)
        have hR7 := Kd.ziq hR6 (zav (p := ⟨w.heap.size + 1 + 1 + 1,0,none⟩) HBb.out.b7 qG (.slice A x.length c)) qq 0 (.int .i64 0)
        refine ⟨HFT.out,⟨_,hb6,hR7⟩,Nat.le_trans hk6 hk7,fun q hq _ => ?_⟩
        have hq7 := HB2.out
        have hlt := zR hq7.b7
        rw [Below.heap_setCell _ ⟨w.heap.size + 1 + 1 + 1 + 1,0,none⟩ _ q qG,Below.heap_setCell _ ⟨w.heap.size + 1 + 1 + 1,0,none⟩ _ q qG]
     case done =>
      intro W3 hb3 hk3 hf
      have h := H.out
      rw [hf] at h
      dsimp only at h
      simp only [Option.some.injEq,Prod.mk.injEq] at h
      obtain ⟨rfl,rfl⟩ := h
      have HB3 := za.mk (HB2.out.next hb3)
      have HK3 := za.mk hk3
      clear hb3 hk3 hf hgn
      have h6 := HB3.out.c6
      have f6 := HB3.out.f6
      have h7 := HB3.out.c7
      have f7 := HB3.out.f7
      go_wp2_with fail
      refine noGoto_ret ?_
      have hB4 := HB3.out.ziu (.slice none 0 0) (.int .i64 11)
      have hne : ∀ g : Nat, ∀ cs t,W3.heap[g]? = some (.cells cs t (0,0)) → W2.heap.size ≠ g := fun g cs t hg e => by subst e; rw [HK3.out] at hg; cases hg
      have hk4 : ((W3.setCell ⟨w.heap.size + 1 + 1 + 1,0,none⟩ (.slice none 0 0)).setCell ⟨w.heap.size + 1 + 1 + 1 + 1,0,none⟩ (.int .i64 11)).heap[W2.heap.size]? = some (.deferred (some [])) := by
       rw [Below.heap_setCell _ ⟨w.heap.size + 1 + 1 + 1 + 1,0,none⟩ _ _ (hne _ _ _ HB3.out.b7),Below.heap_setCell _ ⟨w.heap.size + 1 + 1 + 1,0,none⟩ _ _ (hne _ _ _ HB3.out.b6)]
       exact HK3.out
      refine zgJ hB4 _ hk4 HB2.out.below.size _ qA qA ?_
      exact ⟨_,rfl,Kd.zbG _ _ _ _ _,(hB4.zh5 hk4 HB2.out.below.size _).below⟩
     case stop =>
      intro W3 x hf hx hk3
      have h := H.out
      rw [hf] at h
      dsimp only at h
      simp only [Option.some.injEq,Prod.mk.injEq] at h
      obtain ⟨rfl,rfl⟩ := h
      obtain ⟨v,hB3,hR3⟩ := hx.ex
      refine noGoto_ret ?_
      refine zgJ hB3 _ hk3 HB2.out.below.size _ qA qA ?_
      exact ⟨_,rfl,zi3 hR3 hk3 _,(hB3.zh5 hk3 HB2.out.below.size _).below⟩
 ·have h := H.out
  rw [if_neg he0] at h
  cases h
  have he1 : (r2 != 0) = true := bne_iff_ne.mpr he0
  go_wp2_with fail
  refine wp_scope_straight ?_
  go_wp2_with (go_at_call 67; rw [HW.out]; refine (zat.calls 1000 A0 c0 l0 A1 c1 l1 r2 W (Kd.zU HR.out.1 HB.out.below) HR.out.2.1 (Kd.zU HR.out.2.2.1 HB.out.below) HR.out.2.2.2.1 HR.out.2.2.2.2.2.2).mono ?_; rintro e_ W1 ⟨rfl,hb⟩; have HB1 := za.mk (HB.out.next hb); have h3 := HB1.out.c3; have h4 := HB1.out.c4; have h5 := HB1.out.c5; have h6 := HB1.out.c6; have f6 := HB1.out.f6; have h7 := HB1.out.c7; have f7 := HB1.out.f7; clear hb)
  refine noGoto_ret ?_
  refine zfQ HB1.out (.slice none 0 0) (.int .i64 r2) _ qA qA ?_
  exact ⟨_,rfl,Kd.zbG _ _ _ _ _,zdV HB1.out _ _⟩
end Go.Proofs.Ytgmbbfmbimofoaa.P
