-- MERGED BY A PROGRAM out of texts of this claim: hand work, and what a (turned) print of the kit has written for it
import Derived.Deep.AppendLies
import Derived.Deep.RegionHeld3
import Derived.Deep.DrawnRows
import Derived.Deep.RegionLaw
import Derived.Test.YtgmbbfmbimofoaaMk19
namespace Go.Proofs.Ytgmbbfmbimofoaa.P
open Go.RowKit Go.Proofs.YtgmbbfmbimofoaaW.PrintWords Go.Proofs.YtgmbbfmbimofoaaW.PrintLast Go.Proofs.YtgmbbfmbimofoaaW.PrintMore
attribute [local go_sem] zH zI zP zO zC zB zJ zK
set_option linter.unusedVariables false
set_option linter.unusedSimpArgs false
structure zaS (w0 w : World) (B M : Nat) (v : Value) (lines : List ByteArray) (nx : Int) : Prop where
 blk : w.heap[B]? = some (.cells #[v, .int .i64 nx] 146 (0,0))
 row : w.ownsRow w0.heap.size 9 1 v lines.length (encs Value.string lines)
 map : w.heap[M]? = some zdM
 below : Below w0.heap.size w0 w
 ge : w0.heap.size ≤ B
 geM : w0.heap.size ≤ M
theorem zaS.alloc {w0 w : World} {B M : Nat} {v : Value} {lines : List ByteArray} {nx : Int} (h : zaS w0 w B M v lines nx) (o : Obj) : zaS w0 (w.alloc o) B M v lines nx :=
 ⟨zi h.blk o,h.row.alloc o,zi h.map o,h.below.alloc h.below.size o,h.ge,h.geM⟩
theorem zaS.drew {w0 w : World} {B M : Nat} {v : Value} {lines : List ByteArray} {nx : Int} (h : zaS w0 w B M v lines nx) : zaS w0 w.drew B M v lines nx :=
 ⟨h.blk,h.row,h.map,zdo h.below,h.ge,h.geM⟩
theorem zaS.c0 {w0 w : World} {B M : Nat} {v : Value} {lines : List ByteArray} {nx : Int} (h : zaS w0 w B M v lines nx) : w.cell? ⟨B,0,none⟩ = some v := (zf h.blk 0).trans rfl
theorem zaS.c1 {w0 w : World} {B M : Nat} {v : Value} {lines : List ByteArray} {nx : Int} (h : zaS w0 w B M v lines nx) : w.cell? ⟨B,1,none⟩ = some (.int .i64 nx) := (zf h.blk 1).trans rfl
theorem zaS.f0 {w0 w : World} {B M : Nat} {v : Value} {lines : List ByteArray} {nx : Int} (h : zaS w0 w B M v lines nx) : w.frozen? ⟨B,0,none⟩ = false := zn h.blk 0
theorem zaS.f1 {w0 w : World} {B M : Nat} {v : Value} {lines : List ByteArray} {nx : Int} (h : zaS w0 w B M v lines nx) : w.frozen? ⟨B,1,none⟩ = false := zn h.blk 1
theorem zaS.ne {w0 w : World} {B M : Nat} {v : Value} {lines : List ByteArray} {nx : Int} (h : zaS w0 w B M v lines nx) : v.ownBlock ≠ some B := fun e => by
 obtain ⟨cells,hc⟩ := zb6 h.row B e
 rw [h.blk] at hc
 injection hc with hc
 injection hc with _ ht
 exact absurd ht qq
theorem zaS.neM {w0 w : World} {B M : Nat} {v : Value} {lines : List ByteArray} {nx : Int} (h : zaS w0 w B M v lines nx) : v.ownBlock ≠ some M := fun e => by
 obtain ⟨cells,hc⟩ := zb6 h.row M e
 rw [h.map] at hc
 injection hc with hc
 cases hc
theorem zaS.set1 {w0 w : World} {B M : Nat} {v : Value} {lines : List ByteArray} {nx : Int} (h : zaS w0 w B M v lines nx) (x : Int) : zaS w0 (w.setCell ⟨B,1,none⟩ (.int .i64 x)) B M v lines x := by
 refine ⟨by simpa using zar h.blk 1 (.int .i64 x),?_,?_,h.below.setCell (p := ⟨B,1,none⟩) h.ge _,h.ge,h.geM⟩
 ·exact zeS h.row (Ne.symm h.ne) _
 ·have hne : M ≠ B := fun e => by
   have := h.map
   rw [e,h.blk] at this
   injection this with this
   cases this
  rw [Below.heap_setCell w ⟨B,1,none⟩ (.int .i64 x) M hne]
  exact h.map
theorem zaS.put {w0 W w1 : World} {B M : Nat} {v v1 : Value} {lines ys : List ByteArray} {nx : Int} (h : zaS w0 W B M v lines nx)
  (ho : w1.ownsRow w0.heap.size 9 1 v1 (lines ++ ys).length (encs Value.string (lines ++ ys))) (hg : W.grownBy w1 v.ownBlock)
  (hat : v1.ownBlock = v.ownBlock ∨ ∃ b,v1.ownBlock = some b ∧ W.heap.size ≤ b) : zaS w0 (w1.setCell ⟨B,0,none⟩ v1) B M v1 (lines ++ ys) nx := by
 have hBl : B < W.heap.size := zR h.blk
 have hMl : M < W.heap.size := zR h.map
 have hb1 : w1.heap[B]? = some (.cells #[v, .int .i64 nx] 146 (0,0)) := (hg.block B hBl (Ne.symm h.ne)).trans h.blk
 have hm1 : w1.heap[M]? = some zdM := (hg.block M hMl (Ne.symm h.neM)).trans h.map
 have hne : some B ≠ v1.ownBlock := by
  rcases hat with e | ⟨b,e,hb⟩
  ·rw [e]; exact Ne.symm h.ne
  ·rw [e]; intro e2; injection e2 with e2; omega
 have hMB : M ≠ B := fun e => by
  have := h.map
  rw [e,h.blk] at this
  injection this with this
  cases this
 have hbel : Below w0.heap.size w0 w1 := h.below.grown hg h.below.size (zb9 h.row)
 refine ⟨by simpa using zar hb1 0 v1,zeS ho hne _,?_,hbel.setCell (p := ⟨B,0,none⟩) h.ge _,h.ge,h.geM⟩
 rw [Below.heap_setCell w1 ⟨B,0,none⟩ v1 M hMB]
 exact hm1
theorem zhP (w : World) (B : Nat) (x y : Value) : (w.setCell ⟨B,1,none⟩ x).setCell ⟨B,0,none⟩ y = (w.setCell ⟨B,0,none⟩ y).setCell ⟨B,1,none⟩ x := by
 have h : ((w.setCell ⟨B,1,none⟩ x).setCell ⟨B,0,none⟩ y).heap = ((w.setCell ⟨B,0,none⟩ y).setCell ⟨B,1,none⟩ x).heap := by
  apply Array.ext_getElem?
  intro i
  simp only [World.setCell,Array.getElem?_modify]
  by_cases hi : B = i
  ·simp only [hi,if_true,Option.map_map]
   cases w.heap[i]? with
   | none => rfl
   | some o =>
    cases o <;> try rfl
    simp [Array.setIfInBounds_comm]
  ·simp [hi]
 show ({ w with heap := _ } : World) = { w with heap := _ }
 exact congrArg (fun h => ({ w with heap := h } : World)) h
theorem zey (w : World) (o1 o2 : Obj) : ((w.alloc o1).alloc o2).heap[w.heap.size + 1]? = some o2 := by
 have := heap_alloc_new (w.alloc o1) o2
 simpa only [World.size_alloc] using this
set_option maxHeartbeats 8000000 in
set_option maxRecDepth 100000 in
theorem zgq (w0 w : World) (B M : Nat) (v : Value) (lines : List ByteArray) (nx kd ln : Int) (s : ByteArray) (hP : zaS w0 w B M v lines nx) (hlen : lines.length ≤ 1000) :
  Calls Try.prog 122 #[.pointer (some ⟨B,0,none⟩), .agg #[.int .i64 kd, .int .i64 ln, .string s]] w fun e w' => e = .returned (.tuple #[]) ∧ ∃ v',zaS w0 w' B M v' (lines ++ [s]) nx := by
 obtain ⟨i0,hi0,hz0,hz1,hz2⟩ := info_parts zef
 have h0 := hP.c0
 have hf := hP.f0
 have hf1 : ∀ o,(w.alloc o).frozen? ⟨B,0,none⟩ = false := fun o => (hP.alloc o).f0
 have hf2 : ∀ o o',((w.alloc o).alloc o').frozen? ⟨B,0,none⟩ = false := fun o o' => ((hP.alloc o).alloc o').f0
 have hrow := hP.row
 have hbs : w0.heap.size ≤ w.heap.size := hP.below.size
 have hBl : B < w.heap.size := zR hP.blk
 have hne := hP.ne
 have hnew : v.ownBlock ≠ some w.heap.size := fun e => by have := zcS hP.row _ e; omega
 have HP := za.mk hP
 clear hP
 go_enter Try.func122,Try.ntmps122
 go_wp2_with fail
 go_region_law
  ((refine step_append_lies _ qA _ _ _ qA w0.heap.size 9 i0 _ 1 16 Try.underlying22 hi0 hz0 hz1 hz2 rfl ql v lines.length (encs Value.string lines) qA (((hrow.alloc _).alloc _).drew) ⟨w.heap.size + 1,0,none⟩ 1 1 [.string s] qA qA (World.news_of_block (cs := #[.string s]) (t := 9) (fr := (0,0)) (zey w _ _)) (by simp [Value.oneCell']) ql (by unfold maxLen; omega) ql qI (w.heap.size + 2) qC ?_; intro gg cap w1 hown1 hgrow hat hlt; have hc1 : w1.cell? ⟨B,0,none⟩ = some v := (hgrow.cell_far _ qI (Ne.symm hne)).trans ((HP.out.alloc _).alloc _).drew.c0; have hf1' : w1.frozen? ⟨B,0,none⟩ = false := (hgrow.frozen_far _ qI (Ne.symm hne)).trans ((HP.out.alloc _).alloc _).drew.f0))
 all_goals
  go_end0
  exact ⟨rfl,_,zaS.put ((HP.out.alloc _).alloc _).drew (ys := [s]) (by simpa [encs] using hown1) hgrow (hat.imp (fun e => by rw [e]; rfl) (fun e => ⟨gg,rfl,by simp; omega⟩))⟩
set_option maxHeartbeats 8000000 in
set_option maxRecDepth 100000 in
theorem zfY (w0 w : World) (B M : Nat) (v : Value) (lines : List ByteArray) (nx kd ln : Int) (s : ByteArray) (hP : zaS w0 w B M v lines nx) (hl0 : 0 ≤ ln) (hl1 : ln ≤ 1000) :
  Calls Try.prog 124 #[.pointer (some ⟨B,0,none⟩), .agg #[.int .i64 kd, .int .i64 ln, .string s]] w fun e w' => e = .returned (.tuple #[]) ∧ ∃ v',zaS w0 w' B M v' lines (ln + 1) := by
 have h1 := hP.c1
 have hf := hP.f1
 have h1a : ∀ o,(w.alloc o).cell? ⟨B,1,none⟩ = some (.int .i64 nx) := fun o => (hP.alloc o).c1
 have hf1 : ∀ o,(w.alloc o).frozen? ⟨B,1,none⟩ = false := fun o => (hP.alloc o).f1
 have hBl : B < w.heap.size := zR hP.blk
 have HP := za.mk hP
 clear hP
 go_enter Try.func124,Try.ntmps124
 go_wp2
 go_end0
 exact ⟨rfl,_,(HP.out.set1 _).alloc _⟩
set_option maxHeartbeats 8000000 in
set_option maxRecDepth 100000 in
theorem zgu (w0 w : World) (B M : Nat) (v : Value) (lines : List ByteArray) (nx kd ln : Int) (s : ByteArray) (hP : zaS w0 w B M v lines nx) (hlen : lines.length ≤ 1000) (hl0 : 0 ≤ ln) (hl1 : ln ≤ 1000) :
  Calls Try.prog 123 #[.pointer (some ⟨B,0,none⟩), .agg #[.int .i64 kd, .int .i64 ln, .string s]] w fun e w' => e = .returned (.tuple #[]) ∧ ∃ v',zaS w0 w' B M v' (lines ++ [s]) (ln + 1) := by
 obtain ⟨i0,hi0,hz0,hz1,hz2⟩ := info_parts zef
 have h0 := hP.c0
 have hf := hP.f0
 have hf1 : ∀ o,(w.alloc o).frozen? ⟨B,0,none⟩ = false := fun o => (hP.alloc o).f0
 have hf2 : ∀ o o',((w.alloc o).alloc o').frozen? ⟨B,0,none⟩ = false := fun o o' => ((hP.alloc o).alloc o').f0
 have hrow := hP.row
 have hbs : w0.heap.size ≤ w.heap.size := hP.below.size
 have hBl : B < w.heap.size := zR hP.blk
 have hne := hP.ne
 have hnew : v.ownBlock ≠ some w.heap.size := fun e => by have := zcS hP.row _ e; omega
 have hbx : za (∀ o,((w.alloc (.cells #[.int .i64 kd, .int .i64 ln, .string s] 63)).alloc o).cell? ⟨w.heap.size,1,none⟩ = some (.int .i64 ln)) := ⟨fun o => (zf (zi (heap_alloc_new w _) o) 1).trans rfl⟩
 have hwr : IntKind.i64.wrap (ln + 1) = ln + 1 := IntWalk.i64_in _ ql
 have HP := za.mk hP
 clear hP
 go_enter Try.func123,Try.ntmps123
 go_wp2_with fail
 go_region_law
  ((refine step_append_lies _ qA _ _ _ qA w0.heap.size 9 i0 _ 1 16 Try.underlying22 hi0 hz0 hz1 hz2 rfl ql v lines.length (encs Value.string lines) qA (((hrow.alloc _).alloc _).drew) ⟨w.heap.size + 1,0,none⟩ 1 1 [.string s] qA qA (World.news_of_block (cs := #[.string s]) (t := 9) (fr := (0,0)) (zey w _ _)) (by simp [Value.oneCell']) ql (by unfold maxLen; omega) ql qI (w.heap.size + 2) qC ?_; intro gg cap w1 hown1 hgrow hat hlt; have hc1 : w1.cell? ⟨B,0,none⟩ = some v := (hgrow.cell_far _ qI (Ne.symm hne)).trans ((HP.out.alloc _).alloc _).drew.c0; have hf1' : w1.frozen? ⟨B,0,none⟩ = false := (hgrow.frozen_far _ qI (Ne.symm hne)).trans ((HP.out.alloc _).alloc _).drew.f0; have hc2 : w1.cell? ⟨B,1,none⟩ = some (.int .i64 nx) := (hgrow.cell_far _ qI (Ne.symm hne)).trans ((HP.out.alloc _).alloc _).drew.c1; have hf2' : w1.frozen? ⟨B,1,none⟩ = false := (hgrow.frozen_far _ qI (Ne.symm hne)).trans ((HP.out.alloc _).alloc _).drew.f1; have hc3 : w1.cell? ⟨w.heap.size,1,none⟩ = some (.int .i64 ln) := (hgrow.cell_far _ qI (Ne.symm hnew)).trans (hbx.out _)))
 all_goals
  go_end0
  first
   | exact ⟨rfl,_,(zaS.put ((HP.out.alloc _).alloc _).drew (ys := [s]) (by simpa [encs] using hown1) hgrow (hat.imp (fun e => by rw [e]; rfl) (fun e => ⟨gg,rfl,by simp; omega⟩))).set1 _⟩
   | (rw [zhP]; exact ⟨rfl,_,(zaS.put ((HP.out.alloc _).alloc _).drew (ys := [s]) (by simpa [encs] using hown1) hgrow (hat.imp (fun e => by rw [e]; rfl) (fun e => ⟨gg,rfl,by simp; omega⟩))).set1 _⟩)
end Go.Proofs.Ytgmbbfmbimofoaa.P
