-- MERGED BY A PROGRAM out of texts of this claim: hand work, and what a (turned) print of the kit has written for it
import Derived.Laws.EntriesVeiled
import Derived.RangeFuncLeaves
import Derived.Test.YtgmbbfmbimofoaaMk16
namespace Go.Proofs.Ytgmbbfmbimofoaa.P
open Go.RowKit Go.Proofs.YtgmbbfmbimofoaaW.PrintWords Go.Proofs.YtgmbbfmbimofoaaW.PrintLast Go.Proofs.YtgmbbfmbimofoaaW.PrintMore
attribute [local go_sem] zH zI zP zO zC zB zJ zK
set_option linter.unusedVariables false
set_option linter.unusedSimpArgs false
set_option maxHeartbeats 2000000 in
theorem zgt (n : Nat) (w : World) : Calls Try.prog 68 #[.int .i64 n] w fun e w' => e = .returned (.func (.func 99) #[] #[.pointer (some ⟨w.heap.size,0,none⟩)]) ∧ w' = w.alloc (.cells #[.int .i64 n] 3) := by
 go_enter Try.func68,Try.ntmps68
 go_wp2_with fail
 go_ret
 exact ⟨rfl,rfl⟩
set_option maxHeartbeats 2000000 in
set_option maxRecDepth 100000 in
theorem zfO (fits : List Int → Bool) (J : World → Prop) (Jx : List Int → World → Prop) (n gn lp base : Nat) (hJ : Stable J) (hY : zfr fits J Jx n base lp) (hn : n < 1000) (hbase : base ≤ lp) (W : World) (hj : J W) (hlp : ∃ r,W.heap[lp]? = some (.loop r)) (hgn : W.heap[gn]? = some (.cells #[.int .i64 n] 3 (0,0))) :
  Calls Try.prog 99 #[.func (.yield lp) #[] #[], .pointer (some ⟨gn,0,none⟩)] W fun e W' => (∃ v,e = .returned v) ∧ (((zcM n n []).find? fits = none ∧ J W' ∧ ∃ r,W'.heap[lp]? = some (.loop r)) ∨ ∃ x,(zcM n n []).find? fits = some x ∧ Jx x W') := by
 have hlt : lp < W.heap.size := by
  obtain ⟨r,hr⟩ := hlp
  exact zR hr
 have hb : Below W.heap.size W ((W.alloc (.cells #[.func (.yield lp) #[] #[]] 59)).alloc (.cells #[.func (.func 100) #[] #[.pointer (some ⟨gn,0,none⟩), .pointer (some ⟨W.heap.size,0,none⟩), .pointer (some ⟨W.heap.size + 1,0,none⟩)]] 59)) := ze (ze (Below.refl _ _) _) _
 have hG : GSt J n gn W.heap.size (W.heap.size + 1) lp ((W.alloc (.cells #[.func (.yield lp) #[] #[]] 59)).alloc (.cells #[.func (.func 100) #[] #[.pointer (some ⟨gn,0,none⟩), .pointer (some ⟨W.heap.size,0,none⟩), .pointer (some ⟨W.heap.size + 1,0,none⟩)]] 59)) := by
  obtain ⟨r,hr⟩ := hlp
  have e1 : (W.alloc (.cells #[.func (.yield lp) #[] #[]] 59)).heap.size = W.heap.size + 1 := Array.size_push _
  have h9 := heap_alloc_new (W.alloc (.cells #[.func (.yield lp) #[] #[]] 59)) (.cells #[.func (.func 100) #[] #[.pointer (some ⟨gn,0,none⟩), .pointer (some ⟨W.heap.size,0,none⟩), .pointer (some ⟨W.heap.size + 1,0,none⟩)]] 59)
  rw [e1] at h9
  exact ⟨hJ _ _ hj hb,by omega,⟨r,zu hr hb⟩,zu hgn hb,zi (heap_alloc_new W _) _,h9⟩
 have hgrow := zg6 fits J Jx n gn W.heap.size (W.heap.size + 1) lp base hJ hY hn hbase n [] (.slice none 0 0) _ qC qC hG (Kd.zbG _ _ _ _ _)
 have HG := za.mk hgrow
 clear hgrow hG hb hj hlp hgn
 go_enter Try.func99,Try.ntmps99
 go_wp2_with fail
 refine HG.out.mono ?_
 rintro e W' (⟨rfl,hf,hG2,_⟩ | ⟨rfl,x,hx,hJ2,_⟩)
 ·have HH := za.mk (And.intro hf (And.intro hG2.j hG2.lpr))
  clear hf hG2
  go_wp2_with fail
  go_end0
  exact ⟨⟨_,rfl⟩, .inl HH.out⟩
 ·have HH := za.mk (And.intro hx hJ2)
  clear hx hJ2
  go_wp2_with fail
  go_end0
  exact ⟨⟨_,rfl⟩, .inr ⟨x,HH.out⟩⟩
def zco (w1 : World) (a : Act) (ps : Array Tmp) (assign body : Code) (fn : FuncId) (st : LoopState) (pe : Option Code) : Loop := { state := st,pending := pe,fn,tmps := a.tmps,params := ps,assign,body,defers := w1.heap.size }
theorem zcK {w1 W : World} (h : Below w1.heap.size w1 W) {k : Nat} (hk : w1.heap.size ≤ k) (o : Obj) : Below w1.heap.size w1 (W.putObj k o) :=
 ⟨h.os,h.tape,h.output,by rw [World.putObj_size]; exact h.size,fun i hi => by rw [World.putObj_heap_other ql]; exact h.block i hi⟩
def ziN (fits : List Int → Bool) (X : List Int → World → Prop) (w1 : World) (x : List Int) (Wb : World) : Exit → Act → World → Prop
 | .normal,_,W' => fits x = false ∧ Below Wb.heap.size Wb W'
 | .ret,_,W' => fits x = true ∧ X x W' ∧ Wb.heap.size ≤ W'.heap.size ∧ ∀ k,w1.heap.size ≤ k → k < Wb.heap.size → W'.heap[k]? = Wb.heap[k]?
 | _,_,_ => False
theorem zfT {g : Operand} {ps : Array Tmp} {assign body : Code} {Q : Exit → Act → World → Prop} {a : Act} {w1 : World} (fits : List Int → Bool) (X : List Int → World → Prop) (n gn base : Nat) (hn : n < 1000)
  (hg : a.eval g = .func (.func 99) #[] #[.pointer (some ⟨gn,0,none⟩)]) (hgn : w1.heap[gn]? = some (.cells #[.int .i64 n] 3 (0,0))) (hbase : base ≤ w1.heap.size) (hps : ps.size = 1)
  (hX : ∀ x W r o,X x W → W.heap[w1.heap.size + 1]? = some (.loop r) → X x (W.putObj (w1.heap.size + 1) o)) (a1 : Value → Act)
  (hassign : ∀ (v : Value) (W : World) (K : Act → World → Prop),K (a1 v) W → assign.wpIn (Fence.wide.inRound (w1.heap.size + 1)) 9 Try.prog (Exit.then K (fun _ _ _ => False)) { tmps := (ps.zip #[v]).foldl (fun t (p,v) => t.setIfInBounds p v) a.tmps,defers := [] } W)
  (hbody : ∀ (v : Value) (x : List Int) (Wb : World),Below w1.heap.size w1 Wb → x.length = n → (∀ i ∈ x,0 ≤ i ∧ i < (n : Int)) → Kd.R (Kd.int .i64) 3 Wb base (fun _ => True) v x → body.wpIn (Fence.wide.inRound (w1.heap.size + 1)) 9 Try.prog (ziN fits X w1 x Wb) (a1 v) Wb)
  (hdone : ∀ W,Below w1.heap.size w1 W → W.heap[w1.heap.size]? = some (.deferred (some [])) → (zcM n n []).find? fits = none → Q .normal { a with defers := { target := .collected w1.heap.size,args := #[] } :: a.defers } W)
  (hstop : ∀ W x,(zcM n n []).find? fits = some x → X x W → W.heap[w1.heap.size]? = some (.deferred (some [])) → Q .ret { a with defers := { target := .collected w1.heap.size,args := #[] } :: a.defers } W) :
  (Code.rangeFunc g ps assign body).wp Try.prog Q a w1 := by
 refine (wpIn_wide (n := 9)).1 ?_
 refine wpIn_rangeFunc ?_
 intro fn _
 obtain ⟨W1,hW1⟩ : ∃ W1,(w1.alloc (.deferred (some []))).alloc (.loop (zco w1 a ps assign body fn .ready none)) = W1 := ⟨_,rfl⟩
 have e1 : (w1.alloc (.deferred (some []))).heap.size = w1.heap.size + 1 := Array.size_push _
 have hL1 : W1.heap[w1.heap.size + 1]? = some (.loop (zco w1 a ps assign body fn .ready none)) := by
  rw [← hW1]
  have := heap_alloc_new (w1.alloc (.deferred (some []))) (.loop (zco w1 a ps assign body fn .ready none))
  rwa [e1] at this
 have hK1 : W1.heap[w1.heap.size]? = some (.deferred (some [])) := by
  rw [← hW1]; exact zi (heap_alloc_new w1 _) _
 have hb1 : Below w1.heap.size w1 W1 := by rw [← hW1]; exact ze (ze (Below.refl _ _) _) _
 refine ⟨w1.heap.size + 1,[{ target := .collected w1.heap.size,args := #[] }],W1, { target := .fn (.func 99) #[.pointer (some ⟨gn,0,none⟩)],args := #[.func (.yield (w1.heap.size + 1)) #[] #[]] },W1,99,
  #[.func (.yield (w1.heap.size + 1)) #[] #[], .pointer (some ⟨gn,0,none⟩)],W1,?_,?_,fun _ _ => trivial,?_,fun h => (by cases h),?_⟩
 ·rw [← hW1]; exact run_enterLoop_outer _ _ _ _ _
 ·simp only [resolve,hg]
  simp [go_sem]
 ·simp [invoke]
 ·refine callsIn_wide.2 ?_
  refine (zfO fits (fun W => Below w1.heap.size w1 W ∧ W.heap[w1.heap.size + 1]? = some (.loop (zco w1 a ps assign body fn .ready none)) ∧ W.heap[w1.heap.size]? = some (.deferred (some [])))
   (fun x W => X x W ∧ W.heap[w1.heap.size + 1]? = some (.loop (zco w1 a ps assign body fn .done (some .ret))) ∧ W.heap[w1.heap.size]? = some (.deferred (some []))) n gn (w1.heap.size + 1) base ?_ ?_ hn ql W1 ⟨hb1,hL1,hK1⟩ ⟨_,hL1⟩ (zu hgn hb1)).mono ?_
  ·intro W W2 h hb
   exact ⟨zo h.1 hb,zu h.2.1 hb,zu h.2.2 hb⟩
  ·rintro W v x ⟨hbw,hl,hk⟩ _ hxn hxin hR
   have hy := run_yield (P := Try.prog) (args := #[v]) hl (by simp [zco,hps])
   have hlt : w1.heap.size + 1 < W.heap.size := zR hl
   have hl2 : (W.putObj (w1.heap.size + 1) (.loop { zco w1 a ps assign body fn .ready none with state := .busy })).heap[w1.heap.size + 1]? = some (.loop { zco w1 a ps assign body fn .ready none with state := .busy }) := World.putObj_heap_same hlt
   have hk2 : (W.putObj (w1.heap.size + 1) (.loop { zco w1 a ps assign body fn .ready none with state := .busy })).heap[w1.heap.size]? = some (.deferred (some [])) := (World.putObj_heap_other ql).trans hk
   have hR2 : Kd.R (Kd.int .i64) 3 (W.putObj (w1.heap.size + 1) (.loop { zco w1 a ps assign body fn .ready none with state := .busy })) base (fun _ => True) v x := zdf ⟨_,hl⟩ ⟨by rw [World.putObj_size]; exact Nat.le_refl _,fun k _ hk _ => World.putObj_heap_other hk⟩ hR
   refine ⟨fn,_,assign,body,hy,zeN (m := 9) (roundIn_of_wpIn trivial (hassign v W _ ⟨_,run_beginRound hl rfl,?_⟩))⟩
   refine wpIn_mono (hbody v x _ (zcK hbw ql _) hxn hxin hR2) ?_
   have fin : ∀ (jump : Option Code) (W3 : World),W3.heap[w1.heap.size + 1]? = some (.loop { zco w1 a ps assign body fn .ready none with state := .busy }) →
     (Instr.endRound (w1.heap.size + 1) jump).run Try.prog W3 = .ok (.bool jump.isNone) (W3.putObj (w1.heap.size + 1) (.loop (zco w1 a ps assign body fn (if jump.isNone then .ready else .done) jump))) := fun jump W3 h => run_endRound (P := Try.prog) jump h
   rintro e a3 W3 hp
   cases e with
   | normal =>
    obtain ⟨hf,hb⟩ := hp
    have hl3 := zu hl2 hb
    have hk3 := zu hk2 hb
    refine ⟨_,_,fin none W3 hl3, .inl ⟨rfl,hf,⟨zcK (zo (zcK hbw ql _) hb) ql _,World.putObj_heap_same (zR hl3),(World.putObj_heap_other ql).trans hk3⟩,⟨_,World.putObj_heap_same (zR hl3)⟩,?_⟩⟩
    have hsz := hb.size
    rw [World.putObj_size] at hsz
    refine ⟨by rw [World.putObj_size]; exact hsz,fun k hk4 hne _ => ?_⟩
    rw [World.putObj_heap_other hne,hb.block k (by rw [World.putObj_size]; exact hk4),World.putObj_heap_other hne]
   | ret =>
    obtain ⟨hf,hx,hsz,hkeep⟩ := hp
    rw [World.putObj_size] at hsz hkeep
    have hl3 := (hkeep (w1.heap.size + 1) ql hlt).trans hl2
    have hk3 := (hkeep w1.heap.size ql ql).trans hk2
    refine ⟨_,_,fin (some .ret) W3 hl3, .inr ⟨rfl,hf,⟨hX _ _ _ _ hx hl3,World.putObj_heap_same (zR hl3),(World.putObj_heap_other ql).trans hk3⟩,?_⟩⟩
    refine ⟨by rw [World.putObj_size]; exact hsz,fun k hk4 hk5 => ?_⟩
    rw [World.putObj_heap_other ql,hkeep k ql hk5,World.putObj_heap_other ql]
   | exit id => exact hp.elim
   | goto t => exact hp.elim
   | panic ch => exact hp.elim
   | outgrown => exact hp.elim
  ·rintro e W2 ⟨⟨v,rfl⟩,(⟨hf,⟨hb,hl,hk⟩,_⟩ | ⟨x,hf,hx,hl,hk⟩)⟩
   ·refine ⟨none,_,run_endLoop (P := Try.prog) hl (by simp [zco]),hdone _ (zcK hb ql _) ((World.putObj_heap_other ql).trans hk) hf⟩
   ·refine ⟨some .ret,_,run_endLoop (P := Try.prog) hl (by simp [zco]),?_⟩
    refine wpIn_wide.2 ?_
    exact wp_ret (hstop _ x hf (hX _ _ _ _ hx hl) ((World.putObj_heap_other ql).trans hk))
end Go.Proofs.Ytgmbbfmbimofoaa.P
