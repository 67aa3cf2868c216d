-- MERGED BY A PROGRAM out of texts of this claim: hand work, and what a (turned) print of the kit has written for it
import Derived.Outline
import Derived.Test.YtgmbbfmbimofoaaMk7
namespace Go.Proofs.Ytgmbbfmbimofoaa.P
open Go.RowKit Go.Proofs.YtgmbbfmbimofoaaW.PrintWords Go.Proofs.YtgmbbfmbimofoaaW.PrintLast Go.Proofs.YtgmbbfmbimofoaaW.PrintMore
attribute [local go_sem] zH zI zP zO zC zB zJ zK
set_option linter.unusedVariables false
set_option linter.unusedSimpArgs false
set_option maxHeartbeats 2000000 in
set_option maxRecDepth 100000 in
theorem zcF (first : LV) (Ao : Option Addr) (co : Nat) (others : List LV) (w : World) (hfirst : kL.K w first [.int .i64 first.2.1,first.1]) (hoth : Kd.C kL w Ao others.length others) (hco : others.length ≤ co)
  (hb0 : first.2.2.length < 1000) (hbs : ∀ x ∈ others,x.2.2.length < 1000) (hlen : others.length < 1000) :
  Calls Try.prog 97 #[.func (.func 98) #[] #[], .agg #[.int .i64 first.2.1,first.1], .slice Ao others.length co] w fun e w' => e = .returned (.agg #[.int .i64 (zaY first others).2.1,(zaY first others).1]) ∧ Below w.heap.size w w' := by
 have hu134 := Try.underlying134
 have HF := za.mk hfirst
 have HO := za.mk hoth
 have HB := za.mk hbs
 have HB0 := za.mk hb0
 clear hfirst hoth hbs hb0
 go_enter Try.func97,Try.ntmps97
 go_wp2_with fail
 obtain ⟨W,hW⟩ : ∃ W_,(w.alloc (Obj.cells #[Value.int IntKind.i64 first.2.1,first.1] 134)).alloc (Obj.cells #[Value.int IntKind.i64 0,Value.slice none 0 0] 134) = W_ := ⟨_,rfl⟩
 rw [hW]
 have hb4 : W.heap[w.heap.size]? = some (.cells #[Value.int IntKind.i64 first.2.1,first.1] 134 (0,0)) := by rw [← hW]; exact zi (heap_alloc_new w _) _
 have hb6 : W.heap[w.heap.size + 1]? = some (.cells #[Value.int IntKind.i64 0,Value.slice none 0 0] 134 (0,0)) := by
  rw [← hW]
  have h := heap_alloc_new (w.alloc (Obj.cells #[Value.int IntKind.i64 first.2.1,first.1] 134)) (Obj.cells #[Value.int IntKind.i64 0,Value.slice none 0 0] 134)
  have e : (w.alloc (Obj.cells #[Value.int IntKind.i64 first.2.1,first.1] 134)).heap.size = w.heap.size + 1 := Array.size_push _
  rw [e] at h
  exact h
 have hbw : Below w.heap.size w W := by rw [← hW]; exact ze (ze (Below.refl _ _) _) _
 have H0 := za.mk (And.intro hb4 (And.intro hb6 hbw))
 clear hb4 hb6 hbw hW
 go_loopw [8,11,12,13,14,15,16,17,18,19,20,21] (fun v8 v11 v12 v13 v14 v15 v16 v17 v18 v19 v20 v21 wr => ∃ (k : Nat) (f : LV),k ≤ others.length ∧ v11 = .int .i64 k ∧ za (zaY f (others.drop k) = zaY first others ∧ f.2.2.length < 1000 ∧ kL.K w f [.int .i64 f.2.1,f.1] ∧
  wr.heap[w.heap.size]? = some (.cells #[Value.int IntKind.i64 f.2.1,f.1] 134 (0,0)) ∧ wr.heap[w.heap.size + 1]? = some (.cells #[Value.int IntKind.i64 0,Value.slice none 0 0] 134 (0,0)) ∧ Below w.heap.size w wr)) (fun v8 v11 v12 v13 v14 v15 v16 v17 v18 v19 v20 v21 wr => others.length - (intOf v11).toNat)
 case atStart => exact ⟨0,first,by omega,rfl,⟨rfl,HB0.out,HF.out,H0.out.1,H0.out.2.1,H0.out.2.2⟩⟩
 case round =>
  obtain ⟨k,f,hk,rfl,HA⟩ := hrel
  clear H0
  by_cases hkl : k < others.length
  ·have c0 : decide ((k : Int) < (others.length : Int)) = true := decide_eq_true ql
   have p1 : 0 ≤ (k : Int) := by omega
   have q1 : (k : Int) < (others.length : Int) := by omega
   have hxs := zil HO.out (k : Int) p1 q1
   obtain ⟨ad,ead,hx0,hx1,hjunk⟩ := zhU (Kd.zU HO.out HA.out.2.2.2.2.2) (k : Int) p1 q1
   clear hjunk
   cases ead
   rw [Int.toNat_natCast] at hx0 hx1 hxs
   obtain ⟨x,hxk⟩ : ∃ x_,others.getD k zL = x_ := ⟨_,rfl⟩
   rw [hxk] at hx0 hx1 hxs
   obtain ⟨B,cB,hxv,hxc,hxr⟩ := hxs
   obtain ⟨co_,v_,l_⟩ := x
   dsimp only at hx0 hx1 hxv hxc hxr
   subst hxv
   replace p1 := eq_true p1
   replace q1 := eq_true q1
   have hb4 := HA.out.2.2.2.1
   have hA0 : ∀ o,(wr.alloc o).cell? ⟨w.heap.size,0,none⟩ = some (.int .i64 f.2.1) := fun o => zf (zi hb4 o) 0
   have hA1 : ∀ o,(wr.alloc o).cell? ⟨w.heap.size,1,none⟩ = some f.1 := fun o => zf (zi hb4 o) 1
   obtain ⟨cf,vf,lf⟩ := f
   obtain ⟨_,Bf,ccf,hvf,hcf,hrf⟩ := HA.out.2.2.1
   dsimp only at hA0 hA1 hvf hcf hrf hb4
   subst hvf
   clear hb4
   have hlx : l_.length < 1000 := by
    have := HB.out (_,v_,l_) (by rw [← hxk,List.getD_eq_getElem?_getD,List.getElem?_eq_getElem hkl]; exact List.getElem_mem _)
    exact this
   have hlf : lf.length < 1000 := HA.out.2.1
   have HX := za.mk (And.intro hlx (And.intro hxc (And.intro hlf (And.intro hcf (And.intro hxr hrf)))))
   clear hlx hxc hlf hcf hxr hrf
   have hb4 : wr.heap[w.heap.size]? = some (.cells #[Value.int IntKind.i64 vf, .slice Bf lf.length ccf] 134 (0,0)) := HA.out.2.2.2.1
   have hstep : zaY (if cmpL (v_,l_) (vf,lf) < 0 then ((.slice B l_.length cB,v_,l_) : LV) else (.slice Bf lf.length ccf,vf,lf)) (others.drop (k + 1)) = zaY first others := by
    have h := HA.out.1
    rw [List.drop_eq_getElem_cons hkl,zaY] at h
    have e : others[k] = (.slice B l_.length cB,v_,l_) := by rw [← hxk,List.getD_eq_getElem?_getD,List.getElem?_eq_getElem hkl]; rfl
    rw [e] at h
    exact h
   have HS := za.mk (And.intro hb4 hstep)
   clear hb4 hstep
   have eln : ((k + 1 : Nat) : Int) = (k : Int) + 1 := by omega
   have HE := za.mk eln
   clear eln
   by_cases hc : cmpL (v_,l_) (vf,lf) < 0
   ·have c1 : decide (cmpL (v_,l_) (vf,lf) < 0) = true := decide_eq_true hc
    go_wp2_with (go_at_call 98; refine (zdb _ _ _ _ _ _ _ _ _ (by have := HX.out.1; omega) (Kd.zU HX.out.2.2.2.2.1 (ze HA.out.2.2.2.2.2 _)) HX.out.2.1 (Kd.zU HX.out.2.2.2.2.2 (ze HA.out.2.2.2.2.2 _)) HX.out.2.2.2.1).mono ?_; rintro e w' ⟨rfl,hbw⟩; have hn := zu (heap_alloc_new wr (.cells #[Value.int IntKind.i64 v_, .slice B l_.length cB] 134)) hbw; have hn0 : w'.cell? ⟨wr.heap.size,0,none⟩ = some (.int .i64 v_) := zf hn 0; have hn1 : w'.cell? ⟨wr.heap.size,1,none⟩ = some (.slice B l_.length cB) := zf hn 1; have h4 := zu (zi HS.out.1 (.cells #[Value.int IntKind.i64 v_, .slice B l_.length cB] 134)) hbw; have hz : w'.frozen? ⟨w.heap.size,0,none⟩ = false := zn h4 0; have hy0 : w'.cell? ⟨w.heap.size,0,none⟩ = some (.int .i64 vf) := zf h4 0; have hz1 : (w'.setCell ⟨w.heap.size,0,none⟩ (.int .i64 v_)).frozen? ⟨w.heap.size,1,none⟩ = false := zn (zar h4 0 _) 1; have hy1 : (w'.setCell ⟨w.heap.size,0,none⟩ (.int .i64 v_)).cell? ⟨w.heap.size,1,none⟩ = some (.slice Bf lf.length ccf) := zf (zar h4 0 _) 1; have h6 := zu (zi HA.out.2.2.2.2.1 (.cells #[Value.int IntKind.i64 v_, .slice B l_.length cB] 134)) hbw; have hB2 := zo (ze HA.out.2.2.2.2.2 (.cells #[Value.int IntKind.i64 v_, .slice B l_.length cB] 134)) hbw; have HH := za.mk (And.intro h4 (And.intro h6 hB2)); clear hn h4 h6 hB2 hbw)
    go_roundw
    case rel =>
     refine ⟨k + 1,(.slice B l_.length cB,v_,l_),by omega,by go_num,⟨?_,HX.out.1,⟨rfl,B,cB,rfl,HX.out.2.1,?_⟩,?_,?_,?_⟩⟩
     ·have h := HS.out.2
      rw [if_pos hc] at h
      exact h
     ·exact HX.out.2.2.2.2.1
     ·exact zV (zV HH.out.1 0 _ rfl) 1 _ rfl
     ·exact zav (zav HH.out.2.1 qC _) qC _
     ·exact zh (zh HH.out.2.2 (Nat.le_refl _)) (Nat.le_refl _)
    case measure => simp [intOf]; omega
   ·have c1 : decide (cmpL (v_,l_) (vf,lf) < 0) = false := decide_eq_false hc
    go_wp2_with (go_at_call 98; refine (zdb _ _ _ _ _ _ _ _ _ (by have := HX.out.1; omega) (Kd.zU HX.out.2.2.2.2.1 (ze HA.out.2.2.2.2.2 _)) HX.out.2.1 (Kd.zU HX.out.2.2.2.2.2 (ze HA.out.2.2.2.2.2 _)) HX.out.2.2.2.1).mono ?_; rintro e w' ⟨rfl,hbw⟩; have hn := zu (heap_alloc_new wr (.cells #[Value.int IntKind.i64 v_, .slice B l_.length cB] 134)) hbw; have hn0 : w'.cell? ⟨wr.heap.size,0,none⟩ = some (.int .i64 v_) := zf hn 0; have hn1 : w'.cell? ⟨wr.heap.size,1,none⟩ = some (.slice B l_.length cB) := zf hn 1; have h4 := zu (zi HS.out.1 (.cells #[Value.int IntKind.i64 v_, .slice B l_.length cB] 134)) hbw; have hz : w'.frozen? ⟨w.heap.size,0,none⟩ = false := zn h4 0; have hy0 : w'.cell? ⟨w.heap.size,0,none⟩ = some (.int .i64 vf) := zf h4 0; have hz1 : (w'.setCell ⟨w.heap.size,0,none⟩ (.int .i64 v_)).frozen? ⟨w.heap.size,1,none⟩ = false := zn (zar h4 0 _) 1; have hy1 : (w'.setCell ⟨w.heap.size,0,none⟩ (.int .i64 v_)).cell? ⟨w.heap.size,1,none⟩ = some (.slice Bf lf.length ccf) := zf (zar h4 0 _) 1; have h6 := zu (zi HA.out.2.2.2.2.1 (.cells #[Value.int IntKind.i64 v_, .slice B l_.length cB] 134)) hbw; have hB2 := zo (ze HA.out.2.2.2.2.2 (.cells #[Value.int IntKind.i64 v_, .slice B l_.length cB] 134)) hbw; have HH := za.mk (And.intro h4 (And.intro h6 hB2)); clear hn h4 h6 hB2 hbw)
    go_roundw
    case rel =>
     refine ⟨k + 1,(.slice Bf lf.length ccf,vf,lf),by omega,by go_num,⟨?_,HX.out.2.2.1,HA.out.2.2.1,HH.out.1,HH.out.2.1,HH.out.2.2⟩⟩
     have h := HS.out.2
     rw [if_neg (Int.not_lt.mpr ql)] at h
     exact h
    case measure => simp [intOf]; omega
  ·have c0 : decide ((k : Int) < (others.length : Int)) = false := decide_eq_false ql
   have hfin : f = zaY first others := by
    have h := HA.out.1
    rw [List.drop_eq_nil_of_le ql] at h
    exact h
   rw [← hfin]
   obtain ⟨cf,vf,lf⟩ := f
   obtain ⟨_,Bf,ccf,hvf,_,_⟩ := HA.out.2.2.1
   dsimp only at hvf
   subst hvf
   have hb4 := HA.out.2.2.2.1
   have hb6 := HA.out.2.2.2.2.1
   have hA0 : wr.cell? ⟨w.heap.size,0,none⟩ = some (.int .i64 vf) := zf hb4 0
   have hA1 : wr.cell? ⟨w.heap.size,1,none⟩ = some (Value.slice Bf lf.length ccf) := zf hb4 1
   have hC0 : wr.cell? ⟨w.heap.size + 1,0,none⟩ = some (.int .i64 0) := zf hb6 0
   have hF0 : wr.frozen? ⟨w.heap.size + 1,0,none⟩ = false := zn hb6 0
   have hC1 : (wr.setCell ⟨w.heap.size + 1,0,none⟩ (.int .i64 vf)).cell? ⟨w.heap.size + 1,1,none⟩ = some (.slice none 0 0) := zf (zar hb6 0 _) 1
   have hF1 : (wr.setCell ⟨w.heap.size + 1,0,none⟩ (.int .i64 vf)).frozen? ⟨w.heap.size + 1,1,none⟩ = false := zn (zar hb6 0 _) 1
   have hb7 : ((wr.setCell ⟨w.heap.size + 1,0,none⟩ (.int .i64 vf)).setCell ⟨w.heap.size + 1,1,none⟩ (Value.slice Bf lf.length ccf)).heap[w.heap.size + 1]? = some (.cells #[.int .i64 vf,(Value.slice Bf lf.length ccf)] 134 (0,0)) := zV (zV hb6 0 _ rfl) 1 _ rfl
   have hD0 : ((wr.setCell ⟨w.heap.size + 1,0,none⟩ (.int .i64 vf)).setCell ⟨w.heap.size + 1,1,none⟩ (Value.slice Bf lf.length ccf)).cell? ⟨w.heap.size + 1,0,none⟩ = some (.int .i64 vf) := zf hb7 0
   have hD1 : ((wr.setCell ⟨w.heap.size + 1,0,none⟩ (.int .i64 vf)).setCell ⟨w.heap.size + 1,1,none⟩ (Value.slice Bf lf.length ccf)).cell? ⟨w.heap.size + 1,1,none⟩ = some (Value.slice Bf lf.length ccf) := zf hb7 1
   have H7 := za.mk hb7
   clear hb4 hb6 hb7
   go_wp2_with fail
   refine bodyPost_ret (results_cell_row rfl _ _ (w.heap.size + 1) 134 #[.int .i64 vf, .slice Bf lf.length ccf] (0,0) _ rfl H7.out Try.underlying134 rfl qg) rfl ?_
   exact ⟨by rw [← hfin],zh (zh HA.out.2.2.2.2.2 ql) ql⟩
end Go.Proofs.Ytgmbbfmbimofoaa.P
