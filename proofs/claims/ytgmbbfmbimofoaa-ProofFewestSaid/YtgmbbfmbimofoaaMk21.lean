-- MERGED BY A PROGRAM out of texts of this claim: hand work, and what a (turned) print of the kit has written for it
import Derived.StillTailTactics
import Derived.Test.YtgmbbfmbimofoaaMk20
import Derived.Test.YtgmbbfmbimofoaaMk5
import Derived.Test.YtgmbbfmbimofoaaMk6
namespace Go.Proofs.Ytgmbbfmbimofoaa.P
open Go.RowKit Go.Proofs.YtgmbbfmbimofoaaW.PrintWords Go.Proofs.YtgmbbfmbimofoaaW.PrintLast Go.Proofs.YtgmbbfmbimofoaaW.PrintMore
attribute [local go_sem] zH zI zP zO zC zB zJ zK
set_option linter.unusedVariables false
set_option linter.unusedSimpArgs false
def zbF (n : Nat) (m : S63) : Bool := 1 ≤ m.f0 && m.f0 ≤ 3 && 0 ≤ m.f1 && (m.f1 < (n : Int) || (m.f0 == 1 && m.f1 == (n : Int)))
def zb3 (page : List ByteArray) (st : List ByteArray × Nat) (m : S63) : List ByteArray × Nat :=
 let nx := max st.2 m.f1.toNat
 let ls := st.1 ++ (page.take nx).drop st.2
 if m.f0 = 1 then (ls ++ [m.f2],nx) else if m.f0 = 2 then (ls ++ [m.f2],m.f1.toNat + 1) else (ls,m.f1.toNat + 1)
def zgZ (page : List ByteArray) (ms : List S63) : List ByteArray :=
 (ms.foldl (zb3 page) ([],0)).1 ++ page.drop (ms.foldl (zb3 page) ([],0)).2
def zbU.f (l0 : List ByteArray) (l1 : List S63) : Option (List ByteArray) :=
 if l0.length ≤ 20 ∧ l1.length ≤ 20 ∧ l1.all (zbF l0.length) = true then some (zgZ l0 l1) else none
theorem zhX (page : List ByteArray) (st : List ByteArray × Nat) (m : S63) (hm : zbF page.length m = true) (h : st.2 ≤ page.length) : (zb3 page st m).2 ≤ page.length := by
 simp only [zbF,Bool.and_eq_true,Bool.or_eq_true,decide_eq_true_eq,beq_iff_eq] at hm
 unfold zb3
 dsimp only
 split
 ·simp only []; omega
 ·split <;> simp only [] <;> omega
theorem zhi (page : List ByteArray) (st : List ByteArray × Nat) (m : S63) : (zb3 page st m).1.length ≤ st.1.length + page.length + 1 := by
 unfold zb3
 dsimp only
 have : ((page.take (max st.2 m.f1.toNat)).drop st.2).length ≤ page.length := by simp only [List.length_drop,List.length_take]; omega
 split
 ·simp only [List.length_append,List.length_singleton]; omega
 ·split <;> simp only [List.length_append,List.length_singleton] <;> omega
theorem zis (page : List ByteArray) : ∀ (ms : List S63) (st : List ByteArray × Nat),ms.all (zbF page.length) = true → st.2 ≤ page.length →
  (ms.foldl (zb3 page) st).2 ≤ page.length ∧ (ms.foldl (zb3 page) st).1.length ≤ st.1.length + ms.length * (page.length + 1)
 | [],st,_,h => ⟨h,by simp⟩
 | m :: ms,st,hm,h => by
  simp only [List.all_cons,Bool.and_eq_true] at hm
  have h1 := zhX page st m hm.1 h
  have h2 := zhi page st m
  obtain ⟨a,b⟩ := zis page ms (zb3 page st m) hm.2 h1
  refine ⟨a,Nat.le_trans b ?_⟩
  simp only [List.length_cons,Nat.add_mul,Nat.one_mul]
  omega
set_option maxHeartbeats 1000000 in
set_option maxRecDepth 100000 in
theorem zbU.calls (A0 : Option Addr) (c0 : Nat) (l0 : List ByteArray) (A1 : Option Addr) (c1 : Nat) (l1 : List S63) (r : List ByteArray) (w : World)
  (hr0 : Kd.C Kd.string w A0 l0.length l0) (hc0 : l0.length ≤ c0) (hr1 : Kd.C k63 w A1 l1.length l1) (hc1 : l1.length ≤ c1) (h : zbU.f l0 l1 = some r) :
  Calls Try.prog 79 #[.slice A0 l0.length c0, .slice A1 l1.length c1] w fun e w' => ∃ v0_ : Value,e = .returned (v0_) ∧ Kd.R Kd.string 9 w' w.heap.size (fun _ => True) v0_ r ∧ Below w.heap.size w w' := by
 unfold zbU.f at h
 split at h
 case isFalse => cases h
 rename_i hb
 obtain ⟨hn0,hn1,hall⟩ := hb
 obtain rfl := Option.some.inj h
 clear h
 go_enter Try.func79,Try.ntmps79
 go_wp2_with (go_at_call 105; refine (zgA _).mono ?_; rintro e w' ⟨rfl,rfl⟩)
 have hP0 : zaS w ((w.alloc (.cells #[.slice none 0 0, .int .i64 0] 146)).alloc zdM) w.heap.size (w.heap.size + 1) (.slice none 0 0) [] 0 :=
  ⟨zi (heap_alloc_new w _) _,zgI _ _ _ _,zey w _ _,((Below.refl _ _).alloc (Nat.le_refl _) _).alloc qC _,Nat.le_refl _,by omega⟩
 obtain ⟨W0,hW0⟩ : ∃ W0,(w.alloc (.cells #[.slice none 0 0, .int .i64 0] 146)).alloc zdM = W0 := ⟨_,rfl⟩
 rw [hW0] at hP0 ⊢
 clear hW0
 have HP0 := za.mk hP0
 clear hP0
 have HR0 := za.mk hr0
 have HR1 := za.mk hr1
 have HALL := za.mk hall
 clear hr0 hr1 hall
 go_loopw [14] (fun i wr => ∃ k : Nat,k ≤ l1.length ∧ i = .int .i64 k ∧ za (∃ v,zaS w wr w.heap.size (w.heap.size + 1) v ((l1.take k).foldl (zb3 l0) ([],0)).1 (((l1.take k).foldl (zb3 l0) ([],0)).2 : Nat))) (fun i _ => l1.length - (intOf i).toNat)
 case atStart => exact ⟨0,Nat.zero_le _,rfl,⟨_,HP0.out⟩⟩
 case round =>
  obtain ⟨k,hk,rfl,⟨v,hP⟩⟩ := hrel
  clear HP0
  obtain ⟨st,hst⟩ : ∃ st,(l1.take k).foldl (zb3 l0) ([],0) = st := ⟨_,rfl⟩
  have hfold := zis l0 (l1.take k) ([],0) (by rw [List.all_eq_true]; exact fun x hx => List.all_eq_true.1 HALL.out x (List.mem_of_mem_take hx)) (Nat.zero_le _)
  rw [hst] at hP hfold
  have hlen : st.1.length ≤ 500 := by
   have h2 := hfold.2
   have h3 : (l1.take k).length * (l0.length + 1) ≤ 20 * 21 := Nat.mul_le_mul (by rw [List.length_take]; omega) ql
   simp only [List.length_nil] at h2
   omega
  have hnx : st.2 ≤ l0.length := hfold.1
  clear hfold
  by_cases hlt : k < l1.length
  ·have c2b0 : decide ((k : Int) < (l1.length : Int)) = true := decide_eq_true ql
   have hW := za.mk (Kd.zU HR1.out hP.below)
   have p2 : (0 : Int) ≤ (k : Int) := by omega
   have q2 : (k : Int) < (l1.length : Int) := by omega
   obtain ⟨ad,e2,hx0,hx1,hx2⟩ := zbb hW.out (k : Int) p2 q2
   have em : zk l1 (k : Int) = l1[k] := by simp [zk,List.getD_eq_getElem?_getD,hlt]
   have hfit : zbF l0.length l1[k] = true := List.all_eq_true.1 HALL.out _ (List.getElem_mem hlt)
   have hnext : (l1.take (k + 1)).foldl (zb3 l0) ([],0) = zb3 l0 st l1[k] := by
    rw [List.take_succ_eq_append_getElem hlt,List.foldl_append,hst]; rfl
   rw [em,Int.toNat_natCast] at hx0 hx1 hx2
   obtain ⟨⟨kd,ln,s⟩,hm⟩ : ∃ m : S63,l1[k] = m := ⟨_,rfl⟩
   rw [hm] at hx0 hx1 hx2 hfit hnext
   dsimp only at hx0 hx1 hx2
   clear hm em
   cases e2
   have hc0 := hP.c0
   have hc1 := hP.c1
   have hf0 := hP.f0
   have hf1 := hP.f1
   have HP := za.mk hP
   have HN := za.mk hnext
   have HST := za.mk hst
   have HF := za.mk hfit
   clear hP hnext hst hfit
   go_wp2_with fail
   have hPb := HP.out.alloc (.cells #[.int .i64 kd, .int .i64 ln, .string s] 63)
   have hbx : (wr.alloc (.cells #[.int .i64 kd, .int .i64 ln, .string s] 63)).heap[wr.heap.size]? = some (.cells #[.int .i64 kd, .int .i64 ln, .string s] 63 (0,0)) := heap_alloc_new wr _
   obtain ⟨Wb,hWb⟩ : ∃ Wb,wr.alloc (.cells #[.int .i64 kd, .int .i64 ln, .string s] 63) = Wb := ⟨_,rfl⟩
   obtain ⟨bx,hbxe⟩ : ∃ b,wr.heap.size = b := ⟨_,rfl⟩
   rw [hWb] at hPb hbx ⊢
   rw [hbxe] at hbx ⊢
   clear hWb hbxe hx0 hx1 hx2 hc0 hc1 hf0 hf1
   have hc0 := hPb.c0
   have hc1 := hPb.c1
   have hf0 := hPb.f0
   have hf1 := hPb.f1
   have hx1 : Wb.cell? ⟨bx,1,none⟩ = some (.int .i64 ln) := (zf hbx 1).trans rfl
   have HPb := za.mk hPb
   have Hbx := za.mk hbx
   clear hPb hbx
   obtain ⟨i0,hi0,hz0,hz1,hz2⟩ := info_parts zef
   have hln : 0 ≤ ln ∧ ln ≤ (l0.length : Int) ∧ 1 ≤ kd ∧ kd ≤ 3 := by
    have := HF.out
    simp only [zbF,Bool.and_eq_true,Bool.or_eq_true,decide_eq_true_eq,beq_iff_eq] at this
    omega
   obtain ⟨mxv,hmx⟩ : ∃ z : Nat,max st.2 ln.toNat = z := ⟨_,rfl⟩
   have hmx' : (if (st.2 : Int) < ln then ln else (st.2 : Int)) = (mxv : Int) := by split <;> omega
   obtain ⟨As,hsl,hread,hcap⟩ := zfU (P := Try.prog) Value.string ByteArray.empty 22 9 .i64 .i64 Try.underlying22 hi0 hz1 A0 c0 l0 (st.2 : Int) (mxv : Int) ql ql ql (by assumption)
   refine zal (fun W' => W'.cell? ⟨w.heap.size,0,none⟩ = some v ∧ W'.cell? ⟨w.heap.size,1,none⟩ = some (.int .i64 st.2) ∧ W'.cell? ⟨bx,1,none⟩ = some (.int .i64 ln)) [21] qg ?_
   have HS : Wb.drew.cell? ⟨w.heap.size,0,none⟩ = some v ∧ Wb.drew.cell? ⟨w.heap.size,1,none⟩ = some (.int .i64 st.2) ∧ Wb.drew.cell? ⟨bx,1,none⟩ = some (.int .i64 ln) := ⟨hc0,hc1,hx1⟩
   refine tk 0 ?_
   (try simp only [pu0,pu1,pu2,pu3,pu4])
   refine tk 1 ?_
   (try simp only [pu0,pu1,pu2,pu3,pu4])
   refine tk 2 ?_
   (try simp only [pu0,pu1,pu2,pu3,pu4])
   refine tk 3 ?_
   (try simp only [pu0,pu1,pu2,pu3,pu4])
   refine tk 4 ?_
   (try simp only [pu0,pu1,pu2,pu3,pu4])
   refine tk 5 ?_
   (try simp only [pu0,pu1,pu2,pu3,pu4])
   refine tk 6 ?_
   (try simp only [pu0,pu1,pu2,pu3,pu4])
   refine tk 7 ?_
   (try simp only [pu0,pu1,pu2,pu3,pu4])
   refine tk 8 ?_
   (try simp only [pu0,pu1,pu2,pu3,pu4])
   refine tk 9 ?_
   (try simp only [pu0,pu1,pu2,pu3,pu4])
   refine tk 10 ?_
   (try simp only [pu0,pu1,pu2,pu3,pu4])
   refine tk 11 ?_
   (try simp only [pu0,pu1,pu2,pu3,pu4])
   refine tk 12 ?_
   (try simp only [pu0,pu1,pu2,pu3,pu4])
   refine tk 13 ?_
   (try simp only [pu0,pu1,pu2,pu3,pu4])
   refine tk 14 ?_
   (try simp only [pu0,pu1,pu2,pu3,pu4])
   refine tk 15 ?_
   (try simp only [pu0,pu1,pu2,pu3,pu4])
   refine tk 16 ?_
   (try simp only [pu0,pu1,pu2,pu3,pu4])
   refine tk 17 ?_
   (try simp only [pu0,pu1,pu2,pu3,pu4])
   refine on1 18 fun K hK => ?_
   have HRs : Kd.string.C Wb.drew As ((l0.take ((mxv : Int)).toNat).drop ((st.2 : Int)).toNat).length ((l0.take ((mxv : Int)).toNat).drop ((st.2 : Int)).toNat) := Kd.zee (hread Wb.drew (Kd.zcQ (d := ByteArray.empty) (Kd.zU HR0.out HPb.out.below.drew)))
   rw [Int.toNat_natCast,Int.toNat_natCast] at HRs
   have hlenR : ((l0.take mxv).drop st.2).length = min mxv l0.length - st.2 := by rw [List.length_drop,List.length_take]
   rw [hlenR] at HRs
   refine Kd.za7 Kd.string (w0 := w) w.heap.size qA _ _ 22 9 _ 16 qA Try.underlying22 zef rfl qq qq v st.1 ((l0.take mxv).drop st.2) As (min mxv l0.length - st.2) _ (fun _ => True) (fun _ => False) qA qA (Kd.zdy HPb.out.drew.row (fun _ _ => trivial)) HRs (fun _ _ h => h) (fun _ h => h.elim) (fun _ _ => trivial) HPb.out.drew.below HPb.out.drew.below.size ql ?_
   intro v1 w1 hown1 hb1 hg1 hat1
   have hown2 := Kd.zel hown1
   have HPut := za.mk (zaS.put HPb.out.drew hown2 hg1 hat1)
   have hne1 := HPb.out.drew.ne
   have hBl1 : w.heap.size < Wb.drew.heap.size := zR HPb.out.drew.blk
   have hbxl : bx < Wb.drew.heap.size := zR Hbx.out
   have hbxne : v.ownBlock ≠ some bx := fun e => by
    obtain ⟨cells,hc⟩ := zb6 HPb.out.row bx e
    rw [Hbx.out] at hc
    injection hc with hc
    injection hc with _ ht
    exact absurd ht qq
   have Hbx1 := za.mk (zaD (zm Hbx.out) hg1 (Ne.symm hbxne))
   have hc0' : w1.cell? ⟨w.heap.size,0,none⟩ = some v := (hg1.cell_far _ hBl1 (Ne.symm hne1)).trans hc0
   have hf0' : w1.frozen? ⟨w.heap.size,0,none⟩ = false := (hg1.frozen_far _ hBl1 (Ne.symm hne1)).trans hf0
   refine hK.out _ _ (fun _ => ⟨hc0',(hg1.cell_far _ hBl1 (Ne.symm hne1)).trans hc1,(zf Hbx1.out 1).trans rfl⟩) ?_
   clear hK K HS
   have HS : w1.cell? ⟨w.heap.size,0,none⟩ = some v ∧ w1.cell? ⟨w.heap.size,1,none⟩ = some (.int .i64 st.2) ∧ w1.cell? ⟨bx,1,none⟩ = some (.int .i64 ln) := ⟨hc0',(hg1.cell_far _ hBl1 (Ne.symm hne1)).trans hc1,(zf Hbx1.out 1).trans rfl⟩
   (try simp only [pu0,pu1,pu2,pu3,pu4])
   refine on1 19 fun K hK => ?_
   go_simp
   refine hK.out _ _ (fun _ => HS) ?_
   clear hK K
   (try simp only [pu0,pu1,pu2,pu3,pu4])
   refine tk 20 ?_
   (try simp only [pu0,pu1,pu2,pu3,pu4])
   refine on1 21 fun K hK => ?_
   clear HS
   obtain ⟨Av,cv,rfl⟩ := zhw hown2
   go_simp
   refine hK.out _ _ (fun h => absurd h qq) ?_
   clear hK K
   refine zac qg ?_ _
   have hneB : bx ≠ w.heap.size := fun e => by
    have h1 := Hbx1.out
    rw [e] at h1
    have h2 := HPb.out.blk
    have h3 := Hbx.out
    rw [e,h2] at h3
    injection h3 with h3
    injection h3 with _ ht
    exact absurd ht qq
   have hbx2 := zav Hbx1.out (p := ⟨w.heap.size,0,none⟩) hneB (.slice Av (st.1.length + (min mxv l0.length - st.2)) cv)
   have hlsl : (st.1 ++ (l0.take mxv).drop st.2).length = st.1.length + (min mxv l0.length - st.2) := by rw [List.length_append,hlenR]
   rw [hlsl] at HPut
   obtain ⟨Wc,hWc⟩ : ∃ Wc,w1.setCell ⟨w.heap.size,0,none⟩ (.slice Av (st.1.length + (min mxv l0.length - st.2)) cv) = Wc := ⟨_,rfl⟩
   rw [hWc] at HPut hbx2 ⊢
   clear hWc hc0' hf0' Hbx1 hown1 hb1 hown2 hg1 hat1 hc0 hc1 hf0 hf1 hx1 hne1 hBl1 hbxl hbxne Hbx HPb HRs
   have hc1 := HPut.out.c1
   have hf1 := HPut.out.f1
   have hx1 : Wc.cell? ⟨bx,1,none⟩ = some (.int .i64 ln) := (zf hbx2 1).trans rfl
   have Hbx2 := za.mk hbx2
   clear hbx2
   go_wp2_with fail
   refine zal (fun W' => W'.cell? ⟨w.heap.size,1,none⟩ = some (.int .i64 st.2) ∧ W'.cell? ⟨bx,1,none⟩ = some (.int .i64 ln)) [10] qg ?_
   have HS : Wc.drew.cell? ⟨w.heap.size,1,none⟩ = some (.int .i64 st.2) ∧ Wc.drew.cell? ⟨bx,1,none⟩ = some (.int .i64 ln) := ⟨hc1,hx1⟩
   refine tk 0 ?_
   (try simp only [pu0,pu1,pu2,pu3,pu4])
   refine tk 1 ?_
   (try simp only [pu0,pu1,pu2,pu3,pu4])
   refine tk 2 ?_
   (try simp only [pu0,pu1,pu2,pu3,pu4])
   refine tk 3 ?_
   (try simp only [pu0,pu1,pu2,pu3,pu4])
   refine tk 4 ?_
   (try simp only [pu0,pu1,pu2,pu3,pu4])
   refine tk 5 ?_
   (try simp only [pu0,pu1,pu2,pu3,pu4])
   refine tk 6 ?_
   (try simp only [pu0,pu1,pu2,pu3,pu4])
   refine tk 7 ?_
   (try simp only [pu0,pu1,pu2,pu3,pu4])
   refine on1 8 fun K hK => ?_
   go_simp
   refine hK.out _ _ (fun _ => HS) ?_
   clear hK K
   (try simp only [pu0,pu1,pu2,pu3,pu4])
   refine tk 9 ?_
   (try simp only [pu0,pu1,pu2,pu3,pu4])
   refine on1 10 fun K hK => ?_
   clear HS
   go_simp
   refine hK.out _ _ (fun h => absurd h qq) ?_
   clear hK K
   refine zac qg ?_ _
   have HPd := za.mk (HPut.out.set1 (mxv : Int)).drew
   have hbx3 : ((Wc.setCell ⟨w.heap.size,1,none⟩ (.int .i64 (mxv : Int))).drew).heap[bx]? = _ := zav Hbx2.out (p := ⟨w.heap.size,1,none⟩) hneB (.int .i64 (mxv : Int))
   obtain ⟨Wd,hWd⟩ : ∃ Wd,(Wc.setCell ⟨w.heap.size,1,none⟩ (.int .i64 (mxv : Int))).drew = Wd := ⟨_,rfl⟩
   rw [hWd] at HPd hbx3 ⊢
   clear hWd hc1 hf1 hx1 Hbx2 HPut
   have hk0 : Wd.cell? ⟨bx,0,none⟩ = some (.int .i64 kd) := (zf hbx3 0).trans rfl
   have hk1 : Wd.cell? ⟨bx,1,none⟩ = some (.int .i64 ln) := (zf hbx3 1).trans rfl
   have hk2 : Wd.cell? ⟨bx,2,none⟩ = some (.string s) := (zf hbx3 2).trans rfl
   clear hbx3
   have hl1000 : (st.1 ++ (l0.take mxv).drop st.2).length ≤ 1000 := by rw [hlsl]; omega
   have hstep : za (zb3 l0 st ⟨kd,ln,s⟩ = if kd = 1 then ((st.1 ++ (l0.take mxv).drop st.2) ++ [s],mxv) else if kd = 2 then ((st.1 ++ (l0.take mxv).drop st.2) ++ [s],ln.toNat + 1) else (st.1 ++ (l0.take mxv).drop st.2,ln.toNat + 1)) := ⟨by unfold zb3; dsimp only; rw [hmx]⟩
   have hlk : ∀ (g : Nat),zdM = zdM → kd = 1 ∧ g = 122 ∨ kd = 2 ∧ g = 123 ∨ kd = 3 ∧ g = 124 → (Instr.lookup 147 (.map (some (w.heap.size + 1))) (.int .i64 kd) false).run Try.prog Wd = .ok (.func (.func g) #[] #[]) Wd := by
    rintro g - (⟨rfl,rfl⟩ | ⟨rfl,rfl⟩ | ⟨rfl,rfl⟩)
    ·exact zcX (i := 0) false Try.underlying147 HPd.out.map (fun b => MapKept.run_checkKey Try.underlying3 qA _ _) (MapKept.run_findKey Try.underlying3 qA)
    ·exact zcX (i := 1) false Try.underlying147 HPd.out.map (fun b => MapKept.run_checkKey Try.underlying3 qA _ _) (MapKept.run_findKey Try.underlying3 qA)
    ·exact zcX (i := 2) false Try.underlying147 HPd.out.map (fun b => MapKept.run_checkKey Try.underlying3 qA _ _) (MapKept.run_findKey Try.underlying3 qA)
   have hln2 := hln.1
   have hln3 : ln ≤ 1000 := by omega
   have hkd : kd = 1 ∨ kd = 2 ∨ kd = 3 := by omega
   have eln : ((ln.toNat + 1 : Nat) : Int) = ln + 1 := by omega
   have HE := za.mk eln
   clear hln eln hmx hmx' hsl hread hcap hlenR hlsl hneB
   rcases hkd with rfl | rfl | rfl
   ·have hl := hlk 122 rfl (.inl ⟨rfl,rfl⟩)
    clear hlk
    go_wp2_with (go_at_call 122; refine (zgq w _ _ _ _ _ _ _ _ _ HPd.out hl1000).mono ?_; rintro e w' ⟨rfl,v',hP'⟩)
    go_roundw
    case rel => exact ⟨k + 1,by omega,by go_num,⟨v',by rw [HN.out,hstep.out,if_pos trivial]; exact hP'⟩⟩
    case measure => simp [intOf]; omega
   ·have hl := hlk 123 rfl (.inr (.inl ⟨rfl,rfl⟩))
    clear hlk
    go_wp2_with (go_at_call 123; refine (zgu w _ _ _ _ _ _ _ _ _ HPd.out hl1000 hln2 hln3).mono ?_; rintro e w' ⟨rfl,v',hP'⟩)
    go_roundw
    case rel => exact ⟨k + 1,by omega,by go_num,⟨v',by rw [HN.out,hstep.out,if_neg qq,if_pos trivial]; simp only [HE.out]; exact hP'⟩⟩
    case measure => simp [intOf]; omega
   ·have hl := hlk 124 rfl (.inr (.inr ⟨rfl,rfl⟩))
    clear hlk
    go_wp2_with (go_at_call 124; refine (zfY w _ _ _ _ _ _ _ _ _ HPd.out hln2 hln3).mono ?_; rintro e w' ⟨rfl,v',hP'⟩)
    go_roundw
    case rel => exact ⟨k + 1,by omega,by go_num,⟨v',by rw [HN.out,hstep.out,if_neg qq,if_neg qq]; simp only [HE.out]; exact hP'⟩⟩
    case measure => simp [intOf]; omega
  ·have c2b0 : decide ((k : Int) < (l1.length : Int)) = false := decide_eq_false ql
   have hkl : l1.take k = l1 := List.take_of_length_le ql
   have hfin : zgZ l0 l1 = st.1 ++ l0.drop st.2 := by rw [hkl] at hst; unfold zgZ; rw [hst]
   have hc0 := hP.c0
   have hc1 := hP.c1
   have HP := za.mk hP
   have HN := za.mk hfin
   obtain ⟨i0,hi0,hz0,hz1,hz2⟩ := info_parts zef
   obtain ⟨As,hsl,hread,hcap⟩ := zfN (P := Try.prog) Value.string ByteArray.empty 22 9 .i64 Try.underlying22 hi0 hz1 A0 c0 l0 (st.2 : Int) ql ql (by assumption)
   clear hP hfin hkl hst
   go_wp2_with fail
   refine zal (fun W' => W'.cell? ⟨w.heap.size,0,none⟩ = some v ∧ W'.cell? ⟨w.heap.size,1,none⟩ = some (.int .i64 st.2)) [] qg ?_
   have HS : wr.drew.cell? ⟨w.heap.size,0,none⟩ = some v ∧ wr.drew.cell? ⟨w.heap.size,1,none⟩ = some (.int .i64 st.2) := ⟨hc0,hc1⟩
   refine tk 0 ?_
   (try simp only [pu0,pu1,pu2,pu3,pu4])
   refine tk 1 ?_
   (try simp only [pu0,pu1,pu2,pu3,pu4])
   refine tk 2 ?_
   (try simp only [pu0,pu1,pu2,pu3,pu4])
   refine tk 3 ?_
   (try simp only [pu0,pu1,pu2,pu3,pu4])
   refine tk 4 ?_
   (try simp only [pu0,pu1,pu2,pu3,pu4])
   refine tk 5 ?_
   (try simp only [pu0,pu1,pu2,pu3,pu4])
   refine tk 6 ?_
   (try simp only [pu0,pu1,pu2,pu3,pu4])
   refine tk 7 ?_
   (try simp only [pu0,pu1,pu2,pu3,pu4])
   refine tk 8 ?_
   (try simp only [pu0,pu1,pu2,pu3,pu4])
   refine tk 9 ?_
   (try simp only [pu0,pu1,pu2,pu3,pu4])
   refine on1 10 fun K hK => ?_
   have HRs : Kd.string.C wr.drew As (l0.drop ((st.2 : Int)).toNat).length (l0.drop ((st.2 : Int)).toNat) := Kd.zee (hread wr.drew (Kd.zcQ (d := ByteArray.empty) (Kd.zU HR0.out HP.out.below.drew)))
   rw [Int.toNat_natCast] at HRs
   have hlenR : (l0.drop st.2).length = l0.length - st.2 := List.length_drop
   rw [hlenR] at HRs
   refine Kd.za7 Kd.string (w0 := w) w.heap.size qA _ _ 22 9 _ 16 qA Try.underlying22 zef rfl qq qq v st.1 (l0.drop st.2) As (l0.length - st.2) _ (fun _ => True) (fun _ => False) qA qA (Kd.zdy HP.out.drew.row (fun _ _ => trivial)) HRs (fun _ _ h => h) (fun _ h => h.elim) (fun _ _ => trivial) HP.out.drew.below HP.out.drew.below.size ql ?_
   intro v1 w1 hown1 hb1 hg1 hat1
   have hne1 := HP.out.drew.ne
   have hBl1 : w.heap.size < wr.drew.heap.size := zR HP.out.drew.blk
   have HS : w1.cell? ⟨w.heap.size,0,none⟩ = some v ∧ w1.cell? ⟨w.heap.size,1,none⟩ = some (.int .i64 st.2) := ⟨(hg1.cell_far _ hBl1 (Ne.symm hne1)).trans hc0,(hg1.cell_far _ hBl1 (Ne.symm hne1)).trans hc1⟩
   refine hK.out _ _ (fun _ => HS) ?_
   clear hK K
   (try simp only [pu0,pu1,pu2,pu3,pu4])
   refine tk 11 ?_
   (try simp only [pu0,pu1,pu2,pu3,pu4])
   refine zac qg ?_ _
   go_wp2
   go_ret
   exact ⟨v1,rfl,by rw [HN.out]; exact hown1,hb1⟩
def zci.f (k : Nat) (l0 : List ByteArray) (l1 : List (S63)) : Option (List ByteArray × Int) := (zat.f k l0 l1).bind fun t126 => (if t126 = 0 then ((zbU.f l0 l1).bind fun t127 => (if (t127.length : Int) > 6 then (some (([] : List ByteArray),6)) else (some (t127,0)))) else (some (([] : List ByteArray),t126)))
set_option maxHeartbeats 8000000 in
set_option maxRecDepth 100000 in
theorem zci.calls (k : Nat) (A0 : Option Addr) (c0 : Nat) (l0 : List ByteArray) (A1 : Option Addr) (c1 : Nat) (l1 : List (S63)) (r1 : List ByteArray) (r2 : Int) (w : World) (hr0 : Kd.C Kd.string w A0 l0.length l0) (hc0 : l0.length ≤ c0) (hr1 : Kd.C k63 w A1 l1.length l1) (hc1 : l1.length ≤ c1) (h : zci.f k l0 l1 = some (r1,r2)) :
  Calls Try.prog 40 #[.slice A0 l0.length c0, .slice A1 l1.length c1] w fun e w' => ∃ v0_ : Value,e = .returned (.tuple #[v0_, .int .i64 r2]) ∧ Kd.R Kd.string 9 w' w.heap.size (fun _ => True) v0_ r1 ∧ Below w.heap.size w w' := by
 have HR0 := za.mk hr0
 have HC0 := za.mk hc0
 clear hr0 hc0
 have HR1 := za.mk hr1
 have HC1 := za.mk hc1
 clear hr1 hc1
 have HB := za.mk (Below.refl w.heap.size w)
 have H : ((zat.f k l0 l1).bind fun t126 => (if t126 = 0 then ((zbU.f l0 l1).bind fun t127 => (if (t127.length : Int) > 6 then (some (([] : List ByteArray),6)) else (some (t127,0)))) else (some (([] : List ByteArray),t126)))) = some (r1,r2) := h
 clear h
 replace H := Option.bind_eq_some_iff.mp H
 obtain ⟨t126,A30,H⟩ := H
 replace H : (if t126 = 0 then ((zbU.f l0 l1).bind fun t127 => (if (t127.length : Int) > 6 then (some (([] : List ByteArray),6)) else (some (t127,0)))) else (some (([] : List ByteArray),t126))) = some (r1,r2) := H
 have A3 := za.mk A30
 clear A30
 by_cases c4 : t126 = 0
 ·rw [if_pos c4] at H
  have c4b0 : (t126 == 0) = true := beq_iff_eq.mpr c4
  have c4b1 : (t126 != 0) = false := bne_eq_false_iff_eq.mpr c4
  clear c4
  replace H := Option.bind_eq_some_iff.mp H
  obtain ⟨t127,A50,H⟩ := H
  replace H : (if (t127.length : Int) > 6 then (some (([] : List ByteArray),6)) else (some (t127,0))) = some (r1,r2) := H
  have A5 := za.mk A50
  clear A50
  by_cases c6 : (t127.length : Int) > 6
  ·rw [if_pos c6] at H
   have c6b0 : decide (6 < (t127.length : Int)) = true := decide_eq_true c6
   have c6b1 : decide (6 < t127.length) = true := decide_eq_true ql
   clear c6
   simp only [Option.some.injEq,Prod.mk.injEq] at H
   obtain ⟨rfl,rfl⟩ := H
   go_enter Try.func40,Try.ntmps40
   go_wp2_with (first | ((with_reducible refine zA (f := 67) rfl ?_); refine zW (some 10) rfl rfl Try.func67 qg rfl #[.slice A0 l0.length c0, .slice A1 l1.length c1] rfl qb ?_; (with_reducible refine (zat.calls k _ _ l0 _ _ l1 t126 _ ?side1 ?side2 ?side3 ?side4 A3.out).mono ?_); (case side1 => exact qe HR0.out); (case side2 => exact HC0.out); (case side3 => exact qe HR1.out); (case side4 => exact HC1.out); rintro e w7 ⟨rfl,hb⟩; refine ⟨_,rfl,?_⟩; have n0_ := za.mk (zo (qc HB.out) hb); clear HB; have HB := n0_; clear n0_; (try clear hb); (try clear hb2); (try clear hk); (try clear hi)) | ((with_reducible refine zA (f := 79) rfl ?_); refine zW (some 16) rfl rfl Try.func79 qg rfl #[.slice A0 l0.length c0, .slice A1 l1.length c1] rfl qb ?_; (with_reducible refine (zbU.calls _ _ l0 _ _ l1 t127 _ ?side1 ?side2 ?side3 ?side4 A5.out).mono ?_); (case side1 => exact qj HR0.out HB.out); (case side2 => exact HC0.out); (case side3 => exact qj HR1.out HB.out); (case side4 => exact HC1.out); rintro e w8 ⟨v128,rfl,ho0,hb⟩; refine ⟨_,rfl,?_⟩; have n0_ := za.mk (Kd.zaO ho0 (zy (qc HB.out))); have n1_ := za.mk (zo (qc HB.out) hb); clear HB; have HO129 := n0_; have HB := n1_; clear n0_ n1_; (try clear hb); (try clear hb2); (try clear hk); (try clear hi); (try clear ho0); obtain ⟨Ao9,co9,eo9⟩ := Kd.zbc HO129.out; subst eo9))
   go_ret2
   exact ⟨_,by first | rfl | (simp [zw,zx] <;> rfl) | (simp [*,zw,zx] <;> rfl),by first | exact Kd.zbG _ _ _ _ _ | exact Kd.zd8 _ _ _ _ _ | exact Kd.zd4 _ _ _ _ _ | exact Kd.zeh _ _ _ _ _ | exact Kd.zd5 _ _ _ _ _,by repeat (first | (with_reducible first | exact HB.out | apply ze | apply zb | apply zg) | exact HB.out)⟩
  ·rw [if_neg c6] at H
   have c6b0 : decide (6 < (t127.length : Int)) = false := decide_eq_false c6
   have c6b1 : decide (6 < t127.length) = false := decide_eq_false ql
   clear c6
   simp only [Option.some.injEq,Prod.mk.injEq] at H
   obtain ⟨rfl,rfl⟩ := H
   go_enter Try.func40,Try.ntmps40
   go_wp2_with (first | ((with_reducible refine zA (f := 67) rfl ?_); refine zW (some 10) rfl rfl Try.func67 qg rfl #[.slice A0 l0.length c0, .slice A1 l1.length c1] rfl qb ?_; (with_reducible refine (zat.calls k _ _ l0 _ _ l1 t126 _ ?side1 ?side2 ?side3 ?side4 A3.out).mono ?_); (case side1 => exact qe HR0.out); (case side2 => exact HC0.out); (case side3 => exact qe HR1.out); (case side4 => exact HC1.out); rintro e w10 ⟨rfl,hb⟩; refine ⟨_,rfl,?_⟩; have n0_ := za.mk (zo (qc HB.out) hb); clear HB; have HB := n0_; clear n0_; (try clear hb); (try clear hb2); (try clear hk); (try clear hi)) | ((with_reducible refine zA (f := 79) rfl ?_); refine zW (some 16) rfl rfl Try.func79 qg rfl #[.slice A0 l0.length c0, .slice A1 l1.length c1] rfl qb ?_; (with_reducible refine (zbU.calls _ _ l0 _ _ l1 t127 _ ?side1 ?side2 ?side3 ?side4 A5.out).mono ?_); (case side1 => exact qj HR0.out HB.out); (case side2 => exact HC0.out); (case side3 => exact qj HR1.out HB.out); (case side4 => exact HC1.out); rintro e w11 ⟨v128,rfl,ho0,hb⟩; refine ⟨_,rfl,?_⟩; have n0_ := za.mk (Kd.zaO ho0 (zy (qc HB.out))); have n1_ := za.mk (zo (qc HB.out) hb); clear HB; have HO129 := n0_; have HB := n1_; clear n0_ n1_; (try clear hb); (try clear hb2); (try clear hk); (try clear hi); (try clear ho0); obtain ⟨Ao12,co12,eo12⟩ := Kd.zbc HO129.out; subst eo12))
   go_ret2
   exact ⟨_,by first | rfl | (simp [zw,zx] <;> rfl) | (simp [*,zw,zx] <;> rfl),by (with_reducible repeat (first | apply Kd.zaE | apply Kd.zau | apply Kd.zaJ)); exact HO129.out,by repeat (first | (with_reducible first | exact HB.out | apply ze | apply zb | apply zg) | exact HB.out)⟩
 ·rw [if_neg c4] at H
  have c4b0 : (t126 == 0) = false := beq_eq_false_iff_ne.mpr c4
  have c4b1 : (t126 != 0) = true := bne_iff_ne.mpr c4
  simp only [Option.some.injEq,Prod.mk.injEq] at H
  obtain ⟨rfl,rfl⟩ := H
  go_enter Try.func40,Try.ntmps40
  go_wp2_with (first | ((with_reducible refine zA (f := 67) rfl ?_); refine zW (some 10) rfl rfl Try.func67 qg rfl #[.slice A0 l0.length c0, .slice A1 l1.length c1] rfl qb ?_; (with_reducible refine (zat.calls k _ _ l0 _ _ l1 t126 _ ?side1 ?side2 ?side3 ?side4 A3.out).mono ?_); (case side1 => exact qe HR0.out); (case side2 => exact HC0.out); (case side3 => exact qe HR1.out); (case side4 => exact HC1.out); rintro e w13 ⟨rfl,hb⟩; refine ⟨_,rfl,?_⟩; have n0_ := za.mk (zo (qc HB.out) hb); clear HB; have HB := n0_; clear n0_; (try clear hb); (try clear hb2); (try clear hk); (try clear hi)))
  go_ret2
  exact ⟨_,by first | rfl | (simp [zw,zx] <;> rfl) | (simp [*,zw,zx] <;> rfl),by first | exact Kd.zbG _ _ _ _ _ | exact Kd.zd8 _ _ _ _ _ | exact Kd.zd4 _ _ _ _ _ | exact Kd.zeh _ _ _ _ _ | exact Kd.zd5 _ _ _ _ _,by repeat (first | (with_reducible first | exact HB.out | apply ze | apply zb | apply zg) | exact HB.out)⟩
end Go.Proofs.Ytgmbbfmbimofoaa.P
