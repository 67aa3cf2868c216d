-- MERGED BY A PROGRAM out of texts of this claim: hand work, and what a (turned) print of the kit has written for it
import Derived.Deep.Slices
import Derived.Deep.Strs
import Derived.ChangeSame
import Derived.ChangeArms
import Derived.DataReads
import Derived.Test.YtgmbbfmbimofoaaMi5
namespace Go.Proofs.Ytgmbbfmbimofoaa.P
open Go.RowKit Go.Proofs.YtgmbbfmbimofoaaW.PrintWords Go.Proofs.YtgmbbfmbimofoaaW.PrintLast Go.Proofs.YtgmbbfmbimofoaaW.PrintMore
attribute [local go_sem] zM zN zV zU zI zH zO zP
set_option linter.unusedVariables false
set_option linter.unusedSimpArgs false
open Go.Deep
theorem zfA {H : Type} {enc : TypeId × Value → H} {w : World} {base : Nat} {spare : Nat → Bool} {held : Bool} {α : Type} [Inhabited α] (d : Kd α) {t e : TypeId} (ht : Try.prog.underlying t = some (.slice e)) (hc : Try.prog.cellsOf e = d.sz)
  (hel : ∀ (n : Nat) (cs : List Value) (y : DataW H × List MemPlace),DataW.trod enc Try.prog w base spare held n e cs = some y → ∃ x : α,d.K w x cs)
  {fuel : Nat} {cs : List Value} {x : DataW H × List MemPlace} (h : DataW.trod enc Try.prog w base spare held fuel t cs = some x) : ∃ A c, ∃ xs : List α,cs = [.slice A xs.length c] ∧ xs.length ≤ c ∧ d.C w A xs.length xs := by
 rcases open_slice ht h with ⟨rfl,_⟩ | ⟨a,len,cap,m,n,D,Pl,rfl,hb,hl,hm,hmm,_,hx⟩
 ·exact ⟨none,0,[],rfl,Nat.le_refl _,Kd.zkk d w⟩
 ·have hlm : len ≤ m := by rw [hmm]; split <;> omega
  have each : ∀ i,i < len → ∃ q : α, ∃ c : List Value,c.length = d.sz ∧ d.K w q c ∧ ∀ j u,c[j]? = some u → w.cell? (a.add (i * d.sz + j)) = some u := by
   intro i hi
   obtain ⟨cs',h1,h2⟩ := hx i qj
   obtain ⟨_,hlen,hcell⟩ := World.cells?_some h1
   obtain ⟨q,hq⟩ := hel _ _ _ h2
   refine ⟨q,cs',by rw [hlen,hc],hq,fun j u hu => ?_⟩
   have hj : j < cs'.length := (List.getElem?_eq_some_iff.1 hu).1
   have := hcell j qj
   rw [Deep.add_add,hc] at this
   rw [this]; exact hu
  obtain ⟨q,hq⟩ := choose_lt each
  have hlen : ((List.range len).map q).length = len := by simp
  refine ⟨some a,cap,(List.range len).map q,by rw [hlen],by rw [hlen]; exact hl,rfl,by rw [hlen]; have : maxLen = 9223372036854775807 := rfl; omega,fun _ => ⟨a,rfl,fun j p hj => ?_⟩⟩
  have hjl : j < len := by
   have := (List.getElem?_eq_some_iff.1 hj).1
   simpa using this
  have e : p = q j := by
   rw [List.getElem?_map,List.getElem?_range hjl] at hj
   exact (Option.some.inj hj).symm
  subst e
  exact hq j hjl
section
variable {H : Type} {enc : TypeId × Value → H} {w : World} {base : Nat} {spare : Nat → Bool} {held : Bool} {fuel : Nat} {cs : List Value} {x : DataW H × List MemPlace}
theorem zgn (h : DataW.trod enc Try.prog w base spare held fuel 22 cs = some x) : ∃ A c, ∃ xs : List ByteArray,cs = [.slice A xs.length c] ∧ xs.length ≤ c ∧ Kd.string.C w A xs.length xs :=
 zfA Kd.string Try.underlying22 qi (fun _ _ _ h => by
  obtain ⟨s,rfl,_,_⟩ := DataW.trod_string Try.underlying9 h
  exact ⟨s,rfl⟩) h
theorem ziM (h : DataW.trod enc Try.prog w base spare held fuel 23 cs = some x) : ∃ A c, ∃ xs : List Int,cs = [.slice A xs.length c] ∧ xs.length ≤ c ∧ (Kd.int .i64).C w A xs.length xs :=
 zfA (Kd.int .i64) Try.underlying23 qi (fun _ _ _ h => by
  obtain ⟨s,rfl,_,_⟩ := DataW.trod_int Try.underlying3 h
  exact ⟨s,rfl⟩) h
instance : Inhabited S63 := ⟨⟨0,0,ByteArray.empty⟩⟩
set_option maxRecDepth 100000 in
theorem zhW (h : DataW.trod enc Try.prog w base spare held fuel 31 cs = some x) : ∃ A c, ∃ xs : List S63,cs = [.slice A xs.length c] ∧ xs.length ≤ c ∧ k63.C w A xs.length xs :=
 zfA k63 Try.underlying31 qi (fun _ cs _ h => by
  obtain ⟨y0,y1,y2,n,_,hl,h0,h1,h2⟩ := trod_struct3 Try.underlying63 h
  obtain ⟨a,e0,_,_⟩ := DataW.trod_int Try.underlying3 h0
  obtain ⟨b,e1,_,_⟩ := DataW.trod_int Try.underlying3 h1
  obtain ⟨s,e2,_,_⟩ := DataW.trod_string Try.underlying9 h2
  have hl3 : cs.length = 3 := by rw [hl]; kernel_rfl
  refine ⟨⟨a,b,s⟩,?_⟩
  have hcs : cs = [.int .i64 a, .int .i64 b, .string s] := by
   match cs,hl3 with
   | [v0,v1,v2],_ =>
    have c3 : Try.prog.cellsOf 3 = 1 := by kernel_rfl
    have c9 : Try.prog.cellsOf 9 = 1 := by kernel_rfl
    simp [c3,c9] at e0 e1 e2
    rw [e0,e1,e2]
  rw [hcs]
  exact zjb w ⟨a,b,s⟩) h
theorem zh2 (h : DataW.trod enc Try.prog w base spare held fuel 29 cs = some x) : ∃ A c, ∃ xs : List (List ByteArray),cs = [.slice A xs.length c] ∧ xs.length ≤ c ∧ (Kd.slice 9 Kd.string).C w A xs.length xs :=
 zfA (Kd.slice 9 Kd.string) Try.underlying29 qi (fun _ _ _ h => by
  obtain ⟨A,c,xs,rfl,hl,hC⟩ := zgn h
  exact ⟨xs,A,c,rfl,hl,hC⟩) h
end
theorem zgv {α : Type} {d : Kd α} {w : World} {A : Option Addr} {n : Nat} {xs : List α} (h : d.C w A n xs) : xs.length ≤ 9223372036854775807 := by rw [h.1]; exact h.2.1
end Go.Proofs.Ytgmbbfmbimofoaa.P
