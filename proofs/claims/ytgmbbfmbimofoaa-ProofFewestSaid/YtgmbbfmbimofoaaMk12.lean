-- MERGED BY A PROGRAM out of texts of this claim: hand work, and what a (turned) print of the kit has written for it
import Derived.DeepKeys3
import Derived.Laws.EntriesVeiled
import Derived.Outline
import Derived.Test.YtgmbbfmbimofoaaMk7
import Derived.Test.YtgmbbfmbimofoaaMk5
import Derived.Test.YtgmbbfmbimofoaaMk11
import Derived.Test.YtgmbbfmbimofoaaMk10
namespace Go.Proofs.Ytgmbbfmbimofoaa.P
open Go.RowKit Go.Proofs.YtgmbbfmbimofoaaW.PrintWords Go.Proofs.YtgmbbfmbimofoaaW.PrintLast Go.Proofs.YtgmbbfmbimofoaaW.PrintMore
attribute [local go_sem] zH zI zP zO zC zB zJ zK
set_option linter.unusedVariables false
set_option linter.unusedSimpArgs false
def zq (m : S63) (x : Int × List S63) : Int × List S63 := (if m.f0 = 3 then x.1 else wrap64 (x.1 + 1),m :: x.2)
def dsp (i : Nat) : List ByteArray → List ByteArray → Int × List S63
 | [],[] => (0,[])
 | [],y :: b => zq ⟨1,i,y⟩ (dsp i [] b)
 | _ :: a,[] => zq ⟨3,i,⟨#[]⟩⟩ (dsp (i + 1) a [])
 | x :: a,y :: b => zaq (zq ⟨1,i,y⟩ (dsp i (x :: a) b)) ([zq ⟨3,i,⟨#[]⟩⟩ (dsp (i + 1) a (y :: b)),zq ⟨2,i,y⟩ (dsp (i + 1) a b)] ++ (if (x.toList == y.toList) = true then [dsp (i + 1) a b] else []))
termination_by a b => a.length + b.length
theorem zbT (xs : List (Int × List S63)) : ∀ f,zaq f xs = f ∨ zaq f xs ∈ xs := by
 induction xs with
 | nil => intro f; exact .inl rfl
 | cons x xs ih =>
  intro f
  simp only [zaq]
  rcases ih (if cmpL x f < 0 then x else f) with h | h
  ·by_cases hc : cmpL x f < 0
   ·rw [if_pos hc] at h ⊢; exact .inr (by rw [h]; exact List.mem_cons_self)
   ·rw [if_neg hc] at h ⊢; exact .inl h
  ·exact .inr (List.mem_cons_of_mem _ h)
theorem zfz (a : List ByteArray) : ∀ (b : List ByteArray) (i : Nat),(dsp i a b).2.length ≤ a.length + b.length := by
 induction a with
 | nil =>
  intro b
  induction b with
  | nil => intro i; simp [dsp]
  | cons y b ih => intro i; rw [dsp]; have := ih i; simp [zq] at this ⊢; omega
 | cons x a iha =>
  intro b
  induction b with
  | nil => intro i; rw [dsp]; have := iha [] (i + 1); simp [zq] at this ⊢; omega
  | cons y b ih =>
   intro i
   rw [dsp]
   have h1 := ih i
   have h2 := iha (y :: b) (i + 1)
   have h3 := iha b (i + 1)
   have hm := zbT ([zq ⟨3,i,⟨#[]⟩⟩ (dsp (i + 1) a (y :: b)),zq ⟨2,i,y⟩ (dsp (i + 1) a b)] ++ (if (x.toList == y.toList) = true then [dsp (i + 1) a b] else [])) (zq ⟨1,i,y⟩ (dsp i (x :: a) b))
   generalize zaq (zq ⟨1,i,y⟩ (dsp i (x :: a) b)) ([zq ⟨3,i,⟨#[]⟩⟩ (dsp (i + 1) a (y :: b)),zq ⟨2,i,y⟩ (dsp (i + 1) a b)] ++ (if (x.toList == y.toList) = true then [dsp (i + 1) a b] else [])) = r at hm ⊢
   simp only [List.length_cons] at h1 h2 ⊢
   rcases hm with rfl | hm
   ·simp [zq]; omega
   ·rcases List.mem_append.1 hm with hm | hm
    ·simp only [List.mem_cons,List.not_mem_nil,or_false] at hm
     rcases hm with rfl | rfl
     ·simp [zq]; omega
     ·simp [zq]; omega
    ·split at hm
     ·simp only [List.mem_cons,List.not_mem_nil,or_false] at hm
      subst hm; omega
     ·simp at hm
theorem zdg (m : S63) (c : Int) (l : List S63) (hl : l.length < 1000) : zaf.f c l m.f0 m.f1 m.f2 = some (zq m (c,l)) := by
 unfold zaf.f zq
 simp only [Option.bind_some,List.length_cons,List.length_nil]
 rw [if_pos ql]
 split <;> rfl
def kij (i j : Nat) : Value := .agg #[.int .i64 i, .int .i64 j]
theorem zfS : WideMaps.KeyLaw Try.prog 135 := deep_law (m := 2) qq qg qg qg
theorem zfZ (i j : Nat) (hi : i < 1000) (hj : j < 1000) : ∃ l,keyOf Try.prog 135 (kij i j) = some l := by
 have h3 : ∀ n : Nat,n < 1000 → (Lit.int .i64 (n : Int)).wf = true := fun n hn => by
  simp only [Lit.wf,IntKind.min,IntKind.max,IntKind.signed,IntKind.bits,Bool.and_eq_true,decide_eq_true_eq,if_true]; omega
 have hk : ∀ d n,n < 1000 → Try.prog.keyLits (d + 1) 3 [.int .i64 ((n : Nat) : Int)] = some [.int .i64 n] := fun d n hn => by
  unfold Program.keyLits
  rw [Try.underlying3]
  exact if_pos ⟨rfl,h3 n hn⟩
 have c3 : Try.prog.cellsOf 3 = 1 := by kernel_rfl
 have c135 : Try.prog.cellsOf 135 = 2 := by kernel_rfl
 have hL : Try.prog.keyLits (Try.prog.types.size + 1) 135 [.int .i64 (i : Int), .int .i64 (j : Int)] = some [.int .i64 i, .int .i64 j] := by
  have h0 : decide (Try.prog.types.size ≠ 0) = true := by kernel_rfl
  obtain ⟨d,hd⟩ := Nat.exists_eq_succ_of_ne_zero (of_decide_eq_true h0)
  unfold Program.keyLits
  rw [Try.underlying135]
  simp only [c3,c135,List.length_cons,List.length_nil,if_pos]
  simp only [List.range_succ,List.range_zero,List.nil_append,List.cons_append,List.mapM_cons,List.mapM_nil,Nat.zero_mul,Nat.one_mul,List.drop_zero,List.take_succ_cons,List.take_zero,List.drop_succ_cons,hd]
  rw [hk d i hi,hk d j hj]
  rfl
 unfold keyOf
 rw [Try.underlying135]
 have hf : (Try.prog.keyType 135 && (kij i j).formed Try.prog 135) = true := by
  have h1 : Try.prog.keyType 135 = true := by kernel_rfl
  have h2 : (kij i j).formed Try.prog 135 = true := by
   unfold kij Value.formed
   rw [Try.underlying135]
   simp [c135]
  rw [h1,h2]; rfl
 simp only [hf,if_true]
 exact ⟨_,congrArg (Option.map _) hL⟩
def zdw : Value := .agg #[.int .i64 0, .slice none 0 0]
theorem zeroValue134 (w : World) : (zeroValue 134).run Try.prog w = .ok zdw w := by
 have h : ∃ i,Try.prog.info? 134 = some i ∧ i.zero = some zdw := by
  have h1 : (Try.prog.info? 134).map (fun i => i.zero) = some (some zdw) := by kernel_rfl
  obtain ⟨i,h2,h3⟩ := Option.map_eq_some_iff.1 h1
  exact ⟨i,h2,h3⟩
 obtain ⟨i,h1,h2⟩ := h
 go_simp
 rfl
structure DC where
 w0 : World
 gk : Nat
 go : Nat
 gp : Nat
 gf : Nat
 gm : Nat
 A0 : Option Addr
 c0 : Nat
 l0 : List ByteArray
 A1 : Option Addr
 c1 : Nat
 l1 : List ByteArray
def DC.D (C : DC) (i j : Nat) : Int × List S63 := dsp i (C.l0.drop i) (C.l1.drop j)
def DC.zdN (C : DC) : Array Value := #[.pointer (some ⟨C.gk,0,none⟩), .pointer (some ⟨C.go,0,none⟩), .pointer (some ⟨C.gp,0,none⟩), .pointer (some ⟨C.gf,0,none⟩)]
structure DC.Ok (C : DC) : Prop where
 n0 : C.l0.length ≤ 100
 n1 : C.l1.length ≤ 100
 r0 : Kd.string.C C.w0 C.A0 C.l0.length C.l0
 r1 : Kd.string.C C.w0 C.A1 C.l1.length C.l1
 k0 : C.l0.length ≤ C.c0
 k1 : C.l1.length ≤ C.c1
structure DSt (C : DC) (W : World) (es : Array MapEntry) (clock : Nat) : Prop where
 below : Below C.w0.heap.size C.w0 W
 gem : C.w0.heap.size ≤ C.gm
 bk : W.heap[C.gk]? = some (.cells #[.map (some C.gm)] 131 (0,0))
 bo : W.heap[C.go]? = some (.cells #[.slice C.A0 C.l0.length C.c0] 22 (0,0))
 bp : W.heap[C.gp]? = some (.cells #[.slice C.A1 C.l1.length C.c1] 22 (0,0))
 bf : W.heap[C.gf]? = some (.cells #[.func (.func 95) #[] C.zdN] 132 (0,0))
 bm : W.heap[C.gm]? = some (.map es clock)
 memo : ∀ e ∈ es.toList, ∃ i j v,i ≤ C.l0.length ∧ j ≤ C.l1.length ∧ e.key = kij i j ∧ e.val = .agg #[.int .i64 (C.D i j).1,v] ∧ Kd.R k63 63 W C.w0.heap.size (fun _ => True) v (C.D i j).2
def za8 (W W1 : World) : Prop := W.heap.size ≤ W1.heap.size ∧ ∀ (k : Nat) (o : Obj),W.heap[k]? = some o → (∀ cs fr,o ≠ .cells cs 134 fr) → W1.heap[k]? = some o
theorem za8.below {W W1 : World} (h : Below W.heap.size W W1) : za8 W W1 := ⟨h.size,fun _ _ hk _ => zu hk h⟩
theorem za8.R {W W1 : World} {base : Nat} {v : Value} {l : List S63} (h : za8 W W1) (hr : Kd.R k63 63 W base (fun _ => True) v l) : Kd.R k63 63 W1 base (fun _ => True) v l := by
 refine Kd.zaB (Kd.zcV (Kd.za5 hr) (fun k hk => ?_)) (fun _ _ => trivial)
 obtain ⟨_,_,_,q,hq,cells,hc⟩ := hk
 rw [hc]
 refine h.2 k _ hc (fun cs fr he => ?_)
 injection he with _ he
 subst he
 revert hq
 decide
theorem DSt.step {C : DC} {W W1 : World} {es : Array MapEntry} {clock : Nat} (h : DSt C W es clock) (hk : za8 W W1) (hb : Below C.w0.heap.size C.w0 W1) : DSt C W1 es clock where
 below := hb
 gem := h.gem
 bk := hk.2 _ _ h.bk qM
 bo := hk.2 _ _ h.bo qM
 bp := hk.2 _ _ h.bp qM
 bf := hk.2 _ _ h.bf qM
 bm := hk.2 _ _ h.bm (by rintro cs fr he; cases he)
 memo := fun e he => by
  obtain ⟨i,j,v,h1,h2,h3,h4,h5⟩ := h.memo e he
  exact ⟨i,j,v,h1,h2,h3,h4,hk.R h5⟩
theorem DSt.keys {C : DC} (ok : C.Ok) {W : World} {es : Array MapEntry} {clock : Nat} (h : DSt C W es clock) : ∀ e ∈ es.toList, ∃ l,keyOf Try.prog 135 e.key = some l := fun e he => by
 obtain ⟨i,j,v,h1,h2,h3,_⟩ := h.memo e he
 rw [h3]
 have := ok.n0
 have := ok.n1
 exact zfZ i j ql ql
theorem ziV {i j i' j' : Nat} (h : kij i j = kij i' j') : i = i' ∧ j = j' := by
 unfold kij at h
 simp at h
 omega
theorem DSt.look {C : DC} (ok : C.Ok) {W : World} {es : Array MapEntry} {clock : Nat} (h : DSt C W es clock) {i j : Nat} (hi : i ≤ C.l0.length) (hj : j ≤ C.l1.length) (b : Bool) :
  ((Instr.lookup 131 (.map (some C.gm)) (kij i j) b).run Try.prog W = .ok (if b = true then .tuple #[zdw, .bool false] else zdw) W ∧ ∀ e ∈ es.toList,e.key ≠ kij i j) ∨
   ∃ v,(Instr.lookup 131 (.map (some C.gm)) (kij i j) b).run Try.prog W = .ok (if b = true then .tuple #[.agg #[.int .i64 (C.D i j).1,v], .bool true] else .agg #[.int .i64 (C.D i j).1,v]) W ∧ Kd.R k63 63 W C.w0.heap.size (fun _ => True) v (C.D i j).2 := by
 have h0 := ok.n0
 have h1 := ok.n1
 obtain ⟨l,hl⟩ := zfZ i j ql ql
 have hck : ∀ em,(Instr.checkKey em 10000 135 (kij i j)).run Try.prog W = .ok () W := fun em => zfS.check W em hl
 rcases zfS.find W hl es.toList (h.keys ok) with ⟨hf,hne⟩ | ⟨n,e,hf,hn,he⟩
 ·exact .inl ⟨zfP b Try.underlying131 h.bm hck hf (zeroValue134 W),hne⟩
 ·right
  obtain ⟨i',j',v,h1',h2',h3',h4',h5'⟩ := h.memo e (List.mem_of_getElem? hn)
  obtain ⟨rfl,rfl⟩ := ziV (h3'.symm.trans he)
  refine ⟨v,?_,h5'⟩
  rw [h4'] at hf
  exact zcX b Try.underlying131 h.bm hck hf
theorem DSt.update {C : DC} (ok : C.Ok) {W : World} {es : Array MapEntry} {clock : Nat} (h : DSt C W es clock) {i j : Nat} (hi : i ≤ C.l0.length) (hj : j ≤ C.l1.length) {v : Value} (hv : Kd.R k63 63 W C.w0.heap.size (fun _ => True) v (C.D i j).2) :
  ∃ W1 es1 clock1,(Instr.mapUpdate 131 (.map (some C.gm)) (kij i j) (.agg #[.int .i64 (C.D i j).1,v])).run Try.prog W = .ok () W1 ∧ DSt C W1 es1 clock1 ∧ zM W W1 C.gm none ∧ ∃ e ∈ es1.toList,e.key = kij i j := by
 have h0 := ok.n0
 have h1 := ok.n1
 obtain ⟨l,hl⟩ := zfZ i j ql ql
 have hck : (Instr.checkKey false 10000 135 (kij i j)).run Try.prog W = .ok () W := zfS.check W false hl
 have hlt := zR h.bm
 have hput : ∀ es1 clock1,(∀ e ∈ es1.toList,e ∈ es.toList ∨ (e.key = kij i j ∧ e.val = .agg #[.int .i64 (C.D i j).1,v])) → DSt C (W.putObj C.gm (.map es1 clock1)) es1 clock1 := by
  intro es1 clock1 hes
  have hne : ∀ (k : Nat) (o : Obj),W.heap[k]? = some o → (∀ a b,o ≠ .map a b) → (W.putObj C.gm (.map es1 clock1)).heap[k]? = some o := by
   intro k o hk ho
   rw [World.putObj_heap_other (fun e => by subst e; rw [h.bm] at hk; exact ho _ _ (Option.some.inj hk).symm)]
   exact hk
  have hR : ∀ {u : Value} {l : List S63},Kd.R k63 63 W C.w0.heap.size (fun _ => True) u l → Kd.R k63 63 (W.putObj C.gm (.map es1 clock1)) C.w0.heap.size (fun _ => True) u l := by
   intro u l hr
   refine Kd.zaB (Kd.zcV (Kd.za5 hr) (fun k hk => ?_)) (fun _ _ => trivial)
   obtain ⟨_,_,_,q,hq,cells,hc⟩ := hk
   rw [hc]
   exact hne k _ hc qQ
  exact {
   below := ⟨h.below.os,h.below.tape,h.below.output,by rw [World.putObj_size]; exact h.below.size,fun k hk => by rw [World.putObj_heap_other (by have := h.gem; omega)]; exact h.below.block k hk⟩
   gem := h.gem
   bk := hne _ _ h.bk qQ
   bo := hne _ _ h.bo qQ
   bp := hne _ _ h.bp qQ
   bf := hne _ _ h.bf qQ
   bm := World.putObj_heap_same hlt
   memo := fun e he => by
    rcases hes e he with h6 | ⟨h6,h7⟩
    ·obtain ⟨i',j',u,h1',h2',h3',h4',h5'⟩ := h.memo e h6
     exact ⟨i',j',u,h1',h2',h3',h4',hR h5'⟩
    ·exact ⟨i,j,v,hi,hj,h6,h7,hR hv⟩ }
 have hkb : ∀ o,zM W (W.putObj C.gm o) C.gm none := fun o => ⟨by rw [World.putObj_size]; exact Nat.le_refl _,fun k _ hk _ => World.putObj_heap_other hk⟩
 rcases zfS.find W hl es.toList (h.keys ok) with ⟨hf,hne⟩ | ⟨n,e,hf,hn,he⟩
 ·refine ⟨_,_,_,zce Try.underlying131 h.bm hck hf,hput _ _ (fun e he => ?_),hkb _,⟨_,by rw [Array.toList_push]; exact List.mem_append_right _ List.mem_cons_self,rfl⟩⟩
  rw [Array.toList_push] at he
  rcases List.mem_append.1 he with he | he
  ·exact .inl he
  ·rw [List.mem_singleton.1 he]; exact .inr ⟨rfl,rfl⟩
 ·have hst : Instr.sameBits 10000 (((es[n]?).map (·.key)).getD (kij i j)) (kij i j) = true := by
   have e1 : es[n]? = some e := by rw [← Array.getElem?_toList]; exact hn
   rw [e1]
   simp only [Option.map_some,Option.getD_some,he]
   show Instr.sameBits (9999 + 1) (kij i j) (kij i j) = true
   simp [kij,Instr.sameBits]
  refine ⟨_,_,_,zfo Try.underlying131 h.bm hck hf hst,hput _ _ (fun e' he' => ?_),hkb _,?_⟩
  ·obtain ⟨m,hm⟩ := List.getElem?_of_mem he'
   rw [Array.toList_modify,List.getElem?_modify] at hm
   by_cases hmn : n = m
   ·subst hmn
    rw [hn] at hm
    simp at hm
    subst hm
    exact .inr ⟨rfl,rfl⟩
   ·simp only [if_neg hmn] at hm
    exact .inl (List.mem_of_getElem? (i := m) (by simpa using hm))
  ·refine ⟨{ e with key := kij i j,val := .agg #[.int .i64 (C.D i j).1,v] },?_,rfl⟩
   rw [Array.toList_modify]
   refine List.mem_of_getElem? (i := n) ?_
   rw [List.getElem?_modify,hn]
   simp
structure Fr (C : DC) (W Wc : World) (g8 g9 i j : Nat) (ok : Nat → Prop) (v12 : Value) (xs : List LV) (es : Array MapEntry) (clock : Nat) : Prop where
 st : DSt C Wc es clock
 kb : zM W Wc C.gm none
 b8 : Wc.heap[g8]? = some (.cells #[.int .i64 0, .slice none 0 0] 134 (0,0))
 ge8 : W.heap.size ≤ g8
 b9 : Wc.heap[g9]? = some (.cells #[.int .i64 i, .int .i64 j] 135 (0,0))
 row : Kd.R kL 134 Wc C.w0.heap.size ok v12 xs
 okn : ∀ k,ok k → k ≠ g8
 fresh : ∀ k,v12.ownBlock = some k → W.heap.size ≤ k
def From (C : DC) (W : World) (i j : Nat) (e : Ending) (W' : World) : Prop :=
 ∃ v es' clock',e = .returned (.agg #[.int .i64 (C.D i j).1,v]) ∧ Kd.R k63 63 W' C.w0.heap.size (fun _ => True) v (C.D i j).2 ∧ DSt C W' es' clock' ∧ zM W W' C.gm none
theorem zjf (A : Option Addr) (n c : Nat) (h1 : 1 ≤ n) (hc : n ≤ c) : ∀ W : World,(Instr.slice 137 (.slice A n c) (some (.int .i64 1)) none none).run Try.prog W = .ok (.slice (if c = 1 then A else A.map (·.add (1 * kL.sz))) (n - 1) (c - 1)) W := by
 intro W
 have hi : ∃ i,Try.prog.info? 134 = some i ∧ i.size = 2 := by
  have h1 : (Try.prog.info? 134).map (fun i => i.size) = some 2 := by kernel_rfl
  obtain ⟨i,h2,h3⟩ := Option.map_eq_some_iff.1 h1
  exact ⟨i,h2,h3⟩
 obtain ⟨i,hi,hsz⟩ := hi
 have hel : Try.prog.elem 137 = 134 := by kernel_rfl
 have hu : Try.prog.underlying 137 = some (.slice (Try.prog.elem 137)) := by rw [hel]; exact Try.underlying137
 rw [run_slice_l W 137 A n c hu .i64 1 ql ql,hel]
 simp [sizeOf,typeInfo,hi,hsz,sliced,Result.andThen]
 rfl
theorem Fr.opens {C : DC} {W Wc : World} {g8 g9 i j : Nat} {ok : Nat → Prop} {v12 : Value} {x0 : LV} {xr : List LV} {es : Array MapEntry} {clock : Nat} (h : Fr C W Wc g8 g9 i j ok v12 (x0 :: xr) es clock) :
  ∃ g cap As,v12 = .slice (some ⟨g,0,none⟩) (xr.length + 1) cap ∧ Wc.cell? ⟨g,0,none⟩ = some (.int .i64 x0.2.1) ∧ Wc.cell? ⟨g,1,none⟩ = some x0.1 ∧ kL.K Wc x0 [.int .i64 x0.2.1,x0.1] ∧
   (∀ W : World,(Instr.slice 137 (.slice (some ⟨g,0,none⟩) (xr.length + 1) cap) (some (.int .i64 1)) none none).run Try.prog W = .ok (.slice As xr.length (cap - 1)) W) ∧ Kd.C kL Wc As xr.length xr ∧ xr.length ≤ cap - 1 ∧ (∀ x ∈ x0 :: xr,Kd.R k63 63 Wc C.w0.heap.size (fun _ => True) x.1 x.2.2) := by
 obtain ⟨inner,hown⟩ := Kd.zb7 h.row
 obtain ⟨A,c,hv,hl,hC⟩ := Kd.zak h.row
 obtain ⟨g,cap,hv2,_,_⟩ := World.ownsRow.form hown qC
 rw [hv] at hv2
 injection hv2 with hA _ hc
 subst hA; subst hc
 obtain ⟨ad,e1,c0,c1,_⟩ := zhU hC 0 ql qx
 cases e1
 obtain ⟨B,cB,e2,e3,e4⟩ := zil hC 0 ql qx
 have hdrop := Kd.zi4 (m := 1) hC qC hl
 simp only [List.length_cons] at hl hv
 refine ⟨g,c,_,hv,c0,c1,⟨rfl,B,cB,e2,e3,e4⟩,fun W => ?_,hdrop,?_,fun x hx => Kd.zaB (zh9 h.row x hx) (fun _ _ => trivial)⟩
 ·exact zjf _ _ _ ql hl W
 ·omega
theorem za8.set {W : World} {g : Nat} {cs : Array Value} (hb : W.heap[g]? = some (.cells cs 134 (0,0))) (k : Nat) (u : Value) : za8 W (W.setCell ⟨g,k,none⟩ u) := by
 have hk := zM.zbY (zM.refl W g none) k u
 refine ⟨hk.1,fun k' o hk' ho => ?_⟩
 have hne : k' ≠ g := fun e => by
  subst e
  rw [hb] at hk'
  exact ho cs (0,0) (Option.some.inj hk').symm
 exact (hk.2 k' (zR hk') hne qC).trans hk'
theorem za8.trans {W W1 W2 : World} (h : za8 W W1) (k : za8 W1 W2) : za8 W W2 := ⟨Nat.le_trans h.1 k.1,fun n o hn ho => k.2 n o (h.2 n o hn ho) ho⟩
theorem za8.grown {W W1 : World} {base n : Nat} {v : Value} {xs : List Value} (hg : W.grownBy W1 v.ownBlock) (ho : W.ownsRow base 134 2 v n xs) : za8 W W1 := by
 refine ⟨hg.size,fun k o hk hne => ?_⟩
 refine (hg.block k (zR hk) (fun e => ?_)).trans hk
 obtain ⟨cells,hc⟩ := zb6 ho k e.symm
 rw [hk] at hc
 exact hne cells (0,0) (Option.some.inj hc)
theorem Fr.below {C : DC} {W Wc W1 : World} {g8 g9 i j : Nat} {ok : Nat → Prop} {v12 : Value} {xs : List LV} {es : Array MapEntry} {clock : Nat} (h : Fr C W Wc g8 g9 i j ok v12 xs es clock) (hb : Below Wc.heap.size Wc W1) : Fr C W W1 g8 g9 i j ok v12 xs es clock where
 st := h.st.step (za8.below hb) (zcs h.st.below h.st.below.size hb)
 kb := h.kb.trans (zM.of_below hb _ none) (.inl rfl)
 b8 := zu h.b8 hb
 ge8 := h.ge8
 b9 := zu h.b9 hb
 row := Kd.zD h.row hb
 okn := h.okn
 fresh := h.fresh
theorem Fr.drew {C : DC} {W Wc : World} {g8 g9 i j : Nat} {ok : Nat → Prop} {v12 : Value} {xs : List LV} {es : Array MapEntry} {clock : Nat} (h : Fr C W Wc g8 g9 i j ok v12 xs es clock) : Fr C W Wc.drew g8 g9 i j ok v12 xs es clock := h.below (zg (Below.refl _ _))
theorem Fr.call {C : DC} {W Wc W1 : World} {g8 g9 i j : Nat} {ok : Nat → Prop} {v12 : Value} {xs : List LV} {es es1 : Array MapEntry} {clock clock1 : Nat} (h : Fr C W Wc g8 g9 i j ok v12 xs es clock) (st : DSt C W1 es1 clock1) (hk : zM Wc W1 C.gm none) : Fr C W W1 g8 g9 i j ok v12 xs es1 clock1 where
 st := st
 kb := h.kb.trans hk (.inl rfl)
 b8 := hk.blk h.b8 (fun e => by have := h.st.bm; rw [← e,h.b8] at this; cases this) qC
 ge8 := h.ge8
 b9 := hk.blk h.b9 (fun e => by have := h.st.bm; rw [← e,h.b9] at this; cases this) qC
 row := by
  refine Kd.zaB (Kd.zcV (Kd.za5 h.row) (fun k hk2 => ?_)) (fun _ hk => hk.1)
  obtain ⟨_,_,hlt,q,_,cells,hc⟩ := hk2
  exact hk.2 k hlt (fun e => by have := h.st.bm; rw [← e,hc] at this; cases this) qC
 okn := h.okn
 fresh := h.fresh
theorem Fr.append {C : DC} {W Wc W1 : World} {g8 g9 i j : Nat} {ok : Nat → Prop} {v12 v1 : Value} {xs ys : List LV} {es : Array MapEntry} {clock : Nat} (h : Fr C W Wc g8 g9 i j ok v12 xs es clock) (hr : Kd.R kL 134 W1 C.w0.heap.size ok v1 ys) (hb : Below C.w0.heap.size C.w0 W1) (hg : Wc.grownBy W1 v12.ownBlock) (hat : v1.ownBlock = v12.ownBlock ∨ ∃ b,v1.ownBlock = some b ∧ Wc.heap.size ≤ b) : Fr C W W1 g8 g9 i j ok v1 ys es clock where
 st := by
  obtain ⟨inner,ho⟩ := Kd.zb7 h.row
  exact h.st.step (za8.grown hg ho) hb
 kb := by
  refine ⟨Nat.le_trans h.kb.1 hg.size,fun k hk hne _ => ?_⟩
  have h1 := h.kb.2 k hk hne qC
  exact (hg.block k (Nat.lt_of_lt_of_le hk h.kb.1) (fun e => by have := h.fresh k e.symm; omega)).trans h1
 b8 := zaD h.b8 hg (fun e => h.okn _ (h.row.1 _ e.symm) rfl)
 ge8 := h.ge8
 b9 := zaD h.b9 hg (fun e => by
  obtain ⟨inner,ho⟩ := Kd.zb7 h.row
  obtain ⟨cells,hc⟩ := zb6 ho _ e.symm
  rw [h.b9] at hc
  cases hc)
 row := hr
 okn := h.okn
 fresh := fun k hk => by
  rcases hat with e | ⟨b,e,hle⟩
  ·exact h.fresh k (e ▸ hk)
  ·rw [e] at hk
   have := h.kb.1
   injection hk with hk
   omega
theorem zju {C : DC} {i j : Nat} (hi : i = C.l0.length) (hj : j = C.l1.length) : C.D i j = (0,[]) := by
 unfold DC.D
 rw [List.drop_eq_nil_of_le ql,List.drop_eq_nil_of_le ql,dsp]
theorem zjv {C : DC} {i j : Nat} (hi : i = C.l0.length) (hj : j < C.l1.length) : C.D i j = zq ⟨1,i,C.l1[j]⟩ (C.D i (j + 1)) := by
 unfold DC.D
 rw [List.drop_eq_nil_of_le (by omega : C.l0.length ≤ i),List.drop_eq_getElem_cons hj,dsp]
theorem zjt {C : DC} {i j : Nat} (hi : i < C.l0.length) (hj : j = C.l1.length) : C.D i j = zq ⟨3,i,⟨#[]⟩⟩ (C.D (i + 1) j) := by
 unfold DC.D
 rw [List.drop_eq_getElem_cons hi,List.drop_eq_nil_of_le (by omega : C.l1.length ≤ j),dsp]
theorem zjo {C : DC} {i j : Nat} (hi : i < C.l0.length) (hj : j < C.l1.length) : C.D i j = zaq (zq ⟨1,i,C.l1[j]⟩ (C.D i (j + 1))) ([zq ⟨3,i,⟨#[]⟩⟩ (C.D (i + 1) j),zq ⟨2,i,C.l1[j]⟩ (C.D (i + 1) (j + 1))] ++ (if (C.l0[i].toList == C.l1[j].toList) = true then [C.D (i + 1) (j + 1)] else [])) := by
 unfold DC.D
 rw [List.drop_eq_getElem_cons hi,List.drop_eq_getElem_cons hj,dsp]
theorem zcd {C : DC} (i j : Nat) (ok : C.Ok) : (C.D i j).2.length ≤ 200 := by
 have := zfz (C.l0.drop i) (C.l1.drop j) i
 have h0 := ok.n0
 have h1 := ok.n1
 simp only [List.length_drop] at this
 unfold DC.D
 omega
theorem zc2 : (Try.prog.info? 134).map (fun i => (i.zero,i.size,i.bytes)) = some (some (.agg #[.int .i64 0, .slice none 0 0]),2,32) := by kernel_rfl
theorem zdh {C : DC} {W W1 : World} {g9 i j : Nat} {ok : Nat → Prop} {v12 v : Value} {xs : List LV} {es : Array MapEntry} {clock : Nat} {cs : Int} (h : Fr C W W1 W.heap.size g9 i j ok v12 xs es clock) (hv : Kd.R k63 63 W1 C.w0.heap.size (fun _ => True) v (C.D i j).2) (hge : C.w0.heap.size ≤ W.heap.size) : From C W i j (.returned (.agg #[.int .i64 (C.D i j).1,v])) ((W1.setCell ⟨W.heap.size,0,none⟩ (.int .i64 cs)).setCell ⟨W.heap.size,1,none⟩ v) := by
 have hk := (za8.set h.b8 0 (.int .i64 cs)).trans (za8.set (zar h.b8 0 (.int .i64 cs)) 1 v)
 have hb : Below C.w0.heap.size C.w0 ((W1.setCell ⟨W.heap.size,0,none⟩ (.int .i64 cs)).setCell ⟨W.heap.size,1,none⟩ v) := zh (zh h.st.below hge) hge
 refine ⟨v,es,clock,rfl,hk.R hv,h.st.step hk hb,?_⟩
 refine ⟨Nat.le_trans h.kb.1 hk.1,fun k hk1 hne _ => ?_⟩
 rw [Below.heap_setCell _ ⟨W.heap.size,1,none⟩ v k qG,Below.heap_setCell _ ⟨W.heap.size,0,none⟩ _ k qG]
 exact h.kb.2 k hk1 hne qC
section
variable {C : DC} {W Wc : World} {g8 g9 i j : Nat} {ok : Nat → Prop} {v12 : Value} {xs : List LV} {es : Array MapEntry} {clock : Nat}
theorem Fr.ck (h : Fr C W Wc g8 g9 i j ok v12 xs es clock) : Wc.cell? ⟨C.gk,0,none⟩ = some (.map (some C.gm)) := zf h.st.bk 0
theorem Fr.co (h : Fr C W Wc g8 g9 i j ok v12 xs es clock) : Wc.cell? ⟨C.go,0,none⟩ = some (.slice C.A0 C.l0.length C.c0) := zf h.st.bo 0
theorem Fr.cp (h : Fr C W Wc g8 g9 i j ok v12 xs es clock) : Wc.cell? ⟨C.gp,0,none⟩ = some (.slice C.A1 C.l1.length C.c1) := zf h.st.bp 0
theorem Fr.cf (h : Fr C W Wc g8 g9 i j ok v12 xs es clock) : Wc.cell? ⟨C.gf,0,none⟩ = some (.func (.func 95) #[] C.zdN) := zf h.st.bf 0
end
theorem zfy {w : World} {A : Option Addr} {n : Nat} {xs : List ByteArray} (h : Kd.string.C w A n xs) (i : Nat) (h1 : i < n) (hx : i < xs.length) : ∃ ad,A = some ad ∧ w.cell? (ad.add i) = some (.string xs[i]) := by
 obtain ⟨ad,c,e,_,hK,hc0⟩ := Kd.ze2 h ByteArray.empty (i : Int) ql ql
 have hK' : c = [.string (xs.getD ((i : Int)).toNat ByteArray.empty)] := hK
 subst hK'
 have := hc0 0 _ rfl
 refine ⟨ad,e,?_⟩
 have e1 : ((i : Int)).toNat * Kd.string.sz + 0 = i := by show ((i : Int)).toNat * 1 + 0 = i; simp
 rw [e1] at this
 rw [this]
 simp [List.getD,hx]
theorem DSt.at0 {C : DC} (ok : C.Ok) {W : World} {es : Array MapEntry} {clock : Nat} (h : DSt C W es clock) {i : Nat} (hi : i < C.l0.length) {ad : Addr} (ha : C.A0 = some ad) : W.cell? (ad.add i) = some (.string C.l0[i]) := by
 obtain ⟨ad',e,hc⟩ := zfy (Kd.zU ok.r0 h.below) i hi hi
 rw [ha] at e
 cases e
 exact hc
theorem DSt.at1 {C : DC} (ok : C.Ok) {W : World} {es : Array MapEntry} {clock : Nat} (h : DSt C W es clock) {j : Nat} (hj : j < C.l1.length) {ad : Addr} (ha : C.A1 = some ad) : W.cell? (ad.add j) = some (.string C.l1[j]) := by
 obtain ⟨ad',e,hc⟩ := zfy (Kd.zU ok.r1 h.below) j hj hj
 rw [ha] at e
 cases e
 exact hc
theorem Fr.elem {C : DC} {W Wc : World} {g8 g9 i j : Nat} {ok : Nat → Prop} {v12 : Value} {xs : List LV} {es : Array MapEntry} {clock : Nat} (h : Fr C W Wc g8 g9 i j ok v12 xs es clock) {v : Value} {l : List S63} (hr : Kd.R k63 63 Wc C.w0.heap.size (fun _ => True) v l) (hok : ∀ k cells,Wc.heap[k]? = some (.cells cells 63 (0,0)) → ok k) : Kd.R k63 63 Wc C.w0.heap.size (fun k => ok k ∧ some k ≠ v12.ownBlock) v l := by
 refine Kd.zaB (Kd.za5 hr) (fun k hk => ?_)
 obtain ⟨_,_,_,q,hq,cells,hc⟩ := hk
 have hq : q = 63 := by simpa [k63,Kd.iso,Kd.pair,Kd.int,Kd.string,Kd.scalar] using hq
 subst hq
 refine ⟨hok k cells hc,fun e => ?_⟩
 obtain ⟨inner,ho⟩ := Kd.zb7 h.row
 obtain ⟨cells',hc'⟩ := zb6 ho k e.symm
 rw [hc] at hc'
 injection hc' with hc'
 injection hc' with _ h2
 exact absurd h2 qq
theorem Fr.new {C : DC} {W Wc : World} {g8 g9 i j : Nat} {ok : Nat → Prop} {v12 : Value} {xs : List LV} {es : Array MapEntry} {clock : Nat} (h : Fr C W Wc g8 g9 i j ok v12 xs es clock) (o : Obj) : Fr C W (Wc.alloc o) g8 g9 i j (fun k => ok k ∧ k ≠ Wc.heap.size) v12 xs es clock := by
 have h1 : Fr C W Wc g8 g9 i j (fun k => ok k ∧ k ≠ Wc.heap.size) v12 xs es clock := { h with
  row := Kd.zaB (Kd.za5 h.row) (fun k hk => ⟨hk.1,by omega⟩)
  okn := fun k hk => h.okn k hk.1 }
 exact h1.below (ze (Below.refl _ _) o)
theorem Fr.zfA {C : DC} {W Wc : World} {g8 g9 i j : Nat} {ok : Nat → Prop} {v12 : Value} {xs : List LV} {es : Array MapEntry} {clock : Nat} (h : Fr C W Wc g8 g9 i j ok v12 xs es clock) : g8 < Wc.heap.size := zR h.b8
theorem zfW (j : Nat) (h : j < 1000) : IntKind.i64.wrap ((j : Int) + 1) = ((j + 1 : Nat) : Int) := by
 rw [zS]
 unfold wrap64
 omega
theorem zbH {C : DC} (m : S63) (i j : Nat) (ok : C.Ok) : (zq m (C.D i j)).2.length < 1000 := by
 have := zcd (C := C) i j ok
 simp only [zq,List.length_cons]
 omega
theorem zdH (j : Nat) (h : j < 1000) : wrap64 ((j : Int) + 1) = ((j + 1 : Nat) : Int) := by
 unfold wrap64
 omega
theorem zg2 {C : DC} {W Wc W1 : World} {g8 g9 i j : Nat} {ok : Nat → Prop} {v12 : Value} {xs : List LV} {es : Array MapEntry} {clock : Nat} (h : Fr C W Wc g8 g9 i j ok v12 xs es clock) {v : Value} {l : List S63} (hr : Kd.R k63 63 Wc C.w0.heap.size (fun _ => True) v l) (hg : Wc.grownBy W1 v12.ownBlock) : Kd.R k63 63 W1 C.w0.heap.size (fun _ => True) v l := by
 obtain ⟨inner,ho⟩ := Kd.zb7 h.row
 exact (za8.grown hg ho).R hr
theorem zhp (W : World) (a b : Array Value) (x y : Obj) : za8 ((W.alloc (.cells a 134)).alloc x) (((W.alloc (.cells b 134)).alloc x).alloc y) := by
 have e1 : ∀ z : Array Value,(W.alloc (.cells z 134)).heap.size = W.heap.size + 1 := fun z => Array.size_push _
 have e2 : ∀ z : Array Value,((W.alloc (.cells z 134)).alloc x).heap.size = W.heap.size + 1 + 1 := fun z => (Array.size_push _).trans (by rw [e1])
 refine ⟨?_,fun k o hk ho => ?_⟩
 ·have e3 : (((W.alloc (.cells b 134)).alloc x).alloc y).heap.size = W.heap.size + 1 + 1 + 1 := (Array.size_push _).trans (by rw [e2])
  rw [e2,e3]; omega
 have hlt : k < W.heap.size + 1 + 1 := by rw [← e2 a]; exact zR hk
 have g1 : ∀ z : Array Value,((W.alloc (.cells z 134)).alloc x).heap[W.heap.size + 1]? = some x := fun z => by
  have := heap_alloc_new (W.alloc (.cells z 134)) x
  rwa [e1] at this
 rcases Nat.lt_trichotomy k W.heap.size with h | h | h
 ·have h1 : ∀ z : Array Value,((W.alloc (.cells z 134)).alloc x).heap[k]? = W.heap[k]? := fun z => (Below.heap_alloc _ _ k (by rw [e1]; omega)).trans (Below.heap_alloc _ _ k h)
  rw [h1] at hk
  exact zi ((h1 b).trans hk) y
 ·subst h
  have h1 : ((W.alloc (.cells a 134)).alloc x).heap[W.heap.size]? = some (.cells a 134 (0,0)) := zi (heap_alloc_new W _) x
  rw [h1] at hk
  exact absurd (Option.some.inj hk).symm (ho a (0,0))
 ·have : k = W.heap.size + 1 := by omega
  subst this
  rw [g1] at hk
  exact zi ((g1 b).trans hk) y
set_option maxHeartbeats 4000000 in
set_option maxRecDepth 100000 in
theorem zgW (C : DC) (ok : C.Ok) : ∀ (n i j : Nat) (W : World) (es : Array MapEntry) (clock : Nat),(C.l0.length - i) + (C.l1.length - j) = n → i ≤ C.l0.length → j ≤ C.l1.length → DSt C W es clock →
  Calls Try.prog 95 #[.int .i64 i, .int .i64 j, .pointer (some ⟨C.gk,0,none⟩), .pointer (some ⟨C.go,0,none⟩), .pointer (some ⟨C.gp,0,none⟩), .pointer (some ⟨C.gf,0,none⟩)] W (From C W i j) := by
 intro n
 induction n using Nat.strongRecOn with
 | ind n ih =>
  intro i j W es clock hn hi hj st0
  have hu134 := Try.underlying134
  have hu135 := Try.underlying135
  have hb1 : Below W.heap.size W (W.alloc (.cells #[.int .i64 0, .slice none 0 0] 134)) := ze (Below.refl _ _) _
  have hb2 : Below W.heap.size W ((W.alloc (.cells #[.int .i64 0, .slice none 0 0] 134)).alloc (.cells #[.int .i64 i, .int .i64 j] 135)) := ze hb1 _
  have st2 := st0.step (za8.below hb2) (zcs st0.below st0.below.size hb2)
  have HS := za.mk st2
  have hge := st0.below.size
  have hb3 : Below W.heap.size W (((W.alloc (.cells #[.int .i64 0, .slice none 0 0] 134)).alloc (.cells #[.int .i64 i, .int .i64 j] 135)).alloc (.cells #[.int .i64 0, .slice none 0 0] 134)) := ze hb2 _
  have st3 := st0.step (za8.below hb3) (zcs st0.below st0.below.size hb3)
  rcases st2.look ok hi hj true with ⟨hl,hne⟩ | ⟨v,hl,hv⟩
  ·clear hne
   have hk := zf st2.bk 0
   unfold kij zdw at hl
   rw [if_pos rfl] at hl
   obtain ⟨W3,hW3⟩ : ∃ W_,((W.alloc (.cells #[.int .i64 0, .slice none 0 0] 134)).alloc (.cells #[.int .i64 i, .int .i64 j] 135)).alloc (.cells #[.int .i64 0, .slice none 0 0] 134) = W_ := ⟨_,rfl⟩
   have FR3 : za (Fr C W W3 W.heap.size (W.heap.size + 1) i j (fun k => k ≠ W.heap.size) (.slice none 0 0) [] es clock) := by
    have e2 : (W.alloc (.cells #[.int .i64 0, .slice none 0 0] 134)).heap.size = W.heap.size + 1 := Array.size_push _
    have h9 := heap_alloc_new (W.alloc (.cells #[.int .i64 0, .slice none 0 0] 134)) (.cells #[.int .i64 i, .int .i64 j] 135)
    rw [e2] at h9
    rw [hW3] at hb3 st3
    refine ⟨st3,zM.of_below hb3 _ none,?_,Nat.le_refl _,?_,Kd.zbG _ _ _ _ _,fun _ h => h,fun k hk => by simp [Value.ownBlock] at hk⟩
    ·rw [← hW3]; exact zi (zi (heap_alloc_new W _) _) _
    ·rw [← hW3]; exact zi h9 _
   have hco : W3.cell? ⟨C.go,0,none⟩ = some (.slice C.A0 C.l0.length C.c0) := zf FR3.out.st.bo 0
   have hcp : W3.cell? ⟨C.gp,0,none⟩ = some (.slice C.A1 C.l1.length C.c1) := zf FR3.out.st.bp 0
   have hcf : W3.cell? ⟨C.gf,0,none⟩ = some (.func (.func 95) #[] #[.pointer (some ⟨C.gk,0,none⟩), .pointer (some ⟨C.go,0,none⟩), .pointer (some ⟨C.gp,0,none⟩), .pointer (some ⟨C.gf,0,none⟩)]) := FR3.out.cf
   rw [← hW3] at hco hcp hcf
   have hs3 : W3.heap.size = W.heap.size + 1 + 1 + 1 := by
    rw [← hW3]
    exact (Array.size_push _).trans (congrArg (· + 1) ((Array.size_push _).trans (congrArg (· + 1) (Array.size_push _))))
   have HW3 := za.mk hW3
   have HS3 := za.mk hs3
   clear hs3
   clear hb1 hb2 hb3 st2 st3 hW3
   by_cases hi0 : i = C.l0.length
   ·by_cases hj0 : j = C.l1.length
    ·have hD := zju (C := C) hi0 hj0
     have t1 : ((i : Int) == (C.l0.length : Int)) = true := by simp [hi0]
     have t2 : ((j : Int) == (C.l1.length : Int)) = true := by simp [hj0]
     have t3 : decide (i < C.l0.length) = false := decide_eq_false ql
     have t4 : decide (j < C.l1.length) = false := decide_eq_false ql
     have HT := za.mk (And.intro hi0 hj0)
     clear hi0 hj0
     go_enter Try.func95,Try.ntmps95
     go_wp2_with ((with_reducible refine za1 (b := .append) (xs := #[.tmp 35, .tmp 37]) rfl ?_); rw [HW3.out]; at_builtin; refine Kd.zc4 kL (w0 := C.w0) C.w0.heap.size rfl (.tmp 35) (.tmp 37) 137 134 _ 32 rfl Try.underlying137 zc2 rfl qq ql (.slice none 0 0) [] zL [.int .i64 0, .slice none 0 0] (fun k => k ≠ W.heap.size) (fun _ => False) rfl (by rw [HS3.out]; rfl) ⟨rfl,Kd.zbG _ _ _ _ _⟩ (fun _ hk => hk.elim) (fun k hk => by have := FR3.out.kb.1; have := zR FR3.out.b8; omega) FR3.out.row FR3.out.st.below FR3.out.st.below.size qC ?_; intro v12 Wc hr hb hg hat; have FR := za.mk (FR3.out.append hr hb hg hat); have hcp' := FR.out.cp; have hco' := FR.out.co; clear hr hb hg hat hcp hco)
     have HD : za (zaq zL.2 (([] : List LV).map Prod.snd) = C.D i j) := ⟨hD.symm⟩
     have HL : za (∀ x ∈ [zL],x.2.2.length < 1000) := ⟨fun x hx => by rw [List.mem_singleton.1 hx]; decide⟩
     have HN : za (([] : List LV).length < 10) := ⟨by decide⟩
     clear hD hco' hcp'
     obtain ⟨x0,xr,hx⟩ : ∃ (x0 : LV) (xr : List LV),x0 = zL ∧ xr = [] := ⟨_,_,rfl,rfl⟩
     rw [← hx.2, ← hx.1] at HL
     rw [← hx.2] at HN
     rw [← hx.1, ← hx.2] at HD
     have FR := za.mk (show Fr C W Wc W.heap.size (W.heap.size + 1) i j (fun k => k ≠ W.heap.size) v12 (x0 :: xr) es clock by rw [hx.1,hx.2]; exact FR.out)
     clear hx
     obtain ⟨g12,cap12,As,rfl,hx0,hx1,hK0,hcut,hC,hcl,hR⟩ := FR.out.opens
     have hck := zf FR.out.st.bk 0
     have hc90 := (zf FR.out.b9 0).trans rfl
     have hc91 := (zf FR.out.b9 1).trans rfl
     obtain ⟨cx,vx,lx⟩ := x0
     obtain ⟨_,Bx,ccx,hvx,hcx,hrx⟩ := hK0
     dsimp only at hx0 hx1 hvx hcx hrx
     subst hvx
     have HX := za.mk (And.intro hcx (And.intro hrx (And.intro hC (And.intro hcl hR))))
     clear hcx hrx hC hcl hR
     replace hck : Wc.cell? ⟨C.gk,0,none⟩ = some (.map (some C.gm)) := hck
     replace hc90 : Wc.cell? ⟨W.heap.size + 1,0,none⟩ = some (.int .i64 i) := hc90
     replace hc91 : Wc.cell? ⟨W.heap.size + 1,1,none⟩ = some (.int .i64 j) := hc91
     go_wp2_with fail
     refine zal (fun W' => W'.cell? ⟨C.gk,0,none⟩ = some (.map (some C.gm)) ∧ W'.cell? ⟨W.heap.size + 1,0,none⟩ = some (.int .i64 i) ∧ W'.cell? ⟨W.heap.size + 1,1,none⟩ = some (.int .i64 j) ∧ W'.cell? ⟨g12,0,none⟩ = some (.int .i64 vx) ∧ W'.cell? ⟨g12,1,none⟩ = some (.slice Bx lx.length ccx)) [8] qg ?_
     have HS : Wc.drew.cell? ⟨C.gk,0,none⟩ = some (.map (some C.gm)) ∧ Wc.drew.cell? ⟨W.heap.size + 1,0,none⟩ = some (.int .i64 i) ∧ Wc.drew.cell? ⟨W.heap.size + 1,1,none⟩ = some (.int .i64 j) ∧ Wc.drew.cell? ⟨g12,0,none⟩ = some (.int .i64 vx) ∧ Wc.drew.cell? ⟨g12,1,none⟩ = some (.slice Bx lx.length ccx) := ⟨hck,hc90,hc91,hx0,hx1⟩
     refine tk 0 ?_
     (try simp only [pu0,pu1,pu2,pu3,pu4])
     refine tk 1 ?_
     (try simp only [pu0,pu1,pu2,pu3,pu4])
     refine tk 2 ?_
     (try simp only [pu0,pu1,pu2,pu3,pu4])
     refine tk 3 ?_
     (try simp only [pu0,pu1,pu2,pu3,pu4])
     refine tk 4 ?_
     (try simp only [pu0,pu1,pu2,pu3,pu4])
     refine tk 5 ?_
     (try simp only [pu0,pu1,pu2,pu3,pu4])
     refine tk 6 ?_
     (try simp only [pu0,pu1,pu2,pu3,pu4])
     refine on1 7 fun K hK => ?_
     refine zbv Try.func97 qg rfl #[.func (.func 98) #[] #[], .agg #[.int .i64 vx, .slice Bx lx.length ccx], .slice As xr.length (cap12 - 1)] qA rfl rfl qo ?_
     refine (zcF (.slice Bx lx.length ccx,vx,lx) As (cap12 - 1) xr Wc.drew ⟨rfl,Bx,ccx,rfl,HX.out.1,HX.out.2.1⟩ HX.out.2.2.1 HX.out.2.2.2.1 (HL.out _ List.mem_cons_self) (fun x hx => HL.out x (List.mem_cons_of_mem _ hx)) (qB HN.out)).mono ?_
     rintro e w' ⟨rfl,hb⟩
     refine ⟨_,rfl,?_⟩
     have FR' := za.mk (FR.out.drew.below hb)
     have hv : ∃ v,zaY (.slice Bx lx.length ccx,vx,lx) xr = (v,C.D i j) ∧ Kd.R k63 63 w' C.w0.heap.size (fun _ => True) v (C.D i j).2 := by
      have h1 := zcU xr (.slice Bx lx.length ccx,vx,lx)
      have h2 := h1.trans HD.out
      have h3 : Kd.R k63 63 Wc C.w0.heap.size (fun _ => True) (zaY (.slice Bx lx.length ccx,vx,lx) xr).1 (zaY (.slice Bx lx.length ccx,vx,lx) xr).2.2 := by
       rcases zcP xr (.slice Bx lx.length ccx,vx,lx) with h | h
       ·rw [h]; exact HX.out.2.2.2.2 _ List.mem_cons_self
       ·exact HX.out.2.2.2.2 _ (List.mem_cons_of_mem _ h)
      rw [h2] at h3
      exact ⟨_,Prod.ext rfl h2,Kd.zD (w := Wc.drew) h3 hb⟩
     obtain ⟨v,hv1,hv2⟩ := hv
     rw [hv1]
     dsimp only
     have HS : w'.cell? ⟨C.gk,0,none⟩ = some (.map (some C.gm)) ∧ w'.cell? ⟨W.heap.size + 1,0,none⟩ = some (.int .i64 i) ∧ w'.cell? ⟨W.heap.size + 1,1,none⟩ = some (.int .i64 j) ∧ w'.cell? ⟨g12,0,none⟩ = some (.int .i64 vx) ∧ w'.cell? ⟨g12,1,none⟩ = some (.slice Bx lx.length ccx) := by
      obtain ⟨inner,hown⟩ := Kd.zb7 FR.out.row
      have hg12 : g12 < Wc.drew.heap.size := zcS hown g12 rfl
      exact ⟨zf FR'.out.st.bk 0,(zf FR'.out.b9 0).trans rfl,(zf FR'.out.b9 1).trans rfl,(World.cell?_of_block (hb.block g12 hg12)).trans hx0,(World.cell?_of_block (hb.block g12 hg12)).trans hx1⟩
     refine hK.out _ _ (fun _ => HS) ?_
     clear hK K
     (try simp only [pu0,pu1,pu2,pu3,pu4])
     refine on1 8 fun K hK => ?_
     obtain ⟨W1,es1,clock1,hup,st1,kb1,hmem⟩ := FR'.out.st.update ok hi hj hv2
     unfold kij at hup
     go_simp
     refine hK.out _ _ (fun h => absurd h qq) ?_
     clear hK K
     refine zac qg ?_ _
     have FR1 := za.mk (FR'.out.call st1 kb1)
     clear HS hup FR' hx0 hx1 hck hc90 hc91
     have hlook := st1.look ok hi hj false
     rcases hlook with ⟨_,hno⟩ | ⟨v2,hl2,hv3⟩
     ·obtain ⟨e1,he1,he2⟩ := hmem
      exact absurd he2 (hno e1 he1)
     obtain ⟨B2,c2,rfl,hc2,hr2⟩ := Kd.zak hv3
     unfold kij at hl2
     rw [if_neg qq] at hl2
     have hck : W1.cell? ⟨C.gk,0,none⟩ = some (.map (some C.gm)) := zf FR1.out.st.bk 0
     have hc90 : W1.cell? ⟨W.heap.size + 1,0,none⟩ = some (.int .i64 i) := (zf FR1.out.b9 0).trans rfl
     have hc91 : W1.cell? ⟨W.heap.size + 1,1,none⟩ = some (.int .i64 j) := (zf FR1.out.b9 1).trans rfl
     have hc80 : W1.cell? ⟨W.heap.size,0,none⟩ = some (.int .i64 0) := zf FR1.out.b8 0
     have hf80 : W1.frozen? ⟨W.heap.size,0,none⟩ = false := zn FR1.out.b8 0
     have hc81 : (W1.setCell ⟨W.heap.size,0,none⟩ (.int .i64 (C.D i j).1)).cell? ⟨W.heap.size,1,none⟩ = some (.slice none 0 0) := zf (zar FR1.out.b8 0 _) 1
     have hf81 : (W1.setCell ⟨W.heap.size,0,none⟩ (.int .i64 (C.D i j).1)).frozen? ⟨W.heap.size,1,none⟩ = false := zn (zar FR1.out.b8 0 _) 1
     have HR3 := za.mk hv3
     clear hv3 hmem
     go_wp2_with fail
     have hb8 : ((W1.setCell ⟨W.heap.size,0,none⟩ (.int .i64 (C.D i j).1)).setCell ⟨W.heap.size,1,none⟩ (.slice B2 (C.D i j).2.length c2)).heap[W.heap.size]? = some (.cells #[.int .i64 (C.D i j).1, .slice B2 (C.D i j).2.length c2] 134 (0,0)) := zV (zV FR1.out.b8 0 _ rfl) 1 _ rfl
     refine bodyPost_ret (results_cell_row rfl _ _ W.heap.size 134 #[.int .i64 (C.D i j).1, .slice B2 (C.D i j).2.length c2] (0,0) _ rfl hb8 Try.underlying134 rfl qg) rfl ?_
     exact zdh FR1.out HR3.out hge
    ·have hj1 : j < C.l1.length := by omega
     have hD := zjv (C := C) hi0 hj1
     obtain ⟨ad1,eA1,_⟩ := zfy ok.r1 j hj1 hj1
     have t1 : ((i : Int) == (C.l0.length : Int)) = true := by simp [hi0]
     have t2 : ((j : Int) == (C.l1.length : Int)) = false := by simp; omega
     have t3 : decide (i < C.l0.length) = false := decide_eq_false ql
     have t4 : decide (j < C.l1.length) = true := decide_eq_true ql
     have HT := za.mk (And.intro hi0 hj0)
     have HDD := za.mk hD
     rw [eA1] at hcp
     have HA1 := za.mk eA1
     clear hi0 hj0 hD eA1 hcf
     go_enter Try.func95,Try.ntmps95
     go_wp2_with fail
     rw [HW3.out]
     refine zal (fun W' => W'.cell? ⟨C.gf,0,none⟩ = some (.func (.func 95) #[] #[.pointer (some ⟨C.gk,0,none⟩), .pointer (some ⟨C.go,0,none⟩), .pointer (some ⟨C.gp,0,none⟩), .pointer (some ⟨C.gf,0,none⟩)]) ∧ W'.cell? ⟨C.gp,0,none⟩ = some (.slice (some ad1) C.l1.length C.c1) ∧ W'.cell? (ad1.add j) = some (.string C.l1[j])) [] qg ?_
     have HS : W3.drew.cell? ⟨C.gf,0,none⟩ = some (.func (.func 95) #[] #[.pointer (some ⟨C.gk,0,none⟩), .pointer (some ⟨C.go,0,none⟩), .pointer (some ⟨C.gp,0,none⟩), .pointer (some ⟨C.gf,0,none⟩)]) ∧ W3.drew.cell? ⟨C.gp,0,none⟩ = some (.slice (some ad1) C.l1.length C.c1) ∧ W3.drew.cell? (ad1.add j) = some (.string C.l1[j]) := ⟨FR3.out.drew.cf,(FR3.out.drew.cp.trans (by rw [HA1.out])),(FR3.out.drew.st.at1 ok hj1 HA1.out)⟩
     refine tk 0 ?_
     (try simp only [pu0,pu1,pu2,pu3,pu4])
     refine tk 1 ?_
     (try simp only [pu0,pu1,pu2,pu3,pu4])
     refine tk 2 ?_
     (try simp only [pu0,pu1,pu2,pu3,pu4])
     refine tk 3 ?_
     (try simp only [pu0,pu1,pu2,pu3,pu4])
     refine tk 4 ?_
     (try simp only [pu0,pu1,pu2,pu3,pu4])
     refine tk 6 ?_
     (try simp only [pu0,pu1,pu2,pu3,pu4])
     refine tk 7 ?_
     (try simp only [pu0,pu1,pu2,pu3,pu4])
     refine tk 8 ?_
     (try simp only [pu0,pu1,pu2,pu3,pu4])
     refine tk 9 ?_
     (try simp only [pu0,pu1,pu2,pu3,pu4])
     refine tk 10 ?_
     (try simp only [pu0,pu1,pu2,pu3,pu4])
     refine tk 11 ?_
     (try simp only [pu0,pu1,pu2,pu3,pu4])
     refine on1 5 fun K hK => ?_
     clear HS
     have ihc := ih _ ql i (j + 1) W3.drew _ _ rfl hi ql FR3.out.drew.st
     rw [← zfW j (by have := ok.n1; omega)] at ihc
     refine zfR Try.func95 qg rfl #[.int .i64 i, .int .i64 (IntKind.i64.wrap ((j : Int) + 1)), .pointer (some ⟨C.gk,0,none⟩), .pointer (some ⟨C.go,0,none⟩), .pointer (some ⟨C.gp,0,none⟩), .pointer (some ⟨C.gf,0,none⟩)] qA rfl rfl qA qo ?_
     refine ihc.mono ?_
     clear ihc
     rintro e w1 ⟨v,es1,clock1,rfl,hv,st1,kb1⟩
     obtain ⟨Bv,cv,rfl,hcv,hrv⟩ := Kd.zak hv
     refine ⟨_,rfl,?_⟩
     have FRc := za.mk (FR3.out.drew.call st1 kb1)
     have HV := za.mk (And.intro hcv hrv)
     clear hv st1 kb1 hcv hrv
     have HS : w1.cell? ⟨C.gf,0,none⟩ = some (.func (.func 95) #[] #[.pointer (some ⟨C.gk,0,none⟩), .pointer (some ⟨C.go,0,none⟩), .pointer (some ⟨C.gp,0,none⟩), .pointer (some ⟨C.gf,0,none⟩)]) ∧ w1.cell? ⟨C.gp,0,none⟩ = some (.slice (some ad1) C.l1.length C.c1) ∧ w1.cell? (ad1.add j) = some (.string C.l1[j]) := ⟨FRc.out.cf,(FRc.out.cp.trans (by rw [HA1.out])),(FRc.out.st.at1 ok hj1 HA1.out)⟩
     refine hK.out _ _ (fun _ => HS) ?_
     clear hK K
     (try simp only [pu0,pu1,pu2,pu3,pu4])
     refine on1 12 fun K hK => ?_
     clear HS
     refine zbv Try.func96 qg rfl #[.agg #[.int .i64 (C.D i (j + 1)).1, .slice Bv (C.D i (j + 1)).2.length cv], .agg #[.int .i64 1, .int .i64 i, .string C.l1[j]]] qA rfl rfl qo ?_
     refine (zaf.calls (C.D i (j + 1)).1 Bv cv (C.D i (j + 1)).2 1 i C.l1[j] (zq ⟨1,i,C.l1[j]⟩ (C.D i (j + 1))).1 (zq ⟨1,i,C.l1[j]⟩ (C.D i (j + 1))).2 w1 HV.out.2 HV.out.1 (zdg ⟨1,i,C.l1[j]⟩ _ _ (by have := zcd (C := C) i (j + 1) ok; omega))).mono ?_
     rintro e w2 ⟨v1,rfl,hR1,hb1⟩
     have hge1 := FRc.out.st.below.size
     replace hR1 := Kd.zaO hR1 hge1
     obtain ⟨Ba,ca,rfl,hc1,hr1⟩ := Kd.zak hR1
     refine ⟨_,rfl,?_⟩
     have FRd := za.mk (FRc.out.below hb1)
     have HR1 := za.mk hR1
     clear hge1 hR1 hc1 hr1 hb1 FRc HV
     have HS : w2.cell? ⟨C.gf,0,none⟩ = some (.func (.func 95) #[] #[.pointer (some ⟨C.gk,0,none⟩), .pointer (some ⟨C.go,0,none⟩), .pointer (some ⟨C.gp,0,none⟩), .pointer (some ⟨C.gf,0,none⟩)]) ∧ w2.cell? ⟨C.gp,0,none⟩ = some (.slice (some ad1) C.l1.length C.c1) ∧ w2.cell? (ad1.add j) = some (.string C.l1[j]) := ⟨FRd.out.cf,(FRd.out.cp.trans (by rw [HA1.out])),(FRd.out.st.at1 ok hj1 HA1.out)⟩
     refine hK.out _ _ (fun _ => HS) ?_
     clear hK K
     (try simp only [pu0,pu1,pu2,pu3,pu4])
     refine on1 13 fun K hK => ?_
     clear HS
     have HS : (w2.alloc (.cells #[.int .i64 (zq ⟨1,i,C.l1[j]⟩ (C.D i (j + 1))).1, .slice Ba (zq ⟨1,i,C.l1[j]⟩ (C.D i (j + 1))).2.length ca] 134)).cell? ⟨C.gf,0,none⟩ = some (.func (.func 95) #[] #[.pointer (some ⟨C.gk,0,none⟩), .pointer (some ⟨C.go,0,none⟩), .pointer (some ⟨C.gp,0,none⟩), .pointer (some ⟨C.gf,0,none⟩)]) ∧ (w2.alloc (.cells #[.int .i64 (zq ⟨1,i,C.l1[j]⟩ (C.D i (j + 1))).1, .slice Ba (zq ⟨1,i,C.l1[j]⟩ (C.D i (j + 1))).2.length ca] 134)).cell? ⟨C.gp,0,none⟩ = some (.slice (some ad1) C.l1.length C.c1) ∧ (w2.alloc (.cells #[.int .i64 (zq ⟨1,i,C.l1[j]⟩ (C.D i (j + 1))).1, .slice Ba (zq ⟨1,i,C.l1[j]⟩ (C.D i (j + 1))).2.length ca] 134)).cell? (ad1.add j) = some (.string C.l1[j]) := ⟨(FRd.out.below (ze (Below.refl _ _) _)).cf,((FRd.out.below (ze (Below.refl _ _) _)).cp.trans (by rw [HA1.out])),((FRd.out.below (ze (Below.refl _ _) _)).st.at1 ok hj1 HA1.out)⟩
     go_simp
     refine hK.out _ _ (fun _ => HS) ?_
     clear hK K
     (try simp only [pu0,pu1,pu2,pu3,pu4])
     refine on1 14 fun K hK => ?_
     clear HS
     refine Kd.zcH kL (w0 := C.w0) (W := w2) C.w0.heap.size qA (.tmp 43) (.tmp 56) 137 134 _ 32 qA Try.underlying137 zc2 rfl qq qq (.slice none 0 0) [] (.slice Ba (zq ⟨1,i,C.l1[j]⟩ (C.D i (j + 1))).2.length ca,zq ⟨1,i,C.l1[j]⟩ (C.D i (j + 1))) [.int .i64 (zq ⟨1,i,C.l1[j]⟩ (C.D i (j + 1))).1, .slice Ba (zq ⟨1,i,C.l1[j]⟩ (C.D i (j + 1))).2.length ca] (fun k => k ≠ W.heap.size) _ qA qA ⟨rfl,FRd.out.elem HR1.out (fun k cells hc e => by subst e; have := FRd.out.b8; rw [hc] at this; cases this)⟩ (fun k hk => hk) (fun k hk => by have := FRd.out.zfA; omega) FRd.out.row FRd.out.st.below FRd.out.st.below.size qC ?_
     intro v4 W4 hr hb hg hat
     have FR4 := za.mk (FRd.out.append hr hb hg hat)
     have HE3 := HR1
     clear hr hb hg hat FRd HR1
     have HS : W4.cell? ⟨C.gf,0,none⟩ = some (.func (.func 95) #[] #[.pointer (some ⟨C.gk,0,none⟩), .pointer (some ⟨C.go,0,none⟩), .pointer (some ⟨C.gp,0,none⟩), .pointer (some ⟨C.gf,0,none⟩)]) ∧ W4.cell? ⟨C.gp,0,none⟩ = some (.slice (some ad1) C.l1.length C.c1) ∧ W4.cell? (ad1.add j) = some (.string C.l1[j]) := ⟨FR4.out.cf,(FR4.out.cp.trans (by rw [HA1.out])),(FR4.out.st.at1 ok hj1 HA1.out)⟩
     refine hK.out _ _ (fun _ => HS) ?_
     clear hK K
     (try simp only [pu0,pu1,pu2,pu3,pu4])
     refine tk 15 ?_
     (try simp only [pu0,pu1,pu2,pu3,pu4])
     clear HS
     refine zac qg ?_ _
     have hcp' := FR4.out.cp
     have hco' := FR4.out.co
     have hck' := FR4.out.ck
     go_wp2_with fail
     clear hcp' hco' hck'
     have HD : za (zaq ((.slice Ba (zq ⟨1,i,C.l1[j]⟩ (C.D i (j + 1))).2.length ca,zq ⟨1,i,C.l1[j]⟩ (C.D i (j + 1))) : LV).2 (([] : List LV).map Prod.snd) = C.D i j) := ⟨HDD.out.symm⟩
     have HL : za (∀ x ∈ ((.slice Ba (zq ⟨1,i,C.l1[j]⟩ (C.D i (j + 1))).2.length ca,zq ⟨1,i,C.l1[j]⟩ (C.D i (j + 1))) : LV) :: ([] : List LV),x.2.2.length < 1000) := ⟨fun x hx => by
      simp only [List.mem_cons,List.not_mem_nil,or_false] at hx
      rcases hx with rfl
      ·first | exact zbH _ _ _ ok | exact Nat.lt_of_le_of_lt (zcd _ _ ok) qq⟩
     have HN : za (([] : List LV).length < 10) := ⟨by simp⟩
     have FR := za.mk (show Fr C W W4 W.heap.size (W.heap.size + 1) i j (fun k => k ≠ W.heap.size) v4 (((.slice Ba (zq ⟨1,i,C.l1[j]⟩ (C.D i (j + 1))).2.length ca,zq ⟨1,i,C.l1[j]⟩ (C.D i (j + 1))) : LV) :: ([] : List LV)) _ _ from FR4.out)
     clear FR4
     obtain ⟨x0,hx0⟩ : ∃ x : LV,((.slice Ba (zq ⟨1,i,C.l1[j]⟩ (C.D i (j + 1))).2.length ca,zq ⟨1,i,C.l1[j]⟩ (C.D i (j + 1))) : LV) = x := ⟨_,rfl⟩
     obtain ⟨xr,hxr⟩ : ∃ x : List LV,([] : List LV) = x := ⟨_,rfl⟩
     rw [hx0,hxr] at HL FR HD
     rw [hxr] at HN
     clear hx0 hxr
     obtain ⟨Wc,hWc⟩ : ∃ W_,W4 = W_ := ⟨_,rfl⟩
     subst hWc
     obtain ⟨g12,cap12,As,rfl,hx0,hx1,hK0,hcut,hC,hcl,hR⟩ := FR.out.opens
     have hck := zf FR.out.st.bk 0
     have hc90 := (zf FR.out.b9 0).trans rfl
     have hc91 := (zf FR.out.b9 1).trans rfl
     obtain ⟨cx,vx,lx⟩ := x0
     obtain ⟨_,Bx,ccx,hvx,hcx,hrx⟩ := hK0
     dsimp only at hx0 hx1 hvx hcx hrx
     subst hvx
     have HX := za.mk (And.intro hcx (And.intro hrx (And.intro hC (And.intro hcl hR))))
     clear hcx hrx hC hcl hR
     replace hck : W4.cell? ⟨C.gk,0,none⟩ = some (.map (some C.gm)) := hck
     replace hc90 : W4.cell? ⟨W.heap.size + 1,0,none⟩ = some (.int .i64 i) := hc90
     replace hc91 : W4.cell? ⟨W.heap.size + 1,1,none⟩ = some (.int .i64 j) := hc91
     go_wp2_with fail
     refine zal (fun W' => W'.cell? ⟨C.gk,0,none⟩ = some (.map (some C.gm)) ∧ W'.cell? ⟨W.heap.size + 1,0,none⟩ = some (.int .i64 i) ∧ W'.cell? ⟨W.heap.size + 1,1,none⟩ = some (.int .i64 j) ∧ W'.cell? ⟨g12,0,none⟩ = some (.int .i64 vx) ∧ W'.cell? ⟨g12,1,none⟩ = some (.slice Bx lx.length ccx)) [8] qg ?_
     have HS : W4.drew.cell? ⟨C.gk,0,none⟩ = some (.map (some C.gm)) ∧ W4.drew.cell? ⟨W.heap.size + 1,0,none⟩ = some (.int .i64 i) ∧ W4.drew.cell? ⟨W.heap.size + 1,1,none⟩ = some (.int .i64 j) ∧ W4.drew.cell? ⟨g12,0,none⟩ = some (.int .i64 vx) ∧ W4.drew.cell? ⟨g12,1,none⟩ = some (.slice Bx lx.length ccx) := ⟨hck,hc90,hc91,hx0,hx1⟩
     refine tk 0 ?_
     (try simp only [pu0,pu1,pu2,pu3,pu4])
     refine tk 1 ?_
     (try simp only [pu0,pu1,pu2,pu3,pu4])
     refine tk 2 ?_
     (try simp only [pu0,pu1,pu2,pu3,pu4])
     refine tk 3 ?_
     (try simp only [pu0,pu1,pu2,pu3,pu4])
     refine tk 4 ?_
     (try simp only [pu0,pu1,pu2,pu3,pu4])
     refine tk 5 ?_
     (try simp only [pu0,pu1,pu2,pu3,pu4])
     refine tk 6 ?_
     (try simp only [pu0,pu1,pu2,pu3,pu4])
     refine on1 7 fun K hK => ?_
     refine zbv Try.func97 qg rfl #[.func (.func 98) #[] #[], .agg #[.int .i64 vx, .slice Bx lx.length ccx], .slice As xr.length (cap12 - 1)] qA rfl rfl qo ?_
     refine (zcF (.slice Bx lx.length ccx,vx,lx) As (cap12 - 1) xr W4.drew ⟨rfl,Bx,ccx,rfl,HX.out.1,HX.out.2.1⟩ HX.out.2.2.1 HX.out.2.2.2.1 (HL.out _ List.mem_cons_self) (fun x hx => HL.out x (List.mem_cons_of_mem _ hx)) (qB HN.out)).mono ?_
     rintro e w' ⟨rfl,hb⟩
     refine ⟨_,rfl,?_⟩
     have FR' := za.mk (FR.out.drew.below hb)
     have hv : ∃ v,zaY (.slice Bx lx.length ccx,vx,lx) xr = (v,C.D i j) ∧ Kd.R k63 63 w' C.w0.heap.size (fun _ => True) v (C.D i j).2 := by
      have h1 := zcU xr (.slice Bx lx.length ccx,vx,lx)
      have h2 := h1.trans HD.out
      have h3 : Kd.R k63 63 W4 C.w0.heap.size (fun _ => True) (zaY (.slice Bx lx.length ccx,vx,lx) xr).1 (zaY (.slice Bx lx.length ccx,vx,lx) xr).2.2 := by
       rcases zcP xr (.slice Bx lx.length ccx,vx,lx) with h | h
       ·rw [h]; exact HX.out.2.2.2.2 _ List.mem_cons_self
       ·exact HX.out.2.2.2.2 _ (List.mem_cons_of_mem _ h)
      rw [h2] at h3
      exact ⟨_,Prod.ext rfl h2,Kd.zD (w := W4.drew) h3 hb⟩
     obtain ⟨v,hv1,hv2⟩ := hv
     rw [hv1]
     dsimp only
     have HS : w'.cell? ⟨C.gk,0,none⟩ = some (.map (some C.gm)) ∧ w'.cell? ⟨W.heap.size + 1,0,none⟩ = some (.int .i64 i) ∧ w'.cell? ⟨W.heap.size + 1,1,none⟩ = some (.int .i64 j) ∧ w'.cell? ⟨g12,0,none⟩ = some (.int .i64 vx) ∧ w'.cell? ⟨g12,1,none⟩ = some (.slice Bx lx.length ccx) := by
      obtain ⟨inner,hown⟩ := Kd.zb7 FR.out.row
      have hg12 : g12 < W4.drew.heap.size := zcS hown g12 rfl
      exact ⟨zf FR'.out.st.bk 0,(zf FR'.out.b9 0).trans rfl,(zf FR'.out.b9 1).trans rfl,(World.cell?_of_block (hb.block g12 hg12)).trans hx0,(World.cell?_of_block (hb.block g12 hg12)).trans hx1⟩
     refine hK.out _ _ (fun _ => HS) ?_
     clear hK K
     (try simp only [pu0,pu1,pu2,pu3,pu4])
     refine on1 8 fun K hK => ?_
     obtain ⟨W1,es1,clock1,hup,st1,kb1,hmem⟩ := FR'.out.st.update ok hi hj hv2
     unfold kij at hup
     go_simp
     refine hK.out _ _ (fun h => absurd h qq) ?_
     clear hK K
     refine zac qg ?_ _
     have FR1 := za.mk (FR'.out.call st1 kb1)
     clear HS hup FR' hx0 hx1 hck hc90 hc91
     have hlook := st1.look ok hi hj false
     rcases hlook with ⟨_,hno⟩ | ⟨v2,hl2,hv3⟩
     ·obtain ⟨e1,he1,he2⟩ := hmem
      exact absurd he2 (hno e1 he1)
     obtain ⟨B2,c2,rfl,hc2,hr2⟩ := Kd.zak hv3
     unfold kij at hl2
     rw [if_neg qq] at hl2
     have hck : W1.cell? ⟨C.gk,0,none⟩ = some (.map (some C.gm)) := zf FR1.out.st.bk 0
     have hc90 : W1.cell? ⟨W.heap.size + 1,0,none⟩ = some (.int .i64 i) := (zf FR1.out.b9 0).trans rfl
     have hc91 : W1.cell? ⟨W.heap.size + 1,1,none⟩ = some (.int .i64 j) := (zf FR1.out.b9 1).trans rfl
     have hc80 : W1.cell? ⟨W.heap.size,0,none⟩ = some (.int .i64 0) := zf FR1.out.b8 0
     have hf80 : W1.frozen? ⟨W.heap.size,0,none⟩ = false := zn FR1.out.b8 0
     have hc81 : (W1.setCell ⟨W.heap.size,0,none⟩ (.int .i64 (C.D i j).1)).cell? ⟨W.heap.size,1,none⟩ = some (.slice none 0 0) := zf (zar FR1.out.b8 0 _) 1
     have hf81 : (W1.setCell ⟨W.heap.size,0,none⟩ (.int .i64 (C.D i j).1)).frozen? ⟨W.heap.size,1,none⟩ = false := zn (zar FR1.out.b8 0 _) 1
     have HR3 := za.mk hv3
     clear hv3 hmem
     go_wp2_with fail
     have hb8 : ((W1.setCell ⟨W.heap.size,0,none⟩ (.int .i64 (C.D i j).1)).setCell ⟨W.heap.size,1,none⟩ (.slice B2 (C.D i j).2.length c2)).heap[W.heap.size]? = some (.cells #[.int .i64 (C.D i j).1, .slice B2 (C.D i j).2.length c2] 134 (0,0)) := zV (zV FR1.out.b8 0 _ rfl) 1 _ rfl
     refine bodyPost_ret (results_cell_row rfl _ _ W.heap.size 134 #[.int .i64 (C.D i j).1, .slice B2 (C.D i j).2.length c2] (0,0) _ rfl hb8 Try.underlying134 rfl qg) rfl ?_
     exact zdh FR1.out HR3.out hge
   ·by_cases hj0 : j = C.l1.length
    ·have hi1 : i < C.l0.length := by omega
     have hD := zjt (C := C) hi1 hj0
     obtain ⟨ad0,eA0,_⟩ := zfy ok.r0 i hi1 hi1
     have t1 : ((i : Int) == (C.l0.length : Int)) = false := by simp; omega
     have t2 : ((j : Int) == (C.l1.length : Int)) = true := by simp; omega
     have t3 : decide (i < C.l0.length) = true := decide_eq_true ql
     have t4 : decide (j < C.l1.length) = false := decide_eq_false ql
     have HT := za.mk (And.intro hi0 hj0)
     have HDD := za.mk hD
     rw [eA0] at hco
     have HA0 := za.mk eA0
     have ihc := ih _ ql (i + 1) j W3 _ _ rfl ql hj FR3.out.st
     rw [← zdH i (by have := ok.n0; omega)] at ihc
     replace ihc := za.mk ihc
     clear hi0 hj0 hD eA0
     go_enter Try.func95,Try.ntmps95
     go_wp2_with (first | ((with_reducible refine zaa (N := 67) rfl ?_); (try rw [HW3.out]); refine zew (some 67) rfl rfl Try.func95 qg rfl #[.int .i64 (wrap64 ((i : Int) + 1)), .int .i64 j, .pointer (some ⟨C.gk,0,none⟩), .pointer (some ⟨C.go,0,none⟩), .pointer (some ⟨C.gp,0,none⟩), .pointer (some ⟨C.gf,0,none⟩)] rfl qA qo ?_; refine ihc.out.mono ?_; rintro e w1 ⟨v,es1,clock1,rfl,hv,st1,kb1⟩; obtain ⟨Bv,cv,rfl,hcv,hrv⟩ := Kd.zak hv; refine ⟨_,rfl,?_⟩; have FRc := za.mk (FR3.out.call st1 kb1); have HV := za.mk (And.intro hcv hrv); clear hv st1 kb1 hcv hrv) | ((with_reducible refine zA (f := 96) rfl ?_); refine zW (some 70) rfl rfl Try.func96 qg rfl #[.agg #[.int .i64 (C.D (i + 1) j).1, .slice Bv (C.D (i + 1) j).2.length cv], .agg #[.int .i64 3, .int .i64 i, .string ⟨#[]⟩]] rfl qo ?_; refine (zaf.calls (C.D (i + 1) j).1 Bv cv (C.D (i + 1) j).2 3 i ⟨#[]⟩ (zq ⟨3,i,⟨#[]⟩⟩ (C.D (i + 1) j)).1 (zq ⟨3,i,⟨#[]⟩⟩ (C.D (i + 1) j)).2 w1 HV.out.2 HV.out.1 (zdg ⟨3,i,⟨#[]⟩⟩ _ _ (by have := zcd (C := C) (i + 1) j ok; omega))).mono ?_; rintro e w2 ⟨v1,rfl,hR1,hb1⟩; have hge1 := FRc.out.st.below.size; replace hR1 := Kd.zaO hR1 hge1; obtain ⟨Bb,cb,rfl,hc1,hr1⟩ := Kd.zak hR1; refine ⟨_,rfl,?_⟩; have FRd := za.mk (FRc.out.below hb1); have HR1 := za.mk hR1; clear hge1 hR1 hc1 hr1 hb1 FRc HV) | ((with_reducible refine za1 (b := .append) (xs := #[.tmp 62, .tmp 71]) rfl ?_); at_builtin; refine Kd.zc4 kL (w0 := C.w0) C.w0.heap.size rfl (.tmp 62) (.tmp 71) 137 134 _ 32 rfl Try.underlying137 zc2 rfl qq ql (.slice none 0 0) [] (.slice Bb (zq ⟨3,i,⟨#[]⟩⟩ (C.D (i + 1) j)).2.length cb,zq ⟨3,i,⟨#[]⟩⟩ (C.D (i + 1) j)) [.int .i64 (zq ⟨3,i,⟨#[]⟩⟩ (C.D (i + 1) j)).1, .slice Bb (zq ⟨3,i,⟨#[]⟩⟩ (C.D (i + 1) j)).2.length cb] (fun k => k ≠ W.heap.size) _ rfl rfl ⟨rfl,FRd.out.elem HR1.out (fun k cells hc e => by subst e; have := FRd.out.b8; rw [hc] at this; cases this)⟩ (fun k hk => hk) (fun k hk => by have := FRd.out.zfA; omega) FRd.out.row FRd.out.st.below FRd.out.st.below.size qC ?_; intro v4 W4 hr hb hg hat; have FR4 := za.mk (FRd.out.append hr hb hg hat); clear hr hb hg hat FRd HR1; have hco' := FR4.out.co; have hcp' := FR4.out.cp; have hcf' : W4.cell? ⟨C.gf,0,none⟩ = some (.func (.func 95) #[] #[.pointer (some ⟨C.gk,0,none⟩), .pointer (some ⟨C.go,0,none⟩), .pointer (some ⟨C.gp,0,none⟩), .pointer (some ⟨C.gf,0,none⟩)]) := FR4.out.cf))
     clear hco' hcp' hcf'
     have HD : za (zaq ((.slice Bb (zq ⟨3,i,⟨#[]⟩⟩ (C.D (i + 1) j)).2.length cb,zq ⟨3,i,⟨#[]⟩⟩ (C.D (i + 1) j)) : LV).2 (([] : List LV).map Prod.snd) = C.D i j) := ⟨HDD.out.symm⟩
     have HL : za (∀ x ∈ ((.slice Bb (zq ⟨3,i,⟨#[]⟩⟩ (C.D (i + 1) j)).2.length cb,zq ⟨3,i,⟨#[]⟩⟩ (C.D (i + 1) j)) : LV) :: ([] : List LV),x.2.2.length < 1000) := ⟨fun x hx => by
      simp only [List.mem_cons,List.not_mem_nil,or_false] at hx
      rcases hx with rfl
      ·first | exact zbH _ _ _ ok | exact Nat.lt_of_le_of_lt (zcd _ _ ok) qq⟩
     have HN : za (([] : List LV).length < 10) := ⟨by simp⟩
     have FR := za.mk (show Fr C W W4 W.heap.size (W.heap.size + 1) i j (fun k => k ≠ W.heap.size) v4 (((.slice Bb (zq ⟨3,i,⟨#[]⟩⟩ (C.D (i + 1) j)).2.length cb,zq ⟨3,i,⟨#[]⟩⟩ (C.D (i + 1) j)) : LV) :: ([] : List LV)) _ _ from FR4.out)
     clear FR4
     obtain ⟨x0,hx0⟩ : ∃ x : LV,((.slice Bb (zq ⟨3,i,⟨#[]⟩⟩ (C.D (i + 1) j)).2.length cb,zq ⟨3,i,⟨#[]⟩⟩ (C.D (i + 1) j)) : LV) = x := ⟨_,rfl⟩
     obtain ⟨xr,hxr⟩ : ∃ x : List LV,([] : List LV) = x := ⟨_,rfl⟩
     rw [hx0,hxr] at HL FR HD
     rw [hxr] at HN
     clear hx0 hxr
     obtain ⟨Wc,hWc⟩ : ∃ W_,W4 = W_ := ⟨_,rfl⟩
     subst hWc
     obtain ⟨g12,cap12,As,rfl,hx0,hx1,hK0,hcut,hC,hcl,hR⟩ := FR.out.opens
     have hck := zf FR.out.st.bk 0
     have hc90 := (zf FR.out.b9 0).trans rfl
     have hc91 := (zf FR.out.b9 1).trans rfl
     obtain ⟨cx,vx,lx⟩ := x0
     obtain ⟨_,Bx,ccx,hvx,hcx,hrx⟩ := hK0
     dsimp only at hx0 hx1 hvx hcx hrx
     subst hvx
     have HX := za.mk (And.intro hcx (And.intro hrx (And.intro hC (And.intro hcl hR))))
     clear hcx hrx hC hcl hR
     replace hck : W4.cell? ⟨C.gk,0,none⟩ = some (.map (some C.gm)) := hck
     replace hc90 : W4.cell? ⟨W.heap.size + 1,0,none⟩ = some (.int .i64 i) := hc90
     replace hc91 : W4.cell? ⟨W.heap.size + 1,1,none⟩ = some (.int .i64 j) := hc91
     go_wp2_with fail
     refine zal (fun W' => W'.cell? ⟨C.gk,0,none⟩ = some (.map (some C.gm)) ∧ W'.cell? ⟨W.heap.size + 1,0,none⟩ = some (.int .i64 i) ∧ W'.cell? ⟨W.heap.size + 1,1,none⟩ = some (.int .i64 j) ∧ W'.cell? ⟨g12,0,none⟩ = some (.int .i64 vx) ∧ W'.cell? ⟨g12,1,none⟩ = some (.slice Bx lx.length ccx)) [8] qg ?_
     have HS : W4.drew.cell? ⟨C.gk,0,none⟩ = some (.map (some C.gm)) ∧ W4.drew.cell? ⟨W.heap.size + 1,0,none⟩ = some (.int .i64 i) ∧ W4.drew.cell? ⟨W.heap.size + 1,1,none⟩ = some (.int .i64 j) ∧ W4.drew.cell? ⟨g12,0,none⟩ = some (.int .i64 vx) ∧ W4.drew.cell? ⟨g12,1,none⟩ = some (.slice Bx lx.length ccx) := ⟨hck,hc90,hc91,hx0,hx1⟩
     refine tk 0 ?_
     (try simp only [pu0,pu1,pu2,pu3,pu4])
     refine tk 1 ?_
     (try simp only [pu0,pu1,pu2,pu3,pu4])
     refine tk 2 ?_
     (try simp only [pu0,pu1,pu2,pu3,pu4])
     refine tk 3 ?_
     (try simp only [pu0,pu1,pu2,pu3,pu4])
     refine tk 4 ?_
     (try simp only [pu0,pu1,pu2,pu3,pu4])
     refine tk 5 ?_
     (try simp only [pu0,pu1,pu2,pu3,pu4])
     refine tk 6 ?_
     (try simp only [pu0,pu1,pu2,pu3,pu4])
     refine on1 7 fun K hK => ?_
     refine zbv Try.func97 qg rfl #[.func (.func 98) #[] #[], .agg #[.int .i64 vx, .slice Bx lx.length ccx], .slice As xr.length (cap12 - 1)] qA rfl rfl qo ?_
     refine (zcF (.slice Bx lx.length ccx,vx,lx) As (cap12 - 1) xr W4.drew ⟨rfl,Bx,ccx,rfl,HX.out.1,HX.out.2.1⟩ HX.out.2.2.1 HX.out.2.2.2.1 (HL.out _ List.mem_cons_self) (fun x hx => HL.out x (List.mem_cons_of_mem _ hx)) (qB HN.out)).mono ?_
     rintro e w' ⟨rfl,hb⟩
     refine ⟨_,rfl,?_⟩
     have FR' := za.mk (FR.out.drew.below hb)
     have hv : ∃ v,zaY (.slice Bx lx.length ccx,vx,lx) xr = (v,C.D i j) ∧ Kd.R k63 63 w' C.w0.heap.size (fun _ => True) v (C.D i j).2 := by
      have h1 := zcU xr (.slice Bx lx.length ccx,vx,lx)
      have h2 := h1.trans HD.out
      have h3 : Kd.R k63 63 W4 C.w0.heap.size (fun _ => True) (zaY (.slice Bx lx.length ccx,vx,lx) xr).1 (zaY (.slice Bx lx.length ccx,vx,lx) xr).2.2 := by
       rcases zcP xr (.slice Bx lx.length ccx,vx,lx) with h | h
       ·rw [h]; exact HX.out.2.2.2.2 _ List.mem_cons_self
       ·exact HX.out.2.2.2.2 _ (List.mem_cons_of_mem _ h)
      rw [h2] at h3
      exact ⟨_,Prod.ext rfl h2,Kd.zD (w := W4.drew) h3 hb⟩
     obtain ⟨v,hv1,hv2⟩ := hv
     rw [hv1]
     dsimp only
     have HS : w'.cell? ⟨C.gk,0,none⟩ = some (.map (some C.gm)) ∧ w'.cell? ⟨W.heap.size + 1,0,none⟩ = some (.int .i64 i) ∧ w'.cell? ⟨W.heap.size + 1,1,none⟩ = some (.int .i64 j) ∧ w'.cell? ⟨g12,0,none⟩ = some (.int .i64 vx) ∧ w'.cell? ⟨g12,1,none⟩ = some (.slice Bx lx.length ccx) := by
      obtain ⟨inner,hown⟩ := Kd.zb7 FR.out.row
      have hg12 : g12 < W4.drew.heap.size := zcS hown g12 rfl
      exact ⟨zf FR'.out.st.bk 0,(zf FR'.out.b9 0).trans rfl,(zf FR'.out.b9 1).trans rfl,(World.cell?_of_block (hb.block g12 hg12)).trans hx0,(World.cell?_of_block (hb.block g12 hg12)).trans hx1⟩
     refine hK.out _ _ (fun _ => HS) ?_
     clear hK K
     (try simp only [pu0,pu1,pu2,pu3,pu4])
     refine on1 8 fun K hK => ?_
     obtain ⟨W1,es1,clock1,hup,st1,kb1,hmem⟩ := FR'.out.st.update ok hi hj hv2
     unfold kij at hup
     go_simp
     refine hK.out _ _ (fun h => absurd h qq) ?_
     clear hK K
     refine zac qg ?_ _
     have FR1 := za.mk (FR'.out.call st1 kb1)
     clear HS hup FR' hx0 hx1 hck hc90 hc91
     have hlook := st1.look ok hi hj false
     rcases hlook with ⟨_,hno⟩ | ⟨v2,hl2,hv3⟩
     ·obtain ⟨e1,he1,he2⟩ := hmem
      exact absurd he2 (hno e1 he1)
     obtain ⟨B2,c2,rfl,hc2,hr2⟩ := Kd.zak hv3
     unfold kij at hl2
     rw [if_neg qq] at hl2
     have hck : W1.cell? ⟨C.gk,0,none⟩ = some (.map (some C.gm)) := zf FR1.out.st.bk 0
     have hc90 : W1.cell? ⟨W.heap.size + 1,0,none⟩ = some (.int .i64 i) := (zf FR1.out.b9 0).trans rfl
     have hc91 : W1.cell? ⟨W.heap.size + 1,1,none⟩ = some (.int .i64 j) := (zf FR1.out.b9 1).trans rfl
     have hc80 : W1.cell? ⟨W.heap.size,0,none⟩ = some (.int .i64 0) := zf FR1.out.b8 0
     have hf80 : W1.frozen? ⟨W.heap.size,0,none⟩ = false := zn FR1.out.b8 0
     have hc81 : (W1.setCell ⟨W.heap.size,0,none⟩ (.int .i64 (C.D i j).1)).cell? ⟨W.heap.size,1,none⟩ = some (.slice none 0 0) := zf (zar FR1.out.b8 0 _) 1
     have hf81 : (W1.setCell ⟨W.heap.size,0,none⟩ (.int .i64 (C.D i j).1)).frozen? ⟨W.heap.size,1,none⟩ = false := zn (zar FR1.out.b8 0 _) 1
     have HR3 := za.mk hv3
     clear hv3 hmem
     go_wp2_with fail
     have hb8 : ((W1.setCell ⟨W.heap.size,0,none⟩ (.int .i64 (C.D i j).1)).setCell ⟨W.heap.size,1,none⟩ (.slice B2 (C.D i j).2.length c2)).heap[W.heap.size]? = some (.cells #[.int .i64 (C.D i j).1, .slice B2 (C.D i j).2.length c2] 134 (0,0)) := zV (zV FR1.out.b8 0 _ rfl) 1 _ rfl
     refine bodyPost_ret (results_cell_row rfl _ _ W.heap.size 134 #[.int .i64 (C.D i j).1, .slice B2 (C.D i j).2.length c2] (0,0) _ rfl hb8 Try.underlying134 rfl qg) rfl ?_
     exact zdh FR1.out HR3.out hge
    ·have hj1 : j < C.l1.length := by omega
     have hi1 : i < C.l0.length := by omega
     have hD := zjo (C := C) hi1 hj1
     obtain ⟨ad0,eA0,_⟩ := zfy ok.r0 i hi1 hi1
     obtain ⟨ad1,eA1,_⟩ := zfy ok.r1 j hj1 hj1
     have t1 : ((i : Int) == (C.l0.length : Int)) = false := by simp; omega
     have t2 : ((j : Int) == (C.l1.length : Int)) = false := by simp; omega
     have t3 : decide (i < C.l0.length) = true := decide_eq_true ql
     have t4 : decide (j < C.l1.length) = true := decide_eq_true ql
     have HT := za.mk (And.intro hi0 hj0)
     have HDD := za.mk hD
     rw [eA0] at hco
     have HA0 := za.mk eA0
     rw [eA1] at hcp
     have HA1 := za.mk eA1
     have hj2 : j + 1 ≤ C.l1.length := by omega
     have ihd : ∀ (W_ : World) es_ clock_,DSt C W_ es_ clock_ → _ := fun W_ es_ clock_ h_ => ih _ ql (i + 1) (j + 1) W_ es_ clock_ rfl ql hj2 h_
     rw [← zdH i (by have := ok.n0; omega), ← zdH j (by have := ok.n1; omega)] at ihd
     replace ihd := za.mk ihd
     clear hi0 hj0 hD eA0 eA1 hcf hj2
     go_enter Try.func95,Try.ntmps95
     go_wp2_with fail
     rw [HW3.out]
     refine zal (fun W' => W'.cell? ⟨C.gf,0,none⟩ = some (.func (.func 95) #[] #[.pointer (some ⟨C.gk,0,none⟩), .pointer (some ⟨C.go,0,none⟩), .pointer (some ⟨C.gp,0,none⟩), .pointer (some ⟨C.gf,0,none⟩)]) ∧ W'.cell? ⟨C.gp,0,none⟩ = some (.slice (some ad1) C.l1.length C.c1) ∧ W'.cell? (ad1.add j) = some (.string C.l1[j])) [] qg ?_
     have HS : W3.drew.cell? ⟨C.gf,0,none⟩ = some (.func (.func 95) #[] #[.pointer (some ⟨C.gk,0,none⟩), .pointer (some ⟨C.go,0,none⟩), .pointer (some ⟨C.gp,0,none⟩), .pointer (some ⟨C.gf,0,none⟩)]) ∧ W3.drew.cell? ⟨C.gp,0,none⟩ = some (.slice (some ad1) C.l1.length C.c1) ∧ W3.drew.cell? (ad1.add j) = some (.string C.l1[j]) := ⟨FR3.out.drew.cf,(FR3.out.drew.cp.trans (by rw [HA1.out])),(FR3.out.drew.st.at1 ok hj1 HA1.out)⟩
     refine tk 0 ?_
     (try simp only [pu0,pu1,pu2,pu3,pu4])
     refine tk 1 ?_
     (try simp only [pu0,pu1,pu2,pu3,pu4])
     refine tk 2 ?_
     (try simp only [pu0,pu1,pu2,pu3,pu4])
     refine tk 3 ?_
     (try simp only [pu0,pu1,pu2,pu3,pu4])
     refine tk 4 ?_
     (try simp only [pu0,pu1,pu2,pu3,pu4])
     refine tk 6 ?_
     (try simp only [pu0,pu1,pu2,pu3,pu4])
     refine tk 7 ?_
     (try simp only [pu0,pu1,pu2,pu3,pu4])
     refine tk 8 ?_
     (try simp only [pu0,pu1,pu2,pu3,pu4])
     refine tk 9 ?_
     (try simp only [pu0,pu1,pu2,pu3,pu4])
     refine tk 10 ?_
     (try simp only [pu0,pu1,pu2,pu3,pu4])
     refine tk 11 ?_
     (try simp only [pu0,pu1,pu2,pu3,pu4])
     refine on1 5 fun K hK => ?_
     clear HS
     have ihc := ih _ ql i (j + 1) W3.drew _ _ rfl hi ql FR3.out.drew.st
     rw [← zfW j (by have := ok.n1; omega)] at ihc
     refine zfR Try.func95 qg rfl #[.int .i64 i, .int .i64 (IntKind.i64.wrap ((j : Int) + 1)), .pointer (some ⟨C.gk,0,none⟩), .pointer (some ⟨C.go,0,none⟩), .pointer (some ⟨C.gp,0,none⟩), .pointer (some ⟨C.gf,0,none⟩)] qA rfl rfl qA qo ?_
     refine ihc.mono ?_
     clear ihc
     rintro e w1 ⟨v,es1,clock1,rfl,hv,st1,kb1⟩
     obtain ⟨Bv,cv,rfl,hcv,hrv⟩ := Kd.zak hv
     refine ⟨_,rfl,?_⟩
     have FRc := za.mk (FR3.out.drew.call st1 kb1)
     have HV := za.mk (And.intro hcv hrv)
     clear hv st1 kb1 hcv hrv
     have HS : w1.cell? ⟨C.gf,0,none⟩ = some (.func (.func 95) #[] #[.pointer (some ⟨C.gk,0,none⟩), .pointer (some ⟨C.go,0,none⟩), .pointer (some ⟨C.gp,0,none⟩), .pointer (some ⟨C.gf,0,none⟩)]) ∧ w1.cell? ⟨C.gp,0,none⟩ = some (.slice (some ad1) C.l1.length C.c1) ∧ w1.cell? (ad1.add j) = some (.string C.l1[j]) := ⟨FRc.out.cf,(FRc.out.cp.trans (by rw [HA1.out])),(FRc.out.st.at1 ok hj1 HA1.out)⟩
     refine hK.out _ _ (fun _ => HS) ?_
     clear hK K
     (try simp only [pu0,pu1,pu2,pu3,pu4])
     refine on1 12 fun K hK => ?_
     clear HS
     refine zbv Try.func96 qg rfl #[.agg #[.int .i64 (C.D i (j + 1)).1, .slice Bv (C.D i (j + 1)).2.length cv], .agg #[.int .i64 1, .int .i64 i, .string C.l1[j]]] qA rfl rfl qo ?_
     refine (zaf.calls (C.D i (j + 1)).1 Bv cv (C.D i (j + 1)).2 1 i C.l1[j] (zq ⟨1,i,C.l1[j]⟩ (C.D i (j + 1))).1 (zq ⟨1,i,C.l1[j]⟩ (C.D i (j + 1))).2 w1 HV.out.2 HV.out.1 (zdg ⟨1,i,C.l1[j]⟩ _ _ (by have := zcd (C := C) i (j + 1) ok; omega))).mono ?_
     rintro e w2 ⟨v1,rfl,hR1,hb1⟩
     have hge1 := FRc.out.st.below.size
     replace hR1 := Kd.zaO hR1 hge1
     obtain ⟨Ba,ca,rfl,hc1,hr1⟩ := Kd.zak hR1
     refine ⟨_,rfl,?_⟩
     have FRd := za.mk (FRc.out.below hb1)
     have HR1 := za.mk hR1
     clear hge1 hR1 hc1 hr1 hb1 FRc HV
     have HS : w2.cell? ⟨C.gf,0,none⟩ = some (.func (.func 95) #[] #[.pointer (some ⟨C.gk,0,none⟩), .pointer (some ⟨C.go,0,none⟩), .pointer (some ⟨C.gp,0,none⟩), .pointer (some ⟨C.gf,0,none⟩)]) ∧ w2.cell? ⟨C.gp,0,none⟩ = some (.slice (some ad1) C.l1.length C.c1) ∧ w2.cell? (ad1.add j) = some (.string C.l1[j]) := ⟨FRd.out.cf,(FRd.out.cp.trans (by rw [HA1.out])),(FRd.out.st.at1 ok hj1 HA1.out)⟩
     refine hK.out _ _ (fun _ => HS) ?_
     clear hK K
     (try simp only [pu0,pu1,pu2,pu3,pu4])
     refine on1 13 fun K hK => ?_
     clear HS
     have HS : (w2.alloc (.cells #[.int .i64 (zq ⟨1,i,C.l1[j]⟩ (C.D i (j + 1))).1, .slice Ba (zq ⟨1,i,C.l1[j]⟩ (C.D i (j + 1))).2.length ca] 134)).cell? ⟨C.gf,0,none⟩ = some (.func (.func 95) #[] #[.pointer (some ⟨C.gk,0,none⟩), .pointer (some ⟨C.go,0,none⟩), .pointer (some ⟨C.gp,0,none⟩), .pointer (some ⟨C.gf,0,none⟩)]) ∧ (w2.alloc (.cells #[.int .i64 (zq ⟨1,i,C.l1[j]⟩ (C.D i (j + 1))).1, .slice Ba (zq ⟨1,i,C.l1[j]⟩ (C.D i (j + 1))).2.length ca] 134)).cell? ⟨C.gp,0,none⟩ = some (.slice (some ad1) C.l1.length C.c1) ∧ (w2.alloc (.cells #[.int .i64 (zq ⟨1,i,C.l1[j]⟩ (C.D i (j + 1))).1, .slice Ba (zq ⟨1,i,C.l1[j]⟩ (C.D i (j + 1))).2.length ca] 134)).cell? (ad1.add j) = some (.string C.l1[j]) := ⟨(FRd.out.below (ze (Below.refl _ _) _)).cf,((FRd.out.below (ze (Below.refl _ _) _)).cp.trans (by rw [HA1.out])),((FRd.out.below (ze (Below.refl _ _) _)).st.at1 ok hj1 HA1.out)⟩
     go_simp
     refine hK.out _ _ (fun _ => HS) ?_
     clear hK K
     (try simp only [pu0,pu1,pu2,pu3,pu4])
     refine on1 14 fun K hK => ?_
     clear HS
     refine Kd.zcH kL (w0 := C.w0) (W := w2) C.w0.heap.size qA (.tmp 43) (.tmp 56) 137 134 _ 32 qA Try.underlying137 zc2 rfl qq qq (.slice none 0 0) [] (.slice Ba (zq ⟨1,i,C.l1[j]⟩ (C.D i (j + 1))).2.length ca,zq ⟨1,i,C.l1[j]⟩ (C.D i (j + 1))) [.int .i64 (zq ⟨1,i,C.l1[j]⟩ (C.D i (j + 1))).1, .slice Ba (zq ⟨1,i,C.l1[j]⟩ (C.D i (j + 1))).2.length ca] (fun k => k ≠ W.heap.size) _ qA qA ⟨rfl,FRd.out.elem HR1.out (fun k cells hc e => by subst e; have := FRd.out.b8; rw [hc] at this; cases this)⟩ (fun k hk => hk) (fun k hk => by have := FRd.out.zfA; omega) FRd.out.row FRd.out.st.below FRd.out.st.below.size qC ?_
     intro v4 W4 hr hb hg hat
     have FR4 := za.mk (FRd.out.append hr hb hg hat)
     have HE3 := HR1
     clear hr hb hg hat FRd HR1
     have HS : W4.cell? ⟨C.gf,0,none⟩ = some (.func (.func 95) #[] #[.pointer (some ⟨C.gk,0,none⟩), .pointer (some ⟨C.go,0,none⟩), .pointer (some ⟨C.gp,0,none⟩), .pointer (some ⟨C.gf,0,none⟩)]) ∧ W4.cell? ⟨C.gp,0,none⟩ = some (.slice (some ad1) C.l1.length C.c1) ∧ W4.cell? (ad1.add j) = some (.string C.l1[j]) := ⟨FR4.out.cf,(FR4.out.cp.trans (by rw [HA1.out])),(FR4.out.st.at1 ok hj1 HA1.out)⟩
     refine hK.out _ _ (fun _ => HS) ?_
     clear hK K
     (try simp only [pu0,pu1,pu2,pu3,pu4])
     refine tk 15 ?_
     (try simp only [pu0,pu1,pu2,pu3,pu4])
     clear HS
     refine zac qg ?_ _
     have hcp' := FR4.out.cp
     have hco' := FR4.out.co
     have hcf' : W4.cell? ⟨C.gf,0,none⟩ = some (.func (.func 95) #[] #[.pointer (some ⟨C.gk,0,none⟩), .pointer (some ⟨C.go,0,none⟩), .pointer (some ⟨C.gp,0,none⟩), .pointer (some ⟨C.gf,0,none⟩)]) := FR4.out.cf
     have ihc := ih _ ql (i + 1) j W4 _ _ rfl ql hj FR4.out.st
     rw [← zdH i (by have := ok.n0; omega)] at ihc
     replace ihc := za.mk ihc
     go_wp2_with (first | ((with_reducible refine zaa (N := 67) rfl ?_); (try rw [HW3.out]); refine zew (some 67) rfl rfl Try.func95 qg rfl #[.int .i64 (wrap64 ((i : Int) + 1)), .int .i64 j, .pointer (some ⟨C.gk,0,none⟩), .pointer (some ⟨C.go,0,none⟩), .pointer (some ⟨C.gp,0,none⟩), .pointer (some ⟨C.gf,0,none⟩)] rfl qA qo ?_; refine ihc.out.mono ?_; rintro e w1 ⟨v,es1,clock1,rfl,hv,st1,kb1⟩; obtain ⟨Bv,cv,rfl,hcv,hrv⟩ := Kd.zak hv; refine ⟨_,rfl,?_⟩; have FRc := za.mk (FR4.out.call st1 kb1); have HV := za.mk (And.intro hcv hrv); clear hv st1 kb1 hcv hrv) | ((with_reducible refine zA (f := 96) rfl ?_); refine zW (some 70) rfl rfl Try.func96 qg rfl #[.agg #[.int .i64 (C.D (i + 1) j).1, .slice Bv (C.D (i + 1) j).2.length cv], .agg #[.int .i64 3, .int .i64 i, .string ⟨#[]⟩]] rfl qo ?_; refine (zaf.calls (C.D (i + 1) j).1 Bv cv (C.D (i + 1) j).2 3 i ⟨#[]⟩ (zq ⟨3,i,⟨#[]⟩⟩ (C.D (i + 1) j)).1 (zq ⟨3,i,⟨#[]⟩⟩ (C.D (i + 1) j)).2 w1 HV.out.2 HV.out.1 (zdg ⟨3,i,⟨#[]⟩⟩ _ _ (by have := zcd (C := C) (i + 1) j ok; omega))).mono ?_; rintro e w2 ⟨v1,rfl,hR1,hb1⟩; have hge1 := FRc.out.st.below.size; replace hR1 := Kd.zaO hR1 hge1; obtain ⟨Bb,cb,rfl,hc1,hr1⟩ := Kd.zak hR1; refine ⟨_,rfl,?_⟩; have FRd := za.mk (FRc.out.below hb1); have HR1 := za.mk hR1; clear hge1 hR1 hc1 hr1 hb1 FRc HV) | ((with_reducible refine za1 (b := .append) (xs := #[.tmp 62, .tmp 71]) rfl ?_); at_builtin; refine Kd.zc4 kL (w0 := C.w0) C.w0.heap.size rfl (.tmp 62) (.tmp 71) 137 134 _ 32 rfl Try.underlying137 zc2 rfl qq ql v4 _ (.slice Bb (zq ⟨3,i,⟨#[]⟩⟩ (C.D (i + 1) j)).2.length cb,zq ⟨3,i,⟨#[]⟩⟩ (C.D (i + 1) j)) [.int .i64 (zq ⟨3,i,⟨#[]⟩⟩ (C.D (i + 1) j)).1, .slice Bb (zq ⟨3,i,⟨#[]⟩⟩ (C.D (i + 1) j)).2.length cb] (fun k => k ≠ W.heap.size) _ rfl rfl ⟨rfl,FRd.out.elem HR1.out (fun k cells hc e => by subst e; have := FRd.out.b8; rw [hc] at this; cases this)⟩ (fun k hk => hk) (fun k hk => by have := FRd.out.zfA; omega) FRd.out.row FRd.out.st.below FRd.out.st.below.size qC ?_; intro v5 W5 hr hb hg hat; have FR5 := za.mk (FRd.out.append hr hb hg hat); clear hr hb hg hat FRd HR1; have hco' := FR5.out.co; have hcp' := FR5.out.cp; have hcf' : W5.cell? ⟨C.gf,0,none⟩ = some (.func (.func 95) #[] #[.pointer (some ⟨C.gk,0,none⟩), .pointer (some ⟨C.go,0,none⟩), .pointer (some ⟨C.gp,0,none⟩), .pointer (some ⟨C.gf,0,none⟩)]) := FR5.out.cf) | ((with_reducible refine zaa (N := 88) rfl ?_); refine zew (some 88) rfl rfl Try.func95 qg rfl #[.int .i64 (wrap64 ((i : Int) + 1)), .int .i64 (wrap64 ((j : Int) + 1)), .pointer (some ⟨C.gk,0,none⟩), .pointer (some ⟨C.go,0,none⟩), .pointer (some ⟨C.gp,0,none⟩), .pointer (some ⟨C.gf,0,none⟩)] rfl qA qo ?_; refine (ihd.out _ _ _ FR5.out.st).mono ?_; rintro e w3 ⟨vr,es1,clock1,rfl,hv,st1,kb1⟩; obtain ⟨Br,cr,rfl,hcv,hrv⟩ := Kd.zak hv; refine ⟨_,rfl,?_⟩; have FRe := za.mk (FR5.out.call st1 kb1); have HVr := za.mk (And.intro hcv (And.intro hrv hv)); clear hv st1 kb1 hcv hrv hco' hcp' hcf'))
     obtain ⟨Wf,hWf⟩ : ∃ W_,w3.alloc (.cells #[.int .i64 (C.D (i + 1) (j + 1)).1, .slice Br (C.D (i + 1) (j + 1)).2.length cr] 134) = W_ := ⟨_,rfl⟩
     rw [hWf]
     have FRf := za.mk (FRe.out.new (.cells #[.int .i64 (C.D (i + 1) (j + 1)).1, .slice Br (C.D (i + 1) (j + 1)).2.length cr] 134))
     rw [hWf] at FRf
     have B13 := za.mk (heap_alloc_new w3 (.cells #[.int .i64 (C.D (i + 1) (j + 1)).1, .slice Br (C.D (i + 1) (j + 1)).2.length cr] 134))
     rw [hWf] at B13
     have HBf : za (Below w3.heap.size w3 Wf.drew) := ⟨by rw [← hWf]; exact zg (ze (Below.refl _ _) _)⟩
     clear hWf FRe
     refine zal (fun W' => W'.cell? ⟨w3.heap.size,0,none⟩ = some (.int .i64 (C.D (i + 1) (j + 1)).1) ∧ W'.cell? ⟨w3.heap.size,1,none⟩ = some (.slice Br (C.D (i + 1) (j + 1)).2.length cr) ∧ W'.cell? ⟨C.gp,0,none⟩ = some (.slice (some ad1) C.l1.length C.c1) ∧ W'.cell? (ad1.add j) = some (.string C.l1[j])) [] qg ?_
     have HS : Wf.drew.cell? ⟨w3.heap.size,0,none⟩ = some (.int .i64 (C.D (i + 1) (j + 1)).1) ∧ Wf.drew.cell? ⟨w3.heap.size,1,none⟩ = some (.slice Br (C.D (i + 1) (j + 1)).2.length cr) ∧ Wf.drew.cell? ⟨C.gp,0,none⟩ = some (.slice (some ad1) C.l1.length C.c1) ∧ Wf.drew.cell? (ad1.add j) = some (.string C.l1[j]) := ⟨zf (zm B13.out) 0,zf (zm B13.out) 1,FRf.out.drew.cp.trans (by rw [HA1.out]),FRf.out.drew.st.at1 ok hj1 HA1.out⟩
     refine tk 0 ?_
     (try simp only [pu0,pu1,pu2,pu3,pu4])
     refine tk 1 ?_
     (try simp only [pu0,pu1,pu2,pu3,pu4])
     refine tk 2 ?_
     (try simp only [pu0,pu1,pu2,pu3,pu4])
     refine tk 3 ?_
     (try simp only [pu0,pu1,pu2,pu3,pu4])
     refine tk 4 ?_
     (try simp only [pu0,pu1,pu2,pu3,pu4])
     refine tk 5 ?_
     (try simp only [pu0,pu1,pu2,pu3,pu4])
     refine tk 6 ?_
     (try simp only [pu0,pu1,pu2,pu3,pu4])
     refine tk 7 ?_
     (try simp only [pu0,pu1,pu2,pu3,pu4])
     refine on1 8 fun K hK => ?_
     clear HS
     refine zbv Try.func96 qg rfl #[.agg #[.int .i64 (C.D (i + 1) (j + 1)).1, .slice Br (C.D (i + 1) (j + 1)).2.length cr], .agg #[.int .i64 2, .int .i64 i, .string C.l1[j]]] qA rfl rfl qo ?_
     refine (zaf.calls (C.D (i + 1) (j + 1)).1 Br cr (C.D (i + 1) (j + 1)).2 2 i C.l1[j] (zq ⟨2,i,C.l1[j]⟩ (C.D (i + 1) (j + 1))).1 (zq ⟨2,i,C.l1[j]⟩ (C.D (i + 1) (j + 1))).2 Wf.drew (Kd.zU HVr.out.2.1 HBf.out) HVr.out.1 (zdg ⟨2,i,C.l1[j]⟩ _ _ (by have := zcd (C := C) (i + 1) (j + 1) ok; omega))).mono ?_
     rintro e w2 ⟨v1,rfl,hR1,hb1⟩
     have hge1 := FRf.out.drew.st.below.size
     replace hR1 := Kd.zaO hR1 hge1
     obtain ⟨Bc,cc,rfl,hc1,hr1⟩ := Kd.zak hR1
     refine ⟨_,rfl,?_⟩
     have FRd := za.mk (FRf.out.drew.below hb1)
     have B13d := za.mk (zu (zm B13.out) hb1)
     have HVd := za.mk (Kd.zD (Kd.zD HVr.out.2.2 HBf.out) hb1)
     have HR1 := za.mk hR1
     clear hge1 hR1 hc1 hr1 hb1 B13 FRf HVr HBf
     have HS : w2.cell? ⟨w3.heap.size,0,none⟩ = some (.int .i64 (C.D (i + 1) (j + 1)).1) ∧ w2.cell? ⟨w3.heap.size,1,none⟩ = some (.slice Br (C.D (i + 1) (j + 1)).2.length cr) ∧ w2.cell? ⟨C.gp,0,none⟩ = some (.slice (some ad1) C.l1.length C.c1) ∧ w2.cell? (ad1.add j) = some (.string C.l1[j]) := ⟨zf B13d.out 0,zf B13d.out 1,FRd.out.cp.trans (by rw [HA1.out]),FRd.out.st.at1 ok hj1 HA1.out⟩
     refine hK.out _ _ (fun _ => HS) ?_
     clear hK K
     (try simp only [pu0,pu1,pu2,pu3,pu4])
     refine on1 9 fun K hK => ?_
     clear HS
     have HS : (w2.alloc (.cells #[.int .i64 (zq ⟨2,i,C.l1[j]⟩ (C.D (i + 1) (j + 1))).1, .slice Bc (zq ⟨2,i,C.l1[j]⟩ (C.D (i + 1) (j + 1))).2.length cc] 134)).cell? ⟨w3.heap.size,0,none⟩ = some (.int .i64 (C.D (i + 1) (j + 1)).1) ∧ (w2.alloc (.cells #[.int .i64 (zq ⟨2,i,C.l1[j]⟩ (C.D (i + 1) (j + 1))).1, .slice Bc (zq ⟨2,i,C.l1[j]⟩ (C.D (i + 1) (j + 1))).2.length cc] 134)).cell? ⟨w3.heap.size,1,none⟩ = some (.slice Br (C.D (i + 1) (j + 1)).2.length cr) ∧ (w2.alloc (.cells #[.int .i64 (zq ⟨2,i,C.l1[j]⟩ (C.D (i + 1) (j + 1))).1, .slice Bc (zq ⟨2,i,C.l1[j]⟩ (C.D (i + 1) (j + 1))).2.length cc] 134)).cell? ⟨C.gp,0,none⟩ = some (.slice (some ad1) C.l1.length C.c1) ∧ (w2.alloc (.cells #[.int .i64 (zq ⟨2,i,C.l1[j]⟩ (C.D (i + 1) (j + 1))).1, .slice Bc (zq ⟨2,i,C.l1[j]⟩ (C.D (i + 1) (j + 1))).2.length cc] 134)).cell? (ad1.add j) = some (.string C.l1[j]) := ⟨zf (zi B13d.out _) 0,zf (zi B13d.out _) 1,(FRd.out.below (ze (Below.refl _ _) _)).cp.trans (by rw [HA1.out]),(FRd.out.below (ze (Below.refl _ _) _)).st.at1 ok hj1 HA1.out⟩
     go_simp
     refine hK.out _ _ (fun _ => HS) ?_
     clear hK K
     (try simp only [pu0,pu1,pu2,pu3,pu4])
     refine on1 10 fun K hK => ?_
     clear HS
     refine Kd.zcH kL (w0 := C.w0) (W := w2) C.w0.heap.size qA (.tmp 89) (.tmp 98) 137 134 _ 32 qA Try.underlying137 zc2 rfl qq qq v5 _ (.slice Bc (zq ⟨2,i,C.l1[j]⟩ (C.D (i + 1) (j + 1))).2.length cc,zq ⟨2,i,C.l1[j]⟩ (C.D (i + 1) (j + 1))) [.int .i64 (zq ⟨2,i,C.l1[j]⟩ (C.D (i + 1) (j + 1))).1, .slice Bc (zq ⟨2,i,C.l1[j]⟩ (C.D (i + 1) (j + 1))).2.length cc] (fun k => k ≠ W.heap.size ∧ k ≠ w3.heap.size) (fun k => (k ≠ W.heap.size ∧ k ≠ w3.heap.size) ∧ some k ≠ v5.ownBlock) qA qA ⟨rfl,FRd.out.elem HR1.out (fun k cells hc => ⟨fun e => (by subst e; have := FRd.out.b8; rw [hc] at this; cases this),fun e => (by subst e; have := B13d.out; rw [hc] at this; cases this)⟩)⟩ (fun k hk => hk) (fun k hk => ⟨by have := FRd.out.zfA; omega,by have := zR B13d.out; omega⟩) FRd.out.row FRd.out.st.below FRd.out.st.below.size qC ?_
     intro v6 W6 hr hb hg hat
     have FR6 := za.mk (FRd.out.append hr hb hg hat)
     have B13e := za.mk (zaD B13d.out hg (fun e => (FRd.out.row.1 _ e.symm).2 rfl))
     have HVe := za.mk (zg2 FRd.out HVd.out hg)
     clear hr hb hg hat FRd HR1 B13d HVd
     have HS : W6.cell? ⟨w3.heap.size,0,none⟩ = some (.int .i64 (C.D (i + 1) (j + 1)).1) ∧ W6.cell? ⟨w3.heap.size,1,none⟩ = some (.slice Br (C.D (i + 1) (j + 1)).2.length cr) ∧ W6.cell? ⟨C.gp,0,none⟩ = some (.slice (some ad1) C.l1.length C.c1) ∧ W6.cell? (ad1.add j) = some (.string C.l1[j]) := ⟨zf B13e.out 0,zf B13e.out 1,FR6.out.cp.trans (by rw [HA1.out]),FR6.out.st.at1 ok hj1 HA1.out⟩
     refine hK.out _ _ (fun _ => HS) ?_
     clear hK K
     (try simp only [pu0,pu1,pu2,pu3,pu4])
     refine tk 11 ?_
     (try simp only [pu0,pu1,pu2,pu3,pu4])
     clear HS
     refine zac qg ?_ _
     go_wp2_with fail
     refine zal (fun W' => W'.cell? ⟨C.go,0,none⟩ = some (.slice (some ad0) C.l0.length C.c0) ∧ W'.cell? (ad0.add i) = some (.string C.l0[i]) ∧ W'.cell? ⟨C.gp,0,none⟩ = some (.slice (some ad1) C.l1.length C.c1) ∧ W'.cell? (ad1.add j) = some (.string C.l1[j])) [] qg ?_
     have HS : W6.drew.cell? ⟨C.go,0,none⟩ = some (.slice (some ad0) C.l0.length C.c0) ∧ W6.drew.cell? (ad0.add i) = some (.string C.l0[i]) ∧ W6.drew.cell? ⟨C.gp,0,none⟩ = some (.slice (some ad1) C.l1.length C.c1) ∧ W6.drew.cell? (ad1.add j) = some (.string C.l1[j]) := ⟨(FR6.out.drew.co.trans (by rw [HA0.out])),(FR6.out.drew.st.at0 ok hi1 HA0.out),(FR6.out.drew.cp.trans (by rw [HA1.out])),(FR6.out.drew.st.at1 ok hj1 HA1.out)⟩
     refine tk 0 ?_
     (try simp only [pu0,pu1,pu2,pu3,pu4])
     refine tk 1 ?_
     (try simp only [pu0,pu1,pu2,pu3,pu4])
     refine tk 2 ?_
     (try simp only [pu0,pu1,pu2,pu3,pu4])
     refine tk 3 ?_
     (try simp only [pu0,pu1,pu2,pu3,pu4])
     refine tk 4 ?_
     (try simp only [pu0,pu1,pu2,pu3,pu4])
     refine tk 5 ?_
     (try simp only [pu0,pu1,pu2,pu3,pu4])
     refine tk 6 ?_
     (try simp only [pu0,pu1,pu2,pu3,pu4])
     refine tk 7 ?_
     (try simp only [pu0,pu1,pu2,pu3,pu4])
     refine tk 8 ?_
     (try simp only [pu0,pu1,pu2,pu3,pu4])
     clear HS
     refine zac qg ?_ _
     have hz0 : W6.drew.cell? ⟨w3.heap.size,0,none⟩ = some (.int .i64 (C.D (i + 1) (j + 1)).1) := zf (zm B13e.out) 0
     have hz1 : W6.drew.cell? ⟨w3.heap.size,1,none⟩ = some (.slice Br (C.D (i + 1) (j + 1)).2.length cr) := zf (zm B13e.out) 1
     by_cases hxy : (C.l0[i].toList == C.l1[j].toList) = true
     ·rw [hxy]
      have HXY := za.mk hxy
      clear hxy
      go_wp2_with (((with_reducible refine za1 (b := .append) (xs := #[.tmp 109, .tmp 111]) rfl ?_); at_builtin; refine Kd.zc4 kL (w0 := C.w0) (W := W6.drew) C.w0.heap.size rfl (.tmp 109) (.tmp 111) 137 134 _ 32 rfl Try.underlying137 zc2 rfl qq ql v6 _ (.slice Br (C.D (i + 1) (j + 1)).2.length cr,(C.D (i + 1) (j + 1))) [.int .i64 (C.D (i + 1) (j + 1)).1, .slice Br (C.D (i + 1) (j + 1)).2.length cr] (fun k => k ≠ W.heap.size ∧ k ≠ w3.heap.size) (fun k => (k ≠ W.heap.size ∧ k ≠ w3.heap.size) ∧ some k ≠ v6.ownBlock) rfl rfl ⟨rfl,FR6.out.drew.elem HVe.out (fun k cells hc => ⟨fun e => (by subst e; have := FR6.out.drew.b8; rw [hc] at this; cases this),fun e => (by subst e; have := zm B13e.out; rw [hc] at this; cases this)⟩)⟩ (fun k hk => hk) (fun k hk => ⟨by have := FR6.out.drew.zfA; omega,by have := zR (zm B13e.out); omega⟩) FR6.out.drew.row FR6.out.drew.st.below FR6.out.drew.st.below.size qC ?_; intro v7 W7 hr hb hg hat; have FR7 := za.mk (FR6.out.drew.append hr hb hg hat); clear hr hb hg hat))
      clear hz0 hz1
      have HD : za (zaq ((.slice Ba (zq ⟨1,i,C.l1[j]⟩ (C.D i (j + 1))).2.length ca,zq ⟨1,i,C.l1[j]⟩ (C.D i (j + 1))) : LV).2 (([(.slice Bb (zq ⟨3,i,⟨#[]⟩⟩ (C.D (i + 1) j)).2.length cb,zq ⟨3,i,⟨#[]⟩⟩ (C.D (i + 1) j)),(.slice Bc (zq ⟨2,i,C.l1[j]⟩ (C.D (i + 1) (j + 1))).2.length cc,zq ⟨2,i,C.l1[j]⟩ (C.D (i + 1) (j + 1))),(.slice Br (C.D (i + 1) (j + 1)).2.length cr,(C.D (i + 1) (j + 1)))] : List LV).map Prod.snd) = C.D i j) := ⟨by rw [HDD.out,if_pos HXY.out]; rfl⟩
      have HL : za (∀ x ∈ ((.slice Ba (zq ⟨1,i,C.l1[j]⟩ (C.D i (j + 1))).2.length ca,zq ⟨1,i,C.l1[j]⟩ (C.D i (j + 1))) : LV) :: ([(.slice Bb (zq ⟨3,i,⟨#[]⟩⟩ (C.D (i + 1) j)).2.length cb,zq ⟨3,i,⟨#[]⟩⟩ (C.D (i + 1) j)),(.slice Bc (zq ⟨2,i,C.l1[j]⟩ (C.D (i + 1) (j + 1))).2.length cc,zq ⟨2,i,C.l1[j]⟩ (C.D (i + 1) (j + 1))),(.slice Br (C.D (i + 1) (j + 1)).2.length cr,(C.D (i + 1) (j + 1)))] : List LV),x.2.2.length < 1000) := ⟨fun x hx => by
       simp only [List.mem_cons,List.not_mem_nil,or_false] at hx
       rcases hx with rfl | rfl | rfl | rfl
       ·first | exact zbH _ _ _ ok | exact Nat.lt_of_le_of_lt (zcd _ _ ok) qq
       ·first | exact zbH _ _ _ ok | exact Nat.lt_of_le_of_lt (zcd _ _ ok) qq
       ·first | exact zbH _ _ _ ok | exact Nat.lt_of_le_of_lt (zcd _ _ ok) qq
       ·first | exact zbH _ _ _ ok | exact Nat.lt_of_le_of_lt (zcd _ _ ok) qq⟩
      have HN : za (([(.slice Bb (zq ⟨3,i,⟨#[]⟩⟩ (C.D (i + 1) j)).2.length cb,zq ⟨3,i,⟨#[]⟩⟩ (C.D (i + 1) j)),(.slice Bc (zq ⟨2,i,C.l1[j]⟩ (C.D (i + 1) (j + 1))).2.length cc,zq ⟨2,i,C.l1[j]⟩ (C.D (i + 1) (j + 1))),(.slice Br (C.D (i + 1) (j + 1)).2.length cr,(C.D (i + 1) (j + 1)))] : List LV).length < 10) := ⟨by simp⟩
      have FR := za.mk (show Fr C W W7 W.heap.size (W.heap.size + 1) i j (fun k => k ≠ W.heap.size ∧ k ≠ w3.heap.size) v7 (((.slice Ba (zq ⟨1,i,C.l1[j]⟩ (C.D i (j + 1))).2.length ca,zq ⟨1,i,C.l1[j]⟩ (C.D i (j + 1))) : LV) :: ([(.slice Bb (zq ⟨3,i,⟨#[]⟩⟩ (C.D (i + 1) j)).2.length cb,zq ⟨3,i,⟨#[]⟩⟩ (C.D (i + 1) j)),(.slice Bc (zq ⟨2,i,C.l1[j]⟩ (C.D (i + 1) (j + 1))).2.length cc,zq ⟨2,i,C.l1[j]⟩ (C.D (i + 1) (j + 1))),(.slice Br (C.D (i + 1) (j + 1)).2.length cr,(C.D (i + 1) (j + 1)))] : List LV)) _ _ from FR7.out)
      clear FR7
      obtain ⟨x0,hx0⟩ : ∃ x : LV,((.slice Ba (zq ⟨1,i,C.l1[j]⟩ (C.D i (j + 1))).2.length ca,zq ⟨1,i,C.l1[j]⟩ (C.D i (j + 1))) : LV) = x := ⟨_,rfl⟩
      obtain ⟨xr,hxr⟩ : ∃ x : List LV,([(.slice Bb (zq ⟨3,i,⟨#[]⟩⟩ (C.D (i + 1) j)).2.length cb,zq ⟨3,i,⟨#[]⟩⟩ (C.D (i + 1) j)),(.slice Bc (zq ⟨2,i,C.l1[j]⟩ (C.D (i + 1) (j + 1))).2.length cc,zq ⟨2,i,C.l1[j]⟩ (C.D (i + 1) (j + 1))),(.slice Br (C.D (i + 1) (j + 1)).2.length cr,(C.D (i + 1) (j + 1)))] : List LV) = x := ⟨_,rfl⟩
      rw [hx0,hxr] at HL FR HD
      rw [hxr] at HN
      clear hx0 hxr
      obtain ⟨Wc,hWc⟩ : ∃ W_,W7 = W_ := ⟨_,rfl⟩
      subst hWc
      obtain ⟨g12,cap12,As,rfl,hx0,hx1,hK0,hcut,hC,hcl,hR⟩ := FR.out.opens
      have hck := zf FR.out.st.bk 0
      have hc90 := (zf FR.out.b9 0).trans rfl
      have hc91 := (zf FR.out.b9 1).trans rfl
      obtain ⟨cx,vx,lx⟩ := x0
      obtain ⟨_,Bx,ccx,hvx,hcx,hrx⟩ := hK0
      dsimp only at hx0 hx1 hvx hcx hrx
      subst hvx
      have HX := za.mk (And.intro hcx (And.intro hrx (And.intro hC (And.intro hcl hR))))
      clear hcx hrx hC hcl hR
      replace hck : W7.cell? ⟨C.gk,0,none⟩ = some (.map (some C.gm)) := hck
      replace hc90 : W7.cell? ⟨W.heap.size + 1,0,none⟩ = some (.int .i64 i) := hc90
      replace hc91 : W7.cell? ⟨W.heap.size + 1,1,none⟩ = some (.int .i64 j) := hc91
      go_wp2_with fail
      refine zal (fun W' => W'.cell? ⟨C.gk,0,none⟩ = some (.map (some C.gm)) ∧ W'.cell? ⟨W.heap.size + 1,0,none⟩ = some (.int .i64 i) ∧ W'.cell? ⟨W.heap.size + 1,1,none⟩ = some (.int .i64 j) ∧ W'.cell? ⟨g12,0,none⟩ = some (.int .i64 vx) ∧ W'.cell? ⟨g12,1,none⟩ = some (.slice Bx lx.length ccx)) [8] qg ?_
      have HS : W7.drew.cell? ⟨C.gk,0,none⟩ = some (.map (some C.gm)) ∧ W7.drew.cell? ⟨W.heap.size + 1,0,none⟩ = some (.int .i64 i) ∧ W7.drew.cell? ⟨W.heap.size + 1,1,none⟩ = some (.int .i64 j) ∧ W7.drew.cell? ⟨g12,0,none⟩ = some (.int .i64 vx) ∧ W7.drew.cell? ⟨g12,1,none⟩ = some (.slice Bx lx.length ccx) := ⟨hck,hc90,hc91,hx0,hx1⟩
      refine tk 0 ?_
      (try simp only [pu0,pu1,pu2,pu3,pu4])
      refine tk 1 ?_
      (try simp only [pu0,pu1,pu2,pu3,pu4])
      refine tk 2 ?_
      (try simp only [pu0,pu1,pu2,pu3,pu4])
      refine tk 3 ?_
      (try simp only [pu0,pu1,pu2,pu3,pu4])
      refine tk 4 ?_
      (try simp only [pu0,pu1,pu2,pu3,pu4])
      refine tk 5 ?_
      (try simp only [pu0,pu1,pu2,pu3,pu4])
      refine tk 6 ?_
      (try simp only [pu0,pu1,pu2,pu3,pu4])
      refine on1 7 fun K hK => ?_
      refine zbv Try.func97 qg rfl #[.func (.func 98) #[] #[], .agg #[.int .i64 vx, .slice Bx lx.length ccx], .slice As xr.length (cap12 - 1)] qA rfl rfl qo ?_
      refine (zcF (.slice Bx lx.length ccx,vx,lx) As (cap12 - 1) xr W7.drew ⟨rfl,Bx,ccx,rfl,HX.out.1,HX.out.2.1⟩ HX.out.2.2.1 HX.out.2.2.2.1 (HL.out _ List.mem_cons_self) (fun x hx => HL.out x (List.mem_cons_of_mem _ hx)) (qB HN.out)).mono ?_
      rintro e w' ⟨rfl,hb⟩
      refine ⟨_,rfl,?_⟩
      have FR' := za.mk (FR.out.drew.below hb)
      have hv : ∃ v,zaY (.slice Bx lx.length ccx,vx,lx) xr = (v,C.D i j) ∧ Kd.R k63 63 w' C.w0.heap.size (fun _ => True) v (C.D i j).2 := by
       have h1 := zcU xr (.slice Bx lx.length ccx,vx,lx)
       have h2 := h1.trans HD.out
       have h3 : Kd.R k63 63 W7 C.w0.heap.size (fun _ => True) (zaY (.slice Bx lx.length ccx,vx,lx) xr).1 (zaY (.slice Bx lx.length ccx,vx,lx) xr).2.2 := by
        rcases zcP xr (.slice Bx lx.length ccx,vx,lx) with h | h
        ·rw [h]; exact HX.out.2.2.2.2 _ List.mem_cons_self
        ·exact HX.out.2.2.2.2 _ (List.mem_cons_of_mem _ h)
       rw [h2] at h3
       exact ⟨_,Prod.ext rfl h2,Kd.zD (w := W7.drew) h3 hb⟩
      obtain ⟨v,hv1,hv2⟩ := hv
      rw [hv1]
      dsimp only
      have HS : w'.cell? ⟨C.gk,0,none⟩ = some (.map (some C.gm)) ∧ w'.cell? ⟨W.heap.size + 1,0,none⟩ = some (.int .i64 i) ∧ w'.cell? ⟨W.heap.size + 1,1,none⟩ = some (.int .i64 j) ∧ w'.cell? ⟨g12,0,none⟩ = some (.int .i64 vx) ∧ w'.cell? ⟨g12,1,none⟩ = some (.slice Bx lx.length ccx) := by
       obtain ⟨inner,hown⟩ := Kd.zb7 FR.out.row
       have hg12 : g12 < W7.drew.heap.size := zcS hown g12 rfl
       exact ⟨zf FR'.out.st.bk 0,(zf FR'.out.b9 0).trans rfl,(zf FR'.out.b9 1).trans rfl,(World.cell?_of_block (hb.block g12 hg12)).trans hx0,(World.cell?_of_block (hb.block g12 hg12)).trans hx1⟩
      refine hK.out _ _ (fun _ => HS) ?_
      clear hK K
      (try simp only [pu0,pu1,pu2,pu3,pu4])
      refine on1 8 fun K hK => ?_
      obtain ⟨W1,es1,clock1,hup,st1,kb1,hmem⟩ := FR'.out.st.update ok hi hj hv2
      unfold kij at hup
      go_simp
      refine hK.out _ _ (fun h => absurd h qq) ?_
      clear hK K
      refine zac qg ?_ _
      have FR1 := za.mk (FR'.out.call st1 kb1)
      clear HS hup FR' hx0 hx1 hck hc90 hc91
      have hlook := st1.look ok hi hj false
      rcases hlook with ⟨_,hno⟩ | ⟨v2,hl2,hv3⟩
      ·obtain ⟨e1,he1,he2⟩ := hmem
       exact absurd he2 (hno e1 he1)
      obtain ⟨B2,c2,rfl,hc2,hr2⟩ := Kd.zak hv3
      unfold kij at hl2
      rw [if_neg qq] at hl2
      have hck : W1.cell? ⟨C.gk,0,none⟩ = some (.map (some C.gm)) := zf FR1.out.st.bk 0
      have hc90 : W1.cell? ⟨W.heap.size + 1,0,none⟩ = some (.int .i64 i) := (zf FR1.out.b9 0).trans rfl
      have hc91 : W1.cell? ⟨W.heap.size + 1,1,none⟩ = some (.int .i64 j) := (zf FR1.out.b9 1).trans rfl
      have hc80 : W1.cell? ⟨W.heap.size,0,none⟩ = some (.int .i64 0) := zf FR1.out.b8 0
      have hf80 : W1.frozen? ⟨W.heap.size,0,none⟩ = false := zn FR1.out.b8 0
      have hc81 : (W1.setCell ⟨W.heap.size,0,none⟩ (.int .i64 (C.D i j).1)).cell? ⟨W.heap.size,1,none⟩ = some (.slice none 0 0) := zf (zar FR1.out.b8 0 _) 1
      have hf81 : (W1.setCell ⟨W.heap.size,0,none⟩ (.int .i64 (C.D i j).1)).frozen? ⟨W.heap.size,1,none⟩ = false := zn (zar FR1.out.b8 0 _) 1
      have HR3 := za.mk hv3
      clear hv3 hmem
      go_wp2_with fail
      have hb8 : ((W1.setCell ⟨W.heap.size,0,none⟩ (.int .i64 (C.D i j).1)).setCell ⟨W.heap.size,1,none⟩ (.slice B2 (C.D i j).2.length c2)).heap[W.heap.size]? = some (.cells #[.int .i64 (C.D i j).1, .slice B2 (C.D i j).2.length c2] 134 (0,0)) := zV (zV FR1.out.b8 0 _ rfl) 1 _ rfl
      refine bodyPost_ret (results_cell_row rfl _ _ W.heap.size 134 #[.int .i64 (C.D i j).1, .slice B2 (C.D i j).2.length c2] (0,0) _ rfl hb8 Try.underlying134 rfl qg) rfl ?_
      exact zdh FR1.out HR3.out hge
     ·have hxy' : (C.l0[i].toList == C.l1[j].toList) = false := by simpa using hxy
      rw [hxy']
      go_wp2_with fail
      clear hz0 hz1
      have FR7 := za.mk FR6.out.drew
      obtain ⟨W7,hW7⟩ : ∃ W_,W6.drew = W_ := ⟨_,rfl⟩
      rw [hW7] at FR7 ⊢
      clear hW7
      have HD : za (zaq ((.slice Ba (zq ⟨1,i,C.l1[j]⟩ (C.D i (j + 1))).2.length ca,zq ⟨1,i,C.l1[j]⟩ (C.D i (j + 1))) : LV).2 (([(.slice Bb (zq ⟨3,i,⟨#[]⟩⟩ (C.D (i + 1) j)).2.length cb,zq ⟨3,i,⟨#[]⟩⟩ (C.D (i + 1) j)),(.slice Bc (zq ⟨2,i,C.l1[j]⟩ (C.D (i + 1) (j + 1))).2.length cc,zq ⟨2,i,C.l1[j]⟩ (C.D (i + 1) (j + 1)))] : List LV).map Prod.snd) = C.D i j) := ⟨by rw [HDD.out,if_neg hxy]; rfl⟩
      have HL : za (∀ x ∈ ((.slice Ba (zq ⟨1,i,C.l1[j]⟩ (C.D i (j + 1))).2.length ca,zq ⟨1,i,C.l1[j]⟩ (C.D i (j + 1))) : LV) :: ([(.slice Bb (zq ⟨3,i,⟨#[]⟩⟩ (C.D (i + 1) j)).2.length cb,zq ⟨3,i,⟨#[]⟩⟩ (C.D (i + 1) j)),(.slice Bc (zq ⟨2,i,C.l1[j]⟩ (C.D (i + 1) (j + 1))).2.length cc,zq ⟨2,i,C.l1[j]⟩ (C.D (i + 1) (j + 1)))] : List LV),x.2.2.length < 1000) := ⟨fun x hx => by
       simp only [List.mem_cons,List.not_mem_nil,or_false] at hx
       rcases hx with rfl | rfl | rfl
       ·first | exact zbH _ _ _ ok | exact Nat.lt_of_le_of_lt (zcd _ _ ok) qq
       ·first | exact zbH _ _ _ ok | exact Nat.lt_of_le_of_lt (zcd _ _ ok) qq
       ·first | exact zbH _ _ _ ok | exact Nat.lt_of_le_of_lt (zcd _ _ ok) qq⟩
      have HN : za (([(.slice Bb (zq ⟨3,i,⟨#[]⟩⟩ (C.D (i + 1) j)).2.length cb,zq ⟨3,i,⟨#[]⟩⟩ (C.D (i + 1) j)),(.slice Bc (zq ⟨2,i,C.l1[j]⟩ (C.D (i + 1) (j + 1))).2.length cc,zq ⟨2,i,C.l1[j]⟩ (C.D (i + 1) (j + 1)))] : List LV).length < 10) := ⟨by simp⟩
      have FR := za.mk (show Fr C W W7 W.heap.size (W.heap.size + 1) i j (fun k => k ≠ W.heap.size ∧ k ≠ w3.heap.size) v6 (((.slice Ba (zq ⟨1,i,C.l1[j]⟩ (C.D i (j + 1))).2.length ca,zq ⟨1,i,C.l1[j]⟩ (C.D i (j + 1))) : LV) :: ([(.slice Bb (zq ⟨3,i,⟨#[]⟩⟩ (C.D (i + 1) j)).2.length cb,zq ⟨3,i,⟨#[]⟩⟩ (C.D (i + 1) j)),(.slice Bc (zq ⟨2,i,C.l1[j]⟩ (C.D (i + 1) (j + 1))).2.length cc,zq ⟨2,i,C.l1[j]⟩ (C.D (i + 1) (j + 1)))] : List LV)) _ _ from FR7.out)
      clear FR7
      obtain ⟨x0,hx0⟩ : ∃ x : LV,((.slice Ba (zq ⟨1,i,C.l1[j]⟩ (C.D i (j + 1))).2.length ca,zq ⟨1,i,C.l1[j]⟩ (C.D i (j + 1))) : LV) = x := ⟨_,rfl⟩
      obtain ⟨xr,hxr⟩ : ∃ x : List LV,([(.slice Bb (zq ⟨3,i,⟨#[]⟩⟩ (C.D (i + 1) j)).2.length cb,zq ⟨3,i,⟨#[]⟩⟩ (C.D (i + 1) j)),(.slice Bc (zq ⟨2,i,C.l1[j]⟩ (C.D (i + 1) (j + 1))).2.length cc,zq ⟨2,i,C.l1[j]⟩ (C.D (i + 1) (j + 1)))] : List LV) = x := ⟨_,rfl⟩
      rw [hx0,hxr] at HL FR HD
      rw [hxr] at HN
      clear hx0 hxr
      obtain ⟨Wc,hWc⟩ : ∃ W_,W7 = W_ := ⟨_,rfl⟩
      subst hWc
      obtain ⟨g12,cap12,As,rfl,hx0,hx1,hK0,hcut,hC,hcl,hR⟩ := FR.out.opens
      have hck := zf FR.out.st.bk 0
      have hc90 := (zf FR.out.b9 0).trans rfl
      have hc91 := (zf FR.out.b9 1).trans rfl
      obtain ⟨cx,vx,lx⟩ := x0
      obtain ⟨_,Bx,ccx,hvx,hcx,hrx⟩ := hK0
      dsimp only at hx0 hx1 hvx hcx hrx
      subst hvx
      have HX := za.mk (And.intro hcx (And.intro hrx (And.intro hC (And.intro hcl hR))))
      clear hcx hrx hC hcl hR
      replace hck : W7.cell? ⟨C.gk,0,none⟩ = some (.map (some C.gm)) := hck
      replace hc90 : W7.cell? ⟨W.heap.size + 1,0,none⟩ = some (.int .i64 i) := hc90
      replace hc91 : W7.cell? ⟨W.heap.size + 1,1,none⟩ = some (.int .i64 j) := hc91
      go_wp2_with fail
      refine zal (fun W' => W'.cell? ⟨C.gk,0,none⟩ = some (.map (some C.gm)) ∧ W'.cell? ⟨W.heap.size + 1,0,none⟩ = some (.int .i64 i) ∧ W'.cell? ⟨W.heap.size + 1,1,none⟩ = some (.int .i64 j) ∧ W'.cell? ⟨g12,0,none⟩ = some (.int .i64 vx) ∧ W'.cell? ⟨g12,1,none⟩ = some (.slice Bx lx.length ccx)) [8] qg ?_
      have HS : W7.drew.cell? ⟨C.gk,0,none⟩ = some (.map (some C.gm)) ∧ W7.drew.cell? ⟨W.heap.size + 1,0,none⟩ = some (.int .i64 i) ∧ W7.drew.cell? ⟨W.heap.size + 1,1,none⟩ = some (.int .i64 j) ∧ W7.drew.cell? ⟨g12,0,none⟩ = some (.int .i64 vx) ∧ W7.drew.cell? ⟨g12,1,none⟩ = some (.slice Bx lx.length ccx) := ⟨hck,hc90,hc91,hx0,hx1⟩
      refine tk 0 ?_
      (try simp only [pu0,pu1,pu2,pu3,pu4])
      refine tk 1 ?_
      (try simp only [pu0,pu1,pu2,pu3,pu4])
      refine tk 2 ?_
      (try simp only [pu0,pu1,pu2,pu3,pu4])
      refine tk 3 ?_
      (try simp only [pu0,pu1,pu2,pu3,pu4])
      refine tk 4 ?_
      (try simp only [pu0,pu1,pu2,pu3,pu4])
      refine tk 5 ?_
      (try simp only [pu0,pu1,pu2,pu3,pu4])
      refine tk 6 ?_
      (try simp only [pu0,pu1,pu2,pu3,pu4])
      refine on1 7 fun K hK => ?_
      refine zbv Try.func97 qg rfl #[.func (.func 98) #[] #[], .agg #[.int .i64 vx, .slice Bx lx.length ccx], .slice As xr.length (cap12 - 1)] qA rfl rfl qo ?_
      refine (zcF (.slice Bx lx.length ccx,vx,lx) As (cap12 - 1) xr W7.drew ⟨rfl,Bx,ccx,rfl,HX.out.1,HX.out.2.1⟩ HX.out.2.2.1 HX.out.2.2.2.1 (HL.out _ List.mem_cons_self) (fun x hx => HL.out x (List.mem_cons_of_mem _ hx)) (qB HN.out)).mono ?_
      rintro e w' ⟨rfl,hb⟩
      refine ⟨_,rfl,?_⟩
      have FR' := za.mk (FR.out.drew.below hb)
      have hv : ∃ v,zaY (.slice Bx lx.length ccx,vx,lx) xr = (v,C.D i j) ∧ Kd.R k63 63 w' C.w0.heap.size (fun _ => True) v (C.D i j).2 := by
       have h1 := zcU xr (.slice Bx lx.length ccx,vx,lx)
       have h2 := h1.trans HD.out
       have h3 : Kd.R k63 63 W7 C.w0.heap.size (fun _ => True) (zaY (.slice Bx lx.length ccx,vx,lx) xr).1 (zaY (.slice Bx lx.length ccx,vx,lx) xr).2.2 := by
        rcases zcP xr (.slice Bx lx.length ccx,vx,lx) with h | h
        ·rw [h]; exact HX.out.2.2.2.2 _ List.mem_cons_self
        ·exact HX.out.2.2.2.2 _ (List.mem_cons_of_mem _ h)
       rw [h2] at h3
       exact ⟨_,Prod.ext rfl h2,Kd.zD (w := W7.drew) h3 hb⟩
      obtain ⟨v,hv1,hv2⟩ := hv
      rw [hv1]
      dsimp only
      have HS : w'.cell? ⟨C.gk,0,none⟩ = some (.map (some C.gm)) ∧ w'.cell? ⟨W.heap.size + 1,0,none⟩ = some (.int .i64 i) ∧ w'.cell? ⟨W.heap.size + 1,1,none⟩ = some (.int .i64 j) ∧ w'.cell? ⟨g12,0,none⟩ = some (.int .i64 vx) ∧ w'.cell? ⟨g12,1,none⟩ = some (.slice Bx lx.length ccx) := by
       obtain ⟨inner,hown⟩ := Kd.zb7 FR.out.row
       have hg12 : g12 < W7.drew.heap.size := zcS hown g12 rfl
       exact ⟨zf FR'.out.st.bk 0,(zf FR'.out.b9 0).trans rfl,(zf FR'.out.b9 1).trans rfl,(World.cell?_of_block (hb.block g12 hg12)).trans hx0,(World.cell?_of_block (hb.block g12 hg12)).trans hx1⟩
      refine hK.out _ _ (fun _ => HS) ?_
      clear hK K
      (try simp only [pu0,pu1,pu2,pu3,pu4])
      refine on1 8 fun K hK => ?_
      obtain ⟨W1,es1,clock1,hup,st1,kb1,hmem⟩ := FR'.out.st.update ok hi hj hv2
      unfold kij at hup
      go_simp
      refine hK.out _ _ (fun h => absurd h qq) ?_
      clear hK K
      refine zac qg ?_ _
      have FR1 := za.mk (FR'.out.call st1 kb1)
      clear HS hup FR' hx0 hx1 hck hc90 hc91
      have hlook := st1.look ok hi hj false
      rcases hlook with ⟨_,hno⟩ | ⟨v2,hl2,hv3⟩
      ·obtain ⟨e1,he1,he2⟩ := hmem
       exact absurd he2 (hno e1 he1)
      obtain ⟨B2,c2,rfl,hc2,hr2⟩ := Kd.zak hv3
      unfold kij at hl2
      rw [if_neg qq] at hl2
      have hck : W1.cell? ⟨C.gk,0,none⟩ = some (.map (some C.gm)) := zf FR1.out.st.bk 0
      have hc90 : W1.cell? ⟨W.heap.size + 1,0,none⟩ = some (.int .i64 i) := (zf FR1.out.b9 0).trans rfl
      have hc91 : W1.cell? ⟨W.heap.size + 1,1,none⟩ = some (.int .i64 j) := (zf FR1.out.b9 1).trans rfl
      have hc80 : W1.cell? ⟨W.heap.size,0,none⟩ = some (.int .i64 0) := zf FR1.out.b8 0
      have hf80 : W1.frozen? ⟨W.heap.size,0,none⟩ = false := zn FR1.out.b8 0
      have hc81 : (W1.setCell ⟨W.heap.size,0,none⟩ (.int .i64 (C.D i j).1)).cell? ⟨W.heap.size,1,none⟩ = some (.slice none 0 0) := zf (zar FR1.out.b8 0 _) 1
      have hf81 : (W1.setCell ⟨W.heap.size,0,none⟩ (.int .i64 (C.D i j).1)).frozen? ⟨W.heap.size,1,none⟩ = false := zn (zar FR1.out.b8 0 _) 1
      have HR3 := za.mk hv3
      clear hv3 hmem
      go_wp2_with fail
      have hb8 : ((W1.setCell ⟨W.heap.size,0,none⟩ (.int .i64 (C.D i j).1)).setCell ⟨W.heap.size,1,none⟩ (.slice B2 (C.D i j).2.length c2)).heap[W.heap.size]? = some (.cells #[.int .i64 (C.D i j).1, .slice B2 (C.D i j).2.length c2] 134 (0,0)) := zV (zV FR1.out.b8 0 _ rfl) 1 _ rfl
      refine bodyPost_ret (results_cell_row rfl _ _ W.heap.size 134 #[.int .i64 (C.D i j).1, .slice B2 (C.D i j).2.length c2] (0,0) _ rfl hb8 Try.underlying134 rfl qg) rfl ?_
      exact zdh FR1.out HR3.out hge
  ·have hk := zf st2.bk 0
   have HV := za.mk ((zhp W #[.int .i64 0, .slice none 0 0] #[.int .i64 (C.D i j).1,v] (.cells #[.int .i64 i, .int .i64 j] 135) (.cells #[.int .i64 (C.D i j).1,v] 134)).R hv)
   obtain ⟨Bv,cv,rfl,hcv,hrv⟩ := Kd.zak hv
   unfold kij at hl
   rw [if_pos rfl] at hl
   clear hv hcv hrv
   go_enter Try.func95,Try.ntmps95
   go_wp2_with fail
   have hb8 := zi (zi (heap_alloc_new W (.cells #[.int .i64 (C.D i j).1, .slice Bv (C.D i j).2.length cv] 134)) (.cells #[.int .i64 i, .int .i64 j] 135)) (.cells #[.int .i64 (C.D i j).1, .slice Bv (C.D i j).2.length cv] 134)
   refine bodyPost_ret (results_cell_row rfl _ _ W.heap.size 134 #[.int .i64 (C.D i j).1, .slice Bv (C.D i j).2.length cv] (0,0) _ rfl hb8 Try.underlying134 rfl qg) rfl ?_
   have hbe : Below W.heap.size W (((W.alloc (.cells #[.int .i64 (C.D i j).1, .slice Bv (C.D i j).2.length cv] 134)).alloc (.cells #[.int .i64 i, .int .i64 j] 135)).alloc (.cells #[.int .i64 (C.D i j).1, .slice Bv (C.D i j).2.length cv] 134)) := ze (ze (ze (Below.refl _ _) _) _) _
   exact ⟨_,es,clock,rfl,HV.out,st0.step (za8.below hbe) (zcs st0.below st0.below.size hbe),zM.of_below hbe _ none⟩
def zbl.f (l0 l1 : List ByteArray) : Option (List S63) := if l0.length ≤ 100 ∧ l1.length ≤ 100 then some (dsp 0 l0 l1).2 else none
theorem zhY (a b : Value) (w : World) : (Instr.field 134 (.agg #[a,b]) 1).run Try.prog w = .ok b w := by
 simp [Instr.field,run_underlying Try.underlying134,Result.andThen,asAgg,part,isAgg,run_underlying Try.underlying31]
theorem zhf (w : World) (A0 : Option Addr) (c0 : Nat) (l0 : List ByteArray) (A1 : Option Addr) (c1 : Nat) (l1 : List ByteArray) : DSt ⟨w,w.heap.size + 1 + 1 + 1,w.heap.size,w.heap.size + 1,w.heap.size + 1 + 1 + 1 + 1,w.heap.size + 1 + 1,A0,c0,l0,A1,c1,l1⟩
  (((((w.alloc (Obj.cells #[Value.slice A0 l0.length c0] 22)).alloc (Obj.cells #[Value.slice A1 l1.length c1] 22)).alloc (Obj.map #[] 0)).alloc (Obj.cells #[Value.map (some (w.heap.size + 1 + 1))] 131)).alloc
   (Obj.cells #[Value.func (Fn.func 95) #[] #[Value.pointer (some { block := w.heap.size + 1 + 1 + 1,off := 0 }),Value.pointer (some { block := w.heap.size,off := 0 }),Value.pointer (some { block := w.heap.size + 1,off := 0 }),Value.pointer (some { block := w.heap.size + 1 + 1 + 1 + 1,off := 0 })]] 132)) #[] 0 := by
 have sz : ∀ (u : World) (o : Obj),(u.alloc o).heap.size = u.heap.size + 1 := fun u o => Array.size_push _
 have nw : ∀ (u : World) (o : Obj) (n : Nat),u.heap.size = n → (u.alloc o).heap[n]? = some o := fun u o n hn => by subst hn; exact heap_alloc_new u o
 refine ⟨ze (ze (ze (ze (ze (Below.refl _ _) _) _) _) _) _,by dsimp only; omega,?_,?_,?_,?_,?_,fun e he => by simp at he⟩
 ·exact zi (nw _ _ _ qP) _
 ·exact zi (zi (zi (zi (nw _ _ _ rfl) _) _) _) _
 ·exact zi (zi (zi (nw _ _ _ qP) _) _) _
 ·exact nw _ _ _ qP
 ·exact zi (zi (nw _ _ _ qP) _) _
set_option maxHeartbeats 4000000 in
set_option maxRecDepth 100000 in
theorem zbl.calls (A0 : Option Addr) (c0 : Nat) (l0 : List ByteArray) (A1 : Option Addr) (c1 : Nat) (l1 : List ByteArray) (r : List S63) (w : World) (hr0 : Kd.C Kd.string w A0 l0.length l0) (hc0 : l0.length ≤ c0) (hr1 : Kd.C Kd.string w A1 l1.length l1) (hc1 : l1.length ≤ c1) (h : zbl.f l0 l1 = some r) :
  Calls Try.prog 64 #[.slice A0 l0.length c0, .slice A1 l1.length c1] w fun e w' => ∃ v0_ : Value,e = .returned (v0_) ∧ Kd.R k63 63 w' w.heap.size (fun _ => True) v0_ r ∧ Below w.heap.size w w' := by
 have hl : l0.length ≤ 100 ∧ l1.length ≤ 100 := by
  unfold zbl.f at h
  by_cases hc : l0.length ≤ 100 ∧ l1.length ≤ 100
  ·exact hc
  ·rw [if_neg hc] at h; cases h
 have hr : r = (dsp 0 l0 l1).2 := by
  unfold zbl.f at h
  rw [if_pos hl] at h
  exact (Option.some.inj h).symm
 subst hr
 have HR := za.mk (And.intro hr0 (And.intro hc0 (And.intro hr1 (And.intro hc1 hl))))
 clear hr0 hc0 hr1 hc1 hl h
 have hmm := @run_makeMap Try.prog
 have hu131 := Try.underlying131
 go_enter Try.func64,Try.ntmps64
 go_wp2_with fail
 have ok : DC.Ok ⟨w,w.heap.size + 1 + 1 + 1,w.heap.size,w.heap.size + 1,w.heap.size + 1 + 1 + 1 + 1,w.heap.size + 1 + 1,A0,c0,l0,A1,c1,l1⟩ := ⟨HR.out.2.2.2.2.1,HR.out.2.2.2.2.2,HR.out.1,HR.out.2.2.1,HR.out.2.1,HR.out.2.2.2.1⟩
 have st := zhf w A0 c0 l0 A1 c1 l1
 refine (zgW _ ok _ 0 0 _ _ _ rfl (Nat.zero_le _) (Nat.zero_le _) st).mono ?_
 rintro e w' ⟨v,es1,clock1,rfl,hv,st1,_⟩
 have hD : DC.D ⟨w,w.heap.size + 1 + 1 + 1,w.heap.size,w.heap.size + 1,w.heap.size + 1 + 1 + 1 + 1,w.heap.size + 1 + 1,A0,c0,l0,A1,c1,l1⟩ 0 0 = dsp 0 l0 l1 := rfl
 rw [hD] at hv
 rw [hD]
 obtain ⟨Bv,cv,rfl,hcv,hrv⟩ := Kd.zak hv
 have hb := za.mk st1.below
 have HV := za.mk hv
 clear st st1 hv hcv hrv
 have hfld := zhY (.int .i64 (dsp 0 l0 l1).1) (.slice Bv (dsp 0 l0 l1).2.length cv) w'
 go_wp2_with fail
 go_ret
 exact ⟨_,rfl,HV.out,hb.out⟩
end Go.Proofs.Ytgmbbfmbimofoaa.P
