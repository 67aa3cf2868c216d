-- MERGED BY A PROGRAM out of texts of this claim: hand work, and what a (turned) print of the kit has written for it
import Derived.IntWalk
import Derived.Outline
import Derived.Deep.DeepCutAuto
import Derived.Deep.CutBlock
import Derived.Test.YtgmbbfmbimofoaaMi25
import Derived.Test.YtgmbbfmbimofoaaMi5
import Derived.Test.YtgmbbfmbimofoaaMi24
import Derived.Test.YtgmbbfmbimofoaaMi14
import Derived.Test.YtgmbbfmbimofoaaMi8
import Derived.Test.YtgmbbfmbimofoaaMi10
import Derived.Test.YtgmbbfmbimofoaaMi6
import Derived.Test.YtgmbbfmbimofoaaMi9
namespace Go.Proofs.Ytgmbbfmbimofoaa.P
open Go.RowKit Go.Proofs.YtgmbbfmbimofoaaW.PrintWords Go.Proofs.YtgmbbfmbimofoaaW.PrintLast Go.Proofs.YtgmbbfmbimofoaaW.PrintMore
attribute [local go_sem] zM zN zV zU zI zH zO zP
set_option linter.unusedVariables false
set_option linter.unusedSimpArgs false
structure DIn (w : World) (A0 : Option Addr) (c0 : Nat) (a : List ByteArray) (A1 : Option Addr) (c1 : Nat) (b : List ByteArray) : Prop where
 ra : Kd.string.C w A0 a.length a
 ha : a.length ≤ c0
 rb : Kd.string.C w A1 b.length b
 hb : b.length ≤ c1
theorem DIn.below {w w' : World} {A0 : Option Addr} {c0 : Nat} {a : List ByteArray} {A1 : Option Addr} {c1 : Nat} {b : List ByteArray} (h : DIn w A0 c0 a A1 c1 b) (hb : Below w.heap.size w w') : DIn w' A0 c0 a A1 c1 b :=
 ⟨Kd.zY h.ra hb,h.ha,Kd.zY h.rb hb,h.hb⟩
def RDC (a b : List ByteArray) (p q : Int) (r : List S63) : Prop := ∀ (A0 A1 : Option Addr) (c0 c1 : Nat) (w : World),DIn w A0 c0 a A1 c1 b →
  Calls Try.prog 65 #[.slice A0 a.length c0, .slice A1 b.length c1, .int .i64 p, .int .i64 q] w fun e w' => ∃ v : Value,e = .returned v ∧ Kd.R k63 63 w' w.heap.size (fun _ => True) v r ∧ Below w.heap.size w w'
set_option maxHeartbeats 8000000 in
set_option maxRecDepth 100000 in
theorem zk8 (a b : List ByteArray) : RDC a b a.length b.length [] := by
 intro A0 A1 c0 c1 w hin
 clear hin
 go_enter Try.func65,Try.ntmps65
 go_wp2_with fail
 go_ret
 exact ⟨_,rfl,Kd.zbP _ _ _ _ _,Below.refl _ _⟩
set_option maxHeartbeats 16000000 in
set_option maxRecDepth 100000 in
theorem zlg (a b : List ByteArray) (ha : a.length ≤ 100) (hb : b.length ≤ 100) (q : Int) (hq0 : 0 ≤ q) (hq : q < b.length) (r1 l1 : List S63) (hr1 : r1.length ≤ 200) (H1 : RDC a b a.length (q + 1) r1) (h1 : (⟨1,a.length,za0 ByteArray.empty b q⟩ :: r1 : List S63) = l1) : RDC a b a.length q l1 := by
 intro A0 A1 c0 c1 w hin
 have HD := za.mk hin
 have HW := za.mk (Below.refl w.heap.size w)
 have H1A := za.mk H1
 have HL1 := za.mk hr1
 have HE1 := za.mk h1
 obtain ⟨ady,ey,hy⟩ := Kd.zbw hin.rb q hq0 hq
 cases ey
 obtain ⟨y,hyy⟩ : ∃ y,za0 ByteArray.empty b q = y := ⟨_,rfl⟩
 rw [hyy] at hy HE1
 clear hyy
 have HXY := za.mk hy
 obtain ⟨p,hp⟩ : ∃ p : Int,(a.length : Int) = p := ⟨_,rfl⟩
 rw [hp] at H1A HE1
 have e1 : (p == (a.length : Int)) = true := beq_iff_eq.2 hp.symm
 have e1' : ((a.length : Int) == p) = true := beq_iff_eq.2 hp
 have e2 : (q == (b.length : Int)) = false := beq_eq_false_iff_ne.2 qj
 have e3 : decide (p < (a.length : Int)) = false := decide_eq_false qj
 have e4 : decide (q < (b.length : Int)) = true := decide_eq_true hq
 have q1 : (q < (b.length : Int)) = True := eq_true hq
 have q2 : (0 ≤ q) = True := eq_true hq0
 have hw : IntKind.i64.wrap (q + 1) = q + 1 := IntWalk.i64_in (q + 1) qj
 have HPP := za.mk hp
 rw [hp]
 have HSS : za (∀ W,Below w.heap.size w W → W.cell? (ady.add q.toNat) = some (.string y)) := ⟨fun W h => (h.cell (World.block_lt_of_cell? w _ HXY.out)).trans HXY.out⟩
 clear hin H1 hr1 h1 hy hp HXY
 go_enter Try.func65,Try.ntmps65
 go_upto_region 5 with fail
 have hb := zf (Below.refl w.heap.size w)
 replace HW := za.mk (zq HW.out hb)
 obtain ⟨wd,hwd⟩ : ∃ W,w.drew = W := ⟨_,rfl⟩
 refine zaF (fun _ => True) [] qi ?_
 rw [hwd] at HW  ⊢
 clear hwd hb
 have HS := trivial
 refine tk 0 ?_
 (try simp only [pu0,pu1,pu2,pu3,pu4])
 refine tk 1 ?_
 (try simp only [pu0,pu1,pu2,pu3,pu4])
 refine tk 2 ?_
 (try simp only [pu0,pu1,pu2,pu3,pu4])
 refine tk 3 ?_
 (try simp only [pu0,pu1,pu2,pu3,pu4])
 refine tk 4 ?_
 (try simp only [pu0,pu1,pu2,pu3,pu4])
 refine tkn 5 ?_
 (try simp only [pu0,pu1,pu2,pu3,pu4])
 refine tkn 6 ?_
 (try simp only [pu0,pu1,pu2,pu3,pu4])
 refine tkn 7 ?_
 (try simp only [pu0,pu1,pu2,pu3,pu4])
 refine tkn 8 ?_
 (try simp only [pu0,pu1,pu2,pu3,pu4])
 refine tk 9 ?_
 (try simp only [pu0,pu1,pu2,pu3,pu4])
 refine tk 10 ?_
 (try simp only [pu0,pu1,pu2,pu3,pu4])
 refine tkn 11 ?_
 (try simp only [pu0,pu1,pu2,pu3,pu4])
 refine tkn 12 ?_
 (try simp only [pu0,pu1,pu2,pu3,pu4])
 refine tkn 13 ?_
 (try simp only [pu0,pu1,pu2,pu3,pu4])
 refine tkn 14 ?_
 (try simp only [pu0,pu1,pu2,pu3,pu4])
 refine tkn 15 ?_
 (try simp only [pu0,pu1,pu2,pu3,pu4])
 refine tkn 16 ?_
 (try simp only [pu0,pu1,pu2,pu3,pu4])
 refine tkn 17 ?_
 (try simp only [pu0,pu1,pu2,pu3,pu4])
 refine tkn 18 ?_
 (try simp only [pu0,pu1,pu2,pu3,pu4])
 refine tkn 19 ?_
 (try simp only [pu0,pu1,pu2,pu3,pu4])
 refine tk 20 ?_
 (try simp only [pu0,pu1,pu2,pu3,pu4])
 refine zar qi ?_ _
 clear HS
 go_upto_region 8 with fail
 have hb := zf (Below.refl wd.heap.size wd)
 replace HW := za.mk (zq HW.out hb)
 obtain ⟨we,hwd⟩ : ∃ W,wd.drew = W := ⟨_,rfl⟩
 refine zaF (fun W => W.cell? (ady.add q.toNat) = some (.string y)) [] qi ?_
 rw [hwd] at HW  ⊢
 clear hwd hb
 have HS := HSS.out we HW.out
 refine tk 0 ?_
 (try simp only [pu0,pu1,pu2,pu3,pu4])
 refine tk 1 ?_
 (try simp only [pu0,pu1,pu2,pu3,pu4])
 refine tk 2 ?_
 (try simp only [pu0,pu1,pu2,pu3,pu4])
 refine tk 3 ?_
 (try simp only [pu0,pu1,pu2,pu3,pu4])
 refine tk 4 ?_
 (try simp only [pu0,pu1,pu2,pu3,pu4])
 refine tk 5 ?_
 (try simp only [pu0,pu1,pu2,pu3,pu4])
 refine tk 7 ?_
 (try simp only [pu0,pu1,pu2,pu3,pu4])
 refine tk 8 ?_
 (try simp only [pu0,pu1,pu2,pu3,pu4])
 refine tk 9 ?_
 (try simp only [pu0,pu1,pu2,pu3,pu4])
 refine tk 10 ?_
 (try simp only [pu0,pu1,pu2,pu3,pu4])
 refine tk 11 ?_
 (try simp only [pu0,pu1,pu2,pu3,pu4])
 refine on2 6 12 (fun K hK => ?_) (fun K hK => ?_)
 ·skip
  clear HS
  refine Kd.zbN k63 (w0 := w) w.heap.size 63 ?hg (N := 62) ?hd (xs := ([⟨1,p,y⟩] : List S63)) (inner := [.int .i64 1, .int .i64 p, .string y]) (ok := fun _ => True) (okp := fun _ => True) ?hr ?hp (fun _ hk => hk) trivial HW.out HW.out.size qz ?_
  case hd => rfl
  case hg => rfl
  case hr => first | (go_simp; done) | (go_simp; rfl)
  case hp => exact (zan.c3 (show Kd.M k63 _ _ _ (⟨1,p,y⟩ : S63) [.int .i64 1, .int .i64 p, .string y] from (zbs _ _ _ (⟨1,p,y⟩ : S63))) (zan.none _ _))
  intro vL wl hRl hbl hgl hnl
  have RL := za.mk hRl
  have HN := za.mk hnl
  replace HW := za.mk hbl
  clear hRl hbl hgl hnl
  have HS := HSS.out wl HW.out
  refine hK.out _ _ (fun _ => HS) ?_
  clear hK K
  (try simp only [pu0,pu1,pu2,pu3,pu4])
  refine on1 12 fun K hK => ?_
  clear HS
  refine zbt Try.func65 qi rfl #[.slice A0 a.length c0, .slice (some ady) b.length c1, .int .i64 p, .int .i64 (q + 1)] qy rfl rfl qr ?_
  refine (H1A.out _ _ _ _ wl (HD.out.below HW.out)).mono ?_
  rintro e ws ⟨vS,rfl,hRs,hbs⟩
  refine ⟨_,rfl,?_⟩
  have RS := za.mk (Kd.zaT hRs HW.out.size)
  replace RL := za.mk (Kd.zJ RL.out hbs)
  replace HW := za.mk (zq HW.out hbs)
  clear hRs hbs
  have HS := HSS.out ws HW.out
  refine hK.out _ _ (fun _ => HS) ?_
  clear hK K
  (try simp only [pu0,pu1,pu2,pu3,pu4])
  refine on1 13 fun K hK => ?_
  clear HS
  obtain ⟨AS,cS,rfl,_,_⟩ := Kd.zav RS.out
  refine Kd.zaY k63 (w0 := w) w.heap.size qy _ _ 31 63 _ 32 qy Try.underlying31 zcg rfl qt qt vL [⟨1,p,y⟩] r1 AS r1.length _ (fun _ => True) (fun _ => False) qy qy RL.out (zaw RS.out).1 (fun x cs h => by rw [zcC h]; exact zbs _ _ _ x) (fun _ h => h.elim) (fun _ _ => trivial) HW.out HW.out.size (by have := HL1.out; simp; omega) ?_
  intro vA wz hRz hbz hgz hatz
  have RA := za.mk hRz
  rw [List.singleton_append,HE1.out] at RA
  replace HW := za.mk hbz
  clear hRz hbz hgz hatz RS RL HN
  have HS := HSS.out wz HW.out
  refine hK.out _ _ (fun _ => HS) ?_
  clear hK K
  (try simp only [pu0,pu1,pu2,pu3,pu4])
  refine tk 14 ?_
  (try simp only [pu0,pu1,pu2,pu3,pu4])
  refine zar qi ?_ _
  clear HS
  obtain ⟨A11,c11,rfl,_,_⟩ := Kd.zav RA.out
  go_wp2_with fail
  go_ret
  exact ⟨_,rfl,RA.out,HW.out⟩
 ·skip
  clear HS
  refine zbt Try.func65 qi rfl #[.slice A0 a.length c0, .slice (some ady) b.length c1, .int .i64 p, .int .i64 (q + 1)] qy rfl rfl qr ?_
  refine (H1A.out _ _ _ _ we (HD.out.below HW.out)).mono ?_
  rintro e ws ⟨vS,rfl,hRs,hbs⟩
  refine ⟨_,rfl,?_⟩
  have RS := za.mk (Kd.zaT hRs HW.out.size)
  replace HW := za.mk (zq HW.out hbs)
  clear hRs hbs
  have HS := HSS.out ws HW.out
  refine hK.out _ _ (fun _ => HS) ?_
  clear hK K
  (try simp only [pu0,pu1,pu2,pu3,pu4])
  refine on1 6 fun K hK => ?_
  clear HS
  refine Kd.zbN k63 (w0 := w) w.heap.size 63 ?hg (N := 62) ?hd (xs := ([⟨1,p,y⟩] : List S63)) (inner := [.int .i64 1, .int .i64 p, .string y]) (ok := fun _ => True) (okp := fun _ => True) ?hr ?hp (fun _ hk => hk) trivial HW.out HW.out.size qz ?_
  case hd => rfl
  case hg => rfl
  case hr => first | (go_simp; done) | (go_simp; rfl)
  case hp => exact (zan.c3 (show Kd.M k63 _ _ _ (⟨1,p,y⟩ : S63) [.int .i64 1, .int .i64 p, .string y] from (zbs _ _ _ (⟨1,p,y⟩ : S63))) (zan.none _ _))
  intro vL wl hRl hbl hgl hnl
  have RL := za.mk hRl
  have HN := za.mk hnl
  replace HW := za.mk hbl
  replace RS := za.mk (Kd.zcA RS.out hgl (fun k _ => Option.some_ne_none k))
  clear hRl hbl hgl hnl
  have HS := HSS.out wl HW.out
  refine hK.out _ _ (fun _ => HS) ?_
  clear hK K
  (try simp only [pu0,pu1,pu2,pu3,pu4])
  refine on1 13 fun K hK => ?_
  clear HS
  obtain ⟨AS,cS,rfl,_,_⟩ := Kd.zav RS.out
  refine Kd.zaY k63 (w0 := w) w.heap.size qy _ _ 31 63 _ 32 qy Try.underlying31 zcg rfl qt qt vL [⟨1,p,y⟩] r1 AS r1.length _ (fun _ => True) (fun _ => False) qy qy RL.out (zaw RS.out).1 (fun x cs h => by rw [zcC h]; exact zbs _ _ _ x) (fun _ h => h.elim) (fun _ _ => trivial) HW.out HW.out.size (by have := HL1.out; simp; omega) ?_
  intro vA wz hRz hbz hgz hatz
  have RA := za.mk hRz
  rw [List.singleton_append,HE1.out] at RA
  replace HW := za.mk hbz
  clear hRz hbz hgz hatz RS RL HN
  have HS := HSS.out wz HW.out
  refine hK.out _ _ (fun _ => HS) ?_
  clear hK K
  (try simp only [pu0,pu1,pu2,pu3,pu4])
  refine tk 14 ?_
  (try simp only [pu0,pu1,pu2,pu3,pu4])
  refine zar qi ?_ _
  clear HS
  obtain ⟨A11,c11,rfl,_,_⟩ := Kd.zav RA.out
  go_wp2_with fail
  go_ret
  exact ⟨_,rfl,RA.out,HW.out⟩
set_option maxHeartbeats 16000000 in
set_option maxRecDepth 100000 in
theorem zkV (a b : List ByteArray) (ha : a.length ≤ 100) (hb : b.length ≤ 100) (p : Int) (hp0 : 0 ≤ p) (hp : p < a.length) (r3 l3 : List S63) (hr3 : r3.length ≤ 200) (H3 : RDC a b (p + 1) b.length r3) (h3 : (⟨3,p,⟨#[]⟩⟩ :: r3 : List S63) = l3) : RDC a b p b.length l3 := by
 intro A0 A1 c0 c1 w hin
 have HD := za.mk hin
 have HW := za.mk (Below.refl w.heap.size w)
 have H3A := za.mk H3
 have HL3 := za.mk hr3
 have HE3 := za.mk h3
 obtain ⟨q,hq⟩ : ∃ q : Int,(b.length : Int) = q := ⟨_,rfl⟩
 rw [hq] at H3A
 have e1 : (p == (a.length : Int)) = false := beq_eq_false_iff_ne.2 qj
 have e3 : decide (p < (a.length : Int)) = true := decide_eq_true hp
 have e4 : decide (q < (b.length : Int)) = false := decide_eq_false qj
 have hw : IntKind.i64.wrap (p + 1) = p + 1 := IntWalk.i64_in (p + 1) qj
 have HPP := za.mk hq
 rw [hq]
 clear hin H3 hr3 h3 hq
 go_enter Try.func65,Try.ntmps65
 go_upto_region 5 with fail
 have hb := zf (Below.refl w.heap.size w)
 replace HW := za.mk (zq HW.out hb)
 obtain ⟨wd,hwd⟩ : ∃ W,w.drew = W := ⟨_,rfl⟩
 refine zaF (fun _ => True) [] qi ?_
 rw [hwd] at HW  ⊢
 clear hwd hb
 have HS := trivial
 refine tk 0 ?_
 (try simp only [pu0,pu1,pu2,pu3,pu4])
 refine tk 1 ?_
 (try simp only [pu0,pu1,pu2,pu3,pu4])
 refine tk 2 ?_
 (try simp only [pu0,pu1,pu2,pu3,pu4])
 refine tk 3 ?_
 (try simp only [pu0,pu1,pu2,pu3,pu4])
 refine tk 4 ?_
 (try simp only [pu0,pu1,pu2,pu3,pu4])
 refine tk 5 ?_
 (try simp only [pu0,pu1,pu2,pu3,pu4])
 refine tk 6 ?_
 (try simp only [pu0,pu1,pu2,pu3,pu4])
 refine tk 7 ?_
 (try simp only [pu0,pu1,pu2,pu3,pu4])
 refine tk 8 ?_
 (try simp only [pu0,pu1,pu2,pu3,pu4])
 refine tk 9 ?_
 (try simp only [pu0,pu1,pu2,pu3,pu4])
 refine tk 10 ?_
 (try simp only [pu0,pu1,pu2,pu3,pu4])
 refine tkn 11 ?_
 (try simp only [pu0,pu1,pu2,pu3,pu4])
 refine tkn 12 ?_
 (try simp only [pu0,pu1,pu2,pu3,pu4])
 refine tkn 13 ?_
 (try simp only [pu0,pu1,pu2,pu3,pu4])
 refine tkn 14 ?_
 (try simp only [pu0,pu1,pu2,pu3,pu4])
 refine tkn 15 ?_
 (try simp only [pu0,pu1,pu2,pu3,pu4])
 refine tkn 16 ?_
 (try simp only [pu0,pu1,pu2,pu3,pu4])
 refine tkn 17 ?_
 (try simp only [pu0,pu1,pu2,pu3,pu4])
 refine tkn 18 ?_
 (try simp only [pu0,pu1,pu2,pu3,pu4])
 refine tkn 19 ?_
 (try simp only [pu0,pu1,pu2,pu3,pu4])
 refine tk 20 ?_
 (try simp only [pu0,pu1,pu2,pu3,pu4])
 refine zar qi ?_ _
 clear HS
 go_wp2_with (first | ((with_reducible refine zaE (N := 117) rfl ?_); refine Kd.zee k63 (w0 := w) w.heap.size 63 ?hg (N := 117) ?hd (xs := ([⟨3,p,⟨#[]⟩⟩] : List S63)) (inner := [.int .i64 3, .int .i64 p, .string ⟨#[]⟩]) (ok := fun _ => True) (okp := fun _ => True) ?hr ?hp (fun _ hk => hk) trivial HW.out HW.out.size qz ?_; (case hd => rfl); (case hg => rfl); (case hr => exact qq); (case hp => exact (zan.c3 (show Kd.M k63 _ _ _ (⟨3,p,⟨#[]⟩⟩ : S63) [.int .i64 3, .int .i64 p, .string ⟨#[]⟩] from (zbs _ _ _ (⟨3,p,⟨#[]⟩⟩ : S63))) (zan.none _ _))); intro vL wl hRl hbl hgl hnl; have RL := za.mk hRl; have HN := za.mk hnl; replace HW := za.mk hbl; clear hRl hbl hgl hnl) | ((with_reducible refine zz (f := 65) rfl ?_); refine zT (some 123) rfl rfl Try.func65 qi rfl #[.slice A0 a.length c0, .slice A1 b.length c1, .int .i64 (p + 1), .int .i64 q] rfl qx ?_; refine (H3A.out _ _ _ _ _ (HD.out.below HW.out)).mono ?_; rintro e ws ⟨vS,rfl,hRs,hbs⟩; refine ⟨_,rfl,?_⟩; have RS := za.mk (Kd.zaT hRs HW.out.size); replace RL := za.mk (Kd.zJ RL.out hbs); replace HW := za.mk (zq HW.out hbs); clear hRs hbs; obtain ⟨AS,cS,rfl,_,_⟩ := Kd.zav RS.out) | ((with_reducible refine zbf (b := .append) (xs := #[.tmp 117, .tmp 123]) rfl ?_); at_builtin; refine Kd.zdp k63 (w0 := w) w.heap.size rfl (.tmp 117) (.tmp 123) 31 63 (.agg #[(.int .i64 0),(.int .i64 0),(.string ⟨#[]⟩)]) 32 rfl Try.underlying31 zcg rfl qt qt vL [⟨3,p,⟨#[]⟩⟩] r3 AS r3.length _ (fun _ => True) (fun _ => False) rfl rfl RL.out (zaw RS.out).1 (fun x cs h => by rw [zcC h]; exact zbs _ _ _ x) (fun _ h => h.elim) (fun _ _ => trivial) HW.out HW.out.size (by have := HL3.out; simp; omega) ?_; intro vA wz hRz hbz hgz hatz; have RA := za.mk hRz; rw [List.singleton_append,HE3.out] at RA; replace HW := za.mk hbz; clear hRz hbz hgz hatz RS RL HN))
 go_ret
 exact ⟨_,rfl,RA.out,HW.out⟩
set_option maxHeartbeats 64000000 in
set_option maxRecDepth 100000 in
theorem zkK (a b : List ByteArray) (ha : a.length ≤ 100) (hb : b.length ≤ 100) (p q : Int) (hp0 : 0 ≤ p) (hp : p < a.length) (hq0 : 0 ≤ q) (hq : q < b.length) (r1 r2 r3 l1 l2 l3 : List S63) (hr1 : r1.length ≤ 200) (hr2 : r2.length ≤ 200) (hr3 : r3.length ≤ 200)
  (H1 : RDC a b p (q + 1) r1) (H2 : RDC a b (p + 1) (q + 1) r2) (H3 : RDC a b (p + 1) q r3) (h1 : (⟨1,p,za0 ByteArray.empty b q⟩ :: r1 : List S63) = l1) (h2 : (⟨2,p,za0 ByteArray.empty b q⟩ :: r2 : List S63) = l2) (h3 : (⟨3,p,⟨#[]⟩⟩ :: r3 : List S63) = l3)
  (o0 o1 o2 o3 : Option (List S63)) (ho0 : (if (za0 ByteArray.empty a p).toList = (za0 ByteArray.empty b q).toList then some r2 else none) = o0) (ho1 : zbM o0 l1 = o1) (ho2 : zbM o1 l2 = o2) (ho3 : zbM o2 l3 = o3) : RDC a b p q (zcP o3) := by
 intro A0 A1 c0 c1 w hin
 have HD := za.mk hin
 have HW := za.mk (Below.refl w.heap.size w)
 have H1A := za.mk H1
 have H2A := za.mk H2
 have H3A := za.mk H3
 have HL1 := za.mk hr1
 have HL2 := za.mk hr2
 have HL3 := za.mk hr3
 have LL1 : za (l1.length ≤ 201) := ⟨by rw [← h1,List.length_cons]; omega⟩
 have LL2 : za (l2.length ≤ 201) := ⟨by rw [← h2,List.length_cons]; omega⟩
 have LL3 : za (l3.length ≤ 201) := ⟨by rw [← h3,List.length_cons]; omega⟩
 have HE1 := za.mk h1
 have HE2 := za.mk h2
 have HE3 := za.mk h3
 have HO0 := za.mk ho0
 have HO1 := za.mk ho1
 have HO2 := za.mk ho2
 have HO3 := za.mk ho3
 have LO0 : za ((zcP o0).length ≤ 201) := ⟨by rw [← ho0]; split <;> simp only [zcP,List.length_nil] <;> omega⟩
 have LO1 : za ((zcP o1).length ≤ 201) := ⟨by rw [← ho1]; exact zdt LO0.out LL1.out⟩
 have LO2 : za ((zcP o2).length ≤ 201) := ⟨by rw [← ho2]; exact zdt LO1.out LL2.out⟩
 obtain ⟨adx,ex,hx⟩ := Kd.zbw hin.ra p hp0 hp
 cases ex
 obtain ⟨ady,ey,hy⟩ := Kd.zbw hin.rb q hq0 hq
 cases ey
 obtain ⟨x,hxx⟩ : ∃ x,za0 ByteArray.empty a p = x := ⟨_,rfl⟩
 obtain ⟨y,hyy⟩ : ∃ y,za0 ByteArray.empty b q = y := ⟨_,rfl⟩
 rw [hxx] at hx HO0
 rw [hyy] at hy HE1 HE2 HO0
 clear hxx hyy
 have HXX := za.mk hx
 have HXY := za.mk hy
 have e1 : (p == (a.length : Int)) = false := beq_eq_false_iff_ne.2 qj
 have e3 : decide (p < (a.length : Int)) = true := decide_eq_true hp
 have e4 : decide (q < (b.length : Int)) = true := decide_eq_true hq
 have q1 : (q < (b.length : Int)) = True := eq_true hq
 have q2 : (0 ≤ q) = True := eq_true hq0
 have q3 : (p < (a.length : Int)) = True := eq_true hp
 have q4 : (0 ≤ p) = True := eq_true hp0
 have hw : IntKind.i64.wrap (q + 1) = q + 1 := IntWalk.i64_in (q + 1) qj
 have hw2 : IntKind.i64.wrap (p + 1) = p + 1 := IntWalk.i64_in (p + 1) qj
 have HSS : za (∀ W,Below w.heap.size w W → W.cell? (ady.add q.toNat) = some (.string y)) := ⟨fun W h => (h.cell (World.block_lt_of_cell? w _ HXY.out)).trans HXY.out⟩
 have HSX : za (∀ W,Below w.heap.size w W → W.cell? (adx.add p.toNat) = some (.string x) ∧ W.cell? (ady.add q.toNat) = some (.string y)) := ⟨fun W h => ⟨(h.cell (World.block_lt_of_cell? w _ HXX.out)).trans HXX.out,HSS.out W h⟩⟩
 clear hin H1 H2 H3 hr1 hr2 hr3 h1 h2 h3 ho0 ho1 ho2 ho3 hx hy HXX HXY
 go_enter Try.func65,Try.ntmps65
 go_upto_region 5 with fail
 have hb := zf (Below.refl w.heap.size w)
 replace HW := za.mk (zq HW.out hb)
 obtain ⟨wd,hwd⟩ : ∃ W,w.drew = W := ⟨_,rfl⟩
 refine zaF (fun W => W.cell? (adx.add p.toNat) = some (.string x) ∧ W.cell? (ady.add q.toNat) = some (.string y)) [] qi ?_
 rw [hwd] at HW  ⊢
 clear hwd hb
 have HS := HSX.out wd HW.out
 refine tk 0 ?_
 (try simp only [pu0,pu1,pu2,pu3,pu4])
 refine tk 1 ?_
 (try simp only [pu0,pu1,pu2,pu3,pu4])
 refine tk 2 ?_
 (try simp only [pu0,pu1,pu2,pu3,pu4])
 refine tk 3 ?_
 (try simp only [pu0,pu1,pu2,pu3,pu4])
 refine tk 4 ?_
 (try simp only [pu0,pu1,pu2,pu3,pu4])
 refine tk 5 ?_
 (try simp only [pu0,pu1,pu2,pu3,pu4])
 refine tk 6 ?_
 (try simp only [pu0,pu1,pu2,pu3,pu4])
 refine tk 7 ?_
 (try simp only [pu0,pu1,pu2,pu3,pu4])
 refine tk 8 ?_
 (try simp only [pu0,pu1,pu2,pu3,pu4])
 refine tk 9 ?_
 (try simp only [pu0,pu1,pu2,pu3,pu4])
 refine tk 10 ?_
 (try simp only [pu0,pu1,pu2,pu3,pu4])
 refine tk 11 ?_
 (try simp only [pu0,pu1,pu2,pu3,pu4])
 refine tk 12 ?_
 (try simp only [pu0,pu1,pu2,pu3,pu4])
 refine tk 13 ?_
 (try simp only [pu0,pu1,pu2,pu3,pu4])
 refine tk 14 ?_
 (try simp only [pu0,pu1,pu2,pu3,pu4])
 refine tk 15 ?_
 (try simp only [pu0,pu1,pu2,pu3,pu4])
 refine tk 16 ?_
 (try simp only [pu0,pu1,pu2,pu3,pu4])
 refine tk 17 ?_
 (try simp only [pu0,pu1,pu2,pu3,pu4])
 refine tk 18 ?_
 (try simp only [pu0,pu1,pu2,pu3,pu4])
 refine tk 19 ?_
 (try simp only [pu0,pu1,pu2,pu3,pu4])
 refine tk 20 ?_
 (try simp only [pu0,pu1,pu2,pu3,pu4])
 refine zar qi ?_ _
 clear HS
 go_upto_if 44 with fail
 go_cut [9,10] (fun v9 v10 wc => v10 = .bool o0.isSome ∧ za (Kd.R k63 63 wc w.heap.size (fun _ => True) v9 (zcP o0)) ∧ za (Below w.heap.size w wc))
 case first =>
  by_cases hxy : x.toList = y.toList
  ·have ho := HO0.out
   rw [if_pos hxy] at ho
   subst ho
   have f1 : (x.toList == y.toList) = true := beq_iff_eq.2 hxy
   rw [f1]
   go_wp2_with ((with_reducible refine zz (f := 65) rfl ?_); refine zT (some 51) rfl rfl Try.func65 qi rfl #[.slice (some adx) a.length c0, .slice (some ady) b.length c1, .int .i64 (p + 1), .int .i64 (q + 1)] rfl qx ?_; refine (H2A.out _ _ _ _ _ (HD.out.below HW.out)).mono ?_; rintro e ws ⟨vS,rfl,hRs,hbs⟩; refine ⟨_,rfl,?_⟩; have RS := za.mk (Kd.zaT hRs HW.out.size); replace HW := za.mk (zq HW.out hbs); clear hRs hbs)
   go_meet
   case rel => exact ⟨rfl,RS,HW⟩
  ·have ho := HO0.out
   rw [if_neg hxy] at ho
   subst ho
   have f1 : (x.toList == y.toList) = false := beq_eq_false_iff_ne.2 hxy
   rw [f1]
   go_wp2_with fail
   go_meet
   case rel => exact ⟨rfl,⟨Kd.zbP _ _ _ _ _⟩,HW⟩
 obtain ⟨rfl,R9,HW⟩ := hcut
 clear HO0
 go_upto_if 55 with fail
 go_cut [9,10] (fun v9 v10 wc => v10 = .bool o1.isSome ∧ za (Kd.R k63 63 wc w.heap.size (fun _ => True) v9 (zcP o1)) ∧ za (Below w.heap.size w wc))
 case first =>
  go_upto_region 8 with fail
  have hb := zf (Below.refl wc.heap.size wc)
  replace HW := za.mk (zq HW.out hb)
  replace R9 := za.mk (Kd.zJ R9.out hb)
  obtain ⟨we,hwd⟩ : ∃ W,wc.drew = W := ⟨_,rfl⟩
  refine zaF (fun W => W.cell? (ady.add q.toNat) = some (.string y)) [] qi ?_
  rw [hwd] at HW R9 ⊢
  clear hwd hb
  have HS := HSS.out we HW.out
  refine tk 0 ?_
  (try simp only [pu0,pu1,pu2,pu3,pu4])
  refine tk 1 ?_
  (try simp only [pu0,pu1,pu2,pu3,pu4])
  refine tk 2 ?_
  (try simp only [pu0,pu1,pu2,pu3,pu4])
  refine tk 3 ?_
  (try simp only [pu0,pu1,pu2,pu3,pu4])
  refine tk 4 ?_
  (try simp only [pu0,pu1,pu2,pu3,pu4])
  refine tk 5 ?_
  (try simp only [pu0,pu1,pu2,pu3,pu4])
  refine tk 7 ?_
  (try simp only [pu0,pu1,pu2,pu3,pu4])
  refine tk 8 ?_
  (try simp only [pu0,pu1,pu2,pu3,pu4])
  refine tk 9 ?_
  (try simp only [pu0,pu1,pu2,pu3,pu4])
  refine tk 10 ?_
  (try simp only [pu0,pu1,pu2,pu3,pu4])
  refine tk 11 ?_
  (try simp only [pu0,pu1,pu2,pu3,pu4])
  refine on2 6 12 (fun K hK => ?_) (fun K hK => ?_)
  ·skip
   clear HS
   replace R9 := za.mk (Kd.zaA (Kd.zbv R9.out) (fun k hk => hk.2.2.1))
   refine Kd.zbN k63 (w0 := w) w.heap.size 63 ?hg (N := 62) ?hd (xs := ([⟨1,p,y⟩] : List S63)) (inner := [.int .i64 1, .int .i64 p, .string y]) (ok := fun _ => True) (okp := fun _ => True) ?hr ?hp (fun _ hk => hk) trivial HW.out HW.out.size qz ?_
   case hd => rfl
   case hg => rfl
   case hr => first | (go_simp; done) | (go_simp; rfl)
   case hp => exact (zan.c3 (show Kd.M k63 _ _ _ (⟨1,p,y⟩ : S63) [.int .i64 1, .int .i64 p, .string y] from (zbs _ _ _ (⟨1,p,y⟩ : S63))) (zan.none _ _))
   intro vL wl hRl hbl hgl hnl
   have RL := za.mk hRl
   have HN := za.mk hnl
   replace HW := za.mk hbl
   replace R9 := za.mk (Kd.zcA R9.out hgl (fun k _ => Option.some_ne_none k))
   clear hRl hbl hgl hnl
   have HS := HSS.out wl HW.out
   refine hK.out _ _ (fun _ => HS) ?_
   clear hK K
   (try simp only [pu0,pu1,pu2,pu3,pu4])
   refine on1 12 fun K hK => ?_
   clear HS
   refine zbt Try.func65 qi rfl #[.slice (some adx) a.length c0, .slice (some ady) b.length c1, .int .i64 p, .int .i64 (q + 1)] qy rfl rfl qr ?_
   refine (H1A.out _ _ _ _ wl (HD.out.below HW.out)).mono ?_
   rintro e ws ⟨vS,rfl,hRs,hbs⟩
   refine ⟨_,rfl,?_⟩
   have RS := za.mk (Kd.zaT hRs HW.out.size)
   replace R9 := za.mk (Kd.zJ R9.out hbs)
   replace RL := za.mk (Kd.zJ RL.out hbs)
   replace HW := za.mk (zq HW.out hbs)
   clear hRs hbs
   have HS := HSS.out ws HW.out
   refine hK.out _ _ (fun _ => HS) ?_
   clear hK K
   (try simp only [pu0,pu1,pu2,pu3,pu4])
   refine on1 13 fun K hK => ?_
   clear HS
   obtain ⟨AS,cS,rfl,_,_⟩ := Kd.zav RS.out
   refine Kd.zaY k63 (w0 := w) w.heap.size qy _ _ 31 63 _ 32 qy Try.underlying31 zcg rfl qt qt vL [⟨1,p,y⟩] r1 AS r1.length _ (fun _ => True) (fun _ => False) qy qy RL.out (zaw RS.out).1 (fun x cs h => by rw [zcC h]; exact zbs _ _ _ x) (fun _ h => h.elim) (fun _ _ => trivial) HW.out HW.out.size (by have := HL1.out; simp; omega) ?_
   intro vA wz hRz hbz hgz hatz
   have RA := za.mk hRz
   rw [List.singleton_append,HE1.out] at RA
   replace R9 := za.mk (Kd.zaA (ok' := fun _ => True) (Kd.zcA R9.out hgz (fun k hk he => by obtain ⟨b',hb',hle⟩ := HN.out; rw [hb'] at he; injection he with he; omega)) (fun _ _ => trivial))
   replace HW := za.mk hbz
   clear hRz hbz hgz hatz RS RL HN
   have HS := HSS.out wz HW.out
   refine hK.out _ _ (fun _ => HS) ?_
   clear hK K
   (try simp only [pu0,pu1,pu2,pu3,pu4])
   refine tk 14 ?_
   (try simp only [pu0,pu1,pu2,pu3,pu4])
   refine zar qi ?_ _
   clear HS
   obtain ⟨AN,cN,rfl,_,_⟩ := Kd.zav RA.out
   cases o0 with
   | none =>
    have ho := HO1.out
    rw [show zbM none l1 = some l1 from rfl] at ho
    subst ho
    go_wp2_with fail
    go_meet
    case rel => exact ⟨rfl,RA,HW⟩
   | some lb =>
    replace R9 := za.mk (show Kd.R k63 63 _ w.heap.size (fun _ => True) _ lb from R9.out)
    obtain ⟨A9,c9,rfl,_,_⟩ := Kd.zav R9.out
    obtain ⟨kb,hkb⟩ := zd1 l1 lb (by have := LL1.out; omega) (qO LO0.out)
    have HBT := za.mk (hkb kb (Nat.le_refl _))
    clear hkb
    obtain ⟨bb,hbb⟩ : ∃ bb,zcT l1 lb = bb := ⟨_,rfl⟩
    rw [hbb] at HBT
    cases bb with
    | true =>
     have ho := HO1.out
     rw [show zbM (some lb) l1 = some l1 by unfold zbM; dsimp only; rw [if_pos hbb]] at ho
     subst ho
     clear hbb
     go_wp2_with ((with_reducible refine zz (f := 84) rfl ?_); (try (refine zbZ qy ?_; dsimp only)); refine zT (some 75) rfl rfl Try.func84 qi rfl #[.slice AN l1.length cN, .slice A9 lb.length c9] rfl qx ?_; refine (zK.calls kb AN cN l1 A9 c9 lb true _ (zaw RA.out).1 (zaw RA.out).2 (zaw R9.out).1 (zaw R9.out).2 HBT.out).mono ?_; rintro e wk ⟨rfl,hbk⟩; refine ⟨_,rfl,?_⟩; replace RA := za.mk (Kd.zJ RA.out hbk); replace R9 := za.mk (Kd.zJ R9.out hbk); replace HW := za.mk (zq HW.out hbk); clear hbk)
     go_meet
     case rel => exact ⟨rfl,RA,HW⟩
    | false =>
     have ho := HO1.out
     rw [show zbM (some lb) l1 = some lb by unfold zbM; dsimp only; rw [if_neg (by rw [hbb]; decide)]] at ho
     subst ho
     clear hbb
     go_wp2_with ((with_reducible refine zz (f := 84) rfl ?_); (try (refine zbZ qy ?_; dsimp only)); refine zT (some 75) rfl rfl Try.func84 qi rfl #[.slice AN l1.length cN, .slice A9 lb.length c9] rfl qx ?_; refine (zK.calls kb AN cN l1 A9 c9 lb false _ (zaw RA.out).1 (zaw RA.out).2 (zaw R9.out).1 (zaw R9.out).2 HBT.out).mono ?_; rintro e wk ⟨rfl,hbk⟩; refine ⟨_,rfl,?_⟩; replace RA := za.mk (Kd.zJ RA.out hbk); replace R9 := za.mk (Kd.zJ R9.out hbk); replace HW := za.mk (zq HW.out hbk); clear hbk)
     go_meet
     case rel => exact ⟨rfl,R9,HW⟩
  ·skip
   clear HS
   refine zbt Try.func65 qi rfl #[.slice (some adx) a.length c0, .slice (some ady) b.length c1, .int .i64 p, .int .i64 (q + 1)] qy rfl rfl qr ?_
   refine (H1A.out _ _ _ _ we (HD.out.below HW.out)).mono ?_
   rintro e ws ⟨vS,rfl,hRs,hbs⟩
   refine ⟨_,rfl,?_⟩
   have RS := za.mk (Kd.zaT hRs HW.out.size)
   replace R9 := za.mk (Kd.zJ R9.out hbs)
   replace HW := za.mk (zq HW.out hbs)
   clear hRs hbs
   have HS := HSS.out ws HW.out
   refine hK.out _ _ (fun _ => HS) ?_
   clear hK K
   (try simp only [pu0,pu1,pu2,pu3,pu4])
   refine on1 6 fun K hK => ?_
   clear HS
   replace R9 := za.mk (Kd.zaA (Kd.zbv R9.out) (fun k hk => hk.2.2.1))
   refine Kd.zbN k63 (w0 := w) w.heap.size 63 ?hg (N := 62) ?hd (xs := ([⟨1,p,y⟩] : List S63)) (inner := [.int .i64 1, .int .i64 p, .string y]) (ok := fun _ => True) (okp := fun _ => True) ?hr ?hp (fun _ hk => hk) trivial HW.out HW.out.size qz ?_
   case hd => rfl
   case hg => rfl
   case hr => first | (go_simp; done) | (go_simp; rfl)
   case hp => exact (zan.c3 (show Kd.M k63 _ _ _ (⟨1,p,y⟩ : S63) [.int .i64 1, .int .i64 p, .string y] from (zbs _ _ _ (⟨1,p,y⟩ : S63))) (zan.none _ _))
   intro vL wl hRl hbl hgl hnl
   have RL := za.mk hRl
   have HN := za.mk hnl
   replace HW := za.mk hbl
   replace R9 := za.mk (Kd.zcA R9.out hgl (fun k _ => Option.some_ne_none k))
   replace RS := za.mk (Kd.zcA RS.out hgl (fun k _ => Option.some_ne_none k))
   clear hRl hbl hgl hnl
   have HS := HSS.out wl HW.out
   refine hK.out _ _ (fun _ => HS) ?_
   clear hK K
   (try simp only [pu0,pu1,pu2,pu3,pu4])
   refine on1 13 fun K hK => ?_
   clear HS
   obtain ⟨AS,cS,rfl,_,_⟩ := Kd.zav RS.out
   refine Kd.zaY k63 (w0 := w) w.heap.size qy _ _ 31 63 _ 32 qy Try.underlying31 zcg rfl qt qt vL [⟨1,p,y⟩] r1 AS r1.length _ (fun _ => True) (fun _ => False) qy qy RL.out (zaw RS.out).1 (fun x cs h => by rw [zcC h]; exact zbs _ _ _ x) (fun _ h => h.elim) (fun _ _ => trivial) HW.out HW.out.size (by have := HL1.out; simp; omega) ?_
   intro vA wz hRz hbz hgz hatz
   have RA := za.mk hRz
   rw [List.singleton_append,HE1.out] at RA
   replace R9 := za.mk (Kd.zaA (ok' := fun _ => True) (Kd.zcA R9.out hgz (fun k hk he => by obtain ⟨b',hb',hle⟩ := HN.out; rw [hb'] at he; injection he with he; omega)) (fun _ _ => trivial))
   replace HW := za.mk hbz
   clear hRz hbz hgz hatz RS RL HN
   have HS := HSS.out wz HW.out
   refine hK.out _ _ (fun _ => HS) ?_
   clear hK K
   (try simp only [pu0,pu1,pu2,pu3,pu4])
   refine tk 14 ?_
   (try simp only [pu0,pu1,pu2,pu3,pu4])
   refine zar qi ?_ _
   clear HS
   obtain ⟨AN,cN,rfl,_,_⟩ := Kd.zav RA.out
   cases o0 with
   | none =>
    have ho := HO1.out
    rw [show zbM none l1 = some l1 from rfl] at ho
    subst ho
    go_wp2_with fail
    go_meet
    case rel => exact ⟨rfl,RA,HW⟩
   | some lb =>
    replace R9 := za.mk (show Kd.R k63 63 _ w.heap.size (fun _ => True) _ lb from R9.out)
    obtain ⟨A9,c9,rfl,_,_⟩ := Kd.zav R9.out
    obtain ⟨kb,hkb⟩ := zd1 l1 lb (by have := LL1.out; omega) (qO LO0.out)
    have HBT := za.mk (hkb kb (Nat.le_refl _))
    clear hkb
    obtain ⟨bb,hbb⟩ : ∃ bb,zcT l1 lb = bb := ⟨_,rfl⟩
    rw [hbb] at HBT
    cases bb with
    | true =>
     have ho := HO1.out
     rw [show zbM (some lb) l1 = some l1 by unfold zbM; dsimp only; rw [if_pos hbb]] at ho
     subst ho
     clear hbb
     go_wp2_with ((with_reducible refine zz (f := 84) rfl ?_); (try (refine zbZ qy ?_; dsimp only)); refine zT (some 75) rfl rfl Try.func84 qi rfl #[.slice AN l1.length cN, .slice A9 lb.length c9] rfl qx ?_; refine (zK.calls kb AN cN l1 A9 c9 lb true _ (zaw RA.out).1 (zaw RA.out).2 (zaw R9.out).1 (zaw R9.out).2 HBT.out).mono ?_; rintro e wk ⟨rfl,hbk⟩; refine ⟨_,rfl,?_⟩; replace RA := za.mk (Kd.zJ RA.out hbk); replace R9 := za.mk (Kd.zJ R9.out hbk); replace HW := za.mk (zq HW.out hbk); clear hbk)
     go_meet
     case rel => exact ⟨rfl,RA,HW⟩
    | false =>
     have ho := HO1.out
     rw [show zbM (some lb) l1 = some lb by unfold zbM; dsimp only; rw [if_neg (by rw [hbb]; decide)]] at ho
     subst ho
     clear hbb
     go_wp2_with ((with_reducible refine zz (f := 84) rfl ?_); (try (refine zbZ qy ?_; dsimp only)); refine zT (some 75) rfl rfl Try.func84 qi rfl #[.slice AN l1.length cN, .slice A9 lb.length c9] rfl qx ?_; refine (zK.calls kb AN cN l1 A9 c9 lb false _ (zaw RA.out).1 (zaw RA.out).2 (zaw R9.out).1 (zaw R9.out).2 HBT.out).mono ?_; rintro e wk ⟨rfl,hbk⟩; refine ⟨_,rfl,?_⟩; replace RA := za.mk (Kd.zJ RA.out hbk); replace R9 := za.mk (Kd.zJ R9.out hbk); replace HW := za.mk (zq HW.out hbk); clear hbk)
     go_meet
     case rel => exact ⟨rfl,R9,HW⟩
 obtain ⟨rfl,R9,HW⟩ := hcut
 clear HO1
 go_upto_if 87 with fail
 go_cut [9,10] (fun v9 v10 wc => v10 = .bool o2.isSome ∧ za (Kd.R k63 63 wc w.heap.size (fun _ => True) v9 (zcP o2)) ∧ za (Below w.heap.size w wc))
 case first =>
  go_upto_region 12 with fail
  have hb := zf (Below.refl wc.heap.size wc)
  replace HW := za.mk (zq HW.out hb)
  replace R9 := za.mk (Kd.zJ R9.out hb)
  obtain ⟨we,hwd⟩ : ∃ W,wc.drew = W := ⟨_,rfl⟩
  refine zaF (fun W => W.cell? (ady.add q.toNat) = some (.string y)) [] qi ?_
  rw [hwd] at HW R9 ⊢
  clear hwd hb
  have HS := HSS.out we HW.out
  refine tk 0 ?_
  (try simp only [pu0,pu1,pu2,pu3,pu4])
  refine tk 1 ?_
  (try simp only [pu0,pu1,pu2,pu3,pu4])
  refine tk 2 ?_
  (try simp only [pu0,pu1,pu2,pu3,pu4])
  refine tk 3 ?_
  (try simp only [pu0,pu1,pu2,pu3,pu4])
  refine tk 4 ?_
  (try simp only [pu0,pu1,pu2,pu3,pu4])
  refine tk 5 ?_
  (try simp only [pu0,pu1,pu2,pu3,pu4])
  refine tk 7 ?_
  (try simp only [pu0,pu1,pu2,pu3,pu4])
  refine tk 8 ?_
  (try simp only [pu0,pu1,pu2,pu3,pu4])
  refine tk 9 ?_
  (try simp only [pu0,pu1,pu2,pu3,pu4])
  refine tk 10 ?_
  (try simp only [pu0,pu1,pu2,pu3,pu4])
  refine tk 11 ?_
  (try simp only [pu0,pu1,pu2,pu3,pu4])
  refine tk 12 ?_
  (try simp only [pu0,pu1,pu2,pu3,pu4])
  refine on2 6 13 (fun K hK => ?_) (fun K hK => ?_)
  ·skip
   clear HS
   replace R9 := za.mk (Kd.zaA (Kd.zbv R9.out) (fun k hk => hk.2.2.1))
   refine Kd.zbN k63 (w0 := w) w.heap.size 63 ?hg (N := 94) ?hd (xs := ([⟨2,p,y⟩] : List S63)) (inner := [.int .i64 2, .int .i64 p, .string y]) (ok := fun _ => True) (okp := fun _ => True) ?hr ?hp (fun _ hk => hk) trivial HW.out HW.out.size qz ?_
   case hd => rfl
   case hg => rfl
   case hr => first | (go_simp; done) | (go_simp; rfl)
   case hp => exact (zan.c3 (show Kd.M k63 _ _ _ (⟨2,p,y⟩ : S63) [.int .i64 2, .int .i64 p, .string y] from (zbs _ _ _ (⟨2,p,y⟩ : S63))) (zan.none _ _))
   intro vL wl hRl hbl hgl hnl
   have RL := za.mk hRl
   have HN := za.mk hnl
   replace HW := za.mk hbl
   replace R9 := za.mk (Kd.zcA R9.out hgl (fun k _ => Option.some_ne_none k))
   clear hRl hbl hgl hnl
   have HS := HSS.out wl HW.out
   refine hK.out _ _ (fun _ => HS) ?_
   clear hK K
   (try simp only [pu0,pu1,pu2,pu3,pu4])
   refine on1 13 fun K hK => ?_
   clear HS
   refine zbt Try.func65 qi rfl #[.slice (some adx) a.length c0, .slice (some ady) b.length c1, .int .i64 (p + 1), .int .i64 (q + 1)] qy rfl rfl qr ?_
   refine (H2A.out _ _ _ _ wl (HD.out.below HW.out)).mono ?_
   rintro e ws ⟨vS,rfl,hRs,hbs⟩
   refine ⟨_,rfl,?_⟩
   have RS := za.mk (Kd.zaT hRs HW.out.size)
   replace R9 := za.mk (Kd.zJ R9.out hbs)
   replace RL := za.mk (Kd.zJ RL.out hbs)
   replace HW := za.mk (zq HW.out hbs)
   clear hRs hbs
   have HS := HSS.out ws HW.out
   refine hK.out _ _ (fun _ => HS) ?_
   clear hK K
   (try simp only [pu0,pu1,pu2,pu3,pu4])
   refine on1 14 fun K hK => ?_
   clear HS
   obtain ⟨AS,cS,rfl,_,_⟩ := Kd.zav RS.out
   refine Kd.zaY k63 (w0 := w) w.heap.size qy _ _ 31 63 _ 32 qy Try.underlying31 zcg rfl qt qt vL [⟨2,p,y⟩] r2 AS r2.length _ (fun _ => True) (fun _ => False) qy qy RL.out (zaw RS.out).1 (fun x cs h => by rw [zcC h]; exact zbs _ _ _ x) (fun _ h => h.elim) (fun _ _ => trivial) HW.out HW.out.size (by have := HL2.out; simp; omega) ?_
   intro vA wz hRz hbz hgz hatz
   have RA := za.mk hRz
   rw [List.singleton_append,HE2.out] at RA
   replace R9 := za.mk (Kd.zaA (ok' := fun _ => True) (Kd.zcA R9.out hgz (fun k hk he => by obtain ⟨b',hb',hle⟩ := HN.out; rw [hb'] at he; injection he with he; omega)) (fun _ _ => trivial))
   replace HW := za.mk hbz
   clear hRz hbz hgz hatz RS RL HN
   have HS := HSS.out wz HW.out
   refine hK.out _ _ (fun _ => HS) ?_
   clear hK K
   (try simp only [pu0,pu1,pu2,pu3,pu4])
   refine tk 15 ?_
   (try simp only [pu0,pu1,pu2,pu3,pu4])
   refine zar qi ?_ _
   clear HS
   obtain ⟨AN,cN,rfl,_,_⟩ := Kd.zav RA.out
   cases o1 with
   | none =>
    have ho := HO2.out
    rw [show zbM none l2 = some l2 from rfl] at ho
    subst ho
    go_wp2_with fail
    go_meet
    case rel => exact ⟨rfl,RA,HW⟩
   | some lb =>
    replace R9 := za.mk (show Kd.R k63 63 _ w.heap.size (fun _ => True) _ lb from R9.out)
    obtain ⟨A9,c9,rfl,_,_⟩ := Kd.zav R9.out
    obtain ⟨kb,hkb⟩ := zd1 l2 lb (by have := LL2.out; omega) (qO LO1.out)
    have HBT := za.mk (hkb kb (Nat.le_refl _))
    clear hkb
    obtain ⟨bb,hbb⟩ : ∃ bb,zcT l2 lb = bb := ⟨_,rfl⟩
    rw [hbb] at HBT
    cases bb with
    | true =>
     have ho := HO2.out
     rw [show zbM (some lb) l2 = some l2 by unfold zbM; dsimp only; rw [if_pos hbb]] at ho
     subst ho
     clear hbb
     go_wp2_with ((with_reducible refine zz (f := 84) rfl ?_); (try (refine zbZ qy ?_; dsimp only)); refine zT (some 108) rfl rfl Try.func84 qi rfl #[.slice AN l2.length cN, .slice A9 lb.length c9] rfl qx ?_; refine (zK.calls kb AN cN l2 A9 c9 lb true _ (zaw RA.out).1 (zaw RA.out).2 (zaw R9.out).1 (zaw R9.out).2 HBT.out).mono ?_; rintro e wk ⟨rfl,hbk⟩; refine ⟨_,rfl,?_⟩; replace RA := za.mk (Kd.zJ RA.out hbk); replace R9 := za.mk (Kd.zJ R9.out hbk); replace HW := za.mk (zq HW.out hbk); clear hbk)
     go_meet
     case rel => exact ⟨rfl,RA,HW⟩
    | false =>
     have ho := HO2.out
     rw [show zbM (some lb) l2 = some lb by unfold zbM; dsimp only; rw [if_neg (by rw [hbb]; decide)]] at ho
     subst ho
     clear hbb
     go_wp2_with ((with_reducible refine zz (f := 84) rfl ?_); (try (refine zbZ qy ?_; dsimp only)); refine zT (some 108) rfl rfl Try.func84 qi rfl #[.slice AN l2.length cN, .slice A9 lb.length c9] rfl qx ?_; refine (zK.calls kb AN cN l2 A9 c9 lb false _ (zaw RA.out).1 (zaw RA.out).2 (zaw R9.out).1 (zaw R9.out).2 HBT.out).mono ?_; rintro e wk ⟨rfl,hbk⟩; refine ⟨_,rfl,?_⟩; replace RA := za.mk (Kd.zJ RA.out hbk); replace R9 := za.mk (Kd.zJ R9.out hbk); replace HW := za.mk (zq HW.out hbk); clear hbk)
     go_meet
     case rel => exact ⟨rfl,R9,HW⟩
  ·skip
   clear HS
   refine zbt Try.func65 qi rfl #[.slice (some adx) a.length c0, .slice (some ady) b.length c1, .int .i64 (p + 1), .int .i64 (q + 1)] qy rfl rfl qr ?_
   refine (H2A.out _ _ _ _ we (HD.out.below HW.out)).mono ?_
   rintro e ws ⟨vS,rfl,hRs,hbs⟩
   refine ⟨_,rfl,?_⟩
   have RS := za.mk (Kd.zaT hRs HW.out.size)
   replace R9 := za.mk (Kd.zJ R9.out hbs)
   replace HW := za.mk (zq HW.out hbs)
   clear hRs hbs
   have HS := HSS.out ws HW.out
   refine hK.out _ _ (fun _ => HS) ?_
   clear hK K
   (try simp only [pu0,pu1,pu2,pu3,pu4])
   refine on1 6 fun K hK => ?_
   clear HS
   replace R9 := za.mk (Kd.zaA (Kd.zbv R9.out) (fun k hk => hk.2.2.1))
   refine Kd.zbN k63 (w0 := w) w.heap.size 63 ?hg (N := 94) ?hd (xs := ([⟨2,p,y⟩] : List S63)) (inner := [.int .i64 2, .int .i64 p, .string y]) (ok := fun _ => True) (okp := fun _ => True) ?hr ?hp (fun _ hk => hk) trivial HW.out HW.out.size qz ?_
   case hd => rfl
   case hg => rfl
   case hr => first | (go_simp; done) | (go_simp; rfl)
   case hp => exact (zan.c3 (show Kd.M k63 _ _ _ (⟨2,p,y⟩ : S63) [.int .i64 2, .int .i64 p, .string y] from (zbs _ _ _ (⟨2,p,y⟩ : S63))) (zan.none _ _))
   intro vL wl hRl hbl hgl hnl
   have RL := za.mk hRl
   have HN := za.mk hnl
   replace HW := za.mk hbl
   replace R9 := za.mk (Kd.zcA R9.out hgl (fun k _ => Option.some_ne_none k))
   replace RS := za.mk (Kd.zcA RS.out hgl (fun k _ => Option.some_ne_none k))
   clear hRl hbl hgl hnl
   have HS := HSS.out wl HW.out
   refine hK.out _ _ (fun _ => HS) ?_
   clear hK K
   (try simp only [pu0,pu1,pu2,pu3,pu4])
   refine on1 14 fun K hK => ?_
   clear HS
   obtain ⟨AS,cS,rfl,_,_⟩ := Kd.zav RS.out
   refine Kd.zaY k63 (w0 := w) w.heap.size qy _ _ 31 63 _ 32 qy Try.underlying31 zcg rfl qt qt vL [⟨2,p,y⟩] r2 AS r2.length _ (fun _ => True) (fun _ => False) qy qy RL.out (zaw RS.out).1 (fun x cs h => by rw [zcC h]; exact zbs _ _ _ x) (fun _ h => h.elim) (fun _ _ => trivial) HW.out HW.out.size (by have := HL2.out; simp; omega) ?_
   intro vA wz hRz hbz hgz hatz
   have RA := za.mk hRz
   rw [List.singleton_append,HE2.out] at RA
   replace R9 := za.mk (Kd.zaA (ok' := fun _ => True) (Kd.zcA R9.out hgz (fun k hk he => by obtain ⟨b',hb',hle⟩ := HN.out; rw [hb'] at he; injection he with he; omega)) (fun _ _ => trivial))
   replace HW := za.mk hbz
   clear hRz hbz hgz hatz RS RL HN
   have HS := HSS.out wz HW.out
   refine hK.out _ _ (fun _ => HS) ?_
   clear hK K
   (try simp only [pu0,pu1,pu2,pu3,pu4])
   refine tk 15 ?_
   (try simp only [pu0,pu1,pu2,pu3,pu4])
   refine zar qi ?_ _
   clear HS
   obtain ⟨AN,cN,rfl,_,_⟩ := Kd.zav RA.out
   cases o1 with
   | none =>
    have ho := HO2.out
    rw [show zbM none l2 = some l2 from rfl] at ho
    subst ho
    go_wp2_with fail
    go_meet
    case rel => exact ⟨rfl,RA,HW⟩
   | some lb =>
    replace R9 := za.mk (show Kd.R k63 63 _ w.heap.size (fun _ => True) _ lb from R9.out)
    obtain ⟨A9,c9,rfl,_,_⟩ := Kd.zav R9.out
    obtain ⟨kb,hkb⟩ := zd1 l2 lb (by have := LL2.out; omega) (qO LO1.out)
    have HBT := za.mk (hkb kb (Nat.le_refl _))
    clear hkb
    obtain ⟨bb,hbb⟩ : ∃ bb,zcT l2 lb = bb := ⟨_,rfl⟩
    rw [hbb] at HBT
    cases bb with
    | true =>
     have ho := HO2.out
     rw [show zbM (some lb) l2 = some l2 by unfold zbM; dsimp only; rw [if_pos hbb]] at ho
     subst ho
     clear hbb
     go_wp2_with ((with_reducible refine zz (f := 84) rfl ?_); (try (refine zbZ qy ?_; dsimp only)); refine zT (some 108) rfl rfl Try.func84 qi rfl #[.slice AN l2.length cN, .slice A9 lb.length c9] rfl qx ?_; refine (zK.calls kb AN cN l2 A9 c9 lb true _ (zaw RA.out).1 (zaw RA.out).2 (zaw R9.out).1 (zaw R9.out).2 HBT.out).mono ?_; rintro e wk ⟨rfl,hbk⟩; refine ⟨_,rfl,?_⟩; replace RA := za.mk (Kd.zJ RA.out hbk); replace R9 := za.mk (Kd.zJ R9.out hbk); replace HW := za.mk (zq HW.out hbk); clear hbk)
     go_meet
     case rel => exact ⟨rfl,RA,HW⟩
    | false =>
     have ho := HO2.out
     rw [show zbM (some lb) l2 = some lb by unfold zbM; dsimp only; rw [if_neg (by rw [hbb]; decide)]] at ho
     subst ho
     clear hbb
     go_wp2_with ((with_reducible refine zz (f := 84) rfl ?_); (try (refine zbZ qy ?_; dsimp only)); refine zT (some 108) rfl rfl Try.func84 qi rfl #[.slice AN l2.length cN, .slice A9 lb.length c9] rfl qx ?_; refine (zK.calls kb AN cN l2 A9 c9 lb false _ (zaw RA.out).1 (zaw RA.out).2 (zaw R9.out).1 (zaw R9.out).2 HBT.out).mono ?_; rintro e wk ⟨rfl,hbk⟩; refine ⟨_,rfl,?_⟩; replace RA := za.mk (Kd.zJ RA.out hbk); replace R9 := za.mk (Kd.zJ R9.out hbk); replace HW := za.mk (zq HW.out hbk); clear hbk)
     go_meet
     case rel => exact ⟨rfl,R9,HW⟩
 obtain ⟨rfl,R9,HW⟩ := hcut
 clear HO2
 go_upto_if 114 with fail
 go_cut [9,10] (fun v9 v10 wc => v10 = .bool o3.isSome ∧ za (Kd.R k63 63 wc w.heap.size (fun _ => True) v9 (zcP o3)) ∧ za (Below w.heap.size w wc))
 case first =>
  go_upto_region 17 with (first | ((with_reducible refine zaE (N := 117) rfl ?_); replace R9 := za.mk (Kd.zaA (Kd.zbv R9.out) (fun k hk => hk.2.2.1)); refine Kd.zee k63 (w0 := w) w.heap.size 63 ?hg (N := 117) ?hd (xs := ([⟨3,p,⟨#[]⟩⟩] : List S63)) (inner := [.int .i64 3, .int .i64 p, .string ⟨#[]⟩]) (ok := fun _ => True) (okp := fun _ => True) ?hr ?hp (fun _ hk => hk) trivial HW.out HW.out.size qz ?_; (case hd => rfl); (case hg => rfl); (case hr => exact qq); (case hp => exact (zan.c3 (show Kd.M k63 _ _ _ (⟨3,p,⟨#[]⟩⟩ : S63) [.int .i64 3, .int .i64 p, .string ⟨#[]⟩] from (zbs _ _ _ (⟨3,p,⟨#[]⟩⟩ : S63))) (zan.none _ _))); intro vL wl hRl hbl hgl hnl; have RL := za.mk hRl; have HN := za.mk hnl; replace HW := za.mk hbl; replace R9 := za.mk (Kd.zcA R9.out hgl (fun k _ => Option.some_ne_none k)); clear hRl hbl hgl hnl) | ((with_reducible refine zz (f := 65) rfl ?_); refine zT (some 123) rfl rfl Try.func65 qi rfl #[.slice (some adx) a.length c0, .slice (some ady) b.length c1, .int .i64 (p + 1), .int .i64 q] rfl qx ?_; refine (H3A.out _ _ _ _ _ (HD.out.below HW.out)).mono ?_; rintro e ws ⟨vS,rfl,hRs,hbs⟩; refine ⟨_,rfl,?_⟩; have RS := za.mk (Kd.zaT hRs HW.out.size); replace RL := za.mk (Kd.zJ RL.out hbs); replace R9 := za.mk (Kd.zJ R9.out hbs); replace HW := za.mk (zq HW.out hbs); clear hRs hbs; obtain ⟨AS,cS,rfl,_,_⟩ := Kd.zav RS.out) | ((with_reducible refine zbf (b := .append) (xs := #[.tmp 117, .tmp 123]) rfl ?_); at_builtin; refine Kd.zdp k63 (w0 := w) w.heap.size rfl (.tmp 117) (.tmp 123) 31 63 (.agg #[(.int .i64 0),(.int .i64 0),(.string ⟨#[]⟩)]) 32 rfl Try.underlying31 zcg rfl qt qt vL [⟨3,p,⟨#[]⟩⟩] r3 AS r3.length _ (fun _ => True) (fun _ => False) rfl rfl RL.out (zaw RS.out).1 (fun x cs h => by rw [zcC h]; exact zbs _ _ _ x) (fun _ h => h.elim) (fun _ _ => trivial) HW.out HW.out.size (by have := HL3.out; simp; omega) ?_; intro vA wz hRz hbz hgz hatz; have RA := za.mk hRz; rw [List.singleton_append,HE3.out] at RA; replace R9 := za.mk (Kd.zaA (ok' := fun _ => True) (Kd.zcA R9.out hgz (fun k hk he => by obtain ⟨b',hb',hle⟩ := HN.out; rw [hb'] at he; injection he with he; omega)) (fun _ _ => trivial)); replace HW := za.mk hbz; clear hRz hbz hgz hatz RS RL HN))
  obtain ⟨AN,cN,rfl,_,_⟩ := Kd.zav RA.out
  cases o2 with
  | none =>
   have ho := HO3.out
   rw [show zbM none l3 = some l3 from rfl] at ho
   subst ho
   go_wp2_with fail
   go_meet
   case rel => exact ⟨rfl,RA,HW⟩
  | some lb =>
   replace R9 := za.mk (show Kd.R k63 63 _ w.heap.size (fun _ => True) _ lb from R9.out)
   obtain ⟨A9,c9,rfl,_,_⟩ := Kd.zav R9.out
   obtain ⟨kb,hkb⟩ := zd1 l3 lb (by have := LL3.out; omega) (qO LO2.out)
   have HBT := za.mk (hkb kb (Nat.le_refl _))
   clear hkb
   obtain ⟨bb,hbb⟩ : ∃ bb,zcT l3 lb = bb := ⟨_,rfl⟩
   rw [hbb] at HBT
   cases bb with
   | true =>
    have ho := HO3.out
    rw [show zbM (some lb) l3 = some l3 by unfold zbM; dsimp only; rw [if_pos hbb]] at ho
    subst ho
    clear hbb
    go_wp2_with ((with_reducible refine zz (f := 84) rfl ?_); (try (refine zbZ qy ?_; dsimp only)); refine zT (some 130) rfl rfl Try.func84 qi rfl #[.slice AN l3.length cN, .slice A9 lb.length c9] rfl qx ?_; refine (zK.calls kb AN cN l3 A9 c9 lb true _ (zaw RA.out).1 (zaw RA.out).2 (zaw R9.out).1 (zaw R9.out).2 HBT.out).mono ?_; rintro e wk ⟨rfl,hbk⟩; refine ⟨_,rfl,?_⟩; replace RA := za.mk (Kd.zJ RA.out hbk); replace R9 := za.mk (Kd.zJ R9.out hbk); replace HW := za.mk (zq HW.out hbk); clear hbk)
    go_meet
    case rel => exact ⟨rfl,RA,HW⟩
   | false =>
    have ho := HO3.out
    rw [show zbM (some lb) l3 = some lb by unfold zbM; dsimp only; rw [if_neg (by rw [hbb]; decide)]] at ho
    subst ho
    clear hbb
    go_wp2_with ((with_reducible refine zz (f := 84) rfl ?_); (try (refine zbZ qy ?_; dsimp only)); refine zT (some 130) rfl rfl Try.func84 qi rfl #[.slice AN l3.length cN, .slice A9 lb.length c9] rfl qx ?_; refine (zK.calls kb AN cN l3 A9 c9 lb false _ (zaw RA.out).1 (zaw RA.out).2 (zaw R9.out).1 (zaw R9.out).2 HBT.out).mono ?_; rintro e wk ⟨rfl,hbk⟩; refine ⟨_,rfl,?_⟩; replace RA := za.mk (Kd.zJ RA.out hbk); replace R9 := za.mk (Kd.zJ R9.out hbk); replace HW := za.mk (zq HW.out hbk); clear hbk)
    go_meet
    case rel => exact ⟨rfl,R9,HW⟩
 obtain ⟨rfl,R9,HW⟩ := hcut
 clear HO3
 go_wp2_with fail
 go_ret
 exact ⟨_,rfl,R9.out,HW.out⟩
theorem zgL {l : List ByteArray} {i : Nat} (h : i < l.length) : za0 ByteArray.empty l (i : Int) = l[i] := by
 simp [za0,h]
theorem zjO (a b : List ByteArray) (ha : a.length ≤ 100) (hb : b.length ≤ 100) : ∀ (s i k : Nat),(a.length - i) + (b.length - k) = s → i ≤ a.length → k ≤ b.length → RDC a b i k (rdS i (a.drop i) (b.drop k)) := by
 intro s
 induction s using Nat.strongRecOn with
 | _ s ih =>
  intro i k hs hi hk
  have hlen : ∀ i' k' : Nat,(rdS i' (a.drop i') (b.drop k')).length ≤ 200 := fun i' k' => by
   have := zeo (a.drop i') (b.drop k') i'
   rw [List.length_drop,List.length_drop] at this
   omega
  by_cases h1 : i < a.length
  ·have d1 := List.drop_eq_getElem_cons h1
   have r1 := zgL h1
   by_cases h2 : k < b.length
   ·have d2 := List.drop_eq_getElem_cons h2
    have r2 := zgL h2
    have H1 := ih ((a.length - i) + (b.length - (k + 1))) qj i (k + 1) rfl qj qj
    have H2 := ih ((a.length - (i + 1)) + (b.length - (k + 1))) qj (i + 1) (k + 1) rfl qj qj
    have H3 := ih ((a.length - (i + 1)) + (b.length - k)) qj (i + 1) k rfl qj qj
    have := zkK a b ha hb (i : Int) (k : Int) qj qj qj qj _ _ _ _ _ _ (hlen i (k + 1)) (hlen (i + 1) (k + 1)) (hlen (i + 1) k) H1 H2 H3 rfl rfl rfl _ _ _ _ rfl rfl rfl rfl
    rw [r1,r2] at this
    rw [d1,d2,rdS, ← d1, ← d2]
    exact this
   ·obtain rfl : k = b.length := by omega
    have H3 := ih ((a.length - (i + 1)) + (b.length - b.length)) qj (i + 1) b.length rfl qj qj
    have := zkV a b ha hb (i : Int) qj qj _ _ (hlen (i + 1) b.length) H3 rfl
    rw [List.drop_length] at this ⊢
    rw [d1,rdS]
    exact this
  ·obtain rfl : i = a.length := by omega
   by_cases h2 : k < b.length
   ·have d2 := List.drop_eq_getElem_cons h2
    have r2 := zgL h2
    have H1 := ih ((a.length - a.length) + (b.length - (k + 1))) qj a.length (k + 1) rfl qj qj
    have := zlg a b ha hb (k : Int) qj qj _ _ (hlen a.length (k + 1)) H1 rfl
    rw [r2] at this
    rw [List.drop_length] at this ⊢
    rw [d2,rdS]
    exact this
   ·obtain rfl : k = b.length := by omega
    rw [List.drop_length,List.drop_length,rdS]
    exact zk8 a b
def zbn.f (l0 l1 : List ByteArray) (a2 a3 : Int) : Option (List S63) :=
 if l0.length ≤ 100 ∧ l1.length ≤ 100 ∧ a2 = 0 ∧ a3 = 0 then some (rdS 0 l0 l1) else none
theorem zbn.calls (A0 : Option Addr) (c0 : Nat) (l0 : List ByteArray) (A1 : Option Addr) (c1 : Nat) (l1 : List ByteArray) (a2 a3 : Int) (r : List S63) (w : World) (hr0 : Kd.C Kd.string w A0 l0.length l0) (hc0 : l0.length ≤ c0) (hr1 : Kd.C Kd.string w A1 l1.length l1) (hc1 : l1.length ≤ c1)
  (h : zbn.f l0 l1 a2 a3 = some r) :
  Calls Try.prog 65 #[.slice A0 l0.length c0, .slice A1 l1.length c1, .int .i64 a2, .int .i64 a3] w fun e w' => ∃ v0_ : Value,e = .returned v0_ ∧ Kd.R k63 63 w' w.heap.size (fun _ => True) v0_ r ∧ Below w.heap.size w w' := by
 unfold zbn.f at h
 by_cases hb : l0.length ≤ 100 ∧ l1.length ≤ 100 ∧ a2 = 0 ∧ a3 = 0
 ·rw [if_pos hb] at h
  injection h with h
  subst h
  obtain ⟨h0,h1,rfl,rfl⟩ := hb
  exact zjO l0 l1 h0 h1 _ 0 0 rfl (Nat.zero_le _) (Nat.zero_le _) A0 A1 c0 c1 w ⟨hr0,hc0,hr1,hc1⟩
 ·rw [if_neg hb] at h; cases h
def zb8.f (k : Nat) (l0 : List ByteArray) (l1 : List ByteArray) : Option ((List (S63)) × Int) := (zac.f k l0).bind fun t230 => (if t230 = 0 then ((zac.f k l1).bind fun t231 => (if t231 = 0 then ((zbn.f l0 l1 0 0).bind fun t232 => (some (t232,0))) else (some (([] : List (S63)),t231)))) else (some (([] : List (S63)),t230)))
set_option maxHeartbeats 8000000 in
set_option maxRecDepth 100000 in
theorem zb8.calls (k : Nat) (A0 : Option Addr) (c0 : Nat) (l0 : List ByteArray) (A1 : Option Addr) (c1 : Nat) (l1 : List ByteArray) (r1 : List (S63)) (r2 : Int) (w : World) (hr0 : Kd.C Kd.string w A0 l0.length l0) (hc0 : l0.length ≤ c0) (hr1 : Kd.C Kd.string w A1 l1.length l1) (hc1 : l1.length ≤ c1) (h : zb8.f k l0 l1 = some (r1,r2)) :
  Calls Try.prog 23 #[.slice A0 l0.length c0, .slice A1 l1.length c1] w fun e w' => ∃ v0_ : Value,e = .returned (.tuple #[v0_, .int .i64 r2]) ∧ Kd.R k63 63 w' w.heap.size (fun _ => True) v0_ r1 ∧ Below w.heap.size w w' := by
 have HR0 := za.mk hr0
 have HC0 := za.mk hc0
 clear hr0 hc0
 have HR1 := za.mk hr1
 have HC1 := za.mk hc1
 clear hr1 hc1
 have HB := za.mk (Below.refl w.heap.size w)
 have H : ((zac.f k l0).bind fun t230 => (if t230 = 0 then ((zac.f k l1).bind fun t231 => (if t231 = 0 then ((zbn.f l0 l1 0 0).bind fun t232 => (some (t232,0))) else (some (([] : List (S63)),t231)))) else (some (([] : List (S63)),t230)))) = some (r1,r2) := h
 clear h
 replace H := Option.bind_eq_some_iff.mp H
 obtain ⟨t230,A30,H⟩ := H
 replace H : (if t230 = 0 then ((zac.f k l1).bind fun t231 => (if t231 = 0 then ((zbn.f l0 l1 0 0).bind fun t232 => (some (t232,0))) else (some (([] : List (S63)),t231)))) else (some (([] : List (S63)),t230))) = some (r1,r2) := H
 have A3 := za.mk A30
 clear A30
 by_cases c4 : t230 = 0
 ·rw [if_pos c4] at H
  have c4b0 : (t230 == 0) = true := beq_iff_eq.mpr c4
  have c4b1 : (t230 != 0) = false := bne_eq_false_iff_eq.mpr c4
  clear c4
  replace H := Option.bind_eq_some_iff.mp H
  obtain ⟨t231,A50,H⟩ := H
  replace H : (if t231 = 0 then ((zbn.f l0 l1 0 0).bind fun t232 => (some (t232,0))) else (some (([] : List (S63)),t231))) = some (r1,r2) := H
  have A5 := za.mk A50
  clear A50
  by_cases c6 : t231 = 0
  ·rw [if_pos c6] at H
   have c6b0 : (t231 == 0) = true := beq_iff_eq.mpr c6
   have c6b1 : (t231 != 0) = false := bne_eq_false_iff_eq.mpr c6
   clear c6
   replace H := Option.bind_eq_some_iff.mp H
   obtain ⟨t232,A70,H⟩ := H
   replace H : (some (t232,0)) = some (r1,r2) := H
   have A7 := za.mk A70
   clear A70
   simp only [Option.some.injEq,Prod.mk.injEq] at H
   obtain ⟨rfl,rfl⟩ := H
   go_enter Try.func23,Try.ntmps23
   go_wp2_with (first | ((with_reducible refine zz (f := 47) rfl ?_); refine zT (some 9) rfl rfl Try.func47 qi rfl #[.slice A0 l0.length c0] rfl qa ?_; (with_reducible refine (zac.calls k _ _ l0 t230 _ ?side1 ?side2 A3.out).mono ?_); (case side1 => exact qe HR0.out); (case side2 => exact HC0.out); rintro e w' ⟨rfl,⟨nd,rfl⟩⟩; refine ⟨_,rfl,?_⟩) | ((with_reducible refine zz (f := 47) rfl ?_); refine zT (some 14) rfl rfl Try.func47 qi rfl #[.slice A1 l1.length c1] rfl qa ?_; (with_reducible refine (zac.calls k _ _ l1 t231 _ ?side1 ?side2 A5.out).mono ?_); (case side1 => exact qe HR1.out); (case side2 => exact HC1.out); rintro e w' ⟨rfl,⟨nd,rfl⟩⟩; refine ⟨_,rfl,?_⟩) | ((with_reducible refine zz (f := 65) rfl ?_); refine zT (some 20) rfl rfl Try.func65 qi rfl #[.slice A0 l0.length c0, .slice A1 l1.length c1, .int .i64 0, .int .i64 0] rfl qa ?_; (with_reducible refine (zbn.calls _ _ l0 _ _ l1 0 0 t232 _ ?side1 ?side2 ?side3 ?side4 A7.out).mono ?_); (case side1 => exact qe HR0.out); (case side2 => exact HC0.out); (case side3 => exact qe HR1.out); (case side4 => exact HC1.out); rintro e w8 ⟨v233,rfl,ho0,hb⟩; refine ⟨_,rfl,?_⟩; have n0_ := za.mk (Kd.zaT ho0 (zC (qc HB.out))); have n1_ := za.mk (zq (qc HB.out) hb); clear HB; have HO234 := n0_; have HB := n1_; clear n0_ n1_; (try clear hb); (try clear hb2); (try clear hk); (try clear hi); (try clear ho0)))
   go_ret2
   exact ⟨_,by first | rfl | (simp [zy,zx] <;> rfl) | (simp [*,zy,zx] <;> rfl),by (with_reducible repeat (first | apply Kd.zal | apply Kd.zam | apply Kd.zau)); exact HO234.out,by repeat (first | (with_reducible first | exact HB.out | apply ze | apply zb | apply zf) | exact HB.out)⟩
  ·rw [if_neg c6] at H
   have c6b0 : (t231 == 0) = false := beq_eq_false_iff_ne.mpr c6
   have c6b1 : (t231 != 0) = true := bne_iff_ne.mpr c6
   simp only [Option.some.injEq,Prod.mk.injEq] at H
   obtain ⟨rfl,rfl⟩ := H
   go_enter Try.func23,Try.ntmps23
   go_wp2_with (first | ((with_reducible refine zz (f := 47) rfl ?_); refine zT (some 9) rfl rfl Try.func47 qi rfl #[.slice A0 l0.length c0] rfl qa ?_; (with_reducible refine (zac.calls k _ _ l0 t230 _ ?side1 ?side2 A3.out).mono ?_); (case side1 => exact qe HR0.out); (case side2 => exact HC0.out); rintro e w' ⟨rfl,⟨nd,rfl⟩⟩; refine ⟨_,rfl,?_⟩) | ((with_reducible refine zz (f := 47) rfl ?_); refine zT (some 14) rfl rfl Try.func47 qi rfl #[.slice A1 l1.length c1] rfl qa ?_; (with_reducible refine (zac.calls k _ _ l1 t231 _ ?side1 ?side2 A5.out).mono ?_); (case side1 => exact qe HR1.out); (case side2 => exact HC1.out); rintro e w' ⟨rfl,⟨nd,rfl⟩⟩; refine ⟨_,rfl,?_⟩))
   go_ret2
   exact ⟨_,by first | rfl | (simp [zy,zx] <;> rfl) | (simp [*,zy,zx] <;> rfl),by first | exact Kd.zbP _ _ _ _ _ | exact Kd.zcX _ _ _ _ _ | exact Kd.zc0 _ _ _ _ _ | exact Kd.zc1 _ _ _ _ _ | exact Kd.zc3 _ _ _ _ _,by repeat (first | (with_reducible first | exact HB.out | apply ze | apply zb | apply zf) | exact HB.out)⟩
 ·rw [if_neg c4] at H
  have c4b0 : (t230 == 0) = false := beq_eq_false_iff_ne.mpr c4
  have c4b1 : (t230 != 0) = true := bne_iff_ne.mpr c4
  simp only [Option.some.injEq,Prod.mk.injEq] at H
  obtain ⟨rfl,rfl⟩ := H
  go_enter Try.func23,Try.ntmps23
  go_wp2_with (first | ((with_reducible refine zz (f := 47) rfl ?_); refine zT (some 9) rfl rfl Try.func47 qi rfl #[.slice A0 l0.length c0] rfl qa ?_; (with_reducible refine (zac.calls k _ _ l0 t230 _ ?side1 ?side2 A3.out).mono ?_); (case side1 => exact qe HR0.out); (case side2 => exact HC0.out); rintro e w' ⟨rfl,⟨nd,rfl⟩⟩; refine ⟨_,rfl,?_⟩))
  go_ret2
  exact ⟨_,by first | rfl | (simp [zy,zx] <;> rfl) | (simp [*,zy,zx] <;> rfl),by first | exact Kd.zbP _ _ _ _ _ | exact Kd.zcX _ _ _ _ _ | exact Kd.zc0 _ _ _ _ _ | exact Kd.zc1 _ _ _ _ _ | exact Kd.zc3 _ _ _ _ _,by repeat (first | (with_reducible first | exact HB.out | apply ze | apply zb | apply zf) | exact HB.out)⟩
structure Cmp {α : Type} (c : α → α → Int) : Prop where
 neg : ∀ x y,c y x = - c x y
 tr : ∀ x y z,c x y ≤ 0 → c y z ≤ 0 → c x z ≤ 0
 eq : ∀ x y,c x y = 0 → x = y
theorem Cmp.str {α : Type} {c : α → α → Int} (h : Cmp c) {x y z : α} (h1 : c x y < 0) (h2 : c y z ≤ 0) : c x z < 0 := by
 have h3 := h.tr x y z qj h2
 by_cases h4 : c x z = 0
 ·have := h.eq x z h4
  subst this
  have := h.neg x y
  omega
 ·omega
def lx (a b : Int) : Int := if a = 0 then b else a
theorem zhJ (a b c : Int) : or3 a b c = lx a (lx b c) := rfl
theorem zkb {α : Type} {c : α → α → Int} (h : Cmp c) (x y z : α) {u v t : Int} (ht : u ≤ 0 → v ≤ 0 → t ≤ 0) (h1 : lx (c x y) u ≤ 0) (h2 : lx (c y z) v ≤ 0) : lx (c x z) t ≤ 0 := by
 unfold lx at h1 h2 ⊢
 by_cases e1 : c x y = 0
 ·rw [if_pos e1] at h1
  have := h.eq _ _ e1
  subst this
  by_cases e2 : c x z = 0
  ·rw [if_pos e2] at h2 ⊢
   exact ht h1 h2
  ·rw [if_neg e2] at h2 ⊢
   exact h2
 ·rw [if_neg e1] at h1
  by_cases e2 : c y z = 0
  ·have := h.eq _ _ e2
   subst this
   rw [if_neg e1]; exact h1
  ·rw [if_neg e2] at h2
   have := h.str (x := x) (y := y) (z := z) qj h2
   rw [if_neg qj]; omega
theorem zjr {a b a' b' : Int} (h1 : a' = -a) (h2 : b' = -b) : lx a' b' = - lx a b := by
 unfold lx; subst h1 h2; split <;> split <;> omega
theorem zfF {a b : Int} (h : lx a b = 0) : a = 0 ∧ b = 0 := by
 unfold lx at h; split at h
 ·exact ⟨by assumption,h⟩
 ·exact absurd h (by assumption)
theorem Cmp.lex {β γ : Type} {c1 : β → β → Int} {c2 : γ → γ → Int} (h1 : Cmp c1) (h2 : Cmp c2) : Cmp (fun (x y : β × γ) => lx (c1 x.1 y.1) (c2 x.2 y.2)) where
 neg := fun x y => zjr (h1.neg _ _) (h2.neg _ _)
 tr := fun x y z => zkb h1 _ _ _ (h2.tr _ _ _)
 eq := fun x y h => Prod.ext (h1.eq _ _ (zfF h).1) (h2.eq _ _ (zfF h).2)
theorem Cmp.inj {α β : Type} {c : β → β → Int} (h : Cmp c) (f : α → β) (hf : ∀ x y,f x = f y → x = y) : Cmp (fun x y => c (f x) (f y)) where
 neg := fun x y => h.neg _ _
 tr := fun x y z => h.tr _ _ _
 eq := fun x y e => hf _ _ (h.eq _ _ e)
theorem zeq : Cmp zdA where
 neg := fun x y => by unfold zdA; split <;> split <;> omega
 tr := fun x y z => by unfold zdA; repeat' split <;> (try omega)
 eq := fun x y => by unfold zdA; repeat' split <;> (try omega)
theorem zhK : ∀ (x y z : List UInt8),Op.bytesLess x y = true → Op.bytesLess y z = true → Op.bytesLess x z = true
 | _,[],_,h,_ => by simp [Op.bytesLess] at h
 | _,_ :: _,[],_,h => by simp [Op.bytesLess] at h
 | [],_ :: _,_ :: _,_,_ => by simp [Op.bytesLess]
 | a :: x,b :: y,c :: z,h1,h2 => by
  have ih := zhK x y z
  rw [Op.bytesLess] at h1 h2 ⊢
  simp only [Bool.or_eq_true,Bool.and_eq_true,decide_eq_true_eq,beq_iff_eq] at h1 h2 ⊢
  rcases h1 with h1 | ⟨rfl,h1⟩
  ·rcases h2 with h2 | ⟨rfl,h2⟩
   ·exact .inl (Nat.lt_trans (m := b.toNat) h1 h2)
   ·exact .inl h1
  ·rcases h2 with h2 | ⟨rfl,h2⟩
   ·exact .inl h2
   ·exact .inr ⟨rfl,ih h1 h2⟩
theorem zcK (x y : ByteArray) : (Op.bytesLess x.toList y.toList = true ∧ Op.bytesLess y.toList x.toList = false ∧ zer x y = -1) ∨ (Op.bytesLess x.toList y.toList = false ∧ Op.bytesLess y.toList x.toList = true ∧ zer x y = 1) ∨ (Op.bytesLess x.toList y.toList = false ∧ Op.bytesLess y.toList x.toList = false ∧ x = y ∧ zer x y = 0) := by
 have hg := zf4 x.toList y.toList
 unfold zer
 cases h1 : Op.bytesLess x.toList y.toList
 ·cases h2 : Op.bytesLess y.toList x.toList
  ·rw [h1,h2] at hg
   refine .inr (.inr ⟨rfl,rfl,?_,by simp⟩)
   exact bytes_inj (by simpa using hg)
  ·exact .inr (.inl ⟨rfl,rfl,by simp⟩)
 ·rw [h1] at hg
  have h2 : Op.bytesLess y.toList x.toList = false := by rw [← hg]; rfl
  exact .inl ⟨rfl,h2,by simp⟩
theorem zhA : Cmp zer where
 neg := fun x y => by
  rcases zcK x y with ⟨h1,h2,h3⟩ | ⟨h1,h2,h3⟩ | ⟨h1,h2,rfl,h3⟩
  ·rcases zcK y x with ⟨k1,k2,k3⟩ | ⟨k1,k2,k3⟩ | ⟨k1,k2,_,k3⟩
   ·rw [k1] at h2; cases h2
   ·rw [h3,k3]; rfl
   ·rw [k2] at h1; cases h1
  ·rcases zcK y x with ⟨k1,k2,k3⟩ | ⟨k1,k2,k3⟩ | ⟨k1,k2,_,k3⟩
   ·rw [h3,k3]
   ·rw [k1] at h2; cases h2
   ·rw [k1] at h2; cases h2
  ·rw [h3]; rfl
 tr := fun x y z => by
  intro a1 a2
  rcases zcK x y with ⟨h1,h2,h3⟩ | ⟨h1,h2,h3⟩ | ⟨h1,h2,rfl,h3⟩
  ·rcases zcK y z with ⟨k1,k2,k3⟩ | ⟨k1,k2,k3⟩ | ⟨k1,k2,rfl,k3⟩
   ·have := zhK _ _ _ h1 k1
    unfold zer; rw [if_pos this]; decide
   ·omega
   ·exact a1
  ·omega
  ·exact a2
 eq := fun x y h => by
  rcases zcK x y with ⟨h1,h2,h3⟩ | ⟨h1,h2,h3⟩ | ⟨h1,h2,rfl,h3⟩
  ·omega
  ·omega
  ·rfl
theorem zf2 : Cmp zeu := (zeq.lex (zeq.lex zhA)).inj (fun m : S63 => (m.f1,m.f0,m.f2)) (fun x y h => by
 cases x; cases y
 simp only [Prod.mk.injEq] at h
 obtain ⟨rfl,rfl,rfl⟩ := h
 rfl)
theorem zdr (a b : S63) (x y : List S63) : zcH (a :: x) (b :: y) = lx (zeu a b) (zcH x y) := by rw [zcH]; rfl
theorem zi9 : Cmp zcH where
 neg := fun x => by
  induction x with
  | nil => intro y; cases y <;> simp [zcH]
  | cons a x ih =>
   intro y
   cases y with
   | nil => simp [zcH]
   | cons b y => rw [zdr,zdr]; exact zjr (zf2.neg _ _) (ih _)
 tr := fun x => by
  induction x with
  | nil => intro y z _ _; cases z <;> simp [zcH]
  | cons a x ih =>
   intro y z
   cases y with
   | nil => intro h _; simp [zcH] at h
   | cons b y =>
    cases z with
    | nil => intro _ h; simp [zcH] at h
    | cons c z => rw [zdr,zdr,zdr]; exact zkb zf2 _ _ _ (ih y z)
 eq := fun x => by
  induction x with
  | nil => intro y h; cases y with | nil => rfl | cons b y => simp [zcH] at h
  | cons a x ih =>
   intro y h
   cases y with
   | nil => simp [zcH] at h
   | cons b y =>
    rw [zdr] at h
    rw [zf2.eq _ _ (zfF h).1,ih _ (zfF h).2]
theorem zdK : Cmp cmpL := (zeq.lex (zeq.lex zi9)).inj (fun x : Int × List S63 => (x.1,(x.2.length : Int),x.2)) (fun x y h => by
 simp only [Prod.mk.injEq] at h
 exact Prod.ext h.1 h.2.2)
theorem zdv (a b : Int) : zdA a b = 0 ↔ a = b := ⟨zeq.eq a b,fun h => by subst h; simp [zdA]⟩
theorem ze6 (a b : Int) : zdA a b < 0 ↔ a < b := by unfold zdA; repeat' split <;> (try omega)
theorem zjw (x y : ByteArray) : zer x y = 0 ↔ x.toList = y.toList := ⟨fun h => by rw [zhA.eq _ _ h],fun h => by
 have := bytes_inj h
 subst this
 rcases zcK x x with ⟨h1,h2,h3⟩ | ⟨h1,h2,h3⟩ | ⟨h1,h2,_,h3⟩
 ·rw [h1] at h2; cases h2
 ·rw [h1] at h2; cases h2
 ·exact h3⟩
theorem zjJ (x y : ByteArray) : zer x y < 0 ↔ Op.bytesLess x.toList y.toList = true := by
 rcases zcK x y with ⟨h1,h2,h3⟩ | ⟨h1,h2,h3⟩ | ⟨h1,h2,_,h3⟩ <;> rw [h1,h3] <;> simp
theorem zgd (a b : Int) : lx a b < 0 ↔ (a < 0 ∨ (a = 0 ∧ b < 0)) := by unfold lx; split <;> omega
theorem zke (a b : Int) : lx a b = 0 ↔ (a = 0 ∧ b = 0) := by unfold lx; split <;> omega
theorem zgW (a b : S63) : ze4 a b = true ↔ zeu a b = 0 := by
 unfold ze4 zeu
 rw [zhJ,zke,zke,zdv,zdv,zjw]
 simp only [Bool.and_eq_true,beq_iff_eq]
 constructor
 ·rintro ⟨⟨h1,h2⟩,h3⟩; exact ⟨h2,h1,h3⟩
 ·rintro ⟨h2,h1,h3⟩; exact ⟨⟨h1,h2⟩,h3⟩
theorem zhZ (a b : S63) : zeO a b = true ↔ zeu a b < 0 := by
 unfold zeO zeu
 rw [zhJ,zgd,zgd,ze6,ze6,zdv,zdv,zjJ]
 by_cases h1 : a.f1 = b.f1
 ·rw [if_pos h1]
  by_cases h2 : a.f0 = b.f0
  ·rw [if_pos h2]
   constructor
   ·intro h; exact .inr ⟨h1, .inr ⟨h2,h⟩⟩
   ·rintro (h | ⟨_,h | ⟨_,h⟩⟩)
    ·omega
    ·omega
    ·exact h
  ·rw [if_neg h2,decide_eq_true_iff]
   constructor
   ·intro h; exact .inr ⟨h1, .inl h⟩
   ·rintro (h | ⟨_,h | ⟨h,_⟩⟩)
    ·omega
    ·exact h
    ·exact absurd h h2
 ·rw [if_neg h1,decide_eq_true_iff]
  constructor
  ·intro h; exact .inl h
  ·rintro (h | ⟨h,_⟩)
   ·exact h
   ·exact absurd h h1
theorem zfn : ∀ (x y : List S63),x.length = y.length → (zdi x y = true ↔ zcH x y < 0)
 | [],[],_ => by simp [zdi,zcH]
 | [],_ :: _,h => by simp at h
 | _ :: _,[],h => by simp at h
 | a :: x,b :: y,h => by
  have ih := zfn x y (by simpa using h)
  rw [zdi,zdr,zgd]
  by_cases hs : ze4 a b = true
  ·rw [if_pos hs,ih]
   have := (zgW a b).1 hs
   constructor
   ·intro h; exact .inr ⟨this,h⟩
   ·rintro (h | h)
    ·omega
    ·exact h.2
  ·rw [if_neg hs,zhZ]
   constructor
   ·exact .inl
   ·rintro (h | h)
    ·exact h
    ·exact absurd ((zgW a b).2 h.1) hs
def prc (l : List S63) : Int × List S63 := (zcd l,l)
theorem zfY (x y : List S63) : zcT x y = true ↔ cmpL (prc x) (prc y) < 0 := by
 unfold zcT cmpL prc
 rw [zhJ,zgd,zgd,ze6,ze6,zdv,zdv]
 dsimp only
 by_cases h1 : zcd x = zcd y
 ·rw [if_pos h1]
  by_cases h2 : x.length = y.length
  ·rw [if_pos h2,zfn x y h2]
   constructor
   ·intro h; exact .inr ⟨h1, .inr ⟨by omega,h⟩⟩
   ·rintro (h | ⟨_,h | ⟨_,h⟩⟩)
    ·omega
    ·omega
    ·exact h
  ·rw [if_neg h2,decide_eq_true_iff]
   constructor
   ·intro h; exact .inr ⟨h1, .inl qj⟩
   ·rintro (h | ⟨_,h | ⟨h,_⟩⟩)
    ·omega
    ·omega
    ·omega
 ·rw [if_neg h1,decide_eq_true_iff]
  constructor
  ·intro h; exact .inl h
  ·rintro (h | ⟨h,_⟩)
   ·exact h
   ·exact absurd h h1
theorem zgT (xs : List (Int × List S63)) : ∀ f,cmpL (zbE f xs) f ≤ 0 ∧ ∀ x ∈ xs,cmpL (zbE f xs) x ≤ 0 := by
 have hr : ∀ x,cmpL x x ≤ 0 := fun x => by have := zdK.neg x x; omega
 induction xs with
 | nil => intro f; exact ⟨hr _,fun x h => by cases h⟩
 | cons x xs ih =>
  intro f
  have := ih (if cmpL x f < 0 then x else f)
  rw [zbE]
  have h1 : cmpL (if cmpL x f < 0 then x else f) f ≤ 0 := by
   split
   ·omega
   ·exact hr _
  have h2 : cmpL (if cmpL x f < 0 then x else f) x ≤ 0 := by
   split
   ·exact hr _
   ·have := zdK.neg x f; omega
  refine ⟨zdK.tr _ _ _ this.1 h1,fun y hy => ?_⟩
  rcases List.mem_cons.1 hy with rfl | hy
  ·exact zdK.tr _ _ _ this.1 h2
  ·exact this.2 y hy
theorem zfT (f g : Int × List S63) (xs ys : List (Int × List S63)) (h1 : ∀ x,x ∈ f :: xs → x ∈ g :: ys) (h2 : ∀ x,x ∈ g :: ys → x ∈ f :: xs) : zbE f xs = zbE g ys := by
 have le : ∀ (f : Int × List S63) xs x,x ∈ f :: xs → cmpL (zbE f xs) x ≤ 0 := fun f xs x hx => by
  rcases List.mem_cons.1 hx with rfl | hx
  ·exact (zgT xs _).1
  ·exact (zgT xs f).2 x hx
 have mem : ∀ (f : Int × List S63) xs,zbE f xs ∈ f :: xs := fun f xs => by
  rcases zgl xs f with h | h
  ·rw [h]; exact List.mem_cons_self
  ·exact List.mem_cons_of_mem _ h
 refine zdK.eq _ _ ?_
 have a := le f xs _ (h2 _ (mem g ys))
 have b := le g ys _ (h1 _ (mem f xs))
 have := zdK.neg (zbE f xs) (zbE g ys)
 omega
theorem zdX (b l : List S63) : ∃ c,zbM (some b) l = some c ∧ prc c = zbE (prc b) [prc l] := by
 unfold zbM
 dsimp only [zbE]
 by_cases h : zcT l b = true
 ·rw [if_pos h,if_pos ((zfY l b).1 h)]; exact ⟨_,rfl,rfl⟩
 ·rw [if_neg h,if_neg (fun h' => h ((zfY l b).2 h'))]; exact ⟨_,rfl,rfl⟩
theorem zdI (m : S63) (l : List S63) (h : l.length ≤ 2000) : zG m (prc l) = prc (m :: l) := by
 have hc := zhQ l
 refine Prod.ext ?_ rfl
 rw [zi0 m (prc l) (by exact hc.1) (by show zcd l ≤ 5000; omega)]
 simp only [prc,zcd]
 split <;> omega
theorem zk1 (a : List ByteArray) : ∀ (b : List ByteArray) (i : Nat),a.length + b.length ≤ 1000 → dsp i a b = prc (rdS i a b) := by
 induction a with
 | nil =>
  intro b
  induction b with
  | nil => intro i _; rw [dsp,rdS]; rfl
  | cons y b ih =>
   intro i hl
   simp only [List.length_cons,List.length_nil] at hl
   have hn := zeo [] b i
   simp only [List.length_nil] at hn
   rw [dsp,rdS,ih i (by simp only [List.length_nil]; omega),zdI _ _ qj]
   rfl
 | cons x a iha =>
  intro b
  induction b with
  | nil =>
   intro i hl
   simp only [List.length_cons,List.length_nil] at hl
   have hn := zeo a [] (i + 1)
   simp only [List.length_nil] at hn
   rw [dsp,rdS,iha [] (i + 1) (by simp only [List.length_nil]; omega),zdI _ _ qj]
   rfl
  | cons y b ih =>
   intro i hl
   simp only [List.length_cons] at hl
   have n1 := zeo (x :: a) b i
   have n2 := zeo a (y :: b) (i + 1)
   have n3 := zeo a b (i + 1)
   simp only [List.length_cons] at n1 n2
   rw [dsp,rdS,ih i qJ,iha (y :: b) (i + 1) qJ,iha b (i + 1) qj,zdI _ _ qj,zdI _ _ qj,zdI _ _ qj]
   obtain ⟨l1,e1⟩ : ∃ l,(⟨1,i,y⟩ :: rdS i (x :: a) b : List S63) = l := ⟨_,rfl⟩
   obtain ⟨l2,e2⟩ : ∃ l,(⟨2,i,y⟩ :: rdS (i + 1) a b : List S63) = l := ⟨_,rfl⟩
   obtain ⟨l3,e3⟩ : ∃ l,(⟨3,i,⟨#[]⟩⟩ :: rdS (i + 1) a (y :: b) : List S63) = l := ⟨_,rfl⟩
   rw [e1,e2,e3]
   by_cases he : x.toList = y.toList
   ·rw [if_pos (beq_iff_eq.2 he),if_pos he]
    obtain ⟨c1,u1,p1⟩ := zdX (rdS (i + 1) a b) l1
    obtain ⟨c2,u2,p2⟩ := zdX c1 l2
    obtain ⟨c3,u3,p3⟩ := zdX c2 l3
    rw [u1,u2,u3]
    show _ = prc c3
    have : prc c3 = zbE (prc (rdS (i + 1) a b)) [prc l1,prc l2,prc l3] := by
     rw [p3,p2,p1]; rfl
    rw [this]
    refine zfT _ _ _ _ ?_ ?_ <;> intro z hz <;> simp only [List.cons_append,List.nil_append,List.mem_cons,List.not_mem_nil,or_false] at hz ⊢ <;> rcases hz with h | h | h | h <;> simp [h]
   ·rw [if_neg (fun h => he (beq_iff_eq.1 h)),if_neg he]
    have u1 : zbM none l1 = some l1 := rfl
    obtain ⟨c2,u2,p2⟩ := zdX l1 l2
    obtain ⟨c3,u3,p3⟩ := zdX c2 l3
    rw [u1,u2,u3]
    show _ = prc c3
    have : prc c3 = zbE (prc l1) [prc l2,prc l3] := by
     rw [p3,p2]; rfl
    rw [this]
    refine zfT _ _ _ _ ?_ ?_ <;> intro z hz <;> simp only [List.cons_append,List.nil_append,List.append_nil,List.mem_cons,List.not_mem_nil,or_false] at hz ⊢ <;> rcases hz with h | h | h <;> simp [h]
theorem zkx (a b : List ByteArray) (h : a.length + b.length ≤ 1000) : rdS 0 a b = (dsp 0 a b).2 := by rw [zk1 a b 0 h]; rfl
theorem ziS (a b : List ByteArray) : Ev (fun k => zb8.f k a b) (if zbe a = 0 then (if zbe b = 0 then ((dsp 0 a b).2,0) else ([],zbe b)) else ([],zbe a)) := by
 unfold zb8.f
 refine Ev.be (zdS a) ?_
 by_cases ha : zbe a = 0
 ·simp only [if_pos ha]
  refine Ev.be (zdS b) ?_
  by_cases hb : zbe b = 0
  ·simp only [if_pos hb]
   have l1 := zch ha
   have l2 := zch hb
   have hd : zbn.f a b 0 0 = some (dsp 0 a b).2 := by
    unfold zbn.f
    rw [if_pos ⟨by omega,by omega,rfl,rfl⟩,zkx a b qj]
   exact Ev.bs hd (Ev.now _)
  ·simp only [if_neg hb]
   exact Ev.now _
 ·simp only [if_neg ha]
  exact Ev.now _
def zb6.f (k : Nat) (l0 : List (List ByteArray)) (l1 : List (S63)) (l2 : List ByteArray) : Option (Int × Int × Int) := (zax.f k l0).bind fun t384 => (if t384 = 0 then (if (l0.length : Int) = 0 then (some (0,0,7)) else (if 0 ≤ (wrap64 ((l0.length : Int) - 1)) then (if (wrap64 ((l0.length : Int) - 1)) < (l0.length : Int) then ((zbL.f k (zaK l0 (wrap64 ((l0.length : Int) - 1))) l1).bind fun bt386 => (if bt386.2 = 0 then ((zb8.f k bt386.1 l2).bind fun bt390 => (if bt390.2 = 0 then (if (bt390.1.length : Int) = 0 then (some (0,0,0)) else (if 0 < (bt390.1.length : Int) then (if ((zg bt390.1 0).f0) = 3 then (some (1,(zg bt390.1 0).f1,0)) else ((zaH.f k bt386.1 ((zg bt390.1 0).f2)).bind fun t396 => (if t396 = 0 then (if (wrap64 ((l0.length : Int) - 1)) ≤ (l0.length : Int) then ((zaO.f k (l0.take ((wrap64 ((l0.length : Int) - 1)) : Int).toNat) ((zg bt390.1 0).f2)).bind fun t401 => (if t401 > 0 then (some (2,(zg bt390.1 0).f1,0)) else (some (3,(zg bt390.1 0).f1,0)))) else (none)) else (some (3,(zg bt390.1 0).f1,0))))) else (none))) else (some (0,0,bt390.2)))) else (some (0,0,bt386.2)))) else (none)) else (none))) else (some (0,0,t384)))
theorem zfd {w w' : World} (h : zw w w') : Below w.heap.size w w' := by
 obtain ⟨n,rfl⟩ := h
 exact zb (Below.refl _ _) n
theorem zeg {W : World} {g : Nat} {z0 z1 : Value} (hb : W.heap[g]? = some (.cells #[z0,z1] 54 (0,0))) (u0 u1 v7 : Value) (tmps : Array Value) (h6 : tmps.getD 6 undef = .pointer (some ⟨g,0,none⟩)) (h7 : tmps.getD 7 undef = v7) {R : Ending → World → Prop}
  (hR : R (.returned (.tuple #[.agg #[u0,u1],v7])) ((W.setCell ⟨g,0,none⟩ u0).setCell ⟨g,1,none⟩ u1)) : bodyPost Try.prog Try.f38 R .ret { tmps := tmps,defers := [] } ((W.setCell ⟨g,0,none⟩ u0).setCell ⟨g,1,none⟩ u1) := by
 have hb2 := zah (zah hb 0 u0 rfl) 1 u1 rfl
 have h := zgk (P := Try.prog) (fn := Try.f38) (p := 6) (u := 7) (ty := 54) qi tmps _ g 54 #[u0,u1] (0,0) _ h6 hb2 Try.underlying54 rfl qi
 rw [h7] at h
 exact bodyPost_ret h rfl hR
set_option maxHeartbeats 4000000 in
set_option maxRecDepth 100000 in
theorem zb6.calls (k : Nat) (A0 : Option Addr) (c0 : Nat) (l0 : List (List ByteArray)) (A1 : Option Addr) (c1 : Nat) (l1 : List (S63)) (A2 : Option Addr) (c2 : Nat) (l2 : List ByteArray) (r1 : Int) (r2 : Int) (r3 : Int) (w : World) (hr0 : Kd.C (Kd.slice 9 Kd.string) w A0 l0.length l0) (hc0 : l0.length ≤ c0) (hr1 : Kd.C k63 w A1 l1.length l1) (hc1 : l1.length ≤ c1) (hr2 : Kd.C Kd.string w A2 l2.length l2) (hc2 : l2.length ≤ c2) (h : zb6.f k l0 l1 l2 = some (r1,r2,r3)) :
  Calls Try.prog 38 #[.slice A0 l0.length c0, .slice A1 l1.length c1, .slice A2 l2.length c2] w fun e w' => e = .returned (.tuple #[.agg #[.int .i64 r1, .int .i64 r2], .int .i64 r3]) ∧ Below w.heap.size w w' := by
 have H := za.mk h
 have HR := za.mk (And.intro hr0 (And.intro hc0 (And.intro hr1 (And.intro hc1 (And.intro hr2 hc2)))))
 clear hr0 hc0 hr1 hc1 hr2 hc2 h
 obtain ⟨e0,he0,h⟩ := Option.bind_eq_some_iff.mp H.out
 replace H := za.mk h
 clear h
 have HE := za.mk he0
 clear he0
 have hu54 := Try.underlying54
 have HB : za (Below w.heap.size w (w.alloc (.cells #[.int .i64 0, .int .i64 0] 54))) := ⟨ze (Below.refl _ _) _⟩
 have B6 := za.mk (heap_alloc_new w (.cells #[.int .i64 0, .int .i64 0] 54))
 go_enter Try.func38,Try.ntmps38
 go_wp2_with fail
 refine (zax.calls k A0 c0 l0 e0 _ (Kd.zY HR.out.1 HB.out) HR.out.2.1 HE.out).mono ?_
 rintro e w1 ⟨rfl,hd1⟩
 have hb1 := zfd hd1
 clear hd1
 replace HB := za.mk (zq HB.out hb1)
 replace B6 := za.mk (zD B6.out hb1)
 clear hb1
 by_cases g0 : e0 = 0
 ·subst g0
  have h := H.out
  rw [if_pos rfl] at h
  replace H := za.mk h
  clear h
  by_cases g1 : (l0.length : Int) = 0
  ·have h := H.out
   rw [if_pos g1] at h
   simp only [Option.some.injEq,Prod.mk.injEq] at h
   obtain ⟨rfl,rfl,rfl⟩ := h
   have t1 : ((l0.length : Int) == 0) = true := beq_iff_eq.mpr g1
   have t1' : (l0.length == 0) = true := by simpa using g1
   have hc60 : w1.cell? ⟨w.heap.size,0,none⟩ = some (.int .i64 0) := zh B6.out 0
   have hf60 : w1.frozen? ⟨w.heap.size,0,none⟩ = false := zo B6.out 0
   have hc61 : ∀ x,(w1.setCell ⟨w.heap.size,0,none⟩ (.int .i64 x)).cell? ⟨w.heap.size,1,none⟩ = some (.int .i64 0) := fun x => zh (zaB B6.out 0 _) 1
   have hf61 : ∀ x,(w1.setCell ⟨w.heap.size,0,none⟩ (.int .i64 x)).frozen? ⟨w.heap.size,1,none⟩ = false := fun x => zo (zaB B6.out 0 _) 1
   go_wp2_with fail
   refine zeg B6.out (.int .i64 0) (.int .i64 0) (.int .i64 7) _ qy qy ?_
   exact ⟨rfl,zi (zi HB.out (Nat.le_refl _)) (Nat.le_refl _)⟩
  ·have h := H.out
   rw [if_neg g1] at h
   obtain ⟨lt,hlt⟩ : ∃ t,wrap64 ((l0.length : Int) - 1) = t := ⟨_,rfl⟩
   rw [hlt] at h
   have g2 : 0 ≤ lt := by
    by_cases g2 : 0 ≤ lt
    ·exact g2
    ·rw [if_neg g2] at h; cases h
   rw [if_pos g2] at h
   have g3 : lt < (l0.length : Int) := by
    by_cases g3 : lt < (l0.length : Int)
    ·exact g3
    ·rw [if_neg g3] at h; cases h
   rw [if_pos g3] at h
   obtain ⟨⟨ra,re⟩,hap,h⟩ := Option.bind_eq_some_iff.mp h
   dsimp only at h
   replace H := za.mk h
   clear h
   have t1 : ((l0.length : Int) == 0) = false := beq_eq_false_iff_ne.mpr g1
   have t1' : (l0.length == 0) = false := by simpa using g1
   obtain ⟨ady,Ay,cy,ey,hy,hyl,hyc⟩ := zco (Kd.zY HR.out.1 HB.out) lt g2 g3
   subst ey
   have HY := za.mk (And.intro hyl (And.intro hyc hap))
   clear hyl hyc hap
   have G := za.mk (And.intro g2 g3)
   replace g2 := eq_true g2
   replace g3 := eq_true g3
   go_wp2_with fail
   refine (zbL.calls k Ay cy (zaK l0 lt) A1 c1 l1 ra re w1 HY.out.2.1 HY.out.1 (Kd.zY HR.out.2.2.1 HB.out) HR.out.2.2.2.1 HY.out.2.2).mono ?_
   rintro e w2 ⟨v2,rfl,hR2,hb2⟩
   replace HB := za.mk (zq HB.out hb2)
   replace B6 := za.mk (zD B6.out hb2)
   obtain ⟨A3,c3,rfl,_,_⟩ := Kd.zav hR2
   have F2 := za.mk hR2
   clear hR2 hb2 hy t1 t1' HY
   by_cases g4 : re = 0
   ·subst g4
    have h := H.out
    rw [if_pos rfl] at h
    obtain ⟨⟨dl,ce⟩,hdl,h⟩ := Option.bind_eq_some_iff.mp h
    dsimp only at h
    replace H := za.mk h
    clear h
    go_wp2_with fail
    refine (zb8.calls k A3 c3 ra A2 c2 l2 dl ce w2 (zaw F2.out).1 (zaw F2.out).2 (Kd.zY HR.out.2.2.2.2.1 HB.out) HR.out.2.2.2.2.2 hdl).mono ?_
    rintro e w3 ⟨v4,rfl,hR4,hb3⟩
    clear hdl
    replace HB := za.mk (zq HB.out hb3)
    replace B6 := za.mk (zD B6.out hb3)
    replace F2 := za.mk (Kd.zJ F2.out hb3)
    obtain ⟨A4,c4,rfl,_,_⟩ := Kd.zav hR4
    have F4 := za.mk hR4
    clear hR4 hb3
    by_cases g5 : ce = 0
    ·subst g5
     have h := H.out
     rw [if_pos rfl] at h
     replace H := za.mk h
     clear h
     by_cases g6 : (dl.length : Int) = 0
     ·have h := H.out
      rw [if_pos g6] at h
      simp only [Option.some.injEq,Prod.mk.injEq] at h
      obtain ⟨rfl,rfl,rfl⟩ := h
      have t2 : ((dl.length : Int) == 0) = true := beq_iff_eq.mpr g6
      have hc60 : w3.cell? ⟨w.heap.size,0,none⟩ = some (.int .i64 0) := zh B6.out 0
      have hf60 : w3.frozen? ⟨w.heap.size,0,none⟩ = false := zo B6.out 0
      have hc61 : ∀ x,(w3.setCell ⟨w.heap.size,0,none⟩ (.int .i64 x)).cell? ⟨w.heap.size,1,none⟩ = some (.int .i64 0) := fun x => zh (zaB B6.out 0 _) 1
      have hf61 : ∀ x,(w3.setCell ⟨w.heap.size,0,none⟩ (.int .i64 x)).frozen? ⟨w.heap.size,1,none⟩ = false := fun x => zo (zaB B6.out 0 _) 1
      go_wp2_with fail
      refine zeg B6.out (.int .i64 0) (.int .i64 0) (.int .i64 0) _ qy qy ?_
      exact ⟨rfl,zi (zi HB.out (Nat.le_refl _)) (Nat.le_refl _)⟩
     ·have h := H.out
      have g7 : 0 < (dl.length : Int) := by omega
      rw [if_neg g6,if_pos g7] at h
      obtain ⟨ad4,e4,hx0,hx1,hx2⟩ := za8 (zaw F4.out).1 0 (Int.le_refl _) g7
      subst e4
      have ead : ad4.add ((0 : Int).toNat * 3) = ad4 := by simp [Addr.add]
      rw [ead] at hx0 hx1 hx2
      obtain ⟨⟨m0,m1,m2⟩,hm⟩ : ∃ m,zg dl 0 = m := ⟨_,rfl⟩
      rw [hm] at h hx0 hx1 hx2
      dsimp only at h hx0 hx1 hx2
      replace H := za.mk h
      clear h hm
      have t2 : ((dl.length : Int) == 0) = false := beq_eq_false_iff_ne.mpr g6
      have t2' : (dl.length == 0) = false := by simpa using g6
      have t3 : 0 < dl.length := by omega
      have B14 := za.mk (heap_alloc_new w3 (.cells #[.int .i64 m0, .int .i64 m1, .string m2] 63))
      have hb5 := ze (Below.refl w3.heap.size w3) (.cells #[.int .i64 m0, .int .i64 m1, .string m2] 63)
      replace HB := za.mk (zq HB.out hb5)
      replace B6 := za.mk (zD B6.out hb5)
      replace F2 := za.mk (Kd.zJ F2.out hb5)
      by_cases g8 : m0 = 3
      ·subst g8
       have h := H.out
       rw [if_pos rfl] at h
       simp only [Option.some.injEq,Prod.mk.injEq] at h
       obtain ⟨rfl,rfl,rfl⟩ := h
       clear hb5
       have hc60 : (w3.alloc (.cells #[.int .i64 3, .int .i64 m1, .string m2] 63)).cell? ⟨w.heap.size,0,none⟩ = some (.int .i64 0) := zh B6.out 0
       have hf60 : (w3.alloc (.cells #[.int .i64 3, .int .i64 m1, .string m2] 63)).frozen? ⟨w.heap.size,0,none⟩ = false := zo B6.out 0
       have hc61 : ∀ x,((w3.alloc (.cells #[.int .i64 3, .int .i64 m1, .string m2] 63)).setCell ⟨w.heap.size,0,none⟩ (.int .i64 x)).cell? ⟨w.heap.size,1,none⟩ = some (.int .i64 0) := fun x => zh (zaB B6.out 0 _) 1
       have hf61 : ∀ x,((w3.alloc (.cells #[.int .i64 3, .int .i64 m1, .string m2] 63)).setCell ⟨w.heap.size,0,none⟩ (.int .i64 x)).frozen? ⟨w.heap.size,1,none⟩ = false := fun x => zo (zaB B6.out 0 _) 1
       have hm1 : (w3.alloc (.cells #[.int .i64 3, .int .i64 m1, .string m2] 63)).cell? ⟨w3.heap.size,1,none⟩ = some (.int .i64 m1) := zh B14.out 1
       go_wp2_with fail
       refine zeg B6.out (.int .i64 1) (.int .i64 m1) (.int .i64 0) _ qy qy ?_
       exact ⟨rfl,zi (zi HB.out (Nat.le_refl _)) (Nat.le_refl _)⟩
      ·have h := H.out
       rw [if_neg g8] at h
       obtain ⟨cs,hcs,h⟩ := Option.bind_eq_some_iff.mp h
       replace H := za.mk h
       clear h
       have t4 : (m0 == 3) = false := beq_eq_false_iff_ne.mpr g8
       obtain ⟨W5,hW5⟩ : ∃ W_,w3.alloc (.cells #[.int .i64 m0, .int .i64 m1, .string m2] 63) = W_ := ⟨_,rfl⟩
       have HW5 := za.mk hW5
       rw [hW5] at B14 HB B6 F2
       clear hW5 hb5
       go_wp2_with fail
       rw [HW5.out]
       refine zaF (fun W' => W'.cell? ⟨w3.heap.size,2,none⟩ = some (.string m2)) [] qi ?_
       have HS : W5.drew.cell? ⟨w3.heap.size,2,none⟩ = some (.string m2) := zh (zn B14.out) 2
       refine tk 0 ?_
       (try simp only [pu0,pu1,pu2,pu3,pu4])
       refine tk 1 ?_
       (try simp only [pu0,pu1,pu2,pu3,pu4])
       refine tk 2 ?_
       (try simp only [pu0,pu1,pu2,pu3,pu4])
       refine on1 3 fun K hK => ?_
       clear HS
       refine zbt Try.func77 qi rfl #[.slice A3 ra.length c3, .string m2] qy rfl rfl qr ?_
       refine (zaH.calls k A3 c3 ra m2 cs W5.drew (zaw (Kd.zJ F2.out (zf (Below.refl _ _)))).1 (zaw F2.out).2 hcs).mono ?_
       rintro e w6 ⟨rfl,hd6⟩
       refine ⟨_,rfl,?_⟩
       have hb6 : Below W5.heap.size W5 w6 := zq (zf (Below.refl _ _)) (zfd hd6)
       clear hd6 hcs
       replace HB := za.mk (zq HB.out hb6)
       replace B6 := za.mk (zD B6.out hb6)
       replace B14 := za.mk (zD B14.out hb6)
       clear hb6
       have HS : w6.cell? ⟨w3.heap.size,2,none⟩ = some (.string m2) := zh B14.out 2
       refine hK.out _ _ (fun _ => HS) ?_
       clear hK K
       (try simp only [pu0,pu1,pu2,pu3,pu4])
       by_cases gc : cs = 0
       ·subst gc
        have h := H.out
        rw [if_pos rfl] at h
        have gle : lt ≤ (l0.length : Int) := Int.le_of_lt G.out.2
        rw [if_pos gle] at h
        obtain ⟨og,hog,h⟩ := Option.bind_eq_some_iff.mp h
        replace H := za.mk h
        clear h
        have hsl := zkm (some ady) l0.length c0 lt G.out.1 gle HR.out.2.1
        have hlen : (l0.take lt.toNat).length = lt.toNat := by rw [List.length_take]; have := G.out.2; have := G.out.1; omega
        refine tk 4 ?_
        (try simp only [pu0,pu1,pu2,pu3,pu4])
        refine tk 5 ?_
        (try simp only [pu0,pu1,pu2,pu3,pu4])
        refine tk 6 ?_
        (try simp only [pu0,pu1,pu2,pu3,pu4])
        refine tk 7 ?_
        (try simp only [pu0,pu1,pu2,pu3,pu4])
        refine tk 8 ?_
        (try simp only [pu0,pu1,pu2,pu3,pu4])
        refine tk 9 ?_
        (try simp only [pu0,pu1,pu2,pu3,pu4])
        refine tk 10 ?_
        (try simp only [pu0,pu1,pu2,pu3,pu4])
        refine on1 11 fun K hK => ?_
        clear HS
        have hC9 : Kd.C (Kd.slice 9 Kd.string) w6 (some ady) (l0.take lt.toNat).length (l0.take lt.toNat) := Kd.zjy (Kd.zY HR.out.1 HB.out) qj
        refine zbt Try.func78 qi rfl #[.slice (some ady) (l0.take lt.toNat).length c0, .string m2] qy rfl rfl (by simp only [List.map_toArray,List.map_cons,List.map_nil,hlen]; rfl) ?_
        refine (zaO.calls k (some ady) c0 (l0.take lt.toNat) m2 og w6 hC9 (by have := HR.out.2.1; omega) hog).mono ?_
        rintro e w7 ⟨rfl,hb7⟩
        refine ⟨_,rfl,?_⟩
        clear hog
        replace HB := za.mk (zq HB.out hb7)
        replace B6 := za.mk (zD B6.out hb7)
        replace B14 := za.mk (zD B14.out hb7)
        clear hb7
        have HS : w7.cell? ⟨w3.heap.size,2,none⟩ = some (.string m2) := zh B14.out 2
        refine hK.out _ _ (fun _ => HS) ?_
        clear hK K
        (try simp only [pu0,pu1,pu2,pu3,pu4])
        refine tk 12 ?_
        (try simp only [pu0,pu1,pu2,pu3,pu4])
        refine tk 13 ?_
        (try simp only [pu0,pu1,pu2,pu3,pu4])
        refine tk 14 ?_
        (try simp only [pu0,pu1,pu2,pu3,pu4])
        refine zar qi ?_ _
        clear HS hsl
        by_cases g9 : og > 0
        ·have h := H.out
         rw [if_pos g9] at h
         simp only [Option.some.injEq,Prod.mk.injEq] at h
         obtain ⟨rfl,rfl,rfl⟩ := h
         have t5 : decide (0 < og) = true := decide_eq_true g9
         have hc60 : w7.cell? ⟨w.heap.size,0,none⟩ = some (.int .i64 0) := zh B6.out 0
         have hf60 : w7.frozen? ⟨w.heap.size,0,none⟩ = false := zo B6.out 0
         have hc61 : ∀ x,(w7.setCell ⟨w.heap.size,0,none⟩ (.int .i64 x)).cell? ⟨w.heap.size,1,none⟩ = some (.int .i64 0) := fun x => zh (zaB B6.out 0 _) 1
         have hf61 : ∀ x,(w7.setCell ⟨w.heap.size,0,none⟩ (.int .i64 x)).frozen? ⟨w.heap.size,1,none⟩ = false := fun x => zo (zaB B6.out 0 _) 1
         have hm1 : w7.cell? ⟨w3.heap.size,1,none⟩ = some (.int .i64 m1) := zh B14.out 1
         go_wp2_with fail
         refine zeg B6.out (.int .i64 2) (.int .i64 m1) (.int .i64 0) _ qy qy ?_
         exact ⟨rfl,zi (zi HB.out (Nat.le_refl _)) (Nat.le_refl _)⟩
        ·have h := H.out
         rw [if_neg g9] at h
         simp only [Option.some.injEq,Prod.mk.injEq] at h
         obtain ⟨rfl,rfl,rfl⟩ := h
         have t5 : decide (0 < og) = false := decide_eq_false g9
         have hc60 : w7.cell? ⟨w.heap.size,0,none⟩ = some (.int .i64 0) := zh B6.out 0
         have hf60 : w7.frozen? ⟨w.heap.size,0,none⟩ = false := zo B6.out 0
         have hc61 : ∀ x,(w7.setCell ⟨w.heap.size,0,none⟩ (.int .i64 x)).cell? ⟨w.heap.size,1,none⟩ = some (.int .i64 0) := fun x => zh (zaB B6.out 0 _) 1
         have hf61 : ∀ x,(w7.setCell ⟨w.heap.size,0,none⟩ (.int .i64 x)).frozen? ⟨w.heap.size,1,none⟩ = false := fun x => zo (zaB B6.out 0 _) 1
         have hm1 : w7.cell? ⟨w3.heap.size,1,none⟩ = some (.int .i64 m1) := zh B14.out 1
         go_wp2_with fail
         refine zeg B6.out (.int .i64 3) (.int .i64 m1) (.int .i64 0) _ qy qy ?_
         exact ⟨rfl,zi (zi HB.out (Nat.le_refl _)) (Nat.le_refl _)⟩
       ·have t6 : (cs == 0) = false := beq_eq_false_iff_ne.mpr gc
        refine tk 4 ?_
        (try simp only [pu0,pu1,pu2,pu3,pu4])
        refine tk 5 ?_
        (try simp only [pu0,pu1,pu2,pu3,pu4])
        refine tkn 6 ?_
        (try simp only [pu0,pu1,pu2,pu3,pu4])
        refine tkn 7 ?_
        (try simp only [pu0,pu1,pu2,pu3,pu4])
        refine tkn 8 ?_
        (try simp only [pu0,pu1,pu2,pu3,pu4])
        refine tkn 9 ?_
        (try simp only [pu0,pu1,pu2,pu3,pu4])
        refine tkn 10 ?_
        (try simp only [pu0,pu1,pu2,pu3,pu4])
        refine on1 11 fun K hK => ?_
        refine zgY qy ?_
        refine hK.out _ _ (fun _ => HS) ?_
        clear hK K
        (try simp only [pu0,pu1,pu2,pu3,pu4])
        refine tkn 12 ?_
        (try simp only [pu0,pu1,pu2,pu3,pu4])
        refine tk 13 ?_
        (try simp only [pu0,pu1,pu2,pu3,pu4])
        refine tk 14 ?_
        (try simp only [pu0,pu1,pu2,pu3,pu4])
        refine zar qi ?_ _
        clear HS
        have h := H.out
        rw [if_neg gc] at h
        simp only [Option.some.injEq,Prod.mk.injEq] at h
        obtain ⟨rfl,rfl,rfl⟩ := h
        have hc60 : w6.cell? ⟨w.heap.size,0,none⟩ = some (.int .i64 0) := zh B6.out 0
        have hf60 : w6.frozen? ⟨w.heap.size,0,none⟩ = false := zo B6.out 0
        have hc61 : ∀ x,(w6.setCell ⟨w.heap.size,0,none⟩ (.int .i64 x)).cell? ⟨w.heap.size,1,none⟩ = some (.int .i64 0) := fun x => zh (zaB B6.out 0 _) 1
        have hf61 : ∀ x,(w6.setCell ⟨w.heap.size,0,none⟩ (.int .i64 x)).frozen? ⟨w.heap.size,1,none⟩ = false := fun x => zo (zaB B6.out 0 _) 1
        have hm1 : w6.cell? ⟨w3.heap.size,1,none⟩ = some (.int .i64 m1) := zh B14.out 1
        go_wp2_with fail
        refine zeg B6.out (.int .i64 3) (.int .i64 m1) (.int .i64 0) _ qy qy ?_
        exact ⟨rfl,zi (zi HB.out (Nat.le_refl _)) (Nat.le_refl _)⟩
    ·have h := H.out
     rw [if_neg g5] at h
     simp only [Option.some.injEq,Prod.mk.injEq] at h
     obtain ⟨rfl,rfl,rfl⟩ := h
     have t2 : (ce != 0) = true := bne_iff_ne.mpr g5
     have hc60 : w3.cell? ⟨w.heap.size,0,none⟩ = some (.int .i64 0) := zh B6.out 0
     have hf60 : w3.frozen? ⟨w.heap.size,0,none⟩ = false := zo B6.out 0
     have hc61 : ∀ x,(w3.setCell ⟨w.heap.size,0,none⟩ (.int .i64 x)).cell? ⟨w.heap.size,1,none⟩ = some (.int .i64 0) := fun x => zh (zaB B6.out 0 _) 1
     have hf61 : ∀ x,(w3.setCell ⟨w.heap.size,0,none⟩ (.int .i64 x)).frozen? ⟨w.heap.size,1,none⟩ = false := fun x => zo (zaB B6.out 0 _) 1
     go_wp2_with fail
     refine zeg B6.out (.int .i64 0) (.int .i64 0) (.int .i64 ce) _ qy qy ?_
     exact ⟨rfl,zi (zi HB.out (Nat.le_refl _)) (Nat.le_refl _)⟩
   ·have h := H.out
    rw [if_neg g4] at h
    simp only [Option.some.injEq,Prod.mk.injEq] at h
    obtain ⟨rfl,rfl,rfl⟩ := h
    have t2 : (re != 0) = true := bne_iff_ne.mpr g4
    have hc60 : w2.cell? ⟨w.heap.size,0,none⟩ = some (.int .i64 0) := zh B6.out 0
    have hf60 : w2.frozen? ⟨w.heap.size,0,none⟩ = false := zo B6.out 0
    have hc61 : ∀ x,(w2.setCell ⟨w.heap.size,0,none⟩ (.int .i64 x)).cell? ⟨w.heap.size,1,none⟩ = some (.int .i64 0) := fun x => zh (zaB B6.out 0 _) 1
    have hf61 : ∀ x,(w2.setCell ⟨w.heap.size,0,none⟩ (.int .i64 x)).frozen? ⟨w.heap.size,1,none⟩ = false := fun x => zo (zaB B6.out 0 _) 1
    go_wp2_with fail
    refine zeg B6.out (.int .i64 0) (.int .i64 0) (.int .i64 re) _ qy qy ?_
    exact ⟨rfl,zi (zi HB.out (Nat.le_refl _)) (Nat.le_refl _)⟩
 ·have h := H.out
  rw [if_neg g0] at h
  simp only [Option.some.injEq,Prod.mk.injEq] at h
  obtain ⟨rfl,rfl,rfl⟩ := h
  have t2 : (e0 != 0) = true := bne_iff_ne.mpr g0
  have hc60 : w1.cell? ⟨w.heap.size,0,none⟩ = some (.int .i64 0) := zh B6.out 0
  have hf60 : w1.frozen? ⟨w.heap.size,0,none⟩ = false := zo B6.out 0
  have hc61 : ∀ x,(w1.setCell ⟨w.heap.size,0,none⟩ (.int .i64 x)).cell? ⟨w.heap.size,1,none⟩ = some (.int .i64 0) := fun x => zh (zaB B6.out 0 _) 1
  have hf61 : ∀ x,(w1.setCell ⟨w.heap.size,0,none⟩ (.int .i64 x)).frozen? ⟨w.heap.size,1,none⟩ = false := fun x => zo (zaB B6.out 0 _) 1
  go_wp2_with fail
  refine zeg B6.out (.int .i64 0) (.int .i64 0) (.int .i64 e0) _ qy qy ?_
  exact ⟨rfl,zi (zi HB.out (Nat.le_refl _)) (Nat.le_refl _)⟩
end Go.Proofs.Ytgmbbfmbimofoaa.P
