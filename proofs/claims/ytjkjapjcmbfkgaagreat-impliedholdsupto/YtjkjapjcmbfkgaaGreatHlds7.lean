/-
  Part 7 of 8 of a proof.
-/
import Derived.Test.YtjkjapjcmbfkgaaGreatHlds6
import Derived.Orders
import Derived.Below
import Derived.Laws.AppendOwn
import Derived.Laws.MakeOwn
import Derived.Laws.CopyRow
import Derived.Laws.Rows
import Derived.Laws.Cells
import Derived.Tactics
import Derived.Laws.BitsLemmas
import Derived.Test.YtjkjapjcmbfkgaaGreatProg

/-
  Numbers with deltas: the program's, the reference's.
-/
namespace Go.Proofs.YtjkjapjcmbfkgaaGreat.Vm
open Go Go.RowKit
set_option maxRecDepth 100000
set_option linter.unusedVariables false
set_option linter.unusedSimpArgs false
theorem sDa {G G' : Prop} (h : G') (e : G = G' := by conv => lhs; simp (disch := omega) only [rowsOf, cNat, cN, St.ret, St.seth, Eff.app, Eff.wi, sepL, guardOf, St.known, objOf, List.set, sliceW, litW, copyW, lenOf, bnd, mxOk, ofCells, TI.isAgg, cellsOf, storable, AV.one, dead, laid, overlay, reduceCtorEq, Int.reduceLE, Int.reduceLT, Int.reduceSub, Int.reduceAdd, Nat.reduceMul, Int.reduceToNat, Nat.reducePow, Int.reduceNeg, Nat.reduceAdd, Nat.reduceLT, Nat.reduceLeDiff, sA, sB, cQ, sT]) : G := e.mpr h
theorem sDaX {G G' P : Prop} (p : P) (h : G') (e : P → G = G' := by intro p; conv => lhs; simp (disch := omega) only [rowsOf, cNat, cN, St.ret, St.seth, Eff.app, Eff.wi, sepL, guardOf, St.known, objOf, List.set, sliceW, litW, copyW, lenOf, bnd, mxOk, ofCells, TI.isAgg, cellsOf, storable, AV.one, dead, laid, overlay, reduceCtorEq, Int.reduceLE, Int.reduceLT, Int.reduceSub, Int.reduceAdd, Nat.reduceMul, Int.reduceToNat, Nat.reducePow, Int.reduceNeg, Nat.reduceAdd, Nat.reduceLT, Nat.reduceLeDiff, sA, sB, cQ, sT, p]) : G := (e p).mpr h
theorem sDaV {G G' : Prop} (h : G') (e : G = G' := by conv => lhs; simp (disch := omega) only [rowsOf, cNat, cN, St.ret, St.seth, Eff.app, Eff.wi, sepL, guardOf, St.known, objOf, List.set, sliceW, litW, copyW, lenOf, bnd, mxOk, ofCells, TI.isAgg, cellsOf, storable, AV.one, dead, laid, overlay, reduceCtorEq, Int.reduceLE, Int.reduceLT, Int.reduceSub, Int.reduceAdd, Nat.reduceMul, Int.reduceToNat, Nat.reducePow, Int.reduceNeg, Nat.reduceAdd, Nat.reduceLT, Nat.reduceLeDiff, sA, sB, cQ, sT, view_sref, viewRef, view_agg, views_cons, views_nil, view_bool, view_int, view_sl, view_nils, view_str, view_tup, view_nilif]) : G := e.mpr h
theorem aDa {G G' : Prop} (h : G') (f : Wr G' → G := by intro h; (repeat (first | (refine W_seqV fun K hK => ?_; (try (refine sDa ?_; try exact True.intro)); (repeat refine aI ?_); refine hK _ ?_; clear hK K) | (refine W_seqR fun K hK => ?_; (try (refine sDa ?_; try exact True.intro)); (repeat refine aI ?_); refine hK _ ?_; clear hK K) | (refine W_seqD mixed [] (by kernel_rfl) fun K hK => ?_; (try (refine sDa ?_; try exact True.intro)); (repeat refine aI ?_); refine hK _ ?_; clear hK K))); exact h.out) : G := f ⟨h⟩

structure DD where
  a : RR
  b : RR
def DD.cells (d : DD) : List AV := [.bool d.a.neg, .sl (u32s d.a.num), .sl (u32s d.a.den), .bool d.b.neg, .sl (u32s d.b.num), .sl (u32s d.b.den)]
def DD.av (d : DD) : AV := .agg d.cells
def DD.v (d : DD) : Rat × Rat := (d.a.v, d.b.v)
def DD.ok (d : DD) : Prop := d.a.ok ∧ d.b.ok
def dq (x : Rat × Rat) : DD := ⟨qr x.1, qr x.2⟩
def cD (x : Rat × Rat) : AV := .agg [.bool (decide (x.1.num < 0)), .sl (u32s (limbs x.1.num.natAbs)), .sl (u32s (limbs x.1.den)), .bool (decide (x.2.num < 0)), .sl (u32s (limbs x.2.num.natAbs)), .sl (u32s (limbs x.2.den))]
theorem dq_av (x : Rat × Rat) : (dq x).av = cD x := rfl
theorem dq_v (x : Rat × Rat) : (dq x).v = x := by simp [dq, DD.v, qr_v]
def nb2 (x : Rat × Rat) : Nat := max (nb x.1) (nb x.2)
theorem nb2_1 (x : Rat × Rat) : nb x.1 ≤ nb2 x := Nat.le_max_left _ _
theorem nb2_2 (x : Rat × Rat) : nb x.2 ≤ nb2 x := Nat.le_max_right _ _
theorem nb2_le {x : Rat × Rat} {k : Nat} (h1 : nb x.1 ≤ k) (h2 : nb x.2 ≤ k) : nb2 x ≤ k := Nat.max_le.2 ⟨h1, h2⟩
theorem dq_ok {x : Rat × Rat} (h : nb2 x < 17179869184) : (dq x).ok := ⟨qr_ok (by have := nb2_1 x; omega), qr_ok (by have := nb2_2 x; omega)⟩
/-- Numbers with deltas, added, taken away, so many times. -/
def dadd (x y : Rat × Rat) : Rat × Rat := (x.1 + y.1, x.2 + y.2)
def dsub (x y : Rat × Rat) : Rat × Rat := (x.1 - y.1, x.2 - y.2)
def dneg (x : Rat × Rat) : Rat × Rat := (-x.1, -x.2)
def dscale (c : Rat) (x : Rat × Rat) : Rat × Rat := (c * x.1, c * x.2)
def lexI (a b : Int) : Int := if a ≠ 0 then a else b
def dsg (x : Rat × Rat) : Int := lexI (rs x.1) (rs x.2)
theorem nb2_add (x y : Rat × Rat) : nb2 (dadd x y) ≤ nb2 x + nb2 y := nb2_le (Nat.le_trans (nb_add _ _) (Nat.add_le_add (nb2_1 _) (nb2_1 _))) (Nat.le_trans (nb_add _ _) (Nat.add_le_add (nb2_2 _) (nb2_2 _)))
theorem nb2_sub (x y : Rat × Rat) : nb2 (dsub x y) ≤ nb2 x + nb2 y := nb2_le (Nat.le_trans (nb_sub _ _) (Nat.add_le_add (nb2_1 _) (nb2_1 _))) (Nat.le_trans (nb_sub _ _) (Nat.add_le_add (nb2_2 _) (nb2_2 _)))
theorem nb2_scale (c : Rat) (x : Rat × Rat) : nb2 (dscale c x) ≤ nb c + nb2 x := nb2_le (Nat.le_trans (nb_mul _ _) (Nat.add_le_add_left (nb2_1 _) _)) (Nat.le_trans (nb_mul _ _) (Nat.add_le_add_left (nb2_2 _) _))
theorem f5norm_ok (d : DD) (h : d.ok) : Pure Tryz.prog 61 [d.av] (· = cD d.v) := by
  have h1 := f3norm_ok d.a h.1
  have h2 := f3norm_ok d.b h.2
  obtain ⟨⟨n, x, y⟩, ⟨m, z, w⟩⟩ := d
  simp only [DD.av, DD.cells, DD.v, RR.av] at *
  generalize RR.v _ = p at *
  generalize RR.v _ = q at *
  simp only [cD, cQ] at *
  (refine pureW Tryz.func61 rfl (rs := [Go.ResultVar.cell 2 46]) rfl (n := 10) rfl ?_; simp only [List.length_cons, List.length_nil, List.replicate, List.cons_append, List.nil_append])
  (refine aDa ?_)
  ((first | refine W_seqD mixed [] (by kernel_rfl) ?_ | refine W_seq (W_seqD mixed [] (by kernel_rfl) ?_) | refine W_regD mixed [] (by kernel_rfl) ?_); intro K hK; (refine sDa ?_; try exact True.intro))
  ((repeat refine aI ?_); refine ⟨by kernel_rfl, rfl, _, h1, ?_⟩; (try (refine sDa ?_; try exact True.intro)); (repeat refine aI ?_))
  ((repeat refine aI ?_); refine ⟨by kernel_rfl, rfl, _, h2, ?_⟩; (try (refine sDa ?_; try exact True.intro)); (repeat refine aI ?_))
  ((repeat refine aI ?_); refine hK _ ?_; clear hK K)
  refine W_ret ?_
  (refine qG ?_; try exact True.intro); try (refine sDaV ?_; try exact True.intro)
theorem f5add_ok (d e : DD) (hd : d.ok) (he : e.ok) : Pure Tryz.prog 25 [d.av, e.av] (· = cD (dadd d.v e.v)) := by
  have h1 := f3add_ok d.a e.a hd.1 he.1
  have h2 := f3add_ok d.b e.b hd.2 he.2
  obtain ⟨⟨n, x, y⟩, ⟨m, z, w⟩⟩ := d
  obtain ⟨⟨n', x', y'⟩, ⟨m', z', w'⟩⟩ := e
  simp only [DD.av, DD.cells, DD.v, dadd, RR.av] at *
  generalize RR.v _ + RR.v _ = p at *
  generalize RR.v _ + RR.v _ = q at *
  simp only [cD, cQ] at *
  (refine pureW Tryz.func25 rfl (rs := [Go.ResultVar.cell 4 46]) rfl (n := 16) rfl ?_; simp only [List.length_cons, List.length_nil, List.replicate, List.cons_append, List.nil_append])
  (refine aDa ?_)
  ((first | refine W_seqD mixed [] (by kernel_rfl) ?_ | refine W_seq (W_seqD mixed [] (by kernel_rfl) ?_) | refine W_regD mixed [] (by kernel_rfl) ?_); intro K hK; (refine sDa ?_; try exact True.intro))
  ((repeat refine aI ?_); refine ⟨by kernel_rfl, rfl, _, h1, ?_⟩; (try (refine sDa ?_; try exact True.intro)); (repeat refine aI ?_))
  ((repeat refine aI ?_); refine ⟨by kernel_rfl, rfl, _, h2, ?_⟩; (try (refine sDa ?_; try exact True.intro)); (repeat refine aI ?_))
  ((repeat refine aI ?_); refine hK _ ?_; clear hK K)
  refine W_ret ?_
  (refine qG ?_; try exact True.intro); try (refine sDaV ?_; try exact True.intro)
theorem f5sub_ok (d e : DD) (hd : d.ok) (he : e.ok) : Pure Tryz.prog 67 [d.av, e.av] (· = cD (dsub d.v e.v)) := by
  have h1 := f3sub_ok d.a e.a hd.1 he.1
  have h2 := f3sub_ok d.b e.b hd.2 he.2
  obtain ⟨⟨n, x, y⟩, ⟨m, z, w⟩⟩ := d
  obtain ⟨⟨n', x', y'⟩, ⟨m', z', w'⟩⟩ := e
  simp only [DD.av, DD.cells, DD.v, dsub, RR.av] at *
  generalize RR.v _ - RR.v _ = p at *
  generalize RR.v _ - RR.v _ = q at *
  simp only [cD, cQ] at *
  (refine pureW Tryz.func67 rfl (rs := [Go.ResultVar.cell 4 46]) rfl (n := 16) rfl ?_; simp only [List.length_cons, List.length_nil, List.replicate, List.cons_append, List.nil_append])
  (refine aDa ?_)
  ((first | refine W_seqD mixed [] (by kernel_rfl) ?_ | refine W_seq (W_seqD mixed [] (by kernel_rfl) ?_) | refine W_regD mixed [] (by kernel_rfl) ?_); intro K hK; (refine sDa ?_; try exact True.intro))
  ((repeat refine aI ?_); refine ⟨by kernel_rfl, rfl, _, h1, ?_⟩; (try (refine sDa ?_; try exact True.intro)); (repeat refine aI ?_))
  ((repeat refine aI ?_); refine ⟨by kernel_rfl, rfl, _, h2, ?_⟩; (try (refine sDa ?_; try exact True.intro)); (repeat refine aI ?_))
  ((repeat refine aI ?_); refine hK _ ?_; clear hK K)
  refine W_ret ?_
  (refine qG ?_; try exact True.intro); try (refine sDaV ?_; try exact True.intro)
theorem dadd_ok (d e : DD) (hd : d.ok) (he : e.ok) : Pure Tryz.prog 99 [d.av, e.av] (· = cD (dadd d.v e.v)) := by
  have h1 := radd_ok d.a e.a hd.1 he.1
  have h2 := radd_ok d.b e.b hd.2 he.2
  obtain ⟨⟨n, x, y⟩, ⟨m, z, w⟩⟩ := d
  obtain ⟨⟨n', x', y'⟩, ⟨m', z', w'⟩⟩ := e
  simp only [DD.av, DD.cells, DD.v, dadd, RR.av] at *
  generalize RR.v _ + RR.v _ = p at *
  generalize RR.v _ + RR.v _ = q at *
  simp only [cD, cQ] at *
  (refine pureW Tryz.func99 rfl (rs := [Go.ResultVar.cell 4 46]) rfl (n := 16) rfl ?_; simp only [List.length_cons, List.length_nil, List.replicate, List.cons_append, List.nil_append])
  (refine aDa ?_)
  ((first | refine W_seqD mixed [] (by kernel_rfl) ?_ | refine W_seq (W_seqD mixed [] (by kernel_rfl) ?_) | refine W_regD mixed [] (by kernel_rfl) ?_); intro K hK; (refine sDa ?_; try exact True.intro))
  ((repeat refine aI ?_); refine ⟨by kernel_rfl, rfl, _, h1, ?_⟩; (try (refine sDa ?_; try exact True.intro)); (repeat refine aI ?_))
  ((repeat refine aI ?_); refine ⟨by kernel_rfl, rfl, _, h2, ?_⟩; (try (refine sDa ?_; try exact True.intro)); (repeat refine aI ?_))
  ((repeat refine aI ?_); refine hK _ ?_; clear hK K)
  refine W_ret ?_
  (refine qG ?_; try exact True.intro); try (refine sDaV ?_; try exact True.intro)
theorem f5scale_ok (c : RR) (d : DD) (hc : c.ok) (hd : d.ok) : Pure Tryz.prog 26 [c.av, d.av] (· = cD (dscale c.v d.v)) := by
  have h1 := f3mul_ok c d.a hc hd.1
  have h2 := f3mul_ok c d.b hc hd.2
  obtain ⟨⟨n, x, y⟩, ⟨m, z, w⟩⟩ := d
  obtain ⟨n', x', y'⟩ := c
  simp only [DD.av, DD.cells, DD.v, dscale, RR.av] at *
  generalize RR.v _ * RR.v _ = p at *
  generalize RR.v _ * RR.v _ = q at *
  simp only [cD, cQ] at *
  (refine pureW Tryz.func26 rfl (rs := [Go.ResultVar.cell 4 46]) rfl (n := 14) rfl ?_; simp only [List.length_cons, List.length_nil, List.replicate, List.cons_append, List.nil_append])
  (refine aDa ?_)
  ((first | refine W_seqD mixed [] (by kernel_rfl) ?_ | refine W_seq (W_seqD mixed [] (by kernel_rfl) ?_) | refine W_regD mixed [] (by kernel_rfl) ?_); intro K hK; (refine sDa ?_; try exact True.intro))
  ((repeat refine aI ?_); refine ⟨by kernel_rfl, rfl, _, h1, ?_⟩; (try (refine sDa ?_; try exact True.intro)); (repeat refine aI ?_))
  ((repeat refine aI ?_); refine ⟨by kernel_rfl, rfl, _, h2, ?_⟩; (try (refine sDa ?_; try exact True.intro)); (repeat refine aI ?_))
  ((repeat refine aI ?_); refine hK _ ?_; clear hK K)
  refine W_ret ?_
  (refine qG ?_; try exact True.intro); try (refine sDaV ?_; try exact True.intro)
theorem dscale_ok (c : RR) (d : DD) (hc : c.ok) (hd : d.ok) : Pure Tryz.prog 100 [c.av, d.av] (· = cD (dscale c.v d.v)) := by
  have h1 := rmul_ok c d.a hc hd.1
  have h2 := rmul_ok c d.b hc hd.2
  obtain ⟨⟨n, x, y⟩, ⟨m, z, w⟩⟩ := d
  obtain ⟨n', x', y'⟩ := c
  simp only [DD.av, DD.cells, DD.v, dscale, RR.av] at *
  generalize RR.v _ * RR.v _ = p at *
  generalize RR.v _ * RR.v _ = q at *
  simp only [cD, cQ] at *
  (refine pureW Tryz.func100 rfl (rs := [Go.ResultVar.cell 4 46]) rfl (n := 14) rfl ?_; simp only [List.length_cons, List.length_nil, List.replicate, List.cons_append, List.nil_append])
  (refine aDa ?_)
  ((first | refine W_seqD mixed [] (by kernel_rfl) ?_ | refine W_seq (W_seqD mixed [] (by kernel_rfl) ?_) | refine W_regD mixed [] (by kernel_rfl) ?_); intro K hK; (refine sDa ?_; try exact True.intro))
  ((repeat refine aI ?_); refine ⟨by kernel_rfl, rfl, _, h1, ?_⟩; (try (refine sDa ?_; try exact True.intro)); (repeat refine aI ?_))
  ((repeat refine aI ?_); refine ⟨by kernel_rfl, rfl, _, h2, ?_⟩; (try (refine sDa ?_; try exact True.intro)); (repeat refine aI ?_))
  ((repeat refine aI ?_); refine hK _ ?_; clear hK K)
  refine W_ret ?_
  (refine qG ?_; try exact True.intro); try (refine sDaV ?_; try exact True.intro)
theorem f5of_ok (r : RR) (h : r.ok) : Pure Tryz.prog 18 [r.av] (· = cD (r.v, 0)) := by
  have h1 := f5norm_ok ⟨r, ⟨false, [], []⟩⟩ ⟨h, ⟨fun x hx => by simp at hx, fun x hx => by simp at hx, by simp, by simp⟩⟩
  have h2 : DD.v ⟨r, ⟨false, [], []⟩⟩ = (r.v, 0) := by
    simp only [DD.v, RR.v]
    rw [show val [] = 0 from rfl]
    simp [Rat.mkRat_zero]
  rw [h2] at h1
  obtain ⟨n, x, y⟩ := r
  simp only [DD.av, DD.cells, RR.av, show u32s [] = [] from rfl] at *
  generalize ((RR.v _, 0) : Rat × Rat) = p at *
  simp only [cD] at *
  (refine pureW Tryz.func18 rfl (rs := [Go.ResultVar.cell 2 46]) rfl (n := 6) rfl ?_; simp only [List.length_cons, List.length_nil, List.replicate, List.cons_append, List.nil_append])
  (refine aDa ?_)
  ((first | refine W_seqV ?_ | refine W_seq (W_seqV ?_) | refine W_regV ?_); intro K hK; (refine sDa ?_; try exact True.intro))
  ((repeat refine aI ?_); refine ⟨by kernel_rfl, rfl, _, h1, ?_⟩; (try (refine sDa ?_; try exact True.intro)); (repeat refine aI ?_))
  ((repeat refine aI ?_); refine hK _ ?_; clear hK K)
  refine W_ret ?_
  (refine qG ?_; try exact True.intro); try (refine sDaV ?_; try exact True.intro)
theorem dof_ok (r : RR) (h : r.ok) : Pure Tryz.prog 98 [r.av] (· = cD (r.v, 0)) := by
  have h1 := rnorm_ok r h
  have h2 := rwhole_ok 0 (by omega) (by omega)
  obtain ⟨n, x, y⟩ := r
  have h3 : (((0 : Int)) : Rat) = 0 := rfl
  rw [h3] at h2
  simp only [RR.av] at *
  generalize RR.v _ = p at *
  generalize (0 : Rat) = q at *
  simp only [cD, cQ] at *
  (refine pureW Tryz.func98 rfl (rs := [Go.ResultVar.cell 2 46]) rfl (n := 7) rfl ?_; simp only [List.length_cons, List.length_nil, List.replicate, List.cons_append, List.nil_append])
  (refine aDa ?_)
  ((first | refine W_seqV ?_ | refine W_seq (W_seqV ?_) | refine W_regV ?_); intro K hK; (refine sDa ?_; try exact True.intro))
  ((repeat refine aI ?_); refine ⟨by kernel_rfl, rfl, _, h1, ?_⟩; (try (refine sDa ?_; try exact True.intro)); (repeat refine aI ?_))
  ((repeat refine aI ?_); refine ⟨by kernel_rfl, rfl, _, h2, ?_⟩; (try (refine sDa ?_; try exact True.intro)); (repeat refine aI ?_))
  ((repeat refine aI ?_); refine hK _ ?_; clear hK K)
  refine W_ret ?_
  (refine qG ?_; try exact True.intro); try (refine sDaV ?_; try exact True.intro)
theorem ne_z {z : Int} (h : z ≠ 0) : (z != 0) = true := by simp [h]
theorem f5sign_ok (d : DD) (h : d.ok) : Pure Tryz.prog 43 [d.av] (· = .int .i64 (dsg d.v)) := by
  have h1 := f3sign_ok d.a h.1
  have h2 := f3sign_ok d.b h.2
  obtain ⟨⟨n, x, y⟩, ⟨m, z, w⟩⟩ := d
  simp only [DD.av, DD.cells, DD.v, dsg, RR.av] at *
  generalize rs (RR.v _) = p at *
  generalize rs (RR.v _) = q at *
  unfold lexI
  by_cases h0 : p = 0
  · subst h0
    have hz : ((0 : Int) != 0) = false := rfl
    rw [if_neg (by simp)]
    (refine pureW Tryz.func43 rfl (rs := [Go.ResultVar.tmp 2]) rfl (n := 13) rfl ?_; simp only [List.length_cons, List.length_nil, List.replicate, List.cons_append, List.nil_append])
    (refine aDa ?_)
    ((first | refine W_seqV ?_ | refine W_seq (W_seqV ?_) | refine W_regV ?_); intro K hK; (refine sDa ?_; try exact True.intro))
    ((repeat refine aI ?_); refine ⟨by kernel_rfl, rfl, _, h1, ?_⟩; (try (refine sDa ?_; try exact True.intro)); (repeat refine aI ?_))
    ((repeat refine aI ?_); refine hK _ ?_; clear hK K)
    refine W_seq ?_
    ((first | refine W_seqV ?_ | refine W_seq (W_seqV ?_) | refine W_regV ?_); intro K hK; (refine sDaX hz ?_; try exact True.intro))
    ((repeat refine aI ?_); refine hK _ ?_; clear hK K)
    (first | refine W_cond rfl (fun h => by cases h) (fun _ => ?_) | refine W_seq (W_cond rfl (fun h => by cases h) (fun _ => ?_)))
    refine W_skip ?_
    simp only [thenW]
    ((first | refine W_seqV ?_ | refine W_seq (W_seqV ?_) | refine W_regV ?_); intro K hK; (refine sDa ?_; try exact True.intro))
    ((repeat refine aI ?_); refine ⟨by kernel_rfl, rfl, _, h2, ?_⟩; (try (refine sDa ?_; try exact True.intro)); (repeat refine aI ?_))
    ((repeat refine aI ?_); refine hK _ ?_; clear hK K)
    refine W_ret ?_
    (refine qG ?_; try exact True.intro); try (refine sDaV ?_; try exact True.intro)
  · have hz := ne_z h0
    rw [if_pos h0]
    (refine pureW Tryz.func43 rfl (rs := [Go.ResultVar.tmp 2]) rfl (n := 13) rfl ?_; simp only [List.length_cons, List.length_nil, List.replicate, List.cons_append, List.nil_append])
    (refine aDa ?_)
    ((first | refine W_seqV ?_ | refine W_seq (W_seqV ?_) | refine W_regV ?_); intro K hK; (refine sDa ?_; try exact True.intro))
    ((repeat refine aI ?_); refine ⟨by kernel_rfl, rfl, _, h1, ?_⟩; (try (refine sDa ?_; try exact True.intro)); (repeat refine aI ?_))
    ((repeat refine aI ?_); refine hK _ ?_; clear hK K)
    refine W_seq ?_
    ((first | refine W_seqV ?_ | refine W_seq (W_seqV ?_) | refine W_regV ?_); intro K hK; (refine sDaX hz ?_; try exact True.intro))
    ((repeat refine aI ?_); refine hK _ ?_; clear hK K)
    (first | refine W_cond rfl (fun _ => ?_) (fun h => by cases h) | refine W_seq (W_cond rfl (fun _ => ?_) (fun h => by cases h)))
    ((first | refine W_seqV ?_ | refine W_seq (W_seqV ?_) | refine W_regV ?_); intro K hK; (refine sDa ?_; try exact True.intro))
    ((repeat refine aI ?_); refine hK _ ?_; clear hK K)
    refine W_ret ?_
    (refine qG ?_; try exact True.intro); try (refine sDaV ?_; try exact True.intro)
theorem f5cmp_ok (d e : DD) (hd : d.ok) (he : e.ok) (hs : nb2 (dsub d.v e.v) < 17179869184) : Pure Tryz.prog 27 [d.av, e.av] (· = .int .i64 (dsg (dsub d.v e.v))) := by
  have h1 := f5sub_ok d e hd he
  have h2 := f5sign_ok (dq (dsub d.v e.v)) (dq_ok hs)
  rw [dq_av, dq_v] at h2
  generalize dsub d.v e.v = p at *
  obtain ⟨⟨n, x, y⟩, ⟨m, z, w⟩⟩ := d
  obtain ⟨⟨n', x', y'⟩, ⟨m', z', w'⟩⟩ := e
  simp only [DD.av, DD.cells, cD] at *
  (refine pureW Tryz.func27 rfl (rs := [Go.ResultVar.tmp 4]) rfl (n := 9) rfl ?_; simp only [List.length_cons, List.length_nil, List.replicate, List.cons_append, List.nil_append])
  (refine aDa ?_)
  ((first | refine W_seqV ?_ | refine W_seq (W_seqV ?_) | refine W_regV ?_); intro K hK; (refine sDa ?_; try exact True.intro))
  ((repeat refine aI ?_); refine ⟨by kernel_rfl, rfl, _, h1, ?_⟩; (try (refine sDa ?_; try exact True.intro)); (repeat refine aI ?_))
  ((repeat refine aI ?_); refine ⟨by kernel_rfl, rfl, _, h2, ?_⟩; (try (refine sDa ?_; try exact True.intro)); (repeat refine aI ?_))
  ((repeat refine aI ?_); refine hK _ ?_; clear hK K)
  refine W_ret ?_
  (refine qG ?_; try exact True.intro); try (refine sDaV ?_; try exact True.intro)
theorem dcmp_ok (d e : DD) (hd : d.ok) (he : e.ok) : Pure Tryz.prog 76 [d.av, e.av] (· = .int .i64 (dsg (dsub d.v e.v))) := by
  have h1 := rcmp_ok d.a e.a hd.1 he.1
  have h2 := rcmp_ok d.b e.b hd.2 he.2
  obtain ⟨⟨n, x, y⟩, ⟨m, z, w⟩⟩ := d
  obtain ⟨⟨n', x', y'⟩, ⟨m', z', w'⟩⟩ := e
  simp only [DD.av, DD.cells, DD.v, dsg, dsub, RR.av] at *
  generalize rs (RR.v _ - RR.v _) = p at *
  generalize rs (RR.v _ - RR.v _) = q at *
  unfold lexI
  by_cases h0 : p = 0
  · subst h0
    have hz : ((0 : Int) != 0) = false := rfl
    rw [if_neg (by simp)]
    (refine pureW Tryz.func76 rfl (rs := [Go.ResultVar.tmp 4]) rfl (n := 19) rfl ?_; simp only [List.length_cons, List.length_nil, List.replicate, List.cons_append, List.nil_append])
    (refine aDa ?_)
    ((first | refine W_seqV ?_ | refine W_seq (W_seqV ?_) | refine W_regV ?_); intro K hK; (refine sDa ?_; try exact True.intro))
    ((repeat refine aI ?_); refine ⟨by kernel_rfl, rfl, _, h1, ?_⟩; (try (refine sDa ?_; try exact True.intro)); (repeat refine aI ?_))
    ((repeat refine aI ?_); refine hK _ ?_; clear hK K)
    refine W_seq ?_
    ((first | refine W_seqV ?_ | refine W_seq (W_seqV ?_) | refine W_regV ?_); intro K hK; (refine sDaX hz ?_; try exact True.intro))
    ((repeat refine aI ?_); refine hK _ ?_; clear hK K)
    (first | refine W_cond rfl (fun h => by cases h) (fun _ => ?_) | refine W_seq (W_cond rfl (fun h => by cases h) (fun _ => ?_)))
    refine W_skip ?_
    simp only [thenW]
    ((first | refine W_seqV ?_ | refine W_seq (W_seqV ?_) | refine W_regV ?_); intro K hK; (refine sDa ?_; try exact True.intro))
    ((repeat refine aI ?_); refine ⟨by kernel_rfl, rfl, _, h2, ?_⟩; (try (refine sDa ?_; try exact True.intro)); (repeat refine aI ?_))
    ((repeat refine aI ?_); refine hK _ ?_; clear hK K)
    refine W_ret ?_
    (refine qG ?_; try exact True.intro); try (refine sDaV ?_; try exact True.intro)
  · have hz := ne_z h0
    rw [if_pos h0]
    (refine pureW Tryz.func76 rfl (rs := [Go.ResultVar.tmp 4]) rfl (n := 19) rfl ?_; simp only [List.length_cons, List.length_nil, List.replicate, List.cons_append, List.nil_append])
    (refine aDa ?_)
    ((first | refine W_seqV ?_ | refine W_seq (W_seqV ?_) | refine W_regV ?_); intro K hK; (refine sDa ?_; try exact True.intro))
    ((repeat refine aI ?_); refine ⟨by kernel_rfl, rfl, _, h1, ?_⟩; (try (refine sDa ?_; try exact True.intro)); (repeat refine aI ?_))
    ((repeat refine aI ?_); refine hK _ ?_; clear hK K)
    refine W_seq ?_
    ((first | refine W_seqV ?_ | refine W_seq (W_seqV ?_) | refine W_regV ?_); intro K hK; (refine sDaX hz ?_; try exact True.intro))
    ((repeat refine aI ?_); refine hK _ ?_; clear hK K)
    (first | refine W_cond rfl (fun _ => ?_) (fun h => by cases h) | refine W_seq (W_cond rfl (fun _ => ?_) (fun h => by cases h)))
    ((first | refine W_seqV ?_ | refine W_seq (W_seqV ?_) | refine W_regV ?_); intro K hK; (refine sDa ?_; try exact True.intro))
    ((repeat refine aI ?_); refine hK _ ?_; clear hK K)
    refine W_ret ?_
    (refine qG ?_; try exact True.intro); try (refine sDaV ?_; try exact True.intro)
end Go.Proofs.YtjkjapjcmbfkgaaGreat.Vm

/-
  An object's nil cells become lists without rows.
-/
namespace Go.Proofs.YtjkjapjcmbfkgaaGreat.Vm
open Go
set_option linter.unusedVariables false
set_option linter.unusedSimpArgs false
theorem AV.datas_len : ∀ l : List AV, (AV.datas l).length = l.length
  | [] => rfl
  | x :: l => by simp only [AV.datas, List.length_cons, AV.datas_len l]
theorem RpR.datas {w : World} {A : Nat → Prop} {ρ : Pl} {l : List (List AV)} {vss : List (List Value)} (h : RpR w A ρ l vss) : RpR w A ρ (l.map AV.datas) vss := by
  refine RpR.mk (by rw [List.length_map]; exact h.length) fun i x v hx hv => ?_
  rw [List.getElem?_map] at hx
  cases hl : l[i]? with
  | none => rw [hl] at hx; cases hx
  | some y =>
    rw [hl] at hx
    cases hx
    obtain ⟨u, hu, hr⟩ := h.get hl
    rw [hv] at hu
    cases hu
    exact Rps.data y hr
theorem Le_datas {pins : List Nat} {e : List AV} {hp : List Ob} (i : Nat) {T : TypeId} {k : Nat} {pf : Bool} {rows : List (List AV)} (hi : hp[i]? = some (.arr T k pf rows)) : Le pins ⟨e, hp⟩ ⟨e, hp.set i (.arr T k pf (rows.map AV.datas))⟩ := by
  intro fr ρ a w hpins hr
  have hil : i < hp.length := (List.getElem?_eq_some_iff.1 hi).1
  refine ⟨ρ, { hr with heap := fun j => ?_ }⟩
  by_cases hj : j = i
  · subst hj
    have h0 := hr.heap j
    rw [show (St.mk e hp).hp.getD j .dead = .arr T k pf rows by simp [List.getD_eq_getElem?_getD, hi]] at h0
    have hg : (St.mk e (hp.set j (.arr T k pf (rows.map AV.datas)))).hp.getD j .dead = .arr T k pf (rows.map AV.datas) := by simp [List.getD_eq_getElem?_getD, hil]
    rw [hg]
    match hp' : ρ j, h0 with
    | none, h0 => exact h0.elim
    | some .nil, h0 =>
      have : rows = [] := h0
      subst this
      exact rfl
    | some (.mapb b), h0 => exact h0.elim
    | some (.blk b s cap len), h0 =>
      obtain ⟨h1, h2, vss, rest, h3, h4, h5, h6, h7, h8⟩ := h0
      refine ⟨h1, by simpa using h2, vss, rest, h3, h4.datas, ?_, h6, by simpa using h7, h8⟩
      intro x hx
      obtain ⟨y, hy, rfl⟩ := List.mem_map.1 hx
      rw [AV.datas_len]
      exact h5 y hy
  · have h0 := hr.heap j
    have hg : (St.mk e (hp.set i (.arr T k pf (rows.map AV.datas)))).hp.getD j .dead = (St.mk e hp).hp.getD j .dead := by
      simp only [List.getD_eq_getElem?_getD]
      rw [List.getElem?_set_ne (Ne.symm hj)]
    rw [hg]
    exact h0
end Go.Proofs.YtjkjapjcmbfkgaaGreat.Vm

/-
  Forms: Coef, Vars.
-/
namespace Go.Proofs.YtjkjapjcmbfkgaaGreat.Vm
open Go Go.RowKit
set_option maxRecDepth 100000
set_option linter.unusedVariables false
set_option linter.unusedSimpArgs false
theorem sLd {G G' : Prop} (h : G') (e : G = G' := by conv => lhs; simp (disch := omega) only [rowsOf, cNat, cN, St.ret, St.seth, Eff.app, Eff.wi, sepL, guardOf, St.known, objOf, List.set, sliceW, litW, copyW, lenOf, bnd, mxOk, ofCells, TI.isAgg, cellsOf, storable, AV.one, dead, laid, overlay, reduceCtorEq, Int.reduceLE, Int.reduceLT, Int.reduceSub, Int.reduceAdd, Nat.reduceMul, Int.reduceToNat, Nat.reducePow, Int.reduceNeg, Nat.reduceAdd, Nat.reduceLT, Nat.reduceLeDiff, sA, sB, cQ, rowM, rowQ, i64s_length, i64s_all, i64s_take, i64s_one, i64s_pure, i64s_append, tab_length, tab_getD_zero, List.take_length, List.length_append, tab_drop, tab_take, tab_append, tab_nil, rowM_all, rowM_one, rowM_pure, rowQ_all, rowQ_one, rowQ_pure, sT]) : G := e.mpr h
theorem sLdX {G G' P : Prop} (p : P) (h : G') (e : P → G = G' := by intro p; conv => lhs; simp (disch := omega) only [rowsOf, cNat, cN, St.ret, St.seth, Eff.app, Eff.wi, sepL, guardOf, St.known, objOf, List.set, sliceW, litW, copyW, lenOf, bnd, mxOk, ofCells, TI.isAgg, cellsOf, storable, AV.one, dead, laid, overlay, reduceCtorEq, Int.reduceLE, Int.reduceLT, Int.reduceSub, Int.reduceAdd, Nat.reduceMul, Int.reduceToNat, Nat.reducePow, Int.reduceNeg, Nat.reduceAdd, Nat.reduceLT, Nat.reduceLeDiff, sA, sB, cQ, rowM, rowQ, i64s_length, i64s_all, i64s_take, i64s_one, i64s_pure, i64s_append, tab_length, tab_getD_zero, List.take_length, List.length_append, tab_drop, tab_take, tab_append, tab_nil, rowM_all, rowM_one, rowM_pure, rowQ_all, rowQ_one, rowQ_pure, sT, p]) : G := (e p).mpr h
theorem sLdV {G G' : Prop} (h : G') (e : G = G' := by conv => lhs; simp (disch := omega) only [rowsOf, cNat, cN, St.ret, St.seth, Eff.app, Eff.wi, sepL, guardOf, St.known, objOf, List.set, sliceW, litW, copyW, lenOf, bnd, mxOk, ofCells, TI.isAgg, cellsOf, storable, AV.one, dead, laid, overlay, reduceCtorEq, Int.reduceLE, Int.reduceLT, Int.reduceSub, Int.reduceAdd, Nat.reduceMul, Int.reduceToNat, Nat.reducePow, Int.reduceNeg, Nat.reduceAdd, Nat.reduceLT, Nat.reduceLeDiff, sA, sB, cQ, rowM, rowQ, i64s_length, i64s_all, i64s_take, i64s_one, i64s_pure, i64s_append, tab_length, tab_getD_zero, List.take_length, List.length_append, tab_drop, tab_take, tab_append, tab_nil, rowM_all, rowM_one, rowM_pure, rowQ_all, rowQ_one, rowQ_pure, sT, view_sref, viewRef, view_agg, views_cons, views_nil, view_bool, view_int, view_sl, view_nils, view_str, view_tup, view_nilif]) : G := e.mpr h
theorem aLd {G G' : Prop} (h : G') (f : Wr G' → G := by intro h; (repeat (first | (refine W_seqV fun K hK => ?_; (try (refine sLd ?_; try exact True.intro)); (repeat refine aI ?_); refine hK _ ?_; clear hK K) | (refine W_seqR fun K hK => ?_; (try (refine sLd ?_; try exact True.intro)); (repeat refine aI ?_); refine hK _ ?_; clear hK K) | (refine W_seqD mixed [] (by kernel_rfl) fun K hK => ?_; (try (refine sLd ?_; try exact True.intro)); (repeat refine aI ?_); refine hK _ ?_; clear hK K))); exact h.out) : G := f ⟨h⟩

theorem lcoef_ok (f : List (Int × RR)) (v : Int) {B : Nat} (hf : PF f B) (hB : B ≤ 8589934592) :
    Pure Tryz.prog 94 [cF f, .int .i64 v] (· = cQ (coef (vals f) v)) := by
  have hfl := hf.len
  have hvl : (vals f).length = f.length := by simp [vals]
  have hst : ∀ i, i < f.length → coef ((vals f).take (i + 1)) v = coef ((vals f).take i) v + if (f.getD i default).1 = v then (f.getD i default).2.v else 0 := fun i hi => by
    rw [coef_take _ _ (by omega)]
    have : (vals f).getD i default = ((f.getD i default).1, (f.getD i default).2.v) := by simp [vals, List.getD_eq_getElem?_getD, hi]
    rw [this]
  have hz : zeroR.ok ∧ zeroR.v = 0 := ⟨zeroR_ok, zeroR_v⟩
  have hnv : ∀ i, nb (coef ((vals f).take i) v) ≤ 8589934592 := fun i => Nat.le_trans (hf.pre i v) hB
  have hok : ∀ i, i < f.length → (f.getD i default).2.ok := fun i hi => hf.ok _ (by simp [List.getD_eq_getElem?_getD, hi])
  have hnr := rnorm_ok
  have hlast : coef ((vals f).take f.length) v = coef (vals f) v := by rw [← hvl, List.take_length]
  rw [← hlast]
  generalize hE : (fun i => coef ((vals f).take i) v) = E at *
  have hE' : ∀ i, coef ((vals f).take i) v = E i := fun i => congrFun hE i
  have h0 : E 0 = 0 := by rw [← hE]; rfl
  simp only [hE'] at *
  clear hE hE' hlast
  (refine pureW Tryz.func94 rfl (rs := [Go.ResultVar.cell 4 29]) rfl (n := 26) rfl ?_; simp only [List.length_cons, List.length_nil, List.replicate, List.cons_append, List.nil_append])
  simp only [cF]
  (refine aLd ?_)
  refine W.le ?_ (Le_datas 5 rfl)
  simp only [List.set, List.map_cons, List.map_nil, AV.datas, AV.data]
  refine W_seq ?_
  ((first | refine W_seqV ?_ | refine W_seq (W_seqV ?_) | refine W_regV ?_); intro K hK; (refine sLd ?_; try exact True.intro))
  ((repeat refine aI ?_); refine hK _ ?_; clear hK K)
  refine W_block (W_loop (fun t : {t : Nat × RR // t.1 ≤ f.length ∧ t.2.ok ∧ t.2.v = E t.1} =>
      ⟨[.any, .int .i64 v, .any, .any, .ptr 4 0 0, .ptr 5 0 0, .any, .any, .any, .sl (tab rowM f), .int .i64 f.length, .int .i64 t.1.1, .any, .any, .any, .any, .any, .any, .any, .any, .any, .any, .any, .any, .any, .any], [.dead, .dead, .dead, .dead, .arr 29 3 false [[.bool false, .nils, .nils]], .arr 29 3 false [[.bool t.1.2.neg, .sl (u32s t.1.2.num), .sl (u32s t.1.2.den)]], .dead, .dead, .dead, .dead, .dead, .dead, .dead, .dead, .dead, .dead, .dead, .dead, .dead, .dead, .dead, .dead, .dead, .dead, .dead, .dead]⟩) (fun t => f.length - t.1.1)
      ⟨(0, zeroR), by omega, hz.1, by rw [hz.2, h0]⟩ (Le_of (by simp [leE]) (by simp [zeroR, u32s])) fun t => ?_)
  obtain ⟨⟨i, q⟩, hi, hq, hqv⟩ := t
  replace hqv : q.v = E i := hqv
  replace hq : q.ok := hq
  replace hi : i ≤ f.length := hi
  dsimp only
  by_cases hlt : i < f.length
  · have hXi : (tab rowM f).getD i [] = rowM (f.getD i default) := tab_getD hlt
    have hsi := hst i hlt
    have hp1 := hok i hlt
    generalize f.getD i default = p at *
    simp only [rowM] at hXi
    refine W_seq ?_
    ((first | refine W_seqV ?_ | refine W_seq (W_seqV ?_) | refine W_regV ?_); intro K hK; (refine sLdX hlt ?_; try exact True.intro))
    ((repeat refine aI ?_); refine hK _ ?_; clear hK K)
    (first | refine W_cond rfl (fun _ => ?_) (fun h => by cases h) | refine W_seq (W_cond rfl (fun _ => ?_) (fun h => by cases h)))
    refine W_skip ?_
    simp only [thenW]
    refine W_seq ?_
    refine W_block ?_
    ((first | refine W_seqV ?_ | refine W_seq (W_seqV ?_) | refine W_regV ?_); intro K hK; (refine sLdX (And.intro hXi hlt) ?_; try exact True.intro))
    ((repeat refine aI ?_); refine hK _ ?_; clear hK K)
    by_cases hv : p.1 = v
    · rw [if_pos hv, ← hqv] at hsi
      have hadd := radd_ok q p.2 hq hp1
      have hb : (p.1 == v) = true := by simp [hv]
      have hnx := hnv (i + 1)
      rw [hsi] at hnx
      have hqo : (qr (q.v + p.2.v)).ok := qr_ok (by omega)
      have hqw : (qr (q.v + p.2.v)).v = E (i + 1) := by rw [qr_v, hsi]
      have hqa : cQ (q.v + p.2.v) = (qr (q.v + p.2.v)).av := (qr_av _).symm
      rw [hqa] at hadd
      generalize qr (q.v + p.2.v) = q' at *
      simp only [RR.av] at hadd
      ((first | refine W_seqV ?_ | refine W_seq (W_seqV ?_) | refine W_regV ?_); intro K hK; (refine sLdX (And.intro hXi (And.intro hlt hb)) ?_; try exact True.intro))
      ((repeat refine aI ?_); refine hK _ ?_; clear hK K)
      (first | refine W_cond rfl (fun _ => ?_) (fun h => by cases h) | refine W_seq (W_cond rfl (fun _ => ?_) (fun h => by cases h)))
      ((first | refine W_seqV ?_ | refine W_seq (W_seqV ?_) | refine W_regV ?_); intro K hK; (refine sLdX (And.intro hXi hlt) ?_; try exact True.intro))
      ((repeat refine aI ?_); refine ⟨by kernel_rfl, rfl, _, hadd, ?_⟩; (try (refine sLd ?_; try exact True.intro)); (repeat refine aI ?_))
      ((repeat refine aI ?_); refine hK _ ?_; clear hK K)
      simp only [blockW, thenW]
      ((first | refine W_seqV ?_ | refine W_seq (W_seqV ?_) | refine W_regV ?_); intro K hK; (refine sLd ?_; try exact True.intro))
      ((repeat refine aI ?_); refine hK _ ?_; clear hK K)
      simp only [blockW, thenW]
      refine ⟨⟨(i + 1, q'), by omega, hqo, hqw⟩, Le_drop (by simp [leE]) (by simp [leH]) rfl rfl, ?_⟩
      dsimp only
      omega
    · rw [if_neg hv, Rat.add_zero] at hsi
      have hb : (p.1 == v) = false := by simp [hv]
      ((first | refine W_seqV ?_ | refine W_seq (W_seqV ?_) | refine W_regV ?_); intro K hK; (refine sLdX hb ?_; try exact True.intro))
      ((repeat refine aI ?_); refine hK _ ?_; clear hK K)
      (first | refine W_cond rfl (fun h => by cases h) (fun _ => ?_) | refine W_seq (W_cond rfl (fun h => by cases h) (fun _ => ?_)))
      refine W_skip ?_
      simp only [blockW, thenW]
      ((first | refine W_seqV ?_ | refine W_seq (W_seqV ?_) | refine W_regV ?_); intro K hK; (refine sLd ?_; try exact True.intro))
      ((repeat refine aI ?_); refine hK _ ?_; clear hK K)
      simp only [blockW, thenW]
      refine ⟨⟨(i + 1, q), by omega, hq, by rw [hqv, hsi]⟩, Le_drop (by simp [leE]) (by simp [leH]) rfl rfl, ?_⟩
      dsimp only
      omega
  · obtain rfl : i = f.length := by omega
    have hn := hnr q hq
    rw [hqv] at hn
    simp only [RR.av, cQ] at hn
    refine W_seq ?_
    ((first | refine W_seqV ?_ | refine W_seq (W_seqV ?_) | refine W_regV ?_); intro K hK; (refine sLd ?_; try exact True.intro))
    ((repeat refine aI ?_); refine hK _ ?_; clear hK K)
    (first | refine W_cond rfl (fun h => by cases h) (fun _ => ?_) | refine W_seq (W_cond rfl (fun h => by cases h) (fun _ => ?_)))
    refine W_exit ?_
    simp only [thenW, blockW, if_true]
    ((first | refine W_seqV ?_ | refine W_seq (W_seqV ?_) | refine W_regV ?_); intro K hK; (refine sLd ?_; try exact True.intro))
    ((repeat refine aI ?_); refine ⟨by kernel_rfl, rfl, _, hn, ?_⟩; (try (refine sLd ?_; try exact True.intro)); (repeat refine aI ?_))
    ((repeat refine aI ?_); refine hK _ ?_; clear hK K)
    refine W_ret ?_
    (refine qG ?_; try exact True.intro); try (refine sLdV ?_; try exact True.intro)
theorem lvars_ok (f : List (Int × RR)) {B : Nat} (h : FOk f B) (hB : B < 17179869184) : Pure Tryz.prog 52 [cF f] (· = .sl (i64s ((normF (vals f)).map (·.1)))) := by
  have hn := lnorm_ok f h hB
  have hl := len_norm (vals f)
  rw [vals_length] at hl
  have hfl := h.len
  generalize normF (vals f) = l at *
  have hst : ∀ i, i < l.length → (l.take (i + 1)).map (·.1) = (l.take i).map (·.1) ++ [(l.getD i default).1] := fun i hi => by
    rw [List.take_succ_eq_append_getElem hi, List.map_append]
    simp [List.getD_eq_getElem?_getD, hi]
  have hln : ∀ i, i ≤ l.length → ((l.take i).map (·.1)).length = i := fun i h => by simp; omega
  have h0 : (l.take 0).map (·.1) = [] := rfl
  have hlast : (l.take l.length).map (·.1) = l.map (·.1) := by rw [List.take_length]
  rw [← hlast]
  generalize hE : (fun i => (l.take i).map (·.1)) = E at *
  have hE' : ∀ i, (l.take i).map (·.1) = E i := fun i => congrFun hE i
  simp only [hE'] at *
  clear hE hE' hlast
  simp only [cF, cL] at hn ⊢
  (refine pureW Tryz.func52 rfl (rs := [Go.ResultVar.tmp 2]) rfl (n := 20) rfl ?_; simp only [List.length_cons, List.length_nil, List.replicate, List.cons_append, List.nil_append])
  (refine aLd ?_)
  refine W.le ?_ (Le_nil 3 3 3 1 true rfl rfl)
  simp only [List.set]
  refine W_seq ?_
  ((first | refine W_seqV ?_ | refine W_seq (W_seqV ?_) | refine W_regV ?_); intro K hK; (refine sLd ?_; try exact True.intro))
  ((repeat refine aI ?_); refine ⟨by kernel_rfl, rfl, _, hn, ?_⟩; (try (refine sLd ?_; try exact True.intro)); (repeat refine aI ?_))
  ((repeat refine aI ?_); refine hK _ ?_; clear hK K)
  refine W_block (W_loop (fun t : {t : Nat // t ≤ l.length} =>
      ⟨[.any, .any, .any, .sref 3 0 t.1, .any, .any, .any, .sl (tab rowQ l), .int .i64 l.length, .int .i64 t.1, .any, .any, .any, .any, .any, .any, .any, .any, .any, .any], [.dead, .dead, .dead, .arr 3 1 true (i64s (E t.1)), .dead, .dead, .dead, .dead, .dead, .dead, .dead, .dead, .dead, .dead, .dead, .dead, .dead, .dead, .dead, .dead]⟩) (fun t => l.length - t.1)
      ⟨0, by omega⟩ (Le_of (by simp [leE]) (by simp [h0, i64s])) fun t => ?_)
  obtain ⟨i, hi⟩ := t
  dsimp only
  by_cases hlt : i < l.length
  · have hXi : (tab rowQ l).getD i [] = rowQ (l.getD i default) := tab_getD hlt
    have hsi := hst i hlt
    have hli := hln i (by omega)
    generalize l.getD i default = p at *
    generalize E i = o at *
    simp only [rowQ] at hXi
    refine W_seq ?_
    ((first | refine W_seqV ?_ | refine W_seq (W_seqV ?_) | refine W_regV ?_); intro K hK; (refine sLdX hlt ?_; try exact True.intro))
    ((repeat refine aI ?_); refine hK _ ?_; clear hK K)
    (first | refine W_cond rfl (fun _ => ?_) (fun h => by cases h) | refine W_seq (W_cond rfl (fun _ => ?_) (fun h => by cases h)))
    refine W_skip ?_
    simp only [thenW]
    refine W_seq ?_
    refine W_block ?_
    ((first | refine W_seqV ?_ | refine W_seq (W_seqV ?_) | refine W_regV ?_); intro K hK; (refine sLdX (And.intro hXi hlt) ?_; try exact True.intro))
    ((repeat refine aI ?_); refine hK _ ?_; clear hK K)
    ((first | refine W_seqR ?_ | refine W_seq (W_seqR ?_) | refine W_regR ?_); intro K hK; (refine sLdX hli ?_; try exact True.intro))
    ((repeat refine aI ?_); refine hK _ ?_; clear hK K)
    simp only [blockW, thenW]
    ((first | refine W_seqV ?_ | refine W_seq (W_seqV ?_) | refine W_regV ?_); intro K hK; (refine sLd ?_; try exact True.intro))
    ((repeat refine aI ?_); refine hK _ ?_; clear hK K)
    simp only [blockW, thenW]
    refine ⟨⟨i + 1, by omega⟩, Le_drop (by simp [leE]) (by simp [leH, hsi, i64s, List.take_of_length_le, hli]) rfl rfl, ?_⟩
    dsimp only
    omega
  · obtain rfl : i = l.length := by omega
    have hli := hln l.length (by omega)
    refine W_seq ?_
    ((first | refine W_seqV ?_ | refine W_seq (W_seqV ?_) | refine W_regV ?_); intro K hK; (refine sLd ?_; try exact True.intro))
    ((repeat refine aI ?_); refine hK _ ?_; clear hK K)
    (first | refine W_cond rfl (fun h => by cases h) (fun _ => ?_) | refine W_seq (W_cond rfl (fun h => by cases h) (fun _ => ?_)))
    refine W_exit ?_
    simp only [thenW, blockW, if_true]
    ((first | refine W_seqV ?_ | refine W_seq (W_seqV ?_) | refine W_regV ?_); intro K hK; (refine sLd ?_; try exact True.intro))
    ((repeat refine aI ?_); refine hK _ ?_; clear hK K)
    refine W_ret ?_
    (refine qG ?_; try exact True.intro); try (refine sLdV ?_; try exact True.intro)
    rw [List.take_of_length_le (by simp [i64s, hli])]
end Go.Proofs.YtjkjapjcmbfkgaaGreat.Vm

/-
  Forms: without (IndexFunc, DeleteFunc).
-/
namespace Go.Proofs.YtjkjapjcmbfkgaaGreat.Vm
open Go Go.RowKit
set_option maxRecDepth 100000
set_option linter.unusedVariables false
set_option linter.unusedSimpArgs false
theorem sLe {G G' : Prop} (h : G') (e : G = G' := by conv => lhs; simp (disch := omega) only [rowsOf, cNat, cN, St.ret, St.seth, Eff.app, Eff.wi, sepL, guardOf, St.known, objOf, List.set, sliceW, litW, copyW, lenOf, bnd, mxOk, ofCells, TI.isAgg, cellsOf, storable, AV.one, dead, laid, overlay, reduceCtorEq, Int.reduceLE, Int.reduceLT, Int.reduceSub, Int.reduceAdd, Nat.reduceMul, Int.reduceToNat, Nat.reducePow, Int.reduceNeg, Nat.reduceAdd, Nat.reduceLT, Nat.reduceLeDiff, sA, sB, cQ, rowQ, tab_length, tab_getD_zero, List.take_length, List.length_append, tab_drop, tab_take, tab_append, tab_nil, rowQ_all, rowQ_one, rowQ_pure, AV.ren, sT]) : G := e.mpr h
theorem sLeX {G G' P : Prop} (p : P) (h : G') (e : P → G = G' := by intro p; conv => lhs; simp (disch := omega) only [rowsOf, cNat, cN, St.ret, St.seth, Eff.app, Eff.wi, sepL, guardOf, St.known, objOf, List.set, sliceW, litW, copyW, lenOf, bnd, mxOk, ofCells, TI.isAgg, cellsOf, storable, AV.one, dead, laid, overlay, reduceCtorEq, Int.reduceLE, Int.reduceLT, Int.reduceSub, Int.reduceAdd, Nat.reduceMul, Int.reduceToNat, Nat.reducePow, Int.reduceNeg, Nat.reduceAdd, Nat.reduceLT, Nat.reduceLeDiff, sA, sB, cQ, rowQ, tab_length, tab_getD_zero, List.take_length, List.length_append, tab_drop, tab_take, tab_append, tab_nil, rowQ_all, rowQ_one, rowQ_pure, AV.ren, sT, p]) : G := (e p).mpr h
theorem sLeV {G G' : Prop} (h : G') (e : G = G' := by conv => lhs; simp (disch := omega) only [rowsOf, cNat, cN, St.ret, St.seth, Eff.app, Eff.wi, sepL, guardOf, St.known, objOf, List.set, sliceW, litW, copyW, lenOf, bnd, mxOk, ofCells, TI.isAgg, cellsOf, storable, AV.one, dead, laid, overlay, reduceCtorEq, Int.reduceLE, Int.reduceLT, Int.reduceSub, Int.reduceAdd, Nat.reduceMul, Int.reduceToNat, Nat.reducePow, Int.reduceNeg, Nat.reduceAdd, Nat.reduceLT, Nat.reduceLeDiff, sA, sB, cQ, rowQ, tab_length, tab_getD_zero, List.take_length, List.length_append, tab_drop, tab_take, tab_append, tab_nil, rowQ_all, rowQ_one, rowQ_pure, AV.ren, sT, view_sref, viewRef, view_agg, views_cons, views_nil, view_bool, view_int, view_sl, view_nils, view_str, view_tup, view_nilif]) : G := e.mpr h
theorem aLe {G G' : Prop} (h : G') (f : Wr G' → G := by intro h; (repeat (first | (refine W_seqV fun K hK => ?_; (try (refine sLe ?_; try exact True.intro)); (repeat refine aI ?_); refine hK _ ?_; clear hK K) | (refine W_seqR fun K hK => ?_; (try (refine sLe ?_; try exact True.intro)); (repeat refine aI ?_); refine hK _ ?_; clear hK K) | (refine W_seqD mixed [] (by kernel_rfl) fun K hK => ?_; (try (refine sLe ?_; try exact True.intro)); (repeat refine aI ?_); refine hK _ ?_; clear hK K))); exact h.out) : G := f ⟨h⟩

theorem without1_ok (p : Int × Rat) (v : Int) : Pure Tryz.prog 138 [.agg (rowQ p), .ia [.int .i64 v] 0] (· = .bool (p.1 == v)) := by
  (refine pureW Tryz.func138 rfl (rs := [Go.ResultVar.tmp 3]) rfl (n := 8) rfl ?_; simp only [List.length_cons, List.length_nil, List.replicate, List.cons_append, List.nil_append])
  simp only [rowQ]
  (refine aLe ?_)
  refine W_ret ?_
  (refine qG ?_; try exact True.intro); try (refine sLeV ?_; try exact True.intro)
/-- The first place with a variable; -1: none. -/
def idxF (l : List (Int × Rat)) (v : Int) : Int :=
  match l with
  | [] => -1
  | p :: l => if p.1 = v then 0 else (let r := idxF l v; if r < 0 then -1 else r + 1)
theorem idxF_spec (v : Int) : ∀ l : List (Int × Rat), (idxF l v = -1 ∧ ∀ p ∈ l, p.1 ≠ v) ∨ (∃ i : Nat, idxF l v = i ∧ i < l.length ∧ (l.getD i default).1 = v ∧ ∀ j, j < i → (l.getD j default).1 ≠ v)
  | [] => .inl ⟨rfl, by simp⟩
  | p :: l => by
    unfold idxF
    by_cases h : p.1 = v
    · rw [if_pos h]
      exact .inr ⟨0, rfl, by simp, by simpa using h, by omega⟩
    · rw [if_neg h]
      rcases idxF_spec v l with ⟨h1, h2⟩ | ⟨i, h1, h2, h3, h4⟩
      · left
        refine ⟨by simp [h1], fun q hq => ?_⟩
        rcases List.mem_cons.1 hq with rfl | hq
        · exact h
        · exact h2 q hq
      · right
        refine ⟨i + 1, by simp only [h1]; rw [if_neg (by omega)]; omega, by simp; omega, by simpa using h3, fun j hj => ?_⟩
        cases j with
        | zero => simpa using h
        | succ j => simpa using h4 j (by omega)
theorem idx_ok (l : List (Int × Rat)) (v : Int) (hl : l.length < 1099511627776) : Pure Tryz.prog 161 [.sl (tab rowQ l), .fn (.func 138) [] [.ia [.int .i64 v] 0]] (· = .int .i64 (idxF l v)) := by
  have hsp := idxF_spec v l
  generalize idxF l v = r at *
  (refine pureW Tryz.func161 rfl (rs := [Go.ResultVar.tmp 4]) rfl (n := 19) rfl ?_; simp only [List.length_cons, List.length_nil, List.replicate, List.cons_append, List.nil_append])
  (refine aLe ?_)
  refine W_seq ?_
  ((first | refine W_seqV ?_ | refine W_seq (W_seqV ?_) | refine W_regV ?_); intro K hK; (refine sLe ?_; try exact True.intro))
  ((repeat refine aI ?_); refine hK _ ?_; clear hK K)
  refine W_block (W_loop (fun t : {t : Nat // t ≤ l.length ∧ ∀ j, j < t → (l.getD j default).1 ≠ v} =>
      ⟨[.sl (tab rowQ l), .fn (.func 138) [] [.ia [.int .i64 v] 0], .any, .any, .any, .any, .any, .int .i64 l.length, .int .i64 t.1, .any, .any, .any, .any, .any, .any, .any, .any, .any, .any], [.dead, .dead, .dead, .dead, .dead, .dead, .dead, .dead, .dead, .dead, .dead, .dead, .dead, .dead, .dead, .dead, .dead, .dead, .dead]⟩) (fun t => l.length - t.1)
      ⟨0, by omega, by omega⟩ (Le_of (by simp [leE]) (by simp)) fun t => ?_)
  obtain ⟨i, hi, hbe⟩ := t
  dsimp only
  by_cases hlt : i < l.length
  · have hXi : (tab rowQ l).getD i [] = rowQ (l.getD i default) := tab_getD hlt
    have hw := without1_ok (l.getD i default) v
    have hme : l.getD i default ∈ l := by simp [List.getD_eq_getElem?_getD, hlt]
    generalize hp : l.getD i default = p at *
    simp only [rowQ] at hXi hw
    refine W_seq ?_
    ((first | refine W_seqV ?_ | refine W_seq (W_seqV ?_) | refine W_regV ?_); intro K hK; (refine sLeX hlt ?_; try exact True.intro))
    ((repeat refine aI ?_); refine hK _ ?_; clear hK K)
    refine W_seq ?_
    (first | refine W_cond rfl (fun _ => ?_) (fun h => by cases h) | refine W_seq (W_cond rfl (fun _ => ?_) (fun h => by cases h)))
    refine W_skip ?_
    simp only [thenW]
    refine W_seq ?_
    refine W_block ?_
    ((first | refine W_seqV ?_ | refine W_seq (W_seqV ?_) | refine W_regV ?_); intro K hK; (refine sLe ?_; try exact True.intro))
    ((repeat refine aI ?_); refine hK _ ?_; clear hK K)
    by_cases hv : p.1 = v
    · have hb : (p.1 == v) = true := by simp [hv]
      rw [hb] at hw
      have hr : r = i := by
        rcases hsp with ⟨h1, h2⟩ | ⟨k, h1, h2, h3, h4⟩
        · exact absurd hv (h2 p hme)
        · rcases Nat.lt_trichotomy k i with h | h | h
          · exact absurd h3 (hbe k h)
          · rw [h1, h]
          · exact absurd (by rw [hp]; exact hv) (h4 i h)
      subst hr
      ((first | refine W_seqV ?_ | refine W_seq (W_seqV ?_) | refine W_regV ?_); intro K hK; (refine sLeX (And.intro hXi hlt) ?_; try exact True.intro))
      ((repeat refine aI ?_); refine ⟨by kernel_rfl, rfl, _, hw, ?_⟩; (try (refine sLe ?_; try exact True.intro)); (repeat refine aI ?_))
      ((repeat refine aI ?_); refine hK _ ?_; clear hK K)
      (first | refine W_cond rfl (fun _ => ?_) (fun h => by cases h) | refine W_seq (W_cond rfl (fun _ => ?_) (fun h => by cases h)))
      ((first | refine W_seqV ?_ | refine W_seq (W_seqV ?_) | refine W_regV ?_); intro K hK; (refine sLe ?_; try exact True.intro))
      ((repeat refine aI ?_); refine hK _ ?_; clear hK K)
      refine W_ret ?_
      (refine qG ?_; try exact True.intro)
    · have hb : (p.1 == v) = false := by simp [hv]
      rw [hb] at hw
      ((first | refine W_seqV ?_ | refine W_seq (W_seqV ?_) | refine W_regV ?_); intro K hK; (refine sLeX (And.intro hXi hlt) ?_; try exact True.intro))
      ((repeat refine aI ?_); refine ⟨by kernel_rfl, rfl, _, hw, ?_⟩; (try (refine sLe ?_; try exact True.intro)); (repeat refine aI ?_))
      ((repeat refine aI ?_); refine hK _ ?_; clear hK K)
      (first | refine W_cond rfl (fun h => by cases h) (fun _ => ?_) | refine W_seq (W_cond rfl (fun h => by cases h) (fun _ => ?_)))
      refine W_skip ?_
      simp only [blockW, thenW]
      ((first | refine W_seqV ?_ | refine W_seq (W_seqV ?_) | refine W_regV ?_); intro K hK; (refine sLe ?_; try exact True.intro))
      ((repeat refine aI ?_); refine hK _ ?_; clear hK K)
      simp only [blockW, thenW]
      refine ⟨⟨i + 1, by omega, fun j hj => ?_⟩, Le_drop (by simp [leE]) (by simp [leH]) rfl rfl, ?_⟩
      · rcases Nat.lt_or_ge j i with h | h
        · exact hbe j h
        · rw [show j = i by omega, hp]; exact hv
      · dsimp only
        omega
  · obtain rfl : i = l.length := by omega
    have hr : r = -1 := by
      rcases hsp with ⟨h1, h2⟩ | ⟨k, h1, h2, h3, h4⟩
      · exact h1
      · exact absurd h3 (hbe k h2)
    subst hr
    refine W_seq ?_
    ((first | refine W_seqV ?_ | refine W_seq (W_seqV ?_) | refine W_regV ?_); intro K hK; (refine sLe ?_; try exact True.intro))
    ((repeat refine aI ?_); refine hK _ ?_; clear hK K)
    refine W_seq ?_
    (first | refine W_cond rfl (fun h => by cases h) (fun _ => ?_) | refine W_seq (W_cond rfl (fun h => by cases h) (fun _ => ?_)))
    refine W_exit ?_
    simp only [thenW, blockW, if_true]
    ((first | refine W_seqV ?_ | refine W_seq (W_seqV ?_) | refine W_regV ?_); intro K hK; (refine sLe ?_; try exact True.intro))
    ((repeat refine aI ?_); refine hK _ ?_; clear hK K)
    refine W_ret ?_
    (refine qG ?_; try exact True.intro)
/-- A list without a variable's parts. -/
def delF (l : List (Int × Rat)) (v : Int) : List (Int × Rat) := l.filter fun p => !(p.1 == v)
theorem delF_take {l : List (Int × Rat)} {v : Int} {i : Nat} (h : i < l.length) : delF (l.take (i + 1)) v = delF (l.take i) v ++ if (l.getD i default).1 = v then [] else [l.getD i default] := by
  unfold delF
  rw [List.take_succ_eq_append_getElem h, List.filter_append]
  have : l.getD i default = l[i] := by simp [List.getD_eq_getElem?_getD, h]
  rw [this]
  by_cases hv : l[i].1 = v
  · have hb : (l[i].1 == v) = true := by simp [hv]
    simp [List.filter, hv]
  · have hb : (l[i].1 == v) = false := by simp [hv]
    rw [List.filter_cons_of_pos (by simp [hb]), if_neg hv]
    simp
theorem delF_len (l : List (Int × Rat)) (v : Int) : (delF l v).length ≤ l.length := List.length_filter_le _ _
theorem delF_none {l : List (Int × Rat)} {v : Int} (h : ∀ p ∈ l, p.1 ≠ v) : delF l v = l := by
  unfold delF
  rw [List.filter_eq_self]
  intro p hp
  simp [h p hp]
theorem del_ok (l : List (Int × Rat)) (v : Int) (hl : l.length < 1099511627776) :
    Mut2 Tryz.prog 137 54 4 (tab rowQ l) 0 l.length [.fn (.func 138) [] [.ia [.int .i64 v] 0]]
      (fun r rows' => r = .sref 0 0 (delF l v).length ∧ rows'.take (delF l v).length = tab rowQ (delF l v)) := by
  have hix := idx_ok l v hl
  have hsp := idxF_spec v l
  generalize idxF l v = r at *
  have hview : Pure Tryz.prog 161 (views ((List.replicate 42 Ob.dead).set 0 (.arr 54 4 true (tab rowQ l))) 3 [.sref 0 0 l.length, .fn (.func 138) [] [.ia [.int .i64 v] 0]]) (· = .int .i64 r) := by
    simp only [views, view, List.replicate, List.set, List.getD_cons_zero, List.drop_zero]
    rw [List.take_of_length_le (by simp [tab_length])]
    exact hix
  simp only [List.replicate, List.set] at hview
  (refine mut2_of_W Tryz.func137 rfl (rs := [Go.ResultVar.tmp 4]) rfl (nt := 42) rfl (by decide) ?_; simp only [List.length_cons, List.length_nil, List.replicate, List.cons_append, List.nil_append, List.set, AV.datas, AV.data])
  (refine aLe ?_)
  ((first | refine W_seqR ?_ | refine W_seq (W_seqR ?_)); intro K hK; (refine sLe ?_; try exact True.intro))
  (refine ⟨by kernel_rfl, call_flat (hview) fun r hr => ⟨by subst hr; rfl, ?_⟩⟩; subst hr; (refine sLe ?_; try exact True.intro))
  ((repeat refine aI ?_); refine hK _ ?_; clear hK K)
  clear hview hix
  rcases hsp with ⟨h1, h2⟩ | ⟨i, h1, h2, h3, h4⟩
  · subst h1
    have hz : ((-1 : Int) == -1) = true := rfl
    have hd := delF_none h2
    refine W_seq ?_
    ((first | refine W_seqV ?_ | refine W_seq (W_seqV ?_) | refine W_regV ?_); intro K hK; (refine sLeX hz ?_; try exact True.intro))
    ((repeat refine aI ?_); refine hK _ ?_; clear hK K)
    (first | refine W_cond rfl (fun _ => ?_) (fun h => by cases h) | refine W_seq (W_cond rfl (fun _ => ?_) (fun h => by cases h)))
    ((first | refine W_seqV ?_ | refine W_seq (W_seqV ?_) | refine W_regV ?_); intro K hK; (refine sLe ?_; try exact True.intro))
    ((repeat refine aI ?_); refine hK _ ?_; clear hK K)
    refine W_ret ?_
    (refine qG ?_; try exact True.intro)
    rw [hd]
    exact ⟨tab rowQ l, rfl, .inr ⟨0, l.length, rfl⟩, rfl, List.take_of_length_le (by simp [tab_length])⟩
  · subst h1
    have hz : ((i : Int) == -1) = false := by rw [beq_eq_false_iff_ne]; omega
    have hd0 : delF (l.take (i + 1)) v = l.take i := by
      rw [delF_take h2, if_pos h3, List.append_nil]
      refine delF_none fun p hp => ?_
      obtain ⟨j, hj, rfl⟩ := List.mem_iff_getElem.1 hp
      have hjl : j < i := by simp at hj; omega
      have := h4 j hjl
      simpa [List.getD_eq_getElem?_getD, show j < l.length by omega] using this
    refine W_seq ?_
    ((first | refine W_seqV ?_ | refine W_seq (W_seqV ?_) | refine W_regV ?_); intro K hK; (refine sLeX hz ?_; try exact True.intro))
    ((repeat refine aI ?_); refine hK _ ?_; clear hK K)
    (first | refine W_cond rfl (fun h => by cases h) (fun _ => ?_) | refine W_seq (W_cond rfl (fun h => by cases h) (fun _ => ?_)))
    refine W_skip ?_
    simp only [thenW]
    refine W_seq ?_
    ((first | refine W_seqV ?_ | refine W_seq (W_seqV ?_) | refine W_regV ?_); intro K hK; (refine sLe ?_; try exact True.intro))
    ((repeat refine aI ?_); refine hK _ ?_; clear hK K)
    refine W_block (W_loop (fun t : {t : Nat × List (Int × Rat) // t.1 ≤ l.length ∧ t.2.length = l.length ∧ t.2.take (delF (l.take t.1) v).length = delF (l.take t.1) v ∧ t.2.drop t.1 = l.drop t.1 ∧ (delF (l.take t.1) v).length ≤ t.1} =>
      ⟨[.sref 0 0 l.length, .fn (.func 138) [] [.ia [.int .i64 v] 0], .any, .any, .any, .int .i64 (delF (l.take t.1.1) v).length, .int .i64 t.1.1, .any, .any, .any, .any, .any, .any, .any, .any, .any, .any, .any, .any, .any, .any, .any, .any, .any, .any, .any, .any, .any, .any, .any, .any, .any, .any, .any, .any, .any, .any, .any, .any, .any, .any, .any], [.arr 54 4 true (tab rowQ t.1.2), .dead, .dead, .dead, .dead, .dead, .dead, .dead, .dead, .dead, .dead, .dead, .dead, .dead, .dead, .dead, .dead, .dead, .dead, .dead, .dead, .dead, .dead, .dead, .dead, .dead, .dead, .dead, .dead, .dead, .dead, .dead, .dead, .dead, .dead, .dead, .dead, .dead, .dead, .dead, .dead, .dead]⟩) (fun t => l.length - t.1.1)
      ⟨(i + 1, l), by dsimp only; omega, rfl, by dsimp only; rw [hd0]; simp, rfl, by dsimp only; rw [hd0]; simp; omega⟩ (Le_of (by simp [leE, hd0]; omega) (by simp)) fun t => ?_)
    obtain ⟨⟨j, c⟩, hj, hcl, hct, hcd, hkj⟩ := t
    replace hj : j ≤ l.length := hj
    replace hcl : c.length = l.length := hcl
    replace hct : c.take (delF (l.take j) v).length = delF (l.take j) v := hct
    replace hcd : c.drop j = l.drop j := hcd
    replace hkj : (delF (l.take j) v).length ≤ j := hkj
    dsimp only
    by_cases hlt : j < l.length
    · have hdt := delF_take (v := v) hlt
      generalize hk : delF (l.take j) v = D at *
      have hcj : c.getD j default = l.getD j default := by
        have e1 : (c.drop j)[0]? = (l.drop j)[0]? := by rw [hcd]
        simpa [List.getD_eq_getElem?_getD] using congrArg (fun o => o.getD default) e1
      have hXi : (tab rowQ c).getD j [] = rowQ (c.getD j default) := tab_getD (by omega)
      rw [hcj] at hXi
      have hw := without1_ok (l.getD j default) v
      have hcs : ∀ x : Int × Rat, (tab rowQ c).set D.length (rowQ x) = tab rowQ (c.set D.length x) := fun x => tab_set c D.length x
      generalize l.getD j default = p at *
      have hcs1 := hcs p
      simp only [rowQ] at hXi hw hcs1
      have h5 : (j : Int) < (l.length : Int) := by omega
      have h6 : (D.length : Int) < (l.length : Int) := by omega
      have h7 : D.length < (tab rowQ c).length := by rw [tab_length]; omega
      refine W_seq ?_
      ((first | refine W_seqV ?_ | refine W_seq (W_seqV ?_) | refine W_regV ?_); intro K hK; (refine sLeX h5 ?_; try exact True.intro))
      ((repeat refine aI ?_); refine hK _ ?_; clear hK K)
      (first | refine W_cond rfl (fun _ => ?_) (fun h => by cases h) | refine W_seq (W_cond rfl (fun _ => ?_) (fun h => by cases h)))
      refine W_skip ?_
      simp only [thenW]
      refine W_seq ?_
      refine W_block ?_
      ((first | refine W_seqV ?_ | refine W_seq (W_seqV ?_) | refine W_regV ?_); intro K hK; (refine sLeX (And.intro hXi h5) ?_; try exact True.intro))
      ((repeat refine aI ?_); refine hK _ ?_; clear hK K)
      have hYk : (tab rowQ c).getD D.length [] = rowQ (c.getD D.length default) := tab_getD (by omega)
      generalize c.getD D.length default = y at *
      simp only [rowQ] at hYk
      by_cases hv : p.1 = v
      · have hb : (p.1 == v) = true := by simp [hv]
        rw [hb] at hw
        rw [if_pos hv, List.append_nil] at hdt
        ((first | refine W_seqV ?_ | refine W_seq (W_seqV ?_) | refine W_regV ?_); intro K hK; (refine sLe ?_; try exact True.intro))
        ((repeat refine aI ?_); refine ⟨by kernel_rfl, rfl, _, hw, ?_⟩; (try (refine sLe ?_; try exact True.intro)); (repeat refine aI ?_))
        ((repeat refine aI ?_); refine hK _ ?_; clear hK K)
        (first | refine W_cond rfl (fun h => by cases h) (fun _ => ?_) | refine W_seq (W_cond rfl (fun h => by cases h) (fun _ => ?_)))
        refine W_skip ?_
        simp only [blockW, thenW]
        ((first | refine W_seqV ?_ | refine W_seq (W_seqV ?_) | refine W_regV ?_); intro K hK; (refine sLe ?_; try exact True.intro))
        ((repeat refine aI ?_); refine hK _ ?_; clear hK K)
        simp only [blockW, thenW]
        have hdn : c.drop (j + 1) = l.drop (j + 1) := by rw [← List.drop_drop, hcd, List.drop_drop]
        refine ⟨⟨(j + 1, c), by dsimp only; omega, hcl, by dsimp only; rw [hdt]; exact hct, hdn, by dsimp only; rw [hdt]; omega⟩, Le_drop (by simp [leE, hdt]) (by simp [leH]) rfl rfl, ?_⟩
        dsimp only
        omega
      · have hb : (p.1 == v) = false := by simp [hv]
        rw [hb] at hw
        rw [if_neg hv] at hdt
        ((first | refine W_seqV ?_ | refine W_seq (W_seqV ?_) | refine W_regV ?_); intro K hK; (refine sLe ?_; try exact True.intro))
        ((repeat refine aI ?_); refine ⟨by kernel_rfl, rfl, _, hw, ?_⟩; (try (refine sLe ?_; try exact True.intro)); (repeat refine aI ?_))
        ((repeat refine aI ?_); refine hK _ ?_; clear hK K)
        (first | refine W_cond rfl (fun _ => ?_) (fun h => by cases h) | refine W_seq (W_cond rfl (fun _ => ?_) (fun h => by cases h)))
        refine W_seq ?_
        ((first | refine W_seqV ?_ | refine W_seq (W_seqV ?_) | refine W_regV ?_); intro K hK; (refine sLeX (And.intro hYk (And.intro h6 (And.intro h7 hcs1))) ?_; try exact True.intro))
        ((repeat refine aI ?_); refine hK _ ?_; clear hK K)
        simp only [thenW]
        ((first | refine W_seqV ?_ | refine W_seq (W_seqV ?_) | refine W_regV ?_); intro K hK; (refine sLe ?_; try exact True.intro))
        ((repeat refine aI ?_); refine hK _ ?_; clear hK K)
        simp only [blockW, thenW]
        ((first | refine W_seqV ?_ | refine W_seq (W_seqV ?_) | refine W_regV ?_); intro K hK; (refine sLe ?_; try exact True.intro))
        ((repeat refine aI ?_); refine hK _ ?_; clear hK K)
        simp only [blockW, thenW]
        have hln : (delF (l.take (j + 1)) v).length = D.length + 1 := by rw [hdt]; simp
        have hdn : (c.set D.length p).drop (j + 1) = l.drop (j + 1) := by
          rw [List.drop_set_of_lt (by omega), ← List.drop_drop, hcd, List.drop_drop]
        have htk : (c.set D.length p).take (D.length + 1) = D ++ [p] := by
          rw [List.take_succ_eq_append_getElem (by simp; omega), List.take_set_of_le (Nat.le_refl _), hct]
          simp
        refine ⟨⟨(j + 1, c.set D.length p), by dsimp only; omega, by simp [hcl], by dsimp only; rw [hln, hdt]; exact htk, hdn, by dsimp only; rw [hln]; omega⟩, Le_drop (by simp [leE, hln]) (by simp [leH]) rfl rfl, ?_⟩
        dsimp only
        omega
    · obtain rfl : j = l.length := by omega
      rw [List.take_length] at hct hkj ⊢
      generalize delF l v = D at *
      have h5 : (D.length : Int) ≤ (l.length : Int) := by omega
      have h6 : D.length + (l.length - D.length) ≤ (tab rowQ c).length := by rw [tab_length]; omega
      refine W_seq ?_
      ((first | refine W_seqV ?_ | refine W_seq (W_seqV ?_) | refine W_regV ?_); intro K hK; (refine sLe ?_; try exact True.intro))
      ((repeat refine aI ?_); refine hK _ ?_; clear hK K)
      (first | refine W_cond rfl (fun h => by cases h) (fun _ => ?_) | refine W_seq (W_cond rfl (fun h => by cases h) (fun _ => ?_)))
      refine W_exit ?_
      simp only [thenW, blockW, if_true]
      ((first | refine W_seqR ?_ | refine W_seq (W_seqR ?_) | refine W_regR ?_); intro K hK; (refine sLeX (And.intro h5 h6) ?_; try exact True.intro))
      refine ⟨Nat.le_refl _, by omega, ?_⟩
      refine hK _ ?_
      clear hK K
      rw [hct]
      generalize c.drop (D.length + (l.length - D.length)) = rest
      generalize List.replicate (l.length - D.length) [AV.int .i64 0, .bool false, .nils, .nils] = zs
      ((first | refine W_seqV ?_ | refine W_seq (W_seqV ?_) | refine W_regV ?_); intro K hK; (refine sLeX h5 ?_; try exact True.intro))
      ((repeat refine aI ?_); refine hK _ ?_; clear hK K)
      refine W_ret ?_
      (refine qG ?_; try exact True.intro)
      refine ⟨_, rfl, .inr ⟨0, D.length, by simp⟩, by simp, ?_⟩
      rw [List.append_assoc, List.take_append_of_le_length (by rw [tab_length]; omega), List.take_of_length_le (by rw [tab_length]; omega)]
theorem lwithout_ok (f : List (Int × RR)) (v : Int) {B : Nat} (h : FOk f B) (hB : B < 17179869184) : Pure Tryz.prog 97 [cF f, .int .i64 v] (· = cL (delF (normF (vals f)) v)) := by
  have hn := lnorm_new f h hB
  have hl := len_norm (vals f)
  rw [vals_length] at hl
  have hfl := h.len
  have hd := del_ok (normF (vals f)) v (by omega)
  generalize normF (vals f) = l at *
  simp only [cF, cL] at hn ⊢
  (refine pureW Tryz.func97 rfl (rs := [Go.ResultVar.tmp 4]) rfl (n := 9) rfl ?_; simp only [List.length_cons, List.length_nil, List.replicate, List.cons_append, List.nil_append])
  (refine aLe ?_)
  refine W.le ?_ (Le_freeze 3 (rows := [[.int .i64 v]]) rfl (by simp) (.inr (fun r hr => by simp at hr; subst hr; rfl)))
  simp only [St.freeze, List.map_cons, List.map_nil, List.set, if_true, if_false, Nat.reduceEqDiff, reduceCtorEq, List.getD_cons_zero, froz_any, froz_und, froz_int, froz_bool, froz_str, froz_nils, froz_sl, froz_ia, froz_nilp, froz_nilif, froz_nilfn, froz_nilmp, froz_gl, froz_sref, froz_ptr, froz_agg, froz_tup, froz_fn, froz_ifc, frozs_nil, frozs_cons, froz_dead, froz_arr]
  ((first | refine W_seqR ?_ | refine W_seq (W_seqR ?_)); intro K hK; (refine sLe ?_; try exact True.intro))
  refine ⟨by kernel_rfl, ?_⟩
  refine call_new 6 rfl rfl hn fun rows hr => ?_
  subst hr
  (refine sLe ?_; try exact True.intro)
  refine ⟨by kernel_rfl, ?_⟩
  refine call_mut2C hd rfl rfl fun r rows' hr => ?_
  obtain ⟨rfl, hr⟩ := hr
  (refine sLe ?_; try exact True.intro)
  ((repeat refine aI ?_); refine hK _ ?_; clear hK K)
  refine W_ret ?_
  (refine qG ?_; try exact True.intro)
  rw [hr]
end Go.Proofs.YtjkjapjcmbfkgaaGreat.Vm

/-
  Rationals: Neg, Abs.
-/
namespace Go.Proofs.YtjkjapjcmbfkgaaGreat.Vm
open Go Go.RowKit
set_option maxRecDepth 100000
set_option linter.unusedVariables false
set_option linter.unusedSimpArgs false
theorem sLh {G G' : Prop} (h : G') (e : G = G' := by conv => lhs; simp (disch := omega) only [rowsOf, cNat, cN, St.ret, St.seth, Eff.app, Eff.wi, sepL, guardOf, St.known, objOf, List.set, sliceW, litW, copyW, lenOf, bnd, mxOk, ofCells, TI.isAgg, cellsOf, storable, AV.one, dead, laid, overlay, reduceCtorEq, Int.reduceLE, Int.reduceLT, Int.reduceSub, Int.reduceAdd, Nat.reduceMul, Int.reduceToNat, Nat.reducePow, Int.reduceNeg, Nat.reduceAdd, Nat.reduceLT, Nat.reduceLeDiff, sA, sB, cI, cZ, cQ, sT]) : G := e.mpr h
theorem sLhX {G G' P : Prop} (p : P) (h : G') (e : P → G = G' := by intro p; conv => lhs; simp (disch := omega) only [rowsOf, cNat, cN, St.ret, St.seth, Eff.app, Eff.wi, sepL, guardOf, St.known, objOf, List.set, sliceW, litW, copyW, lenOf, bnd, mxOk, ofCells, TI.isAgg, cellsOf, storable, AV.one, dead, laid, overlay, reduceCtorEq, Int.reduceLE, Int.reduceLT, Int.reduceSub, Int.reduceAdd, Nat.reduceMul, Int.reduceToNat, Nat.reducePow, Int.reduceNeg, Nat.reduceAdd, Nat.reduceLT, Nat.reduceLeDiff, sA, sB, cI, cZ, cQ, sT, p]) : G := (e p).mpr h
theorem sLhV {G G' : Prop} (h : G') (e : G = G' := by conv => lhs; simp (disch := omega) only [rowsOf, cNat, cN, St.ret, St.seth, Eff.app, Eff.wi, sepL, guardOf, St.known, objOf, List.set, sliceW, litW, copyW, lenOf, bnd, mxOk, ofCells, TI.isAgg, cellsOf, storable, AV.one, dead, laid, overlay, reduceCtorEq, Int.reduceLE, Int.reduceLT, Int.reduceSub, Int.reduceAdd, Nat.reduceMul, Int.reduceToNat, Nat.reducePow, Int.reduceNeg, Nat.reduceAdd, Nat.reduceLT, Nat.reduceLeDiff, sA, sB, cI, cZ, cQ, sT, view_sref, viewRef, view_agg, views_cons, views_nil, view_bool, view_int, view_sl, view_nils, view_str, view_tup, view_nilif]) : G := e.mpr h
theorem aLh {G G' : Prop} (h : G') (f : Wr G' → G := by intro h; (repeat (first | (refine W_seqV fun K hK => ?_; (try (refine sLh ?_; try exact True.intro)); (repeat refine aI ?_); refine hK _ ?_; clear hK K) | (refine W_seqR fun K hK => ?_; (try (refine sLh ?_; try exact True.intro)); (repeat refine aI ?_); refine hK _ ?_; clear hK K) | (refine W_seqD mixed [] (by kernel_rfl) fun K hK => ?_; (try (refine sLh ?_; try exact True.intro)); (repeat refine aI ?_); refine hK _ ?_; clear hK K))); exact h.out) : G := f ⟨h⟩

theorem rneg_ok (r : RR) (hr : r.ok) : Pure Tryz.prog 96 [r.av] (· = cQ (-r.v)) := by
  have hn := rnorm_ok r hr
  have ho := v_ok hr
  have hw := wneg_ok (decide (r.v.num < 0)) (limbs r.v.num.natAbs) (limbs_limbs _) (Nat.lt_trans ho.nl (by decide))
  rw [q_num] at hw
  obtain ⟨neg, n, d⟩ := r
  simp only [RR.av] at *
  generalize RR.v _ = q at *
  have hq : cQ (-q) = .agg [.bool (decide (-q.num < 0)), .sl (u32s (limbs (-q.num).natAbs)), .sl (u32s (limbs q.den))] := by
    simp only [cQ, Rat.neg_num, Rat.neg_den]
  rw [hq]
  simp only [cQ, cZ, cI] at *
  generalize -q.num = m at *
  (refine pureW Tryz.func96 rfl (rs := [Go.ResultVar.cell 2 29]) rfl (n := 11) rfl ?_; simp only [List.length_cons, List.length_nil, List.replicate, List.cons_append, List.nil_append])
  (refine aLh ?_)
  ((first | refine W_seqV ?_ | refine W_seq (W_seqV ?_) | refine W_regV ?_); intro K hK; (refine sLh ?_; try exact True.intro))
  ((repeat refine aI ?_); refine ⟨by kernel_rfl, rfl, _, hn, ?_⟩; (try (refine sLh ?_; try exact True.intro)); (repeat refine aI ?_))
  ((repeat refine aI ?_); refine hK _ ?_; clear hK K)
  ((first | refine W_seqD mixed [] (by kernel_rfl) ?_ | refine W_seq (W_seqD mixed [] (by kernel_rfl) ?_) | refine W_regD mixed [] (by kernel_rfl) ?_); intro K hK; (refine sLh ?_; try exact True.intro))
  ((repeat refine aI ?_); refine ⟨by kernel_rfl, rfl, _, hw, ?_⟩; (try (refine sLh ?_; try exact True.intro)); (repeat refine aI ?_))
  ((repeat refine aI ?_); refine hK _ ?_; clear hK K)
  refine W_ret ?_
  (refine qG ?_; try exact True.intro); try (refine sLhV ?_; try exact True.intro)
theorem rabs_ok (r : RR) (hr : r.ok) : Pure Tryz.prog 101 [r.av] (· = cQ (absQ r.v)) := by
  have h1 := rsign_ok r hr
  have h2 := rneg_ok r hr
  have h3 := rnorm_ok r hr
  change Pure _ _ _ (· = .int .i64 (rs r.v)) at h1
  have h4 : decide (rs r.v < 0) = decide (r.v < 0) := by rw [decide_eq_decide]; exact rs_neg
  obtain ⟨neg, n, d⟩ := r
  simp only [RR.av] at *
  generalize RR.v _ = q at *
  unfold absQ
  by_cases h0 : q < 0
  · rw [if_pos h0]
    have h5 : decide (rs q < 0) = true := h4.trans (by simp [h0])
    generalize -q = p at *
    simp only [cQ] at *
    (refine pureW Tryz.func101 rfl (rs := [Go.ResultVar.cell 2 29]) rfl (n := 10) rfl ?_; simp only [List.length_cons, List.length_nil, List.replicate, List.cons_append, List.nil_append])
    (refine aLh ?_)
    refine W_seq ?_
    ((first | refine W_seqV ?_ | refine W_seq (W_seqV ?_) | refine W_regV ?_); intro K hK; (refine sLhX h5 ?_; try exact True.intro))
    ((repeat refine aI ?_); refine ⟨by kernel_rfl, rfl, _, h1, ?_⟩; (try (refine sLh ?_; try exact True.intro)); (repeat refine aI ?_))
    rw [h5]
    ((repeat refine aI ?_); refine hK _ ?_; clear hK K)
    (first | refine W_cond rfl (fun _ => ?_) (fun h => by cases h) | refine W_seq (W_cond rfl (fun _ => ?_) (fun h => by cases h)))
    ((first | refine W_seqV ?_ | refine W_seq (W_seqV ?_) | refine W_regV ?_); intro K hK; (refine sLh ?_; try exact True.intro))
    ((repeat refine aI ?_); refine ⟨by kernel_rfl, rfl, _, h2, ?_⟩; (try (refine sLh ?_; try exact True.intro)); (repeat refine aI ?_))
    ((repeat refine aI ?_); refine hK _ ?_; clear hK K)
    refine W_ret ?_
    (refine qG ?_; try exact True.intro); try (refine sLhV ?_; try exact True.intro)
  · rw [if_neg h0]
    have h5 : decide (rs q < 0) = false := h4.trans (by simp [h0])
    simp only [cQ] at *
    (refine pureW Tryz.func101 rfl (rs := [Go.ResultVar.cell 2 29]) rfl (n := 10) rfl ?_; simp only [List.length_cons, List.length_nil, List.replicate, List.cons_append, List.nil_append])
    (refine aLh ?_)
    refine W_seq ?_
    ((first | refine W_seqV ?_ | refine W_seq (W_seqV ?_) | refine W_regV ?_); intro K hK; (refine sLhX h5 ?_; try exact True.intro))
    ((repeat refine aI ?_); refine ⟨by kernel_rfl, rfl, _, h1, ?_⟩; (try (refine sLh ?_; try exact True.intro)); (repeat refine aI ?_))
    rw [h5]
    ((repeat refine aI ?_); refine hK _ ?_; clear hK K)
    (first | refine W_cond rfl (fun h => by cases h) (fun _ => ?_) | refine W_seq (W_cond rfl (fun h => by cases h) (fun _ => ?_)))
    refine W_skip ?_
    simp only [thenW]
    ((first | refine W_seqV ?_ | refine W_seq (W_seqV ?_) | refine W_regV ?_); intro K hK; (refine sLh ?_; try exact True.intro))
    ((repeat refine aI ?_); refine ⟨by kernel_rfl, rfl, _, h3, ?_⟩; (try (refine sLh ?_; try exact True.intro)); (repeat refine aI ?_))
    ((repeat refine aI ?_); refine hK _ ?_; clear hK K)
    refine W_ret ?_
    (refine qG ?_; try exact True.intro); try (refine sLhV ?_; try exact True.intro)
end Go.Proofs.YtjkjapjcmbfkgaaGreat.Vm

/-
  Forms: plus, Solve.
-/
namespace Go.Proofs.YtjkjapjcmbfkgaaGreat.Vm
open Go Go.RowKit
set_option maxRecDepth 100000
set_option linter.unusedVariables false
set_option linter.unusedSimpArgs false
theorem sLf {G G' : Prop} (h : G') (e : G = G' := by conv => lhs; simp (disch := omega) only [rowsOf, cNat, cN, St.ret, St.seth, Eff.app, Eff.wi, sepL, guardOf, St.known, objOf, List.set, sliceW, litW, copyW, lenOf, bnd, mxOk, ofCells, TI.isAgg, cellsOf, storable, AV.one, dead, laid, overlay, reduceCtorEq, Int.reduceLE, Int.reduceLT, Int.reduceSub, Int.reduceAdd, Nat.reduceMul, Int.reduceToNat, Nat.reducePow, Int.reduceNeg, Nat.reduceAdd, Nat.reduceLT, Nat.reduceLeDiff, sA, sB, cQ, rowQ, rowM, tab_length, List.take_length, List.length_append, tab_drop, tab_take, tab_append, tab_nil, rowQ_all, rowQ_one, rowQ_pure, rowM_all, rowM_one, rowM_pure, sT]) : G := e.mpr h
theorem sLfX {G G' P : Prop} (p : P) (h : G') (e : P → G = G' := by intro p; conv => lhs; simp (disch := omega) only [rowsOf, cNat, cN, St.ret, St.seth, Eff.app, Eff.wi, sepL, guardOf, St.known, objOf, List.set, sliceW, litW, copyW, lenOf, bnd, mxOk, ofCells, TI.isAgg, cellsOf, storable, AV.one, dead, laid, overlay, reduceCtorEq, Int.reduceLE, Int.reduceLT, Int.reduceSub, Int.reduceAdd, Nat.reduceMul, Int.reduceToNat, Nat.reducePow, Int.reduceNeg, Nat.reduceAdd, Nat.reduceLT, Nat.reduceLeDiff, sA, sB, cQ, rowQ, rowM, tab_length, List.take_length, List.length_append, tab_drop, tab_take, tab_append, tab_nil, rowQ_all, rowQ_one, rowQ_pure, rowM_all, rowM_one, rowM_pure, sT, p]) : G := (e p).mpr h
theorem sLfV {G G' : Prop} (h : G') (e : G = G' := by conv => lhs; simp (disch := omega) only [rowsOf, cNat, cN, St.ret, St.seth, Eff.app, Eff.wi, sepL, guardOf, St.known, objOf, List.set, sliceW, litW, copyW, lenOf, bnd, mxOk, ofCells, TI.isAgg, cellsOf, storable, AV.one, dead, laid, overlay, reduceCtorEq, Int.reduceLE, Int.reduceLT, Int.reduceSub, Int.reduceAdd, Nat.reduceMul, Int.reduceToNat, Nat.reducePow, Int.reduceNeg, Nat.reduceAdd, Nat.reduceLT, Nat.reduceLeDiff, sA, sB, cQ, rowQ, rowM, tab_length, List.take_length, List.length_append, tab_drop, tab_take, tab_append, tab_nil, rowQ_all, rowQ_one, rowQ_pure, rowM_all, rowM_one, rowM_pure, sT, view_sref, viewRef, view_agg, views_cons, views_nil, view_bool, view_int, view_sl, view_nils, view_str, view_tup, view_nilif]) : G := e.mpr h
theorem aLf {G G' : Prop} (h : G') (f : Wr G' → G := by intro h; (repeat (first | (refine W_seqV fun K hK => ?_; (try (refine sLf ?_; try exact True.intro)); (repeat refine aI ?_); refine hK _ ?_; clear hK K) | (refine W_seqR fun K hK => ?_; (try (refine sLf ?_; try exact True.intro)); (repeat refine aI ?_); refine hK _ ?_; clear hK K) | (refine W_seqD mixed [] (by kernel_rfl) fun K hK => ?_; (try (refine sLf ?_; try exact True.intro)); (repeat refine aI ?_); refine hK _ ?_; clear hK K))); exact h.out) : G := f ⟨h⟩

/-- An affine form's cells. -/
def affM (f : List (Int × RR)) (r : RR) : List AV := [.sl (tab rowM f), .bool r.neg, .sl (u32s r.num), .sl (u32s r.den)]
def affQ (f : List (Int × Rat)) (q : Rat) : List AV := [.sl (tab rowQ f), .bool (decide (q.num < 0)), .sl (u32s (limbs q.num.natAbs)), .sl (u32s (limbs q.den))]
theorem lplus_ok (f : List (Int × RR)) (r c : RR) (g : List (Int × RR)) (s : RR) {B C : Nat} (hf : FOk f B) (hg : FOk g C) (hr : r.ok) (hc : c.ok) (hs : s.ok) (h1 : B + (nb c.v + C) < 8589934592) (h2 : nb c.v + nb s.v < 17179869184) :
    Pure Tryz.prog 95 [.agg (affM f r), c.av, .agg (affM g s)] (· = .agg (affQ (normF (vals f ++ if c.v = 0 then [] else scaleF c.v (normF (vals g)))) (r.v + c.v * s.v))) := by
  have a1 := lscale_ok c g hc hg (by omega)
  have hsz : Sz (if c.v = 0 then [] else scaleF c.v (normF (vals g))) (nb c.v + C) := by
    split
    · exact ⟨fun v => by simp [nbv], by simp⟩
    · exact Sz.scale (NF.norm _) hg.sz.norm c.v
  have a2 := ladd_ok f (rf (if c.v = 0 then [] else scaleF c.v (normF (vals g)))) hf (FOk.rf hsz (by omega)) (by omega)
  rw [vals_rf, cF_rf] at a2
  have a3 := rmul_ok c s hc hs
  have a4 := radd_ok r (qr (c.v * s.v)) hr (qr_ok (by have := nb_mul c.v s.v; omega))
  rw [qr_v, qr_av] at a4
  generalize normF (vals f ++ _) = R at *
  generalize (if c.v = 0 then [] else _) = G at *
  generalize r.v + c.v * s.v = p at *
  generalize c.v * s.v = q at *
  obtain ⟨rn, rm, rd⟩ := r
  obtain ⟨cn, cm, cd⟩ := c
  obtain ⟨sn, sm, sd⟩ := s
  unfold affM affQ
  simp only [RR.av, cF, cL, cQ] at *
  (refine pureW Tryz.func95 rfl (rs := [Go.ResultVar.cell 6 103]) rfl (n := 22) rfl ?_; simp only [List.length_cons, List.length_nil, List.replicate, List.cons_append, List.nil_append])
  (refine aLf ?_)
  ((first | refine W_seqD mixed [] (by kernel_rfl) ?_ | refine W_seq (W_seqD mixed [] (by kernel_rfl) ?_) | refine W_regD mixed [] (by kernel_rfl) ?_); intro K hK; (refine sLf ?_; try exact True.intro))
  ((repeat refine aI ?_); refine ⟨by kernel_rfl, rfl, _, a1, ?_⟩; (try (refine sLf ?_; try exact True.intro)); (repeat refine aI ?_))
  ((repeat refine aI ?_); refine ⟨by kernel_rfl, rfl, _, a2, ?_⟩; (try (refine sLf ?_; try exact True.intro)); (repeat refine aI ?_))
  ((repeat refine aI ?_); refine ⟨by kernel_rfl, rfl, _, a3, ?_⟩; (try (refine sLf ?_; try exact True.intro)); (repeat refine aI ?_))
  ((repeat refine aI ?_); refine ⟨by kernel_rfl, rfl, _, a4, ?_⟩; (try (refine sLf ?_; try exact True.intro)); (repeat refine aI ?_))
  ((repeat refine aI ?_); refine hK _ ?_; clear hK K)
  refine W_ret ?_
  (refine qG ?_; try exact True.intro); try (refine sLfV ?_; try exact True.intro)
theorem norm_nil_del (l : List (Int × Rat)) (v : Int) (c : Rat) (h : NF l) : normF (([] : List (Int × Rat)) ++ if c = 0 then [] else scaleF c (normF (delF l v))) = if c = 0 then [] else scaleF c (delF l v) := by
  have hd : NF (delF l v) := ⟨h.lt.filter _, fun p hp => h.nz p (List.mem_filter.1 hp).1⟩
  rw [List.nil_append, norm_self hd]
  split
  · rfl
  · rename_i h0; exact norm_self (hd.scale h0)
theorem delF_sz {l : List (Int × Rat)} {B : Nat} (h : Sz l B) (v : Int) : Sz (delF l v) B := by
  refine ⟨fun w => ?_, Nat.le_trans (delF_len l v) h.l⟩
  refine Nat.le_trans ?_ (h.b w)
  unfold delF
  induction l with
  | nil => exact Nat.le_refl _
  | cons p l ih =>
    have ih := ih ⟨fun w => by have := h.b w; simp only [nbv] at this; omega, by have := h.l; simp at this; omega⟩
    rw [List.filter_cons]
    split
    · simp only [nbv]; omega
    · simp only [nbv]; omega
theorem lsolve_ok (f : List (Int × RR)) (v : Int) {B : Nat} (hf : FOk f B) (hB : 4 * B < 4294967296) (h0 : coef (vals f) v ≠ 0) :
    Pure Tryz.prog 53 [.agg (affM f zeroR), .int .i64 v] (· = .tup [.agg (affQ (scaleF (-(coef (vals f) v)⁻¹) (delF (normF (vals f)) v)) 0), .int .i64 0]) := by
  have b0 := lcoef_ok f v (hf.pf (by omega)) (by omega)
  have hnc : nb (coef (vals f) v) ≤ 1 + B := (hf.pf (by omega)).coef v
  have b1 := rinv_ok (qr (coef (vals f) v)) (qr_ok (by omega))
  rw [qr_v, if_neg h0] at b1
  have b2 := rneg_ok (qr (coef (vals f) v)⁻¹) (qr_ok (by rw [nb_inv]; omega))
  rw [qr_v] at b2
  have b3 := lwithout_ok f v hf (by omega)
  have hNF := NF.norm (vals f)
  have hsz := hf.sz.norm
  have hc0 : -(coef (vals f) v)⁻¹ ≠ 0 := fun h => h0 (by
    have h1 : (coef (vals f) v)⁻¹ = 0 := by grind
    have := Rat.inv_inv (coef (vals f) v)
    rw [h1, Rat.inv_zero] at this
    exact this.symm)
  have b4 := lplus_ok [] zeroR (qr (-(coef (vals f) v)⁻¹)) (rf (delF (normF (vals f)) v)) zeroR (B := 0) (C := B) ⟨by simp, ⟨fun v => by simp [vals, nbv], by simp [vals]⟩⟩ (FOk.rf (delF_sz hsz v) (by omega)) zeroR_ok (qr_ok (by rw [nb_neg, nb_inv]; omega)) zeroR_ok (by rw [qr_v, nb_neg, nb_inv]; omega) (by rw [qr_v, nb_neg, nb_inv, zeroR_v, nb_zero]; omega)
  rw [qr_v, vals_rf, show vals [] = [] from rfl, norm_nil_del _ _ _ hNF, if_neg hc0, zeroR_v, Rat.mul_zero, Rat.add_zero] at b4
  generalize scaleF (-(coef (vals f) v)⁻¹) (delF (normF (vals f)) v) = R at *
  generalize delF (normF (vals f)) v = D at *
  generalize -(coef (vals f) v)⁻¹ = d at *
  generalize (coef (vals f) v)⁻¹ = ci at *
  generalize coef (vals f) v = c at *
  have hz : ((0 : Int) != 0) = false := rfl
  have hz0 : u32s [] = [] := rfl
  simp only [affM, affQ, zeroR, RR.av, cF, cL, cQE, qr, tab_rf, hz0] at *
  generalize (0 : Rat) = z0 at *
  simp only [cQ] at *
  have hz1 : tab rowM [] = [] := rfl
  rw [hz1] at b4
  (refine pureW Tryz.func53 rfl (rs := [Go.ResultVar.cell 4 103, Go.ResultVar.tmp 5]) rfl (n := 30) rfl ?_; simp only [List.length_cons, List.length_nil, List.replicate, List.cons_append, List.nil_append])
  (refine aLf ?_)
  ((first | refine W_seqV ?_ | refine W_seq (W_seqV ?_) | refine W_regV ?_); intro K hK; (refine sLf ?_; try exact True.intro))
  ((repeat refine aI ?_); refine ⟨by kernel_rfl, rfl, _, b0, ?_⟩; (try (refine sLf ?_; try exact True.intro)); (repeat refine aI ?_))
  ((repeat refine aI ?_); refine ⟨by kernel_rfl, rfl, _, b1, ?_⟩; (try (refine sLf ?_; try exact True.intro)); (repeat refine aI ?_))
  ((repeat refine aI ?_); refine hK _ ?_; clear hK K)
  refine W_seq ?_
  ((first | refine W_seqV ?_ | refine W_seq (W_seqV ?_) | refine W_regV ?_); intro K hK; (refine sLfX hz ?_; try exact True.intro))
  ((repeat refine aI ?_); refine hK _ ?_; clear hK K)
  (first | refine W_cond rfl (fun h => by cases h) (fun _ => ?_) | refine W_seq (W_cond rfl (fun h => by cases h) (fun _ => ?_)))
  refine W_skip ?_
  simp only [thenW]
  ((first | refine W_seqD mixed [] (by kernel_rfl) ?_ | refine W_seq (W_seqD mixed [] (by kernel_rfl) ?_) | refine W_regD mixed [] (by kernel_rfl) ?_); intro K hK; (refine sLf ?_; try exact True.intro))
  ((repeat refine aI ?_); refine ⟨by kernel_rfl, rfl, _, b2, ?_⟩; (try (refine sLf ?_; try exact True.intro)); (repeat refine aI ?_))
  ((repeat refine aI ?_); refine ⟨by kernel_rfl, rfl, _, b3, ?_⟩; (try (refine sLf ?_; try exact True.intro)); (repeat refine aI ?_))
  ((repeat refine aI ?_); refine ⟨by kernel_rfl, rfl, _, b4, ?_⟩; (try (refine sLf ?_; try exact True.intro)); (repeat refine aI ?_))
  ((repeat refine aI ?_); refine hK _ ?_; clear hK K)
  refine W_ret ?_
  (refine qG ?_; try exact True.intro); try (refine sLfV ?_; try exact True.intro)
end Go.Proofs.YtjkjapjcmbfkgaaGreat.Vm

/-
  Bounds of variables: limits, sides.
-/
namespace Go.Proofs.YtjkjapjcmbfkgaaGreat.Vm
open Go Go.RowKit
set_option maxRecDepth 100000
set_option linter.unusedVariables false
set_option linter.unusedSimpArgs false
theorem sPa {G G' : Prop} (h : G') (e : G = G' := by conv => lhs; simp (disch := omega) only [rowsOf, cNat, cN, St.ret, St.seth, Eff.app, Eff.wi, sepL, guardOf, St.known, objOf, List.set, sliceW, litW, copyW, lenOf, bnd, mxOk, ofCells, TI.isAgg, cellsOf, storable, AV.one, dead, laid, overlay, reduceCtorEq, Int.reduceLE, Int.reduceLT, Int.reduceSub, Int.reduceAdd, Nat.reduceMul, Int.reduceToNat, Nat.reducePow, Int.reduceNeg, Nat.reduceAdd, Nat.reduceLT, Nat.reduceLeDiff, sA, sB, tab_length, rowL_all, rowL_one, rowL_pure, sT]) : G := e.mpr h
theorem sPaX {G G' P : Prop} (p : P) (h : G') (e : P → G = G' := by intro p; conv => lhs; simp (disch := omega) only [rowsOf, cNat, cN, St.ret, St.seth, Eff.app, Eff.wi, sepL, guardOf, St.known, objOf, List.set, sliceW, litW, copyW, lenOf, bnd, mxOk, ofCells, TI.isAgg, cellsOf, storable, AV.one, dead, laid, overlay, reduceCtorEq, Int.reduceLE, Int.reduceLT, Int.reduceSub, Int.reduceAdd, Nat.reduceMul, Int.reduceToNat, Nat.reducePow, Int.reduceNeg, Nat.reduceAdd, Nat.reduceLT, Nat.reduceLeDiff, sA, sB, tab_length, rowL_all, rowL_one, rowL_pure, sT, p]) : G := (e p).mpr h
theorem sPaV {G G' : Prop} (h : G') (e : G = G' := by conv => lhs; simp (disch := omega) only [rowsOf, cNat, cN, St.ret, St.seth, Eff.app, Eff.wi, sepL, guardOf, St.known, objOf, List.set, sliceW, litW, copyW, lenOf, bnd, mxOk, ofCells, TI.isAgg, cellsOf, storable, AV.one, dead, laid, overlay, reduceCtorEq, Int.reduceLE, Int.reduceLT, Int.reduceSub, Int.reduceAdd, Nat.reduceMul, Int.reduceToNat, Nat.reducePow, Int.reduceNeg, Nat.reduceAdd, Nat.reduceLT, Nat.reduceLeDiff, sA, sB, tab_length, rowL_all, rowL_one, rowL_pure, sT, view_sref, viewRef, view_agg, views_cons, views_nil, view_bool, view_int, view_sl, view_nils, view_str, view_tup, view_nilif]) : G := e.mpr h
theorem aPa {G G' : Prop} (h : G') (f : Wr G' → G := by intro h; (repeat (first | (refine W_seqV fun K hK => ?_; (try (refine sPa ?_; try exact True.intro)); (repeat refine aI ?_); refine hK _ ?_; clear hK K) | (refine W_seqR fun K hK => ?_; (try (refine sPa ?_; try exact True.intro)); (repeat refine aI ?_); refine hK _ ?_; clear hK K) | (refine W_seqD mixed [] (by kernel_rfl) fun K hK => ?_; (try (refine sPa ?_; try exact True.intro)); (repeat refine aI ?_); refine hK _ ?_; clear hK K))); exact h.out) : G := f ⟨h⟩
structure BB where
  has : Bool
  at_ : DD
  why : Int
def BB.cells (b : BB) : List AV := [.bool b.has, .bool b.at_.a.neg, .sl (u32s b.at_.a.num), .sl (u32s b.at_.a.den), .bool b.at_.b.neg, .sl (u32s b.at_.b.num), .sl (u32s b.at_.b.den), .int .i64 b.why]
structure LL where
  lower : BB
  upper : BB
def LL.cells (l : LL) : List AV := [.bool l.lower.has, .bool l.lower.at_.a.neg, .sl (u32s l.lower.at_.a.num), .sl (u32s l.lower.at_.a.den), .bool l.lower.at_.b.neg, .sl (u32s l.lower.at_.b.num), .sl (u32s l.lower.at_.b.den), .int .i64 l.lower.why,
  .bool l.upper.has, .bool l.upper.at_.a.neg, .sl (u32s l.upper.at_.a.num), .sl (u32s l.upper.at_.a.den), .bool l.upper.at_.b.neg, .sl (u32s l.upper.at_.b.num), .sl (u32s l.upper.at_.b.den), .int .i64 l.upper.why]
def zeroD0 : DD := ⟨zeroR, zeroR⟩
def zeroB : BB := ⟨false, zeroD0, 0⟩
def zeroL : LL := ⟨zeroB, zeroB⟩
instance : Inhabited LL := ⟨zeroL⟩
def rowL (l : LL) : List AV := l.cells
theorem rowL_all (f : List LL) : AllLen 16 (tab rowL f) := tab_all (k := 16) (fun _ => rfl) f
theorem rowL_one (f : List LL) : AllOne (tab rowL f) := tab_one (fun _ => rfl) f
theorem rowL_pure (f : List LL) : AllPure (tab rowL f) := tab_pure (fun _ => rfl) f
def limOf (ls : List LL) (v : Int) : LL := if 0 ≤ v ∧ v < (ls.length : Int) then ls.getD v.toNat default else zeroL

theorem f10limit_ok (ls : List LL) (v : Int) : Pure Tryz.prog 22 [.sl (tab rowL ls), .int .i64 v] (· = .agg (limOf ls v).cells) := by
  unfold limOf
  by_cases h0 : 0 ≤ v
  · have h1 : ¬ v < 0 := by omega
    by_cases h2 : v < (ls.length : Int)
    · have h3 : ¬ (ls.length : Int) ≤ v := by omega
      rw [if_pos ⟨h0, h2⟩]
      have hXi : (tab rowL ls).getD v.toNat [] = rowL (ls.getD v.toNat default) := tab_getD (by omega)
      generalize ls.getD v.toNat default = l at *
      simp only [rowL, LL.cells] at hXi
      (refine pureW Tryz.func22 rfl (rs := [Go.ResultVar.cell 4 62]) rfl (n := 18) rfl ?_; simp only [List.length_cons, List.length_nil, List.replicate, List.cons_append, List.nil_append])
      (refine aPa ?_)
      refine W_seq ?_
      ((first | refine W_seqV ?_ | refine W_seq (W_seqV ?_) | refine W_regV ?_); intro K hK; (refine sPaX (And.intro h1 h3) ?_; try exact True.intro))
      ((repeat refine aI ?_); refine hK _ ?_; clear hK K)
      (first | refine W_cond rfl (fun h => by cases h) (fun _ => ?_) | refine W_seq (W_cond rfl (fun h => by cases h) (fun _ => ?_)))
      refine W_skip ?_
      simp only [thenW]
      ((first | refine W_seqV ?_ | refine W_seq (W_seqV ?_) | refine W_regV ?_); intro K hK; (refine sPaX (And.intro h0 (And.intro h2 hXi)) ?_; try exact True.intro))
      ((repeat refine aI ?_); refine hK _ ?_; clear hK K)
      refine W_ret ?_
      (refine qG ?_; try exact True.intro); try (refine sPaV ?_; try exact True.intro)
      rfl
    · have h3 : (ls.length : Int) ≤ v := by omega
      rw [if_neg (fun h => h2 h.2)]
      (refine pureW Tryz.func22 rfl (rs := [Go.ResultVar.cell 4 62]) rfl (n := 18) rfl ?_; simp only [List.length_cons, List.length_nil, List.replicate, List.cons_append, List.nil_append])
      (refine aPa ?_)
      refine W_seq ?_
      ((first | refine W_seqV ?_ | refine W_seq (W_seqV ?_) | refine W_regV ?_); intro K hK; (refine sPaX (And.intro h1 h3) ?_; try exact True.intro))
      ((repeat refine aI ?_); refine hK _ ?_; clear hK K)
      (first | refine W_cond rfl (fun _ => ?_) (fun h => by cases h) | refine W_seq (W_cond rfl (fun _ => ?_) (fun h => by cases h)))
      ((first | refine W_seqV ?_ | refine W_seq (W_seqV ?_) | refine W_regV ?_); intro K hK; (refine sPa ?_; try exact True.intro))
      ((repeat refine aI ?_); refine hK _ ?_; clear hK K)
      refine W_ret ?_
      (refine qG ?_; try exact True.intro); try (refine sPaV ?_; try exact True.intro)
      rfl
  · have h1 : v < 0 := by omega
    rw [if_neg (fun h => h0 h.1)]
    (refine pureW Tryz.func22 rfl (rs := [Go.ResultVar.cell 4 62]) rfl (n := 18) rfl ?_; simp only [List.length_cons, List.length_nil, List.replicate, List.cons_append, List.nil_append])
    (refine aPa ?_)
    refine W_seq ?_
    ((first | refine W_seqV ?_ | refine W_seq (W_seqV ?_) | refine W_regV ?_); intro K hK; (refine sPaX h1 ?_; try exact True.intro))
    ((repeat refine aI ?_); refine hK _ ?_; clear hK K)
    (first | refine W_cond rfl (fun _ => ?_) (fun h => by cases h) | refine W_seq (W_cond rfl (fun _ => ?_) (fun h => by cases h)))
    ((first | refine W_seqV ?_ | refine W_seq (W_seqV ?_) | refine W_regV ?_); intro K hK; (refine sPa ?_; try exact True.intro))
    ((repeat refine aI ?_); refine hK _ ?_; clear hK K)
    refine W_ret ?_
    (refine qG ?_; try exact True.intro); try (refine sPaV ?_; try exact True.intro)
    rfl
theorem ilimit_ok (ls : List LL) (v : Int) : Pure Tryz.prog 102 [.agg [.sl (tab rowL ls)], .int .i64 v] (· = .agg (limOf ls v).cells) := by
  unfold limOf
  by_cases h0 : 0 ≤ v
  · have h1 : ¬ v < 0 := by omega
    by_cases h2 : v < (ls.length : Int)
    · have h3 : ¬ (ls.length : Int) ≤ v := by omega
      rw [if_pos ⟨h0, h2⟩]
      have hXi : (tab rowL ls).getD v.toNat [] = rowL (ls.getD v.toNat default) := tab_getD (by omega)
      generalize ls.getD v.toNat default = l at *
      simp only [rowL, LL.cells] at hXi
      (refine pureW Tryz.func102 rfl (rs := [Go.ResultVar.cell 4 62]) rfl (n := 20) rfl ?_; simp only [List.length_cons, List.length_nil, List.replicate, List.cons_append, List.nil_append])
      (refine aPa ?_)
      refine W_seq ?_
      ((first | refine W_seqV ?_ | refine W_seq (W_seqV ?_) | refine W_regV ?_); intro K hK; (refine sPaX (And.intro h1 h3) ?_; try exact True.intro))
      ((repeat refine aI ?_); refine hK _ ?_; clear hK K)
      (first | refine W_cond rfl (fun h => by cases h) (fun _ => ?_) | refine W_seq (W_cond rfl (fun h => by cases h) (fun _ => ?_)))
      refine W_skip ?_
      simp only [thenW]
      ((first | refine W_seqV ?_ | refine W_seq (W_seqV ?_) | refine W_regV ?_); intro K hK; (refine sPaX (And.intro h0 (And.intro h2 hXi)) ?_; try exact True.intro))
      ((repeat refine aI ?_); refine hK _ ?_; clear hK K)
      refine W_ret ?_
      (refine qG ?_; try exact True.intro); try (refine sPaV ?_; try exact True.intro)
      rfl
    · have h3 : (ls.length : Int) ≤ v := by omega
      rw [if_neg (fun h => h2 h.2)]
      (refine pureW Tryz.func102 rfl (rs := [Go.ResultVar.cell 4 62]) rfl (n := 20) rfl ?_; simp only [List.length_cons, List.length_nil, List.replicate, List.cons_append, List.nil_append])
      (refine aPa ?_)
      refine W_seq ?_
      ((first | refine W_seqV ?_ | refine W_seq (W_seqV ?_) | refine W_regV ?_); intro K hK; (refine sPaX (And.intro h1 h3) ?_; try exact True.intro))
      ((repeat refine aI ?_); refine hK _ ?_; clear hK K)
      (first | refine W_cond rfl (fun _ => ?_) (fun h => by cases h) | refine W_seq (W_cond rfl (fun _ => ?_) (fun h => by cases h)))
      ((first | refine W_seqV ?_ | refine W_seq (W_seqV ?_) | refine W_regV ?_); intro K hK; (refine sPa ?_; try exact True.intro))
      ((repeat refine aI ?_); refine hK _ ?_; clear hK K)
      refine W_ret ?_
      (refine qG ?_; try exact True.intro); try (refine sPaV ?_; try exact True.intro)
      rfl
  · have h1 : v < 0 := by omega
    rw [if_neg (fun h => h0 h.1)]
    (refine pureW Tryz.func102 rfl (rs := [Go.ResultVar.cell 4 62]) rfl (n := 20) rfl ?_; simp only [List.length_cons, List.length_nil, List.replicate, List.cons_append, List.nil_append])
    (refine aPa ?_)
    refine W_seq ?_
    ((first | refine W_seqV ?_ | refine W_seq (W_seqV ?_) | refine W_regV ?_); intro K hK; (refine sPaX h1 ?_; try exact True.intro))
    ((repeat refine aI ?_); refine hK _ ?_; clear hK K)
    (first | refine W_cond rfl (fun _ => ?_) (fun h => by cases h) | refine W_seq (W_cond rfl (fun _ => ?_) (fun h => by cases h)))
    ((first | refine W_seqV ?_ | refine W_seq (W_seqV ?_) | refine W_regV ?_); intro K hK; (refine sPa ?_; try exact True.intro))
    ((repeat refine aI ?_); refine hK _ ?_; clear hK K)
    refine W_ret ?_
    (refine qG ?_; try exact True.intro); try (refine sPaV ?_; try exact True.intro)
    rfl
theorem ilower_ok (ls : List LL) (v : Int) : Pure Tryz.prog 55 [.agg [.sl (tab rowL ls)], .int .i64 v] (· = .agg (limOf ls v).lower.cells) := by
  have h1 := ilimit_ok ls v
  generalize limOf ls v = l at *
  simp only [LL.cells] at h1
  (refine pureW Tryz.func55 rfl (rs := [Go.ResultVar.cell 4 60]) rfl (n := 9) rfl ?_; simp only [List.length_cons, List.length_nil, List.replicate, List.cons_append, List.nil_append])
  (refine aPa ?_)
  ((first | refine W_seqV ?_ | refine W_seq (W_seqV ?_) | refine W_regV ?_); intro K hK; (refine sPa ?_; try exact True.intro))
  ((repeat refine aI ?_); refine ⟨by kernel_rfl, rfl, _, h1, ?_⟩; (try (refine sPa ?_; try exact True.intro)); (repeat refine aI ?_))
  ((repeat refine aI ?_); refine hK _ ?_; clear hK K)
  refine W_ret ?_
  (refine qG ?_; try exact True.intro); try (refine sPaV ?_; try exact True.intro)
  rfl
theorem iupper_ok (ls : List LL) (v : Int) : Pure Tryz.prog 56 [.agg [.sl (tab rowL ls)], .int .i64 v] (· = .agg (limOf ls v).upper.cells) := by
  have h1 := ilimit_ok ls v
  generalize limOf ls v = l at *
  simp only [LL.cells] at h1
  (refine pureW Tryz.func56 rfl (rs := [Go.ResultVar.cell 4 60]) rfl (n := 9) rfl ?_; simp only [List.length_cons, List.length_nil, List.replicate, List.cons_append, List.nil_append])
  (refine aPa ?_)
  ((first | refine W_seqV ?_ | refine W_seq (W_seqV ?_) | refine W_regV ?_); intro K hK; (refine sPa ?_; try exact True.intro))
  ((repeat refine aI ?_); refine ⟨by kernel_rfl, rfl, _, h1, ?_⟩; (try (refine sPa ?_; try exact True.intro)); (repeat refine aI ?_))
  ((repeat refine aI ?_); refine hK _ ?_; clear hK K)
  refine W_ret ?_
  (refine qG ?_; try exact True.intro); try (refine sPaV ?_; try exact True.intro)
  rfl
/-- The bound that a part's number takes. -/
def pickB (u : Bool) (c : Rat) (l : LL) : BB := if (decide (0 < rs c) == u) = true then l.upper else l.lower
def sideF (u : Bool) (ls : List LL) : AV := .fn (.func (if u then 56 else 55)) [.agg [.sl (tab rowL ls)]] []
theorem side_ok (u : Bool) (ls : List LL) (v : Int) : Pure Tryz.prog (if u then 56 else 55) [.agg [.sl (tab rowL ls)], .int .i64 v] (· = .agg (if u then (limOf ls v).upper else (limOf ls v).lower).cells) := by
  cases u
  · exact ilower_ok ls v
  · exact iupper_ok ls v
end Go.Proofs.YtjkjapjcmbfkgaaGreat.Vm

/-
  Implied: sum.
-/
namespace Go.Proofs.YtjkjapjcmbfkgaaGreat.Vm
open Go Go.RowKit
set_option maxRecDepth 100000
set_option linter.unusedVariables false
set_option linter.unusedSimpArgs false
theorem sPb {G G' : Prop} (h : G') (e : G = G' := by conv => lhs; simp (disch := omega) only [rowsOf, cNat, cN, St.ret, St.seth, Eff.app, Eff.wi, sepL, guardOf, St.known, objOf, List.set, sliceW, litW, copyW, lenOf, bnd, mxOk, ofCells, TI.isAgg, cellsOf, storable, AV.one, dead, laid, overlay, reduceCtorEq, Int.reduceLE, Int.reduceLT, Int.reduceSub, Int.reduceAdd, Nat.reduceMul, Int.reduceToNat, Nat.reducePow, Int.reduceNeg, Nat.reduceAdd, Nat.reduceLT, Nat.reduceLeDiff, sA, sB, Nat.reduceEqDiff, cQ, cD, tab_length, List.take_length, List.length_append, tab_drop, tab_take, tab_append, tab_nil, rowQ_all, rowQ_one, rowQ_pure, sT]) : G := e.mpr h
theorem sPbX {G G' P : Prop} (p : P) (h : G') (e : P → G = G' := by intro p; conv => lhs; simp (disch := omega) only [rowsOf, cNat, cN, St.ret, St.seth, Eff.app, Eff.wi, sepL, guardOf, St.known, objOf, List.set, sliceW, litW, copyW, lenOf, bnd, mxOk, ofCells, TI.isAgg, cellsOf, storable, AV.one, dead, laid, overlay, reduceCtorEq, Int.reduceLE, Int.reduceLT, Int.reduceSub, Int.reduceAdd, Nat.reduceMul, Int.reduceToNat, Nat.reducePow, Int.reduceNeg, Nat.reduceAdd, Nat.reduceLT, Nat.reduceLeDiff, sA, sB, Nat.reduceEqDiff, cQ, cD, tab_length, List.take_length, List.length_append, tab_drop, tab_take, tab_append, tab_nil, rowQ_all, rowQ_one, rowQ_pure, sT, p]) : G := (e p).mpr h
theorem sPbV {G G' : Prop} (h : G') (e : G = G' := by conv => lhs; simp (disch := omega) only [rowsOf, cNat, cN, St.ret, St.seth, Eff.app, Eff.wi, sepL, guardOf, St.known, objOf, List.set, sliceW, litW, copyW, lenOf, bnd, mxOk, ofCells, TI.isAgg, cellsOf, storable, AV.one, dead, laid, overlay, reduceCtorEq, Int.reduceLE, Int.reduceLT, Int.reduceSub, Int.reduceAdd, Nat.reduceMul, Int.reduceToNat, Nat.reducePow, Int.reduceNeg, Nat.reduceAdd, Nat.reduceLT, Nat.reduceLeDiff, sA, sB, Nat.reduceEqDiff, cQ, cD, tab_length, List.take_length, List.length_append, tab_drop, tab_take, tab_append, tab_nil, rowQ_all, rowQ_one, rowQ_pure, sT, view_sref, viewRef, view_agg, views_cons, views_nil, view_bool, view_int, view_sl, view_nils, view_str, view_tup, view_nilif]) : G := e.mpr h
theorem aPb {G G' : Prop} (h : G') (f : Wr G' → G := by intro h; (repeat (first | (refine W_seqV fun K hK => ?_; (try (refine sPb ?_; try exact True.intro)); (repeat refine aI ?_); refine hK _ ?_; clear hK K) | (refine W_seqR fun K hK => ?_; (try (refine sPb ?_; try exact True.intro)); (repeat refine aI ?_); refine hK _ ?_; clear hK K) | (refine W_seqD mixed [] (by kernel_rfl) fun K hK => ?_; (try (refine sPb ?_; try exact True.intro)); (repeat refine aI ?_); refine hK _ ?_; clear hK K))); exact h.out) : G := f ⟨h⟩
structure II where
  var : Int
  upper : Bool
  at_ : DD
  by_ : List (Int × RR)
def II.cells (i : II) : List AV := [.int .i64 i.var, .bool i.upper, .bool i.at_.a.neg, .sl (u32s i.at_.a.num), .sl (u32s i.at_.a.den), .bool i.at_.b.neg, .sl (u32s i.at_.b.num), .sl (u32s i.at_.b.den), .sl (tab rowM i.by_)]
def zeroI : II := ⟨0, false, zeroD0, []⟩
def bndM (u : Bool) (ls : List LL) (m : Int × Rat) : BB := pickB u m.2 (limOf ls m.1)
def sumA (u : Bool) (ls : List LL) (l : List (Int × Rat)) : Rat × Rat := l.foldl (fun s m => dadd s (dscale m.2 (bndM u ls m).at_.v)) (0, 0)
def sumB (u : Bool) (ls : List LL) (l : List (Int × Rat)) : List (Int × Rat) := l.map fun m => ((bndM u ls m).why, absQ m.2)
def allH (u : Bool) (ls : List LL) (l : List (Int × Rat)) : Bool := l.all fun m => (bndM u ls m).has
theorem sumA_take (u : Bool) (ls : List LL) {l : List (Int × Rat)} {i : Nat} (h : i < l.length) : sumA u ls (l.take (i + 1)) = dadd (sumA u ls (l.take i)) (dscale (l.getD i default).2 (bndM u ls (l.getD i default)).at_.v) := by
  unfold sumA
  rw [take_succ_foldl _ _ h]
theorem sumB_take (u : Bool) (ls : List LL) {l : List (Int × Rat)} {i : Nat} (h : i < l.length) : sumB u ls (l.take (i + 1)) = sumB u ls (l.take i) ++ [((bndM u ls (l.getD i default)).why, absQ (l.getD i default).2)] := by
  unfold sumB
  rw [List.take_succ_eq_append_getElem h, List.map_append]
  simp [List.getD_eq_getElem?_getD, h]
theorem allH_take (u : Bool) (ls : List LL) {l : List (Int × Rat)} {i : Nat} (h : i < l.length) : allH u ls (l.take (i + 1)) = (allH u ls (l.take i) && (bndM u ls (l.getD i default)).has) := by
  unfold allH
  rw [List.take_succ_eq_append_getElem h, List.all_append]
  simp [List.getD_eq_getElem?_getD, h]
theorem allH_false (u : Bool) (ls : List LL) {l : List (Int × Rat)} {i : Nat} (h : i < l.length) (hb : (bndM u ls (l.getD i default)).has = false) : allH u ls l = false := by
  unfold allH
  rw [Bool.eq_false_iff]
  intro h1
  have := List.all_eq_true.1 h1 (l.getD i default) (by simp [List.getD_eq_getElem?_getD, h])
  rw [hb] at this
  cases this
theorem bndM_eq (u : Bool) (ls : List LL) (m : Int × Rat) : (0 < rs m.2 ∧ bndM u ls m = if u = true then (limOf ls m.1).upper else (limOf ls m.1).lower) ∨ (¬ 0 < rs m.2 ∧ bndM u ls m = if (!u) = true then (limOf ls m.1).upper else (limOf ls m.1).lower) := by
  by_cases hp : 0 < rs m.2
  · left; refine ⟨hp, ?_⟩
    cases u <;> simp [bndM, pickB, hp]
  · right; refine ⟨hp, ?_⟩
    cases u <;> simp [bndM, pickB, hp]
structure SumOk (u : Bool) (ls : List LL) (l : List (Int × Rat)) : Prop where
  len : l.length < 1099511627776
  part : ∀ m ∈ l, nb m.2 ≤ 4294967296 ∧ (bndM u ls m).at_.ok ∧ nb2 (bndM u ls m).at_.v ≤ 4294967296
  pre : ∀ i, nb2 (sumA u ls (l.take i)) ≤ 4294967296
theorem nb_abs (q : Rat) : nb (absQ q) = nb q := by unfold absQ; split <;> simp [nb_neg]
def sumR (u : Bool) (ls : List LL) (l : List (Int × Rat)) : AV :=
  if allH u ls l = true then .tup [.agg (II.cells ⟨0, false, dq (sumA u ls l), rf (sumB u ls l)⟩), .bool true] else .tup [.agg zeroI.cells, .bool false]

set_option maxHeartbeats 8000000 in
theorem isum_ok (u : Bool) (ls : List LL) (l : List (Int × Rat)) (h : SumOk u ls l) :
    Pure Tryz.prog 54 [.sl (tab rowQ l), sideF u ls, sideF (!u) ls] (· = sumR u ls l) := by
  have hof := dof_ok zeroR zeroR_ok
  rw [zeroR_v] at hof
  have hz0 : u32s [] = [] := rfl
  simp only [zeroR, RR.av, hz0] at hof
  have hA := fun i hi => @sumA_take u ls l i hi
  have hBt := fun i hi => @sumB_take u ls l i hi
  have hH := fun i hi => @allH_take u ls l i hi
  have hF := fun i hi => @allH_false u ls l i hi
  have hBl : ∀ i, i ≤ l.length → (sumB u ls (l.take i)).length = i := fun i hi => by simp [sumB]; omega
  have A0 : sumA u ls (l.take 0) = (0, 0) := rfl
  have B0 : sumB u ls (l.take 0) = [] := rfl
  have H0 : allH u ls (l.take 0) = true := rfl
  have hdl : sumR u ls l = if allH u ls (l.take l.length) = true then .tup [.agg (II.cells ⟨0, false, dq (sumA u ls (l.take l.length)), rf (sumB u ls (l.take l.length))⟩), .bool true] else .tup [.agg zeroI.cells, .bool false] := by rw [List.take_length]; rfl
  have hEl : allH u ls (l.take l.length) = allH u ls l := by rw [List.take_length]
  have hlen := h.len
  have hpre := h.pre
  have hfst := fun i => bndM_eq u ls (l.getD i default)
  have hsu := fun v => side_ok u ls v
  have hsd := fun v => side_ok (!u) ls v
  have hpt : ∀ i, i < l.length → nb (l.getD i default).2 ≤ 4294967296 ∧ (bndM u ls (l.getD i default)).at_.ok ∧ nb2 (bndM u ls (l.getD i default)).at_.v ≤ 4294967296 := fun i hi => h.part _ (by simp [List.getD_eq_getElem?_getD, hi])
  clear h
  rw [hdl]
  clear hdl
  generalize hEA : (fun i => sumA u ls (l.take i)) = EA at *
  have hEA' : ∀ i, sumA u ls (l.take i) = EA i := fun i => congrFun hEA i
  generalize hEB : (fun i => sumB u ls (l.take i)) = EB at *
  have hEB' : ∀ i, sumB u ls (l.take i) = EB i := fun i => congrFun hEB i
  generalize hEH : (fun i => allH u ls (l.take i)) = EH at *
  have hEH' : ∀ i, allH u ls (l.take i) = EH i := fun i => congrFun hEH i
  simp only [hEA', hEB', hEH'] at *
  clear hEA hEA' hEB hEB' hEH hEH'
  unfold sideF
  generalize hgu : (if u = true then 56 else 55) = gu at *
  generalize hgd : (if (!u) = true then 56 else 55) = gd at *
  have heu : enters Tryz.prog gu = true := by subst hgu; cases u <;> kernel_rfl
  have hed : enters Tryz.prog gd = true := by subst hgd; cases u <;> kernel_rfl
  generalize allH u ls l = all at *
  (refine pureW Tryz.func54 rfl (rs := [Go.ResultVar.cell 6 49, Go.ResultVar.tmp 7]) rfl (n := 59) rfl ?_; simp only [List.length_cons, List.length_nil, List.replicate, List.cons_append, List.nil_append])
  (refine aPb ?_)
  ((first | refine W_seqV ?_ | refine W_seq (W_seqV ?_) | refine W_regV ?_); intro K hK; (refine sPb ?_; try exact True.intro))
  ((repeat refine aI ?_); refine ⟨by kernel_rfl, rfl, _, hof, ?_⟩; (try (refine sPb ?_; try exact True.intro)); (repeat refine aI ?_))
  ((repeat refine aI ?_); refine hK _ ?_; clear hK K)
  refine W.le ?_ (Le_nilO 8 0 8 55 65 4 true rfl rfl rfl rfl)
  simp only [List.set]
  ((first | refine W_seqV ?_ | refine W_seq (W_seqV ?_) | refine W_regV ?_); intro K hK; (refine sPb ?_; try exact True.intro))
  ((repeat refine aI ?_); refine hK _ ?_; clear hK K)
  refine W_block (W_loop (fun t : {t : Nat // t ≤ l.length ∧ EH t = true} =>
      ⟨[.any, .fn (.func gu) [.agg [.sl (tab rowL ls)]] [], .fn (.func gd) [.agg [.sl (tab rowL ls)]] [], .any, .any, .any, .ptr 6 0 0, .any, .ptr 8 0 0, .any, .any, .any, .any, .any, .any, .sl (tab rowQ l), .int .i64 l.length, .int .i64 t.1, .any, .any, .any, .any, .any, .any, .any, .any, .any, .any, .any, .any, .any, .any, .any, .any, .any, .any, .any, .any, .any, .any, .any, .any, .any, .any, .any, .any, .any, .any, .any, .any, .any, .any, .any, .any, .any, .any, .any, .any, .any], [.dead, .dead, .dead, .dead, .dead, .dead, .arr 49 9 false [[.int .i64 0, .bool false, .bool false, .nils, .nils, .bool false, .nils, .nils, .nils]], .dead, .arr 49 9 false [[.int .i64 0, .bool false, .bool (decide ((EA t.1).1.num < 0)), .sl (u32s (limbs (EA t.1).1.num.natAbs)), .sl (u32s (limbs (EA t.1).1.den)), .bool (decide ((EA t.1).2.num < 0)), .sl (u32s (limbs (EA t.1).2.num.natAbs)), .sl (u32s (limbs (EA t.1).2.den)), .sref 55 0 t.1]], .dead, .dead, .dead, .dead, .dead, .dead, .dead, .dead, .dead, .dead, .dead, .dead, .dead, .dead, .dead, .dead, .dead, .dead, .dead, .dead, .dead, .dead, .dead, .dead, .dead, .dead, .dead, .dead, .dead, .dead, .dead, .dead, .dead, .dead, .dead, .dead, .dead, .dead, .dead, .dead, .dead, .dead, .dead, .dead, .dead, .dead, .arr 65 4 true (tab rowQ (EB t.1)), .dead, .dead, .dead]⟩) (fun t => l.length - t.1)
      ⟨0, by omega, H0⟩ (Le_of (by simp [leE]) (by simp [A0, B0, tab])) fun t => ?_)
  obtain ⟨i, hi, hHi⟩ := t
  dsimp only
  by_cases hlt : i < l.length
  · have hXi : (tab rowQ l).getD i [] = rowQ (l.getD i default) := tab_getD hlt
    have hAi := hA i hlt
    have hBi := hBt i hlt
    have hHs := hH i hlt
    have hFi := hF i hlt
    have hli := hBl i (by omega)
    have hfi := hfst i
    obtain ⟨hp1, hp2, hp3⟩ := hpt i hlt
    have hpi := hpre i
    have hpi1 := hpre (i + 1)
    generalize l.getD i default = m at *
    generalize bndM u ls m = bm at *
    obtain ⟨v, c⟩ := m
    dsimp only at *
    have hsu1 := hsu v
    have hsd1 := hsd v
    generalize (if u = true then (limOf ls v).upper else (limOf ls v).lower) = bu at *
    generalize (if (!u) = true then (limOf ls v).upper else (limOf ls v).lower) = bd at *
    have hsg := rsign_ok (qr c) (qr_ok (by omega))
    rw [qr_v] at hsg
    change Pure _ _ _ (· = .int .i64 (rs c)) at hsg
    have hab := rabs_ok (qr c) (qr_ok (by omega))
    rw [qr_v] at hab
    have hsc := dscale_ok (qr c) bm.at_ (qr_ok (by omega)) hp2
    rw [qr_v] at hsc
    have hsn := nb2_scale c bm.at_.v
    have had := dadd_ok (dq (EA i)) (dq (dscale c bm.at_.v)) (dq_ok (by omega)) (dq_ok (by omega))
    rw [dq_v, dq_v, ← hAi, dq_av, dq_av] at had
    clear hA hBt hH hF hBl hfst hpt hpre hsu hsd hpi hpi1 hsn
    generalize dscale c bm.at_.v = ds at *
    generalize EA i = ea at *
    generalize EB i = eb at *
    generalize absQ c = ab at *
    simp only [rowQ] at hXi
    simp only [RR.av, qr, cD, cQ] at hsg hab hsc had
    obtain ⟨h1, ⟨⟨x1, x2, x3⟩, ⟨x4, x5, x6⟩⟩, x7⟩ := bm
    obtain ⟨y0, ⟨⟨y1, y2, y3⟩, ⟨y4, y5, y6⟩⟩, y7⟩ := bu
    obtain ⟨z0, ⟨⟨z1, z2, z3⟩, ⟨z4, z5, z6⟩⟩, z7⟩ := bd
    simp only [BB.cells, DD.av, DD.cells] at hsu1 hsd1 hsc
    refine W_seq ?_
    ((first | refine W_seqV ?_ | refine W_seq (W_seqV ?_) | refine W_regV ?_); intro K hK; (refine sPbX hlt ?_; try exact True.intro))
    ((repeat refine aI ?_); refine hK _ ?_; clear hK K)
    refine W_seq ?_
    (first | refine W_cond rfl (fun _ => ?_) (fun h => by cases h) | refine W_seq (W_cond rfl (fun _ => ?_) (fun h => by cases h)))
    refine W_skip ?_
    simp only [thenW]
    refine W_seq ?_
    refine W_block ?_
    ((first | refine W_seqV ?_ | refine W_seq (W_seqV ?_) | refine W_regV ?_); intro K hK; (refine sPbX (And.intro hXi hlt) ?_; try exact True.intro))
    ((repeat refine aI ?_); refine hK _ ?_; clear hK K)
    ((first | refine W_seqV ?_ | refine W_seq (W_seqV ?_) | refine W_regV ?_); intro K hK; (refine sPb ?_; try exact True.intro))
    (repeat refine aI ?_)
    refine ⟨_, hsd1, ?_⟩
    (refine sPb ?_; try exact True.intro)
    ((repeat refine aI ?_); refine hK _ ?_; clear hK K)
    clear hsd1
    refine W_join (fun s' => Le [] s' ⟨[.any, .fn (.func gu) [.agg [.sl (tab rowL ls)]] [], .fn (.func gd) [.agg [.sl (tab rowL ls)]] [], .any, .any, .any, .ptr 6 0 0, .any, .ptr 8 0 0, .any, .ptr 10 0 0, .ptr 11 0 0, .any, .any, .any, .sl (tab rowQ l), .int .i64 l.length, .int .i64 i, .any, .any, .any, .any, .any, .any, .any, .any, .any, .any, .any, .any, .any, .any, .any, .any, .any, .any, .any, .any, .any, .any, .any, .any, .any, .any, .any, .any, .any, .any, .any, .any, .any, .any, .any, .any, .any, .any, .any, .any, .any], [.dead, .dead, .dead, .dead, .dead, .dead, .arr 49 9 false [[.int .i64 0, .bool false, .bool false, .nils, .nils, .bool false, .nils, .nils, .nils]], .dead, .arr 49 9 false [[.int .i64 0, .bool false, .bool (decide (ea.1.num < 0)), .sl (u32s (limbs ea.1.num.natAbs)), .sl (u32s (limbs ea.1.den)), .bool (decide (ea.2.num < 0)), .sl (u32s (limbs ea.2.num.natAbs)), .sl (u32s (limbs ea.2.den)), .sref 55 0 i]], .dead, .arr 54 4 false [[.int .i64 v, .bool (decide (c.num < 0)), .sl (u32s (limbs c.num.natAbs)), .sl (u32s (limbs c.den))]], .arr 60 8 false [[.bool h1, .bool x1, .sl (u32s x2), .sl (u32s x3), .bool x4, .sl (u32s x5), .sl (u32s x6), .int .i64 x7]], .dead, .dead, .dead, .dead, .dead, .dead, .dead, .dead, .dead, .dead, .dead, .dead, .dead, .dead, .dead, .dead, .dead, .dead, .dead, .dead, .dead, .dead, .dead, .dead, .dead, .dead, .dead, .dead, .dead, .dead, .dead, .dead, .dead, .dead, .dead, .dead, .dead, .dead, .dead, .dead, .dead, .dead, .dead, .arr 65 4 true (tab rowQ eb), .dead, .dead, .dead]⟩) ?_ ?_
    · rcases hfi with ⟨hg, he⟩ | ⟨hg, he⟩
      · have hgb := decide_eq_true hg
        cases he
        refine W_seq ?_
        ((first | refine W_seqV ?_ | refine W_seq (W_seqV ?_) | refine W_regV ?_); intro K hK; (refine sPb ?_; try exact True.intro))
        ((repeat refine aI ?_); refine ⟨by kernel_rfl, rfl, _, hsg, ?_⟩; (try (refine sPb ?_; try exact True.intro)); (repeat refine aI ?_))
        rw [hgb]
        ((repeat refine aI ?_); refine hK _ ?_; clear hK K)
        (first | refine W_cond rfl (fun _ => ?_) (fun h => by cases h) | refine W_seq (W_cond rfl (fun _ => ?_) (fun h => by cases h)))
        ((first | refine W_seqV ?_ | refine W_seq (W_seqV ?_) | refine W_regV ?_); intro K hK; (refine sPb ?_; try exact True.intro))
        (repeat refine aI ?_)
        refine ⟨_, hsu1, ?_⟩
        (refine sPb ?_; try exact True.intro)
        ((repeat refine aI ?_); refine hK _ ?_; clear hK K)
        simp only [thenW]
        exact Le_drop (by simp [leE]) (by simp [leH]) rfl rfl
      · have hgb := decide_eq_false hg
        cases he
        refine W_seq ?_
        ((first | refine W_seqV ?_ | refine W_seq (W_seqV ?_) | refine W_regV ?_); intro K hK; (refine sPb ?_; try exact True.intro))
        ((repeat refine aI ?_); refine ⟨by kernel_rfl, rfl, _, hsg, ?_⟩; (try (refine sPb ?_; try exact True.intro)); (repeat refine aI ?_))
        rw [hgb]
        ((repeat refine aI ?_); refine hK _ ?_; clear hK K)
        (first | refine W_cond rfl (fun h => by cases h) (fun _ => ?_) | refine W_seq (W_cond rfl (fun h => by cases h) (fun _ => ?_)))
        refine W_skip ?_
        simp only [thenW]
        exact Le_drop (by simp [leE]) (by simp [leH]) rfl rfl
    intro s' hle
    refine W.le ?_ hle
    clear hle s' hfi hsg hsu1
    cases h1
    · have hall := hFi rfl
      rw [hEl, hall]
      refine W_seq ?_
      ((first | refine W_seqV ?_ | refine W_seq (W_seqV ?_) | refine W_regV ?_); intro K hK; (refine sPb ?_; try exact True.intro))
      ((repeat refine aI ?_); refine hK _ ?_; clear hK K)
      (first | refine W_cond rfl (fun _ => ?_) (fun h => by cases h) | refine W_seq (W_cond rfl (fun _ => ?_) (fun h => by cases h)))
      ((first | refine W_seqV ?_ | refine W_seq (W_seqV ?_) | refine W_regV ?_); intro K hK; (refine sPb ?_; try exact True.intro))
      ((repeat refine aI ?_); refine hK _ ?_; clear hK K)
      refine W_ret ?_
      (refine qG ?_; try exact True.intro); try (refine sPbV ?_; try exact True.intro)
      simp [II.cells, zeroI, zeroD0, zeroR, tab, u32s]
    · rw [Bool.and_true] at hHs
      refine W_seq ?_
      ((first | refine W_seqV ?_ | refine W_seq (W_seqV ?_) | refine W_regV ?_); intro K hK; (refine sPb ?_; try exact True.intro))
      ((repeat refine aI ?_); refine hK _ ?_; clear hK K)
      (first | refine W_cond rfl (fun h => by cases h) (fun _ => ?_) | refine W_seq (W_cond rfl (fun h => by cases h) (fun _ => ?_)))
      refine W_skip ?_
      simp only [thenW]
      ((first | refine W_seqD mixed [] (by kernel_rfl) ?_ | refine W_seq (W_seqD mixed [] (by kernel_rfl) ?_) | refine W_regD mixed [] (by kernel_rfl) ?_); intro K hK; (refine sPb ?_; try exact True.intro))
      ((repeat refine aI ?_); refine ⟨by kernel_rfl, rfl, _, hsc, ?_⟩; (try (refine sPb ?_; try exact True.intro)); (repeat refine aI ?_))
      ((repeat refine aI ?_); refine ⟨by kernel_rfl, rfl, _, had, ?_⟩; (try (refine sPb ?_; try exact True.intro)); (repeat refine aI ?_))
      ((repeat refine aI ?_); refine hK _ ?_; clear hK K)
      ((first | refine W_seqS mixed 9 [] (by kernel_rfl) ?_ | refine W_seq (W_seqS mixed 9 [] (by kernel_rfl) ?_) | refine W_regS mixed 9 [] (by kernel_rfl) ?_); intro K hK; (refine sPbX hli ?_; try exact True.intro))
      ((repeat refine aI ?_); refine ⟨by kernel_rfl, rfl, _, hab, ?_⟩; (try (refine sPb ?_; try exact True.intro)); (repeat refine aI ?_))
      ((repeat refine aI ?_); refine hK _ ?_; clear hK K)
      simp only [blockW, thenW]
      ((first | refine W_seqV ?_ | refine W_seq (W_seqV ?_) | refine W_regV ?_); intro K hK; (refine sPb ?_; try exact True.intro))
      ((repeat refine aI ?_); refine hK _ ?_; clear hK K)
      simp only [blockW, thenW]
      refine ⟨⟨i + 1, by omega, by rw [hHs]; exact hHi⟩, Le_drop (by simp [leE]) (by simp [leH, hBi, ← tab_snoc, rowQ, tab_take, List.take_of_length_le, hli]) rfl rfl, ?_⟩
      dsimp only
      omega
  · obtain rfl : i = l.length := by omega
    have hli := hBl l.length (by omega)
    refine W_seq ?_
    ((first | refine W_seqV ?_ | refine W_seq (W_seqV ?_) | refine W_regV ?_); intro K hK; (refine sPb ?_; try exact True.intro))
    ((repeat refine aI ?_); refine hK _ ?_; clear hK K)
    refine W_seq ?_
    (first | refine W_cond rfl (fun h => by cases h) (fun _ => ?_) | refine W_seq (W_cond rfl (fun h => by cases h) (fun _ => ?_)))
    refine W_exit ?_
    simp only [thenW, blockW, if_true]
    ((first | refine W_seqV ?_ | refine W_seq (W_seqV ?_) | refine W_regV ?_); intro K hK; (refine sPb ?_; try exact True.intro))
    ((repeat refine aI ?_); refine hK _ ?_; clear hK K)
    refine W_ret ?_
    (refine qG ?_; try exact True.intro); try (refine sPbV ?_; try exact True.intro)
    rw [if_pos hHi, List.take_of_length_le (by omega)]
    simp only [II.cells, dq, qr, tab_rf]
end Go.Proofs.YtjkjapjcmbfkgaaGreat.Vm

/-
  The reference's implied bound.
-/
namespace Go.Proofs.YtjkjapjcmbfkgaaGreat.Vm
open Go Go.RowKit
set_option maxRecDepth 100000
set_option linter.unusedVariables false
set_option linter.unusedSimpArgs false
/-- The row solved for its k-th variable. -/
def solved (e : List (Int × Rat)) (k : Nat) : List (Int × Rat) := scaleF (-((e.getD k default).2)⁻¹) (e.eraseIdx k)
def plc (k j : Nat) : Nat := if j ≤ k then j else j - 1
theorem solved_len {e : List (Int × Rat)} {k : Nat} (hk : k < e.length) : (solved e k).length = e.length - 1 := by
  simp [solved, scaleF, List.length_eraseIdx, hk]
def impR (u : Bool) (ls : List LL) (e : List (Int × Rat)) (k : Nat) : Option II :=
  if allH u ls (solved e k) = true then some ⟨(e.getD k default).1, u, dq (sumA u ls (solved e k)), rf (sumB u ls (solved e k))⟩ else none
def impT : Option II → AV
  | some i => .tup [.agg i.cells, .bool true]
  | none => .tup [.agg zeroI.cells, .bool false]

end Go.Proofs.YtjkjapjcmbfkgaaGreat.Vm

/-
  A row's implied bounds: the plain laws on sizes.
-/
namespace Go.Proofs.YtjkjapjcmbfkgaaGreat.Vm
open Go Go.RowKit
set_option linter.unusedVariables false
set_option linter.unusedSimpArgs false

def overN (g : Int → Nat) : List (Int × Rat) → Nat
  | [] => 0
  | p :: l => g p.1 + overN g l
def sumN : List Nat → Nat
  | [] => 0
  | x :: l => x + sumN l
theorem sumN_drop (xs : List Nat) {a k : Nat} (h : a ≤ k) : sumN (xs.drop k) ≤ sumN (xs.drop a) := by
  induction xs generalizing a k with
  | nil => simp
  | cons x xs ih =>
    cases k with
    | zero => obtain rfl : a = 0 := by omega
              exact Nat.le_refl _
    | succ k =>
      cases a with
      | zero =>
        have := ih (a := 0) (k := k) (by omega)
        simp only [List.drop_succ_cons, List.drop_zero, sumN] at *
        omega
      | succ a => exact ih (by omega)
theorem sumN_at (xs : List Nat) {a k : Nat} (h : a ≤ k) (hk : k < xs.length) : xs.getD k 0 + sumN (xs.drop (k + 1)) ≤ sumN (xs.drop a) := by
  have h1 : xs.drop k = xs[k] :: xs.drop (k + 1) := List.drop_eq_getElem_cons hk
  have h2 : sumN (xs.drop k) = xs.getD k 0 + sumN (xs.drop (k + 1)) := by
    rw [h1]; simp [sumN, List.getD_eq_getElem?_getD, hk]
  rw [← h2]
  exact sumN_drop xs h
theorem over_le (ws : List Nat) (g : Int → Nat) (h1 : ∀ v : Int, 0 ≤ v → v.toNat < ws.length → g v ≤ ws.getD v.toNat 0) (h2 : ∀ v : Int, ¬ (0 ≤ v ∧ v.toNat < ws.length) → g v ≤ 2) :
    ∀ (l : List (Int × Rat)) (a : Nat), NF l → (∀ p ∈ l, 0 ≤ p.1 → (a : Int) ≤ p.1) → overN g l ≤ 2 * l.length + sumN (ws.drop a)
  | [], a, _, _ => by simp [overN]
  | p :: l, a, h, ha => by
    simp only [overN, List.length_cons]
    by_cases hp : 0 ≤ p.1 ∧ p.1.toNat < ws.length
    · have e1 := ha p List.mem_cons_self hp.1
      have e2 := sumN_at ws (a := a) (k := p.1.toNat) (by omega) hp.2
      have e3 := over_le ws g h1 h2 l (p.1.toNat + 1) h.tail fun q hq _ => by have := h.head q hq; omega
      have e4 := h1 p.1 hp.1 hp.2
      omega
    · have e3 := over_le ws g h1 h2 l a h.tail fun q hq h0 => by
        have := h.head q hq
        exact ha q (List.mem_cons_of_mem _ hq) h0
      have e4 := h2 p.1 hp
      omega
def lw (l : LL) : Nat := nb2 l.lower.at_.v + nb2 l.upper.at_.v
def lws (ls : List LL) : Nat := sumN (ls.map lw)
theorem nb2_zero : nb2 ((0, 0) : Rat × Rat) = 1 := by simp [nb2, nb_zero]
theorem zeroD0_v : zeroD0.v = (0, 0) := by simp only [zeroD0, DD.v, zeroR_v]
theorem lw_zero : lw zeroL = 2 := by simp only [lw, zeroL, zeroB, zeroD0_v, nb2_zero]
theorem lim_over (ls : List LL) {l : List (Int × Rat)} (h : NF l) : overN (fun v => lw (limOf ls v)) l ≤ 2 * l.length + lws ls := by
  refine over_le (ls.map lw) _ (fun v h0 h1 => ?_) (fun v h0 => ?_) l 0 h fun p _ hp => by simpa using hp
  · rw [List.length_map] at h1
    have : limOf ls v = ls.getD v.toNat default := if_pos ⟨h0, by omega⟩
    rw [this]
    simp [List.getD_eq_getElem?_getD, h1]
  · rw [List.length_map] at h0
    have : limOf ls v = zeroL := if_neg (fun h => h0 ⟨h.1, by omega⟩)
    rw [this, lw_zero]
    exact Nat.le_refl _
structure LsOk (ls : List LL) : Prop where
  ok : ∀ l ∈ ls, l.lower.at_.ok ∧ l.upper.at_.ok
  sz : lws ls ≤ 1073741824
theorem sumN_mem {xs : List Nat} {x : Nat} (h : x ∈ xs) : x ≤ sumN xs := by
  induction xs with
  | nil => cases h
  | cons y xs ih =>
    simp only [sumN]
    rcases List.mem_cons.1 h with rfl | h
    · omega
    · have := ih h; omega
theorem lim_ok {ls : List LL} (h : LsOk ls) (v : Int) : (limOf ls v).lower.at_.ok ∧ (limOf ls v).upper.at_.ok ∧ lw (limOf ls v) ≤ 1073741826 := by
  unfold limOf
  split
  · rename_i hv
    have hm : ls.getD v.toNat default ∈ ls := by
      have : v.toNat < ls.length := by omega
      simp [List.getD_eq_getElem?_getD, this]
    obtain ⟨h1, h2⟩ := h.ok _ hm
    exact ⟨h1, h2, by have := sumN_mem (List.mem_map_of_mem (f := lw) hm); have := h.sz; unfold lws at this; omega⟩
  · exact ⟨⟨zeroR_ok, zeroR_ok⟩, ⟨zeroR_ok, zeroR_ok⟩, by rw [lw_zero]; omega⟩
theorem bnd_ok {ls : List LL} (h : LsOk ls) (u : Bool) (m : Int × Rat) : (bndM u ls m).at_.ok ∧ nb2 (bndM u ls m).at_.v ≤ lw (limOf ls m.1) := by
  obtain ⟨h1, h2, h3⟩ := lim_ok h m.1
  unfold bndM pickB lw
  split
  · exact ⟨h2, by omega⟩
  · exact ⟨h1, by omega⟩
/-- The sum, but for a common number. -/
def sumE (u : Bool) (ls : List LL) (d : Rat) (l : List (Int × Rat)) : Rat × Rat := l.foldl (fun s m => dadd s (dscale m.2 (bndM u ls (m.1, d * m.2)).at_.v)) (0, 0)
theorem sumA_scale (u : Bool) (ls : List LL) (d : Rat) (l : List (Int × Rat)) : sumA u ls (scaleF d l) = dscale d (sumE u ls d l) := by
  have : ∀ (l : List (Int × Rat)) (s : Rat × Rat), (scaleF d l).foldl (fun s m => dadd s (dscale m.2 (bndM u ls m).at_.v)) (dscale d s) = dscale d (l.foldl (fun s m => dadd s (dscale m.2 (bndM u ls (m.1, d * m.2)).at_.v)) s) := by
    intro l
    induction l with
    | nil => intro s; rfl
    | cons p l ih =>
      intro s
      simp only [scaleF, List.map_cons, List.foldl_cons] at *
      rw [← ih]
      congr 1
      simp only [dadd, dscale, Prod.mk.injEq]
      constructor <;> grind
  have h0 : dscale d (0, 0) = (0, 0) := by simp [dscale, Rat.mul_zero]
  have := this l (0, 0)
  rw [h0] at this
  exact this
theorem sumE_nb {ls : List LL} (h : LsOk ls) (u : Bool) (d : Rat) (l : List (Int × Rat)) : nb2 (sumE u ls d l) ≤ 1 + nbs l + overN (fun v => lw (limOf ls v)) l := by
  have : ∀ (l : List (Int × Rat)) (s : Rat × Rat), nb2 (l.foldl (fun s m => dadd s (dscale m.2 (bndM u ls (m.1, d * m.2)).at_.v)) s) ≤ nb2 s + nbs l + overN (fun v => lw (limOf ls v)) l := by
    intro l
    induction l with
    | nil => intro s; simp [nbs, overN]
    | cons p l ih =>
      intro s
      simp only [List.foldl_cons, nbs, overN]
      have h1 := ih (dadd s (dscale p.2 (bndM u ls (p.1, d * p.2)).at_.v))
      have h2 := nb2_add s (dscale p.2 (bndM u ls (p.1, d * p.2)).at_.v)
      have h3 := nb2_scale p.2 (bndM u ls (p.1, d * p.2)).at_.v
      have h4 := (bnd_ok h u (p.1, d * p.2)).2
      dsimp only at h4
      omega
  have := this l (0, 0)
  rw [nb2_zero] at this
  exact this
theorem nbs_sub {l m : List (Int × Rat)} (h : l.Sublist m) : nbs l ≤ nbs m := by
  induction h with
  | slnil => exact Nat.le_refl _
  | cons a h ih => simp only [nbs]; omega
  | cons_cons a h ih => simp only [nbs]; omega
theorem sum_ok' {ls : List LL} (h : LsOk ls) (u : Bool) {e : List (Int × Rat)} (hN : NF e) (hs : nbs e ≤ 268435456) (k : Nat) (hk : k < e.length) : SumOk u ls (solved e k) := by
  have hl := nbs_len e
  have hkm : e.getD k default ∈ e := by simp [List.getD_eq_getElem?_getD, hk]
  have hmem : ∀ p ∈ e, nb p.2 ≤ nbs e := fun p hp => Nat.le_trans (nbv_mem hp) (nbv_le_nbs _ _)
  have hck := hmem _ hkm
  refine ⟨by rw [solved_len hk]; omega, fun m hm => ?_, fun i => ?_⟩
  · simp only [solved, scaleF, List.mem_map] at hm
    obtain ⟨p, hp, rfl⟩ := hm
    have hpe := hmem p ((List.eraseIdx_sublist _ _).subset hp)
    have h1 := nb_mul (-(e.getD k default).2⁻¹) p.2
    rw [nb_neg, nb_inv] at h1
    obtain ⟨h2, h3⟩ := bnd_ok h u (p.1, -(e.getD k default).2⁻¹ * p.2)
    have h4 := (lim_ok h p.1).2.2
    dsimp only at h3 ⊢
    exact ⟨by omega, h2, by omega⟩
  · have h0 : (solved e k).take i = scaleF (-(e.getD k default).2⁻¹) ((e.eraseIdx k).take i) := by simp [solved, scaleF, List.map_take]
    rw [h0, sumA_scale]
    have hsub : ((e.eraseIdx k).take i).Sublist e := (List.take_sublist _ _).trans (List.eraseIdx_sublist _ _)
    have hN' : NF ((e.eraseIdx k).take i) := ⟨hN.lt.sublist hsub, fun p hp => hN.nz p (hsub.subset hp)⟩
    have h1 := nb2_scale (-(e.getD k default).2⁻¹) (sumE u ls (-(e.getD k default).2⁻¹) ((e.eraseIdx k).take i))
    rw [nb_neg, nb_inv] at h1
    have h2 := sumE_nb h u (-(e.getD k default).2⁻¹) ((e.eraseIdx k).take i)
    have h3 := lim_over ls hN'
    have h4 := nbs_sub hsub
    have h5 := nbs_len ((e.eraseIdx k).take i)
    have h6 := h.sz
    omega
end Go.Proofs.YtjkjapjcmbfkgaaGreat.Vm

/-
  A row's equation, all that it implies: the reference, the program.
-/
namespace Go.Proofs.YtjkjapjcmbfkgaaGreat.Vm
open Go Go.RowKit
set_option maxRecDepth 100000
set_option linter.unusedVariables false
set_option linter.unusedSimpArgs false
theorem sPd {G G' : Prop} (h : G') (e : G = G' := by conv => lhs; simp (disch := omega) only [rowsOf, cNat, cN, St.ret, St.seth, Eff.app, Eff.wi, sepL, guardOf, St.known, objOf, List.set, sliceW, litW, copyW, lenOf, bnd, mxOk, ofCells, TI.isAgg, cellsOf, storable, AV.one, dead, laid, overlay, reduceCtorEq, Int.reduceLE, Int.reduceLT, Int.reduceSub, Int.reduceAdd, Nat.reduceMul, Int.reduceToNat, Nat.reducePow, Int.reduceNeg, Nat.reduceAdd, Nat.reduceLT, Nat.reduceLeDiff, sA, sB, Nat.reduceEqDiff, cQ, rowM, rowQ, tab_length, List.take_length, List.length_append, tab_drop, tab_take, tab_append, tab_nil, rowQ_all, rowQ_one, rowQ_pure, rowM_all, rowM_one, rowM_pure, rowI_all, rowI_one, rowI_pure, sT]) : G := e.mpr h
theorem sPdV {G G' : Prop} (h : G') (e : G = G' := by conv => lhs; simp (disch := omega) only [rowsOf, cNat, cN, St.ret, St.seth, Eff.app, Eff.wi, sepL, guardOf, St.known, objOf, List.set, sliceW, litW, copyW, lenOf, bnd, mxOk, ofCells, TI.isAgg, cellsOf, storable, AV.one, dead, laid, overlay, reduceCtorEq, Int.reduceLE, Int.reduceLT, Int.reduceSub, Int.reduceAdd, Nat.reduceMul, Int.reduceToNat, Nat.reducePow, Int.reduceNeg, Nat.reduceAdd, Nat.reduceLT, Nat.reduceLeDiff, sA, sB, Nat.reduceEqDiff, cQ, rowM, rowQ, tab_length, List.take_length, List.length_append, tab_drop, tab_take, tab_append, tab_nil, rowQ_all, rowQ_one, rowQ_pure, rowM_all, rowM_one, rowM_pure, rowI_all, rowI_one, rowI_pure, sT, view_sref, viewRef, view_agg, views_cons, views_nil, view_bool, view_int, view_sl, view_nils, view_str, view_tup, view_nilif]) : G := e.mpr h
theorem aPd {G G' : Prop} (h : G') (f : Wr G' → G := by intro h; (repeat (first | (refine W_seqV fun K hK => ?_; (try (refine sPd ?_; try exact True.intro)); (repeat refine aI ?_); refine hK _ ?_; clear hK K) | (refine W_seqR fun K hK => ?_; (try (refine sPd ?_; try exact True.intro)); (repeat refine aI ?_); refine hK _ ?_; clear hK K) | (refine W_seqD mixed [] (by kernel_rfl) fun K hK => ?_; (try (refine sPd ?_; try exact True.intro)); (repeat refine aI ?_); refine hK _ ?_; clear hK K))); exact h.out) : G := f ⟨h⟩
structure Rw where
  basic : Int
  form : List (Int × RR)
def Rw.cells (r : Rw) : List AV := [.int .i64 r.basic, .sl (tab rowM r.form)]
structure RwOk (r : Rw) : Prop where
  form : FOk r.form 67108864
  nbs : nbs (vals r.form) ≤ 67108864
def eqnF (r : Rw) : List (Int × Rat) := subF (vals r.form) [(r.basic, 1)]
theorem eqn_nf (r : Rw) : NF (eqnF r) := NF.sub _ _
theorem one_ne : ((1 : Rat)) ≠ 0 := by decide
theorem norm_one (b : Int) : normF [(b, (1 : Rat))] = [(b, 1)] := norm_self (NF.cons NF.nil one_ne fun q hq => by cases hq)
theorem eqn_nbs {r : Rw} (h : RwOk r) : nbs (eqnF r) ≤ 67108866 := by
  unfold eqnF subF
  rw [norm_one]
  have h1 := nbs_norm (vals r.form ++ negF [(r.basic, 1)])
  rw [nbs_append] at h1
  have h2 : nbs (negF [(r.basic, (1 : Rat))]) = 2 := by
    simp only [negF, scaleF, List.map_cons, List.map_nil, nbs, Rat.mul_one, nb_m1]
  have := h.nbs
  omega
theorem one_fok (b : Int) : FOk (rf [(b, (1 : Rat))]) 2 := FOk.rf ⟨fun v => by simp only [nbv]; split <;> simp [nb_one], by simp⟩ (by omega)
def rowI (i : II) : List AV := i.cells
theorem rowI_all (f : List II) : AllLen 9 (tab rowI f) := tab_all (k := 9) (fun _ => rfl) f
theorem rowI_one (f : List II) : AllOne (tab rowI f) := tab_one (fun _ => rfl) f
theorem rowI_pure (f : List II) : AllPure (tab rowI f) := tab_pure (fun _ => rfl) f
instance : Inhabited II := ⟨zeroI⟩
/-- What a row implies: of its first variables. -/
def rowsTo (ls : List LL) (e : List (Int × Rat)) : Nat → List II
  | 0 => []
  | k + 1 => rowsTo ls e k ++ (impR false ls e k).toList ++ (impR true ls e k).toList
theorem opt_len (o : Option II) : o.toList.length ≤ 1 := by cases o <;> simp
theorem rowsTo_len (ls : List LL) (e : List (Int × Rat)) : ∀ k, (rowsTo ls e k).length ≤ 2 * k
  | 0 => Nat.le_refl _
  | k + 1 => by
    have := rowsTo_len ls e k
    have h1 := opt_len (impR false ls e k)
    have h2 := opt_len (impR true ls e k)
    simp only [rowsTo, List.length_append]
    omega

theorem f10eqn_ok (r : Rw) (h : RwOk r) : Pure Tryz.prog 14 [.agg r.cells] (· = .sl (tab rowQ (eqnF r))) := by
  have hw := f3whole_ok 1 (by omega) (by omega)
  have h1e : ((1 : Int) : Rat) = 1 := rfl
  rw [h1e] at hw
  have hs := f6sub_ok r.form (rf [(r.basic, 1)]) (h.form.pf (by omega)) ((one_fok r.basic).pf (by omega)) (by
    intro p hp
    simp only [rf, List.map_cons, List.map_nil, List.mem_singleton] at hp
    subst hp
    simp only [qr_v, nb_one]
    omega) (by have := h.form.len; simp [rf]; omega) (by omega)
  rw [vals_rf, cF_rf] at hs
  change Pure _ _ _ (· = cL (eqnF r)) at hs
  generalize eqnF r = e at *
  have ht : tab rowQ [(r.basic, (1 : Rat))] = [[.int .i64 r.basic, .bool (decide ((1 : Rat).num < 0)), .sl (u32s (limbs (1 : Rat).num.natAbs)), .sl (u32s (limbs (1 : Rat).den))]] := rfl
  obtain ⟨b, f⟩ := r
  simp only [Rw.cells, cF, cL, ht, cQ] at *
  generalize (1 : Rat) = q at *
  (refine pureW Tryz.func14 rfl (rs := [Go.ResultVar.tmp 2]) rfl (n := 11) rfl ?_; simp only [List.length_cons, List.length_nil, List.replicate, List.cons_append, List.nil_append])
  (refine aPd ?_)
  ((first | refine W_seqD mixed [] (by kernel_rfl) ?_ | refine W_seq (W_seqD mixed [] (by kernel_rfl) ?_) | refine W_regD mixed [] (by kernel_rfl) ?_); intro K hK; (refine sPd ?_; try exact True.intro))
  ((repeat refine aI ?_); refine ⟨by kernel_rfl, rfl, _, hw, ?_⟩; (try (refine sPd ?_; try exact True.intro)); (repeat refine aI ?_))
  ((repeat refine aI ?_); refine ⟨by kernel_rfl, rfl, _, hs, ?_⟩; (try (refine sPd ?_; try exact True.intro)); (repeat refine aI ?_))
  ((repeat refine aI ?_); refine hK _ ?_; clear hK K)
  refine W_ret ?_
  (refine qG ?_; try exact True.intro); try (refine sPdV ?_; try exact True.intro)
theorem ieqn_ok (r : Rw) (h : RwOk r) : Pure Tryz.prog 51 [.agg r.cells] (· = .sl (tab rowQ (eqnF r))) := by
  have hw := rwhole_ok 1 (by omega) (by omega)
  have h1e : ((1 : Int) : Rat) = 1 := rfl
  rw [h1e] at hw
  have hs := lsub_ok r.form (rf [(r.basic, 1)]) h.form (one_fok r.basic) (by omega)
  rw [vals_rf, cF_rf] at hs
  change Pure _ _ _ (· = cL (eqnF r)) at hs
  generalize eqnF r = e at *
  have ht : tab rowQ [(r.basic, (1 : Rat))] = [[.int .i64 r.basic, .bool (decide ((1 : Rat).num < 0)), .sl (u32s (limbs (1 : Rat).num.natAbs)), .sl (u32s (limbs (1 : Rat).den))]] := rfl
  obtain ⟨b, f⟩ := r
  simp only [Rw.cells, cF, cL, ht, cQ] at *
  generalize (1 : Rat) = q at *
  (refine pureW Tryz.func51 rfl (rs := [Go.ResultVar.tmp 2]) rfl (n := 11) rfl ?_; simp only [List.length_cons, List.length_nil, List.replicate, List.cons_append, List.nil_append])
  (refine aPd ?_)
  ((first | refine W_seqD mixed [] (by kernel_rfl) ?_ | refine W_seq (W_seqD mixed [] (by kernel_rfl) ?_) | refine W_regD mixed [] (by kernel_rfl) ?_); intro K hK; (refine sPd ?_; try exact True.intro))
  ((repeat refine aI ?_); refine ⟨by kernel_rfl, rfl, _, hw, ?_⟩; (try (refine sPd ?_; try exact True.intro)); (repeat refine aI ?_))
  ((repeat refine aI ?_); refine ⟨by kernel_rfl, rfl, _, hs, ?_⟩; (try (refine sPd ?_; try exact True.intro)); (repeat refine aI ?_))
  ((repeat refine aI ?_); refine hK _ ?_; clear hK K)
  refine W_ret ?_
  (refine qG ?_; try exact True.intro); try (refine sPdV ?_; try exact True.intro)
end Go.Proofs.YtjkjapjcmbfkgaaGreat.Vm

/-
  All that a row implies: the program.
-/
namespace Go.Proofs.YtjkjapjcmbfkgaaGreat.Vm
open Go Go.RowKit
set_option maxRecDepth 100000
set_option linter.unusedVariables false
set_option linter.unusedSimpArgs false
theorem sPe {G G' : Prop} (h : G') (e : G = G' := by conv => lhs; simp (disch := omega) only [rowsOf, cNat, cN, St.ret, St.seth, Eff.app, Eff.wi, sepL, guardOf, St.known, objOf, List.set, sliceW, litW, copyW, lenOf, bnd, mxOk, ofCells, TI.isAgg, cellsOf, storable, AV.one, dead, laid, overlay, reduceCtorEq, Int.reduceLE, Int.reduceLT, Int.reduceSub, Int.reduceAdd, Nat.reduceMul, Int.reduceToNat, Nat.reducePow, Int.reduceNeg, Nat.reduceAdd, Nat.reduceLT, Nat.reduceLeDiff, sA, sB, Nat.reduceEqDiff, cQ, rowM, i64s_length, i64s_getD, i64s_all, tab_length, List.take_length, List.length_append, tab_drop, tab_take, tab_append, tab_nil, rowQ_all, rowQ_one, rowQ_pure, rowM_all, rowM_one, rowM_pure, rowI_all, rowI_one, rowI_pure, sT]) : G := e.mpr h
theorem sPeX {G G' P : Prop} (p : P) (h : G') (e : P → G = G' := by intro p; conv => lhs; simp (disch := omega) only [rowsOf, cNat, cN, St.ret, St.seth, Eff.app, Eff.wi, sepL, guardOf, St.known, objOf, List.set, sliceW, litW, copyW, lenOf, bnd, mxOk, ofCells, TI.isAgg, cellsOf, storable, AV.one, dead, laid, overlay, reduceCtorEq, Int.reduceLE, Int.reduceLT, Int.reduceSub, Int.reduceAdd, Nat.reduceMul, Int.reduceToNat, Nat.reducePow, Int.reduceNeg, Nat.reduceAdd, Nat.reduceLT, Nat.reduceLeDiff, sA, sB, Nat.reduceEqDiff, cQ, rowM, i64s_length, i64s_getD, i64s_all, tab_length, List.take_length, List.length_append, tab_drop, tab_take, tab_append, tab_nil, rowQ_all, rowQ_one, rowQ_pure, rowM_all, rowM_one, rowM_pure, rowI_all, rowI_one, rowI_pure, sT, p]) : G := (e p).mpr h
theorem sPeV {G G' : Prop} (h : G') (e : G = G' := by conv => lhs; simp (disch := omega) only [rowsOf, cNat, cN, St.ret, St.seth, Eff.app, Eff.wi, sepL, guardOf, St.known, objOf, List.set, sliceW, litW, copyW, lenOf, bnd, mxOk, ofCells, TI.isAgg, cellsOf, storable, AV.one, dead, laid, overlay, reduceCtorEq, Int.reduceLE, Int.reduceLT, Int.reduceSub, Int.reduceAdd, Nat.reduceMul, Int.reduceToNat, Nat.reducePow, Int.reduceNeg, Nat.reduceAdd, Nat.reduceLT, Nat.reduceLeDiff, sA, sB, Nat.reduceEqDiff, cQ, rowM, i64s_length, i64s_getD, i64s_all, tab_length, List.take_length, List.length_append, tab_drop, tab_take, tab_append, tab_nil, rowQ_all, rowQ_one, rowQ_pure, rowM_all, rowM_one, rowM_pure, rowI_all, rowI_one, rowI_pure, sT, view_sref, viewRef, view_agg, views_cons, views_nil, view_bool, view_int, view_sl, view_nils, view_str, view_tup, view_nilif]) : G := e.mpr h
theorem aPe {G G' : Prop} (h : G') (f : Wr G' → G := by intro h; (repeat (first | (refine W_seqV fun K hK => ?_; (try (refine sPe ?_; try exact True.intro)); (repeat refine aI ?_); refine hK _ ?_; clear hK K) | (refine W_seqR fun K hK => ?_; (try (refine sPe ?_; try exact True.intro)); (repeat refine aI ?_); refine hK _ ?_; clear hK K) | (refine W_seqD mixed [] (by kernel_rfl) fun K hK => ?_; (try (refine sPe ?_; try exact True.intro)); (repeat refine aI ?_); refine hK _ ?_; clear hK K))); exact h.out) : G := f ⟨h⟩

theorem delF_erase {e : List (Int × Rat)} (h : NF e) : ∀ {k : Nat}, k < e.length → delF e (e.getD k default).1 = e.eraseIdx k := by
  induction e with
  | nil => intro k hk; simp at hk
  | cons p e ih =>
    intro k hk
    have hne : ∀ q ∈ e, ¬ q.1 = p.1 := fun q hq he => by have := h.head q hq; omega
    cases k with
    | zero =>
      simp only [List.getD_cons_zero, List.eraseIdx_cons_zero]
      unfold delF
      rw [List.filter_cons, if_neg (by simp)]
      exact delF_none (v := p.1) hne
    | succ k =>
      simp only [List.getD_cons_succ, List.eraseIdx_cons_succ]
      have hk' : k < e.length := by simpa using hk
      have hm : e.getD k default ∈ e := by simp [List.getD_eq_getElem?_getD, hk']
      have h1 := ih h.tail hk'
      unfold delF at h1 ⊢
      rw [List.filter_cons, if_pos (by have := hne _ hm; simp; intro he; exact this he.symm), h1]
theorem isolve_ok {e : List (Int × Rat)} (hN : NF e) {k : Nat} (hk : k < e.length) (hs : nbs e ≤ 268435456) :
    Pure Tryz.prog 53 [.agg [.sl (tab rowQ e), .bool false, .sl [], .sl []], .int .i64 (e.getD k default).1] (· = .tup [.agg (affQ (solved e k) 0), .int .i64 0]) := by
  have hm : e.getD k default ∈ e := by simp [List.getD_eq_getElem?_getD, hk]
  have hc := hN.coef_zero hm
  have hf : FOk (rf e) (nbs e) := FOk.rf (Sz.of e) (by omega)
  have h := lsolve_ok (rf e) (e.getD k default).1 hf (by omega) (by rw [vals_rf, hc]; exact hN.nz _ hm)
  rw [vals_rf, hc, norm_self hN, delF_erase hN hk] at h
  simp only [affM, zeroR, tab_rf, show u32s [] = [] from rfl] at h
  exact h
set_option maxHeartbeats 16000000 in
theorem irow_ok (r : Rw) (ls : List LL) (h : RwOk r) (hL : LsOk ls) : Pure Tryz.prog 15 [.agg r.cells, .sl (tab rowL ls)] (· = .sl (tab rowI (rowsTo ls (eqnF r) (eqnF r).length))) := by
  have he := ieqn_ok r h
  have hN := eqn_nf r
  have hb := eqn_nbs h
  generalize eqnF r = e at *
  have hl := nbs_len e
  have hv := lvars_ok (rf e) (B := nbs e) (FOk.rf (Sz.of e) (by omega)) (by omega)
  rw [vals_rf, norm_self hN, cF_rf] at hv
  have hso := fun k (hk : k < e.length) => isolve_ok hN hk (by omega)
  have hsu := fun k (hk : k < e.length) => isum_ok false ls (solved e k) (sum_ok' hL false hN (by omega) k hk)
  have hsv := fun k (hk : k < e.length) => isum_ok true ls (solved e k) (sum_ok' hL true hN (by omega) k hk)
  have hR := rowsTo_len ls e
  have r0 : rowsTo ls e 0 = [] := rfl
  have r1 : ∀ k, rowsTo ls e (k + 1) = rowsTo ls e k ++ (impR false ls e k).toList ++ (impR true ls e k).toList := fun _ => rfl
  have hvl : (e.map (·.1)).length = e.length := by simp
  have hva : ∀ k, k < e.length → (e.map (·.1)).getD k 0 = (e.getD k default).1 := fun k hk => by simp [List.getD_eq_getElem?_getD, hk]
  generalize rowsTo ls e = R at *
  generalize e.map (·.1) = V at *
  obtain ⟨b, f⟩ := r
  simp only [Rw.cells, cL] at *
  (refine pureW Tryz.func15 rfl (rs := [Go.ResultVar.tmp 4]) rfl (n := 71) rfl ?_; simp only [List.length_cons, List.length_nil, List.replicate, List.cons_append, List.nil_append])
  (refine aPe ?_)
  ((first | refine W_seqV ?_ | refine W_seq (W_seqV ?_) | refine W_regV ?_); intro K hK; (refine sPe ?_; try exact True.intro))
  ((repeat refine aI ?_); refine ⟨by kernel_rfl, rfl, _, he, ?_⟩; (try (refine sPe ?_; try exact True.intro)); (repeat refine aI ?_))
  ((repeat refine aI ?_); refine hK _ ?_; clear hK K)
  refine W.le ?_ (Le_nil 5 5 49 9 true rfl rfl)
  simp only [List.set]
  refine W_seq ?_
  ((first | refine W_seqV ?_ | refine W_seq (W_seqV ?_) | refine W_regV ?_); intro K hK; (refine sPe ?_; try exact True.intro))
  ((repeat refine aI ?_); refine ⟨by kernel_rfl, rfl, _, hv, ?_⟩; (try (refine sPe ?_; try exact True.intro)); (repeat refine aI ?_))
  ((repeat refine aI ?_); refine hK _ ?_; clear hK K)
  rw [hvl]
  refine W_block (W_loop (fun t : {t : Nat // t ≤ e.length} =>
      ⟨(.any :: .any :: .any :: .any :: .any :: (.sref 5 0 (R t.1).length) :: (.ptr 6 0 0) :: (.sl (tab rowQ e)) :: .any :: .any :: .any :: .any :: .any :: .any :: .any :: .any :: .any :: .any :: .any :: .any :: .any :: (.sl (i64s V)) :: (.int .i64 e.length) :: (.int .i64 t.1) :: .any :: .any :: .any :: .any :: .any :: .any :: .any :: .any :: .any :: .any :: .any :: .any :: .any :: .any :: .any :: .any :: .any :: .any :: .any :: .any :: .any :: .any :: .any :: .any :: .any :: .any :: .any :: .any :: .any :: .any :: .any :: .any :: .any :: .any :: .any :: .any :: .any :: .any :: .any :: .any :: .any :: .any :: .any :: .any :: .any :: .any :: .any :: []), (.dead :: .dead :: .dead :: .dead :: .dead :: (.arr 49 9 true (tab rowI (R t.1))) :: (.arr 100 1 false [[.sl (tab rowL ls)]]) :: .dead :: .dead :: .dead :: .dead :: .dead :: .dead :: .dead :: .dead :: .dead :: .dead :: .dead :: .dead :: .dead :: .dead :: .dead :: .dead :: .dead :: .dead :: .dead :: .dead :: .dead :: .dead :: .dead :: .dead :: .dead :: .dead :: .dead :: .dead :: .dead :: .dead :: .dead :: .dead :: .dead :: .dead :: .dead :: .dead :: .dead :: .dead :: .dead :: .dead :: .dead :: .dead :: .dead :: .dead :: .dead :: .dead :: .dead :: .dead :: .dead :: .dead :: .dead :: .dead :: .dead :: .dead :: .dead :: .dead :: .dead :: .dead :: .dead :: .dead :: .dead :: .dead :: .dead :: .dead :: [])⟩) (fun t => e.length - t.1)
      ⟨0, by omega⟩ (Le_drop (by simp [leE, r0]) (by simp [leH, r0, tab]) rfl rfl) fun t => ?_)
  obtain ⟨k, hk⟩ := t
  dsimp only
  by_cases hlt : k < e.length
  · have h1 := hsu k hlt
    have h2 := hsv k hlt
    have hRk := hR k
    have hr1 := r1 k
    have hs1 := hso k hlt
    have hvk := hva k hlt
    have hkV : k < V.length := by omega
    unfold impR at hr1
    generalize (e.getD k default).1 = v at *
    generalize solved e k = S at *
    simp only [affQ] at hs1
    generalize (0 : Rat) = q0 at hs1
    unfold sumR at h1 h2
    generalize sumA false ls S = A1 at *
    generalize sumA true ls S = A2 at *
    generalize sumB false ls S = B1 at *
    generalize sumB true ls S = B2 at *
    simp only [sideF, Bool.false_eq_true, if_false, Bool.not_false, Bool.not_true, if_true] at h1 h2
    generalize R k = rk at *
    refine W_seq ?_
    ((first | refine W_seqV ?_ | refine W_seq (W_seqV ?_) | refine W_regV ?_); intro K hK; (refine sPeX hlt ?_; try exact True.intro))
    ((repeat refine aI ?_); refine hK _ ?_; clear hK K)
    refine W_seq ?_
    (first | refine W_cond rfl (fun _ => ?_) (fun h => by cases h) | refine W_seq (W_cond rfl (fun _ => ?_) (fun h => by cases h)))
    refine W_skip ?_
    simp only [thenW]
    refine W_seq ?_
    refine W_block ?_
    ((first | refine W_seqV ?_ | refine W_seq (W_seqV ?_) | refine W_regV ?_); intro K hK; (refine sPeX (And.intro hvk hkV) ?_; try exact True.intro))
    ((repeat refine aI ?_); refine hK _ ?_; clear hK K)
    ((first | refine W_seqV ?_ | refine W_seq (W_seqV ?_) | refine W_regV ?_); intro K hK; (refine sPe ?_; try exact True.intro))
    ((repeat refine aI ?_); refine ⟨by kernel_rfl, rfl, _, hs1, ?_⟩; (try (refine sPe ?_; try exact True.intro)); (repeat refine aI ?_))
    ((repeat refine aI ?_); refine hK _ ?_; clear hK K)
    cases ha1 : allH false ls S <;> cases ha2 : allH true ls S
    · rw [ha1, ha2] at hr1
      rw [ha1] at h1
      rw [ha2] at h2
      simp only [Bool.false_eq_true, if_false, if_true, Option.toList_some, Option.toList_none, List.append_nil] at hr1 h1 h2
      simp only [II.cells, dq, qr, tab_rf, zeroI, zeroD0, zeroR] at h1
      ((first | refine W_seqV ?_ | refine W_seq (W_seqV ?_) | refine W_regV ?_); intro K hK; (refine sPe ?_; try exact True.intro))
      ((repeat refine aI ?_); refine ⟨by kernel_rfl, rfl, _, h1, ?_⟩; (try (refine sPe ?_; try exact True.intro)); (repeat refine aI ?_))
      ((repeat refine aI ?_); refine hK _ ?_; clear hK K)
      refine W_seq ?_
      ((first | refine W_seqV ?_ | refine W_seq (W_seqV ?_) | refine W_regV ?_); intro K hK; (refine sPe ?_; try exact True.intro))
      ((repeat refine aI ?_); refine hK _ ?_; clear hK K)
      (first | refine W_cond rfl (fun h => by cases h) (fun _ => ?_) | refine W_seq (W_cond rfl (fun h => by cases h) (fun _ => ?_)))
      refine W_skip ?_
      simp only [thenW]
      simp only [II.cells, dq, qr, tab_rf, zeroI, zeroD0, zeroR] at h2
      ((first | refine W_seqV ?_ | refine W_seq (W_seqV ?_) | refine W_regV ?_); intro K hK; (refine sPe ?_; try exact True.intro))
      ((repeat refine aI ?_); refine ⟨by kernel_rfl, rfl, _, h2, ?_⟩; (try (refine sPe ?_; try exact True.intro)); (repeat refine aI ?_))
      ((repeat refine aI ?_); refine hK _ ?_; clear hK K)
      ((first | refine W_seqV ?_ | refine W_seq (W_seqV ?_) | refine W_regV ?_); intro K hK; (refine sPe ?_; try exact True.intro))
      ((repeat refine aI ?_); refine hK _ ?_; clear hK K)
      (first | refine W_cond rfl (fun h => by cases h) (fun _ => ?_) | refine W_seq (W_cond rfl (fun h => by cases h) (fun _ => ?_)))
      refine W_skip ?_
      simp only [blockW, thenW]
      ((first | refine W_seqV ?_ | refine W_seq (W_seqV ?_) | refine W_regV ?_); intro K hK; (refine sPe ?_; try exact True.intro))
      ((repeat refine aI ?_); refine hK _ ?_; clear hK K)
      simp only [blockW, thenW]
      refine ⟨⟨k + 1, by omega⟩, Le_drop (by simp [leE, hr1]) (by simp [leH, hr1, ← tab_append, tab_cons, tab_nil, rowI, II.cells, dq, qr, tab_rf, tab_take, List.take_of_length_le, tab_length]) rfl rfl, ?_⟩
      dsimp only
      omega
    · rw [ha1, ha2] at hr1
      rw [ha1] at h1
      rw [ha2] at h2
      simp only [Bool.false_eq_true, if_false, if_true, Option.toList_some, Option.toList_none, List.append_nil] at hr1 h1 h2
      simp only [II.cells, dq, qr, tab_rf, zeroI, zeroD0, zeroR] at h1
      ((first | refine W_seqV ?_ | refine W_seq (W_seqV ?_) | refine W_regV ?_); intro K hK; (refine sPe ?_; try exact True.intro))
      ((repeat refine aI ?_); refine ⟨by kernel_rfl, rfl, _, h1, ?_⟩; (try (refine sPe ?_; try exact True.intro)); (repeat refine aI ?_))
      ((repeat refine aI ?_); refine hK _ ?_; clear hK K)
      refine W_seq ?_
      ((first | refine W_seqV ?_ | refine W_seq (W_seqV ?_) | refine W_regV ?_); intro K hK; (refine sPe ?_; try exact True.intro))
      ((repeat refine aI ?_); refine hK _ ?_; clear hK K)
      (first | refine W_cond rfl (fun h => by cases h) (fun _ => ?_) | refine W_seq (W_cond rfl (fun h => by cases h) (fun _ => ?_)))
      refine W_skip ?_
      simp only [thenW]
      simp only [II.cells, dq, qr, tab_rf] at h2
      ((first | refine W_seqV ?_ | refine W_seq (W_seqV ?_) | refine W_regV ?_); intro K hK; (refine sPe ?_; try exact True.intro))
      ((repeat refine aI ?_); refine ⟨by kernel_rfl, rfl, _, h2, ?_⟩; (try (refine sPe ?_; try exact True.intro)); (repeat refine aI ?_))
      ((repeat refine aI ?_); refine hK _ ?_; clear hK K)
      ((first | refine W_seqV ?_ | refine W_seq (W_seqV ?_) | refine W_regV ?_); intro K hK; (refine sPe ?_; try exact True.intro))
      ((repeat refine aI ?_); refine hK _ ?_; clear hK K)
      (first | refine W_cond rfl (fun _ => ?_) (fun h => by cases h) | refine W_seq (W_cond rfl (fun _ => ?_) (fun h => by cases h)))
      refine W_seq ?_
      ((first | refine W_seqV ?_ | refine W_seq (W_seqV ?_) | refine W_regV ?_); intro K hK; (refine sPe ?_; try exact True.intro))
      ((repeat refine aI ?_); refine hK _ ?_; clear hK K)
      simp only [thenW]
      ((first | refine W_seqR ?_ | refine W_seq (W_seqR ?_) | refine W_regR ?_); intro K hK; (refine sPeX hlt ?_; try exact True.intro))
      ((repeat refine aI ?_); refine hK _ ?_; clear hK K)
      simp only [blockW, thenW]
      ((first | refine W_seqV ?_ | refine W_seq (W_seqV ?_) | refine W_regV ?_); intro K hK; (refine sPe ?_; try exact True.intro))
      ((repeat refine aI ?_); refine hK _ ?_; clear hK K)
      simp only [blockW, thenW]
      refine ⟨⟨k + 1, by omega⟩, Le_drop (by simp [leE, hr1]) (by simp [leH, hr1, ← tab_append, tab_cons, tab_nil, rowI, II.cells, dq, qr, tab_rf, tab_take, List.take_of_length_le, tab_length]) rfl rfl, ?_⟩
      dsimp only
      omega
    · rw [ha1, ha2] at hr1
      rw [ha1] at h1
      rw [ha2] at h2
      simp only [Bool.false_eq_true, if_false, if_true, Option.toList_some, Option.toList_none, List.append_nil] at hr1 h1 h2
      simp only [II.cells, dq, qr, tab_rf] at h1
      ((first | refine W_seqV ?_ | refine W_seq (W_seqV ?_) | refine W_regV ?_); intro K hK; (refine sPe ?_; try exact True.intro))
      ((repeat refine aI ?_); refine ⟨by kernel_rfl, rfl, _, h1, ?_⟩; (try (refine sPe ?_; try exact True.intro)); (repeat refine aI ?_))
      ((repeat refine aI ?_); refine hK _ ?_; clear hK K)
      refine W_seq ?_
      ((first | refine W_seqV ?_ | refine W_seq (W_seqV ?_) | refine W_regV ?_); intro K hK; (refine sPe ?_; try exact True.intro))
      ((repeat refine aI ?_); refine hK _ ?_; clear hK K)
      (first | refine W_cond rfl (fun _ => ?_) (fun h => by cases h) | refine W_seq (W_cond rfl (fun _ => ?_) (fun h => by cases h)))
      refine W_seq ?_
      ((first | refine W_seqV ?_ | refine W_seq (W_seqV ?_) | refine W_regV ?_); intro K hK; (refine sPe ?_; try exact True.intro))
      ((repeat refine aI ?_); refine hK _ ?_; clear hK K)
      simp only [thenW]
      ((first | refine W_seqR ?_ | refine W_seq (W_seqR ?_) | refine W_regR ?_); intro K hK; (refine sPeX hlt ?_; try exact True.intro))
      ((repeat refine aI ?_); refine hK _ ?_; clear hK K)
      simp only [thenW]
      simp only [II.cells, dq, qr, tab_rf, zeroI, zeroD0, zeroR] at h2
      ((first | refine W_seqV ?_ | refine W_seq (W_seqV ?_) | refine W_regV ?_); intro K hK; (refine sPe ?_; try exact True.intro))
      ((repeat refine aI ?_); refine ⟨by kernel_rfl, rfl, _, h2, ?_⟩; (try (refine sPe ?_; try exact True.intro)); (repeat refine aI ?_))
      ((repeat refine aI ?_); refine hK _ ?_; clear hK K)
      ((first | refine W_seqV ?_ | refine W_seq (W_seqV ?_) | refine W_regV ?_); intro K hK; (refine sPe ?_; try exact True.intro))
      ((repeat refine aI ?_); refine hK _ ?_; clear hK K)
      (first | refine W_cond rfl (fun h => by cases h) (fun _ => ?_) | refine W_seq (W_cond rfl (fun h => by cases h) (fun _ => ?_)))
      refine W_skip ?_
      simp only [blockW, thenW]
      ((first | refine W_seqV ?_ | refine W_seq (W_seqV ?_) | refine W_regV ?_); intro K hK; (refine sPe ?_; try exact True.intro))
      ((repeat refine aI ?_); refine hK _ ?_; clear hK K)
      simp only [blockW, thenW]
      refine ⟨⟨k + 1, by omega⟩, Le_drop (by simp [leE, hr1]) (by simp [leH, hr1, ← tab_append, tab_cons, tab_nil, rowI, II.cells, dq, qr, tab_rf, tab_take, List.take_of_length_le, tab_length]) rfl rfl, ?_⟩
      dsimp only
      omega
    · rw [ha1, ha2] at hr1
      rw [ha1] at h1
      rw [ha2] at h2
      simp only [Bool.false_eq_true, if_false, if_true, Option.toList_some, Option.toList_none, List.append_nil] at hr1 h1 h2
      simp only [II.cells, dq, qr, tab_rf] at h1
      ((first | refine W_seqV ?_ | refine W_seq (W_seqV ?_) | refine W_regV ?_); intro K hK; (refine sPe ?_; try exact True.intro))
      ((repeat refine aI ?_); refine ⟨by kernel_rfl, rfl, _, h1, ?_⟩; (try (refine sPe ?_; try exact True.intro)); (repeat refine aI ?_))
      ((repeat refine aI ?_); refine hK _ ?_; clear hK K)
      refine W_seq ?_
      ((first | refine W_seqV ?_ | refine W_seq (W_seqV ?_) | refine W_regV ?_); intro K hK; (refine sPe ?_; try exact True.intro))
      ((repeat refine aI ?_); refine hK _ ?_; clear hK K)
      (first | refine W_cond rfl (fun _ => ?_) (fun h => by cases h) | refine W_seq (W_cond rfl (fun _ => ?_) (fun h => by cases h)))
      refine W_seq ?_
      ((first | refine W_seqV ?_ | refine W_seq (W_seqV ?_) | refine W_regV ?_); intro K hK; (refine sPe ?_; try exact True.intro))
      ((repeat refine aI ?_); refine hK _ ?_; clear hK K)
      simp only [thenW]
      ((first | refine W_seqR ?_ | refine W_seq (W_seqR ?_) | refine W_regR ?_); intro K hK; (refine sPeX hlt ?_; try exact True.intro))
      ((repeat refine aI ?_); refine hK _ ?_; clear hK K)
      simp only [thenW]
      simp only [II.cells, dq, qr, tab_rf] at h2
      ((first | refine W_seqV ?_ | refine W_seq (W_seqV ?_) | refine W_regV ?_); intro K hK; (refine sPe ?_; try exact True.intro))
      ((repeat refine aI ?_); refine ⟨by kernel_rfl, rfl, _, h2, ?_⟩; (try (refine sPe ?_; try exact True.intro)); (repeat refine aI ?_))
      ((repeat refine aI ?_); refine hK _ ?_; clear hK K)
      ((first | refine W_seqV ?_ | refine W_seq (W_seqV ?_) | refine W_regV ?_); intro K hK; (refine sPe ?_; try exact True.intro))
      ((repeat refine aI ?_); refine hK _ ?_; clear hK K)
      (first | refine W_cond rfl (fun _ => ?_) (fun h => by cases h) | refine W_seq (W_cond rfl (fun _ => ?_) (fun h => by cases h)))
      refine W_seq ?_
      ((first | refine W_seqV ?_ | refine W_seq (W_seqV ?_) | refine W_regV ?_); intro K hK; (refine sPe ?_; try exact True.intro))
      ((repeat refine aI ?_); refine hK _ ?_; clear hK K)
      simp only [thenW]
      ((first | refine W_seqR ?_ | refine W_seq (W_seqR ?_) | refine W_regR ?_); intro K hK; (refine sPeX hlt ?_; try exact True.intro))
      ((repeat refine aI ?_); refine hK _ ?_; clear hK K)
      simp only [blockW, thenW]
      ((first | refine W_seqV ?_ | refine W_seq (W_seqV ?_) | refine W_regV ?_); intro K hK; (refine sPe ?_; try exact True.intro))
      ((repeat refine aI ?_); refine hK _ ?_; clear hK K)
      simp only [blockW, thenW]
      refine ⟨⟨k + 1, by omega⟩, Le_drop (by simp [leE, hr1]) (by simp [leH, hr1, ← tab_append, tab_cons, tab_nil, rowI, II.cells, dq, qr, tab_rf, tab_take, List.take_of_length_le, tab_length]) rfl rfl, ?_⟩
      dsimp only
      omega
  · obtain rfl : k = e.length := by omega
    refine W_seq ?_
    ((first | refine W_seqV ?_ | refine W_seq (W_seqV ?_) | refine W_regV ?_); intro K hK; (refine sPe ?_; try exact True.intro))
    ((repeat refine aI ?_); refine hK _ ?_; clear hK K)
    refine W_seq ?_
    (first | refine W_cond rfl (fun h => by cases h) (fun _ => ?_) | refine W_seq (W_cond rfl (fun h => by cases h) (fun _ => ?_)))
    refine W_exit ?_
    simp only [thenW, blockW, if_true]
    ((first | refine W_seqV ?_ | refine W_seq (W_seqV ?_) | refine W_regV ?_); intro K hK; (refine sPe ?_; try exact True.intro))
    ((repeat refine aI ?_); refine hK _ ?_; clear hK K)
    refine W_ret ?_
    (refine qG ?_; try exact True.intro); try (refine sPeV ?_; try exact True.intro)
end Go.Proofs.YtjkjapjcmbfkgaaGreat.Vm

/-
  Sameness to the last limb: of what is the same.
-/
namespace Go.Proofs.YtjkjapjcmbfkgaaGreat.Vm
open Go Go.RowKit
set_option maxRecDepth 100000
set_option linter.unusedVariables false
set_option linter.unusedSimpArgs false
end Go.Proofs.YtjkjapjcmbfkgaaGreat.Vm

/-
  Implied: tighter; sameness of implied bounds.
-/
namespace Go.Proofs.YtjkjapjcmbfkgaaGreat.Vm
open Go Go.RowKit
set_option maxRecDepth 100000
set_option linter.unusedVariables false
set_option linter.unusedSimpArgs false
structure IIok (i : II) : Prop where
  at_ : i.at_.ok
  nb : nb2 i.at_.v ≤ 4294967296
  by_ : ∀ p ∈ i.by_, p.2.ok
  len : i.by_.length < 1099511627776
  nbb : ∀ p ∈ i.by_, Vm.nb p.2.v ≤ 4294967296
theorem rows_ok {ls : List LL} (hL : LsOk ls) {e : List (Int × Rat)} (hN : NF e) (hs : nbs e ≤ 268435456) : ∀ n, n ≤ e.length → ∀ i ∈ rowsTo ls e n, IIok i
  | 0, _, i, hi => by cases hi
  | n + 1, hn, i, hi => by
    have hl := nbs_len e
    have hone : ∀ u, ∀ i ∈ (impR u ls e n).toList, IIok i := fun u i hi => by
      unfold impR at hi
      split at hi
      · simp only [Option.toList_some, List.mem_singleton] at hi
        subst hi
        have hS := sum_ok' hL u hN hs n (by omega)
        have hp : nb2 (sumA u ls (solved e n)) ≤ 4294967296 := by have := hS.pre (solved e n).length; rwa [List.take_length] at this
        refine ⟨dq_ok (by omega), by rw [dq_v]; exact hp, fun p hp => ?_, ?_, fun p hp => ?_⟩
        · simp only [rf, sumB, List.mem_map] at hp
          obtain ⟨_, ⟨m, hm, rfl⟩, rfl⟩ := hp
          exact qr_ok (by dsimp only; rw [nb_abs]; have := (hS.part m hm).1; omega)
        · simp only [rf, sumB, List.length_map, solved_len (show n < e.length by omega)]; omega
        · simp only [rf, sumB, List.mem_map] at hp
          obtain ⟨_, ⟨m, hm, rfl⟩, rfl⟩ := hp
          simp only [qr_v, nb_abs]
          exact (hS.part m hm).1
      · cases hi
    rcases List.mem_append.1 hi with hi | hi
    · rcases List.mem_append.1 hi with hi | hi
      · exact rows_ok hL hN hs n (by omega) i hi
      · exact hone false i hi
    · exact hone true i hi
def isTight (ls : List LL) (i : II) : Bool :=
  if i.upper = true then !(limOf ls i.var).upper.has || decide (dsg (dsub i.at_.v (limOf ls i.var).upper.at_.v) < 0)
  else !(limOf ls i.var).lower.has || decide (0 < dsg (dsub i.at_.v (limOf ls i.var).lower.at_.v))
end Go.Proofs.YtjkjapjcmbfkgaaGreat.Vm

/-
  Implied: Tighter, of the program and of the reference.
-/
namespace Go.Proofs.YtjkjapjcmbfkgaaGreat.Vm
open Go Go.RowKit
set_option maxRecDepth 100000
set_option linter.unusedVariables false
set_option linter.unusedSimpArgs false
def tightTo (ls : List LL) (l : List II) (n : Nat) : List II := (l.take n).filter (isTight ls)
end Go.Proofs.YtjkjapjcmbfkgaaGreat.Vm

/-
  Implied: the reference's Tighter.
-/
namespace Go.Proofs.YtjkjapjcmbfkgaaGreat.Vm
open Go Go.RowKit
set_option maxRecDepth 100000
set_option linter.unusedVariables false
set_option linter.unusedSimpArgs false
end Go.Proofs.YtjkjapjcmbfkgaaGreat.Vm

/-
  Implied bounds held against themselves; ImpliedRows.
-/
namespace Go.Proofs.YtjkjapjcmbfkgaaGreat.Vm
open Go Go.RowKit
set_option maxRecDepth 100000
set_option linter.unusedVariables false
set_option linter.unusedSimpArgs false
end Go.Proofs.YtjkjapjcmbfkgaaGreat.Vm

/-
  Implied: Check, of the program and of the reference.
-/
namespace Go.Proofs.YtjkjapjcmbfkgaaGreat.Vm
open Go Go.RowKit
set_option maxRecDepth 100000
set_option linter.unusedVariables false
set_option linter.unusedSimpArgs false
theorem sPj {G G' : Prop} (h : G') (e : G = G' := by conv => lhs; simp (disch := omega) only [rowsOf, cNat, cN, St.ret, St.seth, Eff.app, Eff.wi, sepL, guardOf, St.known, objOf, List.set, sliceW, litW, copyW, lenOf, bnd, mxOk, ofCells, TI.isAgg, cellsOf, storable, AV.one, dead, laid, overlay, reduceCtorEq, Int.reduceLE, Int.reduceLT, Int.reduceSub, Int.reduceAdd, Nat.reduceMul, Int.reduceToNat, Nat.reducePow, Int.reduceNeg, Nat.reduceAdd, Nat.reduceLT, Nat.reduceLeDiff, sA, sB, Nat.reduceEqDiff, tab_length, List.take_length, tab_drop, tab_take, tab_nil, rowI_all, rowI_one, rowI_pure, rowL_all, rowL_one, rowL_pure, rowM_all, rowM_one, rowM_pure, sT]) : G := e.mpr h
theorem sPjX {G G' P : Prop} (p : P) (h : G') (e : P → G = G' := by intro p; conv => lhs; simp (disch := omega) only [rowsOf, cNat, cN, St.ret, St.seth, Eff.app, Eff.wi, sepL, guardOf, St.known, objOf, List.set, sliceW, litW, copyW, lenOf, bnd, mxOk, ofCells, TI.isAgg, cellsOf, storable, AV.one, dead, laid, overlay, reduceCtorEq, Int.reduceLE, Int.reduceLT, Int.reduceSub, Int.reduceAdd, Nat.reduceMul, Int.reduceToNat, Nat.reducePow, Int.reduceNeg, Nat.reduceAdd, Nat.reduceLT, Nat.reduceLeDiff, sA, sB, Nat.reduceEqDiff, tab_length, List.take_length, tab_drop, tab_take, tab_nil, rowI_all, rowI_one, rowI_pure, rowL_all, rowL_one, rowL_pure, rowM_all, rowM_one, rowM_pure, sT, p]) : G := (e p).mpr h
theorem sPjV {G G' : Prop} (h : G') (e : G = G' := by conv => lhs; simp (disch := omega) only [rowsOf, cNat, cN, St.ret, St.seth, Eff.app, Eff.wi, sepL, guardOf, St.known, objOf, List.set, sliceW, litW, copyW, lenOf, bnd, mxOk, ofCells, TI.isAgg, cellsOf, storable, AV.one, dead, laid, overlay, reduceCtorEq, Int.reduceLE, Int.reduceLT, Int.reduceSub, Int.reduceAdd, Nat.reduceMul, Int.reduceToNat, Nat.reducePow, Int.reduceNeg, Nat.reduceAdd, Nat.reduceLT, Nat.reduceLeDiff, sA, sB, Nat.reduceEqDiff, tab_length, List.take_length, tab_drop, tab_take, tab_nil, rowI_all, rowI_one, rowI_pure, rowL_all, rowL_one, rowL_pure, rowM_all, rowM_one, rowM_pure, sT, view_sref, viewRef, view_agg, views_cons, views_nil, view_bool, view_int, view_sl, view_nils, view_str, view_tup, view_nilif]) : G := e.mpr h
theorem aPj {G G' : Prop} (h : G') (f : Wr G' → G := by intro h; (repeat (first | (refine W_seqV fun K hK => ?_; (try (refine sPj ?_; try exact True.intro)); (repeat refine aI ?_); refine hK _ ?_; clear hK K) | (refine W_seqR fun K hK => ?_; (try (refine sPj ?_; try exact True.intro)); (repeat refine aI ?_); refine hK _ ?_; clear hK K) | (refine W_seqD mixed [] (by kernel_rfl) fun K hK => ?_; (try (refine sPj ?_; try exact True.intro)); (repeat refine aI ?_); refine hK _ ?_; clear hK K))); exact h.out) : G := f ⟨h⟩

def sameAt (a b : List (Int × RR)) (i : Nat) : Bool := ((a.getD i default).1 == (b.getD i default).1) && (rs ((a.getD i default).2.v - (b.getD i default).2.v) == 0)
def alikeB (a b : List (Int × RR)) : Bool := decide (a.length = b.length) && (List.range a.length).all (sameAt a b)
theorem alike_ne {a b : List (Int × RR)} (h : a.length ≠ b.length) : alikeB a b = false := by simp [alikeB, h]
theorem alike_no {a b : List (Int × RR)} {i : Nat} (hi : i < a.length) (h : sameAt a b i = false) : alikeB a b = false := by
  unfold alikeB
  have : (List.range a.length).all (sameAt a b) = false := by
    rw [Bool.eq_false_iff]
    intro h1
    have := List.all_eq_true.1 h1 i (List.mem_range.2 hi)
    rw [h] at this; cases this
  rw [this, Bool.and_false]
theorem alike_yes {a b : List (Int × RR)} (h : a.length = b.length) (h1 : ∀ i, i < a.length → sameAt a b i = true) : alikeB a b = true := by
  unfold alikeB
  rw [decide_eq_true h, Bool.true_and]
  exact List.all_eq_true.2 fun i hi => h1 i (List.mem_range.1 hi)
structure ByOk (l : List (Int × RR)) : Prop where
  ok : ∀ p ∈ l, p.2.ok ∧ nb p.2.v ≤ 4294967296
  len : l.length < 1099511627776
theorem ialike_ok (a b : List (Int × RR)) (ha : ByOk a) (hb : ByOk b) : Pure Tryz.prog 77 [.sl (tab rowM a), .sl (tab rowM b)] (· = .bool (alikeB a b)) := by
  have hal := ha.len
  have hbl := hb.len
  by_cases hl : a.length = b.length
  · have hz : ((a.length : Int) != (b.length : Int)) = false := by simp [hl]
    have hno := fun i hi => @alike_no a b i hi
    have hyes := alike_yes hl
    (refine pureW Tryz.func77 rfl (rs := [Go.ResultVar.tmp 4]) rfl (n := 42) rfl ?_; simp only [List.length_cons, List.length_nil, List.replicate, List.cons_append, List.nil_append])
    (refine aPj ?_)
    refine W_seq ?_
    ((first | refine W_seqV ?_ | refine W_seq (W_seqV ?_) | refine W_regV ?_); intro K hK; (refine sPjX hz ?_; try exact True.intro))
    ((repeat refine aI ?_); refine hK _ ?_; clear hK K)
    (first | refine W_cond rfl (fun h => by cases h) (fun _ => ?_) | refine W_seq (W_cond rfl (fun h => by cases h) (fun _ => ?_)))
    refine W_skip ?_
    simp only [thenW]
    refine W_seq ?_
    ((first | refine W_seqV ?_ | refine W_seq (W_seqV ?_) | refine W_regV ?_); intro K hK; (refine sPj ?_; try exact True.intro))
    ((repeat refine aI ?_); refine hK _ ?_; clear hK K)
    refine W_block (W_loop (fun t : {t : Nat // t ≤ a.length ∧ ∀ j, j < t → sameAt a b j = true} =>
      ⟨[.sl (tab rowM a), .sl (tab rowM b), .any, .any, .any, .any, .any, .any, .any, .any, .any, .any, .int .i64 a.length, .int .i64 t.1, .any, .any, .any, .any, .any, .any, .any, .any, .any, .any, .any, .any, .any, .any, .any, .any, .any, .any, .any, .any, .any, .any, .any, .any, .any, .any, .any, .any], [.dead, .dead, .dead, .dead, .dead, .dead, .dead, .dead, .dead, .dead, .dead, .dead, .dead, .dead, .dead, .dead, .dead, .dead, .dead, .dead, .dead, .dead, .dead, .dead, .dead, .dead, .dead, .dead, .dead, .dead, .dead, .dead, .dead, .dead, .dead, .dead, .dead, .dead, .dead, .dead, .dead, .dead]⟩) (fun t => a.length - t.1)
      ⟨0, by omega, by omega⟩ (Le_of (by simp [leE]) (by simp)) fun t => ?_)
    obtain ⟨i, hi, hbe⟩ := t
    dsimp only
    by_cases hlt : i < a.length
    · have hlt' : i < b.length := by omega
      have hXi : (tab rowM a).getD i [] = rowM (a.getD i default) := tab_getD hlt
      have hYi : (tab rowM b).getD i [] = rowM (b.getD i default) := tab_getD hlt'
      obtain ⟨o1, o2⟩ := ha.ok (a.getD i default) (by simp [List.getD_eq_getElem?_getD, hlt])
      obtain ⟨o3, o4⟩ := hb.ok (b.getD i default) (by simp [List.getD_eq_getElem?_getD, hlt'])
      have hcm := rcmp_ok (a.getD i default).2 (b.getD i default).2 o1 o3
      have hsa : sameAt a b i = (((a.getD i default).1 == (b.getD i default).1) && (rs ((a.getD i default).2.v - (b.getD i default).2.v) == 0)) := rfl
      obtain ⟨s, hs0⟩ : ∃ s, sameAt a b i = s := ⟨_, rfl⟩
      rw [hs0] at hsa
      have hnoi := hno i hlt
      generalize rs ((a.getD i default).2.v - (b.getD i default).2.v) = d at *
      generalize a.getD i default = p at *
      generalize b.getD i default = q at *
      obtain ⟨v, ⟨x, y, z⟩⟩ := p
      obtain ⟨w, ⟨x', y', z'⟩⟩ := q
      simp only [rowM, RR.av] at *
      refine W_seq ?_
      ((first | refine W_seqV ?_ | refine W_seq (W_seqV ?_) | refine W_regV ?_); intro K hK; (refine sPjX hlt ?_; try exact True.intro))
      ((repeat refine aI ?_); refine hK _ ?_; clear hK K)
      refine W_seq ?_
      (first | refine W_cond rfl (fun _ => ?_) (fun h => by cases h) | refine W_seq (W_cond rfl (fun _ => ?_) (fun h => by cases h)))
      refine W_skip ?_
      simp only [thenW]
      refine W_seq ?_
      refine W_block ?_
      ((first | refine W_seqV ?_ | refine W_seq (W_seqV ?_) | refine W_regV ?_); intro K hK; (refine sPj ?_; try exact True.intro))
      ((repeat refine aI ?_); refine hK _ ?_; clear hK K)
      by_cases hvw : v = w
      · have e1 : (v != w) = false := by simp [hvw]
        have e3 : (v == w) = true := by simp [hvw]
        rw [e3, Bool.true_and] at hsa
        by_cases hd : d = 0
        · have e2 : (d != 0) = false := by simp [hd]
          have e4 : (d == 0) = true := by simp [hd]
          rw [e4] at hsa
          ((first | refine W_seqD mixed [] (by kernel_rfl) ?_ | refine W_seq (W_seqD mixed [] (by kernel_rfl) ?_) | refine W_regD mixed [] (by kernel_rfl) ?_); intro K hK; (refine sPjX (And.intro hlt (And.intro hlt' (And.intro hXi (And.intro hYi e1)))) ?_; try exact True.intro))
          ((repeat refine aI ?_); refine ⟨by kernel_rfl, rfl, _, hcm, ?_⟩; (try (refine sPj ?_; try exact True.intro)); (repeat refine aI ?_))
          rw [e2]
          ((repeat refine aI ?_); refine hK _ ?_; clear hK K)
          (first | refine W_cond rfl (fun h => by cases h) (fun _ => ?_) | refine W_seq (W_cond rfl (fun h => by cases h) (fun _ => ?_)))
          refine W_skip ?_
          simp only [blockW, thenW]
          ((first | refine W_seqV ?_ | refine W_seq (W_seqV ?_) | refine W_regV ?_); intro K hK; (refine sPj ?_; try exact True.intro))
          ((repeat refine aI ?_); refine hK _ ?_; clear hK K)
          simp only [blockW, thenW]
          refine ⟨⟨i + 1, by omega, fun j hj => ?_⟩, Le_drop (by simp [leE]) (by simp [leH]) rfl rfl, ?_⟩
          · rcases Nat.lt_or_ge j i with h | h
            · exact hbe j h
            · rw [show j = i by omega, hs0, hsa]
          · dsimp only
            omega
        · have e2 : (d != 0) = true := by simp [hd]
          have e4 : (d == 0) = false := by simp [hd]
          rw [e4] at hsa
          rw [hnoi (by rw [hs0, hsa])]
          ((first | refine W_seqD mixed [] (by kernel_rfl) ?_ | refine W_seq (W_seqD mixed [] (by kernel_rfl) ?_) | refine W_regD mixed [] (by kernel_rfl) ?_); intro K hK; (refine sPjX (And.intro hlt (And.intro hlt' (And.intro hXi (And.intro hYi e1)))) ?_; try exact True.intro))
          ((repeat refine aI ?_); refine ⟨by kernel_rfl, rfl, _, hcm, ?_⟩; (try (refine sPj ?_; try exact True.intro)); (repeat refine aI ?_))
          rw [e2]
          ((repeat refine aI ?_); refine hK _ ?_; clear hK K)
          (first | refine W_cond rfl (fun _ => ?_) (fun h => by cases h) | refine W_seq (W_cond rfl (fun _ => ?_) (fun h => by cases h)))
          ((first | refine W_seqV ?_ | refine W_seq (W_seqV ?_) | refine W_regV ?_); intro K hK; (refine sPj ?_; try exact True.intro))
          ((repeat refine aI ?_); refine hK _ ?_; clear hK K)
          refine W_ret ?_
          (refine qG ?_; try exact True.intro); try (refine sPjV ?_; try exact True.intro)
      · have e1 : (v != w) = true := by simp [hvw]
        have e3 : (v == w) = false := by simp [hvw]
        rw [e3, Bool.false_and] at hsa
        rw [hnoi (by rw [hs0, hsa])]
        ((first | refine W_seqD mixed [] (by kernel_rfl) ?_ | refine W_seq (W_seqD mixed [] (by kernel_rfl) ?_) | refine W_regD mixed [] (by kernel_rfl) ?_); intro K hK; (refine sPjX (And.intro hlt (And.intro hlt' (And.intro hXi (And.intro hYi e1)))) ?_; try exact True.intro))
        ((repeat refine aI ?_); refine hK _ ?_; clear hK K)
        (first | refine W_cond rfl (fun _ => ?_) (fun h => by cases h) | refine W_seq (W_cond rfl (fun _ => ?_) (fun h => by cases h)))
        ((first | refine W_seqV ?_ | refine W_seq (W_seqV ?_) | refine W_regV ?_); intro K hK; (refine sPj ?_; try exact True.intro))
        ((repeat refine aI ?_); refine hK _ ?_; clear hK K)
        refine W_ret ?_
        (refine qG ?_; try exact True.intro); try (refine sPjV ?_; try exact True.intro)
    · obtain rfl : i = a.length := by omega
      rw [hyes hbe]
      refine W_seq ?_
      ((first | refine W_seqV ?_ | refine W_seq (W_seqV ?_) | refine W_regV ?_); intro K hK; (refine sPj ?_; try exact True.intro))
      ((repeat refine aI ?_); refine hK _ ?_; clear hK K)
      refine W_seq ?_
      (first | refine W_cond rfl (fun h => by cases h) (fun _ => ?_) | refine W_seq (W_cond rfl (fun h => by cases h) (fun _ => ?_)))
      refine W_exit ?_
      simp only [thenW, blockW, if_true]
      ((first | refine W_seqV ?_ | refine W_seq (W_seqV ?_) | refine W_regV ?_); intro K hK; (refine sPj ?_; try exact True.intro))
      ((repeat refine aI ?_); refine hK _ ?_; clear hK K)
      refine W_ret ?_
      (refine qG ?_; try exact True.intro); try (refine sPjV ?_; try exact True.intro)
  · have hz : ((a.length : Int) != (b.length : Int)) = true := by simp; omega
    rw [alike_ne hl]
    (refine pureW Tryz.func77 rfl (rs := [Go.ResultVar.tmp 4]) rfl (n := 42) rfl ?_; simp only [List.length_cons, List.length_nil, List.replicate, List.cons_append, List.nil_append])
    (refine aPj ?_)
    refine W_seq ?_
    ((first | refine W_seqV ?_ | refine W_seq (W_seqV ?_) | refine W_regV ?_); intro K hK; (refine sPjX hz ?_; try exact True.intro))
    ((repeat refine aI ?_); refine hK _ ?_; clear hK K)
    (first | refine W_cond rfl (fun _ => ?_) (fun h => by cases h) | refine W_seq (W_cond rfl (fun _ => ?_) (fun h => by cases h)))
    ((first | refine W_seqV ?_ | refine W_seq (W_seqV ?_) | refine W_regV ?_); intro K hK; (refine sPj ?_; try exact True.intro))
    ((repeat refine aI ?_); refine hK _ ?_; clear hK K)
    refine W_ret ?_
    (refine qG ?_; try exact True.intro); try (refine sPjV ?_; try exact True.intro)

/-- Does a bound that a row implies say what one says? -/
def follows (i x : II) : Bool := (x.var == i.var) && (x.upper == i.upper) && alikeB x.by_ i.by_ && ((dsg (dsub x.at_.v i.at_.v) == 0) || (decide (dsg (dsub x.at_.v i.at_.v) < 0) == x.upper))
def checkB (i : II) (L : List II) : Bool := L.any (follows i)
theorem check_yes {i : II} {L : List II} {k : Nat} (hk : k < L.length) (h : follows i (L.getD k default) = true) : checkB i L = true :=
  List.any_eq_true.2 ⟨_, by simp [List.getD_eq_getElem?_getD, hk], h⟩
theorem check_no {i : II} {L : List II} (h : ∀ k, k < L.length → follows i (L.getD k default) = false) : checkB i L = false := by
  unfold checkB
  rw [Bool.eq_false_iff]
  intro h1
  obtain ⟨x, hx, hf⟩ := List.any_eq_true.1 h1
  obtain ⟨k, hk, rfl⟩ := List.mem_iff_getElem.1 hx
  have := h k hk
  rw [show L.getD k default = L[k] by simp [List.getD_eq_getElem?_getD, hk], hf] at this
  cases this
theorem IIok.byOk {i : II} (h : IIok i) : ByOk i.by_ := ⟨fun p hp => ⟨h.by_ p hp, h.nbb p hp⟩, h.len⟩
set_option maxHeartbeats 8000000 in
theorem icheck_ok (i : II) (r : Rw) (ls : List LL) (hi : IIok i) (h : RwOk r) (hL : LsOk ls) : Pure Tryz.prog 41 [.agg i.cells, .agg r.cells, .sl (tab rowL ls)] (· = .bool (checkB i (rowsTo ls (eqnF r) (eqnF r).length))) := by
  have he := irow_ok r ls h hL
  have hN := eqn_nf r
  have hb := eqn_nbs h
  have hro := rows_ok hL hN (by omega) (eqnF r).length (Nat.le_refl _)
  have hrl := rowsTo_len ls (eqnF r) (eqnF r).length
  have hel := nbs_len (eqnF r)
  generalize rowsTo ls (eqnF r) (eqnF r).length = L at *
  have hro' := fun k (hk : k < L.length) => hro (L.getD k default) (by simp [List.getD_eq_getElem?_getD, hk])
  have hcy := fun k hk => @check_yes i L k hk
  have hcn := @check_no i L
  have hal := fun k (hk : k < L.length) => ialike_ok (L.getD k default).by_ i.by_ (hro' k hk).byOk hi.byOk
  have hcm := fun k (hk : k < L.length) => dcmp_ok (L.getD k default).at_ i.at_ (hro' k hk).at_ hi.at_
  have hfo : ∀ x, follows i x = ((x.var == i.var) && (x.upper == i.upper) && alikeB x.by_ i.by_ && ((dsg (dsub x.at_.v i.at_.v) == 0) || (decide (dsg (dsub x.at_.v i.at_.v) < 0) == x.upper))) := fun _ => rfl
  generalize checkB i L = cb at *
  clear hi
  obtain ⟨b, f⟩ := r
  simp only [Rw.cells, II.cells] at *
  (refine pureW Tryz.func41 rfl (rs := [Go.ResultVar.tmp 6]) rfl (n := 54) rfl ?_; simp only [List.length_cons, List.length_nil, List.replicate, List.cons_append, List.nil_append])
  (refine aPj ?_)
  refine W_seq ?_
  ((first | refine W_seqV ?_ | refine W_seq (W_seqV ?_) | refine W_regV ?_); intro K hK; (refine sPj ?_; try exact True.intro))
  ((repeat refine aI ?_); refine ⟨by kernel_rfl, rfl, _, he, ?_⟩; (try (refine sPj ?_; try exact True.intro)); (repeat refine aI ?_))
  ((repeat refine aI ?_); refine hK _ ?_; clear hK K)
  refine W_block (W_loop (fun t : {t : Nat // t ≤ L.length ∧ ∀ k, k < t → follows i (L.getD k default) = false} =>
      ⟨[.any, .any, .any, .ptr 3 0 0, .any, .any, .any, .any, .any, .any, .any, .any, .sl (tab rowI L), .int .i64 L.length, .int .i64 t.1, .any, .any, .any, .any, .any, .any, .any, .any, .any, .any, .any, .any, .any, .any, .any, .any, .any, .any, .any, .any, .any, .any, .any, .any, .any, .any, .any, .any, .any, .any, .any, .any, .any, .any, .any, .any, .any, .any, .any], [.dead, .dead, .dead, .arr 49 9 false [[.int .i64 i.var, .bool i.upper, .bool i.at_.a.neg, .sl (u32s i.at_.a.num), .sl (u32s i.at_.a.den), .bool i.at_.b.neg, .sl (u32s i.at_.b.num), .sl (u32s i.at_.b.den), .sl (tab rowM i.by_)]], .dead, .dead, .dead, .dead, .dead, .dead, .dead, .dead, .dead, .dead, .dead, .dead, .dead, .dead, .dead, .dead, .dead, .dead, .dead, .dead, .dead, .dead, .dead, .dead, .dead, .dead, .dead, .dead, .dead, .dead, .dead, .dead, .dead, .dead, .dead, .dead, .dead, .dead, .dead, .dead, .dead, .dead, .dead, .dead, .dead, .dead, .dead, .dead, .dead, .dead]⟩) (fun t => L.length - t.1)
      ⟨0, by omega, by omega⟩ (Le_drop (by simp [leE]) (by simp [leH]) rfl rfl) fun t => ?_)
  obtain ⟨k, hk, hbe⟩ := t
  dsimp only
  by_cases hlt : k < L.length
  · have h1 := hal k hlt
    have h2 := hcm k hlt
    have h3 := hcy k hlt
    have hfx := hfo (L.getD k default)
    have hXi : (tab rowI L).getD k [] = (L.getD k default).cells := tab_getD hlt
    obtain ⟨fb, hfb⟩ : ∃ fb, follows i (L.getD k default) = fb := ⟨_, rfl⟩
    rw [hfb] at hfx h3
    generalize dsg (dsub (L.getD k default).at_.v i.at_.v) = d at *
    generalize alikeB (L.getD k default).by_ i.by_ = ab at *
    generalize hgx : L.getD k default = x at *
    obtain ⟨v, u, ⟨⟨n, x1, y⟩, ⟨m, z, w⟩⟩, by_⟩ := x
    obtain ⟨v', u', ⟨⟨n', x1', y'⟩, ⟨m', z', w'⟩⟩, by_'⟩ := i
    simp only [II.cells, DD.av, DD.cells] at *
    clear hal hcm hcy hfo hro hro' he
    refine W_seq ?_
    ((first | refine W_seqV ?_ | refine W_seq (W_seqV ?_) | refine W_regV ?_); intro K hK; (refine sPjX hlt ?_; try exact True.intro))
    ((repeat refine aI ?_); refine hK _ ?_; clear hK K)
    refine W_seq ?_
    (first | refine W_cond rfl (fun _ => ?_) (fun h => by cases h) | refine W_seq (W_cond rfl (fun _ => ?_) (fun h => by cases h)))
    refine W_skip ?_
    simp only [thenW]
    refine W_seq ?_
    refine W_block ?_
    ((first | refine W_seqV ?_ | refine W_seq (W_seqV ?_) | refine W_regV ?_); intro K hK; (refine sPjX (And.intro hXi hlt) ?_; try exact True.intro))
    ((repeat refine aI ?_); refine hK _ ?_; clear hK K)
    ((first | refine W_seqV ?_ | refine W_seq (W_seqV ?_) | refine W_regV ?_); intro K hK; (refine sPj ?_; try exact True.intro))
    ((repeat refine aI ?_); refine ⟨by kernel_rfl, rfl, _, h2, ?_⟩; (try (refine sPj ?_; try exact True.intro)); (repeat refine aI ?_))
    ((repeat refine aI ?_); refine hK _ ?_; clear hK K)
    obtain ⟨b1, e1⟩ : ∃ b, (v == v') = b := ⟨_, rfl⟩
    obtain ⟨b2, e2⟩ : ∃ b, (u == u') = b := ⟨_, rfl⟩
    obtain ⟨b4, e4⟩ : ∃ b, (d == 0) = b := ⟨_, rfl⟩
    obtain ⟨b5, e5⟩ : ∃ b, (decide (d < 0) == u) = b := ⟨_, rfl⟩
    rw [e1, e2, e4, e5] at hfx
    refine W_join (fun s' => Le [] s' ⟨[.any, .any, .any, .ptr 3 0 0, .any, .any, .any, .any, .any, .any, .any, .any, .sl (tab rowI L), .int .i64 L.length, .int .i64 k, .any, .any, .any, .any, .any, .any, .any, .any, .any, .any, .any, .any, .any, .any, .any, .any, .any, .any, .any, .any, .any, .any, .any, .any, .any, .any, .any, .any, .any, .any, .any, .any, .any, .any, .any, .any, .any, .bool fb, .any], [.dead, .dead, .dead, .arr 49 9 false [[.int .i64 v', .bool u', .bool n', .sl (u32s x1'), .sl (u32s y'), .bool m', .sl (u32s z'), .sl (u32s w'), .sl (tab rowM by_')]], .dead, .dead, .dead, .dead, .dead, .dead, .dead, .dead, .dead, .dead, .dead, .dead, .dead, .dead, .dead, .dead, .dead, .dead, .dead, .dead, .dead, .dead, .dead, .dead, .dead, .dead, .dead, .dead, .dead, .dead, .dead, .dead, .dead, .dead, .dead, .dead, .dead, .dead, .dead, .dead, .dead, .dead, .dead, .dead, .dead, .dead, .dead, .dead, .dead, .dead]⟩) ?_ ?_
    · cases b1
      · subst hfx
        ((first | refine W_seqV ?_ | refine W_seq (W_seqV ?_) | refine W_regV ?_); intro K hK; (refine sPjX e1 ?_; try exact True.intro))
        ((repeat refine aI ?_); refine hK _ ?_; clear hK K)
        exact Le_drop (by simp [leE]) (by simp [leH]) rfl rfl
      · cases b2
        · subst hfx
          ((first | refine W_seqV ?_ | refine W_seq (W_seqV ?_) | refine W_regV ?_); intro K hK; (refine sPjX (And.intro e1 e2) ?_; try exact True.intro))
          ((repeat refine aI ?_); refine hK _ ?_; clear hK K)
          exact Le_drop (by simp [leE]) (by simp [leH]) rfl rfl
        · cases ab
          · subst hfx
            ((first | refine W_seqV ?_ | refine W_seq (W_seqV ?_) | refine W_regV ?_); intro K hK; (refine sPjX (And.intro e1 e2) ?_; try exact True.intro))
            ((repeat refine aI ?_); refine ⟨by kernel_rfl, rfl, _, h1, ?_⟩; (try (refine sPj ?_; try exact True.intro)); (repeat refine aI ?_))
            ((repeat refine aI ?_); refine hK _ ?_; clear hK K)
            exact Le_drop (by simp [leE]) (by simp [leH]) rfl rfl
          · cases b4
            · subst hfx
              ((first | refine W_seqV ?_ | refine W_seq (W_seqV ?_) | refine W_regV ?_); intro K hK; (refine sPjX (And.intro e1 e2) ?_; try exact True.intro))
              ((repeat refine aI ?_); refine ⟨by kernel_rfl, rfl, _, h1, ?_⟩; (try (refine sPj ?_; try exact True.intro)); (repeat refine aI ?_))
              (refine sPjX (And.intro e4 e5) ?_; try exact True.intro)
              ((repeat refine aI ?_); refine hK _ ?_; clear hK K)
              exact Le_drop (by simp [leE]) (by simp [leH]) rfl rfl
            · subst hfx
              ((first | refine W_seqV ?_ | refine W_seq (W_seqV ?_) | refine W_regV ?_); intro K hK; (refine sPjX (And.intro e1 e2) ?_; try exact True.intro))
              ((repeat refine aI ?_); refine ⟨by kernel_rfl, rfl, _, h1, ?_⟩; (try (refine sPj ?_; try exact True.intro)); (repeat refine aI ?_))
              (refine sPjX (And.intro e4 e5) ?_; try exact True.intro)
              ((repeat refine aI ?_); refine hK _ ?_; clear hK K)
              exact Le_drop (by simp [leE]) (by simp [leH]) rfl rfl
    intro s' hle
    refine W.le ?_ hle
    clear hle s' h1 h2
    cases fb
    · (first | refine W_cond rfl (fun h => by cases h) (fun _ => ?_) | refine W_seq (W_cond rfl (fun h => by cases h) (fun _ => ?_)))
      refine W_skip ?_
      simp only [blockW, thenW]
      ((first | refine W_seqV ?_ | refine W_seq (W_seqV ?_) | refine W_regV ?_); intro K hK; (refine sPj ?_; try exact True.intro))
      ((repeat refine aI ?_); refine hK _ ?_; clear hK K)
      simp only [blockW, thenW]
      refine ⟨⟨k + 1, by omega, fun j hj => ?_⟩, Le_drop (by simp [leE]) (by simp [leH]) rfl rfl, ?_⟩
      · rcases Nat.lt_or_ge j k with h | h
        · exact hbe j h
        · rw [show j = k by omega, hgx]; exact hfb
      · dsimp only
        omega
    · rw [h3 rfl]
      (first | refine W_cond rfl (fun _ => ?_) (fun h => by cases h) | refine W_seq (W_cond rfl (fun _ => ?_) (fun h => by cases h)))
      ((first | refine W_seqV ?_ | refine W_seq (W_seqV ?_) | refine W_regV ?_); intro K hK; (refine sPj ?_; try exact True.intro))
      ((repeat refine aI ?_); refine hK _ ?_; clear hK K)
      refine W_ret ?_
      (refine qG ?_; try exact True.intro); try (refine sPjV ?_; try exact True.intro)
  · obtain rfl : k = L.length := by omega
    rw [hcn hbe]
    refine W_seq ?_
    ((first | refine W_seqV ?_ | refine W_seq (W_seqV ?_) | refine W_regV ?_); intro K hK; (refine sPj ?_; try exact True.intro))
    ((repeat refine aI ?_); refine hK _ ?_; clear hK K)
    refine W_seq ?_
    (first | refine W_cond rfl (fun h => by cases h) (fun _ => ?_) | refine W_seq (W_cond rfl (fun h => by cases h) (fun _ => ?_)))
    refine W_exit ?_
    simp only [thenW, blockW, if_true]
    ((first | refine W_seqV ?_ | refine W_seq (W_seqV ?_) | refine W_regV ?_); intro K hK; (refine sPj ?_; try exact True.intro))
    ((repeat refine aI ?_); refine hK _ ?_; clear hK K)
    refine W_ret ?_
    (refine qG ?_; try exact True.intro); try (refine sPjV ?_; try exact True.intro)
end Go.Proofs.YtjkjapjcmbfkgaaGreat.Vm

/-
  Implied: the reference's Check; ImpliedChecks.
-/
namespace Go.Proofs.YtjkjapjcmbfkgaaGreat.Vm
open Go Go.RowKit
set_option maxRecDepth 100000
set_option linter.unusedVariables false
set_option linter.unusedSimpArgs false
end Go.Proofs.YtjkjapjcmbfkgaaGreat.Vm

/-
  fulcrumlaw10.awake.
-/
namespace Go.Proofs.YtjkjapjcmbfkgaaGreat.Vm
open Go Go.RowKit
set_option maxRecDepth 100000
set_option linter.unusedVariables false
set_option linter.unusedSimpArgs false
theorem sPl {G G' : Prop} (h : G') (e : G = G' := by conv => lhs; simp (disch := omega) only [rowsOf, cNat, cN, St.ret, St.seth, Eff.app, Eff.wi, sepL, guardOf, St.known, objOf, List.set, sliceW, litW, copyW, lenOf, bnd, mxOk, ofCells, TI.isAgg, cellsOf, storable, AV.one, dead, laid, overlay, reduceCtorEq, Int.reduceLE, Int.reduceLT, Int.reduceSub, Int.reduceAdd, Nat.reduceMul, Int.reduceToNat, Nat.reducePow, Int.reduceNeg, Nat.reduceAdd, Nat.reduceLT, Nat.reduceLeDiff, sA, sB, Nat.reduceEqDiff, beq_self_eq_true, Int.reduceBEq, cQ, rowM, tab_length, List.take_length, tab_drop, tab_take, tab_nil, rowI_all, rowI_one, rowI_pure, rowL_all, rowL_one, rowL_pure, rowM_all, rowM_one, rowM_pure, sT]) : G := e.mpr h
theorem sPlV {G G' : Prop} (h : G') (e : G = G' := by conv => lhs; simp (disch := omega) only [rowsOf, cNat, cN, St.ret, St.seth, Eff.app, Eff.wi, sepL, guardOf, St.known, objOf, List.set, sliceW, litW, copyW, lenOf, bnd, mxOk, ofCells, TI.isAgg, cellsOf, storable, AV.one, dead, laid, overlay, reduceCtorEq, Int.reduceLE, Int.reduceLT, Int.reduceSub, Int.reduceAdd, Nat.reduceMul, Int.reduceToNat, Nat.reducePow, Int.reduceNeg, Nat.reduceAdd, Nat.reduceLT, Nat.reduceLeDiff, sA, sB, Nat.reduceEqDiff, beq_self_eq_true, Int.reduceBEq, cQ, rowM, tab_length, List.take_length, tab_drop, tab_take, tab_nil, rowI_all, rowI_one, rowI_pure, rowL_all, rowL_one, rowL_pure, rowM_all, rowM_one, rowM_pure, sT, view_sref, viewRef, view_agg, views_cons, views_nil, view_bool, view_int, view_sl, view_nils, view_str, view_tup, view_nilif]) : G := e.mpr h
theorem aPl {G G' : Prop} (h : G') (f : Wr G' → G := by intro h; (repeat (first | (refine W_seqV fun K hK => ?_; (try (refine sPl ?_; try exact True.intro)); (repeat refine aI ?_); refine hK _ ?_; clear hK K) | (refine W_seqR fun K hK => ?_; (try (refine sPl ?_; try exact True.intro)); (repeat refine aI ?_); refine hK _ ?_; clear hK K) | (refine W_seqD mixed [] (by kernel_rfl) fun K hK => ?_; (try (refine sPl ?_; try exact True.intro)); (repeat refine aI ?_); refine hK _ ?_; clear hK K))); exact h.out) : G := f ⟨h⟩

def wakeR : Rw := ⟨1, [(1, qr 3)]⟩
theorem wake_eqn : eqnF wakeR = [(1, 2)] := by
  have h : vals wakeR.form = [(1, 3)] := by simp only [wakeR, vals, List.map_cons, List.map_nil, qr_v]
  unfold eqnF
  rw [h]
  decide +kernel
theorem wake_rows : rowsTo [] (eqnF wakeR) (eqnF wakeR).length = [⟨1, false, dq (0, 0), []⟩, ⟨1, true, dq (0, 0), []⟩] := by
  rw [wake_eqn]
  rfl
theorem wake_ok : RwOk wakeR := by
  have h : nb (3 : Rat) ≤ 10 := by decide +kernel
  refine ⟨?_, ?_⟩
  · exact FOk.rf (l := [((1 : Int), (3 : Rat))]) ⟨fun v => by simp only [nbv]; split <;> omega, by simp⟩ (by omega)
  · simp only [wakeR, vals, List.map_cons, List.map_nil, qr_v, nbs]
    omega
theorem nil_ok : LsOk [] := by
  refine ⟨?_, ?_⟩ <;> simp [lws, sumN]
theorem awake_ok : Pure Tryz.prog 28 [] (· = .bool true) := by
  have hw := f3whole_ok 3 (by omega) (by omega)
  have h1e : ((3 : Int) : Rat) = 3 := rfl
  rw [h1e] at hw
  have hr := irow_ok wakeR [] wake_ok nil_ok
  rw [wake_rows] at hr
  have hs := f5sign_ok (dq (0, 0)) (dq_ok (by decide +kernel))
  rw [dq_v] at hs
  have hz : dsg (0, 0) = 0 := by decide +kernel
  rw [hz] at hs
  have ht : tab rowM [((1 : Int), qr (3 : Rat))] = [[.int .i64 1, .bool (decide ((3 : Rat).num < 0)), .sl (u32s (limbs (3 : Rat).num.natAbs)), .sl (u32s (limbs (3 : Rat).den))]] := rfl
  have hi : tab rowI [⟨1, false, dq (0, 0), []⟩, ⟨1, true, dq (0, 0), []⟩] = [[.int .i64 1, .bool false, .bool (decide ((0 : Rat).num < 0)), .sl (u32s (limbs (0 : Rat).num.natAbs)), .sl (u32s (limbs (0 : Rat).den)), .bool (decide ((0 : Rat).num < 0)), .sl (u32s (limbs (0 : Rat).num.natAbs)), .sl (u32s (limbs (0 : Rat).den)), .sl []], [.int .i64 1, .bool true, .bool (decide ((0 : Rat).num < 0)), .sl (u32s (limbs (0 : Rat).num.natAbs)), .sl (u32s (limbs (0 : Rat).den)), .bool (decide ((0 : Rat).num < 0)), .sl (u32s (limbs (0 : Rat).num.natAbs)), .sl (u32s (limbs (0 : Rat).den)), .sl []]] := rfl
  simp only [wakeR, Rw.cells, tab_nil, ht, hi] at hr
  change Pure _ _ [.agg [.bool (decide ((0 : Rat).num < 0)), .sl (u32s (limbs (0 : Rat).num.natAbs)), .sl (u32s (limbs (0 : Rat).den)), .bool (decide ((0 : Rat).num < 0)), .sl (u32s (limbs (0 : Rat).num.natAbs)), .sl (u32s (limbs (0 : Rat).den))]] _ at hs
  generalize (0 : Rat) = z at *
  generalize (3 : Rat) = q at *
  (refine pureW Tryz.func28 rfl (rs := [Go.ResultVar.tmp 0]) rfl (n := 38) rfl ?_; simp only [List.length_cons, List.length_nil, List.replicate, List.cons_append, List.nil_append])
  (refine aPl ?_)
  refine W_seq ?_
  ((first | refine W_seqV ?_ | refine W_seq (W_seqV ?_) | refine W_regV ?_); intro K hK; (refine sPl ?_; try exact True.intro))
  ((repeat refine aI ?_); refine ⟨by kernel_rfl, rfl, _, hw, ?_⟩; (try (refine sPl ?_; try exact True.intro)); (repeat refine aI ?_))
  ((repeat refine aI ?_); refine ⟨by kernel_rfl, rfl, _, hr, ?_⟩; (try (refine sPl ?_; try exact True.intro)); (repeat refine aI ?_))
  ((repeat refine aI ?_); refine hK _ ?_; clear hK K)
  simp only [thenW]
  refine W_seq ?_
  ((first | refine W_seqV ?_ | refine W_seq (W_seqV ?_) | refine W_regV ?_); intro K hK; (refine sPl ?_; try exact True.intro))
  ((repeat refine aI ?_); refine ⟨by kernel_rfl, rfl, _, hs, ?_⟩; (try (refine sPl ?_; try exact True.intro)); (repeat refine aI ?_))
  ((repeat refine aI ?_); refine hK _ ?_; clear hK K)
  refine W_ret ?_
  (refine qG ?_; try exact True.intro); try (refine sPlV ?_; try exact True.intro)
end Go.Proofs.YtjkjapjcmbfkgaaGreat.Vm

/-
  fulcrumlaw10.ImpliedSums.
-/
namespace Go.Proofs.YtjkjapjcmbfkgaaGreat.Vm
open Go Go.RowKit
set_option maxRecDepth 100000
set_option linter.unusedVariables false
set_option linter.unusedSimpArgs false
theorem rowsTo_mem {ls : List LL} {e : List (Int × Rat)} : ∀ {n : Nat} {x : II}, x ∈ rowsTo ls e n → ∃ u k, k < n ∧ impR u ls e k = some x
  | 0, x, h => by cases h
  | n + 1, x, h => by
    simp only [rowsTo, List.mem_append, Option.mem_toList] at h
    rcases h with (h | h) | h
    · obtain ⟨u, k, hk, hi⟩ := rowsTo_mem h
      exact ⟨u, k, by omega, hi⟩
    · exact ⟨false, n, by omega, h⟩
    · exact ⟨true, n, by omega, h⟩
theorem rs_self (q : Rat) : rs (q - q) = 0 := by rw [Rat.sub_self]; decide +kernel
theorem dsg_self (x : Rat × Rat) : dsg (dsub x x) = 0 := by
  unfold dsg dsub lexI
  simp only [rs_self]
  simp
end Go.Proofs.YtjkjapjcmbfkgaaGreat.Vm

