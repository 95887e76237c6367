/-
  The law ImpliedChecks holds of the given program, for all arguments of bulk at most 1048576: no further conditions.
-/
import Derived.Test.YtjkjapjcmbfkgaaGreatChks7
import Derived.Orders
import Derived.Below
import Derived.Laws.AppendOwn
import Derived.Laws.MakeOwn
import Derived.Laws.CopyRow
import Derived.Laws.Rows
import Derived.Laws.Cells
import Derived.Tactics
import Derived.Laws.BitsLemmas
import Derived.Test.YtjkjapjcmbfkgaaGreatProg
import Derived.Test.YtjkjapjcmbfkgaaGreatRows
import Derived.WalkKit
import Derived.ProofKit
import Derived.Carry
import Derived.OpenShut
import Derived.JoinedCond

/-
  Implied: Check, of the program and of the reference.
-/
namespace Go.Proofs.YtjkjapjcmbfkgaaGreat.Vm
open Go Go.RowKit
set_option maxRecDepth 100000
set_option linter.unusedVariables false
set_option linter.unusedSimpArgs false
theorem sPj {G G' : Prop} (h : G') (e : G = G' := by conv => lhs; simp (disch := omega) only [rowsOf, cNat, cN, St.ret, St.seth, Eff.app, Eff.wi, sepL, guardOf, St.known, objOf, List.set, sliceW, litW, copyW, lenOf, bnd, mxOk, ofCells, TI.isAgg, cellsOf, storable, AV.one, dead, laid, overlay, reduceCtorEq, Int.reduceLE, Int.reduceLT, Int.reduceSub, Int.reduceAdd, Nat.reduceMul, Int.reduceToNat, Nat.reducePow, Int.reduceNeg, Nat.reduceAdd, Nat.reduceLT, Nat.reduceLeDiff, sA, sB, Nat.reduceEqDiff, tab_length, List.take_length, tab_drop, tab_take, tab_nil, rowI_all, rowI_one, rowI_pure, rowL_all, rowL_one, rowL_pure, rowM_all, rowM_one, rowM_pure, sT]) : G := e.mpr h
theorem sPjX {G G' P : Prop} (p : P) (h : G') (e : P → G = G' := by intro p; conv => lhs; simp (disch := omega) only [rowsOf, cNat, cN, St.ret, St.seth, Eff.app, Eff.wi, sepL, guardOf, St.known, objOf, List.set, sliceW, litW, copyW, lenOf, bnd, mxOk, ofCells, TI.isAgg, cellsOf, storable, AV.one, dead, laid, overlay, reduceCtorEq, Int.reduceLE, Int.reduceLT, Int.reduceSub, Int.reduceAdd, Nat.reduceMul, Int.reduceToNat, Nat.reducePow, Int.reduceNeg, Nat.reduceAdd, Nat.reduceLT, Nat.reduceLeDiff, sA, sB, Nat.reduceEqDiff, tab_length, List.take_length, tab_drop, tab_take, tab_nil, rowI_all, rowI_one, rowI_pure, rowL_all, rowL_one, rowL_pure, rowM_all, rowM_one, rowM_pure, sT, p]) : G := (e p).mpr h
theorem sPjV {G G' : Prop} (h : G') (e : G = G' := by conv => lhs; simp (disch := omega) only [rowsOf, cNat, cN, St.ret, St.seth, Eff.app, Eff.wi, sepL, guardOf, St.known, objOf, List.set, sliceW, litW, copyW, lenOf, bnd, mxOk, ofCells, TI.isAgg, cellsOf, storable, AV.one, dead, laid, overlay, reduceCtorEq, Int.reduceLE, Int.reduceLT, Int.reduceSub, Int.reduceAdd, Nat.reduceMul, Int.reduceToNat, Nat.reducePow, Int.reduceNeg, Nat.reduceAdd, Nat.reduceLT, Nat.reduceLeDiff, sA, sB, Nat.reduceEqDiff, tab_length, List.take_length, tab_drop, tab_take, tab_nil, rowI_all, rowI_one, rowI_pure, rowL_all, rowL_one, rowL_pure, rowM_all, rowM_one, rowM_pure, sT, view_sref, viewRef, view_agg, views_cons, views_nil, view_bool, view_int, view_sl, view_nils, view_str, view_tup, view_nilif]) : G := e.mpr h
theorem aPj {G G' : Prop} (h : G') (f : Wr G' → G := by intro h; (repeat (first | (refine W_seqV fun K hK => ?_; (try (refine sPj ?_; try exact True.intro)); (repeat refine aI ?_); refine hK _ ?_; clear hK K) | (refine W_seqR fun K hK => ?_; (try (refine sPj ?_; try exact True.intro)); (repeat refine aI ?_); refine hK _ ?_; clear hK K) | (refine W_seqD mixed [] (by kernel_rfl) fun K hK => ?_; (try (refine sPj ?_; try exact True.intro)); (repeat refine aI ?_); refine hK _ ?_; clear hK K))); exact h.out) : G := f ⟨h⟩

def sameAt (a b : List (Int × RR)) (i : Nat) : Bool := ((a.getD i default).1 == (b.getD i default).1) && (rs ((a.getD i default).2.v - (b.getD i default).2.v) == 0)
def alikeB (a b : List (Int × RR)) : Bool := decide (a.length = b.length) && (List.range a.length).all (sameAt a b)
theorem alike_ne {a b : List (Int × RR)} (h : a.length ≠ b.length) : alikeB a b = false := by simp [alikeB, h]
theorem alike_no {a b : List (Int × RR)} {i : Nat} (hi : i < a.length) (h : sameAt a b i = false) : alikeB a b = false := by
  unfold alikeB
  have : (List.range a.length).all (sameAt a b) = false := by
    rw [Bool.eq_false_iff]
    intro h1
    have := List.all_eq_true.1 h1 i (List.mem_range.2 hi)
    rw [h] at this; cases this
  rw [this, Bool.and_false]
theorem alike_yes {a b : List (Int × RR)} (h : a.length = b.length) (h1 : ∀ i, i < a.length → sameAt a b i = true) : alikeB a b = true := by
  unfold alikeB
  rw [decide_eq_true h, Bool.true_and]
  exact List.all_eq_true.2 fun i hi => h1 i (List.mem_range.1 hi)
structure ByOk (l : List (Int × RR)) : Prop where
  ok : ∀ p ∈ l, p.2.ok ∧ nb p.2.v ≤ 4294967296
  len : l.length < 1099511627776
theorem f10sameBy_ok (a b : List (Int × RR)) (ha : ByOk a) (hb : ByOk b) : Pure Tryz.prog 78 [.sl (tab rowM a), .sl (tab rowM b)] (· = .bool (alikeB a b)) := by
  have hal := ha.len
  have hbl := hb.len
  by_cases hl : a.length = b.length
  · have hz : ((a.length : Int) != (b.length : Int)) = false := by simp [hl]
    have hno := fun i hi => @alike_no a b i hi
    have hyes := alike_yes hl
    (refine pureW Tryz.func78 rfl (rs := [Go.ResultVar.tmp 4]) rfl (n := 42) rfl ?_; simp only [List.length_cons, List.length_nil, List.replicate, List.cons_append, List.nil_append])
    (refine aPj ?_)
    refine W_seq ?_
    ((first | refine W_seqV ?_ | refine W_seq (W_seqV ?_) | refine W_regV ?_); intro K hK; (refine sPjX hz ?_; try exact True.intro))
    ((repeat refine aI ?_); refine hK _ ?_; clear hK K)
    (first | refine W_cond rfl (fun h => by cases h) (fun _ => ?_) | refine W_seq (W_cond rfl (fun h => by cases h) (fun _ => ?_)))
    refine W_skip ?_
    simp only [thenW]
    refine W_seq ?_
    ((first | refine W_seqV ?_ | refine W_seq (W_seqV ?_) | refine W_regV ?_); intro K hK; (refine sPj ?_; try exact True.intro))
    ((repeat refine aI ?_); refine hK _ ?_; clear hK K)
    refine W_block (W_loop (fun t : {t : Nat // t ≤ a.length ∧ ∀ j, j < t → sameAt a b j = true} =>
      ⟨[.sl (tab rowM a), .sl (tab rowM b), .any, .any, .any, .int .i64 t.1, .any, .any, .any, .any, .any, .any, .any, .any, .any, .any, .any, .any, .any, .any, .any, .any, .any, .any, .any, .any, .any, .any, .any, .any, .any, .any, .any, .any, .any, .any, .any, .any, .any, .any, .any, .any], [.dead, .dead, .dead, .dead, .dead, .dead, .dead, .dead, .dead, .dead, .dead, .dead, .dead, .dead, .dead, .dead, .dead, .dead, .dead, .dead, .dead, .dead, .dead, .dead, .dead, .dead, .dead, .dead, .dead, .dead, .dead, .dead, .dead, .dead, .dead, .dead, .dead, .dead, .dead, .dead, .dead, .dead]⟩) (fun t => a.length - t.1)
      ⟨0, by omega, by omega⟩ (Le_of (by simp [leE]) (by simp)) fun t => ?_)
    obtain ⟨i, hi, hbe⟩ := t
    dsimp only
    by_cases hlt : i < a.length
    · have hlt' : i < b.length := by omega
      have hXi : (tab rowM a).getD i [] = rowM (a.getD i default) := tab_getD hlt
      have hYi : (tab rowM b).getD i [] = rowM (b.getD i default) := tab_getD hlt'
      obtain ⟨o1, o2⟩ := ha.ok (a.getD i default) (by simp [List.getD_eq_getElem?_getD, hlt])
      obtain ⟨o3, o4⟩ := hb.ok (b.getD i default) (by simp [List.getD_eq_getElem?_getD, hlt'])
      have hcm := f3cmp_ok (a.getD i default).2 (b.getD i default).2 o1 o3 (qr_ok (by have := nb_sub (a.getD i default).2.v (b.getD i default).2.v; omega))
      have hsa : sameAt a b i = (((a.getD i default).1 == (b.getD i default).1) && (rs ((a.getD i default).2.v - (b.getD i default).2.v) == 0)) := rfl
      obtain ⟨s, hs0⟩ : ∃ s, sameAt a b i = s := ⟨_, rfl⟩
      rw [hs0] at hsa
      have hnoi := hno i hlt
      generalize rs ((a.getD i default).2.v - (b.getD i default).2.v) = d at *
      generalize a.getD i default = p at *
      generalize b.getD i default = q at *
      obtain ⟨v, ⟨x, y, z⟩⟩ := p
      obtain ⟨w, ⟨x', y', z'⟩⟩ := q
      simp only [rowM, RR.av] at *
      refine W_seq ?_
      ((first | refine W_seqV ?_ | refine W_seq (W_seqV ?_) | refine W_regV ?_); intro K hK; (refine sPjX hlt ?_; try exact True.intro))
      ((repeat refine aI ?_); refine hK _ ?_; clear hK K)
      (first | refine W_cond rfl (fun _ => ?_) (fun h => by cases h) | refine W_seq (W_cond rfl (fun _ => ?_) (fun h => by cases h)))
      refine W_skip ?_
      simp only [thenW]
      refine W_seq ?_
      refine W_block ?_
      by_cases hvw : v = w
      · have e1 : (v != w) = false := by simp [hvw]
        have e3 : (v == w) = true := by simp [hvw]
        rw [e3, Bool.true_and] at hsa
        by_cases hd : d = 0
        · have e2 : (d != 0) = false := by simp [hd]
          have e4 : (d == 0) = true := by simp [hd]
          rw [e4] at hsa
          ((first | refine W_seqD mixed [] (by kernel_rfl) ?_ | refine W_seq (W_seqD mixed [] (by kernel_rfl) ?_) | refine W_regD mixed [] (by kernel_rfl) ?_); intro K hK; (refine sPjX (And.intro hlt (And.intro hlt' (And.intro hXi (And.intro hYi e1)))) ?_; try exact True.intro))
          ((repeat refine aI ?_); refine ⟨by kernel_rfl, rfl, _, hcm, ?_⟩; (try (refine sPj ?_; try exact True.intro)); (repeat refine aI ?_))
          rw [e2]
          ((repeat refine aI ?_); refine hK _ ?_; clear hK K)
          (first | refine W_cond rfl (fun h => by cases h) (fun _ => ?_) | refine W_seq (W_cond rfl (fun h => by cases h) (fun _ => ?_)))
          refine W_skip ?_
          simp only [blockW, thenW]
          ((first | refine W_seqV ?_ | refine W_seq (W_seqV ?_) | refine W_regV ?_); intro K hK; (refine sPj ?_; try exact True.intro))
          ((repeat refine aI ?_); refine hK _ ?_; clear hK K)
          simp only [blockW, thenW]
          refine ⟨⟨i + 1, by omega, fun j hj => ?_⟩, Le_drop (by simp [leE]) (by simp [leH]) rfl rfl, ?_⟩
          · rcases Nat.lt_or_ge j i with h | h
            · exact hbe j h
            · rw [show j = i by omega, hs0, hsa]
          · dsimp only
            omega
        · have e2 : (d != 0) = true := by simp [hd]
          have e4 : (d == 0) = false := by simp [hd]
          rw [e4] at hsa
          rw [hnoi (by rw [hs0, hsa])]
          ((first | refine W_seqD mixed [] (by kernel_rfl) ?_ | refine W_seq (W_seqD mixed [] (by kernel_rfl) ?_) | refine W_regD mixed [] (by kernel_rfl) ?_); intro K hK; (refine sPjX (And.intro hlt (And.intro hlt' (And.intro hXi (And.intro hYi e1)))) ?_; try exact True.intro))
          ((repeat refine aI ?_); refine ⟨by kernel_rfl, rfl, _, hcm, ?_⟩; (try (refine sPj ?_; try exact True.intro)); (repeat refine aI ?_))
          rw [e2]
          ((repeat refine aI ?_); refine hK _ ?_; clear hK K)
          (first | refine W_cond rfl (fun _ => ?_) (fun h => by cases h) | refine W_seq (W_cond rfl (fun _ => ?_) (fun h => by cases h)))
          ((first | refine W_seqV ?_ | refine W_seq (W_seqV ?_) | refine W_regV ?_); intro K hK; (refine sPj ?_; try exact True.intro))
          ((repeat refine aI ?_); refine hK _ ?_; clear hK K)
          refine W_ret ?_
          (refine qG ?_; try exact True.intro); try (refine sPjV ?_; try exact True.intro)
      · have e1 : (v != w) = true := by simp [hvw]
        have e3 : (v == w) = false := by simp [hvw]
        rw [e3, Bool.false_and] at hsa
        rw [hnoi (by rw [hs0, hsa])]
        ((first | refine W_seqD mixed [] (by kernel_rfl) ?_ | refine W_seq (W_seqD mixed [] (by kernel_rfl) ?_) | refine W_regD mixed [] (by kernel_rfl) ?_); intro K hK; (refine sPjX (And.intro hlt (And.intro hlt' (And.intro hXi (And.intro hYi e1)))) ?_; try exact True.intro))
        ((repeat refine aI ?_); refine hK _ ?_; clear hK K)
        (first | refine W_cond rfl (fun _ => ?_) (fun h => by cases h) | refine W_seq (W_cond rfl (fun _ => ?_) (fun h => by cases h)))
        ((first | refine W_seqV ?_ | refine W_seq (W_seqV ?_) | refine W_regV ?_); intro K hK; (refine sPj ?_; try exact True.intro))
        ((repeat refine aI ?_); refine hK _ ?_; clear hK K)
        refine W_ret ?_
        (refine qG ?_; try exact True.intro); try (refine sPjV ?_; try exact True.intro)
    · obtain rfl : i = a.length := by omega
      rw [hyes hbe]
      refine W_seq ?_
      ((first | refine W_seqV ?_ | refine W_seq (W_seqV ?_) | refine W_regV ?_); intro K hK; (refine sPj ?_; try exact True.intro))
      ((repeat refine aI ?_); refine hK _ ?_; clear hK K)
      (first | refine W_cond rfl (fun h => by cases h) (fun _ => ?_) | refine W_seq (W_cond rfl (fun h => by cases h) (fun _ => ?_)))
      refine W_exit ?_
      simp only [thenW, blockW, if_true]
      ((first | refine W_seqV ?_ | refine W_seq (W_seqV ?_) | refine W_regV ?_); intro K hK; (refine sPj ?_; try exact True.intro))
      ((repeat refine aI ?_); refine hK _ ?_; clear hK K)
      refine W_ret ?_
      (refine qG ?_; try exact True.intro); try (refine sPjV ?_; try exact True.intro)
  · have hz : ((a.length : Int) != (b.length : Int)) = true := by simp; omega
    rw [alike_ne hl]
    (refine pureW Tryz.func78 rfl (rs := [Go.ResultVar.tmp 4]) rfl (n := 42) rfl ?_; simp only [List.length_cons, List.length_nil, List.replicate, List.cons_append, List.nil_append])
    (refine aPj ?_)
    refine W_seq ?_
    ((first | refine W_seqV ?_ | refine W_seq (W_seqV ?_) | refine W_regV ?_); intro K hK; (refine sPjX hz ?_; try exact True.intro))
    ((repeat refine aI ?_); refine hK _ ?_; clear hK K)
    (first | refine W_cond rfl (fun _ => ?_) (fun h => by cases h) | refine W_seq (W_cond rfl (fun _ => ?_) (fun h => by cases h)))
    ((first | refine W_seqV ?_ | refine W_seq (W_seqV ?_) | refine W_regV ?_); intro K hK; (refine sPj ?_; try exact True.intro))
    ((repeat refine aI ?_); refine hK _ ?_; clear hK K)
    refine W_ret ?_
    (refine qG ?_; try exact True.intro); try (refine sPjV ?_; try exact True.intro)
theorem ialike_ok (a b : List (Int × RR)) (ha : ByOk a) (hb : ByOk b) : Pure Tryz.prog 77 [.sl (tab rowM a), .sl (tab rowM b)] (· = .bool (alikeB a b)) := by
  have hal := ha.len
  have hbl := hb.len
  by_cases hl : a.length = b.length
  · have hz : ((a.length : Int) != (b.length : Int)) = false := by simp [hl]
    have hno := fun i hi => @alike_no a b i hi
    have hyes := alike_yes hl
    (refine pureW Tryz.func77 rfl (rs := [Go.ResultVar.tmp 4]) rfl (n := 42) rfl ?_; simp only [List.length_cons, List.length_nil, List.replicate, List.cons_append, List.nil_append])
    (refine aPj ?_)
    refine W_seq ?_
    ((first | refine W_seqV ?_ | refine W_seq (W_seqV ?_) | refine W_regV ?_); intro K hK; (refine sPjX hz ?_; try exact True.intro))
    ((repeat refine aI ?_); refine hK _ ?_; clear hK K)
    (first | refine W_cond rfl (fun h => by cases h) (fun _ => ?_) | refine W_seq (W_cond rfl (fun h => by cases h) (fun _ => ?_)))
    refine W_skip ?_
    simp only [thenW]
    refine W_seq ?_
    ((first | refine W_seqV ?_ | refine W_seq (W_seqV ?_) | refine W_regV ?_); intro K hK; (refine sPj ?_; try exact True.intro))
    ((repeat refine aI ?_); refine hK _ ?_; clear hK K)
    refine W_block (W_loop (fun t : {t : Nat // t ≤ a.length ∧ ∀ j, j < t → sameAt a b j = true} =>
      ⟨[.sl (tab rowM a), .sl (tab rowM b), .any, .any, .any, .any, .any, .any, .any, .any, .any, .any, .int .i64 a.length, .int .i64 t.1, .any, .any, .any, .any, .any, .any, .any, .any, .any, .any, .any, .any, .any, .any, .any, .any, .any, .any, .any, .any, .any, .any, .any, .any, .any, .any, .any, .any], [.dead, .dead, .dead, .dead, .dead, .dead, .dead, .dead, .dead, .dead, .dead, .dead, .dead, .dead, .dead, .dead, .dead, .dead, .dead, .dead, .dead, .dead, .dead, .dead, .dead, .dead, .dead, .dead, .dead, .dead, .dead, .dead, .dead, .dead, .dead, .dead, .dead, .dead, .dead, .dead, .dead, .dead]⟩) (fun t => a.length - t.1)
      ⟨0, by omega, by omega⟩ (Le_of (by simp [leE]) (by simp)) fun t => ?_)
    obtain ⟨i, hi, hbe⟩ := t
    dsimp only
    by_cases hlt : i < a.length
    · have hlt' : i < b.length := by omega
      have hXi : (tab rowM a).getD i [] = rowM (a.getD i default) := tab_getD hlt
      have hYi : (tab rowM b).getD i [] = rowM (b.getD i default) := tab_getD hlt'
      obtain ⟨o1, o2⟩ := ha.ok (a.getD i default) (by simp [List.getD_eq_getElem?_getD, hlt])
      obtain ⟨o3, o4⟩ := hb.ok (b.getD i default) (by simp [List.getD_eq_getElem?_getD, hlt'])
      have hcm := rcmp_ok (a.getD i default).2 (b.getD i default).2 o1 o3
      have hsa : sameAt a b i = (((a.getD i default).1 == (b.getD i default).1) && (rs ((a.getD i default).2.v - (b.getD i default).2.v) == 0)) := rfl
      obtain ⟨s, hs0⟩ : ∃ s, sameAt a b i = s := ⟨_, rfl⟩
      rw [hs0] at hsa
      have hnoi := hno i hlt
      generalize rs ((a.getD i default).2.v - (b.getD i default).2.v) = d at *
      generalize a.getD i default = p at *
      generalize b.getD i default = q at *
      obtain ⟨v, ⟨x, y, z⟩⟩ := p
      obtain ⟨w, ⟨x', y', z'⟩⟩ := q
      simp only [rowM, RR.av] at *
      refine W_seq ?_
      ((first | refine W_seqV ?_ | refine W_seq (W_seqV ?_) | refine W_regV ?_); intro K hK; (refine sPjX hlt ?_; try exact True.intro))
      ((repeat refine aI ?_); refine hK _ ?_; clear hK K)
      refine W_seq ?_
      (first | refine W_cond rfl (fun _ => ?_) (fun h => by cases h) | refine W_seq (W_cond rfl (fun _ => ?_) (fun h => by cases h)))
      refine W_skip ?_
      simp only [thenW]
      refine W_seq ?_
      refine W_block ?_
      ((first | refine W_seqV ?_ | refine W_seq (W_seqV ?_) | refine W_regV ?_); intro K hK; (refine sPj ?_; try exact True.intro))
      ((repeat refine aI ?_); refine hK _ ?_; clear hK K)
      by_cases hvw : v = w
      · have e1 : (v != w) = false := by simp [hvw]
        have e3 : (v == w) = true := by simp [hvw]
        rw [e3, Bool.true_and] at hsa
        by_cases hd : d = 0
        · have e2 : (d != 0) = false := by simp [hd]
          have e4 : (d == 0) = true := by simp [hd]
          rw [e4] at hsa
          ((first | refine W_seqD mixed [] (by kernel_rfl) ?_ | refine W_seq (W_seqD mixed [] (by kernel_rfl) ?_) | refine W_regD mixed [] (by kernel_rfl) ?_); intro K hK; (refine sPjX (And.intro hlt (And.intro hlt' (And.intro hXi (And.intro hYi e1)))) ?_; try exact True.intro))
          ((repeat refine aI ?_); refine ⟨by kernel_rfl, rfl, _, hcm, ?_⟩; (try (refine sPj ?_; try exact True.intro)); (repeat refine aI ?_))
          rw [e2]
          ((repeat refine aI ?_); refine hK _ ?_; clear hK K)
          (first | refine W_cond rfl (fun h => by cases h) (fun _ => ?_) | refine W_seq (W_cond rfl (fun h => by cases h) (fun _ => ?_)))
          refine W_skip ?_
          simp only [blockW, thenW]
          ((first | refine W_seqV ?_ | refine W_seq (W_seqV ?_) | refine W_regV ?_); intro K hK; (refine sPj ?_; try exact True.intro))
          ((repeat refine aI ?_); refine hK _ ?_; clear hK K)
          simp only [blockW, thenW]
          refine ⟨⟨i + 1, by omega, fun j hj => ?_⟩, Le_drop (by simp [leE]) (by simp [leH]) rfl rfl, ?_⟩
          · rcases Nat.lt_or_ge j i with h | h
            · exact hbe j h
            · rw [show j = i by omega, hs0, hsa]
          · dsimp only
            omega
        · have e2 : (d != 0) = true := by simp [hd]
          have e4 : (d == 0) = false := by simp [hd]
          rw [e4] at hsa
          rw [hnoi (by rw [hs0, hsa])]
          ((first | refine W_seqD mixed [] (by kernel_rfl) ?_ | refine W_seq (W_seqD mixed [] (by kernel_rfl) ?_) | refine W_regD mixed [] (by kernel_rfl) ?_); intro K hK; (refine sPjX (And.intro hlt (And.intro hlt' (And.intro hXi (And.intro hYi e1)))) ?_; try exact True.intro))
          ((repeat refine aI ?_); refine ⟨by kernel_rfl, rfl, _, hcm, ?_⟩; (try (refine sPj ?_; try exact True.intro)); (repeat refine aI ?_))
          rw [e2]
          ((repeat refine aI ?_); refine hK _ ?_; clear hK K)
          (first | refine W_cond rfl (fun _ => ?_) (fun h => by cases h) | refine W_seq (W_cond rfl (fun _ => ?_) (fun h => by cases h)))
          ((first | refine W_seqV ?_ | refine W_seq (W_seqV ?_) | refine W_regV ?_); intro K hK; (refine sPj ?_; try exact True.intro))
          ((repeat refine aI ?_); refine hK _ ?_; clear hK K)
          refine W_ret ?_
          (refine qG ?_; try exact True.intro); try (refine sPjV ?_; try exact True.intro)
      · have e1 : (v != w) = true := by simp [hvw]
        have e3 : (v == w) = false := by simp [hvw]
        rw [e3, Bool.false_and] at hsa
        rw [hnoi (by rw [hs0, hsa])]
        ((first | refine W_seqD mixed [] (by kernel_rfl) ?_ | refine W_seq (W_seqD mixed [] (by kernel_rfl) ?_) | refine W_regD mixed [] (by kernel_rfl) ?_); intro K hK; (refine sPjX (And.intro hlt (And.intro hlt' (And.intro hXi (And.intro hYi e1)))) ?_; try exact True.intro))
        ((repeat refine aI ?_); refine hK _ ?_; clear hK K)
        (first | refine W_cond rfl (fun _ => ?_) (fun h => by cases h) | refine W_seq (W_cond rfl (fun _ => ?_) (fun h => by cases h)))
        ((first | refine W_seqV ?_ | refine W_seq (W_seqV ?_) | refine W_regV ?_); intro K hK; (refine sPj ?_; try exact True.intro))
        ((repeat refine aI ?_); refine hK _ ?_; clear hK K)
        refine W_ret ?_
        (refine qG ?_; try exact True.intro); try (refine sPjV ?_; try exact True.intro)
    · obtain rfl : i = a.length := by omega
      rw [hyes hbe]
      refine W_seq ?_
      ((first | refine W_seqV ?_ | refine W_seq (W_seqV ?_) | refine W_regV ?_); intro K hK; (refine sPj ?_; try exact True.intro))
      ((repeat refine aI ?_); refine hK _ ?_; clear hK K)
      refine W_seq ?_
      (first | refine W_cond rfl (fun h => by cases h) (fun _ => ?_) | refine W_seq (W_cond rfl (fun h => by cases h) (fun _ => ?_)))
      refine W_exit ?_
      simp only [thenW, blockW, if_true]
      ((first | refine W_seqV ?_ | refine W_seq (W_seqV ?_) | refine W_regV ?_); intro K hK; (refine sPj ?_; try exact True.intro))
      ((repeat refine aI ?_); refine hK _ ?_; clear hK K)
      refine W_ret ?_
      (refine qG ?_; try exact True.intro); try (refine sPjV ?_; try exact True.intro)
  · have hz : ((a.length : Int) != (b.length : Int)) = true := by simp; omega
    rw [alike_ne hl]
    (refine pureW Tryz.func77 rfl (rs := [Go.ResultVar.tmp 4]) rfl (n := 42) rfl ?_; simp only [List.length_cons, List.length_nil, List.replicate, List.cons_append, List.nil_append])
    (refine aPj ?_)
    refine W_seq ?_
    ((first | refine W_seqV ?_ | refine W_seq (W_seqV ?_) | refine W_regV ?_); intro K hK; (refine sPjX hz ?_; try exact True.intro))
    ((repeat refine aI ?_); refine hK _ ?_; clear hK K)
    (first | refine W_cond rfl (fun _ => ?_) (fun h => by cases h) | refine W_seq (W_cond rfl (fun _ => ?_) (fun h => by cases h)))
    ((first | refine W_seqV ?_ | refine W_seq (W_seqV ?_) | refine W_regV ?_); intro K hK; (refine sPj ?_; try exact True.intro))
    ((repeat refine aI ?_); refine hK _ ?_; clear hK K)
    refine W_ret ?_
    (refine qG ?_; try exact True.intro); try (refine sPjV ?_; try exact True.intro)

/-- Does a bound that a row implies say what one says? -/
def follows (i x : II) : Bool := (x.var == i.var) && (x.upper == i.upper) && alikeB x.by_ i.by_ && ((dsg (dsub x.at_.v i.at_.v) == 0) || (decide (dsg (dsub x.at_.v i.at_.v) < 0) == x.upper))
def checkB (i : II) (L : List II) : Bool := L.any (follows i)
theorem check_yes {i : II} {L : List II} {k : Nat} (hk : k < L.length) (h : follows i (L.getD k default) = true) : checkB i L = true :=
  List.any_eq_true.2 ⟨_, by simp [List.getD_eq_getElem?_getD, hk], h⟩
theorem check_no {i : II} {L : List II} (h : ∀ k, k < L.length → follows i (L.getD k default) = false) : checkB i L = false := by
  unfold checkB
  rw [Bool.eq_false_iff]
  intro h1
  obtain ⟨x, hx, hf⟩ := List.any_eq_true.1 h1
  obtain ⟨k, hk, rfl⟩ := List.mem_iff_getElem.1 hx
  have := h k hk
  rw [show L.getD k default = L[k] by simp [List.getD_eq_getElem?_getD, hk], hf] at this
  cases this
theorem IIok.byOk {i : II} (h : IIok i) : ByOk i.by_ := ⟨fun p hp => ⟨h.by_ p hp, h.nbb p hp⟩, h.len⟩
set_option maxHeartbeats 8000000 in
theorem icheck_ok (i : II) (r : Rw) (ls : List LL) (hi : IIok i) (h : RwOk r) (hL : LsOk ls) : Pure Tryz.prog 41 [.agg i.cells, .agg r.cells, .sl (tab rowL ls)] (· = .bool (checkB i (rowsTo ls (eqnF r) (eqnF r).length))) := by
  have he := irow_ok r ls h hL
  have hN := eqn_nf r
  have hb := eqn_nbs h
  have hro := rows_ok hL hN (by omega) (eqnF r).length (Nat.le_refl _)
  have hrl := rowsTo_len ls (eqnF r) (eqnF r).length
  have hel := nbs_len (eqnF r)
  generalize rowsTo ls (eqnF r) (eqnF r).length = L at *
  have hro' := fun k (hk : k < L.length) => hro (L.getD k default) (by simp [List.getD_eq_getElem?_getD, hk])
  have hcy := fun k hk => @check_yes i L k hk
  have hcn := @check_no i L
  have hal := fun k (hk : k < L.length) => ialike_ok (L.getD k default).by_ i.by_ (hro' k hk).byOk hi.byOk
  have hcm := fun k (hk : k < L.length) => dcmp_ok (L.getD k default).at_ i.at_ (hro' k hk).at_ hi.at_
  have hfo : ∀ x, follows i x = ((x.var == i.var) && (x.upper == i.upper) && alikeB x.by_ i.by_ && ((dsg (dsub x.at_.v i.at_.v) == 0) || (decide (dsg (dsub x.at_.v i.at_.v) < 0) == x.upper))) := fun _ => rfl
  generalize checkB i L = cb at *
  clear hi
  obtain ⟨b, f⟩ := r
  simp only [Rw.cells, II.cells] at *
  (refine pureW Tryz.func41 rfl (rs := [Go.ResultVar.tmp 6]) rfl (n := 54) rfl ?_; simp only [List.length_cons, List.length_nil, List.replicate, List.cons_append, List.nil_append])
  (refine aPj ?_)
  refine W_seq ?_
  ((first | refine W_seqV ?_ | refine W_seq (W_seqV ?_) | refine W_regV ?_); intro K hK; (refine sPj ?_; try exact True.intro))
  ((repeat refine aI ?_); refine ⟨by kernel_rfl, rfl, _, he, ?_⟩; (try (refine sPj ?_; try exact True.intro)); (repeat refine aI ?_))
  ((repeat refine aI ?_); refine hK _ ?_; clear hK K)
  refine W_block (W_loop (fun t : {t : Nat // t ≤ L.length ∧ ∀ k, k < t → follows i (L.getD k default) = false} =>
      ⟨[.any, .any, .any, .ptr 3 0 0, .any, .any, .any, .any, .any, .any, .any, .any, .sl (tab rowI L), .int .i64 L.length, .int .i64 t.1, .any, .any, .any, .any, .any, .any, .any, .any, .any, .any, .any, .any, .any, .any, .any, .any, .any, .any, .any, .any, .any, .any, .any, .any, .any, .any, .any, .any, .any, .any, .any, .any, .any, .any, .any, .any, .any, .any, .any], [.dead, .dead, .dead, .arr 49 9 false [[.int .i64 i.var, .bool i.upper, .bool i.at_.a.neg, .sl (u32s i.at_.a.num), .sl (u32s i.at_.a.den), .bool i.at_.b.neg, .sl (u32s i.at_.b.num), .sl (u32s i.at_.b.den), .sl (tab rowM i.by_)]], .dead, .dead, .dead, .dead, .dead, .dead, .dead, .dead, .dead, .dead, .dead, .dead, .dead, .dead, .dead, .dead, .dead, .dead, .dead, .dead, .dead, .dead, .dead, .dead, .dead, .dead, .dead, .dead, .dead, .dead, .dead, .dead, .dead, .dead, .dead, .dead, .dead, .dead, .dead, .dead, .dead, .dead, .dead, .dead, .dead, .dead, .dead, .dead, .dead, .dead]⟩) (fun t => L.length - t.1)
      ⟨0, by omega, by omega⟩ (Le_drop (by simp [leE]) (by simp [leH]) rfl rfl) fun t => ?_)
  obtain ⟨k, hk, hbe⟩ := t
  dsimp only
  by_cases hlt : k < L.length
  · have h1 := hal k hlt
    have h2 := hcm k hlt
    have h3 := hcy k hlt
    have hfx := hfo (L.getD k default)
    have hXi : (tab rowI L).getD k [] = (L.getD k default).cells := tab_getD hlt
    obtain ⟨fb, hfb⟩ : ∃ fb, follows i (L.getD k default) = fb := ⟨_, rfl⟩
    rw [hfb] at hfx h3
    generalize dsg (dsub (L.getD k default).at_.v i.at_.v) = d at *
    generalize alikeB (L.getD k default).by_ i.by_ = ab at *
    generalize hgx : L.getD k default = x at *
    obtain ⟨v, u, ⟨⟨n, x1, y⟩, ⟨m, z, w⟩⟩, by_⟩ := x
    obtain ⟨v', u', ⟨⟨n', x1', y'⟩, ⟨m', z', w'⟩⟩, by_'⟩ := i
    simp only [II.cells, DD.av, DD.cells] at *
    clear hal hcm hcy hfo hro hro' he
    refine W_seq ?_
    ((first | refine W_seqV ?_ | refine W_seq (W_seqV ?_) | refine W_regV ?_); intro K hK; (refine sPjX hlt ?_; try exact True.intro))
    ((repeat refine aI ?_); refine hK _ ?_; clear hK K)
    refine W_seq ?_
    (first | refine W_cond rfl (fun _ => ?_) (fun h => by cases h) | refine W_seq (W_cond rfl (fun _ => ?_) (fun h => by cases h)))
    refine W_skip ?_
    simp only [thenW]
    refine W_seq ?_
    refine W_block ?_
    ((first | refine W_seqV ?_ | refine W_seq (W_seqV ?_) | refine W_regV ?_); intro K hK; (refine sPjX (And.intro hXi hlt) ?_; try exact True.intro))
    ((repeat refine aI ?_); refine hK _ ?_; clear hK K)
    ((first | refine W_seqV ?_ | refine W_seq (W_seqV ?_) | refine W_regV ?_); intro K hK; (refine sPj ?_; try exact True.intro))
    ((repeat refine aI ?_); refine ⟨by kernel_rfl, rfl, _, h2, ?_⟩; (try (refine sPj ?_; try exact True.intro)); (repeat refine aI ?_))
    ((repeat refine aI ?_); refine hK _ ?_; clear hK K)
    obtain ⟨b1, e1⟩ : ∃ b, (v == v') = b := ⟨_, rfl⟩
    obtain ⟨b2, e2⟩ : ∃ b, (u == u') = b := ⟨_, rfl⟩
    obtain ⟨b4, e4⟩ : ∃ b, (d == 0) = b := ⟨_, rfl⟩
    obtain ⟨b5, e5⟩ : ∃ b, (decide (d < 0) == u) = b := ⟨_, rfl⟩
    rw [e1, e2, e4, e5] at hfx
    refine W_join (fun s' => Le [] s' ⟨[.any, .any, .any, .ptr 3 0 0, .any, .any, .any, .any, .any, .any, .any, .any, .sl (tab rowI L), .int .i64 L.length, .int .i64 k, .any, .any, .any, .any, .any, .any, .any, .any, .any, .any, .any, .any, .any, .any, .any, .any, .any, .any, .any, .any, .any, .any, .any, .any, .any, .any, .any, .any, .any, .any, .any, .any, .any, .any, .any, .any, .any, .bool fb, .any], [.dead, .dead, .dead, .arr 49 9 false [[.int .i64 v', .bool u', .bool n', .sl (u32s x1'), .sl (u32s y'), .bool m', .sl (u32s z'), .sl (u32s w'), .sl (tab rowM by_')]], .dead, .dead, .dead, .dead, .dead, .dead, .dead, .dead, .dead, .dead, .dead, .dead, .dead, .dead, .dead, .dead, .dead, .dead, .dead, .dead, .dead, .dead, .dead, .dead, .dead, .dead, .dead, .dead, .dead, .dead, .dead, .dead, .dead, .dead, .dead, .dead, .dead, .dead, .dead, .dead, .dead, .dead, .dead, .dead, .dead, .dead, .dead, .dead, .dead, .dead]⟩) ?_ ?_
    · cases b1
      · subst hfx
        ((first | refine W_seqV ?_ | refine W_seq (W_seqV ?_) | refine W_regV ?_); intro K hK; (refine sPjX e1 ?_; try exact True.intro))
        ((repeat refine aI ?_); refine hK _ ?_; clear hK K)
        exact Le_drop (by simp [leE]) (by simp [leH]) rfl rfl
      · cases b2
        · subst hfx
          ((first | refine W_seqV ?_ | refine W_seq (W_seqV ?_) | refine W_regV ?_); intro K hK; (refine sPjX (And.intro e1 e2) ?_; try exact True.intro))
          ((repeat refine aI ?_); refine hK _ ?_; clear hK K)
          exact Le_drop (by simp [leE]) (by simp [leH]) rfl rfl
        · cases ab
          · subst hfx
            ((first | refine W_seqV ?_ | refine W_seq (W_seqV ?_) | refine W_regV ?_); intro K hK; (refine sPjX (And.intro e1 e2) ?_; try exact True.intro))
            ((repeat refine aI ?_); refine ⟨by kernel_rfl, rfl, _, h1, ?_⟩; (try (refine sPj ?_; try exact True.intro)); (repeat refine aI ?_))
            ((repeat refine aI ?_); refine hK _ ?_; clear hK K)
            exact Le_drop (by simp [leE]) (by simp [leH]) rfl rfl
          · cases b4
            · subst hfx
              ((first | refine W_seqV ?_ | refine W_seq (W_seqV ?_) | refine W_regV ?_); intro K hK; (refine sPjX (And.intro e1 e2) ?_; try exact True.intro))
              ((repeat refine aI ?_); refine ⟨by kernel_rfl, rfl, _, h1, ?_⟩; (try (refine sPj ?_; try exact True.intro)); (repeat refine aI ?_))
              (refine sPjX (And.intro e4 e5) ?_; try exact True.intro)
              ((repeat refine aI ?_); refine hK _ ?_; clear hK K)
              exact Le_drop (by simp [leE]) (by simp [leH]) rfl rfl
            · subst hfx
              ((first | refine W_seqV ?_ | refine W_seq (W_seqV ?_) | refine W_regV ?_); intro K hK; (refine sPjX (And.intro e1 e2) ?_; try exact True.intro))
              ((repeat refine aI ?_); refine ⟨by kernel_rfl, rfl, _, h1, ?_⟩; (try (refine sPj ?_; try exact True.intro)); (repeat refine aI ?_))
              (refine sPjX (And.intro e4 e5) ?_; try exact True.intro)
              ((repeat refine aI ?_); refine hK _ ?_; clear hK K)
              exact Le_drop (by simp [leE]) (by simp [leH]) rfl rfl
    intro s' hle
    refine W.le ?_ hle
    clear hle s' h1 h2
    cases fb
    · (first | refine W_cond rfl (fun h => by cases h) (fun _ => ?_) | refine W_seq (W_cond rfl (fun h => by cases h) (fun _ => ?_)))
      refine W_skip ?_
      simp only [blockW, thenW]
      ((first | refine W_seqV ?_ | refine W_seq (W_seqV ?_) | refine W_regV ?_); intro K hK; (refine sPj ?_; try exact True.intro))
      ((repeat refine aI ?_); refine hK _ ?_; clear hK K)
      simp only [blockW, thenW]
      refine ⟨⟨k + 1, by omega, fun j hj => ?_⟩, Le_drop (by simp [leE]) (by simp [leH]) rfl rfl, ?_⟩
      · rcases Nat.lt_or_ge j k with h | h
        · exact hbe j h
        · rw [show j = k by omega, hgx]; exact hfb
      · dsimp only
        omega
    · rw [h3 rfl]
      (first | refine W_cond rfl (fun _ => ?_) (fun h => by cases h) | refine W_seq (W_cond rfl (fun _ => ?_) (fun h => by cases h)))
      ((first | refine W_seqV ?_ | refine W_seq (W_seqV ?_) | refine W_regV ?_); intro K hK; (refine sPj ?_; try exact True.intro))
      ((repeat refine aI ?_); refine hK _ ?_; clear hK K)
      refine W_ret ?_
      (refine qG ?_; try exact True.intro); try (refine sPjV ?_; try exact True.intro)
  · obtain rfl : k = L.length := by omega
    rw [hcn hbe]
    refine W_seq ?_
    ((first | refine W_seqV ?_ | refine W_seq (W_seqV ?_) | refine W_regV ?_); intro K hK; (refine sPj ?_; try exact True.intro))
    ((repeat refine aI ?_); refine hK _ ?_; clear hK K)
    refine W_seq ?_
    (first | refine W_cond rfl (fun h => by cases h) (fun _ => ?_) | refine W_seq (W_cond rfl (fun h => by cases h) (fun _ => ?_)))
    refine W_exit ?_
    simp only [thenW, blockW, if_true]
    ((first | refine W_seqV ?_ | refine W_seq (W_seqV ?_) | refine W_regV ?_); intro K hK; (refine sPj ?_; try exact True.intro))
    ((repeat refine aI ?_); refine hK _ ?_; clear hK K)
    refine W_ret ?_
    (refine qG ?_; try exact True.intro); try (refine sPjV ?_; try exact True.intro)
end Go.Proofs.YtjkjapjcmbfkgaaGreat.Vm

/-
  Implied: the reference's Check; ImpliedChecks.
-/
namespace Go.Proofs.YtjkjapjcmbfkgaaGreat.Vm
open Go Go.RowKit
set_option maxRecDepth 100000
set_option linter.unusedVariables false
set_option linter.unusedSimpArgs false
theorem sPk {G G' : Prop} (h : G') (e : G = G' := by conv => lhs; simp (disch := omega) only [rowsOf, cNat, cN, St.ret, St.seth, Eff.app, Eff.wi, sepL, guardOf, St.known, objOf, List.set, sliceW, litW, copyW, lenOf, bnd, mxOk, ofCells, TI.isAgg, cellsOf, storable, AV.one, dead, laid, overlay, reduceCtorEq, Int.reduceLE, Int.reduceLT, Int.reduceSub, Int.reduceAdd, Nat.reduceMul, Int.reduceToNat, Nat.reducePow, Int.reduceNeg, Nat.reduceAdd, Nat.reduceLT, Nat.reduceLeDiff, sA, sB, Nat.reduceEqDiff, tab_length, List.take_length, tab_drop, tab_take, tab_nil, rowI_all, rowI_one, rowI_pure, rowL_all, rowL_one, rowL_pure, rowM_all, rowM_one, rowM_pure, sT]) : G := e.mpr h
theorem sPkX {G G' P : Prop} (p : P) (h : G') (e : P → G = G' := by intro p; conv => lhs; simp (disch := omega) only [rowsOf, cNat, cN, St.ret, St.seth, Eff.app, Eff.wi, sepL, guardOf, St.known, objOf, List.set, sliceW, litW, copyW, lenOf, bnd, mxOk, ofCells, TI.isAgg, cellsOf, storable, AV.one, dead, laid, overlay, reduceCtorEq, Int.reduceLE, Int.reduceLT, Int.reduceSub, Int.reduceAdd, Nat.reduceMul, Int.reduceToNat, Nat.reducePow, Int.reduceNeg, Nat.reduceAdd, Nat.reduceLT, Nat.reduceLeDiff, sA, sB, Nat.reduceEqDiff, tab_length, List.take_length, tab_drop, tab_take, tab_nil, rowI_all, rowI_one, rowI_pure, rowL_all, rowL_one, rowL_pure, rowM_all, rowM_one, rowM_pure, sT, p]) : G := (e p).mpr h
theorem sPkV {G G' : Prop} (h : G') (e : G = G' := by conv => lhs; simp (disch := omega) only [rowsOf, cNat, cN, St.ret, St.seth, Eff.app, Eff.wi, sepL, guardOf, St.known, objOf, List.set, sliceW, litW, copyW, lenOf, bnd, mxOk, ofCells, TI.isAgg, cellsOf, storable, AV.one, dead, laid, overlay, reduceCtorEq, Int.reduceLE, Int.reduceLT, Int.reduceSub, Int.reduceAdd, Nat.reduceMul, Int.reduceToNat, Nat.reducePow, Int.reduceNeg, Nat.reduceAdd, Nat.reduceLT, Nat.reduceLeDiff, sA, sB, Nat.reduceEqDiff, tab_length, List.take_length, tab_drop, tab_take, tab_nil, rowI_all, rowI_one, rowI_pure, rowL_all, rowL_one, rowL_pure, rowM_all, rowM_one, rowM_pure, sT, view_sref, viewRef, view_agg, views_cons, views_nil, view_bool, view_int, view_sl, view_nils, view_str, view_tup, view_nilif]) : G := e.mpr h
theorem aPk {G G' : Prop} (h : G') (f : Wr G' → G := by intro h; (repeat (first | (refine W_seqV fun K hK => ?_; (try (refine sPk ?_; try exact True.intro)); (repeat refine aI ?_); refine hK _ ?_; clear hK K) | (refine W_seqR fun K hK => ?_; (try (refine sPk ?_; try exact True.intro)); (repeat refine aI ?_); refine hK _ ?_; clear hK K) | (refine W_seqD mixed [] (by kernel_rfl) fun K hK => ?_; (try (refine sPk ?_; try exact True.intro)); (repeat refine aI ?_); refine hK _ ?_; clear hK K))); exact h.out) : G := f ⟨h⟩

theorem ne_of_beq {α : Type} [BEq α] {a b : α} {c : Bool} (h : (a == b) = c) : (a != b) = !c := by rw [← h]; rfl
set_option maxHeartbeats 8000000 in
theorem f10check_ok (i : II) (r : Rw) (ls : List LL) (hi : IIok i) (h : RwOk r) (hL : LsOk ls) : Pure Tryz.prog 42 [.agg i.cells, .agg r.cells, .sl (tab rowL ls)] (· = .bool (checkB i (rowsTo ls (eqnF r) (eqnF r).length))) := by
  have he := f10row_ok r ls h hL
  have hN := eqn_nf r
  have hb := eqn_nbs h
  have hro := rows_ok hL hN (by omega) (eqnF r).length (Nat.le_refl _)
  have hrl := rowsTo_len ls (eqnF r) (eqnF r).length
  have hel := nbs_len (eqnF r)
  generalize rowsTo ls (eqnF r) (eqnF r).length = L at *
  have hro' := fun k (hk : k < L.length) => hro (L.getD k default) (by simp [List.getD_eq_getElem?_getD, hk])
  have hcy := fun k hk => @check_yes i L k hk
  have hcn := @check_no i L
  have hal := fun k (hk : k < L.length) => f10sameBy_ok (L.getD k default).by_ i.by_ (hro' k hk).byOk hi.byOk
  have hcm := fun k (hk : k < L.length) => f5cmp_ok (L.getD k default).at_ i.at_ (hro' k hk).at_ hi.at_ (by have := nb2_sub (L.getD k default).at_.v i.at_.v; have := (hro' k hk).nb; have := hi.nb; omega)
  have hfo : ∀ x, follows i x = ((x.var == i.var) && (x.upper == i.upper) && alikeB x.by_ i.by_ && ((dsg (dsub x.at_.v i.at_.v) == 0) || (decide (dsg (dsub x.at_.v i.at_.v) < 0) == x.upper))) := fun _ => rfl
  generalize checkB i L = cb at *
  clear hi
  obtain ⟨b, f⟩ := r
  simp only [Rw.cells, II.cells] at *
  (refine pureW Tryz.func42 rfl (rs := [Go.ResultVar.tmp 6]) rfl (n := 65) rfl ?_; simp only [List.length_cons, List.length_nil, List.replicate, List.cons_append, List.nil_append])
  (refine aPk ?_)
  ((first | refine W_seqV ?_ | refine W_seq (W_seqV ?_) | refine W_regV ?_); intro K hK; (refine sPk ?_; try exact True.intro))
  ((repeat refine aI ?_); refine ⟨by kernel_rfl, rfl, _, he, ?_⟩; (try (refine sPk ?_; try exact True.intro)); (repeat refine aI ?_))
  ((repeat refine aI ?_); refine hK _ ?_; clear hK K)
  refine W_seq ?_
  ((first | refine W_seqV ?_ | refine W_seq (W_seqV ?_) | refine W_regV ?_); intro K hK; (refine sPk ?_; try exact True.intro))
  ((repeat refine aI ?_); refine hK _ ?_; clear hK K)
  refine W_block (W_loop (fun t : {t : Nat // t ≤ L.length ∧ ∀ k, k < t → follows i (L.getD k default) = false} =>
      ⟨(.any :: .any :: .any :: (.ptr 3 0 0) :: .any :: .any :: .any :: (.sl (tab rowI L)) :: (.int .i64 t.1) :: .any :: .any :: .any :: .any :: .any :: .any :: .any :: .any :: .any :: .any :: .any :: .any :: .any :: .any :: .any :: .any :: .any :: .any :: .any :: .any :: .any :: .any :: .any :: .any :: .any :: .any :: .any :: .any :: .any :: .any :: .any :: .any :: .any :: .any :: .any :: .any :: .any :: .any :: .any :: .any :: .any :: .any :: .any :: .any :: .any :: .any :: .any :: .any :: .any :: .any :: .any :: .any :: .any :: .any :: .any :: .any :: []), (.dead :: .dead :: .dead :: (.arr 49 9 false [[.int .i64 i.var, .bool i.upper, .bool i.at_.a.neg, .sl (u32s i.at_.a.num), .sl (u32s i.at_.a.den), .bool i.at_.b.neg, .sl (u32s i.at_.b.num), .sl (u32s i.at_.b.den), .sl (tab rowM i.by_)]]) :: .dead :: .dead :: .dead :: .dead :: .dead :: .dead :: .dead :: .dead :: .dead :: .dead :: .dead :: .dead :: .dead :: .dead :: .dead :: .dead :: .dead :: .dead :: .dead :: .dead :: .dead :: .dead :: .dead :: .dead :: .dead :: .dead :: .dead :: .dead :: .dead :: .dead :: .dead :: .dead :: .dead :: .dead :: .dead :: .dead :: .dead :: .dead :: .dead :: .dead :: .dead :: .dead :: .dead :: .dead :: .dead :: .dead :: .dead :: .dead :: .dead :: .dead :: .dead :: .dead :: .dead :: .dead :: .dead :: .dead :: .dead :: .dead :: .dead :: .dead :: .dead :: [])⟩) (fun t => L.length - t.1)
      ⟨0, by omega, by omega⟩ (Le_drop (by simp [leE]) (by simp [leH]) rfl rfl) fun t => ?_)
  obtain ⟨k, hk, hbe⟩ := t
  dsimp only
  by_cases hlt : k < L.length
  · have h1 := hal k hlt
    have h2 := hcm k hlt
    have h3 := hcy k hlt
    have hfx := hfo (L.getD k default)
    have hXi : (tab rowI L).getD k [] = (L.getD k default).cells := tab_getD hlt
    obtain ⟨fb, hfb⟩ : ∃ fb, follows i (L.getD k default) = fb := ⟨_, rfl⟩
    rw [hfb] at hfx h3
    generalize dsg (dsub (L.getD k default).at_.v i.at_.v) = d at *
    generalize alikeB (L.getD k default).by_ i.by_ = ab at *
    generalize hgx : L.getD k default = x at *
    obtain ⟨v, u, ⟨⟨n, x1, y⟩, ⟨m, z, w⟩⟩, by_⟩ := x
    obtain ⟨v', u', ⟨⟨n', x1', y'⟩, ⟨m', z', w'⟩⟩, by_'⟩ := i
    simp only [II.cells, DD.av, DD.cells] at *
    clear hal hcm hcy hfo hro hro' he
    obtain ⟨b1, e1⟩ : ∃ b, (v == v') = b := ⟨_, rfl⟩
    obtain ⟨b2, e2⟩ : ∃ b, (u == u') = b := ⟨_, rfl⟩
    obtain ⟨b4, e4⟩ : ∃ b, (d == 0) = b := ⟨_, rfl⟩
    rw [e1, e2, e4] at hfx
    have n1 := ne_of_beq e1
    have fin : fb = false → ∀ j, j < k + 1 → follows ⟨v', u', ⟨⟨n', x1', y'⟩, ⟨m', z', w'⟩⟩, by_'⟩ (L.getD j default) = false := fun hf j hj => by
      rcases Nat.lt_or_ge j k with h | h
      · exact hbe j h
      · rw [show j = k by omega, hgx, hfb, hf]
    refine W_seq ?_
    ((first | refine W_seqV ?_ | refine W_seq (W_seqV ?_) | refine W_regV ?_); intro K hK; (refine sPkX hlt ?_; try exact True.intro))
    ((repeat refine aI ?_); refine hK _ ?_; clear hK K)
    (first | refine W_cond rfl (fun _ => ?_) (fun h => by cases h) | refine W_seq (W_cond rfl (fun _ => ?_) (fun h => by cases h)))
    refine W_skip ?_
    simp only [thenW]
    refine W_seq ?_
    refine W_block ?_
    -- the guard
    refine W_join (fun s' => ((b1 && b2 && ab) = true ∧ Le [] s' ⟨(.any :: .any :: .any :: (.ptr 3 0 0) :: .any :: .any :: .any :: (.sl (tab rowI L)) :: (.int .i64 k) :: .any :: .any :: .any :: .any :: .any :: .any :: .any :: .any :: .any :: .any :: .any :: .any :: .any :: .any :: .any :: .any :: .any :: .any :: .any :: .any :: .any :: .any :: .any :: .any :: .any :: .any :: .any :: .any :: .any :: .any :: .any :: .any :: .any :: .any :: .any :: .any :: .any :: .any :: .any :: .any :: .any :: .any :: .any :: .any :: .any :: .any :: .any :: .any :: .any :: .any :: .any :: .any :: .any :: .any :: .any :: .any :: []), (.dead :: .dead :: .dead :: (.arr 49 9 false [[.int .i64 v', .bool u', .bool n', .sl (u32s x1'), .sl (u32s y'), .bool m', .sl (u32s z'), .sl (u32s w'), .sl (tab rowM by_')]]) :: .dead :: .dead :: .dead :: .dead :: .dead :: .dead :: .dead :: .dead :: .dead :: .dead :: .dead :: .dead :: .dead :: .dead :: .dead :: .dead :: .dead :: .dead :: .dead :: .dead :: .dead :: .dead :: .dead :: .dead :: .dead :: .dead :: .dead :: .dead :: .dead :: .dead :: .dead :: .dead :: .dead :: .dead :: .dead :: .dead :: .dead :: .dead :: .dead :: .dead :: .dead :: .dead :: .dead :: .dead :: .dead :: .dead :: .dead :: .dead :: .dead :: .dead :: .dead :: .dead :: .dead :: .dead :: .dead :: .dead :: .dead :: .dead :: .dead :: .dead :: .dead :: [])⟩)) ?_ ?_
    · cases b1
      · refine W_seq ?_
        ((first | refine W_seqD mixed [] (by kernel_rfl) ?_ | refine W_seq (W_seqD mixed [] (by kernel_rfl) ?_) | refine W_regD mixed [] (by kernel_rfl) ?_); intro K hK; (refine sPkX (And.intro hXi (And.intro hlt (And.intro e1 n1))) ?_; try exact True.intro))
        ((repeat refine aI ?_); refine hK _ ?_; clear hK K)
        (first | refine W_cond rfl (fun _ => ?_) (fun h => by cases h) | refine W_seq (W_cond rfl (fun _ => ?_) (fun h => by cases h)))
        refine W_exit ?_
        simp only [thenW, blockW, if_true]
        ((first | refine W_seqV ?_ | refine W_seq (W_seqV ?_) | refine W_regV ?_); intro K hK; (refine sPk ?_; try exact True.intro))
        ((repeat refine aI ?_); refine hK _ ?_; clear hK K)
        simp only [blockW, thenW]
        refine ⟨⟨k + 1, by omega, fin (by rw [hfx]; simp)⟩, Le_drop (by simp [leE]) (by simp [leH]) rfl rfl, ?_⟩
        dsimp only
        omega
      · cases b2
        · have n2 := ne_of_beq e2
          refine W_seq ?_
          ((first | refine W_seqD mixed [] (by kernel_rfl) ?_ | refine W_seq (W_seqD mixed [] (by kernel_rfl) ?_) | refine W_regD mixed [] (by kernel_rfl) ?_); intro K hK; simp (disch := omega) only [rowsOf, cNat, cN, St.ret, St.seth, Eff.app, Eff.wi, sepL, guardOf, St.known, objOf, List.set, sliceW, litW, copyW, lenOf, bnd, mxOk, ofCells, TI.isAgg, cellsOf, storable, AV.one, dead, laid, overlay, reduceCtorEq, Int.reduceLE, Int.reduceLT, Int.reduceSub, Int.reduceAdd, Nat.reduceMul, Int.reduceToNat, Nat.reducePow, Int.reduceNeg, Nat.reduceAdd, Nat.reduceLT, Nat.reduceLeDiff, sA, sB, Nat.reduceEqDiff, tab_length, List.take_length, tab_drop, tab_take, tab_nil, rowI_all, rowI_one, rowI_pure, rowL_all, rowL_one, rowL_pure, rowM_all, rowM_one, rowM_pure, sT, hXi, hlt, e1, n1, e2, n2, Bool.not_true, Bool.not_false])
          ((repeat refine aI ?_); refine hK _ ?_; clear hK K)
          (first | refine W_cond rfl (fun _ => ?_) (fun h => by cases h) | refine W_seq (W_cond rfl (fun _ => ?_) (fun h => by cases h)))
          refine W_exit ?_
          simp only [thenW, blockW, if_true]
          ((first | refine W_seqV ?_ | refine W_seq (W_seqV ?_) | refine W_regV ?_); intro K hK; (refine sPk ?_; try exact True.intro))
          ((repeat refine aI ?_); refine hK _ ?_; clear hK K)
          simp only [blockW, thenW]
          refine ⟨⟨k + 1, by omega, fin (by rw [hfx]; simp)⟩, Le_drop (by simp [leE]) (by simp [leH]) rfl rfl, ?_⟩
          dsimp only
          omega
        · have n2 := ne_of_beq e2
          cases ab
          · refine W_seq ?_
            ((first | refine W_seqD mixed [] (by kernel_rfl) ?_ | refine W_seq (W_seqD mixed [] (by kernel_rfl) ?_) | refine W_regD mixed [] (by kernel_rfl) ?_); intro K hK; simp (disch := omega) only [rowsOf, cNat, cN, St.ret, St.seth, Eff.app, Eff.wi, sepL, guardOf, St.known, objOf, List.set, sliceW, litW, copyW, lenOf, bnd, mxOk, ofCells, TI.isAgg, cellsOf, storable, AV.one, dead, laid, overlay, reduceCtorEq, Int.reduceLE, Int.reduceLT, Int.reduceSub, Int.reduceAdd, Nat.reduceMul, Int.reduceToNat, Nat.reducePow, Int.reduceNeg, Nat.reduceAdd, Nat.reduceLT, Nat.reduceLeDiff, sA, sB, Nat.reduceEqDiff, tab_length, List.take_length, tab_drop, tab_take, tab_nil, rowI_all, rowI_one, rowI_pure, rowL_all, rowL_one, rowL_pure, rowM_all, rowM_one, rowM_pure, sT, hXi, hlt, e1, n1, e2, n2, Bool.not_true, Bool.not_false])
            ((repeat refine aI ?_); refine ⟨by kernel_rfl, rfl, _, h1, ?_⟩; (try (refine sPk ?_; try exact True.intro)); (repeat refine aI ?_))
            ((repeat refine aI ?_); refine hK _ ?_; clear hK K)
            (first | refine W_cond rfl (fun _ => ?_) (fun h => by cases h) | refine W_seq (W_cond rfl (fun _ => ?_) (fun h => by cases h)))
            refine W_exit ?_
            simp only [thenW, blockW, if_true]
            ((first | refine W_seqV ?_ | refine W_seq (W_seqV ?_) | refine W_regV ?_); intro K hK; (refine sPk ?_; try exact True.intro))
            ((repeat refine aI ?_); refine hK _ ?_; clear hK K)
            simp only [blockW, thenW]
            refine ⟨⟨k + 1, by omega, fin (by rw [hfx]; simp)⟩, Le_drop (by simp [leE]) (by simp [leH]) rfl rfl, ?_⟩
            dsimp only
            omega
          · refine W_seq ?_
            ((first | refine W_seqD mixed [] (by kernel_rfl) ?_ | refine W_seq (W_seqD mixed [] (by kernel_rfl) ?_) | refine W_regD mixed [] (by kernel_rfl) ?_); intro K hK; simp (disch := omega) only [rowsOf, cNat, cN, St.ret, St.seth, Eff.app, Eff.wi, sepL, guardOf, St.known, objOf, List.set, sliceW, litW, copyW, lenOf, bnd, mxOk, ofCells, TI.isAgg, cellsOf, storable, AV.one, dead, laid, overlay, reduceCtorEq, Int.reduceLE, Int.reduceLT, Int.reduceSub, Int.reduceAdd, Nat.reduceMul, Int.reduceToNat, Nat.reducePow, Int.reduceNeg, Nat.reduceAdd, Nat.reduceLT, Nat.reduceLeDiff, sA, sB, Nat.reduceEqDiff, tab_length, List.take_length, tab_drop, tab_take, tab_nil, rowI_all, rowI_one, rowI_pure, rowL_all, rowL_one, rowL_pure, rowM_all, rowM_one, rowM_pure, sT, hXi, hlt, e1, n1, e2, n2, Bool.not_true, Bool.not_false])
            ((repeat refine aI ?_); refine ⟨by kernel_rfl, rfl, _, h1, ?_⟩; (try (refine sPk ?_; try exact True.intro)); (repeat refine aI ?_))
            ((repeat refine aI ?_); refine hK _ ?_; clear hK K)
            (first | refine W_cond rfl (fun h => by cases h) (fun _ => ?_) | refine W_seq (W_cond rfl (fun h => by cases h) (fun _ => ?_)))
            refine W_skip ?_
            simp only [blockW, thenW]
            exact ⟨rfl, Le_drop (by simp [leE]) (by simp [leH]) rfl rfl⟩
    rintro s' ⟨hb3, hle⟩
    refine W.le ?_ hle
    clear hle s' h1
    rw [hb3, Bool.true_and] at hfx
    have hu : u = u' := by
      simp only [Bool.and_eq_true] at hb3
      rw [hb3.1.2] at e2
      exact beq_iff_eq.1 e2
    subst hu
    ((first | refine W_seqD mixed [] (by kernel_rfl) ?_ | refine W_seq (W_seqD mixed [] (by kernel_rfl) ?_) | refine W_regD mixed [] (by kernel_rfl) ?_); intro K hK; (refine sPkX (And.intro hXi hlt) ?_; try exact True.intro))
    ((repeat refine aI ?_); refine ⟨by kernel_rfl, rfl, _, h2, ?_⟩; (try (refine sPk ?_; try exact True.intro)); (repeat refine aI ?_))
    ((repeat refine aI ?_); refine hK _ ?_; clear hK K)
    obtain ⟨b5, e5⟩ : ∃ b, (decide (d < 0) == u) = b := ⟨_, rfl⟩
    rw [e5] at hfx
    refine W_join (fun s' => Le [] s' ⟨(.any :: .any :: .any :: (.ptr 3 0 0) :: .any :: .any :: .any :: (.sl (tab rowI L)) :: (.int .i64 k) :: .any :: .any :: .any :: .any :: .any :: .any :: .any :: .any :: .any :: .any :: .any :: .any :: .any :: .any :: .any :: .any :: .any :: .any :: .any :: .any :: .any :: .any :: .any :: .any :: .any :: .any :: .any :: .any :: .any :: .any :: .any :: .any :: .any :: .any :: .any :: .any :: .any :: .any :: .any :: .any :: .any :: .any :: .any :: .any :: .any :: .any :: .any :: .any :: .any :: .any :: .any :: .any :: .any :: .any :: .any :: (.bool fb) :: []), (.dead :: .dead :: .dead :: (.arr 49 9 false [[.int .i64 v', .bool u, .bool n', .sl (u32s x1'), .sl (u32s y'), .bool m', .sl (u32s z'), .sl (u32s w'), .sl (tab rowM by_')]]) :: .dead :: .dead :: .dead :: .dead :: .dead :: .dead :: .dead :: .dead :: .dead :: .dead :: .dead :: .dead :: .dead :: .dead :: .dead :: .dead :: .dead :: .dead :: .dead :: .dead :: .dead :: .dead :: .dead :: .dead :: .dead :: .dead :: .dead :: .dead :: .dead :: .dead :: .dead :: .dead :: .dead :: .dead :: .dead :: .dead :: .dead :: .dead :: .dead :: .dead :: .dead :: .dead :: .dead :: .dead :: .dead :: .dead :: .dead :: .dead :: .dead :: .dead :: .dead :: .dead :: .dead :: .dead :: .dead :: .dead :: .dead :: .dead :: .dead :: .dead :: .dead :: [])⟩) ?_ ?_
    · cases b4
      · subst hfx
        ((first | refine W_seqV ?_ | refine W_seq (W_seqV ?_) | refine W_regV ?_); intro K hK; (refine sPkX (And.intro e4 e5) ?_; try exact True.intro))
        ((repeat refine aI ?_); refine hK _ ?_; clear hK K)
        exact Le_drop (by simp [leE]) (by simp [leH]) rfl rfl
      · subst hfx
        ((first | refine W_seqV ?_ | refine W_seq (W_seqV ?_) | refine W_regV ?_); intro K hK; (refine sPkX e4 ?_; try exact True.intro))
        ((repeat refine aI ?_); refine hK _ ?_; clear hK K)
        exact Le_drop (by simp [leE]) (by simp [leH]) rfl rfl
    intro s' hle
    refine W.le ?_ hle
    clear hle s' h2
    cases fb
    · (first | refine W_cond rfl (fun h => by cases h) (fun _ => ?_) | refine W_seq (W_cond rfl (fun h => by cases h) (fun _ => ?_)))
      refine W_skip ?_
      simp only [blockW, thenW]
      ((first | refine W_seqV ?_ | refine W_seq (W_seqV ?_) | refine W_regV ?_); intro K hK; (refine sPk ?_; try exact True.intro))
      ((repeat refine aI ?_); refine hK _ ?_; clear hK K)
      simp only [blockW, thenW]
      refine ⟨⟨k + 1, by omega, fin rfl⟩, Le_drop (by simp [leE]) (by simp [leH]) rfl rfl, ?_⟩
      dsimp only
      omega
    · rw [h3 rfl]
      (first | refine W_cond rfl (fun _ => ?_) (fun h => by cases h) | refine W_seq (W_cond rfl (fun _ => ?_) (fun h => by cases h)))
      ((first | refine W_seqV ?_ | refine W_seq (W_seqV ?_) | refine W_regV ?_); intro K hK; (refine sPk ?_; try exact True.intro))
      ((repeat refine aI ?_); refine hK _ ?_; clear hK K)
      refine W_ret ?_
      (refine qG ?_; try exact True.intro); try (refine sPkV ?_; try exact True.intro)
  · obtain rfl : k = L.length := by omega
    rw [hcn hbe]
    refine W_seq ?_
    ((first | refine W_seqV ?_ | refine W_seq (W_seqV ?_) | refine W_regV ?_); intro K hK; (refine sPk ?_; try exact True.intro))
    ((repeat refine aI ?_); refine hK _ ?_; clear hK K)
    (first | refine W_cond rfl (fun h => by cases h) (fun _ => ?_) | refine W_seq (W_cond rfl (fun h => by cases h) (fun _ => ?_)))
    refine W_exit ?_
    simp only [thenW, blockW, if_true]
    ((first | refine W_seqV ?_ | refine W_seq (W_seqV ?_) | refine W_regV ?_); intro K hK; (refine sPk ?_; try exact True.intro))
    ((repeat refine aI ?_); refine hK _ ?_; clear hK K)
    refine W_ret ?_
    (refine qG ?_; try exact True.intro); try (refine sPkV ?_; try exact True.intro)
theorem checks_law (i : II) (r : Rw) (ls : List LL) (hi : IIok i) (h : RwOk r) (hL : LsOk ls) : Pure Tryz.prog 7 [.agg i.cells, .agg r.cells, .sl (tab rowL ls)] (· = .bool true) := by
  have h1 := icheck_ok i r ls hi h hL
  have h2 := f10check_ok i r ls hi h hL
  generalize checkB i _ = cb at *
  have hcb := bool_eq_self cb
  clear hi h
  obtain ⟨b, f⟩ := r
  obtain ⟨v, u, ⟨⟨n, x1, y⟩, ⟨m, z, w⟩⟩, by_⟩ := i
  simp only [Rw.cells, II.cells] at *
  (refine pureW Tryz.func7 rfl (rs := [Go.ResultVar.tmp 6]) rfl (n := 16) rfl ?_; simp only [List.length_cons, List.length_nil, List.replicate, List.cons_append, List.nil_append])
  (refine aPk ?_)
  ((first | refine W_seqD mixed [] (by kernel_rfl) ?_ | refine W_seq (W_seqD mixed [] (by kernel_rfl) ?_) | refine W_regD mixed [] (by kernel_rfl) ?_); intro K hK; (refine sPk ?_; try exact True.intro))
  ((repeat refine aI ?_); refine ⟨by kernel_rfl, rfl, _, h1, ?_⟩; (try (refine sPk ?_; try exact True.intro)); (repeat refine aI ?_))
  ((repeat refine aI ?_); refine ⟨by kernel_rfl, rfl, _, h2, ?_⟩; (try (refine sPk ?_; try exact True.intro)); (repeat refine aI ?_))
  rw [hcb]
  ((repeat refine aI ?_); refine hK _ ?_; clear hK K)
  refine W_ret ?_
  (refine qG ?_; try exact True.intro); try (refine sPkV ?_; try exact True.intro)
end Go.Proofs.YtjkjapjcmbfkgaaGreat.Vm

/-
  Arguments read as plain data: opened into abstract values.
-/
namespace Go.Proofs.YtjkjapjcmbfkgaaGreat.Vm
open Go Go.RowKit
set_option linter.unusedVariables false
set_option linter.unusedSimpArgs false

section
variable {H : Type} {encH : TypeId × Value → H} {P : Program} {w : World}
/-- Cells that read as data of a type stand for a value of α; its weight is at most the reading's bulk. -/
def Opens (encH : TypeId × Value → H) (P : Program) (w : World) (t : TypeId) {α : Type} (e : α → List AV) (good : α → Prop) (wt : α → Nat) : Prop :=
  ∀ (fuel : Nat) (cs : List Value) (x : DataW H × List MemPlace), DataW.trod encH P w 0 (fun _ => true) true fuel t cs = some x → ∃ a, Rps w (fun _ => False) noPl (e a) cs ∧ good a ∧ wt a ≤ Rows.uptoBulk x.1

theorem Opens.bool {t : TypeId} (ht : P.underlying t = some .bool) : Opens encH P w t (fun b : Bool => [.bool b]) (fun _ => True) (fun _ => 1) := by
  intro fuel cs x h
  obtain ⟨b, rfl, rfl⟩ := DataW.trod_bool ht h
  exact ⟨b, ⟨_, _, rfl, rfl, rfl⟩, trivial, by simp [Rows.uptoBulk]⟩
theorem Opens.i64 {t : TypeId} (ht : P.underlying t = some (.int .i64)) : Opens encH P w t (fun n : Int => [.int .i64 n]) (fun n => -9223372036854775808 ≤ n ∧ n ≤ 9223372036854775807) (fun _ => 1) := by
  intro fuel cs x h
  obtain ⟨n, rfl, rfl, hw⟩ := DataW.trod_int ht h
  exact ⟨n, ⟨_, _, rfl, rfl, rfl⟩, bounds_i64 hw, by simp [Rows.uptoBulk]⟩
theorem Opens.u32 {t : TypeId} (ht : P.underlying t = some (.int .u32)) : Opens encH P w t (fun n : Nat => [.int .u32 (n : Int)]) (fun n => n < 4294967296) (fun _ => 1) := by
  intro fuel cs x h
  obtain ⟨n, rfl, rfl, hw⟩ := DataW.trod_int ht h
  obtain ⟨h1, h2⟩ := bounds_u32 hw
  refine ⟨n.toNat, ⟨_, _, rfl, ?_, rfl⟩, by omega, by simp [Rows.uptoBulk]⟩
  show Value.int .u32 n = _
  rw [Int.toNat_of_nonneg h1]
theorem Opens.str {t : TypeId} (ht : P.underlying t = some .string) : Opens encH P w t (fun s : ByteArray => [.str s]) (fun _ => True) (fun s => s.size + 1) := by
  intro fuel cs x h
  obtain ⟨s, rfl, rfl, hs⟩ := DataW.trod_string ht h
  refine ⟨s, ⟨_, _, rfl, rfl, rfl⟩, trivial, ?_⟩
  simp only [Rows.uptoBulk]
  have : s.data.toList.length = s.size := by rw [Array.length_toList]; rfl
  omega
theorem Opens.map {t : TypeId} {α β : Type} {e : α → List AV} {good : α → Prop} {wt : α → Nat} (h : Opens encH P w t e good wt) {e' : β → List AV} {good' : β → Prop} {wt' : β → Nat} (f : α → β)
    (he : ∀ a, e' (f a) = e a) (hg : ∀ a, good a → good' (f a)) (hw : ∀ a, wt' (f a) ≤ wt a) : Opens encH P w t e' good' wt' := by
  intro fuel cs x hx
  obtain ⟨a, h1, h2, h3⟩ := h fuel cs x hx
  exact ⟨f a, by rw [he]; exact h1, hg a h2, Nat.le_trans (hw a) h3⟩
theorem Opens.two {t : TypeId} {f0 f1 : Field} (ht : P.underlying t = some (.struct #[f0, f1])) (o0 : f0.offset = 0) (o1 : f1.offset = P.cellsOf f0.type) (hl : P.cellsOf t = P.cellsOf f0.type + P.cellsOf f1.type)
    {α β : Type} {e0 : α → List AV} {g0 : α → Prop} {w0 : α → Nat} {e1 : β → List AV} {g1 : β → Prop} {w1 : β → Nat} (h0 : Opens encH P w f0.type e0 g0 w0) (h1 : Opens encH P w f1.type e1 g1 w1) :
    Opens encH P w t (fun p : α × β => e0 p.1 ++ e1 p.2) (fun p => g0 p.1 ∧ g1 p.2) (fun p => w0 p.1 + w1 p.2 + 1) := by
  intro fuel cs x h
  obtain ⟨xs, n, _, rfl, hlen, hxs, hf⟩ := DataW.trod_struct ht h
  match xs, hxs with
  | [y0, y1], _ =>
    obtain ⟨a, r0, q0, b0⟩ := h0 _ _ _ (hf 0 f0 rfl)
    obtain ⟨b, r1, q1, b1⟩ := h1 _ _ _ (hf 1 f1 rfl)
    refine ⟨(a, b), ?_, ⟨q0, q1⟩, ?_⟩
    · have := r0.append r1
      rw [o0, o1, List.drop_zero, List.take_of_length_le (l := cs.drop _) (by rw [List.length_drop]; omega), List.take_append_drop] at this
      exact this
    · simp only [List.map_cons, List.map_nil, Rows.uptoBulk, Rows.uptoBulkAll]
      omega
theorem Opens.four {t : TypeId} {f0 f1 f2 f3 : Field} (ht : P.underlying t = some (.struct #[f0, f1, f2, f3])) (o0 : f0.offset = 0) (o1 : f1.offset = P.cellsOf f0.type) (o2 : f2.offset = P.cellsOf f0.type + P.cellsOf f1.type)
    (o3 : f3.offset = P.cellsOf f0.type + P.cellsOf f1.type + P.cellsOf f2.type) (hl : P.cellsOf t = P.cellsOf f0.type + P.cellsOf f1.type + P.cellsOf f2.type + P.cellsOf f3.type)
    {α β γ δ : Type} {e0 : α → List AV} {g0 : α → Prop} {w0 : α → Nat} {e1 : β → List AV} {g1 : β → Prop} {w1 : β → Nat} {e2 : γ → List AV} {g2 : γ → Prop} {w2 : γ → Nat} {e3 : δ → List AV} {g3 : δ → Prop} {w3 : δ → Nat}
    (h0 : Opens encH P w f0.type e0 g0 w0) (h1 : Opens encH P w f1.type e1 g1 w1) (h2 : Opens encH P w f2.type e2 g2 w2) (h3 : Opens encH P w f3.type e3 g3 w3) :
    Opens encH P w t (fun p : α × β × γ × δ => e0 p.1 ++ (e1 p.2.1 ++ (e2 p.2.2.1 ++ e3 p.2.2.2))) (fun p => g0 p.1 ∧ g1 p.2.1 ∧ g2 p.2.2.1 ∧ g3 p.2.2.2) (fun p => w0 p.1 + w1 p.2.1 + w2 p.2.2.1 + w3 p.2.2.2 + 1) := by
  intro fuel cs x h
  obtain ⟨xs, n, _, rfl, hlen, hxs, hf⟩ := DataW.trod_struct ht h
  match xs, hxs with
  | [y0, y1, y2, y3], _ =>
    obtain ⟨a, r0, q0, b0⟩ := h0 _ _ _ (hf 0 f0 rfl)
    obtain ⟨b, r1, q1, b1⟩ := h1 _ _ _ (hf 1 f1 rfl)
    obtain ⟨c, r2, q2, b2⟩ := h2 _ _ _ (hf 2 f2 rfl)
    obtain ⟨d, r3, q3, b3⟩ := h3 _ _ _ (hf 3 f3 rfl)
    refine ⟨(a, b, c, d), ?_, ⟨q0, q1, q2, q3⟩, ?_⟩
    · have := r0.append (r1.append (r2.append r3))
      rw [o0, o1, o2, o3, List.drop_zero, List.take_of_length_le (l := cs.drop (P.cellsOf f0.type + P.cellsOf f1.type + P.cellsOf f2.type)) (by rw [List.length_drop]; omega),
        ← List.drop_drop (i := P.cellsOf f2.type), List.take_append_drop, ← List.drop_drop (i := P.cellsOf f1.type), List.take_append_drop, List.take_append_drop] at this
      exact this
    · simp only [List.map_cons, List.map_nil, Rows.uptoBulk, Rows.uptoBulkAll]
      omega
def sumW {α : Type} (wt : α → Nat) : List α → Nat
  | [] => 0
  | x :: l => wt x + sumW wt l
theorem sumW_snoc {α : Type} (wt : α → Nat) (l : List α) (x : α) : sumW wt (l ++ [x]) = sumW wt l + wt x := by
  induction l with
  | nil => simp [sumW]
  | cons y l ih => simp only [List.cons_append, sumW, ih]; omega
theorem bulk_append (l r : List (DataW H)) : Rows.uptoBulkAll (l ++ r) = Rows.uptoBulkAll l + Rows.uptoBulkAll r := by
  induction l with
  | nil => simp [Rows.uptoBulkAll]
  | cons x l ih => simp only [List.cons_append, Rows.uptoBulkAll, ih]; omega
theorem Opens.slice {t e : TypeId} (ht : P.underlying t = some (.slice e)) (hpos : 0 < P.cellsOf e) {α : Type} {enc : α → List AV} {good : α → Prop} {wt : α → Nat} (he : Opens encH P w e enc good wt) :
    Opens encH P w t (fun l : List α => [.sl (tab enc l)]) (fun l => ∀ x ∈ l, good x) (fun l => sumW wt l + 1) := by
  intro fuel cs x h
  rcases DataW.trod_slice ht h with ⟨rfl, rfl⟩ | ⟨a, len, cap, elems, rest, n, _, rfl, rfl, hb, hlc, hcm, hlen, hel, _, _⟩
  · exact ⟨[], ⟨_, _, rfl, ⟨none, 0, rfl, Nat.le_refl _, by decide, .inl rfl⟩, rfl⟩, by simp, by simp [Rows.uptoBulk, sumW]⟩
  · obtain ⟨b, o, spot⟩ := a
    have step : ∀ m, m ≤ len → ∃ (l : List α) (vss : List (List Value)), l.length = m ∧ vss.flatten.length = m * P.cellsOf e ∧ RpR w (fun _ => False) noPl (tab enc l) vss ∧ (∀ x ∈ l, good x) ∧ sumW wt l ≤ Rows.uptoBulkAll ((elems.take m).map (·.1)) ∧
        (0 < m → spot = none ∧ b < w.heap.size) ∧ CellsAt w b o vss.flatten := by
      intro m
      induction m with
      | zero => exact fun _ => ⟨[], [], rfl, by simp, rfl, by simp, by simp [sumW, Rows.uptoBulkAll], by omega, fun j u hj => by simp at hj⟩
      | succ m ih =>
        intro hm
        obtain ⟨l, vss, h1, h2, h3, h4, h5, h6, h7⟩ := ih (by omega)
        have hi := hel m (by omega)
        have hg : elems[m]? = some (elems[m]'(by omega)) := by simp
        rw [hg] at hi
        obtain ⟨cs', hc, hd⟩ := Option.bind_eq_some_iff.1 hi
        obtain ⟨_, hcl, hcell⟩ := World.cells?_some hc
        obtain ⟨y, hy1, hy2, hy3⟩ := he _ _ _ hd
        obtain ⟨c0, hc0⟩ : ∃ c0, cs'[0]? = some c0 := ⟨cs'[0]'(by omega), by simp⟩
        have g0 : w.cell? (((⟨b, o, spot⟩ : Addr).add (m * P.cellsOf e)).add 0) = some c0 := by rw [hcell 0 hpos, hc0]
        have hsp : spot = none ∧ b < w.heap.size := by
          have hs : spot = none := by
            cases m with
            | zero => have := World.cell?_spot g0; simpa [Addr.add] using this
            | succ m => exact (h6 (by omega)).1
          refine ⟨hs, ?_⟩
          have : ((⟨b, o, spot⟩ : Addr).add (m * P.cellsOf e)).add 0 = ⟨b, o + m * P.cellsOf e, none⟩ := by rw [hs, WideShapes.add_plain, WideShapes.add_plain]; rfl
          rw [this] at g0
          unfold World.cell? at g0
          split at g0
          · rename_i heq
            exact (Array.getElem?_eq_some_iff.1 heq).1
          · cases g0
        obtain ⟨hs, hbs⟩ := hsp
        subst hs
        refine ⟨l ++ [y], vss ++ [cs'], by simp [h1], ?_, ?_, ?_, ?_, fun _ => ⟨rfl, hbs⟩, ?_⟩
        · rw [List.flatten_append, List.length_append, h2, Nat.succ_mul]
          simp [hcl]
        · rw [← tab_snoc]
          exact h3.append ⟨_, _, rfl, hy1, rfl⟩
        · intro x hx
          rcases List.mem_append.1 hx with hx | hx
          · exact h4 x hx
          · rw [List.mem_singleton] at hx; subst hx; exact hy2
        · rw [sumW_snoc, List.take_add_one, hg, List.map_append, bulk_append]
          simp only [Option.toList_some, List.map_cons, List.map_nil, Rows.uptoBulkAll]
          omega
        · intro j u hj
          rw [List.flatten_append] at hj
          by_cases hjl : j < vss.flatten.length
          · rw [List.getElem?_append_left hjl] at hj
            exact h7 j u hj
          · rw [List.getElem?_append_right (by omega)] at hj
            simp only [List.flatten_cons, List.flatten_nil, List.append_nil] at hj
            have hlt : j - vss.flatten.length < cs'.length := (List.getElem?_eq_some_iff.1 hj).1
            have := hcell (j - vss.flatten.length) (by omega)
            rw [WideShapes.add_plain, WideShapes.add_plain, hj] at this
            rw [← this]
            congr 2
            omega
    obtain ⟨l, vss, h1, h2, h3, h4, h5, h6, h7⟩ := step len (Nat.le_refl _)
    have htl : (tab enc l).length = len := by rw [tab_length, h1]
    refine ⟨l, ⟨_, _, rfl, ⟨some ⟨b, o, spot⟩, cap, by rw [htl], by rw [htl]; exact hlc, hcm, ?_⟩, rfl⟩, h4, ?_⟩
    · by_cases h0 : 0 < len
      · obtain ⟨rfl, hbs⟩ := h6 h0
        exact .inr ⟨b, o, vss, rfl, fun h => h, hbs, h7, h3⟩
      · left
        have : l = [] := List.eq_nil_of_length_eq_zero (by omega)
        rw [this]; rfl
    · rw [List.take_of_length_le (by omega)] at h5
      simp only [Rows.uptoBulk]
      omega
end
end Go.Proofs.YtjkjapjcmbfkgaaGreat.Vm

/-
  Arguments of the program's own types opened: numbers, forms, atoms.
-/
namespace Go.Proofs.YtjkjapjcmbfkgaaGreat.Vm
open Go Go.RowKit
set_option linter.unusedVariables false
set_option linter.unusedSimpArgs false

section
variable {H : Type} {encH : TypeId × Value → H} {w : World}
theorem sumW_one (l : List Nat) : sumW (fun _ => 1) l = l.length := by
  induction l with
  | nil => rfl
  | cons x l ih => simp only [sumW, ih, List.length_cons]; omega
theorem opens_nat : Opens encH Tryz.prog w 25 (fun l : List Nat => [.sl (u32s l)]) Limbs (fun l => l.length + 1) :=
  (Opens.slice Tryz.underlying25 (by show 0 < Tryz.prog.cellsOf 114; rw [show Tryz.prog.cellsOf 114 = 1 by kernel_rfl]; decide) (Opens.u32 Tryz.underlying114)).map id (fun _ => rfl) (fun _ h => h) (fun l => by show l.length + 1 ≤ sumW (fun _ => 1) l + 1; rw [sumW_one]; exact Nat.le_refl _)
theorem opens_int : Opens encH Tryz.prog w 27 (fun p : Bool × List Nat => [.bool p.1, .sl (u32s p.2)]) (fun p => Limbs p.2) (fun p => p.2.length + 3) :=
  (Opens.two Tryz.underlying27 rfl (by kernel_rfl) (by kernel_rfl) (Opens.bool Tryz.underlying4) opens_nat).map id (fun _ => rfl) (fun _ h => h.2) (fun l => by simp only [id]; omega)
def RR.good (r : RR) : Prop := Limbs r.num ∧ Limbs r.den
def RR.wt (r : RR) : Nat := r.num.length + r.den.length + 5
theorem RR.bits_wt (r : RR) : r.bits ≤ 32 * r.wt := by unfold RR.bits RR.wt; omega
theorem opens_rat : Opens encH Tryz.prog w 29 rowR RR.good RR.wt :=
  (Opens.two Tryz.underlying29 rfl (by kernel_rfl) (by kernel_rfl) opens_int opens_nat).map (fun p => (⟨p.1.1, p.1.2, p.2⟩ : RR)) (fun _ => rfl) (fun _ h => h) (fun l => by simp only [RR.wt]; omega)
def mono_wt (p : Int × RR) : Nat := p.2.wt + 2
theorem opens_mono : Opens encH Tryz.prog w 54 rowM (fun p : Int × RR => (-9223372036854775808 ≤ p.1 ∧ p.1 ≤ 9223372036854775807) ∧ p.2.good) mono_wt :=
  (Opens.two Tryz.underlying54 rfl (by kernel_rfl) (by kernel_rfl) (Opens.i64 Tryz.underlying3) opens_rat).map id (fun _ => rfl) (fun _ h => h) (fun l => by simp only [id, mono_wt]; omega)
def form_good (f : List (Int × RR)) : Prop := ∀ p ∈ f, (-9223372036854775808 ≤ p.1 ∧ p.1 ≤ 9223372036854775807) ∧ p.2.good
def form_wt (f : List (Int × RR)) : Nat := sumW mono_wt f + 1
theorem opens_form : Opens encH Tryz.prog w 23 (fun f => [cF f]) form_good form_wt :=
  Opens.slice Tryz.underlying23 (by show 0 < Tryz.prog.cellsOf 54; rw [show Tryz.prog.cellsOf 54 = 4 by kernel_rfl]; decide) opens_mono
def At.good (a : At) : Prop := form_good a.form ∧ a.bound.good
def At.wt (a : At) : Nat := a.name.size + form_wt a.form + a.bound.wt + 3
end

/-! ### what little bulk means -/

theorem RR.good.ok {r : RR} (h : r.good) (hb : r.wt ≤ 1048576) : r.ok := ⟨h.1, h.2, by unfold RR.wt at hb; omega, by unfold RR.wt at hb; omega⟩
theorem RR.good.nb {r : RR} (h : r.good) : nb r.v ≤ 32 * r.wt := Nat.le_trans (nb_v r h.1 h.2) r.bits_wt
theorem form_nbs : ∀ {f : List (Int × RR)}, form_good f → nbs (vals f) ≤ 32 * sumW mono_wt f
  | [], _ => by simp [vals, nbs]
  | p :: f, h => by
    have h1 := (h p List.mem_cons_self).2.nb
    have h2 := form_nbs (f := f) fun q hq => h q (List.mem_cons_of_mem _ hq)
    simp only [vals, List.map_cons, nbs, sumW, mono_wt] at *
    omega
theorem sumW_mem {α : Type} {wt : α → Nat} {l : List α} {x : α} (h : x ∈ l) : wt x ≤ sumW wt l := by
  induction l with
  | nil => cases h
  | cons y l ih =>
    simp only [sumW]
    rcases List.mem_cons.1 h with rfl | h
    · omega
    · have := ih h; omega
theorem form_ok {f : List (Int × RR)} (h : form_good f) (hb : form_wt f ≤ 1048576) : FOk f 67108864 ∧ nbs (vals f) ≤ 67108864 := by
  have h1 := form_nbs h
  unfold form_wt at hb
  refine ⟨⟨fun p hp => (h p hp).2.ok ?_, (Sz.of _).mono (by omega)⟩, by omega⟩
  have := sumW_mem (wt := mono_wt) hp
  unfold mono_wt at this hb
  omega
theorem At.good.ok {a : At} (h : a.good) (hb : a.wt ≤ 1048576) : AtOk a := by
  unfold At.wt at hb
  obtain ⟨h1, h2⟩ := form_ok h.1 (by omega)
  refine ⟨h1, h2, h.2.ok (by omega), ?_⟩
  have := h.2.nb
  omega
end Go.Proofs.YtjkjapjcmbfkgaaGreat.Vm

/-
  Parameters opened.
-/
namespace Go.Proofs.YtjkjapjcmbfkgaaGreat.Vm
open Go Go.RowKit
set_option linter.unusedVariables false
set_option linter.unusedSimpArgs false
section
variable {H : Type} {encH : TypeId × Value → H} {P : Program} {w : World}
theorem rps_some {α : Type} {t : TypeId} {e : α → List AV} {good : α → Prop} {wt : α → Nat} (h : Opens encH P w t e good wt) {v : Value} {d : DataW H} {p : List MemPlace} (hd : DataW.Trod encH P w 0 (fun _ => true) true t v d p) :
    ∃ a, Rps w (fun _ => False) noPl (e a) v.cells.toList ∧ good a ∧ wt a ≤ Rows.uptoBulk d := by
  obtain ⟨fuel, hf⟩ := hd
  exact h fuel _ _ hf
theorem par_struct {α : Type} {t : TypeId} {fs : Array Field} (ht : P.underlying t = some (.struct fs)) {e : α → List AV} {good : α → Prop} {wt : α → Nat} (h : Opens encH P w t e good wt) {base : Nat} {v : Value} (hok : Value.okWide P w .any base t v) {d : DataW H} {p : List MemPlace} (hd : DataW.Trod encH P w 0 (fun _ => true) true t v d p) :
    ∃ a, Rp w (fun _ => False) noPl (.agg (e a)) v ∧ good a ∧ wt a ≤ Rows.uptoBulk d := by
  unfold Value.okWide at hok
  rw [ht] at hok
  obtain ⟨cs, rfl, _, _⟩ := hok
  obtain ⟨a, h1, h2, h3⟩ := rps_some h hd
  exact ⟨a, ⟨cs.toList, by simp, h1⟩, h2, h3⟩
theorem par_slice {α : Type} {t el : TypeId} (ht : P.underlying t = some (.slice el)) {e : α → AV} {good : α → Prop} {wt : α → Nat} (h : Opens encH P w t (fun a => [e a]) good wt) {base : Nat} {v : Value} (hok : Value.okWide P w .any base t v) {d : DataW H} {p : List MemPlace} (hd : DataW.Trod encH P w 0 (fun _ => true) true t v d p) :
    ∃ a, Rp w (fun _ => False) noPl (e a) v ∧ good a ∧ wt a ≤ Rows.uptoBulk d := by
  unfold Value.okWide at hok
  rw [ht] at hok
  unfold Cell.okWide at hok
  rw [ht] at hok
  obtain ⟨a, h1, h2, h3⟩ := rps_some h hd
  obtain ⟨u, us, e1, e2, e3⟩ := h1
  have e4 : us = [] := e3
  subst e4
  cases v <;> simp only [Value.cells] at e1 <;> first
    | (simp only [Cell.ok, ht] at hok; done)
    | (have e5 := (List.cons.inj e1).1; subst e5; exact ⟨a, e2, h2, h3⟩)
end
end Go.Proofs.YtjkjapjcmbfkgaaGreat.Vm

/-
  Arguments of the program's own types opened: rows, limits.
-/
namespace Go.Proofs.YtjkjapjcmbfkgaaGreat.Vm
open Go Go.RowKit
set_option maxRecDepth 100000
set_option linter.unusedVariables false
set_option linter.unusedSimpArgs false
section
variable {H : Type} {encH : TypeId × Value → H} {P : Program} {w : World}
theorem Opens.three {t : TypeId} {f0 f1 f2 : Field} (ht : P.underlying t = some (.struct #[f0, f1, f2])) (o0 : f0.offset = 0) (o1 : f1.offset = P.cellsOf f0.type) (o2 : f2.offset = P.cellsOf f0.type + P.cellsOf f1.type) (hl : P.cellsOf t = P.cellsOf f0.type + P.cellsOf f1.type + P.cellsOf f2.type)
    {α β γ : Type} {e0 : α → List AV} {g0 : α → Prop} {w0 : α → Nat} {e1 : β → List AV} {g1 : β → Prop} {w1 : β → Nat} {e2 : γ → List AV} {g2 : γ → Prop} {w2 : γ → Nat}
    (h0 : Opens encH P w f0.type e0 g0 w0) (h1 : Opens encH P w f1.type e1 g1 w1) (h2 : Opens encH P w f2.type e2 g2 w2) :
    Opens encH P w t (fun p : α × β × γ => e0 p.1 ++ (e1 p.2.1 ++ e2 p.2.2)) (fun p => g0 p.1 ∧ g1 p.2.1 ∧ g2 p.2.2) (fun p => w0 p.1 + w1 p.2.1 + w2 p.2.2 + 1) := by
  intro fuel cs x h
  obtain ⟨xs, n, _, rfl, hlen, hxs, hf⟩ := DataW.trod_struct ht h
  match xs, hxs with
  | [y0, y1, y2], _ =>
    obtain ⟨a, r0, q0, b0⟩ := h0 _ _ _ (hf 0 f0 rfl)
    obtain ⟨b, r1, q1, b1⟩ := h1 _ _ _ (hf 1 f1 rfl)
    obtain ⟨c, r2, q2, b2⟩ := h2 _ _ _ (hf 2 f2 rfl)
    refine ⟨(a, b, c), ?_, ⟨q0, q1, q2⟩, ?_⟩
    · have := r0.append (r1.append r2)
      rw [o0, o1, o2, List.drop_zero] at this
      rw [List.take_of_length_le (l := cs.drop (P.cellsOf f0.type + P.cellsOf f1.type)) (by rw [List.length_drop]; omega)] at this
      rw [← List.drop_drop, List.take_append_drop, List.take_append_drop] at this
      exact this
    · simp only [List.map_cons, List.map_nil, Rows.uptoBulk, Rows.uptoBulkAll]
      omega
end
section
variable {H : Type} {encH : TypeId × Value → H} {w : World}
def DD.good (d : DD) : Prop := d.a.good ∧ d.b.good
def DD.wt (d : DD) : Nat := d.a.wt + d.b.wt
theorem opens_delta : Opens encH Tryz.prog w 46 DD.cells DD.good DD.wt :=
  (Opens.two Tryz.underlying46 (by kernel_rfl) (by kernel_rfl) (by kernel_rfl) opens_rat opens_rat).map (fun p => (⟨p.1, p.2⟩ : DD)) (fun p => rfl) (fun _ h => h) (fun p => by simp only [DD.wt]; omega)
def BB.good (b : BB) : Prop := b.at_.good
def BB.wt (b : BB) : Nat := b.at_.wt
theorem opens_bound : Opens encH Tryz.prog w 60 BB.cells BB.good BB.wt :=
  (Opens.three Tryz.underlying60 (by kernel_rfl) (by kernel_rfl) (by kernel_rfl) (by kernel_rfl) (Opens.bool Tryz.underlying4) opens_delta (Opens.i64 Tryz.underlying3)).map (fun p => (⟨p.1, p.2.1, p.2.2⟩ : BB)) (fun p => rfl) (fun _ h => h.2.1) (fun p => by simp only [BB.wt]; omega)
def LL.good (l : LL) : Prop := l.lower.good ∧ l.upper.good
def LL.wt (l : LL) : Nat := l.lower.wt + l.upper.wt
theorem opens_limit : Opens encH Tryz.prog w 62 rowL LL.good LL.wt :=
  (Opens.two Tryz.underlying62 (by kernel_rfl) (by kernel_rfl) (by kernel_rfl) opens_bound opens_bound).map (fun p => (⟨p.1, p.2⟩ : LL)) (fun p => rfl) (fun _ h => h) (fun p => by simp only [LL.wt]; omega)
theorem opens_limits : Opens encH Tryz.prog w 40 (fun l : List LL => [.sl (tab rowL l)]) (fun l => ∀ x ∈ l, x.good) (fun l => sumW LL.wt l + 1) :=
  Opens.slice Tryz.underlying40 (by show 0 < Tryz.prog.cellsOf 62; rw [show Tryz.prog.cellsOf 62 = 16 by kernel_rfl]; decide) opens_limit
def Rw.good (r : Rw) : Prop := form_good r.form
def Rw.wt (r : Rw) : Nat := form_wt r.form
theorem opens_row : Opens encH Tryz.prog w 39 Rw.cells Rw.good Rw.wt :=
  (Opens.two Tryz.underlying39 (by kernel_rfl) (by kernel_rfl) (by kernel_rfl) (Opens.i64 Tryz.underlying3) opens_form).map (fun p => (⟨p.1, p.2⟩ : Rw)) (fun p => rfl) (fun _ h => h.2) (fun p => by simp only [Rw.wt]; omega)
end
theorem Rw.good.ok {r : Rw} (h : r.good) (hb : r.wt ≤ 1048576) : RwOk r := ⟨(form_ok h hb).1, (form_ok h hb).2⟩
theorem DD.good.ok {d : DD} (h : d.good) (hb : d.wt ≤ 1048576) : d.ok := ⟨h.1.ok (by unfold DD.wt at hb; omega), h.2.ok (by unfold DD.wt at hb; omega)⟩
theorem DD.good.nb {d : DD} (h : d.good) : nb2 d.v ≤ 32 * d.wt := by
  unfold DD.wt
  exact nb2_le (Nat.le_trans h.1.nb (by omega)) (Nat.le_trans h.2.nb (by omega))
theorem lws_le : ∀ {ls : List LL}, (∀ x ∈ ls, x.good) → lws ls ≤ 32 * sumW LL.wt ls
  | [], _ => Nat.le_refl _
  | l :: ls, h => by
    have h1 := lws_le (ls := ls) fun x hx => h x (List.mem_cons_of_mem _ hx)
    have h2 := (h l List.mem_cons_self).1.nb
    have h3 := (h l List.mem_cons_self).2.nb
    unfold lws at *
    simp only [List.map_cons, sumN, sumW, lw, LL.wt, BB.wt] at *
    omega
theorem limits_ok {ls : List LL} (h : ∀ x ∈ ls, x.good) (hb : sumW LL.wt ls ≤ 1048576) : LsOk ls := by
  refine ⟨fun l hl => ?_, by have := lws_le h; omega⟩
  have hw : l.lower.at_.wt + l.upper.at_.wt ≤ sumW LL.wt ls := sumW_mem (wt := LL.wt) hl
  exact ⟨(h l hl).1.ok (by omega), (h l hl).2.ok (by omega)⟩
end Go.Proofs.YtjkjapjcmbfkgaaGreat.Vm

/-
  Arguments of the program's own types opened: implied bounds.
-/
namespace Go.Proofs.YtjkjapjcmbfkgaaGreat.Vm
open Go Go.RowKit
set_option maxRecDepth 100000
set_option linter.unusedVariables false
set_option linter.unusedSimpArgs false
section
variable {H : Type} {encH : TypeId × Value → H} {w : World}
theorem opens_mult : Opens encH Tryz.prog w 65 rowM (fun p : Int × RR => (-9223372036854775808 ≤ p.1 ∧ p.1 ≤ 9223372036854775807) ∧ p.2.good) mono_wt :=
  (Opens.two Tryz.underlying65 rfl (by kernel_rfl) (by kernel_rfl) (Opens.i64 Tryz.underlying3) opens_rat).map id (fun _ => rfl) (fun _ h => h) (fun l => by simp only [id, mono_wt]; omega)
theorem opens_mults : Opens encH Tryz.prog w 47 (fun f => [cF f]) form_good form_wt :=
  Opens.slice Tryz.underlying47 (by show 0 < Tryz.prog.cellsOf 65; rw [show Tryz.prog.cellsOf 65 = 4 by kernel_rfl]; decide) opens_mult
def II.good (i : II) : Prop := i.at_.good ∧ form_good i.by_
def II.wt (i : II) : Nat := i.at_.wt + form_wt i.by_
theorem opens_implied : Opens encH Tryz.prog w 49 II.cells II.good II.wt :=
  (Opens.four Tryz.underlying49 (by kernel_rfl) (by kernel_rfl) (by kernel_rfl) (by kernel_rfl) (by kernel_rfl) (Opens.i64 Tryz.underlying3) (Opens.bool Tryz.underlying4) opens_delta opens_mults).map (fun p => (⟨p.1, p.2.1, p.2.2.1, p.2.2.2⟩ : II)) (fun p => rfl) (fun _ h => ⟨h.2.2.1, h.2.2.2⟩) (fun p => by simp only [II.wt]; omega)
end
theorem II.good.ok {i : II} (h : i.good) (hb : i.wt ≤ 1048576) : IIok i := by
  unfold II.wt at hb
  obtain ⟨f1, f2⟩ := form_ok h.2 (by omega)
  refine ⟨h.1.ok (by omega), by have := h.1.nb; omega, f1.ok, by have := f1.len; omega, fun p hp => ?_⟩
  have := f1.sz.mem (List.mem_map_of_mem (f := fun p : Int × RR => (p.1, p.2.v)) hp)
  dsimp only at this
  omega
end Go.Proofs.YtjkjapjcmbfkgaaGreat.Vm

/-
  ImpliedChecks, the statement.
-/
namespace Go.Proofs.YtjkjapjcmbfkgaaGreat.Vm
open Go Go.RowKit Go.ChangeShapes Go.WideShapes Go.ChangeAt
set_option maxRecDepth 100000
set_option linter.unusedVariables false
set_option linter.unusedSimpArgs false

namespace impliedChecks_
theorem own : ownKnob Tryz.prog.godebug = none := by kernel_rfl
theorem laidOut : laidOutB Tryz.prog = true := by kernel_rfl
theorem contract (H : Type) (encH : TypeId × Value → H) (W : World) (base : Nat) (args : Array Value) (ds gs : List (DataW H)) (before : List MemPlace)
    (hval : ∀ (j : Nat) t v, Tryz.f7.params[j]? = some t → args[j]? = some v → Value.okWide Tryz.prog W .any base t v)
    (hW : DataW.Whole encH Tryz.prog Tryz.f7.params.toList Rows.impliedChecksSpec.vars false W args.toList ds gs before) (hk : Rows.uptoSmall H (ds ++ gs) = true) :
    Calls Tryz.prog 7 args W fun e W' => ∃ v, e = .returned v ∧ Rows.impliedChecksSpec.post encH Tryz.prog Tryz.f7 false true false false W args v W' := by
  have hW' := hW
  obtain ⟨p, q, hA0, hV, rfl, hfz, hnd⟩ := hW
  have hA : DataW.TrodAll encH Tryz.prog W 0 (fun _ => true) true Tryz.f7.params.toList args.toList ds p := hA0
  rw [Tryz.params7] at hA hval
  obtain ⟨v0, v1, v2, d0, d1, d2, p0, p1, p2, rfl, rfl, rfl, h0, h1, h2⟩ := trodAll_three hA
  obtain ⟨rfl, rfl⟩ := trodVars_none hV
  simp only [List.append_nil] at hW' hk
  have hlt : ∀ x ∈ p0 ++ p1 ++ p2, x.block < W.heap.size := fun x hx => hW'.lt x (by simpa using hx)
  obtain ⟨a0, r0, g0, b0⟩ := par_struct Tryz.underlying49 opens_implied (hval 0 49 v0 rfl rfl) h0
  obtain ⟨a1, r1, g1, b1⟩ := par_struct Tryz.underlying39 opens_row (hval 1 39 v1 rfl rfl) h1
  obtain ⟨a2, r2, g2, b2⟩ := par_slice Tryz.underlying40 opens_limits (hval 2 40 v2 rfl rfl) h2
  have hbulk : Rows.uptoBulkAll [d0, d1, d2] ≤ 1048576 := of_decide_eq_true hk
  simp only [Rows.uptoBulkAll] at hbulk
  have hlaw := checks_law a0 a1 a2 (g0.ok (by omega)) (g1.ok (by omega)) (limits_ok g2 (by omega))
  refine (hlaw W [v0, v1, v2] (fun _ => False) (fun _ h => h.elim) ⟨_, _, rfl, r0, _, _, rfl, r1, _, _, rfl, r2, rfl⟩).mono fun e W' he => ?_
  obtain ⟨v, r, rfl, rfl, hbel, hrp⟩ := he
  have hv : v = .bool true := hrp
  subst hv
  exact ⟨_, rfl, ⟨_, _, _, [], _, [], hW', trodAll_mk1 (shut_bool Tryz.underlying4 _), trodAll_mk3 (Below.trod laidOut (by kernel_rfl) (of_decide_eq_true (by kernel_rfl)) h0 hbel (fun x hx => hlt x (by simp [hx]))) (Below.trod laidOut (by kernel_rfl) (of_decide_eq_true (by kernel_rfl)) h1 hbel (fun x hx => hlt x (by simp [hx]))) (Below.trod laidOut (by kernel_rfl) (of_decide_eq_true (by kernel_rfl)) h2 hbel (fun x hx => hlt x (by simp [hx]))), rfl, hbel.frame _, fun h => by cases h⟩⟩
theorem lifted (os : Os) (started : os.Started) (H : Type) (enc : TypeId × Value → H) (F : Stop.Interp) :
    ReturnsInHanded {} Tryz.checked os 7 .any ((Rows.OpenSpec.upto Rows.impliedChecksSpec).pre6 enc Tryz.prog Tryz.f7 Rows.impliedChecksUptoRow.domain false) (((Rows.OpenSpec.upto Rows.impliedChecksSpec).at F).post enc Tryz.prog Tryz.f7 false true false false) := by
  refine returnsInHanded_of_cond (C := Tryz.checked) (s := Rows.OpenSpec.upto Rows.impliedChecksSpec) (k := Rows.uptoSmall) rfl own started (by kernel_rfl) Tryz.func7
    (OpenSpec.witness (enc := enc) (C := Tryz.checked) (s := Rows.OpenSpec.upto Rows.impliedChecksSpec) (k := Rows.uptoSmall) rfl false ⟨#[], #[.agg #[.int .i64 0, .bool false, .bool false, .slice none 0 0, .slice none 0 0, .bool false, .slice none 0 0, .slice none 0 0, .slice none 0 0], .agg #[.int .i64 0, .slice none 0 0], .slice none 0 0], []⟩ 8 (by kernel_rfl) (by kernel_rfl) (by kernel_rfl)
      (x := ([.agg [.lit (.int .i64 0), .lit (.bool false), .agg [.agg [.agg [.lit (.bool false), .nil], .nil], .agg [.agg [.lit (.bool false), .nil], .nil]], .nil], .agg [.lit (.int .i64 0), .nil], .nil], [], [])) (by kernel_rfl) rfl (by kernel_rfl)) ?_
  intro W base args ds gs before hval hW _ hk _
  exact contract H enc W base args ds gs before hval hW hk
end impliedChecks_

theorem impliedChecks_holds : Rows.ImpliedChecksUptoSaid :=
  OpenClaim.holds_of_cond 7 Tryz.f7 rfl rfl rfl rfl rfl rfl rfl ⟨rfl, rfl, rfl, rfl, rfl⟩ rfl rfl rfl rfl rfl (by kernel_rfl) Tryz.func7 (by kernel_rfl)
    (of_decide_eq_true (by kernel_rfl)) (by unfold Func.isWrapper; first | (rw [if_pos (by decide +kernel)]; kernel_rfl) | (rw [if_neg (by decide +kernel)]; exact ⟨rfl, rfl⟩))
    (fun os started H enc _ F => impliedChecks_.lifted os started H enc F)
end Go.Proofs.YtjkjapjcmbfkgaaGreat.Vm

