/-
  The law ImpliedAtoms holds of the given program, for all arguments of bulk at most 1048576: no further conditions.
-/
import Derived.Test.YtjkjapjcmbfkgaaGreatAtoms7
import Derived.Orders
import Derived.Below
import Derived.Laws.AppendOwn
import Derived.Laws.MakeOwn
import Derived.Laws.CopyRow
import Derived.Laws.Rows
import Derived.Laws.Cells
import Derived.Tactics
import Derived.Laws.BitsLemmas
import Derived.Test.YtjkjapjcmbfkgaaGreatProg
import Derived.Test.YtjkjapjcmbfkgaaGreatRows
import Derived.WalkKit
import Derived.ProofKit
import Derived.Carry
import Derived.OpenShut
import Derived.JoinedCond

/-
  A table's clauses in the program: Lemmas; clauses held against one another.
-/
namespace Go.Proofs.YtjkjapjcmbfkgaaGreat.Vm
open Go Go.RowKit
set_option maxRecDepth 100000
set_option linter.unusedVariables false
set_option linter.unusedSimpArgs false
theorem sQf {G G' : Prop} (h : G') (e : G = G' := by conv => lhs; simp (disch := omega) only [rowsOf, cNat, cN, St.ret, St.seth, Eff.app, Eff.wi, sepL, guardOf, St.known, objOf, List.set, sliceW, litW, copyW, lenOf, bnd, mxOk, ofCells, TI.isAgg, cellsOf, storable, AV.one, dead, laid, overlay, reduceCtorEq, Int.reduceLE, Int.reduceLT, Int.reduceSub, Int.reduceAdd, Nat.reduceMul, Int.reduceToNat, Nat.reducePow, Int.reduceNeg, Nat.reduceAdd, Nat.reduceLT, Nat.reduceLeDiff, sA, sB, i64s_getD, i64s_length, i64s_all, i64s_one, i64s_pure, tab_length, List.take_length, List.length_append, tab_drop, tab_take, tab_append, tab_nil, rowC_all, rowC_one, rowC_pure, rowA_all, rowA_one, rowA_pure, sT]) : G := e.mpr h
theorem sQfX {G G' P : Prop} (p : P) (h : G') (e : P → G = G' := by intro p; conv => lhs; simp (disch := omega) only [rowsOf, cNat, cN, St.ret, St.seth, Eff.app, Eff.wi, sepL, guardOf, St.known, objOf, List.set, sliceW, litW, copyW, lenOf, bnd, mxOk, ofCells, TI.isAgg, cellsOf, storable, AV.one, dead, laid, overlay, reduceCtorEq, Int.reduceLE, Int.reduceLT, Int.reduceSub, Int.reduceAdd, Nat.reduceMul, Int.reduceToNat, Nat.reducePow, Int.reduceNeg, Nat.reduceAdd, Nat.reduceLT, Nat.reduceLeDiff, sA, sB, i64s_getD, i64s_length, i64s_all, i64s_one, i64s_pure, tab_length, List.take_length, List.length_append, tab_drop, tab_take, tab_append, tab_nil, rowC_all, rowC_one, rowC_pure, rowA_all, rowA_one, rowA_pure, sT, p]) : G := (e p).mpr h
theorem sQfV {G G' : Prop} (h : G') (e : G = G' := by conv => lhs; simp (disch := omega) only [rowsOf, cNat, cN, St.ret, St.seth, Eff.app, Eff.wi, sepL, guardOf, St.known, objOf, List.set, sliceW, litW, copyW, lenOf, bnd, mxOk, ofCells, TI.isAgg, cellsOf, storable, AV.one, dead, laid, overlay, reduceCtorEq, Int.reduceLE, Int.reduceLT, Int.reduceSub, Int.reduceAdd, Nat.reduceMul, Int.reduceToNat, Nat.reducePow, Int.reduceNeg, Nat.reduceAdd, Nat.reduceLT, Nat.reduceLeDiff, sA, sB, i64s_getD, i64s_length, i64s_all, i64s_one, i64s_pure, tab_length, List.take_length, List.length_append, tab_drop, tab_take, tab_append, tab_nil, rowC_all, rowC_one, rowC_pure, rowA_all, rowA_one, rowA_pure, sT, view_sref, viewRef, view_agg, views_cons, views_nil, view_bool, view_int, view_sl, view_nils, view_str, view_tup, view_nilif]) : G := e.mpr h
theorem aQf {G G' : Prop} (h : G') (f : Wr G' → G := by intro h; (repeat (first | (refine W_seqV fun K hK => ?_; (try (refine sQf ?_; try exact True.intro)); (repeat refine aI ?_); refine hK _ ?_; clear hK K) | (refine W_seqR fun K hK => ?_; (try (refine sQf ?_; try exact True.intro)); (repeat refine aI ?_); refine hK _ ?_; clear hK K) | (refine W_seqD mixed [] (by kernel_rfl) fun K hK => ?_; (try (refine sQf ?_; try exact True.intro)); (repeat refine aI ?_); refine hK _ ?_; clear hK K))); exact h.out) : G := f ⟨h⟩

theorem relT_at' {a b : At} {j : Nat} (h : j < (relT a b 4).length) : ∃ x y : Int, (relT a b 4).getD j default = [x, y] ∧ (x = 1 ∨ x = -1) ∧ (y = 2 ∨ y = -2) :=
  relT_mem (a := a) (b := b) (by simp [List.getD_eq_getElem?_getD, h])
set_option maxHeartbeats 8000000 in
theorem ilemmas_ok (l : List At) (hl : ∀ a ∈ l, AtOk a) (hn : l.length ≤ 1048576) : Pure Tryz.prog 12 [.sl (tab rowA l)] (· = .sl (tab rowC (lemAll l l.length))) := by
  have hre : ∀ i k, i < l.length → k < l.length → Pure Tryz.prog 10 [.agg (l.getD i default).cells, .agg (l.getD k default).cells] (· = .sl (tab rowC (relT (l.getD i default) (l.getD k default) 4))) := fun i k h1 h2 =>
    (relate_new (l.getD i default) (l.getD k default) (hl _ (by simp [List.getD_eq_getElem?_getD, h1])) (hl _ (by simp [List.getD_eq_getElem?_getD, h2]))).pure.mono fun r h => by obtain ⟨rows, rfl, rfl⟩ := h; rfl
  have hr := fun i n => lemRow_len l i n
  have ha := fun i (h : i ≤ l.length) => Nat.le_trans (lemAll_len l i) (Nat.mul_le_mul (Nat.le_trans h hn) (Nat.mul_le_mul_left 4 hn))
  have r0 : ∀ i, lemRow l i 0 = [] := fun _ => rfl
  have r1 : ∀ i n, lemRow l i (n + 1) = lemRow l i n ++ (relT (l.getD i default) (l.getD (i + 1 + n) default) 4).map (scC (i + 1 : Nat) (i + 1 + n + 1 : Nat)) := fun i n => by rw [← rel_scale]; rfl
  have a0 : lemAll l 0 = [] := rfl
  have a1 : ∀ i, lemAll l (i + 1) = lemAll l i ++ lemRow l i (l.length - (i + 1)) := fun _ => rfl
  have hrl := fun i k => relT_len (l.getD i default) (l.getD k default) 4
  have hra := fun i k => @relT_at' (l.getD i default) (l.getD k default)
  generalize lemRow l = LR at *
  generalize lemAll l = LA at *
  (refine pureW Tryz.func12 rfl (rs := [Go.ResultVar.tmp 2]) rfl (n := 55) rfl ?_; simp only [List.length_cons, List.length_nil, List.replicate, List.cons_append, List.nil_append])
  (refine aQf ?_)
  refine W.le ?_ (Le_nil 3 3 91 1 true rfl rfl)
  simp only [List.set]
  refine W_seq ?_
  ((first | refine W_seqV ?_ | refine W_seq (W_seqV ?_) | refine W_regV ?_); intro K hK; (refine sQf ?_; try exact True.intro))
  ((repeat refine aI ?_); refine hK _ ?_; clear hK K)
  refine W_block (W_loop (fun t : {t : Nat // t ≤ l.length} =>
      ⟨[.sl (tab rowA l), .any, .any, .sref 3 0 (LA t.1).length, .any, .any, .any, .any, .any, .int .i64 l.length, .int .i64 t.1, .any, .any, .any, .any, .any, .any, .any, .any, .any, .any, .any, .any, .any, .any, .any, .any, .any, .any, .any, .any, .any, .any, .any, .any, .any, .any, .any, .any, .any, .any, .any, .any, .any, .any, .any, .any, .any, .any, .any, .any, .any, .any, .any, .any], [.dead, .dead, .dead, .arr 91 1 true (tab rowC (LA t.1)), .dead, .dead, .dead, .dead, .dead, .dead, .dead, .dead, .dead, .dead, .dead, .dead, .dead, .dead, .dead, .dead, .dead, .dead, .dead, .dead, .dead, .dead, .dead, .dead, .dead, .dead, .dead, .dead, .dead, .dead, .dead, .dead, .dead, .dead, .dead, .dead, .dead, .dead, .dead, .dead, .dead, .dead, .dead, .dead, .dead, .dead, .dead, .dead, .dead, .dead, .dead]⟩) (fun t => l.length - t.1)
      ⟨0, by omega⟩ (Le_of (by simp [leE, a0]) (by simp [a0, tab])) fun t => ?_)
  obtain ⟨i, hi⟩ := t
  dsimp only
  by_cases hlt : i < l.length
  · have hai := ha i hi
    have hXi : (tab rowA l).getD i [] = (l.getD i default).cells := tab_getD hlt
    refine W_seq ?_
    ((first | refine W_seqV ?_ | refine W_seq (W_seqV ?_) | refine W_regV ?_); intro K hK; (refine sQfX hlt ?_; try exact True.intro))
    ((repeat refine aI ?_); refine hK _ ?_; clear hK K)
    (first | refine W_cond rfl (fun _ => ?_) (fun h => by cases h) | refine W_seq (W_cond rfl (fun _ => ?_) (fun h => by cases h)))
    refine W_skip ?_
    simp only [thenW]
    refine W_seq ?_
    refine W_block ?_
    (refine aQf ?_)
    refine W_block (W_loop (fun t : {t : Nat // i + 1 + t ≤ l.length} =>
      ⟨[.sl (tab rowA l), .any, .any, .sref 3 0 (LA i ++ LR i t.1).length, .int .i64 i, .int .i64 (i + 1 + t.1 : Nat), .any, .any, .any, .int .i64 l.length, .int .i64 i, .any, .any, .any, .any, .any, .any, .any, .any, .any, .any, .any, .any, .any, .any, .any, .any, .any, .any, .any, .any, .any, .any, .any, .any, .any, .any, .any, .any, .any, .any, .any, .any, .any, .any, .any, .any, .any, .any, .any, .any, .any, .any, .any, .any], [.dead, .dead, .dead, .arr 91 1 true (tab rowC (LA i ++ LR i t.1)), .dead, .dead, .dead, .dead, .dead, .dead, .dead, .dead, .dead, .dead, .dead, .dead, .dead, .dead, .dead, .dead, .dead, .dead, .dead, .dead, .dead, .dead, .dead, .dead, .dead, .dead, .dead, .dead, .dead, .dead, .dead, .dead, .dead, .dead, .dead, .dead, .dead, .dead, .dead, .dead, .dead, .dead, .dead, .dead, .dead, .dead, .dead, .dead, .dead, .dead, .dead]⟩) (fun t => l.length - t.1)
      ⟨0, by omega⟩ (Le_of (by simp [leE, r0]) (by simp [r0])) fun t => ?_)
    obtain ⟨n, hn'⟩ := t
    dsimp only
    by_cases hkt : i + 1 + n < l.length
    · have hXk : (tab rowA l).getD (i + 1 + n) [] = (l.getD (i + 1 + n) default).cells := tab_getD hkt
      have hb := hre i (i + 1 + n) hlt hkt
      have hr1 := r1 i n
      have hrn := hr i n
      have hrr := hrl i (i + 1 + n)
      have hrat := fun j h => @hra i (i + 1 + n) j h
      have hla : (LA i ++ LR i n).length ≤ 1048576 * (4 * 1048576) + 4 * n := by simp only [List.length_append]; omega
      have hnew : LA i ++ LR i (n + 1) = (LA i ++ LR i n) ++ (relT (l.getD i default) (l.getD (i + 1 + n) default) 4).map (scC (i + 1 : Nat) (i + 1 + n + 1 : Nat)) := by rw [r1, List.append_assoc]
      generalize LA i ++ LR i n = o at *
      generalize relT _ _ 4 = R at *
      generalize l.getD i default = a at *
      generalize l.getD (i + 1 + n) default = b at *
      have hk1 : i + 1 + (n + 1) = i + 1 + n + 1 := by omega
      generalize hk : i + 1 + n = k at *
      have w1 : IntKind.i64.wrap ((i : Int) + 1) = ((i + 1 : Nat) : Int) := by rw [wrap_i64 (by omega) (by omega)]; omega
      have w2 : IntKind.i64.wrap ((k : Int) + 1) = ((k + 1 : Nat) : Int) := by rw [wrap_i64 (by omega) (by omega)]; omega
      obtain ⟨an, af, ⟨abn, abm, abd⟩, ast⟩ := a
      obtain ⟨bn, bf, ⟨bbn, bbm, bbd⟩, bst⟩ := b
      simp only [At.cells] at hXi hXk hb
      refine W_seq ?_
      ((first | refine W_seqV ?_ | refine W_seq (W_seqV ?_) | refine W_regV ?_); intro K hK; (refine sQfX hkt ?_; try exact True.intro))
      ((repeat refine aI ?_); refine hK _ ?_; clear hK K)
      (first | refine W_cond rfl (fun _ => ?_) (fun h => by cases h) | refine W_seq (W_cond rfl (fun _ => ?_) (fun h => by cases h)))
      refine W_skip ?_
      simp only [thenW]
      refine W_seq ?_
      refine W_block ?_
      refine W_seq ?_
      ((first | refine W_seqD mixed [] (by kernel_rfl) ?_ | refine W_seq (W_seqD mixed [] (by kernel_rfl) ?_) | refine W_regD mixed [] (by kernel_rfl) ?_); intro K hK; (refine sQfX (And.intro hXi (And.intro hXk (And.intro hlt hkt))) ?_; try exact True.intro))
      ((repeat refine aI ?_); refine ⟨by kernel_rfl, rfl, _, hb, ?_⟩; (try (refine sQf ?_; try exact True.intro)); (repeat refine aI ?_))
      ((repeat refine aI ?_); refine hK _ ?_; clear hK K)
      clear hb hXi hXk hre hra hr hrl ha hl
      obtain ⟨G, hG0, hGl, hGs, hGn⟩ : ∃ G : Nat → List (List Int), G 0 = o ∧ (∀ j, (G j).length ≤ o.length + 4) ∧ (∀ j x y, j < R.length → R.getD j default = [x, y] → G (j + 1) = G j ++ [scC (i + 1 : Nat) (k + 1 : Nat) [x, y]]) ∧ G R.length = LA i ++ LR i (n + 1) := by
        refine ⟨fun j => o ++ (R.take j).map (scC (i + 1 : Nat) (k + 1 : Nat)), by simp, fun j => ?_, fun j x y hjt hxy => ?_, ?_⟩
        · simp only [List.length_append, List.length_map, List.length_take]; omega
        · dsimp only
          rw [List.take_succ_eq_append_getElem hjt, List.map_append, ← List.append_assoc]
          have : R[j] = [x, y] := by rw [← hxy]; simp [List.getD_eq_getElem?_getD, hjt]
          rw [this]; rfl
        · dsimp only
          rw [List.take_length, ← hnew]
      refine W_block (W_loop (fun t : {t : Nat // t ≤ R.length} =>
        ⟨[.sl (tab rowA l), .any, .any, .sref 3 0 (G t.1).length, .int .i64 i, .int .i64 k, .any, .any, .any, .int .i64 l.length, .int .i64 i, .any, .any, .any, .any, .any, .any, .any, .any, .any, .any, .any, .any, .any, .any, .any, .any, .any, .any, .sl (tab rowC R), .int .i64 R.length, .int .i64 t.1, .any, .any, .any, .any, .any, .any, .any, .any, .any, .any, .any, .any, .any, .any, .any, .any, .any, .any, .any, .any, .any, .any, .any], [.dead, .dead, .dead, .arr 91 1 true (tab rowC (G t.1)), .dead, .dead, .dead, .dead, .dead, .dead, .dead, .dead, .dead, .dead, .dead, .dead, .dead, .dead, .dead, .dead, .dead, .dead, .dead, .dead, .dead, .dead, .dead, .dead, .dead, .dead, .dead, .dead, .dead, .dead, .dead, .dead, .dead, .dead, .dead, .dead, .dead, .dead, .dead, .dead, .dead, .dead, .dead, .dead, .dead, .dead, .dead, .dead, .dead, .dead, .dead]⟩) (fun t => R.length - t.1)
        ⟨0, by omega⟩ (Le_of (by simp [leE, hG0]) (by simp [hG0])) fun t => ?_)
      obtain ⟨j, hj⟩ := t
      dsimp only
      by_cases hjt : j < R.length
      · have hXj : (tab rowC R).getD j [] = rowC (R.getD j default) := tab_getD hjt
        obtain ⟨x, y, hxy, hx, hy⟩ := hrat j hjt
        have hnx := hGs j x y hjt hxy
        have hoj : (G j).length ≤ 1048576 * (4 * 1048576) + 4 * n + 4 := by have := hGl j; omega
        have hsc : scC (i + 1 : Nat) (k + 1 : Nat) [x, y] = [x * (i + 1 : Nat), y.tdiv 2 * (k + 1 : Nat)] := rfl
        rw [hsc] at hnx
        rw [hxy] at hXj
        simp only [rowC] at hXj
        generalize G j = oj at *
        have w3 : IntKind.i64.wrap (x * ((i + 1 : Nat) : Int)) = x * ((i + 1 : Nat) : Int) := by rcases hx with rfl | rfl <;> exact wrap_i64 (by omega) (by omega)
        have w4 : IntKind.i64.wrap (y.tdiv 2) = y.tdiv 2 := by rcases hy with rfl | rfl <;> rfl
        have w5 : IntKind.i64.wrap (y.tdiv 2 * ((k + 1 : Nat) : Int)) = y.tdiv 2 * ((k + 1 : Nat) : Int) := by
          rcases hy with rfl | rfl
          · rw [show Int.tdiv 2 2 = 1 from rfl]; exact wrap_i64 (by omega) (by omega)
          · rw [show Int.tdiv (-2) 2 = -1 from rfl]; exact wrap_i64 (by omega) (by omega)
        have i2 : i64s [x, y] = [[.int .i64 x], [.int .i64 y]] := rfl
        rw [i2] at hXj
        refine W_seq ?_
        ((first | refine W_seqV ?_ | refine W_seq (W_seqV ?_) | refine W_regV ?_); intro K hK; (refine sQfX hjt ?_; try exact True.intro))
        ((repeat refine aI ?_); refine hK _ ?_; clear hK K)
        (first | refine W_cond rfl (fun _ => ?_) (fun h => by cases h) | refine W_seq (W_cond rfl (fun _ => ?_) (fun h => by cases h)))
        refine W_skip ?_
        simp only [thenW]
        refine W_seq ?_
        refine W_block ?_
        ((first | refine W_seqV ?_ | refine W_seq (W_seqV ?_) | refine W_regV ?_); intro K hK; (refine sQfX (And.intro hXj hjt) ?_; try exact True.intro))
        ((repeat refine aI ?_); refine hK _ ?_; clear hK K)
        ((first | refine W_seqS mixed 16 [] (by kernel_rfl) ?_ | refine W_seq (W_seqS mixed 16 [] (by kernel_rfl) ?_) | refine W_regS mixed 16 [] (by kernel_rfl) ?_); intro K hK; (refine sQfX (And.intro w1 (And.intro w2 (And.intro w3 (And.intro w4 w5)))) ?_; try exact True.intro))
        ((repeat refine aI ?_); refine hK _ ?_; clear hK K)
        simp only [blockW, thenW]
        ((first | refine W_seqV ?_ | refine W_seq (W_seqV ?_) | refine W_regV ?_); intro K hK; (refine sQf ?_; try exact True.intro))
        ((repeat refine aI ?_); refine hK _ ?_; clear hK K)
        simp only [blockW, thenW]
        refine ⟨⟨j + 1, by omega⟩, Le_drop (by simp [leE, hnx]) (by simp [leH, hnx, ← tab_snoc, rowC, scC, i64s, tab_take, List.take_length]) rfl rfl, ?_⟩
        dsimp only
        omega
      · obtain rfl : j = R.length := by omega
        rw [hGn]
        refine W_seq ?_
        ((first | refine W_seqV ?_ | refine W_seq (W_seqV ?_) | refine W_regV ?_); intro K hK; (refine sQf ?_; try exact True.intro))
        ((repeat refine aI ?_); refine hK _ ?_; clear hK K)
        (first | refine W_cond rfl (fun h => by cases h) (fun _ => ?_) | refine W_seq (W_cond rfl (fun h => by cases h) (fun _ => ?_)))
        refine W_exit ?_
        simp only [thenW, blockW, if_true]
        ((first | refine W_seqV ?_ | refine W_seq (W_seqV ?_) | refine W_regV ?_); intro K hK; (refine sQf ?_; try exact True.intro))
        ((repeat refine aI ?_); refine hK _ ?_; clear hK K)
        simp only [blockW, thenW]
        refine ⟨⟨n + 1, by omega⟩, Le_drop (by simp [leE, hk1]) (by simp [leH]) rfl rfl, ?_⟩
        dsimp only
        omega
    · obtain rfl : n = l.length - (i + 1) := by omega
      have hk1 : i + 1 + (l.length - (i + 1)) = l.length := by omega
      rw [← a1 i, hk1]
      refine W_seq ?_
      ((first | refine W_seqV ?_ | refine W_seq (W_seqV ?_) | refine W_regV ?_); intro K hK; (refine sQf ?_; try exact True.intro))
      ((repeat refine aI ?_); refine hK _ ?_; clear hK K)
      (first | refine W_cond rfl (fun h => by cases h) (fun _ => ?_) | refine W_seq (W_cond rfl (fun h => by cases h) (fun _ => ?_)))
      refine W_exit ?_
      simp only [thenW, blockW, if_true]
      ((first | refine W_seqV ?_ | refine W_seq (W_seqV ?_) | refine W_regV ?_); intro K hK; (refine sQf ?_; try exact True.intro))
      ((repeat refine aI ?_); refine hK _ ?_; clear hK K)
      simp only [blockW, thenW]
      refine ⟨⟨i + 1, by omega⟩, Le_drop (by simp [leE]) (by simp [leH]) rfl rfl, ?_⟩
      dsimp only
      omega
  · obtain rfl : i = l.length := by omega
    refine W_seq ?_
    ((first | refine W_seqV ?_ | refine W_seq (W_seqV ?_) | refine W_regV ?_); intro K hK; (refine sQf ?_; try exact True.intro))
    ((repeat refine aI ?_); refine hK _ ?_; clear hK K)
    (first | refine W_cond rfl (fun h => by cases h) (fun _ => ?_) | refine W_seq (W_cond rfl (fun h => by cases h) (fun _ => ?_)))
    refine W_exit ?_
    simp only [thenW, blockW, if_true]
    ((first | refine W_seqV ?_ | refine W_seq (W_seqV ?_) | refine W_regV ?_); intro K hK; (refine sQf ?_; try exact True.intro))
    ((repeat refine aI ?_); refine hK _ ?_; clear hK K)
    refine W_ret ?_
    (refine qG ?_; try exact True.intro); try (refine sQfV ?_; try exact True.intro)

/-- Clauses held against themselves are the same. -/
theorem sameClauses_ok (l : List (List Int)) (hl : l.length < 1099511627776000) (hc : ∀ c ∈ l, c.length ≤ 2) : Pure Tryz.prog 9 [.sl (tab rowC l), .sl (tab rowC l)] (· = .bool true) := by
  have hz : ((l.length : Int) != (l.length : Int)) = false := by simp
  (refine pureW Tryz.func9 rfl (rs := [Go.ResultVar.tmp 4]) rfl (n := 53) rfl ?_; simp only [List.length_cons, List.length_nil, List.replicate, List.cons_append, List.nil_append])
  (refine aQf ?_)
  refine W_seq ?_
  ((first | refine W_seqV ?_ | refine W_seq (W_seqV ?_) | refine W_regV ?_); intro K hK; (refine sQfX hz ?_; try exact True.intro))
  ((repeat refine aI ?_); refine hK _ ?_; clear hK K)
  (first | refine W_cond rfl (fun h => by cases h) (fun _ => ?_) | refine W_seq (W_cond rfl (fun h => by cases h) (fun _ => ?_)))
  refine W_skip ?_
  simp only [thenW]
  refine W_seq ?_
  ((first | refine W_seqV ?_ | refine W_seq (W_seqV ?_) | refine W_regV ?_); intro K hK; (refine sQf ?_; try exact True.intro))
  ((repeat refine aI ?_); refine hK _ ?_; clear hK K)
  refine W_block (W_loop (fun t : {t : Nat // t ≤ l.length} =>
      ⟨[.sl (tab rowC l), .sl (tab rowC l), .any, .any, .any, .int .i64 t.1, .any, .any, .any, .any, .any, .any, .any, .any, .any, .any, .any, .any, .any, .any, .any, .any, .any, .any, .any, .any, .any, .any, .any, .any, .any, .any, .any, .any, .any, .any, .any, .any, .any, .any, .any, .any, .any, .any, .any, .any, .any, .any, .any, .any, .any, .any, .any], [.dead, .dead, .dead, .dead, .dead, .dead, .dead, .dead, .dead, .dead, .dead, .dead, .dead, .dead, .dead, .dead, .dead, .dead, .dead, .dead, .dead, .dead, .dead, .dead, .dead, .dead, .dead, .dead, .dead, .dead, .dead, .dead, .dead, .dead, .dead, .dead, .dead, .dead, .dead, .dead, .dead, .dead, .dead, .dead, .dead, .dead, .dead, .dead, .dead, .dead, .dead, .dead, .dead]⟩) (fun t => l.length - t.1)
      ⟨0, by omega⟩ (Le_of (by simp [leE]) (by simp)) fun t => ?_)
  obtain ⟨i, hi⟩ := t
  dsimp only
  by_cases hlt : i < l.length
  · have hXi : (tab rowC l).getD i [] = rowC (l.getD i default) := tab_getD hlt
    have hci := hc (l.getD i default) (by simp [List.getD_eq_getElem?_getD, hlt])
    generalize l.getD i default = c at *
    simp only [rowC] at hXi
    have hzc : ((c.length : Int) != (c.length : Int)) = false := by simp
    refine W_seq ?_
    ((first | refine W_seqV ?_ | refine W_seq (W_seqV ?_) | refine W_regV ?_); intro K hK; (refine sQfX hlt ?_; try exact True.intro))
    ((repeat refine aI ?_); refine hK _ ?_; clear hK K)
    (first | refine W_cond rfl (fun _ => ?_) (fun h => by cases h) | refine W_seq (W_cond rfl (fun _ => ?_) (fun h => by cases h)))
    refine W_skip ?_
    simp only [thenW]
    refine W_seq ?_
    refine W_block ?_
    refine W_seq ?_
    ((first | refine W_seqD mixed [] (by kernel_rfl) ?_ | refine W_seq (W_seqD mixed [] (by kernel_rfl) ?_) | refine W_regD mixed [] (by kernel_rfl) ?_); intro K hK; (refine sQfX (And.intro hXi (And.intro hlt hzc)) ?_; try exact True.intro))
    ((repeat refine aI ?_); refine hK _ ?_; clear hK K)
    (first | refine W_cond rfl (fun h => by cases h) (fun _ => ?_) | refine W_seq (W_cond rfl (fun h => by cases h) (fun _ => ?_)))
    refine W_skip ?_
    simp only [thenW]
    ((first | refine W_seqV ?_ | refine W_seq (W_seqV ?_) | refine W_regV ?_); intro K hK; (refine sQf ?_; try exact True.intro))
    ((repeat refine aI ?_); refine hK _ ?_; clear hK K)
    refine W_block (W_loop (fun t : {t : Nat // t ≤ c.length} =>
      ⟨[.sl (tab rowC l), .sl (tab rowC l), .any, .any, .any, .int .i64 i, .int .i64 t.1, .any, .any, .any, .any, .any, .any, .any, .any, .any, .any, .any, .any, .any, .any, .any, .any, .any, .any, .any, .any, .any, .any, .any, .any, .any, .any, .any, .any, .any, .any, .any, .any, .any, .any, .any, .any, .any, .any, .any, .any, .any, .any, .any, .any, .any, .any], [.dead, .dead, .dead, .dead, .dead, .dead, .dead, .dead, .dead, .dead, .dead, .dead, .dead, .dead, .dead, .dead, .dead, .dead, .dead, .dead, .dead, .dead, .dead, .dead, .dead, .dead, .dead, .dead, .dead, .dead, .dead, .dead, .dead, .dead, .dead, .dead, .dead, .dead, .dead, .dead, .dead, .dead, .dead, .dead, .dead, .dead, .dead, .dead, .dead, .dead, .dead, .dead, .dead]⟩) (fun t => c.length - t.1)
      ⟨0, by omega⟩ (Le_of (by simp [leE]) (by simp)) fun t => ?_)
    obtain ⟨k, hk⟩ := t
    dsimp only
    by_cases hkt : k < c.length
    · generalize hx : c.getD k 0 = x
      have hzx : (x != x) = false := by simp
      refine W_seq ?_
      ((first | refine W_seqV ?_ | refine W_seq (W_seqV ?_) | refine W_regV ?_); intro K hK; (refine sQfX (And.intro hXi (And.intro hlt hkt)) ?_; try exact True.intro))
      ((repeat refine aI ?_); refine hK _ ?_; clear hK K)
      (first | refine W_cond rfl (fun _ => ?_) (fun h => by cases h) | refine W_seq (W_cond rfl (fun _ => ?_) (fun h => by cases h)))
      refine W_skip ?_
      simp only [thenW]
      refine W_seq ?_
      refine W_block ?_
      ((first | refine W_seqD mixed [] (by kernel_rfl) ?_ | refine W_seq (W_seqD mixed [] (by kernel_rfl) ?_) | refine W_regD mixed [] (by kernel_rfl) ?_); intro K hK; (refine sQfX (And.intro hXi (And.intro hlt (And.intro hkt (And.intro hx hzx)))) ?_; try exact True.intro))
      ((repeat refine aI ?_); refine hK _ ?_; clear hK K)
      (first | refine W_cond rfl (fun h => by cases h) (fun _ => ?_) | refine W_seq (W_cond rfl (fun h => by cases h) (fun _ => ?_)))
      refine W_skip ?_
      simp only [blockW, thenW]
      ((first | refine W_seqV ?_ | refine W_seq (W_seqV ?_) | refine W_regV ?_); intro K hK; (refine sQf ?_; try exact True.intro))
      ((repeat refine aI ?_); refine hK _ ?_; clear hK K)
      simp only [blockW, thenW]
      refine ⟨⟨k + 1, by omega⟩, Le_drop (by simp [leE]) (by simp [leH]) rfl rfl, ?_⟩
      dsimp only
      omega
    · obtain rfl : k = c.length := by omega
      refine W_seq ?_
      ((first | refine W_seqV ?_ | refine W_seq (W_seqV ?_) | refine W_regV ?_); intro K hK; (refine sQfX (And.intro hXi hlt) ?_; try exact True.intro))
      ((repeat refine aI ?_); refine hK _ ?_; clear hK K)
      (first | refine W_cond rfl (fun h => by cases h) (fun _ => ?_) | refine W_seq (W_cond rfl (fun h => by cases h) (fun _ => ?_)))
      refine W_exit ?_
      simp only [thenW, blockW, if_true]
      ((first | refine W_seqV ?_ | refine W_seq (W_seqV ?_) | refine W_regV ?_); intro K hK; (refine sQf ?_; try exact True.intro))
      ((repeat refine aI ?_); refine hK _ ?_; clear hK K)
      simp only [blockW, thenW]
      refine ⟨⟨i + 1, by omega⟩, Le_drop (by simp [leE]) (by simp [leH]) rfl rfl, ?_⟩
      dsimp only
      omega
  · obtain rfl : i = l.length := by omega
    refine W_seq ?_
    ((first | refine W_seqV ?_ | refine W_seq (W_seqV ?_) | refine W_regV ?_); intro K hK; (refine sQf ?_; try exact True.intro))
    ((repeat refine aI ?_); refine hK _ ?_; clear hK K)
    (first | refine W_cond rfl (fun h => by cases h) (fun _ => ?_) | refine W_seq (W_cond rfl (fun h => by cases h) (fun _ => ?_)))
    refine W_exit ?_
    simp only [thenW, blockW, if_true]
    ((first | refine W_seqV ?_ | refine W_seq (W_seqV ?_) | refine W_regV ?_); intro K hK; (refine sQf ?_; try exact True.intro))
    ((repeat refine aI ?_); refine hK _ ?_; clear hK K)
    refine W_ret ?_
    (refine qG ?_; try exact True.intro); try (refine sQfV ?_; try exact True.intro)
end Go.Proofs.YtjkjapjcmbfkgaaGreat.Vm

/-
  ImpliedAtoms.
-/
namespace Go.Proofs.YtjkjapjcmbfkgaaGreat.Vm
open Go Go.RowKit
set_option maxRecDepth 100000
set_option linter.unusedVariables false
set_option linter.unusedSimpArgs false
theorem sQg {G G' : Prop} (h : G') (e : G = G' := by conv => lhs; simp (disch := omega) only [rowsOf, cNat, cN, St.ret, St.seth, Eff.app, Eff.wi, sepL, guardOf, St.known, objOf, List.set, sliceW, litW, copyW, lenOf, bnd, mxOk, ofCells, TI.isAgg, cellsOf, storable, AV.one, dead, laid, overlay, reduceCtorEq, Int.reduceLE, Int.reduceLT, Int.reduceSub, Int.reduceAdd, Nat.reduceMul, Int.reduceToNat, Nat.reducePow, Int.reduceNeg, Nat.reduceAdd, Nat.reduceLT, Nat.reduceLeDiff, sA, sB, tab_length, rowC_all, rowC_one, rowC_pure, rowA_all, rowA_one, rowA_pure, sT]) : G := e.mpr h
theorem sQgV {G G' : Prop} (h : G') (e : G = G' := by conv => lhs; simp (disch := omega) only [rowsOf, cNat, cN, St.ret, St.seth, Eff.app, Eff.wi, sepL, guardOf, St.known, objOf, List.set, sliceW, litW, copyW, lenOf, bnd, mxOk, ofCells, TI.isAgg, cellsOf, storable, AV.one, dead, laid, overlay, reduceCtorEq, Int.reduceLE, Int.reduceLT, Int.reduceSub, Int.reduceAdd, Nat.reduceMul, Int.reduceToNat, Nat.reducePow, Int.reduceNeg, Nat.reduceAdd, Nat.reduceLT, Nat.reduceLeDiff, sA, sB, tab_length, rowC_all, rowC_one, rowC_pure, rowA_all, rowA_one, rowA_pure, sT, view_sref, viewRef, view_agg, views_cons, views_nil, view_bool, view_int, view_sl, view_nils, view_str, view_tup, view_nilif]) : G := e.mpr h
theorem aQg {G G' : Prop} (h : G') (f : Wr G' → G := by intro h; (repeat (first | (refine W_seqV fun K hK => ?_; (try (refine sQg ?_; try exact True.intro)); (repeat refine aI ?_); refine hK _ ?_; clear hK K) | (refine W_seqR fun K hK => ?_; (try (refine sQg ?_; try exact True.intro)); (repeat refine aI ?_); refine hK _ ?_; clear hK K) | (refine W_seqD mixed [] (by kernel_rfl) fun K hK => ?_; (try (refine sQg ?_; try exact True.intro)); (repeat refine aI ?_); refine hK _ ?_; clear hK K))); exact h.out) : G := f ⟨h⟩

theorem lem_two (l : List At) : ∀ i, ∀ c ∈ lemAll l i, c.length ≤ 2 := by
  have hr : ∀ a b i k, ∀ c ∈ relR a b i k 4, c.length ≤ 2 := fun a b i k c hc => by
    rw [rel_scale, List.mem_map] at hc
    obtain ⟨d, _, rfl⟩ := hc
    simp [scC]
  have hw : ∀ i n, ∀ c ∈ lemRow l i n, c.length ≤ 2 := fun i n => by
    induction n with
    | zero => intro c hc; cases hc
    | succ n ih => intro c hc; rcases List.mem_append.1 hc with h | h; exact ih c h; exact hr _ _ _ _ c h
  intro i
  induction i with
  | zero => intro c hc; cases hc
  | succ i ih => intro c hc; rcases List.mem_append.1 hc with h | h; exact ih c h; exact hw _ _ c h
theorem atoms_law (a b : At) (l : List At) (ha : AtOk a) (hb : AtOk b) (hl : ∀ a ∈ l, AtOk a) (hn : l.length ≤ 1048576) :
    Pure Tryz.prog 3 [.agg a.cells, .agg b.cells, .sl (tab rowA l)] (· = .bool true) := by
  have h1 : Pure Tryz.prog 10 [.agg a.cells, .agg b.cells] (· = .sl (tab rowC (relT a b 4))) := (relate_new a b ha hb).pure.mono fun r h => by obtain ⟨rows, rfl, rfl⟩ := h; rfl
  have h2 := f10relate_ok a b ha hb
  have h3 := sameClauses_ok (relT a b 4) (by have := relT_len a b 4; omega) fun c hc => by obtain ⟨x, y, rfl, _⟩ := relT_mem hc; simp
  have h4 := ilemmas_ok l hl hn
  have h5 := f10lemmas_ok l hl hn
  have h6 := sameClauses_ok (lemAll l l.length) (by have := lemAll_len l l.length; have := Nat.mul_le_mul hn (Nat.mul_le_mul_left 4 hn); omega) (lem_two l _)
  generalize relT a b 4 = R at *
  generalize lemAll l l.length = S at *
  obtain ⟨an, af, ⟨abn, abm, abd⟩, ast⟩ := a
  obtain ⟨bn, bf, ⟨bbn, bbm, bbd⟩, bst⟩ := b
  simp only [At.cells] at *
  (refine pureW Tryz.func3 rfl (rs := [Go.ResultVar.tmp 6]) rfl (n := 21) rfl ?_; simp only [List.length_cons, List.length_nil, List.replicate, List.cons_append, List.nil_append])
  (refine aQg ?_)
  ((first | refine W_seqD mixed [] (by kernel_rfl) ?_ | refine W_seq (W_seqD mixed [] (by kernel_rfl) ?_) | refine W_regD mixed [] (by kernel_rfl) ?_); intro K hK; (refine sQg ?_; try exact True.intro))
  ((repeat refine aI ?_); refine ⟨by kernel_rfl, rfl, _, h1, ?_⟩; (try (refine sQg ?_; try exact True.intro)); (repeat refine aI ?_))
  ((repeat refine aI ?_); refine ⟨by kernel_rfl, rfl, _, h2, ?_⟩; (try (refine sQg ?_; try exact True.intro)); (repeat refine aI ?_))
  ((repeat refine aI ?_); refine ⟨by kernel_rfl, rfl, _, h3, ?_⟩; (try (refine sQg ?_; try exact True.intro)); (repeat refine aI ?_))
  ((repeat refine aI ?_); refine ⟨by kernel_rfl, rfl, _, h4, ?_⟩; (try (refine sQg ?_; try exact True.intro)); (repeat refine aI ?_))
  ((repeat refine aI ?_); refine ⟨by kernel_rfl, rfl, _, h5, ?_⟩; (try (refine sQg ?_; try exact True.intro)); (repeat refine aI ?_))
  ((repeat refine aI ?_); refine ⟨by kernel_rfl, rfl, _, h6, ?_⟩; (try (refine sQg ?_; try exact True.intro)); (repeat refine aI ?_))
  ((repeat refine aI ?_); refine hK _ ?_; clear hK K)
  refine W_ret ?_
  (refine qG ?_; try exact True.intro); try (refine sQgV ?_; try exact True.intro)
end Go.Proofs.YtjkjapjcmbfkgaaGreat.Vm

/-
  Arguments read as plain data: opened into abstract values.
-/
namespace Go.Proofs.YtjkjapjcmbfkgaaGreat.Vm
open Go Go.RowKit
set_option linter.unusedVariables false
set_option linter.unusedSimpArgs false

section
variable {H : Type} {encH : TypeId × Value → H} {P : Program} {w : World}
/-- Cells that read as data of a type stand for a value of α; its weight is at most the reading's bulk. -/
def Opens (encH : TypeId × Value → H) (P : Program) (w : World) (t : TypeId) {α : Type} (e : α → List AV) (good : α → Prop) (wt : α → Nat) : Prop :=
  ∀ (fuel : Nat) (cs : List Value) (x : DataW H × List MemPlace), DataW.trod encH P w 0 (fun _ => true) true fuel t cs = some x → ∃ a, Rps w (fun _ => False) noPl (e a) cs ∧ good a ∧ wt a ≤ Rows.uptoBulk x.1

theorem Opens.bool {t : TypeId} (ht : P.underlying t = some .bool) : Opens encH P w t (fun b : Bool => [.bool b]) (fun _ => True) (fun _ => 1) := by
  intro fuel cs x h
  obtain ⟨b, rfl, rfl⟩ := DataW.trod_bool ht h
  exact ⟨b, ⟨_, _, rfl, rfl, rfl⟩, trivial, by simp [Rows.uptoBulk]⟩
theorem Opens.i64 {t : TypeId} (ht : P.underlying t = some (.int .i64)) : Opens encH P w t (fun n : Int => [.int .i64 n]) (fun n => -9223372036854775808 ≤ n ∧ n ≤ 9223372036854775807) (fun _ => 1) := by
  intro fuel cs x h
  obtain ⟨n, rfl, rfl, hw⟩ := DataW.trod_int ht h
  exact ⟨n, ⟨_, _, rfl, rfl, rfl⟩, bounds_i64 hw, by simp [Rows.uptoBulk]⟩
theorem Opens.u32 {t : TypeId} (ht : P.underlying t = some (.int .u32)) : Opens encH P w t (fun n : Nat => [.int .u32 (n : Int)]) (fun n => n < 4294967296) (fun _ => 1) := by
  intro fuel cs x h
  obtain ⟨n, rfl, rfl, hw⟩ := DataW.trod_int ht h
  obtain ⟨h1, h2⟩ := bounds_u32 hw
  refine ⟨n.toNat, ⟨_, _, rfl, ?_, rfl⟩, by omega, by simp [Rows.uptoBulk]⟩
  show Value.int .u32 n = _
  rw [Int.toNat_of_nonneg h1]
theorem Opens.str {t : TypeId} (ht : P.underlying t = some .string) : Opens encH P w t (fun s : ByteArray => [.str s]) (fun _ => True) (fun s => s.size + 1) := by
  intro fuel cs x h
  obtain ⟨s, rfl, rfl, hs⟩ := DataW.trod_string ht h
  refine ⟨s, ⟨_, _, rfl, rfl, rfl⟩, trivial, ?_⟩
  simp only [Rows.uptoBulk]
  have : s.data.toList.length = s.size := by rw [Array.length_toList]; rfl
  omega
theorem Opens.map {t : TypeId} {α β : Type} {e : α → List AV} {good : α → Prop} {wt : α → Nat} (h : Opens encH P w t e good wt) {e' : β → List AV} {good' : β → Prop} {wt' : β → Nat} (f : α → β)
    (he : ∀ a, e' (f a) = e a) (hg : ∀ a, good a → good' (f a)) (hw : ∀ a, wt' (f a) ≤ wt a) : Opens encH P w t e' good' wt' := by
  intro fuel cs x hx
  obtain ⟨a, h1, h2, h3⟩ := h fuel cs x hx
  exact ⟨f a, by rw [he]; exact h1, hg a h2, Nat.le_trans (hw a) h3⟩
theorem Opens.two {t : TypeId} {f0 f1 : Field} (ht : P.underlying t = some (.struct #[f0, f1])) (o0 : f0.offset = 0) (o1 : f1.offset = P.cellsOf f0.type) (hl : P.cellsOf t = P.cellsOf f0.type + P.cellsOf f1.type)
    {α β : Type} {e0 : α → List AV} {g0 : α → Prop} {w0 : α → Nat} {e1 : β → List AV} {g1 : β → Prop} {w1 : β → Nat} (h0 : Opens encH P w f0.type e0 g0 w0) (h1 : Opens encH P w f1.type e1 g1 w1) :
    Opens encH P w t (fun p : α × β => e0 p.1 ++ e1 p.2) (fun p => g0 p.1 ∧ g1 p.2) (fun p => w0 p.1 + w1 p.2 + 1) := by
  intro fuel cs x h
  obtain ⟨xs, n, _, rfl, hlen, hxs, hf⟩ := DataW.trod_struct ht h
  match xs, hxs with
  | [y0, y1], _ =>
    obtain ⟨a, r0, q0, b0⟩ := h0 _ _ _ (hf 0 f0 rfl)
    obtain ⟨b, r1, q1, b1⟩ := h1 _ _ _ (hf 1 f1 rfl)
    refine ⟨(a, b), ?_, ⟨q0, q1⟩, ?_⟩
    · have := r0.append r1
      rw [o0, o1, List.drop_zero, List.take_of_length_le (l := cs.drop _) (by rw [List.length_drop]; omega), List.take_append_drop] at this
      exact this
    · simp only [List.map_cons, List.map_nil, Rows.uptoBulk, Rows.uptoBulkAll]
      omega
theorem Opens.four {t : TypeId} {f0 f1 f2 f3 : Field} (ht : P.underlying t = some (.struct #[f0, f1, f2, f3])) (o0 : f0.offset = 0) (o1 : f1.offset = P.cellsOf f0.type) (o2 : f2.offset = P.cellsOf f0.type + P.cellsOf f1.type)
    (o3 : f3.offset = P.cellsOf f0.type + P.cellsOf f1.type + P.cellsOf f2.type) (hl : P.cellsOf t = P.cellsOf f0.type + P.cellsOf f1.type + P.cellsOf f2.type + P.cellsOf f3.type)
    {α β γ δ : Type} {e0 : α → List AV} {g0 : α → Prop} {w0 : α → Nat} {e1 : β → List AV} {g1 : β → Prop} {w1 : β → Nat} {e2 : γ → List AV} {g2 : γ → Prop} {w2 : γ → Nat} {e3 : δ → List AV} {g3 : δ → Prop} {w3 : δ → Nat}
    (h0 : Opens encH P w f0.type e0 g0 w0) (h1 : Opens encH P w f1.type e1 g1 w1) (h2 : Opens encH P w f2.type e2 g2 w2) (h3 : Opens encH P w f3.type e3 g3 w3) :
    Opens encH P w t (fun p : α × β × γ × δ => e0 p.1 ++ (e1 p.2.1 ++ (e2 p.2.2.1 ++ e3 p.2.2.2))) (fun p => g0 p.1 ∧ g1 p.2.1 ∧ g2 p.2.2.1 ∧ g3 p.2.2.2) (fun p => w0 p.1 + w1 p.2.1 + w2 p.2.2.1 + w3 p.2.2.2 + 1) := by
  intro fuel cs x h
  obtain ⟨xs, n, _, rfl, hlen, hxs, hf⟩ := DataW.trod_struct ht h
  match xs, hxs with
  | [y0, y1, y2, y3], _ =>
    obtain ⟨a, r0, q0, b0⟩ := h0 _ _ _ (hf 0 f0 rfl)
    obtain ⟨b, r1, q1, b1⟩ := h1 _ _ _ (hf 1 f1 rfl)
    obtain ⟨c, r2, q2, b2⟩ := h2 _ _ _ (hf 2 f2 rfl)
    obtain ⟨d, r3, q3, b3⟩ := h3 _ _ _ (hf 3 f3 rfl)
    refine ⟨(a, b, c, d), ?_, ⟨q0, q1, q2, q3⟩, ?_⟩
    · have := r0.append (r1.append (r2.append r3))
      rw [o0, o1, o2, o3, List.drop_zero, List.take_of_length_le (l := cs.drop (P.cellsOf f0.type + P.cellsOf f1.type + P.cellsOf f2.type)) (by rw [List.length_drop]; omega),
        ← List.drop_drop (i := P.cellsOf f2.type), List.take_append_drop, ← List.drop_drop (i := P.cellsOf f1.type), List.take_append_drop, List.take_append_drop] at this
      exact this
    · simp only [List.map_cons, List.map_nil, Rows.uptoBulk, Rows.uptoBulkAll]
      omega
def sumW {α : Type} (wt : α → Nat) : List α → Nat
  | [] => 0
  | x :: l => wt x + sumW wt l
theorem sumW_snoc {α : Type} (wt : α → Nat) (l : List α) (x : α) : sumW wt (l ++ [x]) = sumW wt l + wt x := by
  induction l with
  | nil => simp [sumW]
  | cons y l ih => simp only [List.cons_append, sumW, ih]; omega
theorem bulk_append (l r : List (DataW H)) : Rows.uptoBulkAll (l ++ r) = Rows.uptoBulkAll l + Rows.uptoBulkAll r := by
  induction l with
  | nil => simp [Rows.uptoBulkAll]
  | cons x l ih => simp only [List.cons_append, Rows.uptoBulkAll, ih]; omega
theorem Opens.slice {t e : TypeId} (ht : P.underlying t = some (.slice e)) (hpos : 0 < P.cellsOf e) {α : Type} {enc : α → List AV} {good : α → Prop} {wt : α → Nat} (he : Opens encH P w e enc good wt) :
    Opens encH P w t (fun l : List α => [.sl (tab enc l)]) (fun l => ∀ x ∈ l, good x) (fun l => sumW wt l + 1) := by
  intro fuel cs x h
  rcases DataW.trod_slice ht h with ⟨rfl, rfl⟩ | ⟨a, len, cap, elems, rest, n, _, rfl, rfl, hb, hlc, hcm, hlen, hel, _, _⟩
  · exact ⟨[], ⟨_, _, rfl, ⟨none, 0, rfl, Nat.le_refl _, by decide, .inl rfl⟩, rfl⟩, by simp, by simp [Rows.uptoBulk, sumW]⟩
  · obtain ⟨b, o, spot⟩ := a
    have step : ∀ m, m ≤ len → ∃ (l : List α) (vss : List (List Value)), l.length = m ∧ vss.flatten.length = m * P.cellsOf e ∧ RpR w (fun _ => False) noPl (tab enc l) vss ∧ (∀ x ∈ l, good x) ∧ sumW wt l ≤ Rows.uptoBulkAll ((elems.take m).map (·.1)) ∧
        (0 < m → spot = none ∧ b < w.heap.size) ∧ CellsAt w b o vss.flatten := by
      intro m
      induction m with
      | zero => exact fun _ => ⟨[], [], rfl, by simp, rfl, by simp, by simp [sumW, Rows.uptoBulkAll], by omega, fun j u hj => by simp at hj⟩
      | succ m ih =>
        intro hm
        obtain ⟨l, vss, h1, h2, h3, h4, h5, h6, h7⟩ := ih (by omega)
        have hi := hel m (by omega)
        have hg : elems[m]? = some (elems[m]'(by omega)) := by simp
        rw [hg] at hi
        obtain ⟨cs', hc, hd⟩ := Option.bind_eq_some_iff.1 hi
        obtain ⟨_, hcl, hcell⟩ := World.cells?_some hc
        obtain ⟨y, hy1, hy2, hy3⟩ := he _ _ _ hd
        obtain ⟨c0, hc0⟩ : ∃ c0, cs'[0]? = some c0 := ⟨cs'[0]'(by omega), by simp⟩
        have g0 : w.cell? (((⟨b, o, spot⟩ : Addr).add (m * P.cellsOf e)).add 0) = some c0 := by rw [hcell 0 hpos, hc0]
        have hsp : spot = none ∧ b < w.heap.size := by
          have hs : spot = none := by
            cases m with
            | zero => have := World.cell?_spot g0; simpa [Addr.add] using this
            | succ m => exact (h6 (by omega)).1
          refine ⟨hs, ?_⟩
          have : ((⟨b, o, spot⟩ : Addr).add (m * P.cellsOf e)).add 0 = ⟨b, o + m * P.cellsOf e, none⟩ := by rw [hs, WideShapes.add_plain, WideShapes.add_plain]; rfl
          rw [this] at g0
          unfold World.cell? at g0
          split at g0
          · rename_i heq
            exact (Array.getElem?_eq_some_iff.1 heq).1
          · cases g0
        obtain ⟨hs, hbs⟩ := hsp
        subst hs
        refine ⟨l ++ [y], vss ++ [cs'], by simp [h1], ?_, ?_, ?_, ?_, fun _ => ⟨rfl, hbs⟩, ?_⟩
        · rw [List.flatten_append, List.length_append, h2, Nat.succ_mul]
          simp [hcl]
        · rw [← tab_snoc]
          exact h3.append ⟨_, _, rfl, hy1, rfl⟩
        · intro x hx
          rcases List.mem_append.1 hx with hx | hx
          · exact h4 x hx
          · rw [List.mem_singleton] at hx; subst hx; exact hy2
        · rw [sumW_snoc, List.take_add_one, hg, List.map_append, bulk_append]
          simp only [Option.toList_some, List.map_cons, List.map_nil, Rows.uptoBulkAll]
          omega
        · intro j u hj
          rw [List.flatten_append] at hj
          by_cases hjl : j < vss.flatten.length
          · rw [List.getElem?_append_left hjl] at hj
            exact h7 j u hj
          · rw [List.getElem?_append_right (by omega)] at hj
            simp only [List.flatten_cons, List.flatten_nil, List.append_nil] at hj
            have hlt : j - vss.flatten.length < cs'.length := (List.getElem?_eq_some_iff.1 hj).1
            have := hcell (j - vss.flatten.length) (by omega)
            rw [WideShapes.add_plain, WideShapes.add_plain, hj] at this
            rw [← this]
            congr 2
            omega
    obtain ⟨l, vss, h1, h2, h3, h4, h5, h6, h7⟩ := step len (Nat.le_refl _)
    have htl : (tab enc l).length = len := by rw [tab_length, h1]
    refine ⟨l, ⟨_, _, rfl, ⟨some ⟨b, o, spot⟩, cap, by rw [htl], by rw [htl]; exact hlc, hcm, ?_⟩, rfl⟩, h4, ?_⟩
    · by_cases h0 : 0 < len
      · obtain ⟨rfl, hbs⟩ := h6 h0
        exact .inr ⟨b, o, vss, rfl, fun h => h, hbs, h7, h3⟩
      · left
        have : l = [] := List.eq_nil_of_length_eq_zero (by omega)
        rw [this]; rfl
    · rw [List.take_of_length_le (by omega)] at h5
      simp only [Rows.uptoBulk]
      omega
end
end Go.Proofs.YtjkjapjcmbfkgaaGreat.Vm

/-
  Arguments of the program's own types opened: numbers, forms, atoms.
-/
namespace Go.Proofs.YtjkjapjcmbfkgaaGreat.Vm
open Go Go.RowKit
set_option linter.unusedVariables false
set_option linter.unusedSimpArgs false

section
variable {H : Type} {encH : TypeId × Value → H} {w : World}
theorem sumW_one (l : List Nat) : sumW (fun _ => 1) l = l.length := by
  induction l with
  | nil => rfl
  | cons x l ih => simp only [sumW, ih, List.length_cons]; omega
theorem opens_nat : Opens encH Tryz.prog w 25 (fun l : List Nat => [.sl (u32s l)]) Limbs (fun l => l.length + 1) :=
  (Opens.slice Tryz.underlying25 (by show 0 < Tryz.prog.cellsOf 114; rw [show Tryz.prog.cellsOf 114 = 1 by kernel_rfl]; decide) (Opens.u32 Tryz.underlying114)).map id (fun _ => rfl) (fun _ h => h) (fun l => by show l.length + 1 ≤ sumW (fun _ => 1) l + 1; rw [sumW_one]; exact Nat.le_refl _)
theorem opens_int : Opens encH Tryz.prog w 27 (fun p : Bool × List Nat => [.bool p.1, .sl (u32s p.2)]) (fun p => Limbs p.2) (fun p => p.2.length + 3) :=
  (Opens.two Tryz.underlying27 rfl (by kernel_rfl) (by kernel_rfl) (Opens.bool Tryz.underlying4) opens_nat).map id (fun _ => rfl) (fun _ h => h.2) (fun l => by simp only [id]; omega)
def RR.good (r : RR) : Prop := Limbs r.num ∧ Limbs r.den
def RR.wt (r : RR) : Nat := r.num.length + r.den.length + 5
theorem RR.bits_wt (r : RR) : r.bits ≤ 32 * r.wt := by unfold RR.bits RR.wt; omega
theorem opens_rat : Opens encH Tryz.prog w 29 rowR RR.good RR.wt :=
  (Opens.two Tryz.underlying29 rfl (by kernel_rfl) (by kernel_rfl) opens_int opens_nat).map (fun p => (⟨p.1.1, p.1.2, p.2⟩ : RR)) (fun _ => rfl) (fun _ h => h) (fun l => by simp only [RR.wt]; omega)
def mono_wt (p : Int × RR) : Nat := p.2.wt + 2
theorem opens_mono : Opens encH Tryz.prog w 54 rowM (fun p : Int × RR => (-9223372036854775808 ≤ p.1 ∧ p.1 ≤ 9223372036854775807) ∧ p.2.good) mono_wt :=
  (Opens.two Tryz.underlying54 rfl (by kernel_rfl) (by kernel_rfl) (Opens.i64 Tryz.underlying3) opens_rat).map id (fun _ => rfl) (fun _ h => h) (fun l => by simp only [id, mono_wt]; omega)
def form_good (f : List (Int × RR)) : Prop := ∀ p ∈ f, (-9223372036854775808 ≤ p.1 ∧ p.1 ≤ 9223372036854775807) ∧ p.2.good
def form_wt (f : List (Int × RR)) : Nat := sumW mono_wt f + 1
theorem opens_form : Opens encH Tryz.prog w 23 (fun f => [cF f]) form_good form_wt :=
  Opens.slice Tryz.underlying23 (by show 0 < Tryz.prog.cellsOf 54; rw [show Tryz.prog.cellsOf 54 = 4 by kernel_rfl]; decide) opens_mono
def At.good (a : At) : Prop := form_good a.form ∧ a.bound.good
def At.wt (a : At) : Nat := a.name.size + form_wt a.form + a.bound.wt + 3
theorem opens_atom : Opens encH Tryz.prog w 31 At.cells At.good At.wt :=
  (Opens.four Tryz.underlying31 rfl (by kernel_rfl) (by kernel_rfl) (by kernel_rfl) (by kernel_rfl) (Opens.str Tryz.underlying9) opens_form opens_rat (Opens.bool Tryz.underlying4)).map
    (fun p => (⟨p.1, p.2.1, p.2.2.1, p.2.2.2⟩ : At)) (fun _ => rfl) (fun _ h => ⟨h.2.1, h.2.2.1⟩) (fun p => by simp only [At.wt]; omega)
end

/-! ### what little bulk means -/

theorem RR.good.ok {r : RR} (h : r.good) (hb : r.wt ≤ 1048576) : r.ok := ⟨h.1, h.2, by unfold RR.wt at hb; omega, by unfold RR.wt at hb; omega⟩
theorem RR.good.nb {r : RR} (h : r.good) : nb r.v ≤ 32 * r.wt := Nat.le_trans (nb_v r h.1 h.2) r.bits_wt
theorem form_nbs : ∀ {f : List (Int × RR)}, form_good f → nbs (vals f) ≤ 32 * sumW mono_wt f
  | [], _ => by simp [vals, nbs]
  | p :: f, h => by
    have h1 := (h p List.mem_cons_self).2.nb
    have h2 := form_nbs (f := f) fun q hq => h q (List.mem_cons_of_mem _ hq)
    simp only [vals, List.map_cons, nbs, sumW, mono_wt] at *
    omega
theorem sumW_mem {α : Type} {wt : α → Nat} {l : List α} {x : α} (h : x ∈ l) : wt x ≤ sumW wt l := by
  induction l with
  | nil => cases h
  | cons y l ih =>
    simp only [sumW]
    rcases List.mem_cons.1 h with rfl | h
    · omega
    · have := ih h; omega
theorem form_ok {f : List (Int × RR)} (h : form_good f) (hb : form_wt f ≤ 1048576) : FOk f 67108864 ∧ nbs (vals f) ≤ 67108864 := by
  have h1 := form_nbs h
  unfold form_wt at hb
  refine ⟨⟨fun p hp => (h p hp).2.ok ?_, (Sz.of _).mono (by omega)⟩, by omega⟩
  have := sumW_mem (wt := mono_wt) hp
  unfold mono_wt at this hb
  omega
theorem At.good.ok {a : At} (h : a.good) (hb : a.wt ≤ 1048576) : AtOk a := by
  unfold At.wt at hb
  obtain ⟨h1, h2⟩ := form_ok h.1 (by omega)
  refine ⟨h1, h2, h.2.ok (by omega), ?_⟩
  have := h.2.nb
  omega
theorem sumW_len {α : Type} {wt : α → Nat} (h : ∀ x, 1 ≤ wt x) (l : List α) : l.length ≤ sumW wt l := by
  induction l with
  | nil => simp [sumW]
  | cons x l ih => have := h x; simp only [List.length_cons, sumW]; omega
end Go.Proofs.YtjkjapjcmbfkgaaGreat.Vm

/-
  Parameters opened.
-/
namespace Go.Proofs.YtjkjapjcmbfkgaaGreat.Vm
open Go Go.RowKit
set_option linter.unusedVariables false
set_option linter.unusedSimpArgs false
section
variable {H : Type} {encH : TypeId × Value → H} {P : Program} {w : World}
theorem rps_some {α : Type} {t : TypeId} {e : α → List AV} {good : α → Prop} {wt : α → Nat} (h : Opens encH P w t e good wt) {v : Value} {d : DataW H} {p : List MemPlace} (hd : DataW.Trod encH P w 0 (fun _ => true) true t v d p) :
    ∃ a, Rps w (fun _ => False) noPl (e a) v.cells.toList ∧ good a ∧ wt a ≤ Rows.uptoBulk d := by
  obtain ⟨fuel, hf⟩ := hd
  exact h fuel _ _ hf
theorem par_struct {α : Type} {t : TypeId} {fs : Array Field} (ht : P.underlying t = some (.struct fs)) {e : α → List AV} {good : α → Prop} {wt : α → Nat} (h : Opens encH P w t e good wt) {base : Nat} {v : Value} (hok : Value.okWide P w .any base t v) {d : DataW H} {p : List MemPlace} (hd : DataW.Trod encH P w 0 (fun _ => true) true t v d p) :
    ∃ a, Rp w (fun _ => False) noPl (.agg (e a)) v ∧ good a ∧ wt a ≤ Rows.uptoBulk d := by
  unfold Value.okWide at hok
  rw [ht] at hok
  obtain ⟨cs, rfl, _, _⟩ := hok
  obtain ⟨a, h1, h2, h3⟩ := rps_some h hd
  exact ⟨a, ⟨cs.toList, by simp, h1⟩, h2, h3⟩
theorem par_slice {α : Type} {t el : TypeId} (ht : P.underlying t = some (.slice el)) {e : α → AV} {good : α → Prop} {wt : α → Nat} (h : Opens encH P w t (fun a => [e a]) good wt) {base : Nat} {v : Value} (hok : Value.okWide P w .any base t v) {d : DataW H} {p : List MemPlace} (hd : DataW.Trod encH P w 0 (fun _ => true) true t v d p) :
    ∃ a, Rp w (fun _ => False) noPl (e a) v ∧ good a ∧ wt a ≤ Rows.uptoBulk d := by
  unfold Value.okWide at hok
  rw [ht] at hok
  unfold Cell.okWide at hok
  rw [ht] at hok
  obtain ⟨a, h1, h2, h3⟩ := rps_some h hd
  obtain ⟨u, us, e1, e2, e3⟩ := h1
  have e4 : us = [] := e3
  subst e4
  cases v <;> simp only [Value.cells] at e1 <;> first
    | (simp only [Cell.ok, ht] at hok; done)
    | (have e5 := (List.cons.inj e1).1; subst e5; exact ⟨a, e2, h2, h3⟩)
end
end Go.Proofs.YtjkjapjcmbfkgaaGreat.Vm

/-
  ImpliedAtoms, the statement.
-/
namespace Go.Proofs.YtjkjapjcmbfkgaaGreat.Vm
open Go Go.RowKit Go.ChangeShapes Go.WideShapes Go.ChangeAt
set_option maxRecDepth 100000
set_option linter.unusedVariables false
set_option linter.unusedSimpArgs false

section
variable {H : Type} {encH : TypeId × Value → H} {w : World}
theorem opens_atoms : Opens encH Tryz.prog w 32 (fun l : List At => [.sl (tab rowA l)]) (fun l => ∀ a ∈ l, a.good) (fun l => sumW At.wt l + 1) :=
  Opens.slice (enc := rowA) Tryz.underlying32 (by show 0 < Tryz.prog.cellsOf 31; rw [show Tryz.prog.cellsOf 31 = 6 by kernel_rfl]; decide) opens_atom
end
namespace impliedAtoms_
theorem own : ownKnob Tryz.prog.godebug = none := by kernel_rfl
theorem laidOut : laidOutB Tryz.prog = true := by kernel_rfl
theorem contract (H : Type) (encH : TypeId × Value → H) (W : World) (base : Nat) (args : Array Value) (ds gs : List (DataW H)) (before : List MemPlace)
    (hval : ∀ (j : Nat) t v, Tryz.f3.params[j]? = some t → args[j]? = some v → Value.okWide Tryz.prog W .any base t v)
    (hW : DataW.Whole encH Tryz.prog Tryz.f3.params.toList Rows.impliedAtomsSpec.vars false W args.toList ds gs before) (hk : Rows.uptoSmall H (ds ++ gs) = true) :
    Calls Tryz.prog 3 args W fun e W' => ∃ v, e = .returned v ∧ Rows.impliedAtomsSpec.post encH Tryz.prog Tryz.f3 false true false false W args v W' := by
  have hW' := hW
  obtain ⟨p, q, hA0, hV, rfl, hfz, hnd⟩ := hW
  have hA : DataW.TrodAll encH Tryz.prog W 0 (fun _ => true) true Tryz.f3.params.toList args.toList ds p := hA0
  rw [Tryz.params3] at hA hval
  obtain ⟨v0, v1, v2, d0, d1, d2, p0, p1, p2, rfl, rfl, rfl, h0, h1, h2⟩ := trodAll_three hA
  obtain ⟨rfl, rfl⟩ := trodVars_none hV
  simp only [List.append_nil] at hW' hk
  have hlt : ∀ x ∈ p0 ++ p1 ++ p2, x.block < W.heap.size := fun x hx => hW'.lt x (by simpa using hx)
  obtain ⟨a0, r0, g0, b0⟩ := par_struct Tryz.underlying31 opens_atom (hval 0 31 v0 rfl rfl) h0
  obtain ⟨a1, r1, g1, b1⟩ := par_struct Tryz.underlying31 opens_atom (hval 1 31 v1 rfl rfl) h1
  obtain ⟨a2, r2, g2, b2⟩ := par_slice Tryz.underlying32 opens_atoms (hval 2 32 v2 rfl rfl) h2
  have hbulk : Rows.uptoBulkAll [d0, d1, d2] ≤ 1048576 := of_decide_eq_true hk
  simp only [Rows.uptoBulkAll] at hbulk
  have hlaw := atoms_law a0 a1 a2 (g0.ok (by omega)) (g1.ok (by omega)) (fun a h => (g2 a h).ok (by have := sumW_mem (wt := At.wt) h; omega)) (by have := sumW_len (wt := At.wt) (fun a => by unfold At.wt; omega) a2; omega)
  refine (hlaw W [v0, v1, v2] (fun _ => False) (fun _ h => h.elim) ⟨_, _, rfl, r0, _, _, rfl, r1, _, _, rfl, r2, rfl⟩).mono fun e W' he => ?_
  obtain ⟨v, r, rfl, rfl, hbel, hrp⟩ := he
  have hv : v = .bool true := hrp
  subst hv
  exact ⟨_, rfl, ⟨_, _, _, [], _, [], hW', trodAll_mk1 (shut_bool Tryz.underlying4 _), trodAll_mk3 (Below.trod laidOut (by kernel_rfl) (of_decide_eq_true (by kernel_rfl)) h0 hbel (fun x hx => hlt x (by simp [hx]))) (Below.trod laidOut (by kernel_rfl) (of_decide_eq_true (by kernel_rfl)) h1 hbel (fun x hx => hlt x (by simp [hx]))) (Below.trod laidOut (by kernel_rfl) (of_decide_eq_true (by kernel_rfl)) h2 hbel (fun x hx => hlt x (by simp [hx]))), rfl, hbel.frame _, fun h => by cases h⟩⟩
theorem lifted (os : Os) (started : os.Started) (H : Type) (enc : TypeId × Value → H) (F : Stop.Interp) :
    ReturnsInHanded {} Tryz.checked os 3 .any ((Rows.OpenSpec.upto Rows.impliedAtomsSpec).pre6 enc Tryz.prog Tryz.f3 Rows.impliedAtomsUptoRow.domain false) (((Rows.OpenSpec.upto Rows.impliedAtomsSpec).at F).post enc Tryz.prog Tryz.f3 false true false false) := by
  refine returnsInHanded_of_cond (C := Tryz.checked) (s := Rows.OpenSpec.upto Rows.impliedAtomsSpec) (k := Rows.uptoSmall) rfl own started (by kernel_rfl) Tryz.func3
    (OpenSpec.witness (enc := enc) (C := Tryz.checked) (s := Rows.OpenSpec.upto Rows.impliedAtomsSpec) (k := Rows.uptoSmall) rfl false ⟨#[], #[.agg #[.string .empty, .slice none 0 0, .bool false, .slice none 0 0, .slice none 0 0, .bool false], .agg #[.string .empty, .slice none 0 0, .bool false, .slice none 0 0, .slice none 0 0, .bool false], .slice none 0 0], []⟩ 8 (by kernel_rfl) (by kernel_rfl) (by kernel_rfl)
      (x := ([.agg [.lit (.string []), .nil, .agg [.agg [.lit (.bool false), .nil], .nil], .lit (.bool false)], .agg [.lit (.string []), .nil, .agg [.agg [.lit (.bool false), .nil], .nil], .lit (.bool false)], .nil], [], [])) (by kernel_rfl) rfl (by kernel_rfl)) ?_
  intro W base args ds gs before hval hW _ hk _
  exact contract H enc W base args ds gs before hval hW hk
end impliedAtoms_

theorem impliedAtoms_holds : Rows.ImpliedAtomsUptoSaid :=
  OpenClaim.holds_of_cond 3 Tryz.f3 rfl rfl rfl rfl rfl rfl rfl ⟨rfl, rfl, rfl, rfl, rfl⟩ rfl rfl rfl rfl rfl (by kernel_rfl) Tryz.func3 (by kernel_rfl)
    (of_decide_eq_true (by kernel_rfl)) (by unfold Func.isWrapper; first | (rw [if_pos (by decide +kernel)]; kernel_rfl) | (rw [if_neg (by decide +kernel)]; exact ⟨rfl, rfl⟩))
    (fun os started H enc _ F => impliedAtoms_.lifted os started H enc F)
end Go.Proofs.YtjkjapjcmbfkgaaGreat.Vm

