/-
  The law ImpliedTableaus holds of the given program, for all arguments of bulk at most 1048576: no further conditions.
-/
import Derived.Test.YtjmpajgjaefcjaaGreatItb7
import Derived.Orders
import Derived.Below
import Derived.Laws.AppendOwn
import Derived.Laws.MakeOwn
import Derived.Laws.CopyRow
import Derived.Laws.Rows
import Derived.Laws.Cells
import Derived.Tactics
import Derived.Laws.BitsLemmas
import Derived.Maps.Range
import Derived.Carry
import Derived.Test.YtjmpajgjaefcjaaGreatProg
import Derived.Sort.Row
import Derived.Sort.Grow
import Derived.Shelf.Sort.Plain
import Derived.Shelf.Slices.In.SortNone
import Derived.Ground.NamesProg
import Derived.Test.YtjmpajgjaefcjaaGreatRows
import Derived.WalkKit
import Derived.ProofKit
import Derived.OpenShut
import Derived.JoinedCond
set_option linter.unusedVariables false
set_option linter.unusedSimpArgs false
set_option maxRecDepth 100000

/-
  Tableaus: the rows told; a form without basic variables.
-/
namespace Go.Proofs.YtjmpajgjaefcjaaGreat.Vm
open Go Go.RowKit
theorem sTe {G G' : Prop} (h : G') (e : G = G' := by conv => lhs; simp (disch := omega) only [rowsOf, cNat, cN, St.ret, St.seth, Eff.app, Eff.wi, sepL, guardOf, St.known, objOf, List.set, sliceW, litW, copyW, lenOf, bnd, mxOk, ofCells, TI.isAgg, cellsOf, storable, AV.one, dead, laid, overlay, reduceCtorEq, Int.reduceLE, Int.reduceLT, Int.reduceSub, Int.reduceAdd, Nat.reduceMul, Int.reduceToNat, Nat.reducePow, Int.reduceNeg, Nat.reduceAdd, Nat.reduceLT, Nat.reduceLeDiff, sA, sB, Nat.reduceEqDiff, cQ, rowQ, rowU, rowM, i64s_getD, i64s_length, i64s_all, i64s_take, i64s_drop, i64s_set, i64s_one, i64s_pure, i64s_append, tab_length, tab_drop, tab_take, tab_append, tab_nil, rowU_all, rowU_one, rowU_pure, rowQ_all, rowQ_one, rowQ_pure, List.take_length, List.length_append, findA_tab, sT]) : G := e.mpr h
theorem sTeX {G G' P : Prop} (p : P) (h : G') (e : P → G = G' := by intro p; conv => lhs; simp (disch := omega) only [rowsOf, cNat, cN, St.ret, St.seth, Eff.app, Eff.wi, sepL, guardOf, St.known, objOf, List.set, sliceW, litW, copyW, lenOf, bnd, mxOk, ofCells, TI.isAgg, cellsOf, storable, AV.one, dead, laid, overlay, reduceCtorEq, Int.reduceLE, Int.reduceLT, Int.reduceSub, Int.reduceAdd, Nat.reduceMul, Int.reduceToNat, Nat.reducePow, Int.reduceNeg, Nat.reduceAdd, Nat.reduceLT, Nat.reduceLeDiff, sA, sB, Nat.reduceEqDiff, cQ, rowQ, rowU, rowM, i64s_getD, i64s_length, i64s_all, i64s_take, i64s_drop, i64s_set, i64s_one, i64s_pure, i64s_append, tab_length, tab_drop, tab_take, tab_append, tab_nil, rowU_all, rowU_one, rowU_pure, rowQ_all, rowQ_one, rowQ_pure, List.take_length, List.length_append, findA_tab, sT, p]) : G := (e p).mpr h
theorem sTeV {G G' : Prop} (h : G') (e : G = G' := by conv => lhs; simp (disch := omega) only [rowsOf, cNat, cN, St.ret, St.seth, Eff.app, Eff.wi, sepL, guardOf, St.known, objOf, List.set, sliceW, litW, copyW, lenOf, bnd, mxOk, ofCells, TI.isAgg, cellsOf, storable, AV.one, dead, laid, overlay, reduceCtorEq, Int.reduceLE, Int.reduceLT, Int.reduceSub, Int.reduceAdd, Nat.reduceMul, Int.reduceToNat, Nat.reducePow, Int.reduceNeg, Nat.reduceAdd, Nat.reduceLT, Nat.reduceLeDiff, sA, sB, Nat.reduceEqDiff, cQ, rowQ, rowU, rowM, i64s_getD, i64s_length, i64s_all, i64s_take, i64s_drop, i64s_set, i64s_one, i64s_pure, i64s_append, tab_length, tab_drop, tab_take, tab_append, tab_nil, rowU_all, rowU_one, rowU_pure, rowQ_all, rowQ_one, rowQ_pure, List.take_length, List.length_append, findA_tab, sT, view_sref, viewRef, view_agg, views_cons, views_nil, view_bool, view_int, view_sl, view_nils, view_str, view_tup, view_nilif]) : G := e.mpr h
theorem aTe {G G' : Prop} (h : G') (f : Wr G' → G := by intro h; (repeat (first | (refine W_seqV fun K hK => ?_; (try (refine sTe ?_; try exact True.intro)); (repeat refine aI ?_); refine hK _ ?_; clear hK K) | (refine W_seqR fun K hK => ?_; (try (refine sTe ?_; try exact True.intro)); (repeat refine aI ?_); refine hK _ ?_; clear hK K) | (refine W_seqD mixed [] (by kernel_rfl) fun K hK => ?_; (try (refine sTe ?_; try exact True.intro)); (repeat refine aI ?_); refine hK _ ?_; clear hK K))); exact h.out) : G := f ⟨h⟩

theorem look_idx {M : TM} {b : Int} (h : b ∈ keys M) : ∃ j, idxM M b = some j ∧ j < M.length ∧ (M.getD j default).1 = b ∧ lookM M b = some (M.getD j default).2 ∧ M.getD j default ∈ M := by
  cases hi : idxM M b with
  | none => exact absurd h (idx_none hi).1
  | some j =>
    obtain ⟨h1, h2, h3, _⟩ := idx_some hi
    exact ⟨j, rfl, h1, h2, h3, getD_mem h1⟩
theorem sortM_getD {M : TM} {i : Nat} (h : i < (sortK (keys M)).length) : (sortM M).getD i default = ((sortK (keys M)).getD i 0, (lookM M ((sortK (keys M)).getD i 0)).getD []) := by
  unfold sortM
  simp [List.getD_eq_getElem?_getD, h]
/-- Rows whose forms are normal and small. -/
structure MOk (M : TM) (B : Nat) : Prop where
  nf : ∀ r ∈ M, NF r.2
  sz : ∀ r ∈ M, Sz r.2 B
  len : M.length < 1099511627776
theorem ttold_ok (M : TM) (n : Int) (c : Nat) (bs : List Nat) {B : Nat} (hM : MOk M B) (hB : B < 17179869184) (hb : bs.length = M.length) (hn : bs.Nodup) (hlt : ∀ x ∈ bs, x < c) :
    Pure Tryz.prog 63 [.md c bs (tab rowU M), .int .i64 n] (· = cU n (sortM M)) := by
  have a1 := tbasics_ok M c bs hb hn hlt hM.len
  have hsl : (sortM M).length = (sortK (keys M)).length := by rw [sortM_len, sortK_len, keys_len]
  have hsm : (sortM M).length < 1099511627776 := by rw [sortM_len]; exact hM.len
  have hrow : ∀ i, i < (sortK (keys M)).length → ∃ j g, idxM M ((sortK (keys M)).getD i 0) = some j ∧ (tab rowU M).getD j [] = [.int .i64 ((sortK (keys M)).getD i 0), .sl (tab rowQ g)] ∧
      (sortM M).take (i + 1) = (sortM M).take i ++ [((sortK (keys M)).getD i 0, g)] ∧ Pure Tryz.prog 108 [cL g] (· = cL g) := by
    intro i hi
    have hm : (sortK (keys M)).getD i 0 ∈ keys M := mem_sortK.1 (by simp [List.getD_eq_getElem?_getD, hi])
    obtain ⟨j, h1, h2, h3, h4, h5⟩ := look_idx hm
    refine ⟨j, (M.getD j default).2, h1, ?_, ?_, ?_⟩
    · rw [rowU_getD h2, ← h3]
      rfl
    · rw [take_snoc (by omega), sortM_getD hi, h4]
      rfl
    · have := lnorm_ok (rf (M.getD j default).2) (FOk.rf (hM.sz _ h5) hB) hB
      rw [vals_rf, norm_self (hM.nf _ h5), cF_rf] at this
      exact this
  have hall : (sortM M).take (sortK (keys M)).length = sortM M := by rw [← hsl, List.take_length]
  have h0 : (sortM M).take 0 = [] := rfl
  have hln : ∀ i, i ≤ (sortK (keys M)).length → ((sortM M).take i).length = i := fun i hi => by rw [List.length_take]; omega
  unfold cU
  generalize sortK (keys M) = l at *
  generalize sortM M = N at *
  generalize hE : (fun i => N.take i) = E at *
  have hE' : ∀ i, N.take i = E i := fun i => congrFun hE i
  simp only [hE'] at *
  clear hE hE'
  (refine pureW Tryz.func63 rfl (rs := [Go.ResultVar.cell 4 24]) rfl (n := 30) rfl ?_; simp only [List.length_cons, List.length_nil, List.replicate, List.cons_append, List.nil_append])
  (refine aTe ?_)
  ((refine W_seq (W_seqV ?_)); intro K hK; (refine sTe ?_))
  (refine ⟨by kernel_rfl, _, .pure rfl (a1), ?_⟩; (try (refine sTe ?_)))
  (refine hK _ ?_; clear hK K)
  refine W.le ?_ (Le_nilO 5 0 1 26 84 2 true rfl rfl rfl rfl)
  simp only [List.set]
  refine W_block (W_loop (fun t : {t : Nat // t ≤ l.length} =>
      ⟨[.md c bs (tab rowU M), .int .i64 n, .any, .any, .ptr 4 0 0, .ptr 5 0 0, .any, .any, .any, .any, .any, .sl (i64s l), .int .i64 l.length, .int .i64 t.1, .any, .any, .any, .any, .any, .any, .any, .any, .any, .any, .any, .any, .any, .any, .any, .any],
       [.dead, .dead, .dead, .dead, .arr 24 2 false [[.int .i64 0, .nils]], .arr 24 2 false [[.int .i64 n, .sref 26 0 t.1]], .dead, .dead, .dead, .dead, .dead, .dead, .dead, .dead, .dead, .dead, .dead, .dead, .dead, .dead, .dead, .dead, .dead, .dead, .dead, .dead, .arr 84 2 true (tab rowU (E t.1)), .dead, .dead, .dead]⟩) (fun t => l.length - t.1)
      ⟨0, by omega⟩ (Le_of (by simp [leE]) (by simp [h0, tab])) fun t => ?_)
  obtain ⟨i, hi⟩ := t
  dsimp only
  by_cases hil : i < l.length
  · obtain ⟨j, g, hid, hXj, hst, hno⟩ := hrow i hil
    have hle := hln i (by omega)
    generalize hv : l.getD i 0 = v at *
    generalize E i = o at *
    simp only [cL] at hno
    refine W_seq ?_
    ((refine W_regV ?_); intro K hK; (refine sTeX hil ?_))
    (refine hK _ ?_; clear hK K)
    (refine W_seq (W_cond rfl (fun _ => ?_) (fun h => by cases h)))
    refine W_skip ?_
    simp only [thenW]
    refine W_seq ?_
    refine W_block ?_
    ((refine W_seqV ?_); intro K hK; (refine sTeX (And.intro hv hil) ?_))
    (refine hK _ ?_; clear hK K)
    ((refine W_regS mixed 9 [] (by kernel_rfl) ?_); intro K hK; (refine sTeX (And.intro hid hXj) ?_))
    (refine ⟨by kernel_rfl, _, .pure rfl (hno), ?_⟩; (try (refine sTe ?_)); (repeat refine aI ?_))
    (refine hK _ ?_; clear hK K)
    simp only [blockW, thenW]
    ((refine W_regV ?_); intro K hK; (refine sTe ?_))
    (refine hK _ ?_; clear hK K)
    simp only [blockW, thenW]
    refine ⟨⟨i + 1, by omega⟩, Le_drop (by simp [leE]) (by simp [leH, hst, ← tab_snoc, rowU, tab_take, List.take_of_length_le, hle]) rfl rfl, ?_⟩
    dsimp only
    omega
  · obtain rfl : i = l.length := by omega
    rw [hall]
    refine W_seq ?_
    ((refine W_regV ?_); intro K hK; (refine sTe ?_))
    (refine hK _ ?_; clear hK K)
    (refine W_seq (W_cond rfl (fun h => by cases h) (fun _ => ?_)))
    refine W_exit ?_
    simp only [thenW, blockW, if_true]
    (refine aTe ?_)
    refine W_ret ?_
    (refine qG ?_; try exact True.intro); try (refine sTeV ?_; try exact True.intro)
    rw [List.take_of_length_le (by omega)]
end Go.Proofs.YtjmpajgjaefcjaaGreat.Vm

/-
  Tableaus: a tableau's rows as a map.
-/
namespace Go.Proofs.YtjmpajgjaefcjaaGreat.Vm
open Go Go.RowKit
theorem sTf {G G' : Prop} (h : G') (e : G = G' := by conv => lhs; simp (disch := omega) only [rowsOf, cNat, cN, St.ret, St.seth, Eff.app, Eff.wi, sepL, guardOf, St.known, objOf, List.set, sliceW, litW, copyW, lenOf, bnd, mxOk, ofCells, TI.isAgg, cellsOf, storable, AV.one, dead, laid, overlay, reduceCtorEq, Int.reduceLE, Int.reduceLT, Int.reduceSub, Int.reduceAdd, Nat.reduceMul, Int.reduceToNat, Nat.reducePow, Int.reduceNeg, Nat.reduceAdd, Nat.reduceLT, Nat.reduceLeDiff, sA, sB, Nat.reduceEqDiff, cQ, rowQ, rowU, rowT, rowM, i64s_getD, i64s_length, tab_length, tab_drop, tab_take, tab_append, tab_nil, rowT_all, rowT_one, rowT_pure, rowU_all, rowU_one, rowU_pure, rowQ_all, rowQ_one, rowQ_pure, List.take_length, List.length_append, findA_tab, range_snoc, pure_sl, sT]) : G := e.mpr h
theorem sTfX {G G' P : Prop} (p : P) (h : G') (e : P → G = G' := by intro p; conv => lhs; simp (disch := omega) only [rowsOf, cNat, cN, St.ret, St.seth, Eff.app, Eff.wi, sepL, guardOf, St.known, objOf, List.set, sliceW, litW, copyW, lenOf, bnd, mxOk, ofCells, TI.isAgg, cellsOf, storable, AV.one, dead, laid, overlay, reduceCtorEq, Int.reduceLE, Int.reduceLT, Int.reduceSub, Int.reduceAdd, Nat.reduceMul, Int.reduceToNat, Nat.reducePow, Int.reduceNeg, Nat.reduceAdd, Nat.reduceLT, Nat.reduceLeDiff, sA, sB, Nat.reduceEqDiff, cQ, rowQ, rowU, rowT, rowM, i64s_getD, i64s_length, tab_length, tab_drop, tab_take, tab_append, tab_nil, rowT_all, rowT_one, rowT_pure, rowU_all, rowU_one, rowU_pure, rowQ_all, rowQ_one, rowQ_pure, List.take_length, List.length_append, findA_tab, range_snoc, pure_sl, sT, p]) : G := (e p).mpr h
theorem aTf {G G' : Prop} (h : G') (f : Wr G' → G := by intro h; (repeat (first | (refine W_seqV fun K hK => ?_; (try (refine sTf ?_; try exact True.intro)); (repeat refine aI ?_); refine hK _ ?_; clear hK K) | (refine W_seqR fun K hK => ?_; (try (refine sTf ?_; try exact True.intro)); (repeat refine aI ?_); refine hK _ ?_; clear hK K) | (refine W_seqD mixed [] (by kernel_rfl) fun K hK => ?_; (try (refine sTf ?_; try exact True.intro)); (repeat refine aI ?_); refine hK _ ?_; clear hK K))); exact h.out) : G := f ⟨h⟩

/-- What is known of the rows' variables, row by row. -/
structure KOk (n : Int) (l : List Int) : Prop where
  nodup : l.Nodup
  range : ∀ b ∈ l, 0 ≤ b ∧ b < n
theorem KOk.nil (n : Int) : KOk n [] := ⟨List.nodup_nil, by simp⟩
theorem KOk.snoc {n : Int} {l : List Int} (h : KOk n l) {b : Int} (h1 : b ∉ l) (h2 : 0 ≤ b ∧ b < n) : KOk n (l ++ [b]) := by
  refine ⟨?_, fun c hc => ?_⟩
  · rw [List.nodup_append]
    refine ⟨h.nodup, by simp, ?_⟩
    rintro a ha b' hb rfl
    simp at hb
    subst hb
    exact h1 ha
  · rcases List.mem_append.1 hc with hc | hc
    · exact h.range c hc
    · simp at hc; subst hc; exact h2
theorem GT.pre {n : Int} {M : TM} (h : GT n M) {i : Nat} (hi : i < M.length) : (M.getD i default).1 ∉ keys (M.take i) ∧ 0 ≤ (M.getD i default).1 ∧ (M.getD i default).1 < n := by
  have h1 := h.range (M.getD i default).1 (List.mem_map.2 ⟨_, getD_mem hi, rfl⟩)
  refine ⟨fun hm => ?_, h1⟩
  have h2 := h.nodup
  have h3 : keys M = keys (M.take i) ++ keys (M.drop i) := by rw [← keys_append, List.take_append_drop]
  rw [h3, List.nodup_append] at h2
  refine h2.2.2 _ hm (M.getD i default).1 ?_ rfl
  have : M.drop i = M.getD i default :: M.drop (i + 1) := by
    rw [List.drop_eq_getElem_cons hi]
    simp [List.getD_eq_getElem?_getD, hi]
  rw [this]
  simp [keys]
def loadR (n : Int) (t : TR) : MapR := if goodB n (nrmT t) then some (t.length, List.range t.length, tab rowU (nrmT t)) else none
theorem tload_new (n : Int) (t : TR) {B : Nat} (hf : ∀ r ∈ t, FOk r.2 B) (hB : B < 17179869184) (hl : t.length < 1099511627776) :
    NewMB Tryz.prog 62 [cT n t] (· = loadR n t) := by
  have hml := nrmT_len t
  have hgT : GT n (nrmT t) → goodB n (nrmT t) = true := gt_iff.2
  have hgF : ¬ GT n (nrmT t) → goodB n (nrmT t) = false := fun h => by
    rw [Bool.eq_false_iff]
    exact fun h' => h (gt_iff.1 h')
  have hnd := fun i (hi : i < t.length) => nrmT_getD hi
  have hno := fun i (hi : i < t.length) => lnorm_ok (t.getD i default).2 (hf _ (getD_mem hi)) hB
  have hst : ∀ i, i < t.length → (nrmT t).take (i + 1) = (nrmT t).take i ++ [((t.getD i default).1, normF (vals (t.getD i default).2))] := fun i hi => by
    rw [take_snoc (by omega), hnd i hi]
  have hfl : ∀ r ∈ nrmT t, r.2.length < 1099511627776 := fun r hr => by
    obtain ⟨q, hq, rfl⟩ := List.mem_map.1 hr
    have := (hf q hq).sz.norm.l
    simp only
    omega
  have hall : (nrmT t).take t.length = nrmT t := by rw [← hml, List.take_length]
  unfold loadR cT
  generalize nrmT t = M at *
  generalize goodB n M = gb at *
  by_cases h1 : n < 0
  · rw [hgF fun h => by have := h.lo; omega]
    (refine newMB_of_W Tryz.func62 rfl (rs := [Go.ResultVar.tmp 2, Go.ResultVar.tmp 3]) rfl (nt := 92) rfl ?_; simp only [List.length_cons, List.length_nil, List.replicate, List.cons_append, List.nil_append])
    (refine aTf ?_)
    ((refine W_seq (W_seqV ?_)); intro K hK; (refine sTfX h1 ?_))
    (refine hK _ ?_; clear hK K)
    (refine W_cond rfl (fun _ => ?_) (fun h => by cases h))
    (refine aTf ?_)
    refine W_ret ?_
    (simp only [thenW, blockW, newMQ, resW, resV, asOne_two, newMK, List.getD_cons_zero, List.getD_cons_succ]); simp
  by_cases h2 : 65536 < n
  · rw [hgF fun h => by have := h.hi; omega]
    (refine newMB_of_W Tryz.func62 rfl (rs := [Go.ResultVar.tmp 2, Go.ResultVar.tmp 3]) rfl (nt := 92) rfl ?_; simp only [List.length_cons, List.length_nil, List.replicate, List.cons_append, List.nil_append])
    (refine aTf ?_)
    ((refine W_seq (W_seqV ?_)); intro K hK; (refine sTfX (And.intro h1 h2) ?_))
    (refine hK _ ?_; clear hK K)
    (refine W_cond rfl (fun _ => ?_) (fun h => by cases h))
    (refine aTf ?_)
    refine W_ret ?_
    (simp only [thenW, blockW, newMQ, resW, resV, asOne_two, newMK, List.getD_cons_zero, List.getD_cons_succ]); simp
  (refine newMB_of_W Tryz.func62 rfl (rs := [Go.ResultVar.tmp 2, Go.ResultVar.tmp 3]) rfl (nt := 92) rfl ?_; simp only [List.length_cons, List.length_nil, List.replicate, List.cons_append, List.nil_append])
  (refine aTf ?_)
  ((refine W_seq (W_seqV ?_)); intro K hK; (refine sTfX (And.intro h1 h2) ?_))
  (refine hK _ ?_; clear hK K)
  (refine W_cond rfl (fun h => by cases h) (fun _ => ?_))
  refine W_skip ?_
  simp only [thenW]
  ((refine W_seqR ?_); intro K hK; (refine sTf ?_))
  (refine hK _ ?_; clear hK K)
  ((refine W_seq (W_seqV ?_)); intro K hK; (refine sTf ?_))
  (refine hK _ ?_; clear hK K)
  refine W_block (W_loop (fun s : {i : Nat // i ≤ t.length ∧ KOk n (keys (M.take i))} =>
      ⟨(.any :: (.ptr 1 0 0) :: .nilmp :: (.bool false) :: (.mp 23) :: .any :: .any :: .any :: .any :: .any :: .any :: .any :: .any :: .any :: .any :: .any :: .any :: .any :: .any :: .any :: .any :: .any :: .any :: .any :: .any :: (.sl (tab rowT t)) :: (.int .i64 t.length) :: (.int .i64 s.1) :: .any :: .any :: .any :: .any :: .any :: .any :: .any :: .any :: .any :: .any :: .any :: .any :: .any :: .any :: .any :: .any :: .any :: .any :: .any :: .any :: .any :: .any :: .any :: .any :: .any :: .any :: .any :: .any :: .any :: .any :: .any :: .any :: .any :: .any :: .any :: .any :: .any :: .any :: .any :: .any :: .any :: .any :: .any :: .any :: .any :: .any :: .any :: .any :: .any :: .any :: .any :: .any :: .any :: .any :: .any :: .any :: .any :: .any :: .any :: .any :: .any :: .any :: .any :: .any :: []),
       (.dead :: (.arr 24 2 false [[.int .i64 n, .sl (tab rowT t)]]) :: .dead :: .dead :: .dead :: .dead :: .dead :: .dead :: .dead :: .dead :: .dead :: .dead :: .dead :: .dead :: .dead :: .dead :: .dead :: .dead :: .dead :: .dead :: .dead :: .dead :: .dead :: (.map s.1 (List.range s.1) (tab rowU (M.take s.1))) :: .dead :: .dead :: .dead :: .dead :: .dead :: .dead :: .dead :: .dead :: .dead :: .dead :: .dead :: .dead :: .dead :: .dead :: .dead :: .dead :: .dead :: .dead :: .dead :: .dead :: .dead :: .dead :: .dead :: .dead :: .dead :: .dead :: .dead :: .dead :: .dead :: .dead :: .dead :: .dead :: .dead :: .dead :: .dead :: .dead :: .dead :: .dead :: .dead :: .dead :: .dead :: .dead :: .dead :: .dead :: .dead :: .dead :: .dead :: .dead :: .dead :: .dead :: .dead :: .dead :: .dead :: .dead :: .dead :: .dead :: .dead :: .dead :: .dead :: .dead :: .dead :: .dead :: .dead :: .dead :: .dead :: .dead :: .dead :: .dead :: [])⟩) (fun s => t.length - s.1)
      ⟨0, by omega, KOk.nil n⟩ (Le_drop (by simp [leE]) (by simp [leH, tab]) rfl rfl) fun s => ?_)
  obtain ⟨i, hi, hk⟩ := s
  dsimp only
  by_cases hil : i < t.length
  · have hti : (tab rowT t).getD i [] = rowT (t.getD i default) := tab_getD hil
    have hni := hno i hil
    have hsi := hst i hil
    have hMi := hnd i hil
    have hpre := fun h : GT n M => h.pre (show i < M.length by omega)
    rw [hMi] at hpre
    generalize t.getD i default = r at *
    obtain ⟨b, f⟩ := r
    simp only [rowT] at hti
    dsimp only at *
    have htl : (M.take i).length = i := by rw [List.length_take]; omega
    generalize M.take i = P at *
    refine W_seq ?_
    ((refine W_regV ?_); intro K hK; (refine sTfX hil ?_))
    (refine hK _ ?_; clear hK K)
    (refine W_seq (W_cond rfl (fun _ => ?_) (fun h => by cases h)))
    refine W_skip ?_
    simp only [thenW]
    refine W_seq ?_
    refine W_block ?_
    ((refine W_seqV ?_); intro K hK; (refine sTfX (And.intro hti hil) ?_))
    (refine hK _ ?_; clear hK K)
    refine W_seq ?_
    refine W_seq ?_
    cases hid : idxM P b with
    | some j =>
      obtain ⟨hj1, hj2, _, hj3⟩ := idx_some hid
      have hXj : (tab rowU P).getD j [] = rowU (P.getD j default) := rowU_getD hj1
      rw [hgF fun h => (hpre h).1 hj3]
      generalize P.getD j default = q at *
      simp only [rowU] at hXj
      ((refine W_regV ?_); intro K hK; (refine sTfX (And.intro hid hXj) ?_))
      (refine hK _ ?_; clear hK K)
      ((refine W_seqV ?_); intro K hK; (refine sTf ?_))
      (refine hK _ ?_; clear hK K)
      (refine W_cond rfl (fun _ => ?_) (fun h => by cases h))
      (refine aTf ?_)
      refine W_ret ?_
      (simp only [thenW, blockW, newMQ, resW, resV, asOne_two, newMK, List.getD_cons_zero, List.getD_cons_succ]); simp
    | none =>
      have hni2 := (idx_none hid).1
      ((refine W_regV ?_); intro K hK; (refine sTfX hid ?_))
      (refine hK _ ?_; clear hK K)
      by_cases h3 : b < 0
      · rw [hgF fun h => by have := (hpre h).2.1; omega]
        ((refine W_seqV ?_); intro K hK; (refine sTfX h3 ?_))
        (refine hK _ ?_; clear hK K)
        (refine W_cond rfl (fun _ => ?_) (fun h => by cases h))
        (refine aTf ?_)
        refine W_ret ?_
        (simp only [thenW, blockW, newMQ, resW, resV, asOne_two, newMK, List.getD_cons_zero, List.getD_cons_succ]); simp
      · by_cases h4 : n ≤ b
        · rw [hgF fun h => by have := (hpre h).2.2; omega]
          ((refine W_seqV ?_); intro K hK; (refine sTfX (And.intro h3 h4) ?_))
          (refine hK _ ?_; clear hK K)
          (refine W_cond rfl (fun _ => ?_) (fun h => by cases h))
          (refine aTf ?_)
          refine W_ret ?_
          (simp only [thenW, blockW, newMQ, resW, resV, asOne_two, newMK, List.getD_cons_zero, List.getD_cons_succ]); simp
        · have hk' : KOk n (keys (P ++ [(b, normF (vals f))])) := by
            rw [keys_append]
            exact hk.snoc hni2 ⟨by show 0 ≤ b; omega, by show b < n; omega⟩
          simp only [cF, cL] at hni
          ((refine W_seqV ?_); intro K hK; (refine sTfX (And.intro h3 h4) ?_))
          (refine hK _ ?_; clear hK K)
          (refine W_cond rfl (fun h => by cases h) (fun _ => ?_))
          refine W_skip ?_
          simp only [thenW]
          ((refine W_regS mixed 6 [] (by kernel_rfl) ?_); intro K hK; (refine sTfX hid ?_))
          (refine ⟨by kernel_rfl, _, .pure rfl (hni), ?_⟩; (try (refine sTf ?_)))
          (refine hK _ ?_; clear hK K)
          simp only [blockW, thenW]
          ((refine W_regV ?_); intro K hK; (refine sTf ?_))
          (refine hK _ ?_; clear hK K)
          simp only [blockW, thenW]
          refine ⟨⟨i + 1, by omega, by rw [hsi]; exact hk'⟩, Le_drop (by simp [leE]) (by simp [leH, hsi, ← tab_snoc, rowU, range_snoc]) rfl rfl, ?_⟩
          dsimp only
          omega
  · obtain rfl : i = t.length := by omega
    rw [hall] at hk ⊢
    refine W_seq ?_
    ((refine W_regV ?_); intro K hK; (refine sTf ?_))
    (refine hK _ ?_; clear hK K)
    (refine W_seq (W_cond rfl (fun h => by cases h) (fun _ => ?_)))
    refine W_exit ?_
    simp only [thenW, blockW, if_true]
    ((refine W_seq (W_seqR ?_)); intro K hK; (refine sTf ?_))
    (refine hK _ ?_; clear hK K)
    have hrl : (List.range t.length).length = t.length := List.length_range
    refine W_block (W_loop (fun s : {sn : List Nat // Seen (List.range t.length) sn ∧ ∀ x ∈ sn, ∀ p ∈ (M.getD x default).2, (0 ≤ p.1 ∧ p.1 < n) ∧ p.1 ∉ keys M} =>
      ⟨(.any :: (.ptr 1 0 0) :: .nilmp :: (.bool false) :: (.mp 23) :: .any :: .any :: .any :: .any :: .any :: .any :: .any :: .any :: .any :: .any :: .any :: .any :: .any :: .any :: .any :: .any :: .any :: .any :: .any :: .any :: .any :: .any :: .any :: .any :: .any :: .any :: .any :: .any :: .any :: .any :: .any :: .any :: .any :: .any :: .any :: .any :: .any :: .any :: .any :: .any :: .any :: .any :: .any :: .any :: .any :: .any :: .any :: .any :: .any :: .any :: .any :: .any :: .any :: .any :: (.it 59) :: .any :: .any :: .any :: .any :: .any :: .any :: .any :: .any :: .any :: .any :: .any :: .any :: .any :: .any :: .any :: .any :: .any :: .any :: .any :: .any :: .any :: .any :: .any :: .any :: .any :: .any :: .any :: .any :: .any :: .any :: .any :: .any :: []),
       (.dead :: (.arr 24 2 false [[.int .i64 n, .sl (tab rowT t)]]) :: .dead :: .dead :: .dead :: .dead :: .dead :: .dead :: .dead :: .dead :: .dead :: .dead :: .dead :: .dead :: .dead :: .dead :: .dead :: .dead :: .dead :: .dead :: .dead :: .dead :: .dead :: (.map t.length (List.range t.length) (tab rowU M)) :: .dead :: .dead :: .dead :: .dead :: .dead :: .dead :: .dead :: .dead :: .dead :: .dead :: .dead :: .dead :: .dead :: .dead :: .dead :: .dead :: .dead :: .dead :: .dead :: .dead :: .dead :: .dead :: .dead :: .dead :: .dead :: .dead :: .dead :: .dead :: .dead :: .dead :: .dead :: .dead :: .dead :: .dead :: .dead :: (.iter (.mp 23) t.length s.1 t.length) :: .dead :: .dead :: .dead :: .dead :: .dead :: .dead :: .dead :: .dead :: .dead :: .dead :: .dead :: .dead :: .dead :: .dead :: .dead :: .dead :: .dead :: .dead :: .dead :: .dead :: .dead :: .dead :: .dead :: .dead :: .dead :: .dead :: .dead :: .dead :: .dead :: .dead :: .dead :: .dead :: [])⟩) (fun s => (List.range t.length).length - s.1.length)
      ⟨[], Seen.nil _, by simp⟩ (Le_drop (by simp [leE]) (by simp [leH]) rfl rfl) fun s => ?_)
    obtain ⟨sn, hsn, hgd⟩ := s
    dsimp only
    ((refine W_seqR ?_); intro K hK; (refine sTf ?_))
    refine ⟨Nat.le_refl _, fun x hx => List.mem_range.1 hx, fun hall => hK _ ?_, fun j x hj hx => hK _ ?_⟩ <;> clear hK K
    · have hG : GT n M := ⟨by omega, by omega, hk.nodup, hk.range, fun r hr p hp => by
        obtain ⟨x, hx, rfl⟩ := mem_getD hr
        exact hgd x (hall x (List.mem_range.2 (by omega))) p hp⟩
      rw [hgT hG]
      (refine W_seq (W_cond rfl (fun h => by cases h) (fun _ => ?_)))
      refine W_exit ?_
      simp only [thenW, blockW, if_true]
      (refine aTf ?_)
      refine W_ret ?_
      (simp only [thenW, blockW, newMQ, resW, resV, asOne_two, newMK, List.getD_cons_zero, List.getD_cons_succ])
      exact ⟨_, _, _, rfl, rfl⟩
    · obtain ⟨hjl, rfl⟩ := range_get hj
      have hXj : (tab rowU M).getD x [] = rowU (M.getD x default) := tab_getD (by omega)
      have hs2 := hsn.snoc hj hx
      have hmu := hsn.lt hj hx
      have hqm : M.getD x default ∈ M := getD_mem (by omega)
      have hql := hfl _ hqm
      have hqg : ∀ p ∈ (M.getD x default).2, ¬ ((0 ≤ p.1 ∧ p.1 < n) ∧ p.1 ∉ keys M) → ¬ GT n M := fun p hp h h' => h (h'.free _ hqm p hp)
      have hg2 : (∀ p ∈ (M.getD x default).2, (0 ≤ p.1 ∧ p.1 < n) ∧ p.1 ∉ keys M) → ∀ y ∈ sn ++ [x], ∀ p ∈ (M.getD y default).2, (0 ≤ p.1 ∧ p.1 < n) ∧ p.1 ∉ keys M := fun h y hy => by
        rcases List.mem_append.1 hy with hy | hy
        · exact hgd y hy
        · simp at hy; subst hy; exact h
      generalize M.getD x default = q at *
      obtain ⟨b, f⟩ := q
      simp only [rowU] at hXj
      dsimp only at *
      rw [hXj]
      (refine W_seq (W_cond rfl (fun _ => ?_) (fun h => by cases h)))
      refine W_skip ?_
      simp only [thenW]
      refine W_block ?_
      ((refine W_seqR ?_); intro K hK; (refine sTf ?_))
      refine ⟨x, x, by simp, hj, ?_⟩
      (refine sTfX hXj ?_; try exact True.intro)
      (refine hK _ ?_; clear hK K)
      ((refine W_seqV ?_); intro K hK; (refine sTf ?_))
      (refine hK _ ?_; clear hK K)
      refine W_block (W_loop (fun s : {k : Nat // k ≤ f.length ∧ ∀ i, i < k → (0 ≤ (f.getD i default).1 ∧ (f.getD i default).1 < n) ∧ (f.getD i default).1 ∉ keys M} =>
        ⟨(.any :: (.ptr 1 0 0) :: .nilmp :: (.bool false) :: (.mp 23) :: .any :: .any :: .any :: .any :: .any :: .any :: .any :: .any :: .any :: .any :: .any :: .any :: .any :: .any :: .any :: .any :: .any :: .any :: .any :: .any :: .any :: .any :: .any :: .any :: .any :: .any :: .any :: .any :: .any :: .any :: .any :: .any :: .any :: .any :: .any :: .any :: .any :: .any :: .any :: .any :: .any :: .any :: .any :: .any :: .any :: .any :: .any :: .any :: .any :: .any :: .any :: .any :: .any :: .any :: (.it 59) :: .any :: .any :: .any :: .any :: (.sl (tab rowQ f)) :: (.int .i64 f.length) :: (.int .i64 s.1) :: .any :: .any :: .any :: .any :: .any :: .any :: .any :: .any :: .any :: .any :: .any :: .any :: .any :: .any :: .any :: .any :: .any :: .any :: .any :: .any :: .any :: .any :: .any :: .any :: .any :: []),
         (.dead :: (.arr 24 2 false [[.int .i64 n, .sl (tab rowT t)]]) :: .dead :: .dead :: .dead :: .dead :: .dead :: .dead :: .dead :: .dead :: .dead :: .dead :: .dead :: .dead :: .dead :: .dead :: .dead :: .dead :: .dead :: .dead :: .dead :: .dead :: .dead :: (.map t.length (List.range t.length) (tab rowU M)) :: .dead :: .dead :: .dead :: .dead :: .dead :: .dead :: .dead :: .dead :: .dead :: .dead :: .dead :: .dead :: .dead :: .dead :: .dead :: .dead :: .dead :: .dead :: .dead :: .dead :: .dead :: .dead :: .dead :: .dead :: .dead :: .dead :: .dead :: .dead :: .dead :: .dead :: .dead :: .dead :: .dead :: .dead :: .dead :: (.iter (.mp 23) t.length (sn ++ [x]) t.length) :: .dead :: .dead :: .dead :: .dead :: .dead :: .dead :: .dead :: .dead :: .dead :: .dead :: .dead :: .dead :: .dead :: .dead :: .dead :: .dead :: .dead :: .dead :: .dead :: .dead :: .dead :: .dead :: .dead :: .dead :: .dead :: .dead :: .dead :: .dead :: .dead :: .dead :: .dead :: .dead :: [])⟩) (fun s => f.length - s.1)
        ⟨0, by omega, by omega⟩ (Le_drop (by simp [leE]) (by simp [leH]) rfl rfl) fun s => ?_)
      obtain ⟨k, hkl, hpre⟩ := s
      dsimp only
      by_cases hlt : k < f.length
      · have hfk : (tab rowQ f).getD k [] = rowQ (f.getD k default) := tab_getD hlt
        have hpm : f.getD k default ∈ f := getD_mem hlt
        have hbad := hqg _ hpm
        have hpr : (0 ≤ (f.getD k default).1 ∧ (f.getD k default).1 < n) ∧ (f.getD k default).1 ∉ keys M → ∀ i, i < k + 1 → (0 ≤ (f.getD i default).1 ∧ (f.getD i default).1 < n) ∧ (f.getD i default).1 ∉ keys M := fun h i hi => by
          by_cases hik : i = k
          · subst hik; exact h
          · exact hpre i (by omega)
        generalize f.getD k default = p at *
        obtain ⟨v, y⟩ := p
        simp only [rowQ] at hfk
        dsimp only at *
        refine W_seq ?_
        ((refine W_regV ?_); intro K hK; (refine sTfX hlt ?_))
        (refine hK _ ?_; clear hK K)
        (refine W_seq (W_cond rfl (fun _ => ?_) (fun h => by cases h)))
        refine W_skip ?_
        simp only [thenW]
        refine W_seq ?_
        refine W_block ?_
        ((refine W_seqV ?_); intro K hK; (refine sTfX (And.intro hfk hlt) ?_))
        (refine hK _ ?_; clear hK K)
        cases hid : idxM M v with
        | some j =>
          obtain ⟨hj1, hj2, _, hj3⟩ := idx_some hid
          have hXv : (tab rowU M).getD j [] = rowU (M.getD j default) := rowU_getD hj1
          rw [hgF (hbad fun h => h.2 hj3)]
          generalize M.getD j default = q at *
          simp only [rowU] at hXv
          ((refine W_seqV ?_); intro K hK; (refine sTfX (And.intro hid hXv) ?_))
          (refine hK _ ?_; clear hK K)
          ((refine W_seqV ?_); intro K hK; (refine sTf ?_))
          (refine hK _ ?_; clear hK K)
          (refine W_cond rfl (fun _ => ?_) (fun h => by cases h))
          (refine aTf ?_)
          refine W_ret ?_
          (simp only [thenW, blockW, newMQ, resW, resV, asOne_two, newMK, List.getD_cons_zero, List.getD_cons_succ]); simp
        | none =>
          have hni2 := (idx_none hid).1
          ((refine W_seqV ?_); intro K hK; (refine sTfX hid ?_))
          (refine hK _ ?_; clear hK K)
          by_cases h3 : v < 0
          · rw [hgF (hbad fun h => by omega)]
            ((refine W_seqV ?_); intro K hK; (refine sTfX h3 ?_))
            (refine hK _ ?_; clear hK K)
            (refine W_cond rfl (fun _ => ?_) (fun h => by cases h))
            (refine aTf ?_)
            refine W_ret ?_
            (simp only [thenW, blockW, newMQ, resW, resV, asOne_two, newMK, List.getD_cons_zero, List.getD_cons_succ]); simp
          · by_cases h4 : n ≤ v
            · rw [hgF (hbad fun h => by omega)]
              ((refine W_seqV ?_); intro K hK; (refine sTfX (And.intro h3 h4) ?_))
              (refine hK _ ?_; clear hK K)
              (refine W_cond rfl (fun _ => ?_) (fun h => by cases h))
              (refine aTf ?_)
              refine W_ret ?_
              (simp only [thenW, blockW, newMQ, resW, resV, asOne_two, newMK, List.getD_cons_zero, List.getD_cons_succ]); simp
            · ((refine W_seqV ?_); intro K hK; (refine sTfX (And.intro h3 h4) ?_))
              (refine hK _ ?_; clear hK K)
              (refine W_cond rfl (fun h => by cases h) (fun _ => ?_))
              refine W_skip ?_
              simp only [thenW, blockW]
              ((refine W_regV ?_); intro K hK; (refine sTf ?_))
              (refine hK _ ?_; clear hK K)
              simp only [blockW, thenW]
              refine ⟨⟨k + 1, by omega, hpr ⟨⟨by omega, by omega⟩, hni2⟩⟩, Le_drop (by simp [leE]) (by simp [leH]) rfl rfl, ?_⟩
              dsimp only
              omega
      · obtain rfl : k = f.length := by omega
        refine W_seq ?_
        ((refine W_regV ?_); intro K hK; (refine sTf ?_))
        (refine hK _ ?_; clear hK K)
        (refine W_seq (W_cond rfl (fun h => by cases h) (fun _ => ?_)))
        refine W_exit ?_
        simp only [thenW, blockW, if_true]
        refine ⟨⟨sn ++ [x], hs2, hg2 fun p hp => ?_⟩, Le_drop (by simp [leE]) (by simp [leH]) rfl rfl, ?_⟩
        · obtain ⟨i, hi, rfl⟩ := mem_getD hp
          exact hpre i hi
        · exact hmu
end Go.Proofs.YtjmpajgjaefcjaaGreat.Vm

namespace Go.Proofs.YtjmpajgjaefcjaaGreat.Vm
open Go Go.RowKit
def loadV (n:Int) (t:TR):AV:=if goodB n (nrmT t) then .tup [.md t.length (List.range t.length) (tab rowU (nrmT t)),.bool true] else .tup [.nilmp,.bool false]
theorem tload_ok (n:Int) (t:TR) {B:Nat} (hf:∀ r∈t,FOk r.2 B) (hB:B<17179869184) (hl:t.length<1099511627776) :
  Pure Tryz.prog 62 [cT n t] (·=loadV n t):=by
 refine (tload_new n t hf hB hl).pure.mono fun r hr=>?_
 unfold loadR at hr
 unfold loadV
 generalize goodB n (nrmT t)=gb at *
 cases gb
 ·simp only [Bool.false_eq_true,if_false] at hr ⊢
  rcases hr with ⟨_,rfl⟩ | ⟨c,bs,rows,h1,rfl⟩
  ·rfl
  ·cases h1
 ·simp only [if_true] at hr ⊢
  rcases hr with ⟨h1,_⟩ | ⟨c,bs,rows,h1,rfl⟩
  ·cases h1
  ·cases h1;rfl
def tb:TM→Nat
 | []=>0
 | r::M=>nbs r.2+1+tb M
theorem tb_len:∀ M:TM,M.length≤tb M
 | []=>Nat.le_refl _
 | r::M=>by have:=tb_len M;simp only [List.length_cons,tb];omega
theorem tb_mem {M:TM} {r:Int × List (Int × Rat)} (h:r∈M):nbs r.2+1≤tb M:=by
 induction M with
 | nil=>cases h
 | cons q M ih =>
  simp only [tb]
  rcases List.mem_cons.1 h with rfl | h
  ·omega
  ·have:=ih h;omega
theorem tb_perm {M N:TM} (h:M.Perm N):tb M=tb N:=by
 induction h with
 | nil=>rfl
 | cons r _ ih=>simp only [tb,ih]
 | swap r q l=>simp only [tb];omega
 | trans _ _ ih1 ih2=>exact ih1.trans ih2
def sumN' (g:Int→Nat):TM→Nat
 | []=>0
 | r::M=>g r.1+sumN' g M
theorem sumN'_le {g h:Int→Nat}:∀ M:TM,(∀ b,g b≤h b)→sumN' g M≤sumN' h M
 | [],_=>Nat.le_refl _
 | r::M,hg=>by have:=sumN'_le M hg;have:=hg r.1;simp only [sumN'];omega
theorem sumN'_add (g h:Int→Nat):∀ M:TM,sumN' (fun b=>g b+h b) M=sumN' g M+sumN' h M
 | []=>rfl
 | r::M=>by simp only [sumN',sumN'_add g h M];omega
theorem sumN'_zero {g:Int→Nat}:∀ M:TM,(∀ b∈keys M,g b=0)→sumN' g M=0
 | [],_=>rfl
 | r::M,h=>by
  simp only [sumN',sumN'_zero M fun b hb=>h b (by simp only [keys,List.map_cons,List.mem_cons];exact .inr hb),h r.1 (by simp [keys])]
theorem sumN'_one {k:Nat} {a:Int}:∀ M:TM,(keys M).Nodup→sumN' (fun b=>if a=b then k else 0) M≤k
 | [],_=>Nat.zero_le _
 | r::M,hn=>by
  simp only [keys,List.map_cons,List.nodup_cons] at hn
  simp only [sumN']
  by_cases h:a=r.1
  ·rw [if_pos h,sumN'_zero M fun b hb=>by
    rw [if_neg]
    rintro rfl
    exact hn.1 (h ▸ hb)]
   omega
  ·rw [if_neg h]
   have:=sumN'_one (k:=k) (a:=a) M hn.2
   omega
theorem sumN'_nbv {M:TM} (hn:(keys M).Nodup):∀ f:List (Int × Rat),sumN' (fun b=>nbv f b) M≤nbs f
 | []=>by
  have:sumN' (fun b=>nbv [] b) M=0:=sumN'_zero M fun _ _=>rfl
  omega
 | p::f=>by
  have h1:=sumN'_nbv hn f
  have h2:=sumN'_one (k:=nb p.2) (a:=p.1) M hn
  have h3:sumN' (fun b=>nbv (p::f) b) M=sumN' (fun b=>if p.1=b then nb p.2 else 0) M+sumN' (fun b=>nbv f b) M:=by
   rw [← sumN'_add]
   rfl
  rw [h3,nbs]
  omega
theorem sumN'_const (k:Nat):∀ M:TM,sumN' (fun _=>k) M=k*M.length
 | []=>by simp [sumN']
 | r::M=>by simp only [sumN',sumN'_const k M,List.length_cons,Nat.mul_succ];omega
theorem nb_sumM (c:Int→Rat) (x:Int):∀ M:TM,nb (sumM c x M)≤1+sumN' (fun b=>nb (c b)) M+tb M
 | []=>by simp only [sumM,nb_zero];omega
 | r::M=>by
  have h1:=nb_sumM c x M
  have h2:=nb_add (c r.1*coef r.2 x) (sumM c x M)
  have h3:=nb_mul (c r.1) (coef r.2 x)
  have h4:=nb_coef r.2 x
  have h5:=nbv_le_nbs r.2 x
  simp only [sumM,sumN',tb]
  omega
theorem nb_expr {M:TM} (hn:(keys M).Nodup) (f:List (Int × Rat)) {c:Int→Rat} (hc:∀ b,c b=coef f b∨c b=0) {y:Rat} {x:Int} (hy:y=coef f x∨y=0):nb (y+sumM c x M)≤2*nbs f+2*tb M+2:=by
 have h1:=nb_add y (sumM c x M)
 have h2:=nb_sumM c x M
 have h3:nb y≤1+nbs f:=by
  rcases hy with rfl | rfl
  ·have:=nb_coef f x
   have:=nbv_le_nbs f x
   omega
  ·rw [nb_zero];omega
 have h4:sumN' (fun b=>nb (c b)) M≤sumN' (fun b=>1+nbv f b) M:=sumN'_le M fun b=>by
  rcases hc b with h | h
  ·rw [h];exact nb_coef f b
  ·rw [h,nb_zero];omega
 rw [sumN'_add (fun _=>1) (fun b=>nbv f b),sumN'_const] at h4
 have h5:=sumN'_nbv hn f
 have h6:=tb_len M
 omega
def exprT (M:TM) (f:List (Int × Rat)):List (Int × Rat):=exprP M f (keys (normF f)) (normF f)
structure ExOk (M:TM) (f:List (Int × RR)):Prop where
 fok:FOk f 536870912
 ro:∀ r∈M,Sz r.2 536870912
 co:∀ (i:Nat) (x:Int) (y:Rat) (c:Int→Rat),(∀ b,c b=coef (vals f) b∨c b=0)→(y=coef (vals f) x∨y=0)→nb (y+sumM c x (M.take i))≤536870912
theorem tb_take:∀ (l:TM) (k:Nat),tb (l.take k)≤tb l:=by
 intro l
 induction l with
 | nil=>intro k;simp [tb]
 | cons r l ih=>intro k;cases k with
  | zero=>simp [tb]
  | succ k=>have:=ih k;simp only [List.take_succ_cons,tb];omega
theorem keys_take {M:TM} (hn:(keys M).Nodup) (i:Nat):(keys (M.take i)).Nodup:=by
 have h2:keys M=keys (M.take i)++keys (M.drop i):=by rw [← keys_append,List.take_append_drop]
 rw [h2,List.nodup_append] at hn
 exact hn.1
theorem ExOk.of {M:TM} (hn:(keys M).Nodup) {f:List (Int × RR)} (hf:FOk f (nbs (vals f))) (h1:nbs (vals f)≤68157440) (h2:tb M≤68157440):ExOk M f :=
 ⟨⟨hf.1,hf.sz.mono (by omega)⟩,fun r hr=>(Sz.of _).mono (by have:=tb_mem hr;omega),fun i x y c hc hy=>by
  have:=nb_expr (keys_take hn i) (vals f) hc hy
  have:=tb_take M i
  omega⟩
theorem sTh {G G':Prop} (h:G') (e:G=G':=by conv=>lhs;simp (disch:=omega) only [rowsOf,cNat,cN,St.ret,St.seth,Eff.app,Eff.wi,sepL,guardOf,St.known,objOf,List.set,sliceW,litW,copyW,lenOf,bnd,mxOk,ofCells,TI.isAgg,cellsOf,storable,AV.one,dead,laid,overlay,reduceCtorEq,Int.reduceLE,Int.reduceLT,Int.reduceSub,Int.reduceAdd,Nat.reduceMul,Int.reduceToNat,Nat.reducePow,Int.reduceNeg,Nat.reduceAdd,Nat.reduceLT,Nat.reduceLeDiff,sA,sB,Nat.reduceEqDiff,cQ,rowQ,rowU,rowT,rowM,i64s_getD,i64s_length,i64s_all,i64s_take,i64s_drop,i64s_set,i64s_one,i64s_pure,i64s_append,tab_length,tab_drop,tab_take,tab_append,tab_nil,rowT_all,rowT_one,rowT_pure,rowU_all,rowU_one,rowU_pure,rowQ_all,rowQ_one,rowQ_pure,List.take_length,List.length_append,findA_tab,range_snoc,pure_sl,sT]):G:=e.mpr h
theorem sThV {G G':Prop} (h:G') (e:G=G':=by conv=>lhs;simp (disch:=omega) only [rowsOf,cNat,cN,St.ret,St.seth,Eff.app,Eff.wi,sepL,guardOf,St.known,objOf,List.set,sliceW,litW,copyW,lenOf,bnd,mxOk,ofCells,TI.isAgg,cellsOf,storable,AV.one,dead,laid,overlay,reduceCtorEq,Int.reduceLE,Int.reduceLT,Int.reduceSub,Int.reduceAdd,Nat.reduceMul,Int.reduceToNat,Nat.reducePow,Int.reduceNeg,Nat.reduceAdd,Nat.reduceLT,Nat.reduceLeDiff,sA,sB,Nat.reduceEqDiff,cQ,rowQ,rowU,rowT,rowM,i64s_getD,i64s_length,i64s_all,i64s_take,i64s_drop,i64s_set,i64s_one,i64s_pure,i64s_append,tab_length,tab_drop,tab_take,tab_append,tab_nil,rowT_all,rowT_one,rowT_pure,rowU_all,rowU_one,rowU_pure,rowQ_all,rowQ_one,rowQ_pure,List.take_length,List.length_append,findA_tab,range_snoc,pure_sl,sT,view_sref,viewRef,view_agg,views_cons,views_nil,view_bool,view_int,view_sl,view_nils,view_str,view_tup,view_nilif]):G:=e.mpr h
theorem aTh {G G':Prop} (h:G') (f:Wr G'→G:=by intro h;(repeat (first|(refine W_seqV fun K hK=>?_;(try (refine sTh ?_;try exact True.intro));(repeat refine aI ?_);refine hK _ ?_;clear hK K)|(refine W_seqR fun K hK=>?_;(try (refine sTh ?_;try exact True.intro));(repeat refine aI ?_);refine hK _ ?_;clear hK K)|(refine W_seqD mixed [] (by kernel_rfl) fun K hK=>?_;(try (refine sTh ?_;try exact True.intro));(repeat refine aI ?_);refine hK _ ?_;clear hK K)));exact h.out):G:=f ⟨h⟩
structure TOk (t:TR):Prop where
 ok:∀ r∈t,∀ p∈r.2,p.2.ok
 sz:tb (t.map fun r=>(r.1,vals r.2))≤68157440
theorem tb_nrm:∀ t:TR,tb (nrmT t)≤tb (t.map fun r=>(r.1,vals r.2))
 | []=>Nat.le_refl _
 | r::t=>by
  have:=tb_nrm t
  have:=nbs_norm (vals r.2)
  unfold nrmT at *
  simp only [List.map_cons,tb]
  omega
theorem TOk.tb {t:TR} (h:TOk t):Vm.tb (nrmT t)≤68157440:=Nat.le_trans (tb_nrm t) h.sz
theorem TOk.len {t:TR} (h:TOk t):t.length≤68157440:=by
 have:=tb_len (t.map fun r=>(r.1,vals r.2))
 have:=h.sz
 simp at *
 omega
theorem TOk.nbs {t:TR} (h:TOk t) {r:Int × List (Int × RR)} (hr:r∈t):Vm.nbs (vals r.2)≤68157440:=by
 have h1:=tb_mem (M:=t.map fun r=>(r.1,vals r.2)) (r:=(r.1,vals r.2)) (List.mem_map.2 ⟨r,hr,rfl⟩)
 have:=h.sz
 simp only at h1
 omega
theorem TOk.form {t:TR} (h:TOk t) {r:Int × List (Int × RR)} (hr:r∈t):FOk r.2 68157440:=⟨h.ok r hr,(Sz.of _).mono (h.nbs hr)⟩
theorem TOk.mok {t:TR} (h:TOk t):MOk (nrmT t) 68157440:=by
 refine ⟨fun r hr=>?_,fun r hr=>?_,by rw [nrmT_len];have:=h.len;omega⟩
 ·obtain ⟨q,_,rfl⟩:=List.mem_map.1 hr
  exact NF.norm _
 ·have:=tb_mem hr
  have:=h.tb
  exact (Sz.of _).mono (by omega)
structure TG (t:TR):Prop where
 ok:∀ r∈t,∀ p∈r.2,p.2.ok
 sz:∀ r∈t,Sz (vals r.2) 536870912
 len:t.length≤68157440
theorem TOk.g {t:TR} (h:TOk t):TG t:=⟨h.ok,fun r hr=>(h.form hr).sz.mono (by omega),h.len⟩
instance instCoeTG {t:TR}:Coe (TOk t) (TG t):=⟨TOk.g⟩
theorem TG.form {t:TR} (h:TG t) {r:Int × List (Int × RR)} (hr:r∈t):FOk r.2 536870912:=⟨h.ok r hr,h.sz r hr⟩
theorem TG.mok {t:TR} (h:TG t):MOk (nrmT t) 536870912:=by
 refine ⟨fun r hr=>?_,fun r hr=>?_,by rw [nrmT_len];have:=h.len;omega⟩
 ·obtain ⟨q,_,rfl⟩:=List.mem_map.1 hr
  exact NF.norm _
 ·obtain ⟨q,hq,rfl⟩:=List.mem_map.1 hr
  exact (h.sz q hq).norm
theorem TG.load {t:TR} (h:TG t) (n:Int):Pure Tryz.prog 62 [cT n t] (·=loadV n t) :=
 tload_ok n t (fun r hr=>h.form hr) (by omega) (by have:=h.len;omega)
theorem range_births {m:Nat}:(List.range m).length=m∧(List.range m).Nodup∧∀ x∈List.range m,x<m:=⟨List.length_range,List.nodup_range,fun x hx=>List.mem_range.1 hx⟩
theorem TG.told {t:TR} (h:TG t) (n:Int):Pure Tryz.prog 63 [.md t.length (List.range t.length) (tab rowU (nrmT t)),.int .i64 n] (·=cU n (sortM (nrmT t))) :=
 ttold_ok _ n _ _ h.mok (by omega) (by rw [nrmT_len];exact range_births.1) range_births.2.1 range_births.2.2
def normV (n:Int) (t:TR):AV:=if goodB n (nrmT t) then .tup [cU n (sortM (nrmT t)),.int .i64 0] else .tup [cU 0 [],.int .i64 70]
theorem tnorm_ok (n:Int) (t:TR) (hT:TG t):Pure Tryz.prog 32 [cT n t] (·=normV n t):=by
 have a1:=hT.load n
 have a2:=hT.told n
 unfold loadV at a1
 unfold normV
 unfold cT cU at *
 have hz:tab rowU []=[]:=rfl
 rw [hz]
 generalize goodB n (nrmT t)=gb at *
 cases gb
 ·simp only [Bool.false_eq_true,if_false] at a1 ⊢
  (refine pureW Tryz.func32 rfl (rs:=[Go.ResultVar.cell 2 24,Go.ResultVar.tmp 3]) rfl (n:=18) rfl ?_;simp only [List.length_cons,List.length_nil,List.replicate,List.cons_append,List.nil_append])
  (refine aTh ?_)
  ((refine W_seqV ?_);intro K hK;(refine sTh ?_))
  (refine ⟨by kernel_rfl,_,.pure rfl (a1),?_⟩;(try (refine sTh ?_)))
  (refine hK _ ?_;clear hK K)
  (repeat' (first | (exfalso;simp at h;done) | (refine W_seqV fun K hK=>?_;(try (refine sTh ?_));refine hK _ ?_;clear hK K) | (refine W_ret ?_;(refine qG ?_)) | (refine W_cond rfl (fun h=>?_) (fun h=>?_) <;> (try simp only [cond_true,cond_false,ne_eq,cB] at h)) | refine W_seq ?_))
  (try (refine sThV ?_;try exact True.intro))
 ·simp only [if_true] at a1 ⊢
  (refine pureW Tryz.func32 rfl (rs:=[Go.ResultVar.cell 2 24,Go.ResultVar.tmp 3]) rfl (n:=18) rfl ?_;simp only [List.length_cons,List.length_nil,List.replicate,List.cons_append,List.nil_append])
  (refine aTh ?_)
  ((refine W_seqV ?_);intro K hK;(refine sTh ?_))
  (refine ⟨by kernel_rfl,_,.pure rfl (a1),?_⟩;(try (refine sTh ?_)))
  (refine hK _ ?_;clear hK K)
  (repeat' (first | (exfalso;simp at h;done) | (refine W_seqV fun K hK=>?_;(try (refine sTh ?_));refine hK _ ?_;clear hK K) | refine W_skip ?_ | (refine W_cond rfl (fun h=>?_) (fun h=>?_) <;> (try simp only [cond_true,cond_false,ne_eq,cB] at h)) | refine W_seq ?_))
  ((refine W_regV ?_);intro K hK;(refine sTh ?_))
  (refine ⟨by kernel_rfl,_,.pure rfl (a2),?_⟩;(try (refine sTh ?_)))
  (refine hK _ ?_;clear hK K)
  (repeat' (refine W_ret ?_;(refine qG ?_)))
  (try (refine sThV ?_;try exact True.intro))
def growV (n:Int) (t:TR):AV:=if goodB n (nrmT t) then if n=65536 then .tup [cU 0 [],.int .i64 0,.int .i64 2] else .tup [cU (n+1) (sortM (nrmT t)),.int .i64 n,.int .i64 0] else .tup [cU 0 [],.int .i64 0,.int .i64 70]
def rowV (n:Int) (t:TR) (v:Int):AV:=if goodB n (nrmT t) then if v<0∨n≤v then .tup [.sl [],.int .i64 61] else match lookM (nrmT t) v with | some g => .tup [cL g,.int .i64 0] | none => .tup [.sl [],.int .i64 71] else .tup [.sl [],.int .i64 70]
def basV (n:Int) (t:TR):AV:=if goodB n (nrmT t) then .tup [.sl (i64s (sortK (keys (nrmT t)))),.int .i64 0] else .tup [.sl [],.int .i64 70]
theorem sUa {G G':Prop} (h:G') (e:G=G':=by conv=>lhs;simp (disch:=omega) only [rowsOf,cNat,cN,St.ret,St.seth,Eff.app,Eff.wi,sepL,guardOf,St.known,objOf,List.set,sliceW,litW,copyW,lenOf,bnd,mxOk,ofCells,TI.isAgg,cellsOf,storable,AV.one,dead,laid,overlay,reduceCtorEq,Int.reduceLE,Int.reduceLT,Int.reduceSub,Int.reduceAdd,Nat.reduceMul,Int.reduceToNat,Nat.reducePow,Int.reduceNeg,Nat.reduceAdd,Nat.reduceLT,Nat.reduceLeDiff,sA,sB,Nat.reduceEqDiff,cQ,rowQ,rowU,rowT,rowM,i64s_getD,i64s_length,i64s_all,i64s_take,i64s_drop,i64s_set,i64s_one,i64s_pure,i64s_append,tab_length,tab_drop,tab_take,tab_append,tab_nil,rowT_all,rowT_one,rowT_pure,rowU_all,rowU_one,rowU_pure,rowQ_all,rowQ_one,rowQ_pure,rowM_all,rowM_one,rowM_pure,List.take_length,List.length_append,sT]):G:=e.mpr h
theorem sUaX {G G' P:Prop} (p:P) (h:G') (e:P→G=G':=by intro p;conv=>lhs;simp (disch:=omega) only [rowsOf,cNat,cN,St.ret,St.seth,Eff.app,Eff.wi,sepL,guardOf,St.known,objOf,List.set,sliceW,litW,copyW,lenOf,bnd,mxOk,ofCells,TI.isAgg,cellsOf,storable,AV.one,dead,laid,overlay,reduceCtorEq,Int.reduceLE,Int.reduceLT,Int.reduceSub,Int.reduceAdd,Nat.reduceMul,Int.reduceToNat,Nat.reducePow,Int.reduceNeg,Nat.reduceAdd,Nat.reduceLT,Nat.reduceLeDiff,sA,sB,Nat.reduceEqDiff,cQ,rowQ,rowU,rowT,rowM,i64s_getD,i64s_length,i64s_all,i64s_take,i64s_drop,i64s_set,i64s_one,i64s_pure,i64s_append,tab_length,tab_drop,tab_take,tab_append,tab_nil,rowT_all,rowT_one,rowT_pure,rowU_all,rowU_one,rowU_pure,rowQ_all,rowQ_one,rowQ_pure,rowM_all,rowM_one,rowM_pure,List.take_length,List.length_append,sT,p]):G:=(e p).mpr h
theorem sUaV {G G':Prop} (h:G') (e:G=G':=by conv=>lhs;simp (disch:=omega) only [rowsOf,cNat,cN,St.ret,St.seth,Eff.app,Eff.wi,sepL,guardOf,St.known,objOf,List.set,sliceW,litW,copyW,lenOf,bnd,mxOk,ofCells,TI.isAgg,cellsOf,storable,AV.one,dead,laid,overlay,reduceCtorEq,Int.reduceLE,Int.reduceLT,Int.reduceSub,Int.reduceAdd,Nat.reduceMul,Int.reduceToNat,Nat.reducePow,Int.reduceNeg,Nat.reduceAdd,Nat.reduceLT,Nat.reduceLeDiff,sA,sB,Nat.reduceEqDiff,cQ,rowQ,rowU,rowT,rowM,i64s_getD,i64s_length,i64s_all,i64s_take,i64s_drop,i64s_set,i64s_one,i64s_pure,i64s_append,tab_length,tab_drop,tab_take,tab_append,tab_nil,rowT_all,rowT_one,rowT_pure,rowU_all,rowU_one,rowU_pure,rowQ_all,rowQ_one,rowQ_pure,rowM_all,rowM_one,rowM_pure,List.take_length,List.length_append,sT,view_sref,viewRef,view_agg,views_cons,views_nil,view_bool,view_int,view_sl,view_nils,view_str,view_tup,view_nilif]):G:=e.mpr h
theorem aUa {G G':Prop} (h:G') (f:Wr G'→G:=by intro h;(repeat (first|(refine W_seqV fun K hK=>?_;(try (refine sUa ?_;try exact True.intro));(repeat refine aI ?_);refine hK _ ?_;clear hK K)|(refine W_seqR fun K hK=>?_;(try (refine sUa ?_;try exact True.intro));(repeat refine aI ?_);refine hK _ ?_;clear hK K)|(refine W_seqD mixed [] (by kernel_rfl) fun K hK=>?_;(try (refine sUa ?_;try exact True.intro));(repeat refine aI ?_);refine hK _ ?_;clear hK K)));exact h.out):G:=f ⟨h⟩
theorem idx_at {M:TM} {v:Int} {i:Nat} (hi:i<M.length) (h:∀ j,j<i→(M.getD j default).1≠v) (he:(M.getD i default).1=v):idxM M v=some i:=by
 unfold idxM
 rw [List.findIdx?_eq_some_iff_getElem]
 refine ⟨hi,?_,fun j hj=>?_⟩
 ·rw [← he]
  simp [List.getD_eq_getElem?_getD,hi]
 ·have:=h j hj
  simp only [List.getD_eq_getElem?_getD,List.getElem?_eq_getElem (show j<M.length by omega),Option.getD_some] at this
  simpa using this
theorem idx_not {M:TM} {v:Int} (h:∀ j,j<M.length→(M.getD j default).1≠v):idxM M v=none:=by
 cases hi:idxM M v with
 | none=>rfl
 | some j =>
  obtain ⟨h1,h2,_⟩:=idx_some hi
  exact absurd h2 (h j h1)
def rowI (M:TM) (v:Int):Int:=match idxM M v with | some j=>(j:Int) | none => -1
theorem r7row_ok (n:Int) (t:TR) (v:Int) (hl:t.length<1099511627776):Pure Tryz.prog 74 [cT n t,.int .i64 v] (· = .int .i64 (rowI (nrmT t) v)):=by
 have hml:=nrmT_len t
 have hnd:∀ i,i<t.length→((nrmT t).getD i default).1=(t.getD i default).1:=fun i hi=>by rw [nrmT_getD hi]
 unfold cT rowI
 generalize nrmT t=M at *
 (refine pureW Tryz.func74 rfl (rs:=[Go.ResultVar.tmp 4]) rfl (n:=22) rfl ?_;simp only [List.length_cons,List.length_nil,List.replicate,List.cons_append,List.nil_append])
 (refine aUa ?_)
 refine W_seq ?_
 ((refine W_seqV ?_);intro K hK;(refine sUa ?_))
 (refine hK _ ?_;clear hK K)
 refine W_block (W_loop (fun s:{i:Nat // i≤t.length∧∀ j,j<i→(M.getD j default).1≠v} =>
   ⟨[.any,.int .i64 v,.ptr 2 0 0,.any,.any,.int .i64 s.1,.any,.any,.any,.any,.any,.any,.any,.any,.any,.any,.any,.any,.any,.any,.any,.any],[.dead,.dead,.arr 24 2 false [[.int .i64 n,.sl (tab rowT t)]],.dead,.dead,.dead,.dead,.dead,.dead,.dead,.dead,.dead,.dead,.dead,.dead,.dead,.dead,.dead,.dead,.dead,.dead,.dead]⟩) (fun s=>t.length-s.1)
   ⟨0,by omega,by omega⟩ (Le_drop (by simp [leE]) (by simp [leH]) rfl rfl) fun s=>?_)
 obtain ⟨i,hi,hpre⟩:=s
 dsimp only
 by_cases hlt:i<t.length
 ·have hti:(tab rowT t).getD i []=rowT (t.getD i default):=tab_getD hlt
  have hat:(M.getD i default).1=v→idxM M v=some i:=fun he=>idx_at (by omega) hpre he
  have hpr:(M.getD i default).1≠v→∀ j,j<i+1→(M.getD j default).1≠v:=fun h j hj=>by
   by_cases hji:j=i
   ·subst hji;exact h
   ·exact hpre j (by omega)
  rw [hnd i hlt] at hat hpr
  generalize t.getD i default=r at *
  obtain ⟨b,f⟩:=r
  simp only [rowT] at hti
  dsimp only at *
  refine W_seq ?_
  ((refine W_seqV ?_);intro K hK;(refine sUaX hlt ?_))
  (refine hK _ ?_;clear hK K)
  (refine W_ct rfl ?_)
  refine W_skip ?_
  simp only [thenW]
  refine W_seq ?_
  refine W_block ?_
  by_cases hb:b=v
  ·have hbb:(b == v)=true:=by simp [hb]
   rw [hat hb]
   ((refine W_seqV ?_);intro K hK;(refine sUaX (And.intro hti (And.intro hlt hbb)) ?_))
   (refine hK _ ?_;clear hK K)
   (refine W_ct rfl ?_)
   (refine aUa ?_)
   refine W_ret ?_
   (refine qG ?_;try exact True.intro);try (refine sUaV ?_;try exact True.intro)
  ·have hbb:(b == v)=false:=by simp [hb]
   ((refine W_seqV ?_);intro K hK;(refine sUaX (And.intro hti (And.intro hlt hbb)) ?_))
   (refine hK _ ?_;clear hK K)
   (refine W_cf rfl ?_)
   refine W_skip ?_
   simp only [thenW,blockW]
   ((refine W_regV ?_);intro K hK;(refine sUa ?_))
   (refine hK _ ?_;clear hK K)
   simp only [blockW,thenW]
   refine ⟨⟨i+1,by omega,hpr hb⟩,Le_drop (by simp [leE]) (by simp [leH]) rfl rfl,?_⟩
   dsimp only
   omega
 ·obtain rfl:i=t.length:=by omega
  rw [idx_not fun j hj=>hpre j (by omega)]
  refine W_seq ?_
  ((refine W_seqV ?_);intro K hK;(refine sUa ?_))
  (refine hK _ ?_;clear hK K)
  (refine W_cf rfl ?_)
  refine W_exit ?_
  simp only [thenW,blockW,if_true]
  (refine aUa ?_)
  refine W_ret ?_
  (refine qG ?_;try exact True.intro);try (refine sUaV ?_;try exact True.intro)
theorem r7is_ok (n:Int) (t:TR) (v:Int):Pure Tryz.prog 73 [cT n t,.int .i64 v] (· = .bool (inR n v)):=by
 unfold cT inR
 by_cases h1:0≤v
 ·(refine pureW Tryz.func73 rfl (rs:=[Go.ResultVar.tmp 4]) rfl (n:=13) rfl ?_;simp only [List.length_cons,List.length_nil,List.replicate,List.cons_append,List.nil_append])
  (refine aUa ?_)
  ((refine W_seqV ?_);intro K hK;(refine sUaX h1 ?_))
  (refine hK _ ?_;clear hK K)
  refine W_ret ?_
  (refine qG ?_;try exact True.intro);try (refine sUaV ?_;try exact True.intro)
  simp [h1]
 ·(refine pureW Tryz.func73 rfl (rs:=[Go.ResultVar.tmp 4]) rfl (n:=13) rfl ?_;simp only [List.length_cons,List.length_nil,List.replicate,List.cons_append,List.nil_append])
  (refine aUa ?_)
  ((refine W_seqV ?_);intro K hK;(refine sUaX h1 ?_))
  (refine hK _ ?_;clear hK K)
  refine W_ret ?_
  (refine qG ?_;try exact True.intro);try (refine sUaV ?_;try exact True.intro)
  simp [h1]
theorem r6vars_ok (f:List (Int × RR)) {B:Nat} (hf:PF f B) (hB:B≤8589934592):Pure Tryz.prog 75 [cF f] (· = .sl (i64s (keys (normF (vals f))))):=by
 have a1:=f6norm_ok f hf hB
 have hl:(normF (vals f)).length<1099511627776:=by
  have:=len_norm (vals f)
  rw [vals_length] at this
  have:=hf.len
  omega
 generalize normF (vals f)=F at *
 have hst:∀ i,i<F.length→keys (F.take (i+1))=keys (F.take i)++[(F.getD i default).1]:=fun i hi=>by rw [take_snoc hi,keys_append];rfl
 have h0:keys (F.take 0)=[]:=rfl
 have hall:keys (F.take F.length)=keys F:=by rw [List.take_length]
 have hln:∀ i,i≤F.length→(keys (F.take i)).length=i:=fun i hi=>by rw [keys_len,List.length_take];omega
 generalize hE:(fun i=>keys (F.take i))=E at *
 have hE':∀ i,keys (F.take i)=E i:=fun i=>congrFun hE i
 simp only [hE'] at *
 clear hE hE'
 rw [← hall]
 simp only [cF,cL] at *
 (refine pureW Tryz.func75 rfl (rs:=[Go.ResultVar.tmp 2]) rfl (n:=23) rfl ?_;simp only [List.length_cons,List.length_nil,List.replicate,List.cons_append,List.nil_append])
 (refine aUa ?_)
 ((refine W_seqV ?_);intro K hK;(refine sUa ?_))
 (refine ⟨by kernel_rfl,_,.pure rfl (a1),?_⟩;(try (refine sUa ?_)))
 (refine hK _ ?_;clear hK K)
 refine W.le ?_ (Le_nil 3 3 3 1 true rfl rfl)
 simp only [List.set]
 (refine aUa ?_)
 refine W_seq ?_
 ((refine W_seqV ?_);intro K hK;(refine sUa ?_))
 (refine hK _ ?_;clear hK K)
 refine W_block (W_loop (fun s:{i:Nat // i≤F.length} =>
   ⟨[.any,.any,.any,.sref 3 0 s.1,.sl (tab rowQ F),.int .i64 s.1,.any,.any,.any,.any,.any,.any,.any,.any,.any,.any,.any,.any,.any,.any,.any,.any,.any],[.dead,.dead,.dead,.arr 3 1 true (i64s (E s.1)),.dead,.dead,.dead,.dead,.dead,.dead,.dead,.dead,.dead,.dead,.dead,.dead,.dead,.dead,.dead,.dead,.dead,.dead,.dead]⟩) (fun s=>F.length-s.1)
   ⟨0,by omega⟩ (Le_drop (by simp [leE]) (by simp [leH,h0,i64s]) rfl rfl) fun s=>?_)
 obtain ⟨i,hi⟩:=s
 dsimp only
 by_cases hlt:i<F.length
 ·have hfi:(tab rowQ F).getD i []=rowQ (F.getD i default):=tab_getD hlt
  have hsi:=hst i hlt
  have hli:=hln i (by omega)
  generalize F.getD i default=p at *
  obtain ⟨v,q⟩:=p
  simp only [rowQ] at hfi
  dsimp only at *
  generalize E i=o at *
  refine W_seq ?_
  ((refine W_seqV ?_);intro K hK;(refine sUaX hlt ?_))
  (refine hK _ ?_;clear hK K)
  (refine W_ct rfl ?_)
  refine W_skip ?_
  simp only [thenW]
  refine W_seq ?_
  refine W_block ?_
  refine W_regR fun K hK=>?_
  (refine sUaX (And.intro hfi (And.intro hlt hli)) ?_;try exact True.intro)
  (repeat refine aI ?_)
  refine hK _ ?_
  clear hK K
  simp only [blockW,thenW]
  ((refine W_regV ?_);intro K hK;(refine sUa ?_))
  (refine hK _ ?_;clear hK K)
  simp only [blockW,thenW]
  refine ⟨⟨i+1,by omega⟩,Le_drop (by simp [leE]) (by simp [leH,hsi,i64s,hli,List.take_of_length_le]) rfl rfl,?_⟩
  dsimp only
  omega
 ·obtain rfl:i=F.length:=by omega
  have hli:=hln F.length (Nat.le_refl _)
  generalize E F.length=o at *
  refine W_seq ?_
  ((refine W_seqV ?_);intro K hK;(refine sUa ?_))
  (refine hK _ ?_;clear hK K)
  (refine W_cf rfl ?_)
  refine W_exit ?_
  simp only [thenW,blockW,if_true]
  rw [← hli]
  (refine W.le ?_ (Le_freeze 3 (rows:=i64s o) rfl (by simp) (.inl rfl));simp only [St.freeze,List.map_cons,List.map_nil,List.set,if_true,if_false,Nat.reduceEqDiff,reduceCtorEq,List.drop_zero,u32s_take,u32s_drop,froz_any,froz_und,froz_int,froz_bool,froz_str,froz_nils,froz_sl,froz_ia,froz_nilp,froz_nilif,froz_nilfn,froz_nilmp,froz_gl,froz_sref,froz_ptr,froz_agg,froz_tup,froz_fn,froz_ifc,frozs_nil,frozs_cons,froz_dead,froz_arr,froz_mp,froz_it,froz_md,froz_map,froz_iter])
  (repeat' (first | (refine W_seqV fun K hK=>?_;(try (refine sUa ?_));refine hK _ ?_;clear hK K) | (refine W_ret ?_;(refine qG ?_;try exact True.intro))))
theorem r7knows_ok (n:Int) (t:TR) (f:List (Int × RR)) {B:Nat} (hf:PF f B) (hB:B≤8589934592):Pure Tryz.prog 70 [cT n t,cF f] (· = .bool (knownB n (normF (vals f)))):=by
 have a1:=r6vars_ok f hf hB
 have a2:=r7is_ok n t
 have hl:(keys (normF (vals f))).length<1099511627776:=by
  have:=len_norm (vals f)
  rw [vals_length] at this
  have:=hf.len
  rw [keys_len]
  omega
 rw [← known_keys]
 generalize keys (normF (vals f))=V at *
 have hst:∀ i,i<V.length→V.all (inR n)=true→inR n (V.getD i 0)=true:=fun i hi h=>by
  rw [List.all_eq_true] at h
  exact h _ (by simp [List.getD_eq_getElem?_getD,hi])
 have hno:∀ i,i<V.length→inR n (V.getD i 0)=false→V.all (inR n)=false:=fun i hi h=>by
  rw [Bool.eq_false_iff]
  intro h'
  rw [hst i hi h'] at h
  cases h
 have hall:(∀ i,i<V.length→inR n (V.getD i 0)=true)→V.all (inR n)=true:=fun h=>by
  rw [List.all_eq_true]
  intro x hx
  obtain ⟨i,hi,he⟩:=List.getElem_of_mem hx
  have:=h i hi
  rwa [show V.getD i 0=x by simp [List.getD_eq_getElem?_getD,hi,he]] at this
 generalize V.all (inR n)=R at *
 simp only [cF,cT] at *
 (refine pureW Tryz.func70 rfl (rs:=[Go.ResultVar.tmp 4]) rfl (n:=22) rfl ?_;simp only [List.length_cons,List.length_nil,List.replicate,List.cons_append,List.nil_append])
 (refine aUa ?_)
 ((refine W_seqV ?_);intro K hK;(refine sUa ?_))
 (refine ⟨by kernel_rfl,_,.pure rfl (a1),?_⟩;(try (refine sUa ?_)))
 (refine hK _ ?_;clear hK K)
 (refine aUa ?_)
 refine W_seq ?_
 ((refine W_seqV ?_);intro K hK;(refine sUa ?_))
 (refine hK _ ?_;clear hK K)
 refine W_block (W_loop (fun s:{i:Nat // i≤V.length∧∀ j,j<i→inR n (V.getD j 0)=true} =>
   ⟨[.any,.any,.ptr 2 0 0,.any,.any,.sl (i64s V),.int .i64 s.1,.any,.any,.any,.any,.any,.any,.any,.any,.any,.any,.any,.any,.any,.any,.any],[.dead,.dead,.arr 24 2 false [[.int .i64 n,.sl (tab rowT t)]],.dead,.dead,.dead,.dead,.dead,.dead,.dead,.dead,.dead,.dead,.dead,.dead,.dead,.dead,.dead,.dead,.dead,.dead,.dead]⟩) (fun s=>V.length-s.1)
   ⟨0,by omega,by omega⟩ (Le_drop (by simp [leE]) (by simp [leH]) rfl rfl) fun s=>?_)
 obtain ⟨i,hi,hpre⟩:=s
 dsimp only
 by_cases hlt:i<V.length
 ·have hno:=hno i hlt
  have hpr:inR n (V.getD i 0)=true→∀ j,j<i+1→inR n (V.getD j 0)=true:=fun h j hj=>by
   by_cases hji:j=i
   ·subst hji;exact h
   ·exact hpre j (by omega)
  generalize hv:V.getD i 0=v at *
  have a2v:=a2 v
  refine W_seq ?_
  ((refine W_seqV ?_);intro K hK;(refine sUaX hlt ?_))
  (refine hK _ ?_;clear hK K)
  (refine W_ct rfl ?_)
  refine W_skip ?_
  simp only [thenW]
  refine W_seq ?_
  refine W_block ?_
  generalize inR n v=ib at *
  cases ib
  ·rw [hno rfl]
   ((refine W_seqD mixed [] (by kernel_rfl) ?_);intro K hK;(refine sUaX (And.intro hv hlt) ?_))
   (refine ⟨by kernel_rfl,_,.pure rfl (a2v),?_⟩;(try (refine sUa ?_)))
   (refine hK _ ?_;clear hK K)
   (refine W_ct rfl ?_)
   (refine aUa ?_)
   refine W_ret ?_
   (refine qG ?_;try exact True.intro);try (refine sUaV ?_;try exact True.intro)
  ·((refine W_seqD mixed [] (by kernel_rfl) ?_);intro K hK;(refine sUaX (And.intro hv hlt) ?_))
   (refine ⟨by kernel_rfl,_,.pure rfl (a2v),?_⟩;(try (refine sUa ?_)))
   (refine hK _ ?_;clear hK K)
   (refine W_cf rfl ?_)
   refine W_skip ?_
   simp only [thenW,blockW]
   ((refine W_regV ?_);intro K hK;(refine sUa ?_))
   (refine hK _ ?_;clear hK K)
   simp only [blockW,thenW]
   refine ⟨⟨i+1,by omega,hpr rfl⟩,Le_drop (by simp [leE]) (by simp [leH]) rfl rfl,?_⟩
   dsimp only
   omega
 ·obtain rfl:i=V.length:=by omega
  rw [hall hpre]
  refine W_seq ?_
  ((refine W_seqV ?_);intro K hK;(refine sUa ?_))
  (refine hK _ ?_;clear hK K)
  (refine W_cf rfl ?_)
  refine W_exit ?_
  simp only [thenW,blockW,if_true]
  (refine aUa ?_)
  refine W_ret ?_
  (refine qG ?_;try exact True.intro);try (refine sUaV ?_;try exact True.intro)
def othK (K:List Int):Nat→List Int
 | 0=>[]
 | k+1=>if (k:Int)∈K then othK K k else othK K k++[(k:Int)]
def othV (n:Int) (t:TR):AV:=if goodB n (nrmT t) then .tup [.sl (i64s (othK (keys (nrmT t)) n.toNat)),.int .i64 0] else .tup [.sl [],.int .i64 70]
def colF (M:TM) (v:Int) (l:List Int):List Int:=l.filter fun b=>decide (coef ((lookM M b).getD []) v≠0)
def colV (n:Int) (t:TR) (v:Int):AV:=if goodB n (nrmT t) then if v<0∨n≤v then .tup [.sl [],.int .i64 61] else if v∈keys (nrmT t) then .tup [.sl [],.int .i64 71] else
 .tup [.sl (i64s (colF (nrmT t) v (sortK (keys (nrmT t))))),.int .i64 0] else .tup [.sl [],.int .i64 70]
structure FormOk (f:List (Int × RR)):Prop where
 ok:∀ p∈f,p.2.ok
 sz:nbs (vals f)≤68157440
theorem FormOk.fok {f:List (Int × RR)} (h:FormOk f):FOk f (nbs (vals f)):=⟨h.ok,Sz.of _⟩
theorem FormOk.mok {f:List (Int × RR)} (h:FormOk f):FOk f 536870912:=⟨h.ok,h.fok.sz.mono (by have:=h.sz;omega)⟩
theorem TOk.ex {t:TR} (h:TOk t) {n:Int} {f:List (Int × RR)} (hf:FormOk f) (hg:goodB n (nrmT t)=true):ExOk (nrmT t) f :=
 ExOk.of (gt_iff.1 hg).nodup hf.fok hf.sz h.tb
theorem FormOk.known {f:List (Int × RR)} (h:FOk f 536870912) (n:Int):Pure Tryz.prog 66 [cF f,.int .i64 n] (· = .bool (knownB n (normF (vals f)))) :=
 tknown_ok f n h (by omega)
def exprV (n:Int) (t:TR) (f:List (Int × RR)):AV:=if goodB n (nrmT t) then if knownB n (normF (vals f)) then .tup [cL (exprT (nrmT t) (vals f)),.int .i64 0] else .tup [.sl [],.int .i64 61] else .tup [.sl [],.int .i64 70]
def defV (n:Int) (t:TR) (f:List (Int × RR)):AV:=if goodB n (nrmT t) then if knownB n (normF (vals f)) then if n=65536 then .tup [cU 0 [],.int .i64 0,.int .i64 2] else .tup [cU (n+1) (sortM (nrmT t++[(n,exprT (nrmT t) (vals f))])),.int .i64 n,.int .i64 0]
 else .tup [cU 0 [],.int .i64 0,.int .i64 61] else .tup [cU 0 [],.int .i64 0,.int .i64 70]
def updS (bs sn:List Nat) (N:TM) (o:Int) (g:List (Int × Rat)):TM:=(List.range N.length).map fun j=>if bs.getD j 0∈sn then ((N.getD j default).1,putF (N.getD j default).2 o g) else N.getD j default
theorem idx_nodup {M:TM} (hn:(keys M).Nodup) {j:Nat} (hj:j<M.length):idxM M (M.getD j default).1=some j:=by
 have hk:(M.getD j default).1∈keys M:=List.mem_map.2 ⟨_,getD_mem hj,rfl⟩
 obtain ⟨i,h1,h2,h3,_⟩:=look_idx hk
 rw [h1]
 congr 1
 have e1:(keys M)[i]'(by rw [keys_len];exact h2)=(M.getD i default).1:=by simp [keys,List.getD_eq_getElem?_getD,h2]
 have e2:(keys M)[j]'(by rw [keys_len];exact hj)=(M.getD j default).1:=by simp [keys,List.getD_eq_getElem?_getD,hj]
 exact (List.getElem_inj hn).1 (e1.trans (h3.trans e2.symm))
theorem Sz.whole {f:List (Int × Rat)} {B:Nat} (h:Sz f B) (b:Int):Sz (wholeF b f) (B+2):=Sz.sub h ⟨fun v=>by simp only [nbv];split <;> simp [nb_one],by simp⟩
def pivV (n:Int) (t:TR) (b o:Int):AV:=if goodB n (nrmT t) then if b<0∨n≤b∨o<0∨n≤o then .tup [cU 0 [],.int .i64 61] else match idxM (nrmT t) b with
  | none => .tup [cU 0 [],.int .i64 71]
  | some k=>if o∈keys (nrmT t) then .tup [cU 0 [],.int .i64 71] else if coef (wholeF b ((nrmT t).getD k default).2) o=0 then .tup [cU 0 [],.int .i64 72] else .tup [cU n (sortM (pivP (nrmT t) k o (solvF b ((nrmT t).getD k default).2 o))),.int .i64 0]
 else .tup [cU 0 [],.int .i64 70]
theorem sUb {G G':Prop} (h:G') (e:G=G':=by conv=>lhs;simp (disch:=omega) only [rowsOf,cNat,cN,St.ret,St.seth,Eff.app,Eff.wi,sepL,guardOf,St.known,objOf,List.set,sliceW,litW,copyW,lenOf,bnd,mxOk,ofCells,TI.isAgg,cellsOf,storable,AV.one,dead,laid,overlay,reduceCtorEq,Int.reduceLE,Int.reduceLT,Int.reduceSub,Int.reduceAdd,Nat.reduceMul,Int.reduceToNat,Nat.reducePow,Int.reduceNeg,Nat.reduceAdd,Nat.reduceLT,Nat.reduceLeDiff,sA,sB,Nat.reduceEqDiff,cQ,rowQ,rowU,rowT,rowM,i64s_getD,i64s_length,i64s_all,i64s_take,i64s_drop,i64s_set,i64s_one,i64s_pure,i64s_append,tab_length,tab_drop,tab_take,tab_append,tab_nil,rowT_all,rowT_one,rowT_pure,rowU_all,rowU_one,rowU_pure,rowQ_all,rowQ_one,rowQ_pure,rowM_all,rowM_one,rowM_pure,List.take_length,List.length_append,sT]):G:=e.mpr h
theorem sUbX {G G' P:Prop} (p:P) (h:G') (e:P→G=G':=by intro p;conv=>lhs;simp (disch:=omega) only [rowsOf,cNat,cN,St.ret,St.seth,Eff.app,Eff.wi,sepL,guardOf,St.known,objOf,List.set,sliceW,litW,copyW,lenOf,bnd,mxOk,ofCells,TI.isAgg,cellsOf,storable,AV.one,dead,laid,overlay,reduceCtorEq,Int.reduceLE,Int.reduceLT,Int.reduceSub,Int.reduceAdd,Nat.reduceMul,Int.reduceToNat,Nat.reducePow,Int.reduceNeg,Nat.reduceAdd,Nat.reduceLT,Nat.reduceLeDiff,sA,sB,Nat.reduceEqDiff,cQ,rowQ,rowU,rowT,rowM,i64s_getD,i64s_length,i64s_all,i64s_take,i64s_drop,i64s_set,i64s_one,i64s_pure,i64s_append,tab_length,tab_drop,tab_take,tab_append,tab_nil,rowT_all,rowT_one,rowT_pure,rowU_all,rowU_one,rowU_pure,rowQ_all,rowQ_one,rowQ_pure,rowM_all,rowM_one,rowM_pure,List.take_length,List.length_append,sT,p]):G:=(e p).mpr h
theorem aUb {G G':Prop} (h:G') (f:Wr G'→G:=by intro h;(repeat (first|(refine W_seqV fun K hK=>?_;(try (refine sUb ?_;try exact True.intro));(repeat refine aI ?_);refine hK _ ?_;clear hK K)|(refine W_seqR fun K hK=>?_;(try (refine sUb ?_;try exact True.intro));(repeat refine aI ?_);refine hK _ ?_;clear hK K)|(refine W_seqD mixed [] (by kernel_rfl) fun K hK=>?_;(try (refine sUb ?_;try exact True.intro));(repeat refine aI ?_);refine hK _ ?_;clear hK K)));exact h.out):G:=f ⟨h⟩
def rowOk (n:Int) (M:TM) (j:Nat):Prop:=inR n (M.getD j default).1=true∧idxM M (M.getD j default).1=some j∧knownB n (M.getD j default).2=true
theorem GT.rok {n:Int} {M:TM} (h:GT n M) {j:Nat} (hj:j<M.length):rowOk n M j:=by
 have hm:=getD_mem (l:=M) hj
 refine ⟨inR_iff.2 (h.range _ (List.mem_map.2 ⟨_,hm,rfl⟩)),idx_nodup h.nodup hj,?_⟩
 unfold knownB
 rw [List.all_eq_true]
 exact fun p hp=>inR_iff.2 (h.free _ hm p hp).1
theorem GT.of {n:Int} {M:TM} (h0:0≤n) (h1:n≤65536) (h:∀ j,j<M.length→rowOk n M j) (hf:∀ j,j<M.length→∀ p∈(M.getD j default).2,idxM M p.1=none):GT n M:=by
 refine ⟨h0,h1,?_,fun b hb=>?_,fun r hr p hp=>?_⟩
 ·rw [List.Nodup,List.pairwise_iff_getElem]
  intro i j hi hj hij he
  have hi':i<M.length:=by rwa [keys_len] at hi
  have hj':j<M.length:=by rwa [keys_len] at hj
  have e1:=(h i hi').2.1
  have e2:=(h j hj').2.1
  have:(M.getD i default).1=(M.getD j default).1:=by
   simp only [keys,List.getElem_map] at he
   simp [List.getD_eq_getElem?_getD,hi',hj',he]
  rw [this,e2] at e1
  cases e1
  omega
 ·obtain ⟨r,hr,rfl⟩:=List.mem_map.1 hb
  obtain ⟨j,hj,rfl⟩:=mem_getD hr
  exact inR_iff.1 (h j hj).1
 ·obtain ⟨j,hj,rfl⟩:=mem_getD hr
  have h2:=(h j hj).2.2
  unfold knownB at h2
  refine ⟨inR_iff.1 (List.all_eq_true.1 h2 p hp),(idx_none (hf j hj p hp)).1⟩
theorem rowI_some {M:TM} {v:Int} {k:Nat} (h:idxM M v=some k):rowI M v=(k:Int):=by unfold rowI;rw [h]
theorem rowI_none {M:TM} {v:Int} (h:idxM M v=none):rowI M v = -1:=by unfold rowI;rw [h]
theorem TG.pf {t:TR} (h:TG t) {r:Int × List (Int × RR)} (hr:r∈t):PF r.2 536870913:=((h.form hr).pf (by omega)).mono (by omega)
set_option maxHeartbeats 4000000 in
theorem r7check_ok (n:Int) (t:TR) (hT:TG t):Pure Tryz.prog 31 [cT n t] (· = .int .i64 (if goodB n (nrmT t) then 0 else 70)):=by
 have hml:=nrmT_len t
 have hlen:=hT.len
 have hgT:GT n (nrmT t)→goodB n (nrmT t)=true:=gt_iff.2
 have hgF:¬ GT n (nrmT t)→goodB n (nrmT t)=false:=fun h=>by
  rw [Bool.eq_false_iff]
  exact fun h'=>h (gt_iff.1 h')
 have hnd:=fun i (hi:i<t.length)=>nrmT_getD hi
 have his:=fun v=>r7is_ok n t v
 have hro:=fun v=>r7row_ok n t v (by omega)
 have hkn:∀ i,i<t.length→Pure Tryz.prog 70 [cT n t,cF (t.getD i default).2] (· = .bool (knownB n (normF (vals (t.getD i default).2)))):=fun i hi=>r7knows_ok n t _ (hT.pf (getD_mem hi)) (by omega)
 have hva:∀ i,i<t.length→Pure Tryz.prog 75 [cF (t.getD i default).2] (· = .sl (i64s (keys (normF (vals (t.getD i default).2))))):=fun i hi=>r6vars_ok _ (hT.pf (getD_mem hi)) (by omega)
 have hrok:=fun (h:GT n (nrmT t)) j hj=>h.rok (j:=j) hj
 have hof:=fun h0 h1=>GT.of (n:=n) (M:=nrmT t) h0 h1
 have hfree:GT n (nrmT t)→∀ i,i<(nrmT t).length→∀ v∈keys ((nrmT t).getD i default).2,idxM (nrmT t) v=none:=fun h i hi v hv=>by
  obtain ⟨p,hp,rfl⟩:=List.mem_map.1 hv
  have:=(h.free _ (getD_mem hi) p hp).2
  cases hx:idxM (nrmT t) p.1 with
  | none=>rfl
  | some j=>exact absurd (idx_some hx).2.2.2 this
 have hvl:∀ i,i<t.length→(keys ((nrmT t).getD i default).2).length<1099511627776:=fun i hi=>by
  have:=(hT.mok.sz _ (getD_mem (show i<(nrmT t).length by omega))).l
  rw [keys_len]
  omega
 clear hT
 unfold cT at *
 generalize goodB n (nrmT t)=gb at *
 generalize nrmT t=M at *
 by_cases h1:n<0
 ·rw [hgF fun h=>by have:=h.lo;omega]
  simp only [Bool.false_eq_true,if_false]
  (refine pureW Tryz.func31 rfl (rs:=[Go.ResultVar.tmp 2]) rfl (n:=81) rfl ?_;simp only [List.length_cons,List.length_nil,List.replicate,List.cons_append,List.nil_append])
  (refine aUb ?_)
  ((refine W_seq (W_seqV ?_));intro K hK;(refine sUbX h1 ?_))
  (refine hK _ ?_;clear hK K)
  (repeat' (first | (exfalso;simp at h;done) | (refine W_seqV fun K hK=>?_;(try (refine sUb ?_));refine hK _ ?_;clear hK K) | (refine W_ret ?_;(refine qG ?_;try exact True.intro)) | (refine W_cond rfl (fun h=>?_) (fun h=>?_) <;> (try simp only [cond_true,cond_false,ne_eq,cB] at h))))
 by_cases h2:65536<n
 ·rw [hgF fun h=>by have:=h.hi;omega]
  simp only [Bool.false_eq_true,if_false]
  (refine pureW Tryz.func31 rfl (rs:=[Go.ResultVar.tmp 2]) rfl (n:=81) rfl ?_;simp only [List.length_cons,List.length_nil,List.replicate,List.cons_append,List.nil_append])
  (refine aUb ?_)
  ((refine W_seq (W_seqV ?_));intro K hK;(refine sUbX (And.intro h1 h2) ?_))
  (refine hK _ ?_;clear hK K)
  (repeat' (first | (exfalso;simp at h;done) | (refine W_seqV fun K hK=>?_;(try (refine sUb ?_));refine hK _ ?_;clear hK K) | (refine W_ret ?_;(refine qG ?_;try exact True.intro)) | (refine W_cond rfl (fun h=>?_) (fun h=>?_) <;> (try simp only [cond_true,cond_false,ne_eq,cB] at h))))
 (refine pureW Tryz.func31 rfl (rs:=[Go.ResultVar.tmp 2]) rfl (n:=81) rfl ?_;simp only [List.length_cons,List.length_nil,List.replicate,List.cons_append,List.nil_append])
 (refine aUb ?_)
 ((refine W_seq (W_seqV ?_));intro K hK;(refine sUbX (And.intro h1 h2) ?_))
 (refine hK _ ?_;clear hK K)
 (refine W_cf rfl ?_)
 refine W_skip ?_
 simp only [thenW]
 refine W_seq ?_
 ((refine W_seqV ?_);intro K hK;(refine sUb ?_))
 (refine hK _ ?_;clear hK K)
 refine W_block (W_loop (fun s:{i:Nat // i≤t.length∧∀ j,j<i→rowOk n M j} =>
   ((fun (a_:AV) (d_:Ob)=>(⟨(a_::(.ptr 1 0 0)::a_::(.int .i64 s.1)::a_::a_::a_::a_::a_::a_::a_::a_::a_::a_::a_::a_::a_::a_::a_::a_::a_::a_::a_::a_::a_::a_::a_::a_::a_::a_::a_::a_::a_::a_::a_::a_::a_::a_::a_::a_::a_::a_::a_::a_::a_::a_::a_::a_::a_::a_::a_::a_::a_::a_::a_::a_::a_::a_::a_::a_::a_::a_::a_::a_::a_::a_::a_::a_::a_::a_::a_::a_::a_::a_::a_::a_::a_::a_::a_::a_::a_::[]),(d_::(.arr 24 2 false [[.int .i64 n,.sl (tab rowT t)]])::d_::d_::d_::d_::d_::d_::d_::d_::d_::d_::d_::d_::d_::d_::d_::d_::d_::d_::d_::d_::d_::d_::d_::d_::d_::d_::d_::d_::d_::d_::d_::d_::d_::d_::d_::d_::d_::d_::d_::d_::d_::d_::d_::d_::d_::d_::d_::d_::d_::d_::d_::d_::d_::d_::d_::d_::d_::d_::d_::d_::d_::d_::d_::d_::d_::d_::d_::d_::d_::d_::d_::d_::d_::d_::d_::d_::d_::d_::d_::[])⟩:St)) .any .dead)) (fun s=>t.length-s.1)
   ⟨0,by omega,by omega⟩ (Le_drop (by simp [leE]) (by simp [leH]) rfl rfl) fun s=>?_)
 obtain ⟨i,hi,hpre⟩:=s
 dsimp only
 by_cases hlt:i<t.length
 ·have hti:(tab rowT t).getD i []=rowT (t.getD i default):=tab_getD hlt
  have hbad:¬ rowOk n M i→gb=false:=fun h=>hgF fun h'=>h (hrok h' i (by omega))
  have hpr:rowOk n M i→∀ j,j<i+1→rowOk n M j:=fun h j hj=>by
   by_cases hji:j=i
   ·subst hji;exact h
   ·exact hpre j (by omega)
  have hdef:rowOk n M i=(inR n (M.getD i default).1=true∧idxM M (M.getD i default).1=some i∧knownB n (M.getD i default).2=true):=rfl
  have hexi:∃ k,idxM M (M.getD i default).1=some k:=by
   obtain ⟨k,hk,_⟩:=look_idx (M:=M) (b:=(M.getD i default).1) (List.mem_map.2 ⟨_,getD_mem (by omega),rfl⟩)
   exact ⟨k,hk⟩
  have hki:=hkn i hlt
  rw [hnd i hlt] at hdef hexi
  generalize t.getD i default=r at *
  obtain ⟨b,f⟩:=r
  simp only [rowT] at hti
  dsimp only at *
  have hib:=his b
  have hrb:=hro b
  obtain ⟨k,hk⟩:=hexi
  rw [rowI_some hk] at hrb
  rw [hk] at hdef
  refine W_seq ?_
  ((refine W_seqV ?_);intro K hK;(refine sUbX hlt ?_))
  (refine hK _ ?_;clear hK K)
  (refine W_ct rfl ?_)
  refine W_skip ?_
  simp only [thenW]
  refine W_seq ?_
  refine W_block ?_
  simp only [cF] at *
  generalize inR n b=ib at *
  generalize knownB n (normF (vals f))=kb at *
  cases ib
  ·rw [hbad (by rw [hdef];simp)]
   simp only [Bool.false_eq_true,if_false]
   ((refine W_seqD mixed [] (by kernel_rfl) ?_);intro K hK;(refine sUbX (And.intro hti hlt) ?_))
   (refine ⟨by kernel_rfl,_,.pure rfl (hib),?_⟩;(try (refine sUb ?_)))
   (refine hK _ ?_;clear hK K)
   (repeat' (first | (exfalso;simp at h;done) | (refine W_seqV fun K hK=>?_;(try (refine sUb ?_));refine hK _ ?_;clear hK K) | (refine W_ret ?_;(refine qG ?_;try exact True.intro)) | (refine W_cond rfl (fun h=>?_) (fun h=>?_) <;> (try simp only [cond_true,cond_false,ne_eq,cB] at h))))
  by_cases hki2:k=i
  ·have hnb:((k:Int) != (i:Int))=false:=by simp [hki2]
   cases kb
   ·rw [hbad (by rw [hdef];simp)]
    simp only [Bool.false_eq_true,if_false]
    ((refine W_seqD mixed [] (by kernel_rfl) ?_);intro K hK;(refine sUbX (And.intro hti hlt) ?_))
    (refine ⟨by kernel_rfl,_,.pure rfl (hib),?_⟩;(try (refine sUb ?_));(repeat refine aI ?_))
    (refine sUbX (And.intro hti hlt) ?_;try exact True.intro)
    (refine ⟨by kernel_rfl,_,.pure rfl (hrb),?_⟩;(try (refine sUb ?_)))
    rw [hnb]
    (refine sUbX (And.intro hti hlt) ?_;try exact True.intro)
    (refine ⟨by kernel_rfl,_,.pure rfl (hki),?_⟩;(try (refine sUb ?_)))
    (refine hK _ ?_;clear hK K)
    (repeat' (first | (exfalso;simp at h;done) | (refine W_seqV fun K hK=>?_;(try (refine sUb ?_));refine hK _ ?_;clear hK K) | (refine W_ret ?_;(refine qG ?_;try exact True.intro)) | (refine W_cond rfl (fun h=>?_) (fun h=>?_) <;> (try simp only [cond_true,cond_false,ne_eq,cB] at h))))
   ·((refine W_seqD mixed [] (by kernel_rfl) ?_);intro K hK;(refine sUbX (And.intro hti hlt) ?_))
    (refine ⟨by kernel_rfl,_,.pure rfl (hib),?_⟩;(try (refine sUb ?_));(repeat refine aI ?_))
    (refine sUbX (And.intro hti hlt) ?_;try exact True.intro)
    (refine ⟨by kernel_rfl,_,.pure rfl (hrb),?_⟩;(try (refine sUb ?_)))
    rw [hnb]
    (refine sUbX (And.intro hti hlt) ?_;try exact True.intro)
    (refine ⟨by kernel_rfl,_,.pure rfl (hki),?_⟩;(try (refine sUb ?_)))
    (refine hK _ ?_;clear hK K)
    (refine W_cf rfl ?_)
    refine W_skip ?_
    simp only [thenW,blockW]
    ((refine W_regV ?_);intro K hK;(refine sUb ?_))
    (refine hK _ ?_;clear hK K)
    simp only [blockW,thenW]
    refine ⟨⟨i+1,by omega,hpr (by rw [hdef];simp [hki2])⟩,Le_drop (by simp [leE]) (by simp [leH]) rfl rfl,?_⟩
    dsimp only
    omega
  ·have hnb:((k:Int) != (i:Int))=true:=by simp;omega
   rw [hbad (by rw [hdef];simp;intro h;exact absurd h hki2)]
   simp only [Bool.false_eq_true,if_false]
   ((refine W_seqD mixed [] (by kernel_rfl) ?_);intro K hK;(refine sUbX (And.intro hti hlt) ?_))
   (refine ⟨by kernel_rfl,_,.pure rfl (hib),?_⟩;(try (refine sUb ?_));(repeat refine aI ?_))
   (refine sUbX (And.intro hti hlt) ?_;try exact True.intro)
   (refine ⟨by kernel_rfl,_,.pure rfl (hrb),?_⟩;(try (refine sUb ?_)))
   rw [hnb]
   (refine sUbX (And.intro hti hlt) ?_;try exact True.intro)
   (refine hK _ ?_;clear hK K)
   (repeat' (first | (exfalso;simp at h;done) | (refine W_seqV fun K hK=>?_;(try (refine sUb ?_));refine hK _ ?_;clear hK K) | (refine W_ret ?_;(refine qG ?_;try exact True.intro)) | (refine W_cond rfl (fun h=>?_) (fun h=>?_) <;> (try simp only [cond_true,cond_false,ne_eq,cB] at h))))
 ·obtain rfl:i=t.length:=by omega
  refine W_seq ?_
  ((refine W_seqV ?_);intro K hK;(refine sUb ?_))
  (refine hK _ ?_;clear hK K)
  (refine W_cf rfl ?_)
  refine W_exit ?_
  simp only [thenW,blockW,if_true]
  refine W_seq ?_
  ((refine W_seqV ?_);intro K hK;(refine sUb ?_))
  (refine hK _ ?_;clear hK K)
  refine W_block (W_loop (fun s:{i:Nat // i≤t.length∧∀ j,j<i→∀ v∈keys (M.getD j default).2,idxM M v=none} =>
   ((fun (a_:AV) (d_:Ob)=>(⟨(a_::(.ptr 1 0 0)::a_::a_::(.int .i64 s.1)::a_::a_::a_::a_::a_::a_::a_::a_::a_::a_::a_::a_::a_::a_::a_::a_::a_::a_::a_::a_::a_::a_::a_::a_::a_::a_::a_::a_::a_::a_::a_::a_::a_::a_::a_::a_::a_::a_::a_::a_::a_::a_::a_::a_::a_::a_::a_::a_::a_::a_::a_::a_::a_::a_::a_::a_::a_::a_::a_::a_::a_::a_::a_::a_::a_::a_::a_::a_::a_::a_::a_::a_::a_::a_::a_::a_::[]),(d_::(.arr 24 2 false [[.int .i64 n,.sl (tab rowT t)]])::d_::d_::d_::d_::d_::d_::d_::d_::d_::d_::d_::d_::d_::d_::d_::d_::d_::d_::d_::d_::d_::d_::d_::d_::d_::d_::d_::d_::d_::d_::d_::d_::d_::d_::d_::d_::d_::d_::d_::d_::d_::d_::d_::d_::d_::d_::d_::d_::d_::d_::d_::d_::d_::d_::d_::d_::d_::d_::d_::d_::d_::d_::d_::d_::d_::d_::d_::d_::d_::d_::d_::d_::d_::d_::d_::d_::d_::d_::d_::[])⟩:St)) .any .dead)) (fun s=>t.length-s.1)
   ⟨0,by omega,by omega⟩ (Le_drop (by simp [leE]) (by simp [leH]) rfl rfl) fun s=>?_)
  obtain ⟨i,hi,hpr2⟩:=s
  dsimp only
  by_cases hlt:i<t.length
  ·have hti:(tab rowT t).getD i []=rowT (t.getD i default):=tab_getD hlt
   have hnx:(∀ v∈keys (M.getD i default).2,idxM M v=none)→∀ j,j<i+1→∀ v∈keys (M.getD j default).2,idxM M v=none:=fun h j hj=>by
    by_cases hji:j=i
    ·subst hji;exact h
    ·exact hpr2 j (by omega)
   have hbad:∀ v∈keys (M.getD i default).2,idxM M v≠none→gb=false:=fun v hv h=>hgF fun h'=>h (hfree h' i (by omega) v hv)
   have hvi:=hva i hlt
   have hvll:=hvl i hlt
   rw [hnd i hlt] at hnx hbad hvll
   generalize t.getD i default=r at *
   obtain ⟨b,f⟩:=r
   simp only [rowT] at hti
   dsimp only at *
   simp only [cF] at *
   generalize keys (normF (vals f))=V at *
   refine W_seq ?_
   ((refine W_seqV ?_);intro K hK;(refine sUbX hlt ?_))
   (refine hK _ ?_;clear hK K)
   (refine W_ct rfl ?_)
   refine W_skip ?_
   simp only [thenW]
   refine W_seq ?_
   refine W_block ?_
   ((refine W_seqV ?_);intro K hK;(refine sUbX (And.intro hti hlt) ?_))
   (refine ⟨by kernel_rfl,_,.pure rfl (hvi),?_⟩;(try (refine sUb ?_)))
   (refine hK _ ?_;clear hK K)
   refine W_seq ?_
   ((refine W_regV ?_);intro K hK;(refine sUb ?_))
   (refine hK _ ?_;clear hK K)
   refine W_block (W_loop (fun s:{k:Nat // k≤V.length∧∀ j,j<k→idxM M (V.getD j 0)=none} =>
    ((fun (a_:AV) (d_:Ob)=>(⟨(a_::(.ptr 1 0 0)::a_::a_::(.int .i64 i)::(.sl (i64s V))::(.int .i64 s.1)::a_::a_::a_::a_::a_::a_::a_::a_::a_::a_::a_::a_::a_::a_::a_::a_::a_::a_::a_::a_::a_::a_::a_::a_::a_::a_::a_::a_::a_::a_::a_::a_::a_::a_::a_::a_::a_::a_::a_::a_::a_::a_::a_::a_::a_::a_::a_::a_::a_::a_::a_::a_::a_::a_::a_::a_::a_::a_::a_::a_::a_::a_::a_::a_::a_::a_::a_::a_::a_::a_::a_::a_::a_::a_::[]),(d_::(.arr 24 2 false [[.int .i64 n,.sl (tab rowT t)]])::d_::d_::d_::d_::d_::d_::d_::d_::d_::d_::d_::d_::d_::d_::d_::d_::d_::d_::d_::d_::d_::d_::d_::d_::d_::d_::d_::d_::d_::d_::d_::d_::d_::d_::d_::d_::d_::d_::d_::d_::d_::d_::d_::d_::d_::d_::d_::d_::d_::d_::d_::d_::d_::d_::d_::d_::d_::d_::d_::d_::d_::d_::d_::d_::d_::d_::d_::d_::d_::d_::d_::d_::d_::d_::d_::d_::d_::d_::d_::[])⟩:St)) .any .dead)) (fun s=>V.length-s.1)
    ⟨0,by omega,by omega⟩ (Le_drop (by simp [leE]) (by simp [leH]) rfl rfl) fun s=>?_)
   obtain ⟨k,hk,hpr3⟩:=s
   dsimp only
   by_cases hlk:k<V.length
   ·have hvm:V.getD k 0∈V:=by simp [List.getD_eq_getElem?_getD,hlk]
    have hbk:=hbad _ hvm
    have hnk:idxM M (V.getD k 0)=none→∀ j,j<k+1→idxM M (V.getD j 0)=none:=fun h j hj=>by
     by_cases hji:j=k
     ·subst hji;exact h
     ·exact hpr3 j (by omega)
    generalize hv:V.getD k 0=v at *
    have hrv:=hro v
    refine W_seq ?_
    ((refine W_seqV ?_);intro K hK;(refine sUbX hlk ?_))
    (refine hK _ ?_;clear hK K)
    (refine W_ct rfl ?_)
    refine W_skip ?_
    simp only [thenW]
    refine W_seq ?_
    refine W_block ?_
    cases hx:idxM M v with
    | some j =>
     rw [hbk (by rw [hx];simp)]
     rw [rowI_some hx] at hrv
     simp only [Bool.false_eq_true,if_false]
     ((refine W_seqD mixed [] (by kernel_rfl) ?_);intro K hK;(refine sUbX (And.intro hv hlk) ?_))
     (refine ⟨by kernel_rfl,_,.pure rfl (hrv),?_⟩;(try (refine sUb ?_)))
     (refine hK _ ?_;clear hK K)
     (repeat' (first | (exfalso;simp at h;done) | (refine W_seqV fun K hK=>?_;(try (refine sUb ?_));refine hK _ ?_;clear hK K) | (refine W_ret ?_;(refine qG ?_;try exact True.intro)) | (refine W_cond rfl (fun h=>?_) (fun h=>?_) <;> (try simp only [cond_true,cond_false,ne_eq,cB] at h))))
    | none =>
     rw [rowI_none hx] at hrv
     ((refine W_seqD mixed [] (by kernel_rfl) ?_);intro K hK;(refine sUbX (And.intro hv hlk) ?_))
     (refine ⟨by kernel_rfl,_,.pure rfl (hrv),?_⟩;(try (refine sUb ?_)))
     (refine hK _ ?_;clear hK K)
     (refine W_cf rfl ?_)
     refine W_skip ?_
     simp only [thenW,blockW]
     ((refine W_regV ?_);intro K hK;(refine sUb ?_))
     (refine hK _ ?_;clear hK K)
     simp only [blockW,thenW]
     refine ⟨⟨k+1,by omega,hnk hx⟩,Le_drop (by simp [leE]) (by simp [leH]) rfl rfl,?_⟩
     dsimp only
     omega
   ·obtain rfl:k=V.length:=by omega
    refine W_seq ?_
    ((refine W_seqV ?_);intro K hK;(refine sUb ?_))
    (refine hK _ ?_;clear hK K)
    (refine W_cf rfl ?_)
    refine W_exit ?_
    simp only [thenW,blockW,if_true]
    ((refine W_regV ?_);intro K hK;(refine sUb ?_))
    (refine hK _ ?_;clear hK K)
    simp only [thenW,blockW]
    refine ⟨⟨i+1,by omega,hnx fun v hv=>?_⟩,Le_drop (by simp [leE]) (by simp [leH]) rfl rfl,?_⟩
    ·obtain ⟨j,hj,rfl⟩:=List.getElem_of_mem hv
     have:=hpr3 j hj
     rwa [show V.getD j 0=V[j] by simp [List.getD_eq_getElem?_getD,hj]] at this
    ·dsimp only
     omega
  ·obtain rfl:i=t.length:=by omega
   have hG:GT n M:=hof (by omega) (by omega) (fun j hj=>hpre j (by omega)) fun j hj p hp=>hpr2 j (by omega) p.1 (List.mem_map.2 ⟨p,hp,rfl⟩)
   rw [hgT hG]
   refine W_seq ?_
   ((refine W_seqV ?_);intro K hK;(refine sUb ?_))
   (refine hK _ ?_;clear hK K)
   (refine W_cf rfl ?_)
   refine W_exit ?_
   simp only [thenW,blockW,if_true]
   (repeat' (first | (refine W_seqV fun K hK=>?_;(try (refine sUb ?_));refine hK _ ?_;clear hK K) | (refine W_ret ?_;(refine qG ?_;try exact True.intro))))
def NewSV (base:Nat) (w:World) (F:Nat→Prop) (T:TypeId) (k:Nat) (pre:List AV) (rows:List (List AV)) (v:Value):Prop :=
 ∃ vs x,v = .agg (vs++[x]).toArray∧Rps w F noPl pre vs∧NewA base w F T k rows x
def NewS (P:Program) (g:FuncId) (args:List AV) (T:TypeId) (k:Nat) (pre:List AV) (R:List (List AV)→Prop):Prop :=
 pre.all AV.flat=true∧∀ (w:World) (vals:List Value) (F:Nat→Prop),(∀ k,F k→k<w.heap.size)→Rps w F noPl args vals →
  Calls P g vals.toArray w fun e w'=>∃ v rows,e = .returned v∧R rows∧Below w.heap.size w w'∧NewSV w.heap.size w' F T k pre rows v
theorem flats_any {w w':World} {A A':Nat→Prop} {ρ ρ':Pl}:∀ (l:List AV) {vs:List Value},l.all AV.flat=true→Rps w A ρ l vs→Rps w' A' ρ' l vs
 | [],_,_,h=>by simpa only [Rps] using h
 | x::l,vs,hf,h=>by
  simp only [List.all_cons,Bool.and_eq_true] at hf
  simp only [Rps] at h ⊢
  obtain ⟨v,us,h1,h2,h3⟩:=h
  exact ⟨v,us,h1,flat_any x hf.1 h2,flats_any l hf.2 h3⟩
def newSK (T:TypeId) (k:Nat) (pre:List AV) (R:List (List AV)→Prop) (hp:List Ob):AV→Prop
 | .agg cells=>∃ x,cells=pre++[x]∧newK T k R hp x
 | _=>False
def newSQ (P:Program) (rs:List ResultVar) (T:TypeId) (k:Nat) (pre:List AV) (R:List (List AV)→Prop):Exit→St→Prop
 | .normal,s=>resW P s rs fun xs=>newSK T k pre R s.hp (asOne xs)
 | .ret,s=>resW P s rs fun xs=>newSK T k pre R s.hp (asOne xs)
 | _,_=>False
theorem newK_A {fr:Fr} {ρ:Pl} {s:St} {a:Act} {w:World} (hr:Rep fr ρ s a w) (hpins:fr.pins=[]) {T:TypeId} {k:Nat} {R:List (List AV)→Prop} {x:AV} {v:Value} (h1:newK T k R s.hp x) (h3:Rp w (Av fr.F ρ) ρ x v) :
  ∃ rows,R rows∧NewA fr.base w fr.F T k rows v:=by
 cases x with
 | nils =>
  simp only [Rp] at h3
  exact ⟨[],h1,.inl ⟨h3,rfl⟩⟩
 | sref i off n =>
  obtain ⟨rows,rfl,rfl,hi,hR⟩:=h1
  have ho:=hr.heap i
  rw [show s.hp.getD i .dead = .arr T k true rows by simp [List.getD_eq_getElem?_getD,hi]] at ho
  simp only [Rp] at h3
  rcases h3 with ⟨g1,g2,g3,g4⟩ | ⟨b,s',cap,len,x,g1,g2,g3,g4⟩
  ·exact ⟨rows,hR,.inl ⟨g4,List.eq_nil_of_length_eq_zero g3⟩⟩
  ·rw [g1] at ho
   obtain ⟨e1,e2,vss,rest,e3,e4,e5⟩:=ho
   subst e1
   have hx0:=g4 (.inr trivial)
   rw [Nat.zero_mul] at hx0
   subst hx0
   refine ⟨rows,hR,.inr ⟨b,cap,?_,by rw [g3,Nat.sub_zero],vss,rest,e3,?_,e5⟩⟩
   ·rcases hr.mine i _ b g1 rfl with h4 | h4
    ·exact h4
    ·exact absurd h4.1 (by simp [hpins])
   ·exact RpR.later (ρ:=noPl) _ ⟨Nat.le_refl _,fun c _ hc=>by
     rcases hc with hc | rfl
     ·exact .inl hc
     ·exact .inr ⟨i,_,g1,rfl⟩,fun _ _ _=>rfl,fun _ _ h=>h⟩ e4
 | _=>exact h1.elim
theorem newS_of_W {P:Program} {g:FuncId} {fn:Func} {c:Code} {args:List AV} {T:TypeId} {k:Nat} {pre:List AV} {R:List (List AV)→Prop} (hf:P.funcs[g]?=some fn) (hb:fn.body=some c) {rs:List ResultVar} (hrs:fn.results.toList=rs) {nt:Nat} (hn:fn.ntmps=nt) (hpre:pre.all AV.flat=true)
  (h:W P [] c (newSQ P rs T k pre R) ⟨args++List.replicate (nt-args.length) .und,List.replicate nt .dead⟩):NewS P g args T k pre R:=by
 subst hrs;subst hn
 refine ⟨hpre,fun w vals F hF hv=>?_⟩
 have hlen:=hv.length
 refine calls_of_wp hf hb ?_
 let fr:Fr:=⟨w.heap.size,w,F,fun _=>False,[],noPl,fun _ _ h=>h⟩
 have hA:Av F noPl=F:=by
  funext k
  simp [Av,noPl]
 have hrep:Rep fr noPl ⟨args++List.replicate (fn.ntmps-args.length) .und,List.replicate fn.ntmps .dead⟩ { tmps:=vals.toArray++Array.replicate (fn.ntmps-vals.toArray.size) undef,defers:=[] } w:=by
  refine { keep:=⟨rfl,rfl,rfl,Nat.le_refl _,fun _ _ _=>rfl⟩,base:=Nat.le_refl _,defers:=rfl,heap:=fun i=>?_,inj:=(fun i j p q b hi=>by cases hi),mine:=(fun i p b hi=>by cases hi),fF:=hF,pin:=(fun i hi=>by cases hi),env:=?_ }
  ·show HRo _ _ _ ((List.replicate fn.ntmps Ob.dead).getD i .dead) _
   rw [show (List.replicate fn.ntmps Ob.dead).getD i .dead = .dead by
    rw [List.getD_eq_getElem?_getD,List.getElem?_replicate];split <;> rfl]
   rfl
  ·show Rps w (Av F noPl) noPl _ _
   rw [hA]
   have h1:(vals.toArray++Array.replicate (fn.ntmps-vals.toArray.size) undef).toList=vals++List.replicate (fn.ntmps-args.length) undef:=by
    simp [hlen]
   rw [h1]
   refine hv.append (Rps.mk (by simp) fun i x v hx hv=>?_)
   rw [List.getElem?_replicate] at hx hv
   split at hx
   ·rename_i hi;rw [if_pos hi] at hv;cases hx;cases hv;simp only [Rp]
   ·cases hx
 refine Code.wp_mono (fun e a' w' he=>?_) (h fr noPl _ w rfl hrep)
 obtain ⟨s,ρ,hq,hr⟩:=he
 have fin:resW P s fn.results.toList (fun xs=>newSK T k pre R s.hp (asOne xs))→a'.defers=[]∧∃ v,(results fn a'.tmps).run P w' = .ok v w'∧∃ v2 rows,Ending.returned v = .returned v2∧R rows∧Below w.heap.size w w'∧NewSV w.heap.size w' F T k pre rows v2:=by
  intro hk
  obtain ⟨xs,v,h1,h2,h3⟩:=results_sound hr fn hk
  have hbel:Below w.heap.size w w':=⟨hr.keep.os,hr.keep.tape,hr.keep.output,hr.keep.size,fun k hk=>hr.keep.block k hk (fun h=>h)⟩
  refine ⟨hr.defers,v,h2,?_⟩
  cases hx:asOne xs with
  | agg cells =>
   rw [hx] at h1 h3
   obtain ⟨x,rfl,hkx⟩:=h1
   simp only [Rp] at h3
   obtain ⟨vs0,rfl,h4⟩:=h3
   obtain ⟨vs,us,rfl,h5,h6⟩:=h4.of_append
   simp only [Rps] at h6
   obtain ⟨y,_,rfl,h7,rfl⟩:=h6
   obtain ⟨rows,hR,hN⟩:=newK_A hr rfl hkx h7
   exact ⟨_,rows,rfl,hR,hbel,vs,y,rfl,flats_any _ hpre h5,hN⟩
  | _=>rw [hx] at h1;exact h1.elim
 cases e with
 | normal=>exact fin hq
 | ret=>exact fin hq
 | _=>exact hq.elim
theorem NewS.pure {P:Program} {g:FuncId} {args:List AV} {T:TypeId} {k:Nat} {pre:List AV} {R:List (List AV)→Prop} (h:NewS P g args T k pre R):Pure P g args (fun r=>∃ rows,R rows∧r = .agg (pre++[.sl rows])):=by
 intro w vals F hF hv
 refine (h.2 w vals F hF hv).mono fun e w' he=>?_
 obtain ⟨v,rows,h1,h2,h3,vs,x,rfl,h5,h4⟩:=he
 refine ⟨_,_,h1,⟨rows,h2,rfl⟩,h3,?_⟩
 simp only [Rp]
 refine ⟨_,rfl,h5.append ?_⟩
 simp only [Rps,Rp]
 refine ⟨_,_,rfl,?_,rfl⟩
 rcases h4 with ⟨rfl,rfl⟩ | ⟨b,cap,hb,rfl,vss,rest,e1,e2,e3,e4,e5,e6⟩
 ·exact ⟨none,0,by simp,by simp,by simp [maxLen],.inl rfl⟩
 ·refine ⟨_,cap,rfl,e5,e6,.inr ⟨b,0,vss,rfl,fun hFb=>?_,(Array.getElem?_eq_some_iff.1 e1).1,?_,RpR.later (ρ:=noPl) _ ⟨Nat.le_refl _,fun c _ hc => .inl hc,fun _ _ _=>rfl,fun _ _ h=>h⟩ e2⟩⟩
  ·have:=hF b hFb
   omega
  ·intro j u hj
   have h5:=(List.getElem?_eq_some_iff.1 hj).1
   simp only [World.cell?,Nat.zero_add]
   rw [e1]
   simp [List.getElem?_append_left h5,hj]
end Go.Proofs.YtjmpajgjaefcjaaGreat.Vm
/-
  The reference's tableaus: the rows by rising variables.
-/
namespace Go.Proofs.YtjmpajgjaefcjaaGreat.Vm
open Go Go.RowKit
theorem sUc {G G' : Prop} (h : G') (e : G = G' := by conv => lhs; simp (disch := omega) only [rowsOf, cNat, cN, St.ret, St.seth, Eff.app, Eff.wi, sepL, guardOf, St.known, objOf, List.set, sliceW, litW, copyW, lenOf, bnd, mxOk, ofCells, TI.isAgg, cellsOf, storable, AV.one, dead, laid, overlay, reduceCtorEq, Int.reduceLE, Int.reduceLT, Int.reduceSub, Int.reduceAdd, Nat.reduceMul, Int.reduceToNat, Nat.reducePow, Int.reduceNeg, Nat.reduceAdd, Nat.reduceLT, Nat.reduceLeDiff, sA, sB, Nat.reduceEqDiff, cQ, rowQ, rowU, rowT, rowM, i64s_getD, i64s_length, i64s_all, tab_length, tab_drop, tab_take, tab_append, tab_nil, rowT_all, rowT_one, rowT_pure, rowU_all, rowU_one, rowU_pure, rowQ_all, rowQ_one, rowQ_pure, rowM_all, rowM_one, rowM_pure, List.take_length, List.length_append, sT]) : G := e.mpr h
theorem sUcX {G G' P : Prop} (p : P) (h : G') (e : P → G = G' := by intro p; conv => lhs; simp (disch := omega) only [rowsOf, cNat, cN, St.ret, St.seth, Eff.app, Eff.wi, sepL, guardOf, St.known, objOf, List.set, sliceW, litW, copyW, lenOf, bnd, mxOk, ofCells, TI.isAgg, cellsOf, storable, AV.one, dead, laid, overlay, reduceCtorEq, Int.reduceLE, Int.reduceLT, Int.reduceSub, Int.reduceAdd, Nat.reduceMul, Int.reduceToNat, Nat.reducePow, Int.reduceNeg, Nat.reduceAdd, Nat.reduceLT, Nat.reduceLeDiff, sA, sB, Nat.reduceEqDiff, cQ, rowQ, rowU, rowT, rowM, i64s_getD, i64s_length, i64s_all, tab_length, tab_drop, tab_take, tab_append, tab_nil, rowT_all, rowT_one, rowT_pure, rowU_all, rowU_one, rowU_pure, rowQ_all, rowQ_one, rowQ_pure, rowM_all, rowM_one, rowM_pure, List.take_length, List.length_append, sT, p]) : G := (e p).mpr h
theorem aUc {G G' : Prop} (h : G') (f : Wr G' → G := by intro h; (repeat (first | (refine W_seqV fun K hK => ?_; (try (refine sUc ?_; try exact True.intro)); (repeat refine aI ?_); refine hK _ ?_; clear hK K) | (refine W_seqR fun K hK => ?_; (try (refine sUc ?_; try exact True.intro)); (repeat refine aI ?_); refine hK _ ?_; clear hK K) | (refine W_seqD mixed [] (by kernel_rfl) fun K hK => ?_; (try (refine sUc ?_; try exact True.intro)); (repeat refine aI ?_); refine hK _ ?_; clear hK K))); exact h.out) : G := f ⟨h⟩

def lastK (l : List Int) (k : Nat) : Int := if k = 0 then -1 else l.getD (k - 1) 0
theorem lastK_succ (l : List Int) (k : Nat) : lastK l (k + 1) = l.getD k 0 := by simp [lastK]
theorem next_least {l : List Int} (hl : l.Pairwise (· < ·)) (h0 : ∀ x ∈ l, 0 ≤ x) {k : Nat} (hk : k < l.length) : lastK l k < l.getD k 0 ∧ ∀ x ∈ l, lastK l k < x → l.getD k 0 ≤ x := by
  rw [List.pairwise_iff_getElem] at hl
  have hg : ∀ i (h : i < l.length), l.getD i 0 = l[i] := fun i h => by simp [List.getD_eq_getElem?_getD, h]
  unfold lastK
  rw [hg k hk]
  constructor
  · split
    · have := h0 l[k] (List.getElem_mem hk); omega
    · rw [hg (k - 1) (by omega)]
      exact hl (k - 1) k (by omega) hk (by omega)
  · intro x hx hlt
    obtain ⟨j, hj, rfl⟩ := List.getElem_of_mem hx
    by_cases hjk : j < k
    · exfalso
      rw [if_neg (by omega), hg (k - 1) (by omega)] at hlt
      by_cases h1 : j = k - 1
      · subst h1; omega
      · have := hl j (k - 1) hj (by omega) (by omega)
        omega
    · by_cases h1 : j = k
      · subst h1; omega
      · have := hl k j hk hj (by omega)
        omega
/-- The least of the first i that is above last: where it stands. -/
def Least (M : TM) (last : Int) (i : Nat) (a : Int) : Prop := (a = -1 ∧ ∀ j, j < i → (M.getD j default).1 ≤ last) ∨ ∃ m : Nat, a = (m : Int) ∧ m < i ∧ last < (M.getD m default).1 ∧ ∀ j, j < i → last < (M.getD j default).1 → (M.getD m default).1 ≤ (M.getD j default).1
set_option maxHeartbeats 4000000 in
theorem r7sorted_gen (n : Int) (t : TR) (hlen : t.length ≤ 68157440) (hpf : ∀ r ∈ t, PF r.2 8589934592) (hnod : (keys (nrmT t)).Nodup) (hpos : ∀ b ∈ keys (nrmT t), 0 ≤ b) : NewS Tryz.prog 64 [cT n t] 84 2 [.int .i64 n] (· = tab rowU (sortM (nrmT t))) := by
  have hml := nrmT_len t
  have hnd := fun i (hi : i < t.length) => nrmT_getD hi
  have hno : ∀ i, i < t.length → Pure Tryz.prog 86 [cF (t.getD i default).2] (· = cL (normF (vals (t.getD i default).2))) := fun i hi => f6norm_ok _ (hpf _ (getD_mem hi)) (by omega)
  have hll : (sortK (keys (nrmT t))).length = t.length := by rw [sortK_len, keys_len, hml]
  have hlast := fun k (hk : k < (sortK (keys (nrmT t))).length) => next_least (sortK_lt hnod) (fun x hx => hpos x (mem_sortK.1 hx)) hk
  have hkm : ∀ k, k < (sortK (keys (nrmT t))).length → ∃ j, j < (nrmT t).length ∧ ((nrmT t).getD j default).1 = (sortK (keys (nrmT t))).getD k 0 := fun k hk => by
    have : (sortK (keys (nrmT t))).getD k 0 ∈ keys (nrmT t) := mem_sortK.1 (by simp [List.getD_eq_getElem?_getD, hk])
    obtain ⟨j, _, h2, h3, _⟩ := look_idx this
    exact ⟨j, h2, h3⟩
  have hmk : ∀ m, m < (nrmT t).length → ((nrmT t).getD m default).1 ∈ sortK (keys (nrmT t)) := fun m hm => mem_sortK.2 (List.mem_map.2 ⟨_, getD_mem hm, rfl⟩)
  have hst : ∀ k m, k < (sortK (keys (nrmT t))).length → m < (nrmT t).length → ((nrmT t).getD m default).1 = (sortK (keys (nrmT t))).getD k 0 → (sortM (nrmT t)).take (k + 1) = (sortM (nrmT t)).take k ++ [(nrmT t).getD m default] := fun k m hk hm he => by
    rw [take_snoc (by rw [sortM_len, hml, ← hll]; exact hk), sortM_getD hk, ← he]
    have := idx_nodup hnod hm
    rw [(idx_some this).2.2.1]
    rfl
  have h0 : (sortM (nrmT t)).take 0 = [] := rfl
  have hall : (sortM (nrmT t)).take t.length = sortM (nrmT t) := by rw [← hml, ← sortM_len, List.take_length]
  have hln : ∀ i, i ≤ t.length → ((sortM (nrmT t)).take i).length = i := fun i hi => by rw [List.length_take, sortM_len]; omega
  clear hpf hnod hpos
  unfold cT at *
  rw [← hall]
  clear hall
  generalize hE : (fun i => (sortM (nrmT t)).take i) = E at *
  have hE' : ∀ i, (sortM (nrmT t)).take i = E i := fun i => congrFun hE i
  simp only [hE'] at *
  clear hE hE'
  generalize sortK (keys (nrmT t)) = l at *
  generalize nrmT t = M at *
  (refine newS_of_W (T := 84) (k := 2) (pre := [.int .i64 n]) Tryz.func64 rfl (rs := [Go.ResultVar.cell 2 24]) rfl (nt := 73) rfl rfl ?_; simp only [List.length_cons, List.length_nil, List.replicate, List.cons_append, List.nil_append])
  (refine aUc ?_)
  refine W.le ?_ (Le_nilO 3 0 1 70 84 2 true rfl rfl rfl rfl)
  simp only [List.set]
  refine W_seq ?_
  refine W_block (W_loop (fun s : {k : Nat // k ≤ t.length} =>
      ⟨(.any :: (.ptr 1 0 0) :: (.ptr 2 0 0) :: (.ptr 3 0 0) :: (.int .i64 (lastK l s.1)) :: .any :: .any :: .any :: .any :: .any :: .any :: .any :: .any :: .any :: .any :: .any :: .any :: .any :: .any :: .any :: .any :: .any :: .any :: .any :: .any :: .any :: .any :: .any :: .any :: .any :: .any :: .any :: .any :: .any :: .any :: .any :: .any :: .any :: .any :: .any :: .any :: .any :: .any :: .any :: .any :: .any :: .any :: .any :: .any :: .any :: .any :: .any :: .any :: .any :: .any :: .any :: .any :: .any :: .any :: .any :: .any :: .any :: .any :: .any :: .any :: .any :: .any :: .any :: .any :: .any :: .any :: .any :: .any :: []),
       (.dead :: (.arr 24 2 false [[.int .i64 n, .sl (tab rowT t)]]) :: (.arr 24 2 false [[.int .i64 0, .nils]]) :: (.arr 24 2 false [[.int .i64 n, .sref 70 0 s.1]]) :: .dead :: .dead :: .dead :: .dead :: .dead :: .dead :: .dead :: .dead :: .dead :: .dead :: .dead :: .dead :: .dead :: .dead :: .dead :: .dead :: .dead :: .dead :: .dead :: .dead :: .dead :: .dead :: .dead :: .dead :: .dead :: .dead :: .dead :: .dead :: .dead :: .dead :: .dead :: .dead :: .dead :: .dead :: .dead :: .dead :: .dead :: .dead :: .dead :: .dead :: .dead :: .dead :: .dead :: .dead :: .dead :: .dead :: .dead :: .dead :: .dead :: .dead :: .dead :: .dead :: .dead :: .dead :: .dead :: .dead :: .dead :: .dead :: .dead :: .dead :: .dead :: .dead :: .dead :: .dead :: .dead :: .dead :: (.arr 84 2 true (tab rowU (E s.1))) :: .dead :: .dead :: [])⟩) (fun s => t.length - s.1)
      ⟨0, by omega⟩ (Le_drop (by simp [leE, lastK]) (by simp [leH, h0, tab]) rfl rfl) fun s => ?_)
  obtain ⟨k, hk⟩ := s
  dsimp only
  by_cases hlt : k < t.length
  · obtain ⟨hgt, hleast⟩ := hlast k (by omega)
    have hstk := hst k
    have hlk := hln k (by omega)
    obtain ⟨j0, hj0, hj1⟩ := hkm k (by omega)
    have hls := lastK_succ l k
    generalize hlv : l.getD k 0 = v at *
    generalize hla : lastK l k = last at *
    generalize hE1 : E (k + 1) = o' at *
    generalize E k = o at *
    refine W_seq ?_
    ((refine W_seqV ?_); intro K hK; (refine sUcX hlt ?_))
    (refine hK _ ?_; clear hK K)
    (refine W_cond rfl (fun _ => ?_) (fun h => by cases h))
    refine W_skip ?_
    simp only [thenW]
    refine W_block ?_
    (refine aUc ?_)
    refine W_seq ?_
    ((refine W_seqV ?_); intro K hK; (refine sUc ?_))
    (refine hK _ ?_; clear hK K)
    refine W_block (W_loop (fun s : {p : Nat × Int // p.1 ≤ t.length ∧ Least M last p.1 p.2} =>
      ⟨(.any :: (.ptr 1 0 0) :: (.ptr 2 0 0) :: (.ptr 3 0 0) :: (.int .i64 last) :: (.int .i64 s.1.2) :: (.int .i64 s.1.1) :: .any :: .any :: .any :: .any :: .any :: .any :: .any :: .any :: .any :: .any :: .any :: .any :: .any :: .any :: .any :: .any :: .any :: .any :: .any :: .any :: .any :: .any :: .any :: .any :: .any :: .any :: .any :: .any :: .any :: .any :: .any :: .any :: .any :: .any :: .any :: .any :: .any :: .any :: .any :: .any :: .any :: .any :: .any :: .any :: .any :: .any :: .any :: .any :: .any :: .any :: .any :: .any :: .any :: .any :: .any :: .any :: .any :: .any :: .any :: .any :: .any :: .any :: .any :: .any :: .any :: .any :: []),
       (.dead :: (.arr 24 2 false [[.int .i64 n, .sl (tab rowT t)]]) :: (.arr 24 2 false [[.int .i64 0, .nils]]) :: (.arr 24 2 false [[.int .i64 n, .sref 70 0 k]]) :: .dead :: .dead :: .dead :: .dead :: .dead :: .dead :: .dead :: .dead :: .dead :: .dead :: .dead :: .dead :: .dead :: .dead :: .dead :: .dead :: .dead :: .dead :: .dead :: .dead :: .dead :: .dead :: .dead :: .dead :: .dead :: .dead :: .dead :: .dead :: .dead :: .dead :: .dead :: .dead :: .dead :: .dead :: .dead :: .dead :: .dead :: .dead :: .dead :: .dead :: .dead :: .dead :: .dead :: .dead :: .dead :: .dead :: .dead :: .dead :: .dead :: .dead :: .dead :: .dead :: .dead :: .dead :: .dead :: .dead :: .dead :: .dead :: .dead :: .dead :: .dead :: .dead :: .dead :: .dead :: .dead :: .dead :: (.arr 84 2 true (tab rowU o)) :: .dead :: .dead :: [])⟩) (fun s => t.length - s.1.1)
      ⟨(0, -1), by omega, .inl ⟨rfl, by omega⟩⟩ (Le_drop (by simp [leE]) (by simp [leH]) rfl rfl) fun s => ?_)
    obtain ⟨⟨i, a⟩, hi, ha⟩ := s
    dsimp only at *
    by_cases hil : i < t.length
    · have hti : (tab rowT t).getD i [] = rowT (t.getD i default) := tab_getD hil
      have hMi : (M.getD i default).1 = (t.getD i default).1 := by rw [hnd i hil]
      have hno1 : (M.getD i default).1 ≤ last → Least M last i a → Least M last (i + 1) a := fun h1 h2 => by
        rcases h2 with ⟨h3, h4⟩ | ⟨m, h3, h4, h5, h6⟩
        · exact .inl ⟨h3, fun j hj => by
            by_cases hji : j = i
            · subst hji; exact h1
            · exact h4 j (by omega)⟩
        · exact .inr ⟨m, h3, by omega, h5, fun j hj hl => by
            by_cases hji : j = i
            · subst hji; omega
            · exact h6 j (by omega) hl⟩
      have hnew : last < (M.getD i default).1 → (∀ j, j < i → last < (M.getD j default).1 → (M.getD i default).1 ≤ (M.getD j default).1) → Least M last (i + 1) (i : Int) := fun h1 h2 =>
        .inr ⟨i, rfl, by omega, h1, fun j hj hl => by
          by_cases hji : j = i
          · subst hji; exact Int.le_refl _
          · exact h2 j (by omega) hl⟩
      have hold : ∀ m : Nat, m < i → last < (M.getD m default).1 → (∀ j, j < i → last < (M.getD j default).1 → (M.getD m default).1 ≤ (M.getD j default).1) → (M.getD m default).1 ≤ (M.getD i default).1 → Least M last (i + 1) (m : Int) := fun m h1 h2 h3 h4 =>
        .inr ⟨m, rfl, by omega, h2, fun j hj hl => by
          by_cases hji : j = i
          · subst hji; exact h4
          · exact h3 j (by omega) hl⟩
      rw [hMi] at hno1 hnew hold
      generalize t.getD i default = r at *
      obtain ⟨b, f⟩ := r
      simp only [rowT] at hti
      dsimp only at *
      refine W_seq ?_
      ((refine W_seqV ?_); intro K hK; (refine sUcX hil ?_))
      (refine hK _ ?_; clear hK K)
      (refine W_cond rfl (fun _ => ?_) (fun h => by cases h))
      refine W_skip ?_
      simp only [thenW]
      refine W_seq ?_
      refine W_block ?_
      refine W_seq ?_
      by_cases c1 : last < b
      · rcases ha with ⟨rfl, hle⟩ | ⟨m, rfl, hm, hmgt, hmle⟩
        · ((refine W_regD mixed [] (by kernel_rfl) ?_); intro K hK; (refine sUcX (And.intro hti (And.intro hil c1)) ?_))
          (refine hK _ ?_; clear hK K)
          simp only [thenW]
          (refine W_cond rfl (fun _ => ?_) (fun h => by cases h))
          ((refine W_regV ?_); intro K hK; (refine sUc ?_))
          (refine hK _ ?_; clear hK K)
          simp only [thenW, blockW]
          ((refine W_regV ?_); intro K hK; (refine sUc ?_))
          (refine hK _ ?_; clear hK K)
          simp only [blockW, thenW]
          refine ⟨⟨(i + 1, (i : Int)), by dsimp only; omega, hnew c1 fun j hj hl => by have := hle j hj; omega⟩, Le_drop (by simp [leE]) (by simp [leH]) rfl rfl, ?_⟩
          dsimp only
          omega
        · have hXm : (tab rowT t).getD m [] = rowT (t.getD m default) := tab_getD (by omega)
          have hMm : (M.getD m default).1 = (t.getD m default).1 := by rw [hnd m (by omega)]
          have hm0 : ¬ ((m : Int) < 0) := by omega
          have hmt : m < t.length := by omega
          have hold2 := hold m hm hmgt hmle
          rw [hMm] at hold2 hmgt hmle
          generalize t.getD m default = r2 at *
          obtain ⟨b2, f2⟩ := r2
          simp only [rowT] at hXm
          dsimp only at *
          by_cases c2 : b < b2
          · ((refine W_regD mixed [] (by kernel_rfl) ?_); intro K hK; (refine sUcX (And.intro hti (And.intro hil (And.intro c1 (And.intro hXm (And.intro hmt (And.intro hm0 c2)))))) ?_))
            (refine hK _ ?_; clear hK K)
            simp only [thenW]
            (refine W_cond rfl (fun _ => ?_) (fun h => by cases h))
            ((refine W_regV ?_); intro K hK; (refine sUc ?_))
            (refine hK _ ?_; clear hK K)
            simp only [thenW, blockW]
            ((refine W_regV ?_); intro K hK; (refine sUc ?_))
            (refine hK _ ?_; clear hK K)
            simp only [blockW, thenW]
            refine ⟨⟨(i + 1, (i : Int)), by dsimp only; omega, hnew c1 fun j hj hl => by have := hmle j hj hl; omega⟩, Le_drop (by simp [leE]) (by simp [leH]) rfl rfl, ?_⟩
            dsimp only
            omega
          · ((refine W_regD mixed [] (by kernel_rfl) ?_); intro K hK; (refine sUcX (And.intro hti (And.intro hil (And.intro c1 (And.intro hXm (And.intro hmt (And.intro hm0 c2)))))) ?_))
            (refine hK _ ?_; clear hK K)
            simp only [thenW]
            (refine W_cond rfl (fun h => by cases h) (fun _ => ?_))
            refine W_skip ?_
            simp only [thenW, blockW]
            ((refine W_regV ?_); intro K hK; (refine sUc ?_))
            (refine hK _ ?_; clear hK K)
            simp only [blockW, thenW]
            refine ⟨⟨(i + 1, (m : Int)), by dsimp only; omega, hold2 (by omega)⟩, Le_drop (by simp [leE]) (by simp [leH]) rfl rfl, ?_⟩
            dsimp only
            omega
      · ((refine W_regD mixed [] (by kernel_rfl) ?_); intro K hK; (refine sUcX (And.intro hti (And.intro hil c1)) ?_))
        (refine hK _ ?_; clear hK K)
        simp only [thenW]
        (refine W_cond rfl (fun h => by cases h) (fun _ => ?_))
        refine W_skip ?_
        simp only [thenW, blockW]
        ((refine W_regV ?_); intro K hK; (refine sUc ?_))
        (refine hK _ ?_; clear hK K)
        simp only [blockW, thenW]
        refine ⟨⟨(i + 1, a), by dsimp only; omega, hno1 (by omega) ha⟩, Le_drop (by simp [leE]) (by simp [leH]) rfl rfl, ?_⟩
        dsimp only
        omega
    · obtain rfl : i = t.length := by omega
      obtain ⟨m, rfl, hm, hmgt, hmle⟩ : ∃ m : Nat, a = (m : Int) ∧ m < t.length ∧ last < (M.getD m default).1 ∧ ∀ j, j < t.length → last < (M.getD j default).1 → (M.getD m default).1 ≤ (M.getD j default).1 := by
        rcases ha with ⟨_, h⟩ | h
        · have := h j0 (by omega)
          omega
        · exact h
      have hmv : (M.getD m default).1 = v := by
        have e1 := hmle j0 (by omega) (by omega)
        have e2 := hleast _ (hmk m (by omega)) hmgt
        omega
      have hst2 := hstk m (by omega) (by omega) hmv
      have hXm : (tab rowT t).getD m [] = rowT (t.getD m default) := tab_getD hm
      have hnom := hno m hm
      rw [hnd m hm] at hst2 hmv
      generalize t.getD m default = r2 at *
      obtain ⟨b2, f2⟩ := r2
      simp only [rowT] at hXm
      dsimp only at *
      simp only [cF, cL] at hnom
      subst hmv
      refine W_seq ?_
      ((refine W_seqV ?_); intro K hK; (refine sUc ?_))
      (refine hK _ ?_; clear hK K)
      (refine W_cond rfl (fun h => by cases h) (fun _ => ?_))
      refine W_exit ?_
      simp only [thenW, blockW, if_true]
      ((refine W_seqV ?_); intro K hK; (refine sUcX (And.intro hXm hm) ?_))
      (refine hK _ ?_; clear hK K)
      ((refine W_regS mixed 12 [] (by kernel_rfl) ?_); intro K hK; (refine sUcX (And.intro hXm hm) ?_))
      (refine ⟨by kernel_rfl, _, .pure rfl (hnom), ?_⟩; (try (refine sUc ?_)); (repeat refine aI ?_))
      (refine hK _ ?_; clear hK K)
      simp only [thenW, blockW]
      refine ⟨⟨k + 1, by omega⟩, Le_drop (by simp [leE, hls]) (by simp [leH, hE1, hst2, ← tab_snoc, rowU, tab_take, List.take_of_length_le, hlk]) rfl rfl, ?_⟩
      dsimp only
      omega
  · obtain rfl : k = t.length := by omega
    refine W_seq ?_
    ((refine W_seqV ?_); intro K hK; (refine sUc ?_))
    (refine hK _ ?_; clear hK K)
    (refine W_cond rfl (fun h => by cases h) (fun _ => ?_))
    refine W_exit ?_
    simp only [thenW, blockW, if_true]
    have hlk := hln t.length (Nat.le_refl _)
    generalize E t.length = o at *
    (refine aUc ?_)
    refine W_ret ?_
    (simp only [thenW, blockW, newSQ, resW, resV, asOne_one, List.getD_cons_zero, List.getD_cons_succ, newSK])
    (refine sUc ?_; try exact True.intro)
    skip
    exact ⟨_, rfl, _, rfl, by rw [tab_length, hlk], rfl, rfl⟩
theorem r7sorted_new (n : Int) (t : TR) (hT : TG t) (hnod : (keys (nrmT t)).Nodup) (hpos : ∀ b ∈ keys (nrmT t), 0 ≤ b) : NewS Tryz.prog 64 [cT n t] 84 2 [.int .i64 n] (· = tab rowU (sortM (nrmT t))) :=
  r7sorted_gen n t hT.len (fun r hr => (hT.pf hr).mono (by omega)) hnod hpos
theorem r7sorted_ok (n : Int) (t : TR) (hT : TG t) (hnod : (keys (nrmT t)).Nodup) (hpos : ∀ b ∈ keys (nrmT t), 0 ≤ b) : Pure Tryz.prog 64 [cT n t] (· = cU n (sortM (nrmT t))) :=
  (r7sorted_new n t hT hnod hpos).pure.mono fun r ⟨rows, h1, h2⟩ => by
    subst h1
    exact h2
end Go.Proofs.YtjmpajgjaefcjaaGreat.Vm

namespace Go.Proofs.YtjmpajgjaefcjaaGreat.Vm
open Go Go.RowKit
theorem sUd {G G':Prop} (h:G') (e:G=G':=by conv=>lhs;simp (disch:=omega) only [rowsOf,cNat,cN,St.ret,St.seth,Eff.app,Eff.wi,sepL,guardOf,St.known,objOf,List.set,sliceW,litW,copyW,lenOf,bnd,mxOk,ofCells,TI.isAgg,cellsOf,storable,AV.one,dead,laid,overlay,reduceCtorEq,Int.reduceLE,Int.reduceLT,Int.reduceSub,Int.reduceAdd,Nat.reduceMul,Int.reduceToNat,Nat.reducePow,Int.reduceNeg,Nat.reduceAdd,Nat.reduceLT,Nat.reduceLeDiff,sA,sB,Nat.reduceEqDiff,cQ,rowQ,rowU,rowT,rowM,i64s_getD,i64s_length,i64s_all,tab_length,tab_drop,tab_take,tab_append,tab_nil,rowT_all,rowT_one,rowT_pure,rowU_all,rowU_one,rowU_pure,rowQ_all,rowQ_one,rowQ_pure,rowM_all,rowM_one,rowM_pure,List.take_length,List.length_append,sT]):G:=e.mpr h
theorem sUdV {G G':Prop} (h:G') (e:G=G':=by conv=>lhs;simp (disch:=omega) only [rowsOf,cNat,cN,St.ret,St.seth,Eff.app,Eff.wi,sepL,guardOf,St.known,objOf,List.set,sliceW,litW,copyW,lenOf,bnd,mxOk,ofCells,TI.isAgg,cellsOf,storable,AV.one,dead,laid,overlay,reduceCtorEq,Int.reduceLE,Int.reduceLT,Int.reduceSub,Int.reduceAdd,Nat.reduceMul,Int.reduceToNat,Nat.reducePow,Int.reduceNeg,Nat.reduceAdd,Nat.reduceLT,Nat.reduceLeDiff,sA,sB,Nat.reduceEqDiff,cQ,rowQ,rowU,rowT,rowM,i64s_getD,i64s_length,i64s_all,tab_length,tab_drop,tab_take,tab_append,tab_nil,rowT_all,rowT_one,rowT_pure,rowU_all,rowU_one,rowU_pure,rowQ_all,rowQ_one,rowQ_pure,rowM_all,rowM_one,rowM_pure,List.take_length,List.length_append,sT,view_sref,viewRef,view_agg,views_cons,views_nil,view_bool,view_int,view_sl,view_nils,view_str,view_tup,view_nilif]):G:=e.mpr h
theorem aUd {G G':Prop} (h:G') (f:Wr G'→G:=by intro h;(repeat (first|(refine W_seqV fun K hK=>?_;(try (refine sUd ?_;try exact True.intro));(repeat refine aI ?_);refine hK _ ?_;clear hK K)|(refine W_seqR fun K hK=>?_;(try (refine sUd ?_;try exact True.intro));(repeat refine aI ?_);refine hK _ ?_;clear hK K)|(refine W_seqD mixed [] (by kernel_rfl) fun K hK=>?_;(try (refine sUd ?_;try exact True.intro));(repeat refine aI ?_);refine hK _ ?_;clear hK K)));exact h.out):G:=f ⟨h⟩
theorem TG.sorted {t:TR} (h:TG t) {n:Int} (hg:goodB n (nrmT t)=true):Pure Tryz.prog 64 [cT n t] (·=cU n (sortM (nrmT t))) :=
 r7sorted_ok n t h (gt_iff.1 hg).nodup fun b hb=>((gt_iff.1 hg).range b hb).1
theorem r7norm_ok (n:Int) (t:TR) (hT:TG t):Pure Tryz.prog 33 [cT n t] (·=normV n t):=by
 have a1:=r7check_ok n t hT
 have a2:=fun hg=>hT.sorted (n:=n) hg
 unfold normV
 unfold cT cU at *
 have hz:tab rowU []=[]:=rfl
 rw [hz]
 generalize goodB n (nrmT t)=gb at *
 cases gb
 ·simp only [Bool.false_eq_true,if_false] at a1 ⊢
  (refine pureW Tryz.func33 rfl (rs:=[Go.ResultVar.cell 2 24,Go.ResultVar.tmp 3]) rfl (n:=13) rfl ?_;simp only [List.length_cons,List.length_nil,List.replicate,List.cons_append,List.nil_append])
  (refine aUd ?_)
  ((refine W_seq (W_seqV ?_));intro K hK;(refine sUd ?_))
  (refine ⟨by kernel_rfl,_,.pure rfl (a1),?_⟩;(try (refine sUd ?_)))
  (refine hK _ ?_;clear hK K)
  (repeat' (first | (exfalso;simp at h;done) | (refine W_seqV fun K hK=>?_;(try (refine sUd ?_));refine hK _ ?_;clear hK K) | (refine W_ret ?_;(refine qG ?_)) | (refine W_cond rfl (fun h=>?_) (fun h=>?_) <;> (try simp only [cond_true,cond_false,ne_eq,cB] at h))))
  (try (refine sUdV ?_;try exact True.intro))
 ·simp only [if_true] at a1 ⊢
  have a2':=a2 rfl
  (refine pureW Tryz.func33 rfl (rs:=[Go.ResultVar.cell 2 24,Go.ResultVar.tmp 3]) rfl (n:=13) rfl ?_;simp only [List.length_cons,List.length_nil,List.replicate,List.cons_append,List.nil_append])
  (refine aUd ?_)
  ((refine W_seq (W_seqV ?_));intro K hK;(refine sUd ?_))
  (refine ⟨by kernel_rfl,_,.pure rfl (a1),?_⟩;(try (refine sUd ?_)))
  (refine hK _ ?_;clear hK K)
  (repeat' (first | (exfalso;simp at h;done) | (refine W_seqV fun K hK=>?_;(try (refine sUd ?_));refine hK _ ?_;clear hK K) | refine W_skip ?_ | (refine W_cond rfl (fun h=>?_) (fun h=>?_) <;> (try simp only [cond_true,cond_false,ne_eq,cB] at h)) | refine W_seq ?_))
  ((refine W_regV ?_);intro K hK;(refine sUd ?_))
  (refine ⟨by kernel_rfl,_,.pure rfl (a2'),?_⟩;(try (refine sUd ?_)))
  (refine hK _ ?_;clear hK K)
  (repeat' (refine W_ret ?_;(refine qG ?_)))
  (try (refine sUdV ?_;try exact True.intro))
theorem sQh {G G':Prop} (h:G') (e:G=G':=by conv=>lhs;simp (disch:=omega) only [rowsOf,cNat,cN,St.ret,St.seth,Eff.app,Eff.wi,sepL,guardOf,St.known,objOf,List.set,sliceW,litW,copyW,lenOf,bnd,mxOk,ofCells,TI.isAgg,cellsOf,storable,AV.one,dead,laid,overlay,reduceCtorEq,Int.reduceLE,Int.reduceLT,Int.reduceSub,Int.reduceAdd,Nat.reduceMul,Int.reduceToNat,Nat.reducePow,Int.reduceNeg,Nat.reduceAdd,Nat.reduceLT,Nat.reduceLeDiff,sA,sB,Nat.reduceEqDiff,cQ,rowQ,rowU,rowT,rowM,tab_length,List.take_length,List.length_append,tab_drop,tab_take,tab_append,tab_nil,rowQ_all,rowQ_one,rowQ_pure,rowM_all,rowM_one,rowM_pure,rowI_all,rowI_one,rowI_pure,rowT_all,rowT_one,rowT_pure,rowU_all,rowU_one,rowU_pure,rowL_all,rowL_one,rowL_pure,sT]):G:=e.mpr h
theorem sQhX {G G' P:Prop} (p:P) (h:G') (e:P→G=G':=by intro p;conv=>lhs;simp (disch:=omega) only [rowsOf,cNat,cN,St.ret,St.seth,Eff.app,Eff.wi,sepL,guardOf,St.known,objOf,List.set,sliceW,litW,copyW,lenOf,bnd,mxOk,ofCells,TI.isAgg,cellsOf,storable,AV.one,dead,laid,overlay,reduceCtorEq,Int.reduceLE,Int.reduceLT,Int.reduceSub,Int.reduceAdd,Nat.reduceMul,Int.reduceToNat,Nat.reducePow,Int.reduceNeg,Nat.reduceAdd,Nat.reduceLT,Nat.reduceLeDiff,sA,sB,Nat.reduceEqDiff,cQ,rowQ,rowU,rowT,rowM,tab_length,List.take_length,List.length_append,tab_drop,tab_take,tab_append,tab_nil,rowQ_all,rowQ_one,rowQ_pure,rowM_all,rowM_one,rowM_pure,rowI_all,rowI_one,rowI_pure,rowT_all,rowT_one,rowT_pure,rowU_all,rowU_one,rowU_pure,rowL_all,rowL_one,rowL_pure,sT,p]):G:=(e p).mpr h
theorem sQhV {G G':Prop} (h:G') (e:G=G':=by conv=>lhs;simp (disch:=omega) only [rowsOf,cNat,cN,St.ret,St.seth,Eff.app,Eff.wi,sepL,guardOf,St.known,objOf,List.set,sliceW,litW,copyW,lenOf,bnd,mxOk,ofCells,TI.isAgg,cellsOf,storable,AV.one,dead,laid,overlay,reduceCtorEq,Int.reduceLE,Int.reduceLT,Int.reduceSub,Int.reduceAdd,Nat.reduceMul,Int.reduceToNat,Nat.reducePow,Int.reduceNeg,Nat.reduceAdd,Nat.reduceLT,Nat.reduceLeDiff,sA,sB,Nat.reduceEqDiff,cQ,rowQ,rowU,rowT,rowM,tab_length,List.take_length,List.length_append,tab_drop,tab_take,tab_append,tab_nil,rowQ_all,rowQ_one,rowQ_pure,rowM_all,rowM_one,rowM_pure,rowI_all,rowI_one,rowI_pure,rowT_all,rowT_one,rowT_pure,rowU_all,rowU_one,rowU_pure,rowL_all,rowL_one,rowL_pure,sT,view_sref,viewRef,view_agg,views_cons,views_nil,view_bool,view_int,view_sl,view_nils,view_str,view_tup,view_nilif]):G:=e.mpr h
theorem aQh {G G':Prop} (h:G') (f:Wr G'→G:=by intro h;(repeat (first|(refine W_seqV fun K hK=>?_;(try (refine sQh ?_;try exact True.intro));(repeat refine aI ?_);refine hK _ ?_;clear hK K)|(refine W_seqR fun K hK=>?_;(try (refine sQh ?_;try exact True.intro));(repeat refine aI ?_);refine hK _ ?_;clear hK K)|(refine W_seqD mixed [] (by kernel_rfl) fun K hK=>?_;(try (refine sQh ?_;try exact True.intro));(repeat refine aI ?_);refine hK _ ?_;clear hK K)));exact h.out):G:=f ⟨h⟩
def tiL (ls:List LL) (r:Int × List (Int × Rat)):List II:=tightTo ls (rowsTo ls (eqnF ⟨r.1,rf r.2⟩) (eqnF ⟨r.1,rf r.2⟩).length) (rowsTo ls (eqnF ⟨r.1,rf r.2⟩) (eqnF ⟨r.1,rf r.2⟩).length).length
def allI (ls:List LL) (N:TM):Nat→List II
 | 0=>[]
 | k+1=>allI ls N k++tiL ls (N.getD k default)
def allV (n:Int) (t:TR) (ls:List LL):AV:=if goodB n (nrmT t) then .tup [.sl (tab rowIm (allI ls (sortM (nrmT t)) (sortM (nrmT t)).length)),.int .i64 0] else .tup [.sl [],.int .i64 70]
theorem tiL_len (ls:List LL) (r:Int × List (Int × Rat)):(tiL ls r).length≤2*(nbs r.2+1):=by
 have h1:=tight_len ls (rowsTo ls (eqnF ⟨r.1,rf r.2⟩) (eqnF ⟨r.1,rf r.2⟩).length) (rowsTo ls (eqnF ⟨r.1,rf r.2⟩) (eqnF ⟨r.1,rf r.2⟩).length).length
 have h2:=rowsTo_len ls (eqnF ⟨r.1,rf r.2⟩) (eqnF ⟨r.1,rf r.2⟩).length
 have h3:(eqnF ⟨r.1,rf r.2⟩).length≤nbs r.2+1:=by
  unfold eqnF subF
  dsimp only
  rw [vals_rf,norm_one]
  have h4:=len_norm (r.2++negF [(r.1,1)])
  have h5:=nbs_len r.2
  simp only [List.length_append,negF,scaleF,List.length_map,List.length_cons,List.length_nil] at *
  omega
 unfold tiL
 omega
theorem tb_snoc (M:TM) (r:Int × List (Int × Rat)):tb (M++[r])=tb M+(nbs r.2+1):=by
 induction M with
 | nil=>simp [tb];try omega
 | cons q M ih=>simp only [List.cons_append,tb,ih];omega
theorem allI_len (ls:List LL) (N:TM):∀ k,k≤N.length→(allI ls N k).length≤2*tb (N.take k)
 | 0,_=>Nat.zero_le _
 | k+1,hk=>by
  have h1:=allI_len ls N k (by omega)
  have h2:=tiL_len ls (N.getD k default)
  rw [take_snoc (show k<N.length by omega),tb_snoc]
  simp only [allI,List.length_append]
  omega
theorem row_rw (r:Int × List (Int × Rat)):Rw.cells ⟨r.1,rf r.2⟩=[.int .i64 r.1,.sl (tab rowQ r.2)]:=by
 unfold Rw.cells
 rw [tab_rf]
theorem rw_ok {r:Int × List (Int × Rat)} (h:nbs r.2≤68157440):RwOk ⟨r.1,rf r.2⟩:=⟨FOk.rf ((Sz.of _).mono h) (by omega),by rw [vals_rf];exact h⟩
set_option maxHeartbeats 4000000 in
theorem iall_ok (n:Int) (t:TR) (ls:List LL) (hT:TOk t) (hL:LsOk ls):Pure Tryz.prog 59 [cT n t,.sl (tab rowL ls)] (·=allV n t ls):=by
 have a1:=tnorm_ok n t hT
 have htb:=hT.tb
 unfold normV at a1
 unfold allV
 unfold cT cU at *
 have hrow:goodB n (nrmT t)=true→∀ k,k<(sortM (nrmT t)).length→∃ b f,(tab rowU (sortM (nrmT t))).getD k []=[.int .i64 b,.sl (tab rowQ f)]∧Pure Tryz.prog 105 [.agg [.int .i64 b,.sl (tab rowQ f)],.sl (tab rowL ls)] (· = .sl (tab rowIm (tiL ls ((sortM (nrmT t)).getD k default)))):=fun hg k hk=>by
  have hm:=getD_mem hk
  have hs:=(sortM_perm (gt_iff.1 hg).nodup).mem_iff.1 hm
  have hn:nbs ((sortM (nrmT t)).getD k default).2≤68157440:=by have:=tb_mem hs;omega
  refine ⟨_,_,tab_getD hk,?_⟩
  have h:=itighter_ok _ ls (rw_ok hn) hL
  rw [row_rw] at h
  exact h
 have hlen:goodB n (nrmT t)=true→∀ k,k≤(sortM (nrmT t)).length→(allI ls (sortM (nrmT t)) k).length≤136314880:=fun hg k hk=>by
  have h1:=allI_len ls (sortM (nrmT t)) k hk
  have h2:=tb_take (sortM (nrmT t)) k
  have h3:=tb_perm (sortM_perm (gt_iff.1 hg).nodup)
  omega
 have hnl:goodB n (nrmT t)=true→(sortM (nrmT t)).length≤68157440:=fun hg=>by rw [sortM_len,nrmT_len];exact hT.len
 have hst:∀ k,allI ls (sortM (nrmT t)) (k+1)=allI ls (sortM (nrmT t)) k++tiL ls ((sortM (nrmT t)).getD k default):=fun k=>rfl
 have h0:allI ls (sortM (nrmT t)) 0=[]:=rfl
 generalize goodB n (nrmT t)=gb at *
 generalize allI ls (sortM (nrmT t))=E at *
 generalize sortM (nrmT t)=N at *
 cases gb
 ·simp only [Bool.false_eq_true,if_false] at a1 ⊢
  (refine pureW Tryz.func59 rfl (rs:=[Go.ResultVar.tmp 4,Go.ResultVar.tmp 5]) rfl (n:=32) rfl ?_;simp only [List.length_cons,List.length_nil,List.replicate,List.cons_append,List.nil_append])
  (refine aQh ?_)
  ((refine W_seqV ?_);intro K hK;(refine sQh ?_))
  (refine ⟨by kernel_rfl,_,.pure rfl (a1),?_⟩;(try (refine sQh ?_)))
  (refine hK _ ?_;clear hK K)
  (repeat' (first | (exfalso;simp at h;done) | (refine W_seqV fun K hK=>?_;(try (refine sQh ?_));refine hK _ ?_;clear hK K) | (refine W_ret ?_;(refine qG ?_;try exact True.intro)) | (refine W_cond rfl (fun h=>?_) (fun h=>?_) <;> (try simp only [cond_true,cond_false,ne_eq,cB] at h)) | refine W_seq ?_))
 simp only [if_true] at a1 ⊢
 replace hrow:=hrow rfl
 replace hlen:=hlen rfl
 replace hnl:=hnl rfl
 (refine pureW Tryz.func59 rfl (rs:=[Go.ResultVar.tmp 4,Go.ResultVar.tmp 5]) rfl (n:=32) rfl ?_;simp only [List.length_cons,List.length_nil,List.replicate,List.cons_append,List.nil_append])
 (refine aQh ?_)
 ((refine W_seqV ?_);intro K hK;(refine sQh ?_))
 (refine ⟨by kernel_rfl,_,.pure rfl (a1),?_⟩;(try (refine sQh ?_)))
 (refine hK _ ?_;clear hK K)
 refine W_seq ?_
 ((refine W_seqV ?_);intro K hK;(refine sQh ?_))
 (refine hK _ ?_;clear hK K)
 (refine W_cf rfl ?_)
 refine W_skip ?_
 simp only [thenW]
 refine W_seq ?_
 ((refine W_regV ?_);intro K hK;(refine sQh ?_))
 (refine hK _ ?_;clear hK K)
 simp only [thenW]
 refine W.le ?_ (Le_nil 7 7 134 9 true rfl rfl)
 simp only [List.set]
 refine W_seq ?_
 ((refine W_seqV ?_);intro K hK;(refine sQh ?_))
 (refine hK _ ?_;clear hK K)
 refine W_block (W_loop (fun s:{k:Nat // k≤N.length} =>
   ⟨[.any,.sl (tab rowL ls),.any,.any,.any,.any,.any,.sref 7 0 (E s.1).length,.any,.any,.any,.any,.any,.any,.any,.any,.any,.any,.any,.sl (tab rowU N),.int .i64 N.length,.int .i64 s.1,.any,.any,.any,.any,.any,.any,.any,.any,.any,.any],[.dead,.dead,.dead,.dead,.dead,.dead,.dead,.arr 134 9 true (tab rowIm (E s.1)),.dead,.dead,.dead,.dead,.dead,.dead,.dead,.dead,.dead,.dead,.dead,.dead,.dead,.dead,.dead,.dead,.dead,.dead,.dead,.dead,.dead,.dead,.dead,.dead]⟩) (fun s=>N.length-s.1)
   ⟨0,by omega⟩ (Le_drop (by simp [leE,h0]) (by simp [leH,h0,tab]) rfl rfl) fun s=>?_)
 obtain ⟨k,hk⟩:=s
 dsimp only
 by_cases hlt:k<N.length
 ·obtain ⟨b,f,hNk,hti⟩:=hrow k hlt
  have hsk:=hst k
  have hlk:=hlen k hk
  have hlk1:=hlen (k+1) hlt
  rw [hsk,List.length_append] at hlk1
  generalize hE1:E (k+1)=o' at *
  generalize E k=o at *
  generalize tiL ls (N.getD k default)=R at *
  refine W_seq ?_
  ((refine W_regV ?_);intro K hK;(refine sQhX hlt ?_))
  (refine hK _ ?_;clear hK K)
  (refine W_seq (W_ct rfl ?_))
  refine W_skip ?_
  simp only [thenW]
  refine W_seq ?_
  refine W_block ?_
  ((refine W_seqV ?_);intro K hK;(refine sQhX (And.intro hlt hNk) ?_))
  (refine hK _ ?_;clear hK K)
  ((refine W_regT 4 fun K hK=>?_);(refine sQhX hlt ?_))
  (refine ⟨by kernel_rfl,_,.pure rfl (hti),?_⟩;(try (refine sQh ?_));(repeat refine aI ?_))
  (refine hK _ ?_;clear hK K)
  simp only [blockW,thenW]
  ((refine W_regV ?_);intro K hK;(refine sQh ?_))
  (refine hK _ ?_;clear hK K)
  simp only [blockW,thenW]
  refine ⟨⟨k+1,by omega⟩,Le_drop (by simp [leE,hE1,hsk]) (by simp [leH,hE1,hsk,← tab_append,List.take_of_length_le,tab_length]) rfl rfl,?_⟩
  dsimp only
  omega
 ·obtain rfl:k=N.length:=by omega
  have hlk:=hlen _ (Nat.le_refl _)
  generalize E N.length=oo at *
  refine W_seq ?_
  ((refine W_regV ?_);intro K hK;(refine sQh ?_))
  (refine hK _ ?_;clear hK K)
  (refine W_seq (W_cf rfl ?_))
  refine W_exit ?_
  simp only [thenW,blockW,if_true]
  (refine W.le ?_ (Le_freeze 7 (rows:=tab rowIm oo) rfl (by simp) (.inl rfl));simp only [St.freeze,List.map_cons,List.map_nil,List.set,if_true,if_false,Nat.reduceEqDiff,reduceCtorEq,List.drop_zero,u32s_take,u32s_drop,froz_any,froz_und,froz_int,froz_bool,froz_str,froz_nils,froz_sl,froz_ia,froz_nilp,froz_nilif,froz_nilfn,froz_nilmp,froz_gl,froz_sref,froz_ptr,froz_agg,froz_tup,froz_fn,froz_ifc,frozs_nil,frozs_cons,froz_dead,froz_arr,froz_mp,froz_it,froz_md,froz_map,froz_iter])
  (repeat' (first | (refine W_seqV fun K hK=>?_;(try (refine sQh ?_));refine hK _ ?_;clear hK K) | (refine W_ret ?_;(refine qG ?_;try exact True.intro))))
set_option maxHeartbeats 4000000 in
theorem f10all_ok (n:Int) (t:TR) (ls:List LL) (hT:TOk t) (hL:LsOk ls):Pure Tryz.prog 60 [cT n t,.sl (tab rowL ls)] (·=allV n t ls):=by
 have a1:=r7norm_ok n t hT
 have htb:=hT.tb
 unfold normV at a1
 unfold allV
 unfold cT cU at *
 have hrow:goodB n (nrmT t)=true→∀ k,k<(sortM (nrmT t)).length→∃ b f,(tab rowU (sortM (nrmT t))).getD k []=[.int .i64 b,.sl (tab rowQ f)]∧Pure Tryz.prog 106 [.agg [.int .i64 b,.sl (tab rowQ f)],.sl (tab rowL ls)] (· = .sl (tab rowIm (tiL ls ((sortM (nrmT t)).getD k default)))):=fun hg k hk=>by
  have hm:=getD_mem hk
  have hs:=(sortM_perm (gt_iff.1 hg).nodup).mem_iff.1 hm
  have hn:nbs ((sortM (nrmT t)).getD k default).2≤68157440:=by have:=tb_mem hs;omega
  refine ⟨_,_,tab_getD hk,?_⟩
  have h:=f10tighter_ok _ ls (rw_ok hn) hL
  rw [row_rw] at h
  exact h
 have hlen:goodB n (nrmT t)=true→∀ k,k≤(sortM (nrmT t)).length→(allI ls (sortM (nrmT t)) k).length≤136314880:=fun hg k hk=>by
  have h1:=allI_len ls (sortM (nrmT t)) k hk
  have h2:=tb_take (sortM (nrmT t)) k
  have h3:=tb_perm (sortM_perm (gt_iff.1 hg).nodup)
  omega
 have hnl:goodB n (nrmT t)=true→(sortM (nrmT t)).length≤68157440:=fun hg=>by rw [sortM_len,nrmT_len];exact hT.len
 have hst:∀ k,allI ls (sortM (nrmT t)) (k+1)=allI ls (sortM (nrmT t)) k++tiL ls ((sortM (nrmT t)).getD k default):=fun k=>rfl
 have h0:allI ls (sortM (nrmT t)) 0=[]:=rfl
 generalize goodB n (nrmT t)=gb at *
 generalize allI ls (sortM (nrmT t))=E at *
 generalize sortM (nrmT t)=N at *
 cases gb
 ·simp only [Bool.false_eq_true,if_false] at a1 ⊢
  (refine pureW Tryz.func60 rfl (rs:=[Go.ResultVar.tmp 4,Go.ResultVar.tmp 5]) rfl (n:=34) rfl ?_;simp only [List.length_cons,List.length_nil,List.replicate,List.cons_append,List.nil_append])
  (refine aQh ?_)
  ((refine W_seqV ?_);intro K hK;(refine sQh ?_))
  (refine ⟨by kernel_rfl,_,.pure rfl (a1),?_⟩;(try (refine sQh ?_)))
  (refine hK _ ?_;clear hK K)
  (repeat' (first | (exfalso;simp at h;done) | (refine W_seqV fun K hK=>?_;(try (refine sQh ?_));refine hK _ ?_;clear hK K) | (refine W_ret ?_;(refine qG ?_;try exact True.intro)) | (refine W_cond rfl (fun h=>?_) (fun h=>?_) <;> (try simp only [cond_true,cond_false,ne_eq,cB] at h)) | refine W_seq ?_))
 simp only [if_true] at a1 ⊢
 replace hrow:=hrow rfl
 replace hlen:=hlen rfl
 replace hnl:=hnl rfl
 (refine pureW Tryz.func60 rfl (rs:=[Go.ResultVar.tmp 4,Go.ResultVar.tmp 5]) rfl (n:=34) rfl ?_;simp only [List.length_cons,List.length_nil,List.replicate,List.cons_append,List.nil_append])
 (refine aQh ?_)
 ((refine W_seqV ?_);intro K hK;(refine sQh ?_))
 (refine ⟨by kernel_rfl,_,.pure rfl (a1),?_⟩;(try (refine sQh ?_)))
 (refine hK _ ?_;clear hK K)
 refine W_seq ?_
 ((refine W_seqV ?_);intro K hK;(refine sQh ?_))
 (refine hK _ ?_;clear hK K)
 (refine W_cf rfl ?_)
 refine W_skip ?_
 simp only [thenW]
 refine W_seq ?_
 ((refine W_regV ?_);intro K hK;(refine sQh ?_))
 (refine hK _ ?_;clear hK K)
 simp only [thenW]
 refine W.le ?_ (Le_nil 8 8 134 9 true rfl rfl)
 simp only [List.set]
 refine W_seq ?_
 ((refine W_seqV ?_);intro K hK;(refine sQh ?_))
 (refine hK _ ?_;clear hK K)
 refine W_block (W_loop (fun s:{k:Nat // k≤N.length} =>
   ⟨[.any,.sl (tab rowL ls),.any,.any,.any,.any,.ptr 6 0 0,.any,.sref 8 0 (E s.1).length,.int .i64 s.1,.any,.any,.any,.any,.any,.any,.any,.any,.any,.any,.any,.any,.any,.any,.any,.any,.any,.any,.any,.any,.any,.any,.any,.any],[.dead,.dead,.dead,.dead,.dead,.dead,.arr 24 2 false [[.int .i64 n,.sl (tab rowU N)]],.dead,.arr 134 9 true (tab rowIm (E s.1)),.dead,.dead,.dead,.dead,.dead,.dead,.dead,.dead,.dead,.dead,.dead,.dead,.dead,.dead,.dead,.dead,.dead,.dead,.dead,.dead,.dead,.dead,.dead,.dead,.dead]⟩) (fun s=>N.length-s.1)
   ⟨0,by omega⟩ (Le_drop (by simp [leE,h0]) (by simp [leH,h0,tab]) rfl rfl) fun s=>?_)
 obtain ⟨k,hk⟩:=s
 dsimp only
 by_cases hlt:k<N.length
 ·obtain ⟨b,f,hNk,hti⟩:=hrow k hlt
  have hsk:=hst k
  have hlk:=hlen k hk
  have hlk1:=hlen (k+1) hlt
  rw [hsk,List.length_append] at hlk1
  generalize hE1:E (k+1)=o' at *
  generalize E k=o at *
  generalize tiL ls (N.getD k default)=R at *
  refine W_seq ?_
  ((refine W_seqV ?_);intro K hK;(refine sQhX hlt ?_))
  (refine hK _ ?_;clear hK K)
  (refine W_ct rfl ?_)
  refine W_skip ?_
  simp only [thenW]
  refine W_seq ?_
  refine W_block ?_
  ((refine W_regT 8 fun K hK=>?_);(refine sQhX (And.intro hlt hNk) ?_))
  (refine ⟨by kernel_rfl,_,.pure rfl (hti),?_⟩;(try (refine sQh ?_));(repeat refine aI ?_))
  (refine hK _ ?_;clear hK K)
  simp only [blockW,thenW]
  ((refine W_regV ?_);intro K hK;(refine sQh ?_))
  (refine hK _ ?_;clear hK K)
  simp only [blockW,thenW]
  refine ⟨⟨k+1,by omega⟩,Le_drop (by simp [leE,hE1,hsk]) (by simp [leH,hE1,hsk,← tab_append,List.take_of_length_le,tab_length]) rfl rfl,?_⟩
  dsimp only
  omega
 ·obtain rfl:k=N.length:=by omega
  have hlk:=hlen _ (Nat.le_refl _)
  generalize E N.length=oo at *
  refine W_seq ?_
  ((refine W_seqV ?_);intro K hK;(refine sQh ?_))
  (refine hK _ ?_;clear hK K)
  (refine W_cf rfl ?_)
  refine W_exit ?_
  simp only [thenW,blockW,if_true]
  (refine W.le ?_ (Le_freeze 8 (rows:=tab rowIm oo) rfl (by simp) (.inl rfl));simp only [St.freeze,List.map_cons,List.map_nil,List.set,if_true,if_false,Nat.reduceEqDiff,reduceCtorEq,List.drop_zero,u32s_take,u32s_drop,froz_any,froz_und,froz_int,froz_bool,froz_str,froz_nils,froz_sl,froz_ia,froz_nilp,froz_nilif,froz_nilfn,froz_nilmp,froz_gl,froz_sref,froz_ptr,froz_agg,froz_tup,froz_fn,froz_ifc,frozs_nil,frozs_cons,froz_dead,froz_arr,froz_mp,froz_it,froz_md,froz_map,froz_iter])
  (repeat' (first | (refine W_seqV fun K hK=>?_;(try (refine sQh ?_));refine hK _ ?_;clear hK K) | (refine W_ret ?_;(refine qG ?_;try exact True.intro))))
theorem tableaus_law (n:Int) (t:TR) (ls:List LL) (hT:TOk t) (hL:LsOk ls):Pure Tryz.prog 15 [cT n t,.sl (tab rowL ls)] (· = .bool true):=by
 have b1:=iall_ok n t ls hT hL
 have b2:=f10all_ok n t ls hT hL
 obtain ⟨l,e,h1,h2,h3⟩:∃ l e,(∀ i∈l,IIok i)∧l.length<1099511627776∧allV n t ls = .tup [.sl (tab rowIm l),.int .i64 e]:=by
  unfold allV
  split
  ·rename_i hg
   have hall:∀ k,k≤(sortM (nrmT t)).length→∀ i∈allI ls (sortM (nrmT t)) k,IIok i:=by
    intro k
    induction k with
    | zero=>intro _ i hi;cases hi
    | succ k ih =>
     intro hk i hi
     rcases List.mem_append.1 hi with hi | hi
     ·exact ih (by omega) i hi
     ·have hs:=(sortM_perm (gt_iff.1 hg).nodup).mem_iff.1 (getD_mem (show k<(sortM (nrmT t)).length by omega))
      have hn:nbs ((sortM (nrmT t)).getD k default).2≤68157440:=by have:=tb_mem hs;have:=hT.tb;omega
      have hb:=eqn_nbs (rw_ok hn)
      unfold tiL tightTo at hi
      exact rows_ok hL (eqn_nf _) (by omega) _ (Nat.le_refl _) i (List.mem_of_mem_take (List.mem_filter.1 hi).1)
   refine ⟨_,0,hall _ (Nat.le_refl _),?_,rfl⟩
   have h1:=allI_len ls (sortM (nrmT t)) _ (Nat.le_refl _)
   have h2:=tb_take (sortM (nrmT t)) (sortM (nrmT t)).length
   have h3:=tb_perm (sortM_perm (gt_iff.1 hg).nodup)
   have:=hT.tb
   omega
  ·exact ⟨[],70,by simp,by simp,rfl⟩
 rw [h3] at b1 b2
 have c1:=sameAll_ok l h1 h2
 have z1:(e == e)=true:=beq_self_eq_true e
 simp only [cT] at *
 (refine pureW Tryz.func15 rfl (rs:=[Go.ResultVar.tmp 4]) rfl (n:=29) rfl ?_;simp only [List.length_cons,List.length_nil,List.replicate,List.cons_append,List.nil_append])
 (refine aQh ?_)
 ((refine W_seqV ?_);intro K hK;(refine sQh ?_))
 (refine ⟨by kernel_rfl,_,.pure rfl (b1),?_⟩;(try (refine sQh ?_)))
 (refine hK _ ?_;clear hK K)
 ((refine W_seqV ?_);intro K hK;(refine sQh ?_))
 (refine ⟨by kernel_rfl,_,.pure rfl (b2),?_⟩;(try (refine sQh ?_)))
 (refine hK _ ?_;clear hK K)
 ((refine W_seqV ?_);intro K hK;(refine sQhX z1 ?_))
 (refine ⟨by kernel_rfl,_,.pure rfl (c1),?_⟩;(try (refine sQh ?_)))
 (refine hK _ ?_;clear hK K)
 refine W_ret ?_
 (refine qG ?_;try exact True.intro);try (refine sQhV ?_;try exact True.intro)
section
variable {H:Type} {encH:TypeId × Value→H} {P:Program} {w:World}
def Opens (encH:TypeId × Value→H) (P:Program) (w:World) (t:TypeId) {α:Type} (e:α→List AV) (good:α→Prop) (wt:α→Nat):Prop :=
 ∀ (fuel:Nat) (cs:List Value) (x:DataW H × List MemPlace),DataW.trod encH P w 0 (fun _=>true) true fuel t cs=some x→∃ a,Rps w (fun _=>False) noPl (e a) cs∧good a∧wt a≤Rows.uptoBulk x.1
theorem Opens.bool {t:TypeId} (ht:P.underlying t=some .bool):Opens encH P w t (fun b:Bool=>[.bool b]) (fun _=>True) (fun _=>1):=by
 intro fuel cs x h
 obtain ⟨b,rfl,rfl⟩:=DataW.trod_bool ht h
 exact ⟨b,⟨_,_,rfl,rfl,rfl⟩,trivial,by simp [Rows.uptoBulk]⟩
theorem Opens.i64 {t:TypeId} (ht:P.underlying t=some (.int .i64)):Opens encH P w t (fun n:Int=>[.int .i64 n]) (fun n => -9223372036854775808≤n∧n≤9223372036854775807) (fun _=>1):=by
 intro fuel cs x h
 obtain ⟨n,rfl,rfl,hw⟩:=DataW.trod_int ht h
 exact ⟨n,⟨_,_,rfl,rfl,rfl⟩,bounds_i64 hw,by simp [Rows.uptoBulk]⟩
theorem Opens.u32 {t:TypeId} (ht:P.underlying t=some (.int .u32)):Opens encH P w t (fun n:Nat=>[.int .u32 (n:Int)]) (fun n=>n<4294967296) (fun _=>1):=by
 intro fuel cs x h
 obtain ⟨n,rfl,rfl,hw⟩:=DataW.trod_int ht h
 obtain ⟨h1,h2⟩:=bounds_u32 hw
 refine ⟨n.toNat,⟨_,_,rfl,?_,rfl⟩,by omega,by simp [Rows.uptoBulk]⟩
 show Value.int .u32 n=_
 rw [Int.toNat_of_nonneg h1]
theorem Opens.str {t:TypeId} (ht:P.underlying t=some .string):Opens encH P w t (fun s:ByteArray=>[.str s]) (fun _=>True) (fun s=>s.size+1):=by
 intro fuel cs x h
 obtain ⟨s,rfl,rfl,hs⟩:=DataW.trod_string ht h
 refine ⟨s,⟨_,_,rfl,rfl,rfl⟩,trivial,?_⟩
 simp only [Rows.uptoBulk]
 have:s.data.toList.length=s.size:=by rw [Array.length_toList];rfl
 omega
theorem Opens.map {t:TypeId} {α β:Type} {e:α→List AV} {good:α→Prop} {wt:α→Nat} (h:Opens encH P w t e good wt) {e':β→List AV} {good':β→Prop} {wt':β→Nat} (f:α→β)
  (he:∀ a,e' (f a)=e a) (hg:∀ a,good a→good' (f a)) (hw:∀ a,wt' (f a)≤wt a):Opens encH P w t e' good' wt':=by
 intro fuel cs x hx
 obtain ⟨a,h1,h2,h3⟩:=h fuel cs x hx
 exact ⟨f a,by rw [he];exact h1,hg a h2,Nat.le_trans (hw a) h3⟩
theorem Opens.two {t:TypeId} {f0 f1:Field} (ht:P.underlying t=some (.struct #[f0,f1])) (o0:f0.offset=0) (o1:f1.offset=P.cellsOf f0.type) (hl:P.cellsOf t=P.cellsOf f0.type+P.cellsOf f1.type)
  {α β:Type} {e0:α→List AV} {g0:α→Prop} {w0:α→Nat} {e1:β→List AV} {g1:β→Prop} {w1:β→Nat} (h0:Opens encH P w f0.type e0 g0 w0) (h1:Opens encH P w f1.type e1 g1 w1) :
  Opens encH P w t (fun p:α × β=>e0 p.1++e1 p.2) (fun p=>g0 p.1∧g1 p.2) (fun p=>w0 p.1+w1 p.2+1):=by
 intro fuel cs x h
 obtain ⟨xs,n,_,rfl,hlen,hxs,hf⟩:=DataW.trod_struct ht h
 match xs,hxs with
 | [y0,y1],_ =>
  obtain ⟨a,r0,q0,b0⟩:=h0 _ _ _ (hf 0 f0 rfl)
  obtain ⟨b,r1,q1,b1⟩:=h1 _ _ _ (hf 1 f1 rfl)
  refine ⟨(a,b),?_,⟨q0,q1⟩,?_⟩
  ·have:=r0.append r1
   rw [o0,o1,List.drop_zero,List.take_of_length_le (l:=cs.drop _) (by rw [List.length_drop];omega),List.take_append_drop] at this
   exact this
  ·simp only [List.map_cons,List.map_nil,Rows.uptoBulk,Rows.uptoBulkAll]
   omega
def sumW {α:Type} (wt:α→Nat):List α→Nat
 | []=>0
 | x::l=>wt x+sumW wt l
theorem sumW_snoc {α:Type} (wt:α→Nat) (l:List α) (x:α):sumW wt (l++[x])=sumW wt l+wt x:=by
 induction l with
 | nil=>simp [sumW]
 | cons y l ih=>simp only [List.cons_append,sumW,ih];omega
theorem bulk_append (l r:List (DataW H)):Rows.uptoBulkAll (l++r)=Rows.uptoBulkAll l+Rows.uptoBulkAll r:=by
 induction l with
 | nil=>simp [Rows.uptoBulkAll]
 | cons x l ih=>simp only [List.cons_append,Rows.uptoBulkAll,ih];omega
theorem Opens.slice {t e:TypeId} (ht:P.underlying t=some (.slice e)) (hpos:0<P.cellsOf e) {α:Type} {enc:α→List AV} {good:α→Prop} {wt:α→Nat} (he:Opens encH P w e enc good wt) :
  Opens encH P w t (fun l:List α=>[.sl (tab enc l)]) (fun l=>∀ x∈l,good x) (fun l=>sumW wt l+1):=by
 intro fuel cs x h
 rcases DataW.trod_slice ht h with ⟨rfl,rfl⟩ | ⟨a,len,cap,elems,rest,n,_,rfl,rfl,hb,hlc,hcm,hlen,hel,_,_⟩
 ·exact ⟨[],⟨_,_,rfl,⟨none,0,rfl,Nat.le_refl _,by decide,.inl rfl⟩,rfl⟩,by simp,by simp [Rows.uptoBulk,sumW]⟩
 ·obtain ⟨b,o,spot⟩:=a
  have step:∀ m,m≤len→∃ (l:List α) (vss:List (List Value)),l.length=m∧vss.flatten.length=m*P.cellsOf e∧RpR w (fun _=>False) noPl (tab enc l) vss∧(∀ x∈l,good x)∧sumW wt l≤Rows.uptoBulkAll ((elems.take m).map (·.1)) ∧
    (0<m→spot=none∧b<w.heap.size)∧CellsAt w b o vss.flatten:=by
   intro m
   induction m with
   | zero=>exact fun _=>⟨[],[],rfl,by simp,rfl,by simp,by simp [sumW,Rows.uptoBulkAll],by omega,fun j u hj=>by simp at hj⟩
   | succ m ih =>
    intro hm
    obtain ⟨l,vss,h1,h2,h3,h4,h5,h6,h7⟩:=ih (by omega)
    have hi:=hel m (by omega)
    have hg:elems[m]?=some (elems[m]'(by omega)):=by simp
    rw [hg] at hi
    obtain ⟨cs',hc,hd⟩:=Option.bind_eq_some_iff.1 hi
    obtain ⟨_,hcl,hcell⟩:=World.cells?_some hc
    obtain ⟨y,hy1,hy2,hy3⟩:=he _ _ _ hd
    obtain ⟨c0,hc0⟩:∃ c0,cs'[0]?=some c0:=⟨cs'[0]'(by omega),by simp⟩
    have g0:w.cell? (((⟨b,o,spot⟩:Addr).add (m*P.cellsOf e)).add 0)=some c0:=by rw [hcell 0 hpos,hc0]
    have hsp:spot=none∧b<w.heap.size:=by
     have hs:spot=none:=by
      cases m with
      | zero=>have:=World.cell?_spot g0;simpa [Addr.add] using this
      | succ m=>exact (h6 (by omega)).1
     refine ⟨hs,?_⟩
     have:((⟨b,o,spot⟩:Addr).add (m*P.cellsOf e)).add 0=⟨b,o+m*P.cellsOf e,none⟩:=by rw [hs,WideShapes.add_plain,WideShapes.add_plain];rfl
     rw [this] at g0
     unfold World.cell? at g0
     split at g0
     ·rename_i heq
      exact (Array.getElem?_eq_some_iff.1 heq).1
     ·cases g0
    obtain ⟨hs,hbs⟩:=hsp
    subst hs
    refine ⟨l++[y],vss++[cs'],by simp [h1],?_,?_,?_,?_,fun _=>⟨rfl,hbs⟩,?_⟩
    ·rw [List.flatten_append,List.length_append,h2,Nat.succ_mul]
     simp [hcl]
    ·rw [← tab_snoc]
     exact h3.append ⟨_,_,rfl,hy1,rfl⟩
    ·intro x hx
     rcases List.mem_append.1 hx with hx | hx
     ·exact h4 x hx
     ·rw [List.mem_singleton] at hx;subst hx;exact hy2
    ·rw [sumW_snoc,List.take_add_one,hg,List.map_append,bulk_append]
     simp only [Option.toList_some,List.map_cons,List.map_nil,Rows.uptoBulkAll]
     omega
    ·intro j u hj
     rw [List.flatten_append] at hj
     by_cases hjl:j<vss.flatten.length
     ·rw [List.getElem?_append_left hjl] at hj
      exact h7 j u hj
     ·rw [List.getElem?_append_right (by omega)] at hj
      simp only [List.flatten_cons,List.flatten_nil,List.append_nil] at hj
      have hlt:j-vss.flatten.length<cs'.length:=(List.getElem?_eq_some_iff.1 hj).1
      have:=hcell (j-vss.flatten.length) (by omega)
      rw [WideShapes.add_plain,WideShapes.add_plain,hj] at this
      rw [← this]
      congr 2
      omega
  obtain ⟨l,vss,h1,h2,h3,h4,h5,h6,h7⟩:=step len (Nat.le_refl _)
  have htl:(tab enc l).length=len:=by rw [tab_length,h1]
  refine ⟨l,⟨_,_,rfl,⟨some ⟨b,o,spot⟩,cap,by rw [htl],by rw [htl];exact hlc,hcm,?_⟩,rfl⟩,h4,?_⟩
  ·by_cases h0:0<len
   ·obtain ⟨rfl,hbs⟩:=h6 h0
    exact .inr ⟨b,o,vss,rfl,fun h=>h,hbs,h7,h3⟩
   ·left
    have:l=[]:=List.eq_nil_of_length_eq_zero (by omega)
    rw [this];rfl
  ·rw [List.take_of_length_le (by omega)] at h5
   simp only [Rows.uptoBulk]
   omega
end
section
variable {H:Type} {encH:TypeId × Value→H} {w:World}
theorem sumW_one (l:List Nat):sumW (fun _=>1) l=l.length:=by
 induction l with
 | nil=>rfl
 | cons x l ih=>simp only [sumW,ih,List.length_cons];omega
theorem opens_nat:Opens encH Tryz.prog w 49 (fun l:List Nat=>[.sl (u32s l)]) Limbs (fun l=>l.length+1) :=
 (Opens.slice Tryz.underlying49 (by show 0<Tryz.prog.cellsOf 128;rw [show Tryz.prog.cellsOf 128=1 by kernel_rfl];decide) (Opens.u32 Tryz.underlying128)).map id (fun _=>rfl) (fun _ h=>h) (fun l=>by show l.length+1≤sumW (fun _=>1) l+1;rw [sumW_one];exact Nat.le_refl _)
theorem opens_int:Opens encH Tryz.prog w 51 (fun p:Bool × List Nat=>[.bool p.1,.sl (u32s p.2)]) (fun p=>Limbs p.2) (fun p=>p.2.length+3) :=
 (Opens.two Tryz.underlying51 rfl (by kernel_rfl) (by kernel_rfl) (Opens.bool Tryz.underlying4) opens_nat).map id (fun _=>rfl) (fun _ h=>h.2) (fun l=>by simp only [id];omega)
def RR.good (r:RR):Prop:=Limbs r.num∧Limbs r.den
def RR.wt (r:RR):Nat:=r.num.length+r.den.length+5
theorem RR.bits_wt (r:RR):r.bits≤32*r.wt:=by unfold RR.bits RR.wt;omega
theorem opens_rat:Opens encH Tryz.prog w 53 rowR RR.good RR.wt :=
 (Opens.two Tryz.underlying53 rfl (by kernel_rfl) (by kernel_rfl) opens_int opens_nat).map (fun p=>(⟨p.1.1,p.1.2,p.2⟩:RR)) (fun _=>rfl) (fun _ h=>h) (fun l=>by simp only [RR.wt];omega)
def mono_wt (p:Int × RR):Nat:=p.2.wt+2
theorem opens_mono:Opens encH Tryz.prog w 55 rowM (fun p:Int × RR=>(-9223372036854775808≤p.1∧p.1≤9223372036854775807)∧p.2.good) mono_wt :=
 (Opens.two Tryz.underlying55 rfl (by kernel_rfl) (by kernel_rfl) (Opens.i64 Tryz.underlying3) opens_rat).map id (fun _=>rfl) (fun _ h=>h) (fun l=>by simp only [id,mono_wt];omega)
def form_good (f:List (Int × RR)):Prop:=∀ p∈f,(-9223372036854775808≤p.1∧p.1≤9223372036854775807)∧p.2.good
def form_wt (f:List (Int × RR)):Nat:=sumW mono_wt f+1
theorem opens_form:Opens encH Tryz.prog w 26 (fun f=>[cF f]) form_good form_wt :=
 Opens.slice Tryz.underlying26 (by show 0<Tryz.prog.cellsOf 55;rw [show Tryz.prog.cellsOf 55=4 by kernel_rfl];decide) opens_mono
def At.good (a:At):Prop:=form_good a.form∧a.bound.good
def At.wt (a:At):Nat:=a.name.size+form_wt a.form+a.bound.wt+3
end
theorem RR.good.ok {r:RR} (h:r.good) (hb:r.wt≤1048576):r.ok:=⟨h.1,h.2,by unfold RR.wt at hb;omega,by unfold RR.wt at hb;omega⟩
theorem RR.good.nb {r:RR} (h:r.good):nb r.v≤32*r.wt:=Nat.le_trans (nb_v r h.1 h.2) r.bits_wt
theorem form_nbs:∀ {f:List (Int × RR)},form_good f→nbs (vals f)≤32*sumW mono_wt f
 | [],_=>by simp [vals,nbs]
 | p::f,h=>by
  have h1:=(h p List.mem_cons_self).2.nb
  have h2:=form_nbs (f:=f) fun q hq=>h q (List.mem_cons_of_mem _ hq)
  simp only [vals,List.map_cons,nbs,sumW,mono_wt] at *
  omega
theorem sumW_mem {α:Type} {wt:α→Nat} {l:List α} {x:α} (h:x∈l):wt x≤sumW wt l:=by
 induction l with
 | nil=>cases h
 | cons y l ih =>
  simp only [sumW]
  rcases List.mem_cons.1 h with rfl | h
  ·omega
  ·have:=ih h;omega
theorem form_ok {f:List (Int × RR)} (h:form_good f) (hb:form_wt f≤1048576):FOk f 67108864∧nbs (vals f)≤67108864:=by
 have h1:=form_nbs h
 unfold form_wt at hb
 refine ⟨⟨fun p hp=>(h p hp).2.ok ?_,(Sz.of _).mono (by omega)⟩,by omega⟩
 have:=sumW_mem (wt:=mono_wt) hp
 unfold mono_wt at this hb
 omega
theorem At.good.ok {a:At} (h:a.good) (hb:a.wt≤1048576):AtOk a:=by
 unfold At.wt at hb
 obtain ⟨h1,h2⟩:=form_ok h.1 (by omega)
 refine ⟨h1,h2,h.2.ok (by omega),?_⟩
 have:=h.2.nb
 omega
section
variable {H:Type} {encH:TypeId × Value→H} {P:Program} {w:World}
theorem rps_some {α:Type} {t:TypeId} {e:α→List AV} {good:α→Prop} {wt:α→Nat} (h:Opens encH P w t e good wt) {v:Value} {d:DataW H} {p:List MemPlace} (hd:DataW.Trod encH P w 0 (fun _=>true) true t v d p) :
  ∃ a,Rps w (fun _=>False) noPl (e a) v.cells.toList∧good a∧wt a≤Rows.uptoBulk d:=by
 obtain ⟨fuel,hf⟩:=hd
 exact h fuel _ _ hf
theorem par_struct {α:Type} {t:TypeId} {fs:Array Field} (ht:P.underlying t=some (.struct fs)) {e:α→List AV} {good:α→Prop} {wt:α→Nat} (h:Opens encH P w t e good wt) {base:Nat} {v:Value} (hok:Value.okWide P w .any base t v) {d:DataW H} {p:List MemPlace} (hd:DataW.Trod encH P w 0 (fun _=>true) true t v d p) :
  ∃ a,Rp w (fun _=>False) noPl (.agg (e a)) v∧good a∧wt a≤Rows.uptoBulk d:=by
 unfold Value.okWide at hok
 rw [ht] at hok
 obtain ⟨cs,rfl,_,_⟩:=hok
 obtain ⟨a,h1,h2,h3⟩:=rps_some h hd
 exact ⟨a,⟨cs.toList,by simp,h1⟩,h2,h3⟩
theorem par_slice {α:Type} {t el:TypeId} (ht:P.underlying t=some (.slice el)) {e:α→AV} {good:α→Prop} {wt:α→Nat} (h:Opens encH P w t (fun a=>[e a]) good wt) {base:Nat} {v:Value} (hok:Value.okWide P w .any base t v) {d:DataW H} {p:List MemPlace} (hd:DataW.Trod encH P w 0 (fun _=>true) true t v d p) :
  ∃ a,Rp w (fun _=>False) noPl (e a) v∧good a∧wt a≤Rows.uptoBulk d:=by
 unfold Value.okWide at hok
 rw [ht] at hok
 unfold Cell.okWide at hok
 rw [ht] at hok
 obtain ⟨a,h1,h2,h3⟩:=rps_some h hd
 obtain ⟨u,us,e1,e2,e3⟩:=h1
 have e4:us=[]:=e3
 subst e4
 cases v <;> simp only [Value.cells] at e1 <;> first
  | (simp only [Cell.ok,ht] at hok;done)
  | (have e5:=(List.cons.inj e1).1;subst e5;exact ⟨a,e2,h2,h3⟩)
end
section
variable {H:Type} {encH:TypeId × Value→H} {w:World}
def row_good (r:Int × List (Int × RR)):Prop:=form_good r.2
def row_wt (r:Int × List (Int × RR)):Nat:=form_wt r.2
theorem opens_rowT:Opens encH Tryz.prog w 84 rowT row_good row_wt :=
 (Opens.two Tryz.underlying84 (by kernel_rfl) (by kernel_rfl) (by kernel_rfl) (Opens.i64 Tryz.underlying3) opens_form).map id (fun p=>rfl) (fun _ h=>h.2) (fun p=>by simp only [id,row_wt];omega)
def tab_good (p:Int × TR):Prop:=∀ r∈p.2,row_good r
def tab_wt (p:Int × TR):Nat:=sumW row_wt p.2+1
theorem opens_rowsT:Opens encH Tryz.prog w 22 (fun t:TR=>[.sl (tab rowT t)]) (fun t=>∀ r∈t,row_good r) (fun t=>sumW row_wt t+1) :=
 Opens.slice Tryz.underlying22 (by show 0<Tryz.prog.cellsOf 84;rw [show Tryz.prog.cellsOf 84=2 by kernel_rfl];decide) opens_rowT
def cellsT (p:Int × TR):List AV:=[.int .i64 p.1,.sl (tab rowT p.2)]
theorem opens_tab:Opens encH Tryz.prog w 24 cellsT tab_good tab_wt :=
 (Opens.two Tryz.underlying24 (by kernel_rfl) (by kernel_rfl) (by kernel_rfl) (Opens.i64 Tryz.underlying3) opens_rowsT).map id (fun p=>rfl) (fun _ h=>h.2) (fun p=>by simp only [id,tab_wt];omega)
end
theorem tab_tb:∀ {t:TR},(∀ r∈t,row_good r)→tb (t.map fun r=>(r.1,vals r.2))≤33*sumW row_wt t
 | [],_=>Nat.le_refl _
 | r::t,h=>by
  have h1:=tab_tb (t:=t) fun x hx=>h x (List.mem_cons_of_mem _ hx)
  have h2:=form_nbs (h r List.mem_cons_self)
  simp only [List.map_cons,tb,sumW,row_wt,form_wt] at *
  omega
theorem tab_ok {p:Int × TR} (h:tab_good p) (hb:tab_wt p≤1048576):TOk p.2:=by
 unfold tab_wt at hb
 refine ⟨fun r hr q hq=>(form_ok (h r hr) ?_).1.1 q hq,?_⟩
 ·have:=sumW_mem (wt:=row_wt) hr
  have e:form_wt r.2=row_wt r:=rfl
  omega
 ·have:=tab_tb h
  omega
def rowD (d:DD):List AV:=d.cells
instance:Inhabited DD:=⟨zeroD0⟩
def valD (ds:List DD) (v:Int):DD:=if 0≤v∧v<(ds.length:Int) then ds.getD v.toNat default else zeroD0
structure DsOk (ds:List DD):Prop where
 ok:∀ d∈ds,d.ok
 sa:nbl (ds.map fun d=>d.a.v)≤67108864
 sb:nbl (ds.map fun d=>d.b.v)≤67108864
def evd (ds:List DD) (f:List (Int × Rat)):Rat × Rat:=(ev2 (asg (ds.map fun d=>d.a.v)) f,ev2 (asg (ds.map fun d=>d.b.v)) f)
section
variable {H:Type} {encH:TypeId × Value→H} {P:Program} {w:World}
theorem Opens.three {t:TypeId} {f0 f1 f2:Field} (ht:P.underlying t=some (.struct #[f0,f1,f2])) (o0:f0.offset=0) (o1:f1.offset=P.cellsOf f0.type) (o2:f2.offset=P.cellsOf f0.type+P.cellsOf f1.type) (hl:P.cellsOf t=P.cellsOf f0.type+P.cellsOf f1.type+P.cellsOf f2.type)
  {α β γ:Type} {e0:α→List AV} {g0:α→Prop} {w0:α→Nat} {e1:β→List AV} {g1:β→Prop} {w1:β→Nat} {e2:γ→List AV} {g2:γ→Prop} {w2:γ→Nat}
  (h0:Opens encH P w f0.type e0 g0 w0) (h1:Opens encH P w f1.type e1 g1 w1) (h2:Opens encH P w f2.type e2 g2 w2) :
  Opens encH P w t (fun p:α × β × γ=>e0 p.1++(e1 p.2.1++e2 p.2.2)) (fun p=>g0 p.1∧g1 p.2.1∧g2 p.2.2) (fun p=>w0 p.1+w1 p.2.1+w2 p.2.2+1):=by
 intro fuel cs x h
 obtain ⟨xs,n,_,rfl,hlen,hxs,hf⟩:=DataW.trod_struct ht h
 match xs,hxs with
 | [y0,y1,y2],_ =>
  obtain ⟨a,r0,q0,b0⟩:=h0 _ _ _ (hf 0 f0 rfl)
  obtain ⟨b,r1,q1,b1⟩:=h1 _ _ _ (hf 1 f1 rfl)
  obtain ⟨c,r2,q2,b2⟩:=h2 _ _ _ (hf 2 f2 rfl)
  refine ⟨(a,b,c),?_,⟨q0,q1,q2⟩,?_⟩
  ·have:=r0.append (r1.append r2)
   rw [o0,o1,o2,List.drop_zero] at this
   rw [List.take_of_length_le (l:=cs.drop (P.cellsOf f0.type+P.cellsOf f1.type)) (by rw [List.length_drop];omega)] at this
   rw [← List.drop_drop,List.take_append_drop,List.take_append_drop] at this
   exact this
  ·simp only [List.map_cons,List.map_nil,Rows.uptoBulk,Rows.uptoBulkAll]
   omega
end
section
variable {H:Type} {encH:TypeId × Value→H} {w:World}
def DD.good (d:DD):Prop:=d.a.good∧d.b.good
def DD.wt (d:DD):Nat:=d.a.wt+d.b.wt
theorem opens_delta:Opens encH Tryz.prog w 58 DD.cells DD.good DD.wt :=
 (Opens.two Tryz.underlying58 (by kernel_rfl) (by kernel_rfl) (by kernel_rfl) opens_rat opens_rat).map (fun p=>(⟨p.1,p.2⟩:DD)) (fun p=>rfl) (fun _ h=>h) (fun p=>by simp only [DD.wt];omega)
end
theorem DD.good.ok {d:DD} (h:d.good) (hb:d.wt≤1048576):d.ok:=⟨h.1.ok (by unfold DD.wt at hb;omega),h.2.ok (by unfold DD.wt at hb;omega)⟩
theorem DD.good.nb {d:DD} (h:d.good):nb2 d.v≤32*d.wt:=by
 unfold DD.wt
 exact nb2_le (Nat.le_trans h.1.nb (by omega)) (Nat.le_trans h.2.nb (by omega))
section
variable {H:Type} {encH:TypeId × Value→H} {w:World}
def BB.good (b:BB):Prop:=b.at_.good
def BB.wt (b:BB):Nat:=b.at_.wt
theorem opens_bound:Opens encH Tryz.prog w 156 BB.cells BB.good BB.wt :=
 (Opens.three Tryz.underlying156 (by kernel_rfl) (by kernel_rfl) (by kernel_rfl) (by kernel_rfl) (Opens.bool Tryz.underlying4) opens_delta (Opens.i64 Tryz.underlying3)).map (fun p=>(⟨p.1,p.2.1,p.2.2⟩:BB)) (fun p=>rfl) (fun _ h=>h.2.1) (fun p=>by simp only [BB.wt];omega)
def LL.good (l:LL):Prop:=l.lower.good∧l.upper.good
def LL.wt (l:LL):Nat:=l.lower.wt+l.upper.wt
theorem opens_limit:Opens encH Tryz.prog w 158 rowL LL.good LL.wt :=
 (Opens.two Tryz.underlying158 (by kernel_rfl) (by kernel_rfl) (by kernel_rfl) opens_bound opens_bound).map (fun p=>(⟨p.1,p.2⟩:LL)) (fun p=>rfl) (fun _ h=>h) (fun p=>by simp only [LL.wt];omega)
theorem opens_limits:Opens encH Tryz.prog w 89 (fun l:List LL=>[.sl (tab rowL l)]) (fun l=>∀ x∈l,x.good) (fun l=>sumW LL.wt l+1) :=
 Opens.slice Tryz.underlying89 (by show 0<Tryz.prog.cellsOf 158;rw [show Tryz.prog.cellsOf 158=16 by kernel_rfl];decide) opens_limit
def Rw.good (r:Rw):Prop:=form_good r.form
def Rw.wt (r:Rw):Nat:=form_wt r.form
end
theorem Rw.good.ok {r:Rw} (h:r.good) (hb:r.wt≤1048576):RwOk r:=⟨⟨(form_ok h hb).1.1,(form_ok h hb).1.sz.mono (by omega)⟩,Nat.le_trans (form_ok h hb).2 (by omega)⟩
theorem lws_le:∀ {ls:List LL},(∀ x∈ls,x.good)→lws ls≤32*sumW LL.wt ls
 | [],_=>Nat.le_refl _
 | l::ls,h=>by
  have h1:=lws_le (ls:=ls) fun x hx=>h x (List.mem_cons_of_mem _ hx)
  have h2:=(h l List.mem_cons_self).1.nb
  have h3:=(h l List.mem_cons_self).2.nb
  unfold lws at *
  simp only [List.map_cons,sumN,sumW,lw,LL.wt,BB.wt] at *
  omega
theorem limits_ok {ls:List LL} (h:∀ x∈ls,x.good) (hb:sumW LL.wt ls≤1048576):LsOk ls:=by
 refine ⟨fun l hl=>?_,by have:=lws_le h;omega⟩
 have hw:l.lower.at_.wt+l.upper.at_.wt≤sumW LL.wt ls:=sumW_mem (wt:=LL.wt) hl
 exact ⟨(h l hl).1.ok (by omega),(h l hl).2.ok (by omega)⟩
end Go.Proofs.YtjmpajgjaefcjaaGreat.Vm
namespace Go.Proofs.YtjmpajgjaefcjaaGreat.Vm
open Go Go.RowKit Go.ChangeShapes Go.WideShapes Go.ChangeAt
def joinedRest (P:Program) (fn:Func) (s:ChangeSpec) (c:OpenClaim):Bool :=
 (c.wf (OpenSpec.ofChange s))&&(fn.params.all (P.readableRec ·))&&(namedTie P c.named s.vars)&&((c.stops == []))&&((c.knobs == []))&&((c.maps == (fn.params.toList++s.plain.varTypes P).any (P.mapsRec ·)))&&((c.ifaces == (fn.params.toList++s.plain.varTypes P).any (P.ifacesRec ·)))&&((c.mapsOut == P.mapsAmong fn.resultTypes.toList))&&((c.loops == (fn.params.toList++s.plain.varTypes P).any (P.loopsFrom ·)))&&((c.wideKeys == (fn.params.toList++s.plain.varTypes P++fn.resultTypes.toList).any (P.wideKeysFrom ·)))&&(s.vars.all (P.varReadable ·))&&(fn.resultTypes.all (fun t=>P.readableRec t&&decide (t<P.types.size)))&&((c.ifacesOut == fn.resultTypes.toList.any (P.ifacesRec ·)))&&((c.loopsOut == fn.resultTypes.toList.any (P.loopsFrom ·)))&&(c.shortTexts.isNone)&&((c.kinds == (if c.domain.isEmpty then [] else fn.params.toList.map fun t=>match P.underlying t with|some (.int k)=>some k|_=>none)))&&((c.pinned == c.pinnedBy))&&((c.veiled == (fn.params.toList++s.plain.varTypes P++fn.resultTypes.toList).any (P.veiledRec ·)))&&(c.veiledFits P fn.params.toList (fn.params.toList++s.plain.varTypes P++fn.resultTypes.toList))
theorem joined_of {P:Program} {f:FuncId} {fn:Func} {s:ChangeSpec} {c:OpenClaim} (h1:(laidOutB P)=true) (h2:(mapsRowed P)=true) (h6:((P.stops == []))=true) (h8:((P.stopKnobs == []))=true) (h24:(P.stopsHeard)=true) (h25:(P.mayEnter)=true) (h9:((c.inPlace == P.inPlace f))=true) (h10:((c.unfollowed == P.unfollowed f))=true) (h11:((c.recurses == P.recurses f))=true) (h12:((c.named == P.varsNamed f))=true) (h22:((c.plainKeys == P.plainKeys))=true) (h26:((c.lifted == P.liftsFinal))=true) (h27:((P.make == some c.make))=true)
  (h:joinedRest P fn s c=true):joinedFacts P f fn s c=true:=by
 unfold joinedRest at h
 unfold joinedFacts
 simp only [Bool.and_eq_true] at h ⊢
 obtain ⟨⟨⟨⟨⟨⟨⟨⟨⟨⟨⟨⟨⟨⟨⟨⟨⟨⟨r0,r3⟩,r4⟩,r5⟩,r7⟩,r13⟩,r14⟩,r15⟩,r16⟩,r17⟩,r18⟩,r19⟩,r20⟩,r21⟩,r23⟩,r28⟩,r29⟩,r30⟩,r31⟩:=h
 exact ⟨⟨⟨⟨⟨⟨⟨⟨⟨⟨⟨⟨⟨⟨⟨⟨⟨⟨⟨⟨⟨⟨⟨⟨⟨⟨⟨⟨⟨⟨⟨r0,h1⟩,h2⟩,r3⟩,r4⟩,r5⟩,h6⟩,r7⟩,h8⟩,h9⟩,h10⟩,h11⟩,h12⟩,r13⟩,r14⟩,r15⟩,r16⟩,r17⟩,r18⟩,r19⟩,r20⟩,r21⟩,h22⟩,r23⟩,h24⟩,h25⟩,h26⟩,h27⟩,r28⟩,r29⟩,r30⟩,r31⟩
def plainClaim : OpenClaim := { program := "", sum := "", func := "", spec := "" }
theorem pf_laid:laidOutB Tryz.prog=true:=by kernel_rfl
theorem pf_maps:mapsRowed Tryz.prog=true:=by kernel_rfl
theorem pf_stops:(Tryz.prog.stops == [])=true:=by kernel_rfl
theorem pf_knobs:(Tryz.prog.stopKnobs == [])=true:=by kernel_rfl
theorem pf_heard:Tryz.prog.stopsHeard=true:=by kernel_rfl
theorem pf_enter:Tryz.prog.mayEnter=true:=by kernel_rfl
theorem pf_keys:(plainClaim.plainKeys == Tryz.prog.plainKeys)=true:=by kernel_rfl
theorem pf_lifts:(plainClaim.lifted == Tryz.prog.liftsFinal)=true:=by kernel_rfl
theorem pf_make:(Tryz.prog.make == some plainClaim.make)=true:=by kernel_rfl
theorem pf_own:ownKnob Tryz.prog.godebug=none:=by kernel_rfl
namespace impliedTableaus_
theorem own:ownKnob Tryz.prog.godebug=none:=pf_own
theorem laidOut:laidOutB Tryz.prog=true:=pf_laid
theorem pf_place:(Rows.impliedTableausUptoRow.inPlace == Tryz.prog.inPlace 15)=true:=by kernel_rfl
theorem pf_foll:(Rows.impliedTableausUptoRow.unfollowed == Tryz.prog.unfollowed 15)=true:=by kernel_rfl
theorem pf_rec:(Rows.impliedTableausUptoRow.recurses == Tryz.prog.recurses 15)=true:=by kernel_rfl
theorem pf_nam:(Rows.impliedTableausUptoRow.named == Tryz.prog.varsNamed 15)=true:=by kernel_rfl
theorem pf_rest:joinedRest Tryz.prog Tryz.f15 (Rows.OpenSpec.upto Rows.impliedTableausSpec).bare Rows.impliedTableausUptoRow=true:=by kernel_rfl
theorem facts:joinedFacts Tryz.prog 15 Tryz.f15 (Rows.OpenSpec.upto Rows.impliedTableausSpec).bare Rows.impliedTableausUptoRow=true:=joined_of pf_laid pf_maps pf_stops pf_knobs pf_heard pf_enter pf_place pf_foll pf_rec pf_nam pf_keys pf_lifts pf_make pf_rest
theorem contract (H:Type) (encH:TypeId × Value→H) (W:World) (base:Nat) (args:Array Value) (ds gs:List (DataW H)) (before:List MemPlace)
  (hval:∀ (j:Nat) t v,Tryz.f15.params[j]?=some t→args[j]?=some v→Value.okWide Tryz.prog W .any base t v)
  (hW:DataW.Whole encH Tryz.prog Tryz.f15.params.toList Rows.impliedTableausSpec.vars false W args.toList ds gs before) (hk:Rows.uptoSmall H (ds++gs)=true) :
  Calls Tryz.prog 15 args W fun e W'=>∃ v,e = .returned v∧Rows.impliedTableausSpec.post encH Tryz.prog Tryz.f15 false true false false W args v W':=by
 have hW':=hW
 obtain ⟨p,q,hA0,hV,rfl,hfz,hnd⟩:=hW
 have hA:DataW.TrodAll encH Tryz.prog W 0 (fun _=>true) true Tryz.f15.params.toList args.toList ds p:=hA0
 rw [Tryz.params15] at hA hval
 obtain ⟨v0,v1,d0,d1,p0,p1,rfl,rfl,rfl,h0,h1⟩:=trodAll_two hA
 obtain ⟨rfl,rfl⟩:=trodVars_none hV
 simp only [List.append_nil] at hW' hk
 have hlt:∀ x∈p0++p1,x.block<W.heap.size:=fun x hx=>hW'.lt x (by simpa using hx)
 obtain ⟨a0,r0,g0,b0⟩:=par_struct Tryz.underlying24 opens_tab (hval 0 24 v0 rfl rfl) h0
 obtain ⟨a1,r1,g1,b1⟩:=par_slice Tryz.underlying89 opens_limits (hval 1 89 v1 rfl rfl) h1
 have hbulk:Rows.uptoBulkAll [d0,d1]≤1048576:=of_decide_eq_true hk
 simp only [Rows.uptoBulkAll] at hbulk
 have hlaw:=tableaus_law a0.1 a0.2 a1 (tab_ok g0 (by omega)) (limits_ok g1 (by omega))
 refine (hlaw W [v0,v1] (fun _=>False) (fun _ h=>h.elim) ⟨_,_,rfl,r0,_,_,rfl,r1,rfl⟩).mono fun e W' he=>?_
 obtain ⟨v,r,rfl,rfl,hbel,hrp⟩:=he
 have hv:v = .bool true:=hrp
 subst hv
 exact ⟨_,rfl,⟨_,_,_,[],_,[],hW',trodAll_mk1 (shut_bool Tryz.underlying4 _),trodAll_mk2 (Below.trod laidOut (by kernel_rfl) (of_decide_eq_true (by kernel_rfl)) h0 hbel (fun x hx=>hlt x (by simp [hx]))) (Below.trod laidOut (by kernel_rfl) (of_decide_eq_true (by kernel_rfl)) h1 hbel (fun x hx=>hlt x (by simp [hx]))),rfl,hbel.frame _,fun h=>by cases h⟩⟩
theorem lifted (os:Os) (started:os.Started) (H:Type) (enc:TypeId × Value→H) (F:Stop.Interp) :
  ReturnsInHanded {} Tryz.checked os 15 .any ((Rows.OpenSpec.upto Rows.impliedTableausSpec).pre6 enc Tryz.prog Tryz.f15 Rows.impliedTableausUptoRow.domain false) (((Rows.OpenSpec.upto Rows.impliedTableausSpec).at F).post enc Tryz.prog Tryz.f15 false true false false):=by
 refine returnsInHanded_of_cond (C:=Tryz.checked) (s:=Rows.OpenSpec.upto Rows.impliedTableausSpec) (k:=Rows.uptoSmall) rfl own started (by kernel_rfl) Tryz.func15
  (OpenSpec.witness (enc:=enc) (C:=Tryz.checked) (s:=Rows.OpenSpec.upto Rows.impliedTableausSpec) (k:=Rows.uptoSmall) rfl false ⟨#[],#[.agg #[.int .i64 0,.slice none 0 0],.slice none 0 0],[]⟩ 8 (by kernel_rfl) (by kernel_rfl) (by kernel_rfl)
   (x:=([.agg [.lit (.int .i64 0),.nil],.nil],[],[])) (by kernel_rfl) rfl (by kernel_rfl)) ?_
 intro W base args ds gs before hval hW _ hk _
 exact contract H enc W base args ds gs before hval hW hk
end impliedTableaus_
theorem impliedTableaus_holds:Rows.ImpliedTableausUptoSaid :=
 OpenClaim.holds_of_cond 15 Tryz.f15 rfl rfl rfl rfl rfl rfl rfl ⟨rfl,rfl,rfl,rfl,rfl⟩ rfl rfl rfl rfl rfl (by kernel_rfl) Tryz.func15 impliedTableaus_.facts
  (of_decide_eq_true (by kernel_rfl)) (by unfold Func.isWrapper;first | (rw [if_pos (by decide +kernel)];kernel_rfl) | (rw [if_neg (by decide +kernel)];exact ⟨rfl,rfl⟩))
  (fun os started H enc _ F=>impliedTableaus_.lifted os started H enc F)
end Go.Proofs.YtjmpajgjaefcjaaGreat.Vm
