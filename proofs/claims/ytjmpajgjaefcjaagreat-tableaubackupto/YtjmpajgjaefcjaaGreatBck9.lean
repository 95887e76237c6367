/-
  The law TableauBack holds of the given program, for all arguments of bulk at most 1048576: no further conditions.
-/
import Derived.Test.YtjmpajgjaefcjaaGreatBck8
import Derived.Orders
import Derived.Below
import Derived.Laws.AppendOwn
import Derived.Laws.MakeOwn
import Derived.Laws.CopyRow
import Derived.Laws.Rows
import Derived.Laws.Cells
import Derived.Tactics
import Derived.Laws.BitsLemmas
import Derived.Maps.Range
import Derived.Carry
import Derived.Test.YtjmpajgjaefcjaaGreatProg
import Derived.Sort.Row
import Derived.Sort.Grow
import Derived.Shelf.Sort.Plain
import Derived.Shelf.Slices.In.SortNone
import Derived.Ground.NamesProg
import Derived.Test.YtjmpajgjaefcjaaGreatRows
import Derived.WalkKit
import Derived.ProofKit
import Derived.OpenShut
import Derived.JoinedCond

/-
  The reference's pivots.
-/
namespace Go.Proofs.YtjmpajgjaefcjaaGreat.Vm
open Go Go.RowKit
set_option maxRecDepth 100000
set_option linter.unusedVariables false
set_option linter.unusedSimpArgs false
theorem sVd {G G' : Prop} (h : G') (e : G = G' := by conv => lhs; simp (disch := omega) only [rowsOf, cNat, cN, St.ret, St.seth, Eff.app, Eff.wi, sepL, guardOf, St.known, objOf, List.set, sliceW, litW, copyW, lenOf, bnd, mxOk, ofCells, TI.isAgg, cellsOf, storable, AV.one, dead, laid, overlay, reduceCtorEq, Int.reduceLE, Int.reduceLT, Int.reduceSub, Int.reduceAdd, Nat.reduceMul, Int.reduceToNat, Nat.reducePow, Int.reduceNeg, Nat.reduceAdd, Nat.reduceLT, Nat.reduceLeDiff, sA, sB, Nat.reduceEqDiff, cQ, rowQ, rowU, rowT, rowM, i64s_getD, i64s_length, i64s_all, i64s_take, i64s_drop, i64s_set, i64s_one, i64s_pure, i64s_append, tab_length, tab_drop, tab_take, tab_append, tab_nil, rowT_all, rowT_one, rowT_pure, rowU_all, rowU_one, rowU_pure, rowQ_all, rowQ_one, rowQ_pure, rowM_all, rowM_one, rowM_pure, List.take_length, List.length_append, sT]) : G := e.mpr h
theorem sVdX {G G' P : Prop} (p : P) (h : G') (e : P → G = G' := by intro p; conv => lhs; simp (disch := omega) only [rowsOf, cNat, cN, St.ret, St.seth, Eff.app, Eff.wi, sepL, guardOf, St.known, objOf, List.set, sliceW, litW, copyW, lenOf, bnd, mxOk, ofCells, TI.isAgg, cellsOf, storable, AV.one, dead, laid, overlay, reduceCtorEq, Int.reduceLE, Int.reduceLT, Int.reduceSub, Int.reduceAdd, Nat.reduceMul, Int.reduceToNat, Nat.reducePow, Int.reduceNeg, Nat.reduceAdd, Nat.reduceLT, Nat.reduceLeDiff, sA, sB, Nat.reduceEqDiff, cQ, rowQ, rowU, rowT, rowM, i64s_getD, i64s_length, i64s_all, i64s_take, i64s_drop, i64s_set, i64s_one, i64s_pure, i64s_append, tab_length, tab_drop, tab_take, tab_append, tab_nil, rowT_all, rowT_one, rowT_pure, rowU_all, rowU_one, rowU_pure, rowQ_all, rowQ_one, rowQ_pure, rowM_all, rowM_one, rowM_pure, List.take_length, List.length_append, sT, p]) : G := (e p).mpr h
theorem sVdV {G G' : Prop} (h : G') (e : G = G' := by conv => lhs; simp (disch := omega) only [rowsOf, cNat, cN, St.ret, St.seth, Eff.app, Eff.wi, sepL, guardOf, St.known, objOf, List.set, sliceW, litW, copyW, lenOf, bnd, mxOk, ofCells, TI.isAgg, cellsOf, storable, AV.one, dead, laid, overlay, reduceCtorEq, Int.reduceLE, Int.reduceLT, Int.reduceSub, Int.reduceAdd, Nat.reduceMul, Int.reduceToNat, Nat.reducePow, Int.reduceNeg, Nat.reduceAdd, Nat.reduceLT, Nat.reduceLeDiff, sA, sB, Nat.reduceEqDiff, cQ, rowQ, rowU, rowT, rowM, i64s_getD, i64s_length, i64s_all, i64s_take, i64s_drop, i64s_set, i64s_one, i64s_pure, i64s_append, tab_length, tab_drop, tab_take, tab_append, tab_nil, rowT_all, rowT_one, rowT_pure, rowU_all, rowU_one, rowU_pure, rowQ_all, rowQ_one, rowQ_pure, rowM_all, rowM_one, rowM_pure, List.take_length, List.length_append, sT, view_sref, viewRef, view_agg, views_cons, views_nil, view_bool, view_int, view_sl, view_nils, view_str, view_tup, view_nilif]) : G := e.mpr h
theorem aVd {G G' : Prop} (h : G') (f : Wr G' → G := by intro h; (repeat (first | (refine W_seqV fun K hK => ?_; (try (refine sVd ?_; try exact True.intro)); (repeat refine aI ?_); refine hK _ ?_; clear hK K) | (refine W_seqR fun K hK => ?_; (try (refine sVd ?_; try exact True.intro)); (repeat refine aI ?_); refine hK _ ?_; clear hK K) | (refine W_seqD mixed [] (by kernel_rfl) fun K hK => ?_; (try (refine sVd ?_; try exact True.intro)); (repeat refine aI ?_); refine hK _ ?_; clear hK K))); exact h.out) : G := f ⟨h⟩

def pivF (M : TM) (k : Nat) (o : Int) (g : List (Int × Rat)) (i : Nat) : Int × List (Int × Rat) := if i = k then (o, g) else ((M.getD i default).1, putF (M.getD i default).2 o g)
theorem pivR_eq {M : TM} {k : Nat} (hk : k < M.length) (o : Int) (g : List (Int × Rat)) : pivR M k o g = (List.range M.length).map (pivF M k o g) := by
  unfold pivR
  refine List.ext_getElem (by simp; omega) fun i h1 h2 => ?_
  have hi : i < M.length := by simpa using h2
  rw [List.getElem_map (f := pivF M k o g), List.getElem_range]
  unfold pivF
  rw [List.getElem_append]
  split
  · rename_i h
    rw [List.length_map, List.length_take] at h
    rw [if_neg (by omega)]
    simp [List.getD_eq_getElem?_getD, hi]
  · rename_i h
    rw [List.length_map, List.length_take] at h
    rw [List.getElem_cons]
    split
    · rename_i h'
      rw [List.length_map, List.length_take] at h'
      rw [if_pos (by omega)]
    · rename_i h'
      rw [List.length_map, List.length_take] at h'
      rw [if_neg (by omega)]
      simp only [List.getElem_map, List.getElem_drop, List.length_map, List.length_take, List.getD_eq_getElem?_getD]
      have e : k + 1 + (i - min k M.length - 1) = i := by omega
      simp only [e]
      rw [List.getElem?_eq_getElem hi]
      rfl
theorem put_subst (f g : List (Int × Rat)) (v : Int) : normF (delF f v ++ normF (scaleF (coef f v) g)) = putF (normF f) v g := by
  refine NF.ext (NF.norm _) (NF.put _ _ _) fun x => ?_
  rw [coef_norm, coef_append, coef_norm, coef_put, coef_del, coef_norm, coef_norm, coef_scale]
theorem sorted_ok (n : Int) (N : TM) (hl : N.length ≤ 68157440) (hnf : ∀ r ∈ N, NF r.2) (hsz : ∀ r ∈ N, Sz r.2 4294967296) (hnod : (keys N).Nodup) (hpos : ∀ b ∈ keys N, 0 ≤ b) :
    Pure Tryz.prog 64 [cU n N] (· = cU n (sortM N)) := by
  have hn := nrm_rf hnf
  have h := r7sorted_gen n (rfT N) (by simp [rfT]; exact hl) (fun r hr => by
    obtain ⟨q, hq, rfl⟩ := List.mem_map.1 hr
    exact ((FOk.rf (hsz q hq) (by omega)).pf (by omega)).mono (by omega)) (by rw [hn]; exact hnod) (by rw [hn]; exact hpos)
  rw [hn, cU_rf] at h
  exact h.pure.mono fun r ⟨rows, h1, h2⟩ => by
    subst h1
    exact h2
theorem affM_rf' (g : List (Int × Rat)) (q : Rat) : affM (rf g) (qr q) = affQ g q := by
  have h := cF_rf g
  simp only [cF, cL, AV.sl.injEq] at h
  unfold affM affQ
  rw [h]
  rfl
theorem solv_norm (b : Int) (f : List (Int × Rat)) (o : Int) : solvF b (normF f) o = solvF b f o := by
  unfold solvF
  rw [whole_norm]
set_option maxHeartbeats 8000000 in
theorem r7pivot_ok (n : Int) (t : TR) (b o : Int) (hT : TG t) : Pure Tryz.prog 49 [cT n t, .int .i64 b, .int .i64 o] (· = pivV n t b o) := by
  have hlen := hT.len
  have a1 := r7check_ok n t hT
  have ab := r7is_ok n t b
  have ao := r7is_ok n t o
  have cb := r7row_ok n t b (by omega)
  have co := r7row_ok n t o (by omega)
  have hM := hT.mok
  have hml := nrmT_len t
  have hgt : goodB n (nrmT t) = true → GT n (nrmT t) := gt_iff.1
  have hraw : ∀ i, i < t.length → ∃ v f, (tab rowT t).getD i [] = [.int .i64 v, .sl (tab rowM f)] ∧ (nrmT t).getD i default = (v, normF (vals f)) ∧ FOk f 536870912 := fun i hi =>
    ⟨(t.getD i default).1, (t.getD i default).2, tab_getD hi, nrmT_getD hi, hT.form (getD_mem hi)⟩
  clear hT
  unfold pivV
  unfold cT cU at *
  generalize goodB n (nrmT t) = gb at *
  generalize nrmT t = M at *
  have hz : tab rowU [] = [] := rfl
  rw [hz]
  cases gb
  · simp only [Bool.false_eq_true, if_false] at a1 ⊢
    (refine pureW Tryz.func49 rfl (rs := [Go.ResultVar.cell 6 24, Go.ResultVar.tmp 7]) rfl (n := 114) rfl ?_; simp only [List.length_cons, List.length_nil, List.replicate, List.cons_append, List.nil_append])
    (refine aVd ?_)
    ((refine W_seq (W_seqV ?_)); intro K hK; (refine sVd ?_))
    (refine ⟨by kernel_rfl, _, .pure rfl (a1), ?_⟩; (try (refine sVd ?_)))
    (refine hK _ ?_; clear hK K)
    (repeat' (first | (exfalso; simp at h; done) | (refine W_seqV fun K hK => ?_; (try (refine sVd ?_)); refine hK _ ?_; clear hK K) | (refine W_ret ?_; (refine qG ?_)) | (refine W_cond rfl (fun h => ?_) (fun h => ?_) <;> (try simp only [cond_true, cond_false, ne_eq, cB] at h))))
    (try (refine sVdV ?_; try exact True.intro))
  simp only [if_true] at a1 ⊢
  have hgt := hgt rfl
  by_cases hb : inR n b = true
  rotate_left
  · have hb' : b < 0 ∨ n ≤ b ∨ o < 0 ∨ n ≤ o := by
      by_cases h1 : b < 0
      · exact .inl h1
      · by_cases h2 : n ≤ b
        · exact .inr (.inl h2)
        · exact absurd (inR_in h1 h2) hb
    rw [if_pos hb']
    rw [Bool.not_eq_true] at hb
    rw [hb] at ab
    (refine pureW Tryz.func49 rfl (rs := [Go.ResultVar.cell 6 24, Go.ResultVar.tmp 7]) rfl (n := 114) rfl ?_; simp only [List.length_cons, List.length_nil, List.replicate, List.cons_append, List.nil_append])
    (refine aVd ?_)
    ((refine W_seq (W_seqV ?_)); intro K hK; (refine sVd ?_))
    (refine ⟨by kernel_rfl, _, .pure rfl (a1), ?_⟩; (try (refine sVd ?_)))
    (refine hK _ ?_; clear hK K)
    (repeat' (first | (exfalso; simp at h; done) | (refine W_seqV fun K hK => ?_; (try (refine sVd ?_)); refine hK _ ?_; clear hK K) | refine W_skip ?_ | (refine W_cond rfl (fun h => ?_) (fun h => ?_) <;> (try simp only [cond_true, cond_false, ne_eq, cB] at h)) | refine W_seq ?_))
    ((refine W_regV ?_); intro K hK; (refine sVd ?_))
    (refine ⟨by kernel_rfl, _, .pure rfl (ab), ?_⟩; (try (refine sVd ?_)))
    (refine hK _ ?_; clear hK K)
    (repeat' (first | (exfalso; simp at h; done) | (refine W_seqV fun K hK => ?_; (try (refine sVd ?_)); refine hK _ ?_; clear hK K) | (refine W_ret ?_; (refine qG ?_)) | (refine W_cond rfl (fun h => ?_) (fun h => ?_) <;> (try simp only [cond_true, cond_false, ne_eq, cB] at h))))
    (try (refine sVdV ?_; try exact True.intro))
  by_cases ho : inR n o = true
  rotate_left
  · have hb' : b < 0 ∨ n ≤ b ∨ o < 0 ∨ n ≤ o := by
      by_cases h1 : o < 0
      · exact .inr (.inr (.inl h1))
      · by_cases h2 : n ≤ o
        · exact .inr (.inr (.inr h2))
        · exact absurd (inR_in h1 h2) ho
    rw [if_pos hb']
    rw [Bool.not_eq_true] at ho
    rw [hb] at ab
    rw [ho] at ao
    (refine pureW Tryz.func49 rfl (rs := [Go.ResultVar.cell 6 24, Go.ResultVar.tmp 7]) rfl (n := 114) rfl ?_; simp only [List.length_cons, List.length_nil, List.replicate, List.cons_append, List.nil_append])
    (refine aVd ?_)
    ((refine W_seq (W_seqV ?_)); intro K hK; (refine sVd ?_))
    (refine ⟨by kernel_rfl, _, .pure rfl (a1), ?_⟩; (try (refine sVd ?_)))
    (refine hK _ ?_; clear hK K)
    (repeat' (first | (exfalso; simp at h; done) | (refine W_seqV fun K hK => ?_; (try (refine sVd ?_)); refine hK _ ?_; clear hK K) | refine W_skip ?_ | (refine W_cond rfl (fun h => ?_) (fun h => ?_) <;> (try simp only [cond_true, cond_false, ne_eq, cB] at h)) | refine W_seq ?_))
    ((refine W_regV ?_); intro K hK; (refine sVd ?_))
    (refine ⟨by kernel_rfl, _, .pure rfl (ab), ?_⟩; (try (refine sVd ?_)))
    (refine ⟨by kernel_rfl, _, .pure rfl (ao), ?_⟩; (try (refine sVd ?_)))
    (refine hK _ ?_; clear hK K)
    (repeat' (first | (exfalso; simp at h; done) | (refine W_seqV fun K hK => ?_; (try (refine sVd ?_)); refine hK _ ?_; clear hK K) | (refine W_ret ?_; (refine qG ?_)) | (refine W_cond rfl (fun h => ?_) (fun h => ?_) <;> (try simp only [cond_true, cond_false, ne_eq, cB] at h))))
    (try (refine sVdV ?_; try exact True.intro))
  rw [hb] at ab
  rw [ho] at ao
  have hbo := inR_iff.1 hb
  have hoo := inR_iff.1 ho
  rw [if_neg (by omega)]
  cases hib : idxM M b with
  | none =>
    dsimp only
    rw [rowI_none hib] at cb
    (refine pureW Tryz.func49 rfl (rs := [Go.ResultVar.cell 6 24, Go.ResultVar.tmp 7]) rfl (n := 114) rfl ?_; simp only [List.length_cons, List.length_nil, List.replicate, List.cons_append, List.nil_append])
    (refine aVd ?_)
    ((refine W_seq (W_seqV ?_)); intro K hK; (refine sVd ?_))
    (refine ⟨by kernel_rfl, _, .pure rfl (a1), ?_⟩; (try (refine sVd ?_)))
    (refine hK _ ?_; clear hK K)
    (repeat' (first | (exfalso; simp at h; done) | (refine W_seqV fun K hK => ?_; (try (refine sVd ?_)); refine hK _ ?_; clear hK K) | refine W_skip ?_ | (refine W_cond rfl (fun h => ?_) (fun h => ?_) <;> (try simp only [cond_true, cond_false, ne_eq, cB] at h)) | refine W_seq ?_))
    ((refine W_regV ?_); intro K hK; (refine sVd ?_))
    (refine ⟨by kernel_rfl, _, .pure rfl (ab), ?_⟩; (try (refine sVd ?_)))
    (refine ⟨by kernel_rfl, _, .pure rfl (ao), ?_⟩; (try (refine sVd ?_)))
    (refine hK _ ?_; clear hK K)
    (repeat' (first | (exfalso; simp at h; done) | refine W_skip ?_ | (refine W_cond rfl (fun h => ?_) (fun h => ?_) <;> (try simp only [cond_true, cond_false, ne_eq, cB] at h)) | refine W_seq ?_))
    ((refine W_regV ?_); intro K hK; (refine sVd ?_))
    (refine ⟨by kernel_rfl, _, .pure rfl (cb), ?_⟩; (try (refine sVd ?_)))
    (refine hK _ ?_; clear hK K)
    ((refine W_seq (W_seqV ?_)); intro K hK; (refine sVd ?_))
    (refine hK _ ?_; clear hK K)
    (repeat' (first | (exfalso; simp at h; done) | (refine W_seqV fun K hK => ?_; (try (refine sVd ?_)); refine hK _ ?_; clear hK K) | (refine W_ret ?_; (refine qG ?_)) | (refine W_cond rfl (fun h => ?_) (fun h => ?_) <;> (try simp only [cond_true, cond_false, ne_eq, cB] at h))))
    (try (refine sVdV ?_; try exact True.intro))
  | some k =>
    dsimp only
    obtain ⟨hk1, hk2, _, hk4⟩ := idx_some hib
    rw [rowI_some hib] at cb
    have hjk := nat_ltI k
    by_cases hom : o ∈ keys M
    · rw [if_pos hom]
      obtain ⟨j, hj1, _⟩ := look_idx hom
      rw [rowI_some hj1] at co
      have hjn := nat_geI j
      (refine pureW Tryz.func49 rfl (rs := [Go.ResultVar.cell 6 24, Go.ResultVar.tmp 7]) rfl (n := 114) rfl ?_; simp only [List.length_cons, List.length_nil, List.replicate, List.cons_append, List.nil_append])
      (refine aVd ?_)
      ((refine W_seq (W_seqV ?_)); intro K hK; (refine sVd ?_))
      (refine ⟨by kernel_rfl, _, .pure rfl (a1), ?_⟩; (try (refine sVd ?_)))
      (refine hK _ ?_; clear hK K)
      (repeat' (first | (exfalso; simp at h; done) | (refine W_seqV fun K hK => ?_; (try (refine sVd ?_)); refine hK _ ?_; clear hK K) | refine W_skip ?_ | (refine W_cond rfl (fun h => ?_) (fun h => ?_) <;> (try simp only [cond_true, cond_false, ne_eq, cB] at h)) | refine W_seq ?_))
      ((refine W_regV ?_); intro K hK; (refine sVd ?_))
      (refine ⟨by kernel_rfl, _, .pure rfl (ab), ?_⟩; (try (refine sVd ?_)))
      (refine ⟨by kernel_rfl, _, .pure rfl (ao), ?_⟩; (try (refine sVd ?_)))
      (refine hK _ ?_; clear hK K)
      (repeat' (first | (exfalso; simp at h; done) | refine W_skip ?_ | (refine W_cond rfl (fun h => ?_) (fun h => ?_) <;> (try simp only [cond_true, cond_false, ne_eq, cB] at h)) | refine W_seq ?_))
      ((refine W_regV ?_); intro K hK; (refine sVd ?_))
      (refine ⟨by kernel_rfl, _, .pure rfl (cb), ?_⟩; (try (refine sVd ?_)))
      (refine hK _ ?_; clear hK K)
      ((refine W_seq (W_seqV ?_)); intro K hK; (refine sVdX (And.intro hjk hjn) ?_))
      (refine ⟨by kernel_rfl, _, .pure rfl (co), ?_⟩; (try (refine sVd ?_)))
      (refine sVdX hjn ?_; try exact True.intro)
      (refine hK _ ?_; clear hK K)
      (repeat' (first | (exfalso; simp at h; done) | (refine W_seqV fun K hK => ?_; (try (refine sVd ?_)); refine hK _ ?_; clear hK K) | (refine W_ret ?_; (refine qG ?_)) | (refine W_cond rfl (fun h => ?_) (fun h => ?_) <;> (try simp only [cond_true, cond_false, ne_eq, cB] at h))))
      (try (refine sVdV ?_; try exact True.intro))
    · rw [if_neg hom]
      have hio : idxM M o = none := by
        cases h : idxM M o with
        | none => rfl
        | some j => exact absurd (idx_some h).2.2.2 hom
      rw [rowI_none hio] at co
      obtain ⟨zz, hzz⟩ : ∃ zz : Rat, zz = 0 := ⟨0, rfl⟩
      obtain ⟨vk, f, hXk, hMk, hff⟩ := hraw k (by omega)
      have hw := f3whole_ok 1 (by omega) (by omega)
      have h1e : ((1 : Int) : Rat) = 1 := rfl
      rw [h1e] at hw
      have hsub := f6sub_ok f (rf [(b, 1)]) (hff.pf (by omega)) ((unit_fok b).pf (by omega)) (fun p hp => by simp [rf] at hp; subst hp; rw [qr_v, nb_one]; omega) (by have := hff.sz.l; rw [vals_length] at this; simp [rf]; omega) (by omega)
      rw [vals_rf, cF_rf] at hsub
      change Pure _ _ _ (· = cL (wholeF b (vals f))) at hsub
      have hwf := FOk.rf (hff.sz.whole b) (by omega)
      have hsol := r6solve_ok (rf (wholeF b (vals f))) zeroR o hwf (by omega) zeroR_ok
      have hgs := hff.sz.solv b o
      rw [hMk]
      dsimp only
      rw [whole_norm, solv_norm]
      have hsol0 : coef (wholeF b (vals f)) o = 0 → Pure Tryz.prog 96 [.agg (affM (rf (wholeF b (vals f))) zeroR), .int .i64 o] (· = .tup [.agg [.sl [], .bool false, .sl [], .sl []], .int .i64 61]) := fun h => hsol.mono fun r hr => by
        rw [hr]
        unfold solvA
        rw [vals_rf, if_pos h]
      have hsol1 : coef (wholeF b (vals f)) o ≠ 0 → Pure Tryz.prog 96 [.agg (affM (rf (wholeF b (vals f))) zeroR), .int .i64 o] (· = .tup [.agg (affQ (solvF b (vals f) o) zz), .int .i64 0]) := fun h => hsol.mono fun r hr => by
        rw [hr]
        unfold solvA
        rw [vals_rf, if_neg h, zeroR_v, Rat.mul_zero, hzz]
        have h2 := norm_self (solv_nf h)
        unfold solvF at h2 ⊢
        rw [h2]
      clear hsol
      have hgn := fun h => solv_nf (b := b) (f := vals f) (o := o) h
      generalize solvF b (vals f) o = g at *
      have hput : NF g → ∀ i, i < t.length → ∃ v f', (tab rowT t).getD i [] = [.int .i64 v, .sl (tab rowM f')] ∧ (M.getD i default).1 = v ∧
          Pure Tryz.prog 97 [.agg (affM f' zeroR), .int .i64 o, .agg (affQ g zz)] (· = .agg (affQ (putF (M.getD i default).2 o g) zz)) := fun hg i hi => by
        obtain ⟨v, f', h1, h2, h3⟩ := hraw i hi
        refine ⟨v, f', h1, by rw [h2], ?_⟩
        have h4 := r6subst_ok f' zeroR o (rf g) (qr zz) h3 (FOk.rf hgs (by omega)) zeroR_ok (qr_ok (by rw [hzz, nb_zero]; omega)) (by omega) (by omega) (by rw [vals_rf]; exact hg) (by rw [qr_v, hzz, nb_zero]; omega)
        unfold subsA at h4
        rw [affM_rf', vals_rf, put_subst, zeroR_v, qr_v, hzz, Rat.mul_zero, Rat.add_zero] at h4
        rw [h2, hzz]
        exact h4
      have hso : NF g → Pure Tryz.prog 64 [cU n (pivR M k o g)] (· = cU n (sortM (pivP M k o g))) := fun hg => by
        have hpp := piv_perm M k o g
        have hpn := pivP_nodup hgt.nodup hom (at_ := k) (g := g)
        have hkp : (keys (pivP M k o g)).Perm (keys (pivR M k o g)) := hpp.map _
        rw [sortM_of hpp hpn]
        have hmem : ∀ r ∈ pivR M k o g, ∃ i, i < M.length ∧ r = pivF M k o g i := fun r hr => by
          rw [pivR_eq hk1] at hr
          obtain ⟨i, hi, rfl⟩ := List.mem_map.1 hr
          exact ⟨i, List.mem_range.1 hi, rfl⟩
        refine sorted_ok n _ (by rw [pivR_eq hk1]; simp; omega) (fun r hr => ?_) (fun r hr => ?_) (hkp.nodup_iff.1 hpn) (fun x hx => ?_)
        · obtain ⟨i, hi, rfl⟩ := hmem r hr
          unfold pivF
          split
          · exact hg
          · exact NF.put _ _ _
        · obtain ⟨i, hi, rfl⟩ := hmem r hr
          unfold pivF
          split
          · exact hgs.mono (by omega)
          · have h1 := hM.sz _ (getD_mem hi)
            have h2 := nb_coef (M.getD i default).2 o
            have h3 := h1.b o
            exact (Sz.put h1 hgs o).mono (by omega)
        · have h1 := hkp.mem_iff.2 hx
          rw [keys_pivP] at h1
          rcases List.mem_append.1 h1 with h2 | h2
          · exact (hgt.range x (List.mem_of_mem_eraseIdx h2)).1
          · simp at h2; omega
      have hR := pivR_eq hk1 o g
      have hst : ∀ i, (List.range (i + 1)).map (pivF M k o g) = (List.range i).map (pivF M k o g) ++ [pivF M k o g i] := fun i => by rw [List.range_succ, List.map_append]; rfl
      have h0 : (List.range 0).map (pivF M k o g) = [] := rfl
      have hln : ∀ i, ((List.range i).map (pivF M k o g)).length = i := fun i => by simp
      have hpa : pivF M k o g k = (o, g) := if_pos rfl
      have hpb : ∀ i, i ≠ k → pivF M k o g i = ((M.getD i default).1, putF (M.getD i default).2 o g) := fun i h => if_neg h
      rw [hR, hml] at hso
      unfold cU at hso
      clear hR
      generalize hS : sortM (pivP M k o g) = S at *
      generalize hF : pivF M k o g = F at *
      generalize hE : (fun i => (List.range i).map F) = E at *
      have hE' : ∀ i, (List.range i).map F = E i := fun i => congrFun hE i
      simp only [hE'] at *
      clear hE hE'
      generalize wholeF b (vals f) = wf at *
      have hwF := cF_rf wf
      generalize coef wf o = q at *
      have ht : tab rowQ [(b, (1 : Rat))] = [[.int .i64 b, .bool (decide ((1 : Rat).num < 0)), .sl (u32s (limbs (1 : Rat).num.natAbs)), .sl (u32s (limbs (1 : Rat).den))]] := rfl
      simp only [affM, zeroR] at hsol0 hsol1
      simp only [cF, cL, cQ, AV.sl.injEq] at hw hsub hwF
      rw [ht] at hsub
      rw [hwF] at hsol0 hsol1
      have hu0 : u32s [] = [] := rfl
      rw [hu0] at hsol0 hsol1
      have hk1' : k < t.length := by omega
      by_cases hq : q = 0
      · rw [if_pos hq]
        have hsol0' := hsol0 hq
        (refine pureW Tryz.func49 rfl (rs := [Go.ResultVar.cell 6 24, Go.ResultVar.tmp 7]) rfl (n := 114) rfl ?_; simp only [List.length_cons, List.length_nil, List.replicate, List.cons_append, List.nil_append])
        (refine aVd ?_)
        ((refine W_seq (W_seqV ?_)); intro K hK; (refine sVd ?_))
        (refine ⟨by kernel_rfl, _, .pure rfl (a1), ?_⟩; (try (refine sVd ?_)))
        (refine hK _ ?_; clear hK K)
        (repeat' (first | (exfalso; simp at h; done) | (refine W_seqV fun K hK => ?_; (try (refine sVd ?_)); refine hK _ ?_; clear hK K) | refine W_skip ?_ | (refine W_cond rfl (fun h => ?_) (fun h => ?_) <;> (try simp only [cond_true, cond_false, ne_eq, cB] at h)) | refine W_seq ?_))
        ((refine W_regV ?_); intro K hK; (refine sVd ?_))
        (refine ⟨by kernel_rfl, _, .pure rfl (ab), ?_⟩; (try (refine sVd ?_)))
        (refine ⟨by kernel_rfl, _, .pure rfl (ao), ?_⟩; (try (refine sVd ?_)))
        (refine hK _ ?_; clear hK K)
        (repeat' (first | (exfalso; simp at h; done) | refine W_skip ?_ | (refine W_cond rfl (fun h => ?_) (fun h => ?_) <;> (try simp only [cond_true, cond_false, ne_eq, cB] at h)) | refine W_seq ?_))
        ((refine W_regV ?_); intro K hK; (refine sVd ?_))
        (refine ⟨by kernel_rfl, _, .pure rfl (cb), ?_⟩; (try (refine sVd ?_)))
        (refine hK _ ?_; clear hK K)
        ((refine W_seq (W_seqV ?_)); intro K hK; (refine sVdX hjk ?_))
        (refine ⟨by kernel_rfl, _, .pure rfl (co), ?_⟩; (try (refine sVd ?_)))
        (refine hK _ ?_; clear hK K)
        (repeat' (first | (exfalso; simp at h; done) | refine W_skip ?_ | (refine W_cond rfl (fun h => ?_) (fun h => ?_) <;> (try simp only [cond_true, cond_false, ne_eq, cB] at h)) | refine W_seq ?_))
        ((refine W_regD mixed [(1, 12), (3, 12), (5, 12), (9, 12)] (by kernel_rfl) ?_); intro K hK; (refine sVdX (And.intro hXk hk1') ?_))
        (refine ⟨by kernel_rfl, _, .pure rfl (hw), ?_⟩; (try (refine sVd ?_)); (repeat refine aI ?_))
        (refine sVdX (And.intro hXk hk1') ?_; try exact True.intro)
        (refine ⟨by kernel_rfl, _, .pure rfl (hsub), ?_⟩; (try (refine sVd ?_)); (repeat refine aI ?_))
        (refine hK _ ?_; clear hK K)
        ((refine W_seqV ?_); intro K hK; (refine sVd ?_))
        (refine ⟨by kernel_rfl, _, .pure rfl (hsol0'), ?_⟩; (try (refine sVd ?_)))
        (refine hK _ ?_; clear hK K)
        (repeat' (first | (exfalso; simp at h; done) | (refine W_seqV fun K hK => ?_; (try (refine sVd ?_)); refine hK _ ?_; clear hK K) | (refine W_ret ?_; (refine qG ?_)) | (refine W_cond rfl (fun h => ?_) (fun h => ?_) <;> (try simp only [cond_true, cond_false, ne_eq, cB] at h)) | refine W_seq ?_))
        (try (refine sVdV ?_; try exact True.intro))
      · rw [if_neg hq]
        have hsol1' := hsol1 hq
        have hgn' := hgn hq
        have hput' := hput hgn'
        have hso' := hso hgn'
        clear hsol0 hsol1 hgn hput hso
        unfold affQ at hsol1'
        (refine pureW Tryz.func49 rfl (rs := [Go.ResultVar.cell 6 24, Go.ResultVar.tmp 7]) rfl (n := 114) rfl ?_; simp only [List.length_cons, List.length_nil, List.replicate, List.cons_append, List.nil_append])
        (refine aVd ?_)
        ((refine W_seq (W_seqV ?_)); intro K hK; (refine sVd ?_))
        (refine ⟨by kernel_rfl, _, .pure rfl (a1), ?_⟩; (try (refine sVd ?_)))
        (refine hK _ ?_; clear hK K)
        (repeat' (first | (exfalso; simp at h; done) | (refine W_seqV fun K hK => ?_; (try (refine sVd ?_)); refine hK _ ?_; clear hK K) | refine W_skip ?_ | (refine W_cond rfl (fun h => ?_) (fun h => ?_) <;> (try simp only [cond_true, cond_false, ne_eq, cB] at h)) | refine W_seq ?_))
        ((refine W_regV ?_); intro K hK; (refine sVd ?_))
        (refine ⟨by kernel_rfl, _, .pure rfl (ab), ?_⟩; (try (refine sVd ?_)))
        (refine ⟨by kernel_rfl, _, .pure rfl (ao), ?_⟩; (try (refine sVd ?_)))
        (refine hK _ ?_; clear hK K)
        (repeat' (first | (exfalso; simp at h; done) | refine W_skip ?_ | (refine W_cond rfl (fun h => ?_) (fun h => ?_) <;> (try simp only [cond_true, cond_false, ne_eq, cB] at h)) | refine W_seq ?_))
        ((refine W_regV ?_); intro K hK; (refine sVd ?_))
        (refine ⟨by kernel_rfl, _, .pure rfl (cb), ?_⟩; (try (refine sVd ?_)))
        (refine hK _ ?_; clear hK K)
        ((refine W_seq (W_seqV ?_)); intro K hK; (refine sVdX hjk ?_))
        (refine ⟨by kernel_rfl, _, .pure rfl (co), ?_⟩; (try (refine sVd ?_)))
        (refine hK _ ?_; clear hK K)
        (repeat' (first | (exfalso; simp at h; done) | refine W_skip ?_ | (refine W_cond rfl (fun h => ?_) (fun h => ?_) <;> (try simp only [cond_true, cond_false, ne_eq, cB] at h)) | refine W_seq ?_))
        ((refine W_regD mixed [(1, 12), (3, 12), (5, 12), (9, 12)] (by kernel_rfl) ?_); intro K hK; (refine sVdX (And.intro hXk hk1') ?_))
        (refine ⟨by kernel_rfl, _, .pure rfl (hw), ?_⟩; (try (refine sVd ?_)); (repeat refine aI ?_))
        (refine sVdX (And.intro hXk hk1') ?_; try exact True.intro)
        (refine ⟨by kernel_rfl, _, .pure rfl (hsub), ?_⟩; (try (refine sVd ?_)); (repeat refine aI ?_))
        (refine hK _ ?_; clear hK K)
        ((refine W_seqV ?_); intro K hK; (refine sVd ?_))
        (refine ⟨by kernel_rfl, _, .pure rfl (hsol1'), ?_⟩; (try (refine sVd ?_)))
        (refine hK _ ?_; clear hK K)
        (repeat' (first | (exfalso; simp at h; done) | refine W_block ?_ | (refine W_seqV fun K hK => ?_; (try (refine sVd ?_)); refine hK _ ?_; clear hK K) | refine W_skip ?_ | (refine W_cond rfl (fun h => ?_) (fun h => ?_) <;> (try simp only [cond_true, cond_false, ne_eq, cB] at h)) | refine W_seq ?_))
        refine W.le ?_ (Le_nilO 13 0 1 110 84 2 true rfl rfl rfl rfl)
        simp only [List.set]
        refine W_loop (fun z : {i : Nat // i ≤ t.length} =>
          ⟨(.any :: .any :: (.int .i64 o) :: (.ptr 3 0 0) :: .any :: .any :: (.ptr 6 0 0) :: .any :: .any :: (.int .i64 k) :: .any :: (.ptr 11 0 0) :: .any :: (.ptr 13 0 0) :: (.int .i64 z.1) :: .any :: .any :: .any :: .any :: .any :: .any :: .any :: .any :: .any :: .any :: .any :: .any :: .any :: .any :: .any :: .any :: .any :: .any :: .any :: .any :: .any :: .any :: .any :: .any :: .any :: .any :: .any :: .any :: .any :: .any :: .any :: .any :: .any :: .any :: .any :: .any :: .any :: .any :: .any :: .any :: .any :: .any :: .any :: .any :: .any :: .any :: .any :: .any :: .any :: .any :: .any :: .any :: .any :: .any :: .any :: .any :: .any :: .any :: .any :: .any :: .any :: .any :: .any :: .any :: .any :: .any :: .any :: .any :: .any :: .any :: .any :: .any :: .any :: .any :: .any :: .any :: .any :: .any :: .any :: .any :: .any :: .any :: .any :: .any :: .any :: .any :: .any :: .any :: .any :: .any :: .any :: .any :: .any :: .any :: .any :: .any :: .any :: .any :: .any :: []),
           (.dead :: .dead :: .dead :: (.arr 24 2 false [[.int .i64 n, .sl (tab rowT t)]]) :: .dead :: .dead :: (.arr 24 2 false [[.int .i64 0, .nils]]) :: .dead :: .dead :: .dead :: .dead :: (.arr 121 4 false [[.sl (tab rowQ g), .bool (decide (zz.num < 0)), .sl (u32s (limbs zz.num.natAbs)), .sl (u32s (limbs zz.den))]]) :: .dead :: (.arr 24 2 false [[.int .i64 n, .sref 110 0 z.1]]) :: .dead :: .dead :: .dead :: .dead :: .dead :: .dead :: .dead :: .dead :: .dead :: .dead :: .dead :: .dead :: .dead :: .dead :: .dead :: .dead :: .dead :: .dead :: .dead :: .dead :: .dead :: .dead :: .dead :: .dead :: .dead :: .dead :: .dead :: .dead :: .dead :: .dead :: .dead :: .dead :: .dead :: .dead :: .dead :: .dead :: .dead :: .dead :: .dead :: .dead :: .dead :: .dead :: .dead :: .dead :: .dead :: .dead :: .dead :: .dead :: .dead :: .dead :: .dead :: .dead :: .dead :: .dead :: .dead :: .dead :: .dead :: .dead :: .dead :: .dead :: .dead :: .dead :: .dead :: .dead :: .dead :: .dead :: .dead :: .dead :: .dead :: .dead :: .dead :: .dead :: .dead :: .dead :: .dead :: .dead :: .dead :: .dead :: .dead :: .dead :: .dead :: .dead :: .dead :: .dead :: .dead :: .dead :: .dead :: .dead :: .dead :: .dead :: .dead :: .dead :: .dead :: .dead :: .dead :: .dead :: (.arr 84 2 true (tab rowU (E z.1))) :: .dead :: .dead :: .dead :: [])⟩) (fun z => t.length - z.1)
          ⟨0, by omega⟩ (Le_drop (by simp [leE]) (by simp [leH, h0, tab]) rfl rfl) fun z => ?_
        obtain ⟨i, hi⟩ := z
        dsimp only
        by_cases hlt : i < t.length
        · obtain ⟨v, f', hti, hMv, hsb⟩ := hput' i hlt
          have hsi := hst i
          have hli := hln i
          have hpi := hpb i
          generalize putF (M.getD i default).2 o g = pf at *
          generalize hE1 : E (i + 1) = o' at *
          generalize E i = oo at *
          simp only [affM, affQ, zeroR, hu0] at hsb
          refine W_seq ?_
          ((refine W_seqV ?_); intro K hK; (refine sVdX hlt ?_))
          (refine hK _ ?_; clear hK K)
          (refine W_cond rfl (fun _ => ?_) (fun h => by cases h))
          refine W_skip ?_
          simp only [thenW]
          refine W_seq ?_
          refine W_block ?_
          refine W_seq ?_
          by_cases hik : i = k
          · have hkk : ((i : Int) == (k : Int)) = true := by simp [hik]
            rw [hik, hpa] at hsi
            ((refine W_seqV ?_); intro K hK; (refine sVdX hkk ?_))
            (refine hK _ ?_; clear hK K)
            (refine W_cond rfl (fun _ => ?_) (fun h => by cases h))
            refine W_seqR fun K hK => ?_
            (refine sVdX hkk ?_; try exact True.intro)
            (repeat refine aI ?_)
            refine hK _ ?_
            clear hK K
            refine W_exit ?_
            simp only [thenW, blockW, if_true]
            ((refine W_regV ?_); intro K hK; (refine sVd ?_))
            (refine hK _ ?_; clear hK K)
            simp only [blockW, thenW]
            refine ⟨⟨i + 1, by omega⟩, Le_drop (by simp [leE]) (by simp [leH, hE1, hsi, ← tab_snoc, rowU, tab_take, List.take_of_length_le, hli]) rfl rfl, ?_⟩
            dsimp only
            omega
          · have hkk : ((i : Int) == (k : Int)) = false := beq_eq_false_iff_ne.2 fun h => hik (by omega)
            rw [hpi hik, hMv] at hsi
            ((refine W_seqV ?_); intro K hK; (refine sVdX hkk ?_))
            (refine hK _ ?_; clear hK K)
            (refine W_cond rfl (fun h => by cases h) (fun _ => ?_))
            refine W_skip ?_
            simp only [thenW]
            ((refine W_seqD mixed [(1, 10), (3, 10), (5, 10), (8, 10)] (by kernel_rfl) ?_); intro K hK; (refine sVdX (And.intro hti hlt) ?_))
            (refine ⟨by kernel_rfl, _, .pure rfl (hsb), ?_⟩; (try (refine sVd ?_)); (repeat refine aI ?_))
            (refine hK _ ?_; clear hK K)
            ((refine W_regS mixed 12 [] (by kernel_rfl) ?_); intro K hK; (refine sVdX (And.intro hti hlt) ?_))
            ((repeat refine aI ?_); refine hK _ ?_; clear hK K)
            simp only [thenW, blockW]
            ((refine W_regV ?_); intro K hK; (refine sVd ?_))
            (refine hK _ ?_; clear hK K)
            simp only [blockW, thenW]
            refine ⟨⟨i + 1, by omega⟩, Le_drop (by simp [leE]) (by simp [leH, hE1, hsi, ← tab_snoc, rowU, tab_take, List.take_of_length_le, hli]) rfl rfl, ?_⟩
            dsimp only
            omega
        · obtain rfl : i = t.length := by omega
          have hli := hln t.length
          generalize E t.length = oo at *
          refine W_seq ?_
          ((refine W_seqV ?_); intro K hK; (refine sVd ?_))
          (refine hK _ ?_; clear hK K)
          (refine W_cond rfl (fun h => by cases h) (fun _ => ?_))
          refine W_exit ?_
          simp only [thenW, blockW, if_true]
          rw [← hli]
          (refine W.le ?_ (Le_freeze 110 (rows := tab rowU oo) rfl (by simp) (.inl rfl)); simp only [St.freeze, List.map_cons, List.map_nil, List.set, if_true, if_false, Nat.reduceEqDiff, reduceCtorEq, List.drop_zero, u32s_take, u32s_drop, froz_any, froz_und, froz_int, froz_bool, froz_str, froz_nils, froz_sl, froz_ia, froz_nilp, froz_nilif, froz_nilfn, froz_nilmp, froz_gl, froz_sref, froz_ptr, froz_agg, froz_tup, froz_fn, froz_ifc, frozs_nil, frozs_cons, froz_dead, froz_arr, froz_mp, froz_it, froz_md, froz_map, froz_iter])
          simp only [froz_arrF, List.map_cons, List.map_nil, frozs_cons, frozs_nil, froz_bool, froz_sl, froz_nils, froz_int, froz_sref, if_true, List.drop_zero]
          rw [List.take_of_length_le (by simp [tab_length])]
          ((refine W_seqV ?_); intro K hK; (refine sVd ?_))
          (refine ⟨by kernel_rfl, _, .pure rfl (hso'), ?_⟩; (try (refine sVd ?_)))
          (refine hK _ ?_; clear hK K)
          (repeat' (refine W_ret ?_; (refine qG ?_)))
          (try (refine sVdV ?_; try exact True.intro))
end Go.Proofs.YtjmpajgjaefcjaaGreat.Vm

namespace Go.Proofs.YtjmpajgjaefcjaaGreat.Vm
open Go Go.RowKit
set_option maxRecDepth 100000
set_option linter.unusedVariables false
set_option linter.unusedSimpArgs false
theorem perm_erase {α : Type} {l : List α} {k : Nat} (h : k < l.length) : l.Perm (l[k]::l.eraseIdx k) := by
 rw [List.eraseIdx_eq_take_drop_succ]
 have h1 : l = l.take k ++ l[k]::l.drop (k + 1) := by rw [← List.drop_eq_getElem_cons h,List.take_append_drop]
 exact (List.Perm.of_eq h1).trans List.perm_middle
structure Piv (n : Int) (M : TM) (k : Nat) (b o : Int) : Prop where
 gt : GT n M
 nf : ∀ r ∈ M,NF r.2
 hk : k < M.length
 kb : (M.getD k default).1 = b
 ho : o ∉ keys M
 or : 0 ≤ o ∧ o < n
 nz : coef (M.getD k default).2 o ≠ 0
section
variable {n : Int} {M : TM} {k : Nat} {b o : Int}
theorem Piv.bo (h : Piv n M k b o) : b ≠ o := fun he => h.ho (by rw [← he,← h.kb];exact List.mem_map.2 ⟨_,getD_mem h.hk,rfl⟩)
theorem Piv.hb (h : Piv n M k b o) : b ∈ keys M := by rw [← h.kb];exact List.mem_map.2 ⟨_,getD_mem h.hk,rfl⟩
theorem Piv.rb (h : Piv n M k b o) : coef (M.getD k default).2 b = 0 := free_coef h.gt (getD_mem h.hk) h.hb
theorem Piv.whole (h : Piv n M k b o) : coef (wholeF b (M.getD k default).2) o = coef (M.getD k default).2 o := by
 rw [coef_whole,if_neg (Ne.symm h.bo)];grind
theorem Piv.g (h : Piv n M k b o) (x : Int) : coef (solvF b (M.getD k default).2 o) x = if x = o then 0 else -(coef (M.getD k default).2 o)⁻¹ * (coef (M.getD k default).2 x - if x = b then 1 else 0) := by
 unfold solvF
 rw [coef_scale,h.whole,coef_del,coef_whole]
 split <;> grind
theorem Piv.gn (h : Piv n M k b o) : NF (solvF b (M.getD k default).2 o) := solv_nf (by rw [h.whole];exact h.nz)
theorem erase_mem (h : Piv n M k b o) {r : Int × List (Int × Rat)} (hr : r ∈ M.eraseIdx k) : r ∈ M ∧ r.1 ≠ b ∧ r.1 ≠ o := by
 have hm := List.mem_of_mem_eraseIdx hr
 refine ⟨hm,fun he => ?_,fun he => h.ho (by rw [← he];exact List.mem_map.2 ⟨_,hm,rfl⟩)⟩
 have h1 : (keys (M.eraseIdx k)) = (keys M).eraseIdx k := by
  have : ∀ (l : TM) (k : Nat),(l.eraseIdx k).map (·.1) = (l.map (·.1)).eraseIdx k := by
   intro l
   induction l with
   | nil => intro k;cases k <;> rfl
   | cons x l ih => intro k;cases k with
    | zero => rfl
    | succ k => simp [ih]
  exact this M k
 have h2 : b ∈ (keys M).eraseIdx k := by rw [← h1,← he];exact List.mem_map.2 ⟨_,hr,rfl⟩
 have h3 : k < (keys M).length := by rw [keys_len];exact h.hk
 have h4 : (keys M)[k] = b := by
  simp only [keys,List.getElem_map]
  rw [← h.kb]
  simp [List.getD_eq_getElem?_getD,h.hk]
 have h5 := h.gt.nodup
 have h6 : (keys M).Perm ((keys M)[k]::(keys M).eraseIdx k) := perm_erase h3
 have h7 := h6.nodup_iff.1 h5
 rw [List.nodup_cons,h4] at h7
 exact h7.1 h2
theorem Piv.pgt (h : Piv n M k b o) : GT n (pivP M k o (solvF b (M.getD k default).2 o)) := by
 have hnd := pivP_nodup h.gt.nodup h.ho (at_ := k) (g := solvF b (M.getD k default).2 o)
 have hkeys : ∀ x,x ∈ keys (pivP M k o (solvF b (M.getD k default).2 o)) → x = o ∨ (x ∈ keys M ∧ x ≠ b ∧ x ≠ o) := fun x hx => by
  unfold pivP at hx
  rw [keys_append] at hx
  rcases List.mem_append.1 hx with hx | hx
  ·simp only [keys,List.map_map] at hx
   obtain ⟨r,hr,rfl⟩ := List.mem_map.1 hx
   obtain ⟨h1,h2,h3⟩ := erase_mem h hr
   exact .inr ⟨List.mem_map.2 ⟨_,h1,rfl⟩,h2,h3⟩
  ·simp [keys] at hx;exact .inl hx
 have hgr : ∀ x,coef (solvF b (M.getD k default).2 o) x ≠ 0 → (0 ≤ x ∧ x < n) ∧ x ≠ o ∧ (x = b ∨ x ∉ keys M) := fun x hx => by
  rw [h.g] at hx
  have hxo : x ≠ o := fun he => hx (by rw [if_pos he])
  rw [if_neg hxo] at hx
  by_cases hxb : x = b
  ·exact ⟨by rw [hxb];exact h.gt.range _ h.hb,hxo,.inl hxb⟩
  ·rw [if_neg hxb] at hx
   have hc : coef (M.getD k default).2 x ≠ 0 := fun he => hx (by rw [he];grind)
   obtain ⟨p,hp,rfl⟩ : ∃ p,p ∈ (M.getD k default).2 ∧ p.1 = x := Classical.byContradiction fun hn => hc (coef_none fun p hp he => hn ⟨p,hp,he⟩)
   have := h.gt.free _ (getD_mem h.hk) p hp
   exact ⟨this.1,hxo,.inr this.2⟩
 refine ⟨h.gt.lo,h.gt.hi,hnd,fun x hx => ?_,fun r hr p hp => ?_⟩
 ·rcases hkeys x hx with rfl | ⟨h1,_⟩
  ·exact h.or
  ·exact h.gt.range x h1
 ·have hmem : ∀ (f : List (Int × Rat)),NF f → p ∈ f → coef f p.1 ≠ 0 := fun f hf hp => by rw [hf.coef_mem hp];exact hf.nz p hp
  have key : (0 ≤ p.1 ∧ p.1 < n) ∧ p.1 ≠ o ∧ (p.1 = b ∨ p.1 ∉ keys M) := by
   unfold pivP at hr
   rcases List.mem_append.1 hr with hr | hr
   ·obtain ⟨r',hr',rfl⟩ := List.mem_map.1 hr
    obtain ⟨h1,h2,h3⟩ := erase_mem h hr'
    have hz := hmem _ (NF.put _ _ _) hp
    rw [coef_put] at hz
    by_cases hg : coef (solvF b (M.getD k default).2 o) p.1 = 0
    ·rw [hg,Rat.mul_zero,Rat.add_zero] at hz
     have hxo : p.1 ≠ o := fun he => hz (by rw [if_pos he])
     rw [if_neg hxo] at hz
     obtain ⟨q,hq,hqe⟩ : ∃ q,q ∈ r'.2 ∧ q.1 = p.1 := Classical.byContradiction fun hn => hz (coef_none fun q hq he => hn ⟨q,hq,he⟩)
     have := h.gt.free _ h1 q hq
     rw [hqe] at this
     exact ⟨this.1,hxo,.inr this.2⟩
    ·exact hgr _ hg
   ·simp at hr
    subst hr
    exact hgr _ (hmem _ h.gn hp)
  refine ⟨key.1,fun hx => ?_⟩
  rcases hkeys _ hx with he | ⟨h1,h2,h3⟩
  ·exact key.2.1 he
  ·rcases key.2.2 with h4 | h4
   ·exact h2 h4
   ·exact h4 h1
theorem foll_comb (hg : GT n M) {f : List (Int × Rat)} (d : Nat → Rat) (hf : ∀ x,coef f x = sig M.length fun i => d i * zc (M.getD i default) x) : (exprT M f).isEmpty = true := by
 rw [empty_iff hg]
 intro x
 have hd : ∀ l,l < M.length → coef f (M.getD l default).1 = - d l := fun l hl => by
  rw [hf]
  have h1 : (sig M.length fun i => d i * zc (M.getD i default) (M.getD l default).1) = sig M.length fun i => (- d i) * dl i l := sig_congr fun i hi => by
   rw [zc_basic hg hi hl];grind
  rw [h1,sig_dl (fun i => - d i),if_pos hl]
 rw [hf x]
 have h2 : (sig M.length fun i => coef f (M.getD i default).1 * zc (M.getD i default) x) = sig M.length fun i => (-1 : Rat) * (d i * zc (M.getD i default) x) := sig_congr fun i hi => by
  rw [hd i hi];grind
 rw [h2,sig_mul]
 grind
theorem sig_two (f : Nat → Rat) {m i j : Nat} (hi : i < m) (hj : j < m) (hij : i ≠ j) (a c : Rat) : (sig m fun l => (a * dl l i + c * dl l j) * f l) = a * f i + c * f j := by
 have h1 : (sig m fun l => (a * dl l i + c * dl l j) * f l) = (sig m fun l => (a * f l) * dl l i) + sig m fun l => (c * f l) * dl l j := by
  rw [← sig_add]
  exact sig_congr fun l _ => by grind
 rw [h1,sig_dl (fun l => a * f l),sig_dl (fun l => c * f l),if_pos hi,if_pos hj]
theorem sig_one (f : Nat → Rat) {m i : Nat} (hi : i < m) (a : Rat) : (sig m fun l => (a * dl l i) * f l) = a * f i := by
 have h1 : (sig m fun l => (a * dl l i) * f l) = sig m fun l => (a * f l) * dl l i := sig_congr fun l _ => by grind
 rw [h1,sig_dl (fun l => a * f l),if_pos hi]
theorem Piv.foll (h : Piv n M k b o) : follB M (pivP M k o (solvF b (M.getD k default).2 o)) = true := by
 unfold follB
 rw [List.all_eq_true]
 intro r hr
 have hgz : ∀ x,coef (solvF b (M.getD k default).2 o) x - (if x = o then 1 else 0) = -(coef (M.getD k default).2 o)⁻¹ * zc (M.getD k default) x := fun x => by
  have hi := Rat.inv_mul_cancel _ h.nz
  rw [h.g]
  unfold zc
  rw [h.kb]
  by_cases hx : x = o
  ·subst hx
   rw [if_pos rfl,if_pos rfl,if_neg (Ne.symm h.bo)]
   grind
  ·rw [if_neg hx,if_neg hx];grind
 unfold pivP at hr
 rcases List.mem_append.1 hr with hr | hr
 ·obtain ⟨r',hr',rfl⟩ := List.mem_map.1 hr
  obtain ⟨h1,h2,h3⟩ := erase_mem h hr'
  obtain ⟨j,hj,rfl⟩ := mem_getD h1
  have hjk : j ≠ k := fun he => h2 (by rw [he];exact h.kb)
  dsimp only
  refine foll_comb h.gt (fun l => 1 * dl l j + (coef (M.getD j default).2 o * -(coef (M.getD k default).2 o)⁻¹) * dl l k) fun x => ?_
  rw [sig_two (fun l => zc (M.getD l default) x) hj h.hk hjk,coef_wholeZ]
  have h4 := hgz x
  unfold zc at h4 ⊢
  dsimp only
  rw [coef_put]
  have h5 : x = o → x ≠ (M.getD j default).1 := fun he hb => h3 (hb ▸ he)
  by_cases hx : x = o
  ·rw [if_pos hx,if_neg (h5 hx)]
   rw [if_pos hx] at h4
   subst hx
   grind
  ·rw [if_neg hx]
   rw [if_neg hx] at h4
   grind
 ·simp at hr
  subst hr
  dsimp only
  refine foll_comb h.gt (fun l => (-(coef (M.getD k default).2 o)⁻¹) * dl l k) fun x => ?_
  rw [sig_one (fun l => zc (M.getD l default) x) h.hk,coef_wholeZ,← hgz x]
  rfl
theorem Piv.gb (h : Piv n M k b o) : coef (solvF b (M.getD k default).2 o) b = (coef (M.getD k default).2 o)⁻¹ := by
 rw [h.g,if_neg h.bo,if_pos rfl,h.rb]
 grind
theorem Piv.solve_back (h : Piv n M k b o) : solvF o (solvF b (M.getD k default).2 o) b = (M.getD k default).2 := by
 have hg := h.g
 have hgb := h.gb
 generalize solvF b (M.getD k default).2 o = G at *
 have hi := Rat.inv_mul_cancel _ h.nz
 have hrb := h.rb
 have hw : coef (wholeF o G) b = (coef (M.getD k default).2 o)⁻¹ := by
  rw [coef_whole,hgb,if_neg h.bo];grind
 have hz : coef (wholeF o G) b ≠ 0 := by
  rw [hw]
  intro he
  rw [he] at hi
  grind
 refine NF.ext (solv_nf hz) (h.nf _ (getD_mem h.hk)) fun x => ?_
 unfold solvF
 rw [coef_scale,hw,coef_del,Rat.inv_inv,coef_whole,hg]
 by_cases hxb : x = b
 ·subst hxb;rw [if_pos rfl,hrb];grind
 ·rw [if_neg hxb]
  by_cases hxo : x = o
  ·subst hxo;rw [if_pos rfl,if_pos rfl];grind
  ·rw [if_neg hxo,if_neg hxo,if_neg hxb];grind
theorem Piv.put_back (h : Piv n M k b o) {r : Int × List (Int × Rat)} (hr : r ∈ M) : putF (putF r.2 o (solvF b (M.getD k default).2 o)) b (M.getD k default).2 = r.2 := by
 refine NF.ext (NF.put _ _ _) (h.nf _ hr) fun x => ?_
 have hi := Rat.inv_mul_cancel _ h.nz
 have hrb := h.rb
 have hr0 : coef r.2 b = 0 := free_coef h.gt hr h.hb
 rw [coef_put,coef_put,coef_put,if_neg h.bo,h.gb,h.g,hr0]
 by_cases hxb : x = b
 ·subst hxb
  rw [if_pos rfl,hrb,hr0]
  grind
 ·rw [if_neg hxb]
  by_cases hxo : x = o
  ·subst hxo
   rw [if_pos rfl,if_pos rfl]
   grind
  ·rw [if_neg hxo,if_neg hxo,if_neg hxb]
   grind
theorem perm_cancel {S A : TM} {r : Int × List (Int × Rat)} {k : Nat} (hp : S.Perm (A ++ [r])) (hk : k < S.length) (hr : S.getD k default = r) : (S.eraseIdx k).Perm A := by
 have h1 := perm_erase hk
 rw [show S[k] = r by rw [← hr];simp [List.getD_eq_getElem?_getD,hk]] at h1
 have h2 : (A ++ [r]).Perm (r::A) := List.perm_append_singleton _ _
 exact (h1.symm.trans (hp.trans h2)).cons_inv
theorem Piv.back (h : Piv n M k b o) {S : TM} (hS : S.Perm (pivP M k o (solvF b (M.getD k default).2 o))) {k' : Nat} (hk' : k' < S.length) (ho' : (S.getD k' default).1 = o) :
  Piv n S k' o b ∧ (S.getD k' default).2 = solvF b (M.getD k default).2 o ∧ (pivP S k' b (M.getD k default).2).Perm M := by
 have hgt := h.pgt.perm hS.symm
 have hmem : (S.getD k' default) ∈ S := getD_mem hk'
 have hsk : S.getD k' default = (o,solvF b (M.getD k default).2 o) := by
  have h0 := hS.mem_iff.1 hmem
  generalize S.getD k' default = q at *
  obtain ⟨q1,q2⟩ := q
  dsimp only at ho'
  subst ho'
  have h1 := look_of h.pgt.nodup h0
  have h2 := look_of h.pgt.nodup (k := q1) (g := solvF b (M.getD k default).2 q1) (by unfold pivP;simp)
  rw [h1] at h2
  exact Prod.ext rfl (by simpa using h2)
 have hgb : coef (solvF b (M.getD k default).2 o) b ≠ 0 := by
  rw [h.gb]
  have hi := Rat.inv_mul_cancel _ h.nz
  intro he
  rw [he] at hi
  grind
 have hbn : b ∉ keys S := fun hb => by
  have h1 : b ∈ keys (pivP M k o (solvF b (M.getD k default).2 o)) := (hS.map (·.1)).mem_iff.1 hb
  obtain ⟨r,hr,hrb⟩ := List.mem_map.1 h1
  unfold pivP at hr
  rcases List.mem_append.1 hr with hr | hr
  ·obtain ⟨r',hr',rfl⟩ := List.mem_map.1 hr
   exact (erase_mem h hr').2.1 hrb
  ·simp at hr
   subst hr
   exact h.bo hrb.symm
 have hA := perm_cancel hS hk' hsk
 refine ⟨⟨hgt,fun r hr => ?_,hk',ho',hbn,h.gt.range _ h.hb,by rw [hsk];exact hgb⟩,by rw [hsk],?_⟩
 ·have hr := hS.mem_iff.1 hr
  unfold pivP at hr
  rcases List.mem_append.1 hr with hr | hr
  ·obtain ⟨r',_,rfl⟩ := List.mem_map.1 hr
   exact NF.put _ _ _
  ·simp at hr;subst hr;exact h.gn
 ·unfold pivP
  have h1 : ((S.eraseIdx k').map fun r => (r.1,putF r.2 b (M.getD k default).2)).Perm (M.eraseIdx k) := by
   refine (hA.map _).trans (List.Perm.of_eq ?_)
   rw [List.map_map]
   refine (List.map_congr_left fun r hr => ?_).trans (List.map_id _)
   simp only [Function.comp]
   rw [h.put_back (erase_mem h hr).1]
   rfl
  refine (h1.append_right _).trans ((List.perm_append_singleton _ _).trans ?_)
  have h2 := perm_erase h.hk
  have e1 : M[k]'h.hk = M.getD k default := by simp [List.getD_eq_getElem?_getD,h.hk]
  have e2 : M.getD k default = (b,(M.getD k default).2) := Prod.ext h.kb rfl
  exact (h2.trans (List.Perm.of_eq (by rw [e1];exact congrArg (·::M.eraseIdx k) e2))).symm
end
end Go.Proofs.YtjmpajgjaefcjaaGreat.Vm
namespace Go.Proofs.YtjmpajgjaefcjaaGreat.Vm
open Go Go.RowKit
set_option maxRecDepth 100000
set_option linter.unusedVariables false
set_option linter.unusedSimpArgs false
end Go.Proofs.YtjmpajgjaefcjaaGreat.Vm
namespace Go.Proofs.YtjmpajgjaefcjaaGreat.Vm
open Go Go.RowKit
set_option maxRecDepth 100000
set_option linter.unusedVariables false
set_option linter.unusedSimpArgs false
theorem Ht.sumM {c : Int → Rat} {D1 m1 D2 m2 : Nat} (hc : ∀ b,Ht D1 m1 (c b)) (x : Int) : ∀ M : TM,(∀ r ∈ M,Ht D2 m2 (Vm.coef r.2 x)) → Ht (D1 * D2) (M.length * (m1 * m2)) (Vm.sumM c x M)
 | [],_ => Ht.zero _ _
 | r::M,h => by
  have ih := Ht.sumM hc x M fun q hq => h q (List.mem_cons_of_mem _ hq)
  have h1 := (hc r.1).mul (h r List.mem_cons_self)
  simp only [Vm.sumM,List.length_cons]
  exact (h1.add ih).mono (by rw [Nat.add_mul];omega)
structure MHt (M : TM) (D m k : Nat) : Prop where
 pos : 0 < D
 co : ∀ r ∈ M,∀ x,Ht D m (Vm.coef r.2 x)
 dlt : D < 2 ^ k
 mlt : m < 2 ^ k
theorem MHt.of (M : TM) : MHt M (dnM M) (htM M) (tb M + 1) :=
 ⟨dnM_pos M,fun r hr x => by
  have := Ht.ofM (E := 1) (m := 1) hr (by have := Ht.coef r.2 x;simpa using this)
  simpa using this,dnM_lt M,htM_lt M⟩
theorem MHt.nb {M : TM} {D m k : Nat} (h : MHt M D m k) {r : Int × List (Int × Rat)} (hr : r ∈ M) (x : Int) : Vm.nb (Vm.coef r.2 x) ≤ k + 1 := (h.co r hr x).nb h.pos h.dlt h.mlt
theorem ExOk.ht {M : TM} {f : List (Int × RR)} (hf : FOk f 536870912) (hro : ∀ r ∈ M,Sz r.2 536870912) (hl : M.length ≤ 65536) {D m k D2 m2 k2 : Nat} (hD : 0 < D) (h1 : ∀ x,Ht D m (coef (vals f) x)) (hDk : D < 2 ^ k) (hmk : m < 2 ^ k) (hM : MHt M D2 m2 k2) (hk : k + k2 ≤ 536870000) : ExOk M f := by
 refine ⟨hf,hro,fun i x y c hc hy => ?_⟩
 have hcb : ∀ b,Ht D m (c b) := fun b => by
  rcases hc b with h | h
  ·rw [h];exact h1 b
  ·rw [h];exact Ht.zero _ _
 have hyy : Ht D m y := by
  rcases hy with h | h
  ·rw [h];exact h1 x
  ·rw [h];exact Ht.zero _ _
 have hs := Ht.sumM hcb x (M.take i) fun r hr => hM.co r (List.mem_of_mem_take hr) x
 have ha := (hyy.wide D2).add hs
 have hlen : (M.take i).length < 2 ^ 17 := by rw [List.length_take];omega
 have e1 : m * D2 < 2 ^ (17 + (k + k2)) := pow_up (mul_lt_pow hmk hM.dlt) (by omega)
 have e2 : (M.take i).length * (m * m2) < 2 ^ (17 + (k + k2)) := mul_lt_pow hlen (mul_lt_pow hmk hM.mlt)
 have e3 : m * D2 + (M.take i).length * (m * m2) < 2 ^ (18 + (k + k2)) := by
  rw [show 18 + (k + k2) = (17 + (k + k2)) + 1 by omega,Nat.pow_succ];omega
 have e4 : D * D2 < 2 ^ (18 + (k + k2)) := pow_up (mul_lt_pow hDk hM.dlt) (by omega)
 exact Nat.le_trans (ha.nb (Nat.mul_pos hD hM.pos) e4 e3) (by omega)
theorem keys_le {n : Int} {M : TM} (hg : GT n M) : M.length ≤ 65536 := by
 have h1 : ((keys M).map Int.toNat).Nodup := by
  have h2 := hg.nodup
  have h3 := hg.range
  generalize keys M = l at *
  induction l with
  | nil => simp
  | cons a l ih =>
   rw [List.nodup_cons] at h2
   rw [List.map_cons,List.nodup_cons]
   refine ⟨fun hm => ?_,ih h2.2 fun b hb => h3 b (List.mem_cons_of_mem _ hb)⟩
   obtain ⟨c,hc,he⟩ := List.mem_map.1 hm
   have e1 := h3 a List.mem_cons_self
   have e2 := h3 c (List.mem_cons_of_mem _ hc)
   exact h2.1 (by rw [show a = c by omega];exact hc)
 have h2 := nodup_range_le h1 (n := 65536) fun x hx => by
  obtain ⟨c,hc,rfl⟩ := List.mem_map.1 hx
  have := hg.range c hc
  have := hg.hi
  omega
 rw [List.length_map,keys_len] at h2
 exact h2
theorem Ht.div {D m m' : Nat} {q p : Rat} (hq : Ht D m q) (hp : Ht D m' p) (h0 : p ≠ 0) (hD : 0 < D) : ∃ κ,0 < κ ∧ κ ≤ m' ∧ p * D = ((p * D).num : Rat) ∧ κ = (p * D).num.natAbs ∧ Ht κ m (q * p⁻¹) := by
 obtain ⟨k,h1,h2⟩ := hq
 obtain ⟨K,h3,h4⟩ := hp
 have hDr : (D : Rat) ≠ 0 := fun h => by
  rw [show (0 : Rat) = ((0 : Nat) : Rat) from rfl,Rat.natCast_inj] at h
  omega
 have hKn : (p * (D : Rat)).num = K := by rw [h3];rfl
 have hK0 : K ≠ 0 := fun h => by
  rw [h] at h3
  rcases Rat.mul_eq_zero.1 h3 with h | h
  ·exact h0 h
  ·exact hDr h
 refine ⟨K.natAbs,by omega,h4,by rw [hKn];exact h3,by rw [hKn],?_⟩
 have hpi := Rat.inv_mul_cancel _ h0
 have hm : q * p⁻¹ * (K : Rat) = (k : Rat) := by
  rw [← h3,← h1];grind
 rcases Int.natAbs_eq K with hs | hs
 ·refine ⟨k,?_,h2⟩
  have e : ((K.natAbs : Nat) : Rat) = (K : Rat) := by rw [← Rat.intCast_natCast,← hs]
  rw [e,hm]
 ·refine ⟨-k,?_,by omega⟩
  have e : ((K.natAbs : Nat) : Rat) = -(K : Rat) := by
   rw [← Rat.intCast_natCast,show ((K.natAbs : Nat) : Int) = -K by omega,Rat.intCast_neg]
  rw [e,Rat.mul_neg,hm]
  simp
section
variable {n : Int} {M : TM} {k : Nat} {b o : Int}
theorem Piv.ht (h : Piv n M k b o) {D m j : Nat} (hM : MHt M D m j) (hle : D ≤ m) : ∃ D',MHt (pivP M k o (solvF b (M.getD k default).2 o)) D' (2 * (m * m)) (j + j + 1) := by
 have hrm := getD_mem h.hk
 have hro := hM.co _ hrm o
 obtain ⟨κ,k1,k2,k3,k4,_⟩ := Ht.div (Ht.zero D m) hro h.nz hM.pos
 have hm0 : 0 < m := Nat.lt_of_lt_of_le hM.pos hle
 have hdiv : ∀ q,Ht D m q → Ht κ m (q * (coef (M.getD k default).2 o)⁻¹) := fun q hq => by
  obtain ⟨κ',e1,e2,e3,e4,e5⟩ := Ht.div hq hro h.nz hM.pos
  rw [k4,← e4]
  exact e5
 have hone : Ht D m 1 := by
  have := (Ht.one 1 (Nat.le_refl _)).wide D
  rw [Nat.one_mul] at this
  exact this.mono hle
 have hg : ∀ x,Ht κ m (coef (solvF b (M.getD k default).2 o) x) := fun x => by
  rw [h.g]
  split
  ·exact Ht.zero _ _
  ·by_cases hx : x = b
   ·rw [if_pos hx,hx,h.rb]
    have := hdiv 1 hone
    rw [show -(coef (M.getD k default).2 o)⁻¹ * (0 - 1) = 1 * (coef (M.getD k default).2 o)⁻¹ by grind]
    exact this
   ·rw [if_neg hx]
    have := (hdiv _ (hM.co _ hrm x)).neg
    rw [show -(coef (M.getD k default).2 o)⁻¹ * (coef (M.getD k default).2 x - 0) = -(coef (M.getD k default).2 x * (coef (M.getD k default).2 o)⁻¹) by grind]
    exact this
 have hκm : m * κ ≤ m * m := Nat.mul_le_mul_left _ k2
 have hDm : D * m ≤ m * m := Nat.mul_le_mul_right _ hle
 have hDk : D * κ ≤ m * m := Nat.mul_le_mul hle k2
 have hmm : m * m < 2 ^ (j + j) := mul_lt_pow hM.mlt hM.mlt
 refine ⟨D * κ,Nat.mul_pos hM.pos k1,fun r hr x => ?_,by rw [Nat.pow_succ];omega,by rw [Nat.pow_succ];omega⟩
 unfold pivP at hr
 rcases List.mem_append.1 hr with hr | hr
 ·obtain ⟨r',hr',rfl⟩ := List.mem_map.1 hr
  obtain ⟨h1,_⟩ := erase_mem h hr'
  dsimp only
  rw [coef_put]
  have e1 : Ht (D * κ) (m * κ) (if x = o then 0 else coef r'.2 x) := by
   split
   ·exact Ht.zero _ _
   ·exact (hM.co _ h1 x).wide κ
  exact (e1.add ((hM.co _ h1 o).mul (hg x))).mono (by omega)
 ·simp at hr
  subst hr
  exact ((hg x).wide' D).mono (by omega)
end
theorem sVy {G G' : Prop} (h : G') (e : G = G' := by conv => lhs;simp (disch := omega) only [rowsOf,cNat,cN,St.ret,St.seth,Eff.app,Eff.wi,sepL,guardOf,St.known,objOf,List.set,sliceW,litW,copyW,lenOf,bnd,mxOk,ofCells,TI.isAgg,cellsOf,storable,AV.one,dead,laid,overlay,reduceCtorEq,Int.reduceLE,Int.reduceLT,Int.reduceSub,Int.reduceAdd,Nat.reduceMul,Int.reduceToNat,Nat.reducePow,Int.reduceNeg,Nat.reduceAdd,Nat.reduceLT,Nat.reduceLeDiff,sA,sB,Nat.reduceEqDiff,beq_self_eq_true,Int.reduceBEq,Int.reduceBNe,cQ,rowQ,rowU,rowT,rowM,tab_length,tab_drop,tab_take,tab_append,tab_nil,rowT_all,rowT_one,rowT_pure,rowU_all,rowU_one,rowU_pure,rowQ_all,rowQ_one,rowQ_pure,rowM_all,rowM_one,rowM_pure,List.take_length,List.length_append,sT]) : G := e.mpr h
theorem sVyX {G G' P : Prop} (p : P) (h : G') (e : P → G = G' := by intro p;conv => lhs;simp (disch := omega) only [rowsOf,cNat,cN,St.ret,St.seth,Eff.app,Eff.wi,sepL,guardOf,St.known,objOf,List.set,sliceW,litW,copyW,lenOf,bnd,mxOk,ofCells,TI.isAgg,cellsOf,storable,AV.one,dead,laid,overlay,reduceCtorEq,Int.reduceLE,Int.reduceLT,Int.reduceSub,Int.reduceAdd,Nat.reduceMul,Int.reduceToNat,Nat.reducePow,Int.reduceNeg,Nat.reduceAdd,Nat.reduceLT,Nat.reduceLeDiff,sA,sB,Nat.reduceEqDiff,beq_self_eq_true,Int.reduceBEq,Int.reduceBNe,cQ,rowQ,rowU,rowT,rowM,tab_length,tab_drop,tab_take,tab_append,tab_nil,rowT_all,rowT_one,rowT_pure,rowU_all,rowU_one,rowU_pure,rowQ_all,rowQ_one,rowQ_pure,rowM_all,rowM_one,rowM_pure,List.take_length,List.length_append,sT,p]) : G := (e p).mpr h
theorem sVyV {G G' : Prop} (h : G') (e : G = G' := by conv => lhs;simp (disch := omega) only [rowsOf,cNat,cN,St.ret,St.seth,Eff.app,Eff.wi,sepL,guardOf,St.known,objOf,List.set,sliceW,litW,copyW,lenOf,bnd,mxOk,ofCells,TI.isAgg,cellsOf,storable,AV.one,dead,laid,overlay,reduceCtorEq,Int.reduceLE,Int.reduceLT,Int.reduceSub,Int.reduceAdd,Nat.reduceMul,Int.reduceToNat,Nat.reducePow,Int.reduceNeg,Nat.reduceAdd,Nat.reduceLT,Nat.reduceLeDiff,sA,sB,Nat.reduceEqDiff,beq_self_eq_true,Int.reduceBEq,Int.reduceBNe,cQ,rowQ,rowU,rowT,rowM,tab_length,tab_drop,tab_take,tab_append,tab_nil,rowT_all,rowT_one,rowT_pure,rowU_all,rowU_one,rowU_pure,rowQ_all,rowQ_one,rowQ_pure,rowM_all,rowM_one,rowM_pure,List.take_length,List.length_append,sT,view_sref,viewRef,view_agg,views_cons,views_nil,view_bool,view_int,view_sl,view_nils,view_str,view_tup,view_nilif]) : G := e.mpr h
theorem whole_ht {f : List (Int × Rat)} {D m : Nat} (h : ∀ x,Ht D m (coef f x)) (b : Int) (x : Int) : Ht D (m + D) (coef (wholeF b f) x) := by
 rw [coef_whole]
 refine (h x).sub ?_
 split
 ·have := (Ht.one 1 (Nat.le_refl _)).wide D
  rw [Nat.one_mul] at this
  exact this
 ·exact Ht.zero _ _
theorem FollOk.ht {n : Int} {M N : TM} (hM : GT n M) (hMs : ∀ r ∈ M,Sz r.2 536870000) (hNs : ∀ r ∈ N,Sz r.2 536870000) {D m k D2 m2 k2 : Nat} (h1 : MHt M D m k) (h2 : MHt N D2 m2 k2) (hk : k + k2 + 1 ≤ 536870000) : FollOk M N :=
 ⟨fun r hr => (hNs r hr).mono (by omega),fun r hr => by
  have h3 : vals (rf (wholeF r.1 r.2)) = wholeF r.1 r.2 := vals_rf _
  have hw := (hNs r hr).whole r.1
  refine ExOk.ht (D := D2) (m := m2 + D2) (k := k2 + 1) (FOk.rf (hw.mono (by omega)) (by omega)) (fun r hr => (hMs r hr).mono (by omega)) (keys_le hM) h2.pos (fun x => ?_) (pow_up h2.dlt (by omega)) (by have := h2.dlt;have := h2.mlt;rw [Nat.pow_succ];omega) h1 (by omega)
  rw [h3]
  exact whole_ht (fun x => h2.co r hr x) r.1 x⟩
theorem sz_ht {n : Int} {M : TM} (hM : GT n M) (hn : ∀ r ∈ M,NF r.2) {D m k : Nat} (h : MHt M D m k) : ∀ r ∈ M,Sz r.2 (k + 1 + 65536) := fun r hr =>
 sz_nf (hn r hr) hM.hi (fun p hp => (hM.free r hr p hp).1) fun x => h.nb hr x
theorem MHt.perm {M N : TM} {D m k : Nat} (h : MHt M D m k) (hp : N.Perm M) : MHt N D m k := ⟨h.pos,fun r hr => h.co r (hp.mem_iff.1 hr),h.dlt,h.mlt⟩
theorem pivP_nf {n : Int} {M : TM} {k : Nat} {b o : Int} (h : Piv n M k b o) : ∀ r ∈ pivP M k o (solvF b (M.getD k default).2 o),NF r.2 := fun r hr => by
 unfold pivP at hr
 rcases List.mem_append.1 hr with hr | hr
 ·obtain ⟨r',_,rfl⟩ := List.mem_map.1 hr
  exact NF.put _ _ _
 ·simp at hr;subst hr;exact h.gn
theorem TG.rf {M : TM} (hn : ∀ r ∈ M,NF r.2) (hs : ∀ r ∈ M,Sz r.2 536870912) (hl : M.length ≤ 65536) : TG (rfT M) := by
 refine ⟨fun r hr p hp => ?_,fun r hr => ?_,by simp only [rfT,List.length_map];omega⟩
 ·obtain ⟨q,hq,rfl⟩ := List.mem_map.1 hr
  exact (FOk.rf (hs q hq) (by omega)).1 p hp
 ·obtain ⟨q,hq,rfl⟩ := List.mem_map.1 hr
  dsimp only
  rw [vals_rf]
  exact hs q hq
theorem piv_cases (n : Int) (t : TR) (b o : Int) : (∃ e,e ≠ 0 ∧ pivV n t b o = .tup [cU 0 [],.int .i64 e]) ∨ ∃ k,goodB n (nrmT t) = true ∧ Piv n (nrmT t) k b o ∧ idxM (nrmT t) b = some k ∧ ¬ (b < 0 ∨ n ≤ b ∨ o < 0 ∨ n ≤ o) ∧ pivV n t b o = .tup [cU n (sortM (pivP (nrmT t) k o (solvF b ((nrmT t).getD k default).2 o))),.int .i64 0] := by
 unfold pivV
 by_cases hg : goodB n (nrmT t) = true
 ·rw [if_pos hg]
  have hgt := gt_iff.1 hg
  by_cases hr : b < 0 ∨ n ≤ b ∨ o < 0 ∨ n ≤ o
  ·rw [if_pos hr];exact .inl ⟨61,by decide,rfl⟩
  ·rw [if_neg hr]
   cases hi : idxM (nrmT t) b with
   | none => exact .inl ⟨71,by decide,rfl⟩
   | some k =>
    dsimp only
    by_cases ho : o ∈ keys (nrmT t)
    ·rw [if_pos ho];exact .inl ⟨71,by decide,rfl⟩
    ·rw [if_neg ho]
     by_cases hz : coef (wholeF b ((nrmT t).getD k default).2) o = 0
     ·rw [if_pos hz];exact .inl ⟨72,by decide,rfl⟩
     ·rw [if_neg hz]
      obtain ⟨h1,h2,_,h4⟩ := idx_some hi
      refine .inr ⟨k,hg,⟨hgt,fun r hr => ?_,h1,h2,ho,by omega,?_⟩,rfl,hr,rfl⟩
      ·obtain ⟨q,_,rfl⟩ := List.mem_map.1 hr
       exact NF.norm _
      ·rw [coef_whole] at hz
       have : o ≠ b := fun he => ho (he ▸ h4)
       rw [if_neg this] at hz
       intro h0;rw [h0] at hz;exact hz (by grind)
 ·rw [if_neg hg];exact .inl ⟨70,by decide,rfl⟩
theorem back_law (n : Int) (t : TR) (b o : Int) (hT : TOk t) : Pure Tryz.prog 14 [cT n t,.int .i64 b,.int .i64 o] (· = .bool true) := by
 have a1 := ltwin_ok n t hT.ts
 have hli := lives_ok
 have b1 := tpivot_ok n t b o hT
 rcases piv_cases n t b o with ⟨e,he0,he⟩ | ⟨k,hg,hp,hik,hrg,he⟩
 ·have b2 := r7pivot_ok n t b o hT
  rw [he] at b1 b2
  have z1 : (e != 0) = true := bne_iff_ne.2 he0
  have z2 := int_eqI e
  have hz : tab rowU [] = [] := rfl
  simp only [cT,cU,hz] at *
  (refine pureW Tryz.func14 rfl (rs := [Go.ResultVar.tmp 6]) rfl (n := 78) rfl ?_;simp only [List.length_cons,List.length_nil,List.replicate,List.cons_append,List.nil_append])
  ((refine W_seqV ?_);intro K hK;(refine sVy ?_))
  (refine hK _ ?_;clear hK K)
  ((refine W_seqV ?_);intro K hK;(refine sVy ?_))
  (refine ⟨by kernel_rfl,_,.pure rfl (a1),?_⟩;(try (refine sVy ?_)))
  (refine ⟨by kernel_rfl,_,.pure rfl (b1),?_⟩;(try (refine sVy ?_)))
  (refine hK _ ?_;clear hK K)
  ((refine W_seq (W_seqV ?_));intro K hK;(refine sVy ?_))
  (refine ⟨by kernel_rfl,_,.pure rfl (hli),?_⟩;(try (refine sVy ?_)))
  (refine hK _ ?_;clear hK K)
  (refine W_cf rfl ?_)
  refine W_skip ?_
  simp only [thenW]
  ((refine W_seq (W_seqV ?_));intro K hK;(refine sVyX z1 ?_))
  (refine hK _ ?_;clear hK K)
  (refine W_ct rfl ?_)
  ((refine W_seqV ?_);intro K hK;(refine sVy ?_))
  (refine ⟨by kernel_rfl,_,.pure rfl (b2),?_⟩;(try (refine sVy ?_)))
  (refine hK _ ?_;clear hK K)
  ((refine W_seqV ?_);intro K hK;(refine sVyX z2 ?_))
  (refine hK _ ?_;clear hK K)
  refine W_ret ?_
  (refine qG ?_;try exact True.intro);try (refine sVyV ?_;try exact True.intro)
 ·have hgt := hp.gt
  have hle := keys_le hgt
  have hpp := sortM_perm hp.pgt.nodup
  have hm1 := MHt.of (nrmT t)
  obtain ⟨D',hm2⟩ := hp.ht hm1 (dnM_le _)
  have hm3 := hm2.perm hpp
  have hSg := hp.pgt.perm hpp.symm
  have hSn : ∀ r ∈ sortM (pivP (nrmT t) k o (solvF b ((nrmT t).getD k default).2 o)),NF r.2 := fun r hr => pivP_nf hp r (hpp.mem_iff.1 hr)
  have htb := hT.tb
  have hs1 : ∀ r ∈ nrmT t,Sz r.2 536870000 := fun r hr => (Sz.of _).mono (by have := tb_mem hr;omega)
  have hs3 : ∀ r ∈ sortM (pivP (nrmT t) k o (solvF b ((nrmT t).getD k default).2 o)),Sz r.2 536870000 := fun r hr => (sz_ht hSg hSn hm3 r hr).mono (by omega)
  have hTG := TG.rf hSn (fun r hr => (hs3 r hr).mono (by omega)) (keys_le hSg)
  have hnu := nrm_rf hSn
  have hfo := hp.foll
  have hgS := gt_iff.2 hSg
  have hf1 := FollOk.ht hgt hs1 hs3 hm1 hm3 (by omega)
  have hf2 := FollOk.ht hSg hs3 hs1 hm3 hm1 (by omega)
  have hfS : follB (nrmT t) (sortM (pivP (nrmT t) k o (solvF b ((nrmT t).getD k default).2 o))) = true := by
   unfold follB at hfo ⊢
   rw [List.all_eq_true] at hfo ⊢
   exact fun r hr => hfo r (hpp.mem_iff.1 hr)
  have hlS : (nrmT t).length = (sortM (pivP (nrmT t) k o (solvF b ((nrmT t).getD k default).2 o))).length := by
   rw [sortM_len]
   unfold pivP
   have h1 := hp.hk
   simp [List.length_eraseIdx,h1]
   omega
  have hfb := foll_both hgt hSg
  rw [hfS,decide_eq_true hlS] at hfb
  have hoS : o ∈ keys (sortM (pivP (nrmT t) k o (solvF b ((nrmT t).getD k default).2 o))) := by
   rw [keys_sortM,mem_sortK,keys_pivP];simp
  obtain ⟨k',i1,i2,i3,_,_⟩ := look_idx hoS
  obtain ⟨hb1,hb2,hb3⟩ := hp.back hpp i2 i3
  have hsb := hp.solve_back
  have hw : coef (wholeF o (solvF b ((nrmT t).getD k default).2 o)) b ≠ 0 := by
   have := hb1.whole
   rw [hb2] at this
   rw [this,← hb2]
   exact hb1.nz
  have b2 := tsame_g n t n (rfT (sortM (pivP (nrmT t) k o (solvF b ((nrmT t).getD k default).2 o)))) hT.g hTG (by rw [hnu];exact fun _ _ _ => ⟨hf1,hf2⟩)
  have b3 := tpivot_ok n (rfT (sortM (pivP (nrmT t) k o (solvF b ((nrmT t).getD k default).2 o)))) o b hTG
  have b4 := tnorm_ok n t hT
  have hnd := pivP_nodup hb1.gt.nodup hb1.ho (at_ := k') (g := solvF o (solvF b ((nrmT t).getD k default).2 o) b)
  unfold sameV at b2
  unfold pivV at b3
  unfold normV at b4
  rw [hnu,hg,hgS,hfS,hfb] at b2
  rw [hnu,hgS,i1,if_pos rfl,if_neg (by omega)] at b3
  dsimp only at b3
  rw [hb2,if_neg hb1.ho,if_neg hw] at b3
  rw [hsb] at b3 hnd
  rw [sortM_of hb3 hnd] at b3
  rw [hg] at b4
  rw [he] at b1
  have hTS : TS (rfT (sortM (pivP (nrmT t) k o (solvF b ((nrmT t).getD k default).2 o)))) := MOk.ts (B := 536870000) ⟨hSn,hs3,by have := keys_le hSg;omega⟩ (by omega)
  have hTN : TS (rfT (sortM (nrmT t))) := MOk.ts (B := 536870000) ⟨fun r hr => hp.nf r ((sortM_perm hgt.nodup).mem_iff.1 hr),fun r hr => hs1 r ((sortM_perm hgt.nodup).mem_iff.1 hr),by rw [sortM_len];omega⟩ (by omega)
  have a2 := ltwin_ok n _ hTS
  have c1 := lalike_ok n _ hTN
  rw [cU_rf] at a2 c1 b3
  rw [cU_rf] at b2
  generalize sortM (pivP (nrmT t) k o (solvF b ((nrmT t).getD k default).2 o)) = S at *
  generalize sortM (nrmT t) = N at *
  simp only [if_true,Bool.and_self] at b2 b4
  clear hfo hf1 hf2 hfS hfb hb1 hb2 hb3 hsb hw hnd hTG hTS hTN hpp hm1 hm2 hm3 hSg hSn hs1 hs3 hnu hgS hlS hoS i1 i2 i3 hp hgt hle
  simp only [cT,cU] at *
  (refine pureW Tryz.func14 rfl (rs := [Go.ResultVar.tmp 6]) rfl (n := 78) rfl ?_;simp only [List.length_cons,List.length_nil,List.replicate,List.cons_append,List.nil_append])
  ((refine W_seqV ?_);intro K hK;(refine sVy ?_))
  (refine hK _ ?_;clear hK K)
  ((refine W_seqV ?_);intro K hK;(refine sVy ?_))
  (refine ⟨by kernel_rfl,_,.pure rfl (a1),?_⟩;(try (refine sVy ?_)))
  (refine ⟨by kernel_rfl,_,.pure rfl (b1),?_⟩;(try (refine sVy ?_)))
  (refine hK _ ?_;clear hK K)
  ((refine W_seq (W_seqV ?_));intro K hK;(refine sVy ?_))
  (refine ⟨by kernel_rfl,_,.pure rfl (hli),?_⟩;(try (refine sVy ?_)))
  (refine hK _ ?_;clear hK K)
  (refine W_cf rfl ?_)
  refine W_skip ?_
  simp only [thenW]
  ((refine W_seq (W_seqV ?_));intro K hK;(refine sVy ?_))
  (refine hK _ ?_;clear hK K)
  (refine W_cf rfl ?_)
  refine W_skip ?_
  simp only [thenW]
  ((refine W_seqD mixed [] (by kernel_rfl) ?_);intro K hK;(refine sVy ?_))
  (refine ⟨by kernel_rfl,_,.pure rfl (a1),?_⟩;(try (refine sVy ?_)))
  (refine ⟨by kernel_rfl,_,.pure rfl (a2),?_⟩;(try (refine sVy ?_)))
  (refine ⟨by kernel_rfl,_,.pure rfl (b2),?_⟩;(try (refine sVy ?_)))
  (refine hK _ ?_;clear hK K)
  ((refine W_seqV ?_);intro K hK;(refine sVy ?_))
  (refine ⟨by kernel_rfl,_,.pure rfl (b3),?_⟩;(try (refine sVy ?_)))
  (refine hK _ ?_;clear hK K)
  ((refine W_seqV ?_);intro K hK;(refine sVy ?_))
  (refine ⟨by kernel_rfl,_,.pure rfl (a1),?_⟩;(try (refine sVy ?_)))
  (refine ⟨by kernel_rfl,_,.pure rfl (b4),?_⟩;(try (refine sVy ?_)))
  (refine hK _ ?_;clear hK K)
  ((refine W_seqV ?_);intro K hK;(refine sVy ?_))
  (refine ⟨by kernel_rfl,_,.pure rfl (c1),?_⟩;(try (refine sVy ?_)))
  (refine hK _ ?_;clear hK K)
  refine W_ret ?_
  (refine qG ?_;try exact True.intro);try (refine sVyV ?_;try exact True.intro)
end Go.Proofs.YtjmpajgjaefcjaaGreat.Vm
namespace Go.Proofs.YtjmpajgjaefcjaaGreat.Vm
open Go Go.RowKit
set_option linter.unusedVariables false
set_option linter.unusedSimpArgs false
section
variable {H : Type} {encH : TypeId × Value → H} {P : Program} {w : World}
def Opens (encH : TypeId × Value → H) (P : Program) (w : World) (t : TypeId) {α : Type} (e : α → List AV) (good : α → Prop) (wt : α → Nat) : Prop :=
 ∀ (fuel : Nat) (cs : List Value) (x : DataW H × List MemPlace),DataW.trod encH P w 0 (fun _ => true) true fuel t cs = some x → ∃ a,Rps w (fun _ => False) noPl (e a) cs ∧ good a ∧ wt a ≤ Rows.uptoBulk x.1
theorem Opens.bool {t : TypeId} (ht : P.underlying t = some .bool) : Opens encH P w t (fun b : Bool => [.bool b]) (fun _ => True) (fun _ => 1) := by
 intro fuel cs x h
 obtain ⟨b,rfl,rfl⟩ := DataW.trod_bool ht h
 exact ⟨b,⟨_,_,rfl,rfl,rfl⟩,trivial,by simp [Rows.uptoBulk]⟩
theorem Opens.i64 {t : TypeId} (ht : P.underlying t = some (.int .i64)) : Opens encH P w t (fun n : Int => [.int .i64 n]) (fun n => -9223372036854775808 ≤ n ∧ n ≤ 9223372036854775807) (fun _ => 1) := by
 intro fuel cs x h
 obtain ⟨n,rfl,rfl,hw⟩ := DataW.trod_int ht h
 exact ⟨n,⟨_,_,rfl,rfl,rfl⟩,bounds_i64 hw,by simp [Rows.uptoBulk]⟩
theorem Opens.u32 {t : TypeId} (ht : P.underlying t = some (.int .u32)) : Opens encH P w t (fun n : Nat => [.int .u32 (n : Int)]) (fun n => n < 4294967296) (fun _ => 1) := by
 intro fuel cs x h
 obtain ⟨n,rfl,rfl,hw⟩ := DataW.trod_int ht h
 obtain ⟨h1,h2⟩ := bounds_u32 hw
 refine ⟨n.toNat,⟨_,_,rfl,?_,rfl⟩,by omega,by simp [Rows.uptoBulk]⟩
 show Value.int .u32 n = _
 rw [Int.toNat_of_nonneg h1]
theorem Opens.str {t : TypeId} (ht : P.underlying t = some .string) : Opens encH P w t (fun s : ByteArray => [.str s]) (fun _ => True) (fun s => s.size + 1) := by
 intro fuel cs x h
 obtain ⟨s,rfl,rfl,hs⟩ := DataW.trod_string ht h
 refine ⟨s,⟨_,_,rfl,rfl,rfl⟩,trivial,?_⟩
 simp only [Rows.uptoBulk]
 have : s.data.toList.length = s.size := by rw [Array.length_toList];rfl
 omega
theorem Opens.map {t : TypeId} {α β : Type} {e : α → List AV} {good : α → Prop} {wt : α → Nat} (h : Opens encH P w t e good wt) {e' : β → List AV} {good' : β → Prop} {wt' : β → Nat} (f : α → β)
  (he : ∀ a,e' (f a) = e a) (hg : ∀ a,good a → good' (f a)) (hw : ∀ a,wt' (f a) ≤ wt a) : Opens encH P w t e' good' wt' := by
 intro fuel cs x hx
 obtain ⟨a,h1,h2,h3⟩ := h fuel cs x hx
 exact ⟨f a,by rw [he];exact h1,hg a h2,Nat.le_trans (hw a) h3⟩
theorem Opens.two {t : TypeId} {f0 f1 : Field} (ht : P.underlying t = some (.struct #[f0,f1])) (o0 : f0.offset = 0) (o1 : f1.offset = P.cellsOf f0.type) (hl : P.cellsOf t = P.cellsOf f0.type + P.cellsOf f1.type)
  {α β : Type} {e0 : α → List AV} {g0 : α → Prop} {w0 : α → Nat} {e1 : β → List AV} {g1 : β → Prop} {w1 : β → Nat} (h0 : Opens encH P w f0.type e0 g0 w0) (h1 : Opens encH P w f1.type e1 g1 w1) :
  Opens encH P w t (fun p : α × β => e0 p.1 ++ e1 p.2) (fun p => g0 p.1 ∧ g1 p.2) (fun p => w0 p.1 + w1 p.2 + 1) := by
 intro fuel cs x h
 obtain ⟨xs,n,_,rfl,hlen,hxs,hf⟩ := DataW.trod_struct ht h
 match xs,hxs with
 | [y0,y1],_ =>
  obtain ⟨a,r0,q0,b0⟩ := h0 _ _ _ (hf 0 f0 rfl)
  obtain ⟨b,r1,q1,b1⟩ := h1 _ _ _ (hf 1 f1 rfl)
  refine ⟨(a,b),?_,⟨q0,q1⟩,?_⟩
  ·have := r0.append r1
   rw [o0,o1,List.drop_zero,List.take_of_length_le (l := cs.drop _) (by rw [List.length_drop];omega),List.take_append_drop] at this
   exact this
  ·simp only [List.map_cons,List.map_nil,Rows.uptoBulk,Rows.uptoBulkAll]
   omega
def sumW {α : Type} (wt : α → Nat) : List α → Nat
 | [] => 0
 | x::l => wt x + sumW wt l
theorem sumW_snoc {α : Type} (wt : α → Nat) (l : List α) (x : α) : sumW wt (l ++ [x]) = sumW wt l + wt x := by
 induction l with
 | nil => simp [sumW]
 | cons y l ih => simp only [List.cons_append,sumW,ih];omega
theorem bulk_append (l r : List (DataW H)) : Rows.uptoBulkAll (l ++ r) = Rows.uptoBulkAll l + Rows.uptoBulkAll r := by
 induction l with
 | nil => simp [Rows.uptoBulkAll]
 | cons x l ih => simp only [List.cons_append,Rows.uptoBulkAll,ih];omega
theorem Opens.slice {t e : TypeId} (ht : P.underlying t = some (.slice e)) (hpos : 0 < P.cellsOf e) {α : Type} {enc : α → List AV} {good : α → Prop} {wt : α → Nat} (he : Opens encH P w e enc good wt) :
  Opens encH P w t (fun l : List α => [.sl (tab enc l)]) (fun l => ∀ x ∈ l,good x) (fun l => sumW wt l + 1) := by
 intro fuel cs x h
 rcases DataW.trod_slice ht h with ⟨rfl,rfl⟩ | ⟨a,len,cap,elems,rest,n,_,rfl,rfl,hb,hlc,hcm,hlen,hel,_,_⟩
 ·exact ⟨[],⟨_,_,rfl,⟨none,0,rfl,Nat.le_refl _,by decide,.inl rfl⟩,rfl⟩,by simp,by simp [Rows.uptoBulk,sumW]⟩
 ·obtain ⟨b,o,spot⟩ := a
  have step : ∀ m,m ≤ len → ∃ (l : List α) (vss : List (List Value)),l.length = m ∧ vss.flatten.length = m * P.cellsOf e ∧ RpR w (fun _ => False) noPl (tab enc l) vss ∧ (∀ x ∈ l,good x) ∧ sumW wt l ≤ Rows.uptoBulkAll ((elems.take m).map (·.1)) ∧
    (0 < m → spot = none ∧ b < w.heap.size) ∧ CellsAt w b o vss.flatten := by
   intro m
   induction m with
   | zero => exact fun _ => ⟨[],[],rfl,by simp,rfl,by simp,by simp [sumW,Rows.uptoBulkAll],by omega,fun j u hj => by simp at hj⟩
   | succ m ih =>
    intro hm
    obtain ⟨l,vss,h1,h2,h3,h4,h5,h6,h7⟩ := ih (by omega)
    have hi := hel m (by omega)
    have hg : elems[m]? = some (elems[m]'(by omega)) := by simp
    rw [hg] at hi
    obtain ⟨cs',hc,hd⟩ := Option.bind_eq_some_iff.1 hi
    obtain ⟨_,hcl,hcell⟩ := World.cells?_some hc
    obtain ⟨y,hy1,hy2,hy3⟩ := he _ _ _ hd
    obtain ⟨c0,hc0⟩ : ∃ c0,cs'[0]? = some c0 := ⟨cs'[0]'(by omega),by simp⟩
    have g0 : w.cell? (((⟨b,o,spot⟩ : Addr).add (m * P.cellsOf e)).add 0) = some c0 := by rw [hcell 0 hpos,hc0]
    have hsp : spot = none ∧ b < w.heap.size := by
     have hs : spot = none := by
      cases m with
      | zero => have := World.cell?_spot g0;simpa [Addr.add] using this
      | succ m => exact (h6 (by omega)).1
     refine ⟨hs,?_⟩
     have : ((⟨b,o,spot⟩ : Addr).add (m * P.cellsOf e)).add 0 = ⟨b,o + m * P.cellsOf e,none⟩ := by rw [hs,WideShapes.add_plain,WideShapes.add_plain];rfl
     rw [this] at g0
     unfold World.cell? at g0
     split at g0
     ·rename_i heq
      exact (Array.getElem?_eq_some_iff.1 heq).1
     ·cases g0
    obtain ⟨hs,hbs⟩ := hsp
    subst hs
    refine ⟨l ++ [y],vss ++ [cs'],by simp [h1],?_,?_,?_,?_,fun _ => ⟨rfl,hbs⟩,?_⟩
    ·rw [List.flatten_append,List.length_append,h2,Nat.succ_mul]
     simp [hcl]
    ·rw [← tab_snoc]
     exact h3.append ⟨_,_,rfl,hy1,rfl⟩
    ·intro x hx
     rcases List.mem_append.1 hx with hx | hx
     ·exact h4 x hx
     ·rw [List.mem_singleton] at hx;subst hx;exact hy2
    ·rw [sumW_snoc,List.take_add_one,hg,List.map_append,bulk_append]
     simp only [Option.toList_some,List.map_cons,List.map_nil,Rows.uptoBulkAll]
     omega
    ·intro j u hj
     rw [List.flatten_append] at hj
     by_cases hjl : j < vss.flatten.length
     ·rw [List.getElem?_append_left hjl] at hj
      exact h7 j u hj
     ·rw [List.getElem?_append_right (by omega)] at hj
      simp only [List.flatten_cons,List.flatten_nil,List.append_nil] at hj
      have hlt : j - vss.flatten.length < cs'.length := (List.getElem?_eq_some_iff.1 hj).1
      have := hcell (j - vss.flatten.length) (by omega)
      rw [WideShapes.add_plain,WideShapes.add_plain,hj] at this
      rw [← this]
      congr 2
      omega
  obtain ⟨l,vss,h1,h2,h3,h4,h5,h6,h7⟩ := step len (Nat.le_refl _)
  have htl : (tab enc l).length = len := by rw [tab_length,h1]
  refine ⟨l,⟨_,_,rfl,⟨some ⟨b,o,spot⟩,cap,by rw [htl],by rw [htl];exact hlc,hcm,?_⟩,rfl⟩,h4,?_⟩
  ·by_cases h0 : 0 < len
   ·obtain ⟨rfl,hbs⟩ := h6 h0
    exact .inr ⟨b,o,vss,rfl,fun h => h,hbs,h7,h3⟩
   ·left
    have : l = [] := List.eq_nil_of_length_eq_zero (by omega)
    rw [this];rfl
  ·rw [List.take_of_length_le (by omega)] at h5
   simp only [Rows.uptoBulk]
   omega
end
section
variable {H : Type} {encH : TypeId × Value → H} {w : World}
theorem sumW_one (l : List Nat) : sumW (fun _ => 1) l = l.length := by
 induction l with
 | nil => rfl
 | cons x l ih => simp only [sumW,ih,List.length_cons];omega
theorem opens_nat : Opens encH Tryz.prog w 49 (fun l : List Nat => [.sl (u32s l)]) Limbs (fun l => l.length + 1) :=
 (Opens.slice Tryz.underlying49 (by show 0 < Tryz.prog.cellsOf 128;rw [show Tryz.prog.cellsOf 128 = 1 by kernel_rfl];decide) (Opens.u32 Tryz.underlying128)).map id (fun _ => rfl) (fun _ h => h) (fun l => by show l.length + 1 ≤ sumW (fun _ => 1) l + 1;rw [sumW_one];exact Nat.le_refl _)
theorem opens_int : Opens encH Tryz.prog w 51 (fun p : Bool × List Nat => [.bool p.1,.sl (u32s p.2)]) (fun p => Limbs p.2) (fun p => p.2.length + 3) :=
 (Opens.two Tryz.underlying51 rfl (by kernel_rfl) (by kernel_rfl) (Opens.bool Tryz.underlying4) opens_nat).map id (fun _ => rfl) (fun _ h => h.2) (fun l => by simp only [id];omega)
def RR.good (r : RR) : Prop := Limbs r.num ∧ Limbs r.den
def RR.wt (r : RR) : Nat := r.num.length + r.den.length + 5
theorem RR.bits_wt (r : RR) : r.bits ≤ 32 * r.wt := by unfold RR.bits RR.wt;omega
theorem opens_rat : Opens encH Tryz.prog w 53 rowR RR.good RR.wt :=
 (Opens.two Tryz.underlying53 rfl (by kernel_rfl) (by kernel_rfl) opens_int opens_nat).map (fun p => (⟨p.1.1,p.1.2,p.2⟩ : RR)) (fun _ => rfl) (fun _ h => h) (fun l => by simp only [RR.wt];omega)
def mono_wt (p : Int × RR) : Nat := p.2.wt + 2
theorem opens_mono : Opens encH Tryz.prog w 55 rowM (fun p : Int × RR => (-9223372036854775808 ≤ p.1 ∧ p.1 ≤ 9223372036854775807) ∧ p.2.good) mono_wt :=
 (Opens.two Tryz.underlying55 rfl (by kernel_rfl) (by kernel_rfl) (Opens.i64 Tryz.underlying3) opens_rat).map id (fun _ => rfl) (fun _ h => h) (fun l => by simp only [id,mono_wt];omega)
def form_good (f : List (Int × RR)) : Prop := ∀ p ∈ f,(-9223372036854775808 ≤ p.1 ∧ p.1 ≤ 9223372036854775807) ∧ p.2.good
def form_wt (f : List (Int × RR)) : Nat := sumW mono_wt f + 1
theorem opens_form : Opens encH Tryz.prog w 26 (fun f => [cF f]) form_good form_wt :=
 Opens.slice Tryz.underlying26 (by show 0 < Tryz.prog.cellsOf 55;rw [show Tryz.prog.cellsOf 55 = 4 by kernel_rfl];decide) opens_mono
def At.good (a : At) : Prop := form_good a.form ∧ a.bound.good
def At.wt (a : At) : Nat := a.name.size + form_wt a.form + a.bound.wt + 3
end
theorem RR.good.ok {r : RR} (h : r.good) (hb : r.wt ≤ 1048576) : r.ok := ⟨h.1,h.2,by unfold RR.wt at hb;omega,by unfold RR.wt at hb;omega⟩
theorem RR.good.nb {r : RR} (h : r.good) : nb r.v ≤ 32 * r.wt := Nat.le_trans (nb_v r h.1 h.2) r.bits_wt
theorem form_nbs : ∀ {f : List (Int × RR)},form_good f → nbs (vals f) ≤ 32 * sumW mono_wt f
 | [],_ => by simp [vals,nbs]
 | p::f,h => by
  have h1 := (h p List.mem_cons_self).2.nb
  have h2 := form_nbs (f := f) fun q hq => h q (List.mem_cons_of_mem _ hq)
  simp only [vals,List.map_cons,nbs,sumW,mono_wt] at *
  omega
theorem sumW_mem {α : Type} {wt : α → Nat} {l : List α} {x : α} (h : x ∈ l) : wt x ≤ sumW wt l := by
 induction l with
 | nil => cases h
 | cons y l ih =>
  simp only [sumW]
  rcases List.mem_cons.1 h with rfl | h
  ·omega
  ·have := ih h;omega
theorem form_ok {f : List (Int × RR)} (h : form_good f) (hb : form_wt f ≤ 1048576) : FOk f 67108864 ∧ nbs (vals f) ≤ 67108864 := by
 have h1 := form_nbs h
 unfold form_wt at hb
 refine ⟨⟨fun p hp => (h p hp).2.ok ?_,(Sz.of _).mono (by omega)⟩,by omega⟩
 have := sumW_mem (wt := mono_wt) hp
 unfold mono_wt at this hb
 omega
theorem At.good.ok {a : At} (h : a.good) (hb : a.wt ≤ 1048576) : AtOk a := by
 unfold At.wt at hb
 obtain ⟨h1,h2⟩ := form_ok h.1 (by omega)
 refine ⟨h1,h2,h.2.ok (by omega),?_⟩
 have := h.2.nb
 omega
section
variable {H : Type} {encH : TypeId × Value → H} {P : Program} {w : World}
theorem rps_some {α : Type} {t : TypeId} {e : α → List AV} {good : α → Prop} {wt : α → Nat} (h : Opens encH P w t e good wt) {v : Value} {d : DataW H} {p : List MemPlace} (hd : DataW.Trod encH P w 0 (fun _ => true) true t v d p) :
  ∃ a,Rps w (fun _ => False) noPl (e a) v.cells.toList ∧ good a ∧ wt a ≤ Rows.uptoBulk d := by
 obtain ⟨fuel,hf⟩ := hd
 exact h fuel _ _ hf
theorem par_struct {α : Type} {t : TypeId} {fs : Array Field} (ht : P.underlying t = some (.struct fs)) {e : α → List AV} {good : α → Prop} {wt : α → Nat} (h : Opens encH P w t e good wt) {base : Nat} {v : Value} (hok : Value.okWide P w .any base t v) {d : DataW H} {p : List MemPlace} (hd : DataW.Trod encH P w 0 (fun _ => true) true t v d p) :
  ∃ a,Rp w (fun _ => False) noPl (.agg (e a)) v ∧ good a ∧ wt a ≤ Rows.uptoBulk d := by
 unfold Value.okWide at hok
 rw [ht] at hok
 obtain ⟨cs,rfl,_,_⟩ := hok
 obtain ⟨a,h1,h2,h3⟩ := rps_some h hd
 exact ⟨a,⟨cs.toList,by simp,h1⟩,h2,h3⟩
theorem par_int {α : Type} {t : TypeId} {k : IntKind} (ht : P.underlying t = some (.int k)) {e : α → AV} {good : α → Prop} {wt : α → Nat} (h : Opens encH P w t (fun a => [e a]) good wt) {base : Nat} {v : Value} (hok : Value.okWide P w .any base t v) {d : DataW H} {p : List MemPlace} (hd : DataW.Trod encH P w 0 (fun _ => true) true t v d p) :
  ∃ a,Rp w (fun _ => False) noPl (e a) v ∧ good a ∧ wt a ≤ Rows.uptoBulk d := by
 unfold Value.okWide at hok
 rw [ht] at hok
 unfold Cell.okWide at hok
 rw [ht] at hok
 obtain ⟨a,h1,h2,h3⟩ := rps_some h hd
 obtain ⟨u,us,e1,e2,e3⟩ := h1
 have e4 : us = [] := e3
 subst e4
 cases v <;> simp only [Value.cells] at e1 <;> first
  | (simp only [Cell.ok,ht] at hok;done)
  | (have e5 := (List.cons.inj e1).1;subst e5;exact ⟨a,e2,h2,h3⟩)
end
end Go.Proofs.YtjmpajgjaefcjaaGreat.Vm
namespace Go.Proofs.YtjmpajgjaefcjaaGreat.Vm
open Go Go.RowKit
set_option maxRecDepth 100000
set_option linter.unusedVariables false
set_option linter.unusedSimpArgs false
section
variable {H : Type} {encH : TypeId × Value → H} {w : World}
def row_good (r : Int × List (Int × RR)) : Prop := form_good r.2
def row_wt (r : Int × List (Int × RR)) : Nat := form_wt r.2
theorem opens_rowT : Opens encH Tryz.prog w 84 rowT row_good row_wt :=
 (Opens.two Tryz.underlying84 (by kernel_rfl) (by kernel_rfl) (by kernel_rfl) (Opens.i64 Tryz.underlying3) opens_form).map id (fun p => rfl) (fun _ h => h.2) (fun p => by simp only [id,row_wt];omega)
def tab_good (p : Int × TR) : Prop := ∀ r ∈ p.2,row_good r
def tab_wt (p : Int × TR) : Nat := sumW row_wt p.2 + 1
theorem opens_rowsT : Opens encH Tryz.prog w 22 (fun t : TR => [.sl (tab rowT t)]) (fun t => ∀ r ∈ t,row_good r) (fun t => sumW row_wt t + 1) :=
 Opens.slice Tryz.underlying22 (by show 0 < Tryz.prog.cellsOf 84;rw [show Tryz.prog.cellsOf 84 = 2 by kernel_rfl];decide) opens_rowT
def cellsT (p : Int × TR) : List AV := [.int .i64 p.1,.sl (tab rowT p.2)]
theorem opens_tab : Opens encH Tryz.prog w 24 cellsT tab_good tab_wt :=
 (Opens.two Tryz.underlying24 (by kernel_rfl) (by kernel_rfl) (by kernel_rfl) (Opens.i64 Tryz.underlying3) opens_rowsT).map id (fun p => rfl) (fun _ h => h.2) (fun p => by simp only [id,tab_wt];omega)
end
theorem tab_tb : ∀ {t : TR},(∀ r ∈ t,row_good r) → tb (t.map fun r => (r.1,vals r.2)) ≤ 33 * sumW row_wt t
 | [],_ => Nat.le_refl _
 | r::t,h => by
  have h1 := tab_tb (t := t) fun x hx => h x (List.mem_cons_of_mem _ hx)
  have h2 := form_nbs (h r List.mem_cons_self)
  simp only [List.map_cons,tb,sumW,row_wt,form_wt] at *
  omega
theorem tab_ok {p : Int × TR} (h : tab_good p) (hb : tab_wt p ≤ 1048576) : TOk p.2 := by
 unfold tab_wt at hb
 refine ⟨fun r hr q hq => (form_ok (h r hr) ?_).1.1 q hq,?_⟩
 ·have := sumW_mem (wt := row_wt) hr
  have e : form_wt r.2 = row_wt r := rfl
  omega
 ·have := tab_tb h
  omega
end Go.Proofs.YtjmpajgjaefcjaaGreat.Vm
namespace Go.Proofs.YtjmpajgjaefcjaaGreat.Vm
open Go Go.RowKit Go.ChangeShapes Go.WideShapes Go.ChangeAt
set_option maxRecDepth 100000
set_option linter.unusedVariables false
def joinedRest (P : Program) (fn : Func) (s : ChangeSpec) (c : OpenClaim) : Bool :=
 (c.wf (OpenSpec.ofChange s)) && (fn.params.all (P.readableRec ·)) && (namedTie P c.named s.vars) && ((c.stops == [])) && ((c.knobs == [])) && ((c.maps == (fn.params.toList ++ s.plain.varTypes P).any (P.mapsRec ·))) && ((c.ifaces == (fn.params.toList ++ s.plain.varTypes P).any (P.ifacesRec ·))) && ((c.mapsOut == P.mapsAmong fn.resultTypes.toList)) && ((c.loops == (fn.params.toList ++ s.plain.varTypes P).any (P.loopsFrom ·))) && ((c.wideKeys == (fn.params.toList ++ s.plain.varTypes P ++ fn.resultTypes.toList).any (P.wideKeysFrom ·))) && (s.vars.all (P.varReadable ·)) && (fn.resultTypes.all (fun t => P.readableRec t && decide (t < P.types.size))) && ((c.ifacesOut == fn.resultTypes.toList.any (P.ifacesRec ·))) && ((c.loopsOut == fn.resultTypes.toList.any (P.loopsFrom ·))) && (c.shortTexts.isNone) && ((c.kinds == (if c.domain.isEmpty then [] else fn.params.toList.map fun t => match P.underlying t with|some (.int k) => some k|_ => none))) && ((c.pinned == c.pinnedBy)) && ((c.veiled == (fn.params.toList ++ s.plain.varTypes P ++ fn.resultTypes.toList).any (P.veiledRec ·))) && (c.veiledFits P fn.params.toList (fn.params.toList ++ s.plain.varTypes P ++ fn.resultTypes.toList))
theorem joined_of {P : Program} {f : FuncId} {fn : Func} {s : ChangeSpec} {c : OpenClaim} (h1 : (laidOutB P) = true) (h2 : (mapsRowed P) = true) (h6 : ((P.stops == [])) = true) (h8 : ((P.stopKnobs == [])) = true) (h24 : (P.stopsHeard) = true) (h25 : (P.mayEnter) = true) (h9 : ((c.inPlace == P.inPlace f)) = true) (h10 : ((c.unfollowed == P.unfollowed f)) = true) (h11 : ((c.recurses == P.recurses f)) = true) (h12 : ((c.named == P.varsNamed f)) = true) (h22 : ((c.plainKeys == P.plainKeys)) = true) (h26 : ((c.lifted == P.liftsFinal)) = true) (h27 : ((P.make == some c.make)) = true)
  (h : joinedRest P fn s c = true) : joinedFacts P f fn s c = true := by
 unfold joinedRest at h
 unfold joinedFacts
 simp only [Bool.and_eq_true] at h ⊢
 obtain ⟨⟨⟨⟨⟨⟨⟨⟨⟨⟨⟨⟨⟨⟨⟨⟨⟨⟨r0,r3⟩,r4⟩,r5⟩,r7⟩,r13⟩,r14⟩,r15⟩,r16⟩,r17⟩,r18⟩,r19⟩,r20⟩,r21⟩,r23⟩,r28⟩,r29⟩,r30⟩,r31⟩ := h
 exact ⟨⟨⟨⟨⟨⟨⟨⟨⟨⟨⟨⟨⟨⟨⟨⟨⟨⟨⟨⟨⟨⟨⟨⟨⟨⟨⟨⟨⟨⟨⟨r0,h1⟩,h2⟩,r3⟩,r4⟩,r5⟩,h6⟩,r7⟩,h8⟩,h9⟩,h10⟩,h11⟩,h12⟩,r13⟩,r14⟩,r15⟩,r16⟩,r17⟩,r18⟩,r19⟩,r20⟩,r21⟩,h22⟩,r23⟩,h24⟩,h25⟩,h26⟩,h27⟩,r28⟩,r29⟩,r30⟩,r31⟩
def plainClaim : OpenClaim := { program := "", sum := "", func := "", spec := "" }
theorem pf_laid : laidOutB Tryz.prog = true := by kernel_rfl
theorem pf_maps : mapsRowed Tryz.prog = true := by kernel_rfl
theorem pf_stops : (Tryz.prog.stops == []) = true := by kernel_rfl
theorem pf_knobs : (Tryz.prog.stopKnobs == []) = true := by kernel_rfl
theorem pf_heard : Tryz.prog.stopsHeard = true := by kernel_rfl
theorem pf_enter : Tryz.prog.mayEnter = true := by kernel_rfl
theorem pf_keys : (plainClaim.plainKeys == Tryz.prog.plainKeys) = true := by kernel_rfl
theorem pf_lifts : (plainClaim.lifted == Tryz.prog.liftsFinal) = true := by kernel_rfl
theorem pf_make : (Tryz.prog.make == some plainClaim.make) = true := by kernel_rfl
theorem pf_own : ownKnob Tryz.prog.godebug = none := by kernel_rfl
end Go.Proofs.YtjmpajgjaefcjaaGreat.Vm
namespace Go.Proofs.YtjmpajgjaefcjaaGreat.Vm
open Go Go.RowKit Go.ChangeShapes Go.WideShapes Go.ChangeAt
set_option maxRecDepth 100000
set_option linter.unusedVariables false
set_option linter.unusedSimpArgs false
namespace tableauBack_
theorem own : ownKnob Tryz.prog.godebug = none := pf_own
theorem laidOut : laidOutB Tryz.prog = true := pf_laid
theorem pf_place : (Rows.tableauBackUptoRow.inPlace == Tryz.prog.inPlace 14) = true := by kernel_rfl
theorem pf_foll : (Rows.tableauBackUptoRow.unfollowed == Tryz.prog.unfollowed 14) = true := by kernel_rfl
theorem pf_rec : (Rows.tableauBackUptoRow.recurses == Tryz.prog.recurses 14) = true := by kernel_rfl
theorem pf_nam : (Rows.tableauBackUptoRow.named == Tryz.prog.varsNamed 14) = true := by kernel_rfl
theorem pf_rest : joinedRest Tryz.prog Tryz.f14 (Rows.OpenSpec.upto Rows.tableauBackSpec).bare Rows.tableauBackUptoRow = true := by kernel_rfl
theorem facts : joinedFacts Tryz.prog 14 Tryz.f14 (Rows.OpenSpec.upto Rows.tableauBackSpec).bare Rows.tableauBackUptoRow = true := joined_of pf_laid pf_maps pf_stops pf_knobs pf_heard pf_enter pf_place pf_foll pf_rec pf_nam pf_keys pf_lifts pf_make pf_rest
theorem contract (H : Type) (encH : TypeId × Value → H) (W : World) (base : Nat) (args : Array Value) (ds gs : List (DataW H)) (before : List MemPlace)
  (hval : ∀ (j : Nat) t v,Tryz.f14.params[j]? = some t → args[j]? = some v → Value.okWide Tryz.prog W .any base t v)
  (hW : DataW.Whole encH Tryz.prog Tryz.f14.params.toList Rows.tableauBackSpec.vars false W args.toList ds gs before) (hk : Rows.uptoSmall H (ds ++ gs) = true) :
  Calls Tryz.prog 14 args W fun e W' => ∃ v,e = .returned v ∧ Rows.tableauBackSpec.post encH Tryz.prog Tryz.f14 false true false false W args v W' := by
 have hW' := hW
 obtain ⟨p,q,hA0,hV,rfl,hfz,hnd⟩ := hW
 have hA : DataW.TrodAll encH Tryz.prog W 0 (fun _ => true) true Tryz.f14.params.toList args.toList ds p := hA0
 rw [Tryz.params14] at hA hval
 obtain ⟨v0,v1,v2,d0,d1,d2,p0,p1,p2,rfl,rfl,rfl,h0,h1,h2⟩ := trodAll_three hA
 obtain ⟨rfl,rfl⟩ := trodVars_none hV
 simp only [List.append_nil] at hW' hk
 have hlt : ∀ x ∈ p0 ++ p1 ++ p2,x.block < W.heap.size := fun x hx => hW'.lt x (by simpa using hx)
 obtain ⟨a0,r0,g0,b0⟩ := par_struct Tryz.underlying24 opens_tab (hval 0 24 v0 rfl rfl) h0
 obtain ⟨a1,r1,g1,b1⟩ := par_int Tryz.underlying3 (Opens.i64 Tryz.underlying3) (hval 1 3 v1 rfl rfl) h1
 obtain ⟨a2,r2,g2,b2⟩ := par_int Tryz.underlying3 (Opens.i64 Tryz.underlying3) (hval 2 3 v2 rfl rfl) h2
 have hbulk : Rows.uptoBulkAll [d0,d1,d2] ≤ 1048576 := of_decide_eq_true hk
 simp only [Rows.uptoBulkAll] at hbulk
 have hlaw := back_law a0.1 a0.2 a1 a2 (tab_ok g0 (by omega))
 refine (hlaw W [v0,v1,v2] (fun _ => False) (fun _ h => h.elim) ⟨_,_,rfl,r0,_,_,rfl,r1,_,_,rfl,r2,rfl⟩).mono fun e W' he => ?_
 obtain ⟨v,r,rfl,rfl,hbel,hrp⟩ := he
 have hv : v = .bool true := hrp
 subst hv
 exact ⟨_,rfl,⟨_,_,_,[],_,[],hW',trodAll_mk1 (shut_bool Tryz.underlying4 _),trodAll_mk3 (Below.trod laidOut (by kernel_rfl) (of_decide_eq_true (by kernel_rfl)) h0 hbel (fun x hx => hlt x (by simp [hx]))) (Below.trod laidOut (by kernel_rfl) (of_decide_eq_true (by kernel_rfl)) h1 hbel (fun x hx => hlt x (by simp [hx]))) (Below.trod laidOut (by kernel_rfl) (of_decide_eq_true (by kernel_rfl)) h2 hbel (fun x hx => hlt x (by simp [hx]))),rfl,hbel.frame _,fun h => by cases h⟩⟩
theorem lifted (os : Os) (started : os.Started) (H : Type) (enc : TypeId × Value → H) (F : Stop.Interp) :
  ReturnsInHanded {} Tryz.checked os 14 .any ((Rows.OpenSpec.upto Rows.tableauBackSpec).pre6 enc Tryz.prog Tryz.f14 Rows.tableauBackUptoRow.domain false) (((Rows.OpenSpec.upto Rows.tableauBackSpec).at F).post enc Tryz.prog Tryz.f14 false true false false) := by
 refine returnsInHanded_of_cond (C := Tryz.checked) (s := Rows.OpenSpec.upto Rows.tableauBackSpec) (k := Rows.uptoSmall) rfl own started (by kernel_rfl) Tryz.func14
  (OpenSpec.witness (enc := enc) (C := Tryz.checked) (s := Rows.OpenSpec.upto Rows.tableauBackSpec) (k := Rows.uptoSmall) rfl false ⟨#[],#[.agg #[.int .i64 0,.slice none 0 0],.int .i64 0,.int .i64 0],[]⟩ 8 (by kernel_rfl) (by kernel_rfl) (by kernel_rfl)
   (x := ([.agg [.lit (.int .i64 0),.nil],.lit (.int .i64 0),.lit (.int .i64 0)],[],[])) (by kernel_rfl) rfl (by kernel_rfl)) ?_
 intro W base args ds gs before hval hW _ hk _
 exact contract H enc W base args ds gs before hval hW hk
end tableauBack_
theorem tableauBack_holds : Rows.TableauBackUptoSaid :=
 OpenClaim.holds_of_cond 14 Tryz.f14 rfl rfl rfl rfl rfl rfl rfl ⟨rfl,rfl,rfl,rfl,rfl⟩ rfl rfl rfl rfl rfl (by kernel_rfl) Tryz.func14 tableauBack_.facts
  (of_decide_eq_true (by kernel_rfl)) (by unfold Func.isWrapper;first | (rw [if_pos (by decide +kernel)];kernel_rfl) | (rw [if_neg (by decide +kernel)];exact ⟨rfl,rfl⟩))
  (fun os started H enc _ F => tableauBack_.lifted os started H enc F)
end Go.Proofs.YtjmpajgjaefcjaaGreat.Vm
