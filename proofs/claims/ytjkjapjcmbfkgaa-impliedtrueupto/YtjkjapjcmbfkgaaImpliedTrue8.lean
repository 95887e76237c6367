/-
  ImpliedTrue answers true, and its argument reads as it did, wherever what it reads is of bulk at most 1048576.
-/
import Derived.Test.YtjkjapjcmbfkgaaImpliedTrue7
import Derived.Orders
import Derived.Below
import Derived.Laws.AppendOwn
import Derived.Laws.MakeOwn
import Derived.Laws.CopyRow
import Derived.Laws.Rows
import Derived.Laws.Cells
import Derived.Tactics
import Derived.Laws.BitsLemmas
import Derived.Test.YtjkjapjcmbfkgaaProg
import Derived.Test.YtjkjapjcmbfkgaaRows
import Derived.WalkKit
import Derived.ProofKit
import Derived.Carry
import Derived.OpenShut
import Derived.JoinedCond

/-
  The reference's rational numbers.
-/
namespace Go.Proofs.Ytjkjapjcmbfkgaa.Vm
open Go Go.RowKit
set_option maxRecDepth 100000
set_option linter.unusedVariables false
set_option linter.unusedSimpArgs false
set_option pp.deepTerms false
set_option pp.deepTerms.threshold 8

theorem fgcd_v (a b : Nat) (ha : (limbs a).length < 274877906944) (hb : (limbs b).length < 274877906944) : Pure Try.prog 46 [cN a, cN b] (· = cN (Nat.gcd a b)) := by
  have := fgcd_ok (limbs a) (limbs b) (limbs_limbs a) (limbs_limbs b) ha hb
  rwa [val_limbs, val_limbs] at this
theorem fdiv_v (a b : Nat) (ha : (limbs a).length < 274877906944) (hb : (limbs b).length < 274877906944) (h0 : b ≠ 0) : Pure Try.prog 47 [cN a, cN b] (· = .tup [cN (a / b), cN (a % b), .int .i64 0]) := by
  have := fdiv_ok (limbs a) (limbs b) (limbs_limbs a) (limbs_limbs b) ha hb
  rwa [val_limbs, val_limbs, divR, if_neg h0] at this
theorem mk_cQ (z : Int) {d : Nat} (hd : d ≠ 0) (hz : z ≠ 0) : cQ (mkRat z d) = .agg [.bool (decide (z < 0)), cN (z.natAbs / Nat.gcd z.natAbs d), cN (d / Nat.gcd z.natAbs d)] := by
  have h1 := mk_num (decide (z < 0)) (limbs z.natAbs) hd
  have h2 := mk_den (decide (z < 0)) (limbs z.natAbs) hd
  rw [iv_cZ, val_limbs] at h1 h2
  have hg : 0 < Nat.gcd z.natAbs d := Nat.gcd_pos_of_pos_right _ (Nat.pos_of_ne_zero hd)
  have hn0 : z.natAbs / Nat.gcd z.natAbs d ≠ 0 := by
    have := Nat.div_pos (Nat.le_of_dvd (by omega) (Nat.gcd_dvd_left z.natAbs d)) hg
    omega
  unfold cQ
  rw [h1, h2, iv_abs, val_limbs]
  simp only [cN, cNat]
  congr 2
  rw [AV.bool.injEq, decide_eq_decide]
  unfold iv
  rw [val_limbs]
  generalize z.natAbs / Nat.gcd z.natAbs d = w at *
  split
  · rename_i h; simp only [decide_eq_true_eq] at h; omega
  · rename_i h; simp only [decide_eq_true_eq] at h; omega
theorem cQ_zero : cQ 0 = .agg [.bool false, .sl [], .sl [[.int .u32 1]]] := by
  unfold cQ
  simp [limbs_zero, limbs_1, u32s]

set_option maxHeartbeats 4000000 in
theorem f3norm_ok0 (neg : Bool) (n d : List Nat) (hn : Limbs n) (hd : Limbs d) (h1 : n.length < 137438953472) (h2 : d.length < 137438953472) :
    Pure Try.prog 22 [.agg [.bool neg, .sl (u32s n), .sl (u32s d)]] (· = cQ (mkRat (iv neg n) (val d))) := by
  have hz := f2norm_ok neg n hn (by omega)
  have hdn := fnorm_ok d hd (by omega)
  have hnl := limbs_val_length hn
  have hdl := limbs_val_length hd
  have hab := iv_abs neg n
  generalize iv neg n = z at *
  rw [← hab] at hnl
  clear hab
  generalize val d = e at *
  have z00 : ((0 : Int) == 0) = true := rfl
  by_cases he : e = 0
  · subst he
    rw [Rat.mkRat_zero, cQ_zero]
    simp only [cN, cNat, limbs_zero] at hdn
    (refine pureW Try.func22 rfl (rs := [Go.ResultVar.cell 2 29]) rfl (n := 55) rfl ?_; simp only [List.length_cons, List.length_nil, List.replicate, List.cons_append, List.nil_append])
    (repeat (refine W_seqV fun K hK => ?_; (try simp (disch := omega) only [regV_cons, effW_free, opF_box, dead, List.getElem?_cons_succ, List.getElem?_cons_zero, storable, ev_tmp, List.getD_cons_zero, List.all_cons, AV.one, List.all_nil, Bool.and_self, cellsOf, List.length_cons, List.length_nil, Nat.zero_add, Nat.reduceAdd, atK_ap, restV_ap, Eff.app, List.set, Eff.wi, Option.map_some, List.nil_append, opF_alloc, ty29, ne_eq, reduceCtorEq, not_false_eq_true, List.cons_append, regV_nil, sepL, List.not_mem_nil, false_implies, implies_true, true_and]); refine hK _ ?_; clear hK K))
    ((refine W_seqV fun K hK => ?_); simp (disch := omega) only [regV_cons, effW_free, opF_fieldAddr, ty29, ev_tmp, List.getD_cons_succ, List.getD_cons_zero, fieldAddrW_ptr, List.length_cons, List.length_nil, Nat.zero_add, Nat.reduceAdd, Nat.reduceLT, ty27, ne_eq, reduceCtorEq, not_false_eq_true, Nat.add_zero, valK_ap, atK_ap, restV_ap, Eff.app, List.set, Eff.wi, Option.map_none, List.nil_append, opF_load, TI.isAgg, true_or, objOf, loadW_ptr, loadO_arr, Nat.reduceLeDiff, ofCells, List.drop_zero, List.take_succ_cons, List.take_zero, List.headD_cons, if_true, List.cons_append, opF_call, ev_func, List.map_cons, List.map_nil, callF_fn, List.append_nil, opF_alloc, dead, List.getElem?_cons_succ, List.getElem?_cons_zero, Option.map_some, opF_store, storeF_ptr, storeO_arr, storable, AV.one, cellsOf, Bool.false_eq_true, false_implies, overlay, wrK_ap, regV_nil, sepL, List.not_mem_nil, implies_true, true_and])
    (refine ⟨by kernel_rfl, rfl, _, hz, ?_⟩; (try simp (disch := omega) only [cZ, cI, List.all_cons, AV.one, List.all_nil, Bool.and_self, List.length_cons, List.length_nil, Nat.zero_add, Nat.reduceAdd, List.drop_succ_cons, List.drop_nil, List.append_nil, true_and]))
    (refine hK _ ?_; clear hK K)
    ((refine W_seqV fun K hK => ?_); simp (disch := omega) only [regV_cons, effW_free, opF_fieldAddr, ty29, ev_tmp, List.getD_cons_succ, List.getD_cons_zero, fieldAddrW_ptr, List.length_cons, List.length_nil, Nat.zero_add, Nat.reduceAdd, Nat.reduceLT, ty25, ne_eq, reduceCtorEq, not_false_eq_true, valK_ap, atK_ap, restV_ap, Eff.app, List.set, Eff.wi, Option.map_none, List.nil_append, opF_load, TI.isAgg, Bool.false_eq_true, or_true, objOf, loadW_ptr, loadO_arr, Nat.reduceLeDiff, ofCells, List.drop_succ_cons, List.drop_zero, List.take_succ_cons, List.take_zero, List.headD_cons, if_false, List.cons_append, opF_call, ev_func, List.map_cons, List.map_nil, callF_fn, List.append_nil, opF_assign, regV_nil, sepL, List.not_mem_nil, false_implies, implies_true, true_and])
    (refine ⟨by kernel_rfl, rfl, _, hdn, ?_⟩)
    (refine hK _ ?_; clear hK K)
    refine W_seq ?_
    ((refine W_seqV fun K hK => ?_); simp (disch := omega) only [regV_cons, effW_free, opF_move, ev_tmp, List.getD_cons_succ, List.getD_cons_zero, atK_ap, restV_ap, Eff.app, List.set, Eff.wi, Option.map_none, List.nil_append, opF_len, ty25, lenW_sl, u32s_length, List.length_nil, Int.cast_ofNat_Int, valK_ap, List.cons_append, opF_binOp, ty3, ev_const, cst_int, binW_eql, z00, effW_guard, guardOf, List.getElem?_toArray, List.getElem?_cons_succ, List.getElem?_cons_zero, Option.bind_some, effH_ft, opF_pick, cst_bool, pickW_yes, regV_nil, sepL, List.not_mem_nil, false_implies, implies_true, true_and])
    (refine hK _ ?_; clear hK K)
    (first | refine W_cond rfl (fun _ => ?_) (fun h => by cases h) | refine W_seq (W_cond rfl (fun _ => ?_) (fun h => by cases h)))
    ((refine W_seqV fun K hK => ?_); simp (disch := omega) only [regV_cons, effW_free, opF_build, ty27, List.map_nil, buildW_struct, List.not_mem_nil, storable, AV.one, List.length_cons, List.length_nil, Nat.zero_add, Nat.reduceAdd, ne_eq, cellsOf, false_implies, implies_true, List.forall_mem_cons, ty4, reduceCtorEq, not_false_eq_true, ty25, and_self, laid, List.foldl_nil, valK_ap, atK_ap, restV_ap, Eff.app, List.set, Eff.wi, Option.map_none, List.nil_append, opF_buildSlice, List.map_cons, ev_const, cst_int, litD_slice, dead, List.getElem?_cons_succ, List.getElem?_cons_zero, ty79, range1, Nat.reduceMul, Nat.reduceLeDiff, true_and, and_true, List.cons_append, ty29, ev_tmp, List.getD_cons_succ, List.getD_cons_zero, List.all_cons, List.all_nil, Bool.and_self, Nat.reduceLT, List.foldl_cons, List.take_zero, List.drop_succ_cons, List.drop_zero, List.take_succ_cons, List.drop_nil, List.append_nil, opF_store, storeF_ptr, storeO_arr, Bool.false_eq_true, overlay, wrK_ap, Option.map_some, regV_nil, sepL])
    ((repeat (refine And.intro (by first | omega | (show AV.pures _ = true; rfl)) ?_)); refine hK _ ?_; clear hK K)
    refine W_ret ?_
    simp (disch := omega) only [thenW, retR, resW, resV, List.getD_cons_succ, List.getD_cons_zero, asOne_one]; try simp (disch := omega) only [ty29, ne_eq, reduceCtorEq, not_false_eq_true, TI.isAgg, true_or, loadW_ptr, List.getD_cons_succ, List.getD_cons_zero, loadO_arr, List.length_cons, List.length_nil, Nat.zero_add, Nat.reduceLT, Nat.reduceAdd, Nat.reduceLeDiff, ofCells, List.drop_zero, List.take_succ_cons, List.take_zero, List.headD_cons, if_true, view_agg, views_cons, view_bool, view_nils, view_sl, views_nil, and_self]
    try rfl
  have hep := limbs_len_pos he
  have hze : (((limbs e).length : Int) == 0) = false := by rw [beq_eq_false_iff_ne]; omega
  simp only [cN, cNat] at hdn
  by_cases h0 : z = 0
  · subst h0
    rw [show mkRat 0 e = 0 by simp, cQ_zero]
    simp only [cZ, cI, Int.natAbs_zero, limbs_zero] at hz
    (refine pureW Try.func22 rfl (rs := [Go.ResultVar.cell 2 29]) rfl (n := 55) rfl ?_; simp only [List.length_cons, List.length_nil, List.replicate, List.cons_append, List.nil_append])
    (repeat (refine W_seqV fun K hK => ?_; (try simp (disch := omega) only [regV_cons, effW_free, opF_box, dead, List.getElem?_cons_succ, List.getElem?_cons_zero, storable, ev_tmp, List.getD_cons_zero, List.all_cons, AV.one, List.all_nil, Bool.and_self, cellsOf, List.length_cons, List.length_nil, Nat.zero_add, Nat.reduceAdd, atK_ap, restV_ap, Eff.app, List.set, Eff.wi, Option.map_some, List.nil_append, opF_alloc, ty29, ne_eq, reduceCtorEq, not_false_eq_true, List.cons_append, regV_nil, sepL, List.not_mem_nil, false_implies, implies_true, true_and]); refine hK _ ?_; clear hK K))
    ((refine W_seqV fun K hK => ?_); simp (disch := omega) only [regV_cons, effW_free, opF_fieldAddr, ty29, ev_tmp, List.getD_cons_succ, List.getD_cons_zero, fieldAddrW_ptr, List.length_cons, List.length_nil, Nat.zero_add, Nat.reduceAdd, Nat.reduceLT, ty27, ne_eq, reduceCtorEq, not_false_eq_true, Nat.add_zero, valK_ap, atK_ap, restV_ap, Eff.app, List.set, Eff.wi, Option.map_none, List.nil_append, opF_load, TI.isAgg, true_or, objOf, loadW_ptr, loadO_arr, Nat.reduceLeDiff, ofCells, List.drop_zero, List.take_succ_cons, List.take_zero, List.headD_cons, if_true, List.cons_append, opF_call, ev_func, List.map_cons, List.map_nil, callF_fn, List.append_nil, opF_alloc, dead, List.getElem?_cons_succ, List.getElem?_cons_zero, Option.map_some, opF_store, storeF_ptr, storeO_arr, storable, AV.one, cellsOf, Bool.false_eq_true, false_implies, overlay, wrK_ap, regV_nil, sepL, List.not_mem_nil, implies_true, true_and])
    (refine ⟨by kernel_rfl, rfl, _, hz, ?_⟩; (try simp (disch := omega) only [Int.lt_irrefl, decide_false, List.all_cons, AV.one, List.all_nil, Bool.and_self, List.length_cons, List.length_nil, Nat.zero_add, Nat.reduceAdd, List.drop_succ_cons, List.drop_nil, List.append_nil, true_and]))
    (refine hK _ ?_; clear hK K)
    ((refine W_seqV fun K hK => ?_); simp (disch := omega) only [regV_cons, effW_free, opF_fieldAddr, ty29, ev_tmp, List.getD_cons_succ, List.getD_cons_zero, fieldAddrW_ptr, List.length_cons, List.length_nil, Nat.zero_add, Nat.reduceAdd, Nat.reduceLT, ty25, ne_eq, reduceCtorEq, not_false_eq_true, valK_ap, atK_ap, restV_ap, Eff.app, List.set, Eff.wi, Option.map_none, List.nil_append, opF_load, TI.isAgg, Bool.false_eq_true, or_true, objOf, loadW_ptr, loadO_arr, Nat.reduceLeDiff, ofCells, List.drop_succ_cons, List.drop_zero, List.take_succ_cons, List.take_zero, List.headD_cons, if_false, List.cons_append, opF_call, ev_func, List.map_cons, List.map_nil, callF_fn, List.append_nil, opF_assign, regV_nil, sepL, List.not_mem_nil, false_implies, implies_true, true_and])
    (refine ⟨by kernel_rfl, rfl, _, hdn, ?_⟩)
    (refine hK _ ?_; clear hK K)
    refine W_seq ?_
    ((refine W_seqV fun K hK => ?_); simp (disch := omega) only [regV_cons, effW_free, opF_move, ev_tmp, List.getD_cons_succ, List.getD_cons_zero, atK_ap, restV_ap, Eff.app, List.set, Eff.wi, Option.map_none, List.nil_append, opF_len, ty25, lenW_sl, u32s_length, valK_ap, List.cons_append, opF_binOp, ty3, ev_const, cst_int, binW_eql, hze, effW_guard, guardOf, List.getElem?_toArray, List.getElem?_cons_succ, List.getElem?_cons_zero, Option.bind_some, effH_ff, opF_fieldAddr, ty27, fieldAddrW_ptr, List.length_cons, List.length_nil, Nat.zero_add, Nat.reduceAdd, Nat.reduceLT, ne_eq, reduceCtorEq, not_false_eq_true, opF_load, TI.isAgg, Bool.false_eq_true, or_true, objOf, loadW_ptr, loadO_arr, Nat.reduceLeDiff, ofCells, List.drop_succ_cons, List.drop_zero, List.take_succ_cons, List.take_zero, List.headD_cons, if_false, Int.cast_ofNat_Int, z00, opF_pick, cst_bool, pickW_bool, cond_false, regV_nil, sepL, List.not_mem_nil, false_implies, implies_true, true_and])
    (refine hK _ ?_; clear hK K)
    (first | refine W_cond rfl (fun _ => ?_) (fun h => by cases h) | refine W_seq (W_cond rfl (fun _ => ?_) (fun h => by cases h)))
    ((refine W_seqV fun K hK => ?_); simp (disch := omega) only [regV_cons, effW_free, opF_build, ty27, List.map_nil, buildW_struct, List.not_mem_nil, storable, AV.one, List.length_cons, List.length_nil, Nat.zero_add, Nat.reduceAdd, ne_eq, cellsOf, false_implies, implies_true, List.forall_mem_cons, ty4, reduceCtorEq, not_false_eq_true, ty25, and_self, laid, List.foldl_nil, valK_ap, atK_ap, restV_ap, Eff.app, List.set, Eff.wi, Option.map_none, List.nil_append, opF_buildSlice, List.map_cons, ev_const, cst_int, litD_slice, dead, List.getElem?_cons_succ, List.getElem?_cons_zero, ty79, range1, Nat.reduceMul, Nat.reduceLeDiff, true_and, and_true, List.cons_append, ty29, ev_tmp, List.getD_cons_succ, List.getD_cons_zero, List.all_cons, List.all_nil, Bool.and_self, Nat.reduceLT, List.foldl_cons, List.take_zero, List.drop_succ_cons, List.drop_zero, List.take_succ_cons, List.drop_nil, List.append_nil, opF_store, storeF_ptr, storeO_arr, Bool.false_eq_true, overlay, wrK_ap, Option.map_some, regV_nil, sepL])
    ((repeat (refine And.intro (by first | omega | (show AV.pures _ = true; rfl)) ?_)); refine hK _ ?_; clear hK K)
    refine W_ret ?_
    simp (disch := omega) only [thenW, retR, resW, resV, List.getD_cons_succ, List.getD_cons_zero, asOne_one]; try simp (disch := omega) only [ty29, ne_eq, reduceCtorEq, not_false_eq_true, TI.isAgg, true_or, loadW_ptr, List.getD_cons_succ, List.getD_cons_zero, loadO_arr, List.length_cons, List.length_nil, Nat.zero_add, Nat.reduceLT, Nat.reduceAdd, Nat.reduceLeDiff, ofCells, List.drop_zero, List.take_succ_cons, List.take_zero, List.headD_cons, if_true, view_agg, views_cons, view_bool, view_nils, view_sl, views_nil, and_self]
    try rfl
  have hzp := limbs_len_pos (n := z.natAbs) (by omega)
  have hzz : (((limbs z.natAbs).length : Int) == 0) = false := by rw [beq_eq_false_iff_ne]; omega
  rw [mk_cQ z he h0]
  have hg := fgcd_v z.natAbs e (by omega) (by omega)
  have hg0 : Nat.gcd z.natAbs e ≠ 0 := fun h => he (Nat.gcd_eq_zero_iff.1 h).2
  have hgl := limbs_mono (Nat.le_of_dvd (Nat.pos_of_ne_zero he) (Nat.gcd_dvd_right z.natAbs e))
  have d1 := fdiv_v z.natAbs (Nat.gcd z.natAbs e) (by omega) (by omega) hg0
  have d2 := fdiv_v e (Nat.gcd z.natAbs e) (by omega) (by omega) hg0
  simp only [cN, cNat] at hg d1 d2 ⊢
  (refine pureW Try.func22 rfl (rs := [Go.ResultVar.cell 2 29]) rfl (n := 55) rfl ?_; simp only [List.length_cons, List.length_nil, List.replicate, List.cons_append, List.nil_append])
  (repeat (refine W_seqV fun K hK => ?_; (try simp (disch := omega) only [regV_cons, effW_free, opF_box, dead, List.getElem?_cons_succ, List.getElem?_cons_zero, storable, ev_tmp, List.getD_cons_zero, List.all_cons, AV.one, List.all_nil, Bool.and_self, cellsOf, List.length_cons, List.length_nil, Nat.zero_add, Nat.reduceAdd, atK_ap, restV_ap, Eff.app, List.set, Eff.wi, Option.map_some, List.nil_append, opF_alloc, ty29, ne_eq, reduceCtorEq, not_false_eq_true, List.cons_append, regV_nil, sepL, List.not_mem_nil, false_implies, implies_true, true_and]); refine hK _ ?_; clear hK K))
  ((refine W_seqV fun K hK => ?_); simp (disch := omega) only [regV_cons, effW_free, opF_fieldAddr, ty29, ev_tmp, List.getD_cons_succ, List.getD_cons_zero, fieldAddrW_ptr, List.length_cons, List.length_nil, Nat.zero_add, Nat.reduceAdd, Nat.reduceLT, ty27, ne_eq, reduceCtorEq, not_false_eq_true, Nat.add_zero, valK_ap, atK_ap, restV_ap, Eff.app, List.set, Eff.wi, Option.map_none, List.nil_append, opF_load, TI.isAgg, true_or, objOf, loadW_ptr, loadO_arr, Nat.reduceLeDiff, ofCells, List.drop_zero, List.take_succ_cons, List.take_zero, List.headD_cons, if_true, List.cons_append, opF_call, ev_func, List.map_cons, List.map_nil, callF_fn, List.append_nil, opF_alloc, dead, List.getElem?_cons_succ, List.getElem?_cons_zero, Option.map_some, opF_store, storeF_ptr, storeO_arr, storable, AV.one, cellsOf, Bool.false_eq_true, false_implies, overlay, wrK_ap, regV_nil, sepL, List.not_mem_nil, implies_true, true_and])
  (refine ⟨by kernel_rfl, rfl, _, hz, ?_⟩; (try simp (disch := omega) only [cZ, cI, List.all_cons, AV.one, List.all_nil, Bool.and_self, List.length_cons, List.length_nil, Nat.zero_add, Nat.reduceAdd, List.drop_succ_cons, List.drop_nil, List.append_nil, true_and]))
  (refine hK _ ?_; clear hK K)
  ((refine W_seqV fun K hK => ?_); simp (disch := omega) only [regV_cons, effW_free, opF_fieldAddr, ty29, ev_tmp, List.getD_cons_succ, List.getD_cons_zero, fieldAddrW_ptr, List.length_cons, List.length_nil, Nat.zero_add, Nat.reduceAdd, Nat.reduceLT, ty25, ne_eq, reduceCtorEq, not_false_eq_true, valK_ap, atK_ap, restV_ap, Eff.app, List.set, Eff.wi, Option.map_none, List.nil_append, opF_load, TI.isAgg, Bool.false_eq_true, or_true, objOf, loadW_ptr, loadO_arr, Nat.reduceLeDiff, ofCells, List.drop_succ_cons, List.drop_zero, List.take_succ_cons, List.take_zero, List.headD_cons, if_false, List.cons_append, opF_call, ev_func, List.map_cons, List.map_nil, callF_fn, List.append_nil, opF_assign, regV_nil, sepL, List.not_mem_nil, false_implies, implies_true, true_and])
  (refine ⟨by kernel_rfl, rfl, _, hdn, ?_⟩)
  (refine hK _ ?_; clear hK K)
  refine W_seq ?_
  ((refine W_seqV fun K hK => ?_); simp (disch := omega) only [regV_cons, effW_free, opF_move, ev_tmp, List.getD_cons_succ, List.getD_cons_zero, atK_ap, restV_ap, Eff.app, List.set, Eff.wi, Option.map_none, List.nil_append, opF_len, ty25, lenW_sl, u32s_length, valK_ap, List.cons_append, opF_binOp, ty3, ev_const, cst_int, binW_eql, hze, effW_guard, guardOf, List.getElem?_toArray, List.getElem?_cons_succ, List.getElem?_cons_zero, Option.bind_some, effH_ff, opF_fieldAddr, ty27, fieldAddrW_ptr, List.length_cons, List.length_nil, Nat.zero_add, Nat.reduceAdd, Nat.reduceLT, ne_eq, reduceCtorEq, not_false_eq_true, opF_load, TI.isAgg, Bool.false_eq_true, or_true, objOf, loadW_ptr, loadO_arr, Nat.reduceLeDiff, ofCells, List.drop_succ_cons, List.drop_zero, List.take_succ_cons, List.take_zero, List.headD_cons, if_false, hzz, opF_pick, cst_bool, pickW_bool, cond_false, regV_nil, sepL, List.not_mem_nil, false_implies, implies_true, true_and])
  (refine hK _ ?_; clear hK K)
  (first | refine W_cond rfl (fun h => by cases h) (fun _ => ?_) | refine W_seq (W_cond rfl (fun h => by cases h) (fun _ => ?_)))
  refine W_skip ?_
  simp only [thenW]
  ((refine W_seqV fun K hK => ?_); simp (disch := omega) only [regV_cons, effW_free, opF_fieldAddr, ty27, ev_tmp, List.getD_cons_succ, List.getD_cons_zero, fieldAddrW_ptr, List.length_cons, List.length_nil, Nat.zero_add, Nat.reduceAdd, Nat.reduceLT, ty25, ne_eq, reduceCtorEq, not_false_eq_true, valK_ap, atK_ap, restV_ap, Eff.app, List.set, Eff.wi, Option.map_none, List.nil_append, opF_load, TI.isAgg, Bool.false_eq_true, or_true, objOf, loadW_ptr, loadO_arr, Nat.reduceLeDiff, ofCells, List.drop_succ_cons, List.drop_zero, List.take_succ_cons, List.take_zero, List.headD_cons, if_false, List.cons_append, opF_move, opF_call, ev_func, List.map_cons, List.map_nil, callF_fn, List.append_nil, opF_assign, regV_nil, sepL, List.not_mem_nil, false_implies, implies_true, true_and])
  (refine ⟨by kernel_rfl, rfl, _, hg, ?_⟩)
  (refine hK _ ?_; clear hK K)
  ((refine W_seqV fun K hK => ?_); simp (disch := omega) only [regV_cons, effW_free, opF_fieldAddr, ty27, ev_tmp, List.getD_cons_succ, List.getD_cons_zero, fieldAddrW_ptr, List.length_cons, List.length_nil, Nat.zero_add, Nat.reduceAdd, Nat.reduceLT, ty25, ne_eq, reduceCtorEq, not_false_eq_true, valK_ap, atK_ap, restV_ap, Eff.app, List.set, Eff.wi, Option.map_none, List.nil_append, opF_load, TI.isAgg, Bool.false_eq_true, or_true, objOf, loadW_ptr, loadO_arr, Nat.reduceLeDiff, ofCells, List.drop_succ_cons, List.drop_zero, List.take_succ_cons, List.take_zero, List.headD_cons, if_false, List.cons_append, opF_move, opF_call, ev_func, List.map_cons, List.map_nil, callF_fn, List.append_nil, opF_extract, true_and])
  (refine ⟨by kernel_rfl, rfl, _, d1, ?_⟩; (try simp (disch := omega) only [extractW_tup, List.length_cons, List.length_nil, Nat.zero_add, Nat.reduceAdd, Nat.reduceLT, List.getD_cons_zero, valK_ap, atK_ap, restV_ap, Eff.app, List.set, Eff.wi, Option.map_none, List.cons_append, List.nil_append, regV_cons, effW_free, opF_extract, ev_tmp, List.getD_cons_succ, opF_assign, regV_nil, sepL, List.not_mem_nil, false_implies, implies_true, true_and]))
  (refine hK _ ?_; clear hK K)
  ((refine W_seqV fun K hK => ?_); simp (disch := omega) only [regV_cons, effW_free, opF_move, ev_tmp, List.getD_cons_succ, List.getD_cons_zero, atK_ap, restV_ap, Eff.app, List.set, Eff.wi, Option.map_none, List.nil_append, List.cons_append, opF_call, ev_func, List.map_cons, List.map_nil, callF_fn, List.append_nil, opF_extract])
  (refine ⟨by kernel_rfl, rfl, _, d2, ?_⟩; (try simp (disch := omega) only [extractW_tup, List.length_cons, List.length_nil, Nat.zero_add, Nat.reduceAdd, Nat.reduceLT, List.getD_cons_zero, valK_ap, atK_ap, restV_ap, Eff.app, List.set, Eff.wi, Option.map_none, List.cons_append, List.nil_append, regV_cons, effW_free, opF_extract, ev_tmp, List.getD_cons_succ, opF_assign, regV_nil, sepL, List.not_mem_nil, false_implies, implies_true, true_and]))
  (refine hK _ ?_; clear hK K)
  ((refine W_seqV fun K hK => ?_); simp (disch := omega) only [regV_cons, effW_free, opF_fieldAddr, ty27, ev_tmp, List.getD_cons_succ, List.getD_cons_zero, fieldAddrW_ptr, List.length_cons, List.length_nil, Nat.zero_add, Nat.reduceAdd, Nat.reduceLT, ty4, ne_eq, reduceCtorEq, not_false_eq_true, Nat.add_zero, valK_ap, atK_ap, restV_ap, Eff.app, List.set, Eff.wi, Option.map_none, List.nil_append, opF_load, TI.isAgg, Bool.false_eq_true, or_true, objOf, loadW_ptr, loadO_arr, Nat.reduceLeDiff, ofCells, List.drop_zero, List.take_succ_cons, List.take_zero, List.headD_cons, if_false, List.cons_append, opF_move, opF_build, List.map_cons, List.map_nil, buildW_struct, storable, AV.one, cellsOf, List.forall_mem_cons, and_self, ty25, List.not_mem_nil, false_implies, implies_true, laid, List.foldl_cons, List.drop_succ_cons, List.drop_nil, List.append_nil, List.foldl_nil, ty29, List.all_cons, List.all_nil, Bool.and_self, opF_store, storeF_ptr, storeO_arr, overlay, wrK_ap, Option.map_some, regV_nil, sepL, true_and])
  (refine hK _ ?_; clear hK K)
  refine W_ret ?_
  simp (disch := omega) only [retR, resW, resV, List.getD_cons_succ, List.getD_cons_zero, asOne_one]; try simp (disch := omega) only [ty29, ne_eq, reduceCtorEq, not_false_eq_true, TI.isAgg, true_or, loadW_ptr, List.getD_cons_succ, List.getD_cons_zero, loadO_arr, List.length_cons, List.length_nil, Nat.zero_add, Nat.reduceLT, Nat.reduceAdd, Nat.reduceLeDiff, ofCells, List.drop_zero, List.take_succ_cons, List.take_zero, List.headD_cons, if_true, view_agg, views_cons, view_bool, view_sl, views_nil, and_self]
theorem f3norm_ok (r : RR) (hr : r.ok) : Pure Try.prog 22 [r.av] (· = cQ r.v) :=
  f3norm_ok0 r.neg r.num r.den hr.num hr.den (Nat.lt_trans hr.nl (by decide)) (Nat.lt_trans hr.dl (by decide))
theorem f3norm_zd (z : Int) (d : Nat) (hz : zl z < 137438953472) (hd : (limbs d).length < 137438953472) :
    Pure Try.prog 22 [.agg [.bool (decide (z < 0)), .sl (u32s (limbs z.natAbs)), .sl (u32s (limbs d))]] (· = cQ (mkRat z d)) := by
  have := f3norm_ok0 (decide (z < 0)) (limbs z.natAbs) (limbs d) (limbs_limbs _) (limbs_limbs _) hz hd
  rwa [mkRat_iv] at this

set_option maxHeartbeats 1000000 in
theorem positive_ok (l : List Nat) : Pure Try.prog 27 [cNat l] (· = cI false l) := by
  (refine pureW Try.func27 rfl (rs := [Go.ResultVar.cell 2 27]) rfl (n := 5) rfl ?_; simp only [List.length_cons, List.length_nil, List.replicate, List.cons_append, List.nil_append])
  unfold cNat
  (repeat (refine W_seqV fun K hK => ?_; (try simp (disch := omega) only [regV_cons, effW_free, opF_alloc, dead, List.getElem?_cons_succ, List.getElem?_cons_zero, ty27, ne_eq, reduceCtorEq, not_false_eq_true, List.length_cons, List.length_nil, Nat.zero_add, Nat.reduceAdd, atK_ap, restV_ap, Eff.app, List.set, Eff.wi, Option.map_some, List.nil_append, regV_nil, sepL, List.not_mem_nil, false_implies, implies_true, true_and, opF_move, ev_tmp, List.getD_cons_zero, Option.map_none, opF_build, List.map_cons, List.getD_cons_succ, List.map_nil, buildW_struct, storable, AV.one, cellsOf, List.forall_mem_cons, Nat.reduceLT, ty25, Nat.reduceLeDiff, and_self, ty4, laid, List.foldl_cons, List.take_succ_cons, List.take_zero, List.cons_append, List.drop_succ_cons, List.drop_nil, List.append_nil, List.foldl_nil, valK_ap, opF_store, storeF_ptr, storeO_arr, List.all_cons, List.all_nil, Bool.and_self, Bool.false_eq_true, overlay, wrK_ap]); refine hK _ ?_; clear hK K))
  refine W_ret ?_
  simp (disch := omega) only [retR, resW, resV, List.getD_cons_succ, List.getD_cons_zero, asOne_one]; try simp (disch := omega) only [ty27, ne_eq, reduceCtorEq, not_false_eq_true, TI.isAgg, true_or, cI, loadW_ptr, List.getD_cons_succ, List.getD_cons_zero, loadO_arr, List.length_cons, List.length_nil, Nat.zero_add, Nat.reduceLT, Nat.reduceAdd, Nat.reduceLeDiff, ofCells, List.drop_zero, List.take_succ_cons, List.take_zero, List.headD_cons, if_true, view_agg, views_cons, view_bool, view_sl, views_nil, and_self]

theorem f2mul_qq (a b : Rat) (ha : (qr a).ok) (hb : (qr b).ok) : Pure Try.prog 26 [cI (decide (a.num < 0)) (limbs a.num.natAbs), cI (decide (b.num < 0)) (limbs b.num.natAbs)] (· = cZ (a.num * b.num)) := by
  have := f2mul_ok (decide (a.num < 0)) (limbs a.num.natAbs) (limbs_limbs _) (Nat.lt_trans ha.nl (by decide)) (decide (b.num < 0)) (limbs b.num.natAbs) (limbs_limbs _) (Nat.lt_trans hb.nl (by decide))
  rwa [q_num, q_num] at this
theorem f2mul_qd (a b : Rat) (ha : (qr a).ok) (hb : (qr b).ok) : Pure Try.prog 26 [cI (decide (a.num < 0)) (limbs a.num.natAbs), cI false (limbs b.den)] (· = cZ (a.num * b.den)) := by
  have := f2mul_ok (decide (a.num < 0)) (limbs a.num.natAbs) (limbs_limbs _) (Nat.lt_trans ha.nl (by decide)) false (limbs b.den) (limbs_limbs _) (Nat.lt_trans hb.dl (by decide))
  rwa [q_num, den_iv] at this
theorem f1dd_ok (a b : Rat) (ha : (qr a).ok) (hb : (qr b).ok) : Pure Try.prog 28 [cNat (limbs a.den), cNat (limbs b.den)] (· = cN (a.den * b.den)) := by
  have := fmul_ok (limbs a.den) (limbs b.den) (limbs_limbs _) (limbs_limbs _) (Nat.lt_trans ha.dl (by decide)) (Nat.lt_trans hb.dl (by decide))
  rwa [val_limbs, val_limbs] at this

set_option maxHeartbeats 4000000 in
theorem f3add_ok (r t : RR) (hr : r.ok) (ht : t.ok) : Pure Try.prog 13 [r.av, t.av] (· = cQ (r.v + t.v)) := by
  have hn := f3norm_ok r hr
  have hm := f3norm_ok t ht
  have ho := v_ok hr
  have hp := v_ok ht
  obtain ⟨neg, n, d⟩ := r
  obtain ⟨neg', n', d'⟩ := t
  simp only [RR.av] at hn hm ⊢
  generalize RR.v _ = q at *
  generalize RR.v _ = p at *
  have h1 := f2mul_qd q p ho hp
  have h2 := f2mul_qd p q hp ho
  have p1 := positive_ok (limbs p.den)
  have p2 := positive_ok (limbs q.den)
  have z1 := zl_qd q p ho hp
  have z2 := zl_qd p q hp ho
  have hc := f2add_ok (decide (q.num * p.den < 0)) (limbs (q.num * p.den).natAbs) (limbs_limbs _) (Nat.lt_trans z1 (by decide)) (decide (p.num * q.den < 0)) (limbs (p.num * q.den).natAbs) (limbs_limbs _) (Nat.lt_trans z2 (by decide))
  rw [iv_cZ, iv_cZ] at hc
  have z3 := zl_add (q.num * p.den) (p.num * q.den)
  have hd := f1dd_ok q p ho hp
  have hl := dd_len q p ho hp
  have hmd := f3norm_zd (q.num * p.den + p.num * q.den) (q.den * p.den) (by omega) (by omega)
  rw [← Rat.add_def'] at hmd
  simp only [cQ] at hn hm
  (refine pureW Try.func13 rfl (rs := [Go.ResultVar.cell 4 29]) rfl (n := 31) rfl ?_; simp only [List.length_cons, List.length_nil, List.replicate, List.cons_append, List.nil_append])
  (repeat (refine W_seqV fun K hK => ?_; (try simp (disch := omega) only [regV_cons, effW_free, opF_box, dead, List.getElem?_cons_succ, List.getElem?_cons_zero, storable, ev_tmp, List.getD_cons_zero, List.all_cons, AV.one, List.all_nil, Bool.and_self, cellsOf, List.length_cons, List.length_nil, Nat.zero_add, Nat.reduceAdd, atK_ap, restV_ap, Eff.app, List.set, Eff.wi, Option.map_some, List.nil_append, List.getD_cons_succ, List.cons_append, opF_alloc, ty29, ne_eq, reduceCtorEq, not_false_eq_true, regV_nil, sepL, List.not_mem_nil, false_implies, implies_true, true_and]); refine hK _ ?_; clear hK K))
  ((refine W_seqV fun K hK => ?_); simp (disch := omega) only [regV_cons, effW_free, opF_load, ty29, ne_eq, reduceCtorEq, not_false_eq_true, TI.isAgg, true_or, ev_tmp, List.getD_cons_succ, List.getD_cons_zero, objOf, loadW_ptr, loadO_arr, List.length_cons, List.length_nil, Nat.zero_add, Nat.reduceLT, Nat.reduceAdd, Nat.reduceLeDiff, ofCells, List.drop_zero, List.take_succ_cons, List.take_zero, List.headD_cons, if_true, valK_ap, atK_ap, restV_ap, Eff.app, List.set, Eff.wi, Option.map_none, List.nil_append, opF_call, ev_func, List.map_cons, List.map_nil, callF_fn, List.append_nil, List.cons_append, opF_store, storeF_ptr, storeO_arr, storable, AV.one, cellsOf, Bool.false_eq_true, false_implies, overlay, wrK_ap, Option.map_some, regV_nil, sepL, List.not_mem_nil, implies_true, true_and])
  (refine ⟨by kernel_rfl, rfl, _, hn, ?_⟩; (try simp (disch := omega) only [List.all_cons, AV.one, List.all_nil, Bool.and_self, List.length_cons, List.length_nil, Nat.zero_add, Nat.reduceAdd, List.drop_succ_cons, List.drop_nil, List.append_nil, true_and]))
  (refine hK _ ?_; clear hK K)
  ((refine W_seqV fun K hK => ?_); simp (disch := omega) only [regV_cons, effW_free, opF_load, ty29, ne_eq, reduceCtorEq, not_false_eq_true, TI.isAgg, true_or, ev_tmp, List.getD_cons_succ, List.getD_cons_zero, objOf, loadW_ptr, loadO_arr, List.length_cons, List.length_nil, Nat.zero_add, Nat.reduceLT, Nat.reduceAdd, Nat.reduceLeDiff, ofCells, List.drop_zero, List.take_succ_cons, List.take_zero, List.headD_cons, if_true, valK_ap, atK_ap, restV_ap, Eff.app, List.set, Eff.wi, Option.map_none, List.nil_append, opF_call, ev_func, List.map_cons, List.map_nil, callF_fn, List.append_nil, List.cons_append, opF_store, storeF_ptr, storeO_arr, storable, AV.one, cellsOf, Bool.false_eq_true, false_implies, overlay, wrK_ap, Option.map_some, regV_nil, sepL, List.not_mem_nil, implies_true, true_and])
  (refine ⟨by kernel_rfl, rfl, _, hm, ?_⟩; (try simp (disch := omega) only [List.all_cons, AV.one, List.all_nil, Bool.and_self, List.length_cons, List.length_nil, Nat.zero_add, Nat.reduceAdd, List.drop_succ_cons, List.drop_nil, List.append_nil, true_and]))
  (refine hK _ ?_; clear hK K)
  ((refine W_seqD mixed [(1, 13), (3, 13), (7, 13), (9, 13)] (by kernel_rfl) fun K hK => ?_); simp (disch := omega) only [regV_cons, effW_free, opF_fieldAddr, ty29, ev_tmp, List.getD_cons_succ, List.getD_cons_zero, fieldAddrW_ptr, List.length_cons, List.length_nil, Nat.zero_add, Nat.reduceAdd, Nat.reduceLT, ty27, ne_eq, reduceCtorEq, not_false_eq_true, Nat.add_zero, valK_ap, atK_ap, restV_ap, Eff.app, List.set, Eff.wi, Option.map_none, List.nil_append, opF_load, TI.isAgg, true_or, objOf, loadW_ptr, loadO_arr, Nat.reduceLeDiff, ofCells, List.drop_zero, List.take_succ_cons, List.take_zero, List.headD_cons, if_true, List.cons_append, ty25, Bool.false_eq_true, or_true, List.drop_succ_cons, if_false, opF_call, ev_func, List.map_cons, List.map_nil, callF_fn, List.append_nil, opF_alloc, dead, List.getElem?_cons_succ, List.getElem?_cons_zero, Option.map_some, opF_store, storeF_ptr, storeO_arr, storable, AV.one, cellsOf, false_implies, overlay, wrK_ap, regV_nil, sepL, List.forall_mem_cons, List.not_mem_nil, implies_true, and_true, true_and])
  (refine ⟨by kernel_rfl, rfl, _, p1, ?_⟩; (try simp (disch := omega) only [cI]))
  (refine ⟨by kernel_rfl, rfl, _, h1, ?_⟩; (try simp (disch := omega) only [cZ, cI]))
  (refine ⟨by kernel_rfl, rfl, _, p2, ?_⟩; (try simp (disch := omega) only [cI]))
  (refine ⟨by kernel_rfl, rfl, _, h2, ?_⟩; (try simp (disch := omega) only [cZ, cI]))
  (refine ⟨by kernel_rfl, rfl, _, hc, ?_⟩; (try simp (disch := omega) only [cZ, cI, List.all_cons, AV.one, List.all_nil, Bool.and_self, List.length_cons, List.length_nil, Nat.zero_add, Nat.reduceAdd, List.drop_succ_cons, List.drop_nil, List.append_nil, true_and]); (repeat (refine And.intro (by first | omega | (simp only [sepP]; decide)) ?_)))
  (refine hK _ ?_; clear hK K)
  ((refine W_seqD mixed [] (by kernel_rfl) fun K hK => ?_); simp (disch := omega) only [regV_cons, effW_free, opF_load, ty27, ne_eq, reduceCtorEq, not_false_eq_true, TI.isAgg, true_or, ev_tmp, List.getD_cons_succ, List.getD_cons_zero, objOf, loadW_ptr, loadO_arr, List.length_cons, List.length_nil, Nat.zero_add, Nat.reduceLT, Nat.reduceAdd, Nat.reduceLeDiff, ofCells, List.drop_zero, List.take_succ_cons, List.take_zero, List.headD_cons, if_true, valK_ap, atK_ap, restV_ap, Eff.app, List.set, Eff.wi, Option.map_none, List.nil_append, opF_fieldAddr, ty29, fieldAddrW_ptr, ty25, List.cons_append, Bool.false_eq_true, or_true, List.drop_succ_cons, if_false, opF_call, ev_func, List.map_cons, List.map_nil, callF_fn, List.append_nil, opF_build, buildW_struct, storable, AV.one, cellsOf, List.forall_mem_cons, List.all_cons, List.all_nil, Bool.and_self, and_self, true_and, List.not_mem_nil, false_implies, implies_true, and_true, laid, List.foldl_cons, List.foldl_nil, opF_store, storeF_ptr, storeO_arr, overlay, wrK_ap, Option.map_some, regV_nil, sepL])
  (refine ⟨by kernel_rfl, rfl, _, hd, ?_⟩; (try simp (disch := omega) only [cN, cNat, List.length_cons, List.length_nil, Nat.zero_add, Nat.reduceAdd, Nat.reduceLeDiff, and_self, List.drop_succ_cons, List.drop_nil, List.append_nil, true_and]))
  (refine ⟨by kernel_rfl, rfl, _, hmd, ?_⟩; (try simp (disch := omega) only [cQ, List.all_cons, AV.one, List.all_nil, Bool.and_self, List.length_cons, List.length_nil, Nat.zero_add, Nat.reduceAdd, List.drop_succ_cons, List.drop_nil, List.append_nil, true_and]))
  (refine hK _ ?_; clear hK K)
  refine W_ret ?_
  simp (disch := omega) only [retR, resW, resV, List.getD_cons_succ, List.getD_cons_zero, asOne_one]; try simp (disch := omega) only [ty29, ne_eq, reduceCtorEq, not_false_eq_true, TI.isAgg, true_or, cQ, loadW_ptr, List.getD_cons_succ, List.getD_cons_zero, loadO_arr, List.length_cons, List.length_nil, Nat.zero_add, Nat.reduceLT, Nat.reduceAdd, Nat.reduceLeDiff, ofCells, List.drop_zero, List.take_succ_cons, List.take_zero, List.headD_cons, if_true, view_agg, views_cons, view_bool, view_sl, views_nil, and_self]

set_option maxHeartbeats 4000000 in
theorem f3mul_ok (r t : RR) (hr : r.ok) (ht : t.ok) : Pure Try.prog 14 [r.av, t.av] (· = cQ (r.v * t.v)) := by
  have hn := f3norm_ok r hr
  have hm := f3norm_ok t ht
  have ho := v_ok hr
  have hp := v_ok ht
  obtain ⟨neg, n, d⟩ := r
  obtain ⟨neg', n', d'⟩ := t
  simp only [RR.av] at hn hm ⊢
  generalize RR.v _ = q at *
  generalize RR.v _ = p at *
  have h1 := f2mul_qq q p ho hp
  have z1 : zl (q.num * p.num) < 34359738368 := by
    have h1 := zl_mul q.num p.num
    have h2 : zl q.num < 17179869184 := ho.nl
    have h3 : zl p.num < 17179869184 := hp.nl
    omega
  have hd := f1dd_ok q p ho hp
  have hl := dd_len q p ho hp
  have hmd := f3norm_zd (q.num * p.num) (q.den * p.den) (by omega) (by omega)
  rw [← Rat.mul_def'] at hmd
  simp only [cQ] at hn hm
  (refine pureW Try.func14 rfl (rs := [Go.ResultVar.cell 4 29]) rfl (n := 21) rfl ?_; simp only [List.length_cons, List.length_nil, List.replicate, List.cons_append, List.nil_append])
  (repeat (refine W_seqV fun K hK => ?_; (try simp (disch := omega) only [regV_cons, effW_free, opF_box, dead, List.getElem?_cons_succ, List.getElem?_cons_zero, storable, ev_tmp, List.getD_cons_zero, List.all_cons, AV.one, List.all_nil, Bool.and_self, cellsOf, List.length_cons, List.length_nil, Nat.zero_add, Nat.reduceAdd, atK_ap, restV_ap, Eff.app, List.set, Eff.wi, Option.map_some, List.nil_append, List.getD_cons_succ, List.cons_append, opF_alloc, ty29, ne_eq, reduceCtorEq, not_false_eq_true, regV_nil, sepL, List.not_mem_nil, false_implies, implies_true, true_and]); refine hK _ ?_; clear hK K))
  ((refine W_seqV fun K hK => ?_); simp (disch := omega) only [regV_cons, effW_free, opF_load, ty29, ne_eq, reduceCtorEq, not_false_eq_true, TI.isAgg, true_or, ev_tmp, List.getD_cons_succ, List.getD_cons_zero, objOf, loadW_ptr, loadO_arr, List.length_cons, List.length_nil, Nat.zero_add, Nat.reduceLT, Nat.reduceAdd, Nat.reduceLeDiff, ofCells, List.drop_zero, List.take_succ_cons, List.take_zero, List.headD_cons, if_true, valK_ap, atK_ap, restV_ap, Eff.app, List.set, Eff.wi, Option.map_none, List.nil_append, opF_call, ev_func, List.map_cons, List.map_nil, callF_fn, List.append_nil, List.cons_append, opF_store, storeF_ptr, storeO_arr, storable, AV.one, cellsOf, Bool.false_eq_true, false_implies, overlay, wrK_ap, Option.map_some, regV_nil, sepL, List.not_mem_nil, implies_true, true_and])
  (refine ⟨by kernel_rfl, rfl, _, hn, ?_⟩; (try simp (disch := omega) only [List.all_cons, AV.one, List.all_nil, Bool.and_self, List.length_cons, List.length_nil, Nat.zero_add, Nat.reduceAdd, List.drop_succ_cons, List.drop_nil, List.append_nil, true_and]))
  (refine hK _ ?_; clear hK K)
  ((refine W_seqV fun K hK => ?_); simp (disch := omega) only [regV_cons, effW_free, opF_load, ty29, ne_eq, reduceCtorEq, not_false_eq_true, TI.isAgg, true_or, ev_tmp, List.getD_cons_succ, List.getD_cons_zero, objOf, loadW_ptr, loadO_arr, List.length_cons, List.length_nil, Nat.zero_add, Nat.reduceLT, Nat.reduceAdd, Nat.reduceLeDiff, ofCells, List.drop_zero, List.take_succ_cons, List.take_zero, List.headD_cons, if_true, valK_ap, atK_ap, restV_ap, Eff.app, List.set, Eff.wi, Option.map_none, List.nil_append, opF_call, ev_func, List.map_cons, List.map_nil, callF_fn, List.append_nil, List.cons_append, opF_store, storeF_ptr, storeO_arr, storable, AV.one, cellsOf, Bool.false_eq_true, false_implies, overlay, wrK_ap, Option.map_some, regV_nil, sepL, List.not_mem_nil, implies_true, true_and])
  (refine ⟨by kernel_rfl, rfl, _, hm, ?_⟩; (try simp (disch := omega) only [List.all_cons, AV.one, List.all_nil, Bool.and_self, List.length_cons, List.length_nil, Nat.zero_add, Nat.reduceAdd, List.drop_succ_cons, List.drop_nil, List.append_nil, true_and]))
  (refine hK _ ?_; clear hK K)
  ((refine W_seqD mixed [] (by kernel_rfl) fun K hK => ?_); simp (disch := omega) only [regV_cons, effW_free, opF_fieldAddr, ty29, ev_tmp, List.getD_cons_succ, List.getD_cons_zero, fieldAddrW_ptr, List.length_cons, List.length_nil, Nat.zero_add, Nat.reduceAdd, Nat.reduceLT, ty27, ne_eq, reduceCtorEq, not_false_eq_true, Nat.add_zero, valK_ap, atK_ap, restV_ap, Eff.app, List.set, Eff.wi, Option.map_none, List.nil_append, opF_load, TI.isAgg, true_or, objOf, loadW_ptr, loadO_arr, Nat.reduceLeDiff, ofCells, List.drop_zero, List.take_succ_cons, List.take_zero, List.headD_cons, if_true, List.cons_append, opF_call, ev_func, List.map_cons, List.map_nil, callF_fn, List.append_nil, ty25, Bool.false_eq_true, or_true, List.drop_succ_cons, if_false, opF_build, buildW_struct, storable, AV.one, cellsOf, List.forall_mem_cons, true_and, List.not_mem_nil, false_implies, implies_true, and_true, and_self, laid, List.foldl_cons, List.foldl_nil, opF_store, storeF_ptr, storeO_arr, overlay, wrK_ap, Option.map_some, regV_nil, sepL])
  (refine ⟨by kernel_rfl, rfl, _, h1, ?_⟩; (try simp (disch := omega) only [cZ, cI, List.all_cons, AV.one, List.all_nil, Bool.and_self, List.length_cons, List.length_nil, Nat.zero_add, Nat.reduceAdd, Nat.reduceLeDiff, and_self, true_and, List.drop_succ_cons, List.drop_zero, List.cons_append, List.nil_append, List.take_succ_cons, List.take_zero]))
  (refine ⟨by kernel_rfl, rfl, _, hd, ?_⟩; (try simp (disch := omega) only [cN, cNat, List.length_cons, List.length_nil, Nat.zero_add, Nat.reduceAdd, Nat.reduceLeDiff, and_self, List.drop_succ_cons, List.drop_nil, List.append_nil, true_and]))
  (refine ⟨by kernel_rfl, rfl, _, hmd, ?_⟩; (try simp (disch := omega) only [cQ, List.all_cons, AV.one, List.all_nil, Bool.and_self, List.length_cons, List.length_nil, Nat.zero_add, Nat.reduceAdd, List.drop_succ_cons, List.drop_nil, List.append_nil, true_and]))
  (refine hK _ ?_; clear hK K)
  refine W_ret ?_
  simp (disch := omega) only [retR, resW, resV, List.getD_cons_succ, List.getD_cons_zero, asOne_one]; try simp (disch := omega) only [ty29, ne_eq, reduceCtorEq, not_false_eq_true, TI.isAgg, true_or, cQ, loadW_ptr, List.getD_cons_succ, List.getD_cons_zero, loadO_arr, List.length_cons, List.length_nil, Nat.zero_add, Nat.reduceLT, Nat.reduceAdd, Nat.reduceLeDiff, ofCells, List.drop_zero, List.take_succ_cons, List.take_zero, List.headD_cons, if_true, view_agg, views_cons, view_bool, view_sl, views_nil, and_self]

theorem qneg_ok {q : Rat} (h : (qr q).ok) : (qr (-q)).ok := ⟨limbs_limbs _, limbs_limbs _, by have := h.nl; simp only [qr] at this ⊢; rwa [Rat.neg_num, Int.natAbs_neg], h.dl⟩
theorem mkRat_neg_q (q : Rat) : mkRat (-q.num) q.den = -q := by
  rw [← Rat.neg_mkRat, Rat.mkRat_self]
set_option maxHeartbeats 4000000 in
theorem f3neg_ok (r : RR) (hr : r.ok) : Pure Try.prog 23 [r.av] (· = cQ (-r.v)) := by
  have hn := f3norm_ok r hr
  have ho := v_ok hr
  obtain ⟨neg, n, d⟩ := r
  simp only [RR.av] at hn ⊢
  generalize RR.v _ = q at *
  have h1 := f2neg_ok (decide (q.num < 0)) (limbs q.num.natAbs) (limbs_limbs _) (Nat.lt_trans ho.nl (by decide))
  rw [q_num] at h1
  have hmd := f3norm_zd (-q.num) q.den (by rw [zl_neg]; exact Nat.lt_trans ho.nl (by decide)) (Nat.lt_trans ho.dl (by decide))
  rw [mkRat_neg_q] at hmd
  simp only [cQ] at hn
  (refine pureW Try.func23 rfl (rs := [Go.ResultVar.cell 2 29]) rfl (n := 12) rfl ?_; simp only [List.length_cons, List.length_nil, List.replicate, List.cons_append, List.nil_append])
  (repeat (refine W_seqV fun K hK => ?_; (try simp (disch := omega) only [regV_cons, effW_free, opF_box, dead, List.getElem?_cons_succ, List.getElem?_cons_zero, storable, ev_tmp, List.getD_cons_zero, List.all_cons, AV.one, List.all_nil, Bool.and_self, cellsOf, List.length_cons, List.length_nil, Nat.zero_add, Nat.reduceAdd, atK_ap, restV_ap, Eff.app, List.set, Eff.wi, Option.map_some, List.nil_append, opF_alloc, ty29, ne_eq, reduceCtorEq, not_false_eq_true, List.cons_append, regV_nil, sepL, List.not_mem_nil, false_implies, implies_true, true_and]); refine hK _ ?_; clear hK K))
  ((refine W_seqV fun K hK => ?_); simp (disch := omega) only [regV_cons, effW_free, opF_load, ty29, ne_eq, reduceCtorEq, not_false_eq_true, TI.isAgg, true_or, ev_tmp, List.getD_cons_succ, List.getD_cons_zero, objOf, loadW_ptr, loadO_arr, List.length_cons, List.length_nil, Nat.zero_add, Nat.reduceLT, Nat.reduceAdd, Nat.reduceLeDiff, ofCells, List.drop_zero, List.take_succ_cons, List.take_zero, List.headD_cons, if_true, valK_ap, atK_ap, restV_ap, Eff.app, List.set, Eff.wi, Option.map_none, List.nil_append, opF_call, ev_func, List.map_cons, List.map_nil, callF_fn, List.append_nil, List.cons_append, opF_store, storeF_ptr, storeO_arr, storable, AV.one, cellsOf, Bool.false_eq_true, false_implies, overlay, wrK_ap, Option.map_some, regV_nil, sepL, List.not_mem_nil, implies_true, true_and])
  (refine ⟨by kernel_rfl, rfl, _, hn, ?_⟩; (try simp (disch := omega) only [List.all_cons, AV.one, List.all_nil, Bool.and_self, List.length_cons, List.length_nil, Nat.zero_add, Nat.reduceAdd, List.drop_succ_cons, List.drop_nil, List.append_nil, true_and]))
  (refine hK _ ?_; clear hK K)
  ((refine W_seqD mixed [] (by kernel_rfl) fun K hK => ?_); simp (disch := omega) only [regV_cons, effW_free, opF_fieldAddr, ty29, ev_tmp, List.getD_cons_succ, List.getD_cons_zero, fieldAddrW_ptr, List.length_cons, List.length_nil, Nat.zero_add, Nat.reduceAdd, Nat.reduceLT, ty27, ne_eq, reduceCtorEq, not_false_eq_true, Nat.add_zero, valK_ap, atK_ap, restV_ap, Eff.app, List.set, Eff.wi, Option.map_none, List.nil_append, opF_load, TI.isAgg, true_or, objOf, loadW_ptr, loadO_arr, Nat.reduceLeDiff, ofCells, List.drop_zero, List.take_succ_cons, List.take_zero, List.headD_cons, if_true, List.cons_append, opF_call, ev_func, List.map_cons, List.map_nil, callF_fn, List.append_nil, ty25, Bool.false_eq_true, or_true, List.drop_succ_cons, if_false, opF_build, buildW_struct, storable, AV.one, cellsOf, List.forall_mem_cons, true_and, and_self, List.not_mem_nil, false_implies, implies_true, and_true, laid, List.foldl_cons, List.foldl_nil, opF_store, storeF_ptr, storeO_arr, overlay, wrK_ap, Option.map_some, regV_nil, sepL])
  (refine ⟨by kernel_rfl, rfl, _, h1, ?_⟩; (try simp (disch := omega) only [cZ, cI, List.all_cons, AV.one, List.all_nil, Bool.and_self, List.length_cons, List.length_nil, Nat.zero_add, Nat.reduceAdd, Nat.reduceLeDiff, and_self, List.drop_succ_cons, List.drop_zero, List.cons_append, List.nil_append, List.take_succ_cons, List.take_zero, List.drop_nil, List.append_nil, true_and]))
  (refine ⟨by kernel_rfl, rfl, _, hmd, ?_⟩; (try simp (disch := omega) only [cQ, List.all_cons, AV.one, List.all_nil, Bool.and_self, List.length_cons, List.length_nil, Nat.zero_add, Nat.reduceAdd, List.drop_succ_cons, List.drop_nil, List.append_nil, true_and]))
  (refine hK _ ?_; clear hK K)
  refine W_ret ?_
  simp (disch := omega) only [retR, resW, resV, List.getD_cons_succ, List.getD_cons_zero, asOne_one]; try simp (disch := omega) only [ty29, ne_eq, reduceCtorEq, not_false_eq_true, TI.isAgg, true_or, cQ, loadW_ptr, List.getD_cons_succ, List.getD_cons_zero, loadO_arr, List.length_cons, List.length_nil, Nat.zero_add, Nat.reduceLT, Nat.reduceAdd, Nat.reduceLeDiff, ofCells, List.drop_zero, List.take_succ_cons, List.take_zero, List.headD_cons, if_true, view_agg, views_cons, view_bool, view_sl, views_nil, and_self]

set_option maxHeartbeats 4000000 in
theorem f3sub_ok (r t : RR) (hr : r.ok) (ht : t.ok) : Pure Try.prog 11 [r.av, t.av] (· = cQ (r.v - t.v)) := by
  have hn := f3neg_ok t ht
  have ha := f3add_ok r (qr (-t.v)) hr (qneg_ok (v_ok ht))
  rw [qr_v, ← Rat.sub_eq_add_neg] at ha
  obtain ⟨neg, n, d⟩ := r
  obtain ⟨neg', n', d'⟩ := t
  simp only [RR.av, qr] at hn ha ⊢
  simp only [cQ] at hn
  (refine pureW Try.func11 rfl (rs := [Go.ResultVar.cell 4 29]) rfl (n := 9) rfl ?_; simp only [List.length_cons, List.length_nil, List.replicate, List.cons_append, List.nil_append])
  ((refine W_seqV fun K hK => ?_); simp (disch := omega) only [regV_cons, effW_free, opF_box, dead, List.getElem?_cons_succ, List.getElem?_cons_zero, storable, ev_tmp, List.getD_cons_zero, List.all_cons, AV.one, List.all_nil, Bool.and_self, cellsOf, List.length_cons, List.length_nil, Nat.zero_add, Nat.reduceAdd, atK_ap, restV_ap, Eff.app, List.set, Eff.wi, Option.map_some, List.nil_append, List.getD_cons_succ, List.cons_append, opF_alloc, ty29, ne_eq, reduceCtorEq, not_false_eq_true, regV_nil, sepL, List.not_mem_nil, false_implies, implies_true, true_and])
  (refine hK _ ?_; clear hK K)
  ((refine W_seqD mixed [] (by kernel_rfl) fun K hK => ?_); simp (disch := omega) only [regV_cons, effW_free, opF_load, ty29, ne_eq, reduceCtorEq, not_false_eq_true, TI.isAgg, true_or, ev_tmp, List.getD_cons_succ, List.getD_cons_zero, objOf, loadW_ptr, loadO_arr, List.length_cons, List.length_nil, Nat.zero_add, Nat.reduceLT, Nat.reduceAdd, Nat.reduceLeDiff, ofCells, List.drop_zero, List.take_succ_cons, List.take_zero, List.headD_cons, if_true, valK_ap, atK_ap, restV_ap, Eff.app, List.set, Eff.wi, Option.map_none, List.nil_append, List.cons_append, opF_call, ev_func, List.map_cons, List.map_nil, callF_fn, List.append_nil, opF_store, storeF_ptr, storeO_arr, storable, AV.one, cellsOf, Bool.false_eq_true, false_implies, overlay, wrK_ap, Option.map_some, regV_nil, sepL, List.not_mem_nil, implies_true, true_and])
  (refine ⟨by kernel_rfl, rfl, _, hn, ?_⟩)
  (refine ⟨by kernel_rfl, rfl, _, ha, ?_⟩; (try simp (disch := omega) only [cQ, List.all_cons, AV.one, List.all_nil, Bool.and_self, List.length_cons, List.length_nil, Nat.zero_add, Nat.reduceAdd, List.drop_succ_cons, List.drop_nil, List.append_nil, true_and]))
  (refine hK _ ?_; clear hK K)
  refine W_ret ?_
  simp (disch := omega) only [retR, resW, resV, List.getD_cons_succ, List.getD_cons_zero, asOne_one]; try simp (disch := omega) only [ty29, ne_eq, reduceCtorEq, not_false_eq_true, TI.isAgg, true_or, cQ, loadW_ptr, List.getD_cons_succ, List.getD_cons_zero, loadO_arr, List.length_cons, List.length_nil, Nat.zero_add, Nat.reduceLT, Nat.reduceAdd, Nat.reduceLeDiff, ofCells, List.drop_zero, List.take_succ_cons, List.take_zero, List.headD_cons, if_true, view_agg, views_cons, view_bool, view_sl, views_nil, and_self]

set_option maxHeartbeats 4000000 in
theorem f3sign_ok (r : RR) (hr : r.ok) : Pure Try.prog 10 [r.av] (· = .int .i64 (rs r.v)) := by
  have hn := f3norm_ok r hr
  have ho := v_ok hr
  obtain ⟨neg, n, d⟩ := r
  simp only [RR.av] at hn ⊢
  generalize RR.v _ = q at *
  have hs := f2sign_ok (decide (q.num < 0)) (limbs q.num.natAbs) (limbs_limbs _) (Nat.lt_trans ho.nl (by decide))
  rw [q_num] at hs
  change Pure _ _ _ (· = .int .i64 (rs q)) at hs
  simp only [cQ] at hn
  (refine pureW Try.func10 rfl (rs := [Go.ResultVar.tmp 2]) rfl (n := 7) rfl ?_; simp only [List.length_cons, List.length_nil, List.replicate, List.cons_append, List.nil_append])
  (repeat (refine W_seqV fun K hK => ?_; (try simp (disch := omega) only [regV_cons, effW_free, opF_box, dead, List.getElem?_cons_succ, List.getElem?_cons_zero, storable, ev_tmp, List.getD_cons_zero, List.all_cons, AV.one, List.all_nil, Bool.and_self, cellsOf, List.length_cons, List.length_nil, Nat.zero_add, Nat.reduceAdd, atK_ap, restV_ap, Eff.app, List.set, Eff.wi, Option.map_some, List.nil_append, opF_assign, ev_const, cst_int, Option.map_none, List.cons_append, regV_nil, sepL, List.not_mem_nil, false_implies, implies_true, true_and]); refine hK _ ?_; clear hK K))
  ((refine W_seqV fun K hK => ?_); simp (disch := omega) only [regV_cons, effW_free, opF_load, ty29, ne_eq, reduceCtorEq, not_false_eq_true, TI.isAgg, true_or, ev_tmp, List.getD_cons_succ, List.getD_cons_zero, objOf, loadW_ptr, loadO_arr, List.length_cons, List.length_nil, Nat.zero_add, Nat.reduceLT, Nat.reduceAdd, Nat.reduceLeDiff, ofCells, List.drop_zero, List.take_succ_cons, List.take_zero, List.headD_cons, if_true, valK_ap, atK_ap, restV_ap, Eff.app, List.set, Eff.wi, Option.map_none, List.nil_append, opF_call, ev_func, List.map_cons, List.map_nil, callF_fn, List.append_nil, List.cons_append, opF_field, true_and])
  (refine ⟨by kernel_rfl, rfl, _, hn, ?_⟩; (try simp (disch := omega) only [fieldW_agg, List.length_cons, List.length_nil, Nat.zero_add, Nat.reduceAdd, Nat.reduceLT, List.getD_cons_zero, ty27, ne_eq, reduceCtorEq, not_false_eq_true, TI.isAgg, true_or, Nat.reduceLeDiff, ofCells, List.drop_zero, List.take_succ_cons, List.take_zero, List.headD_cons, if_true, valK_ap, atK_ap, restV_ap, Eff.app, List.set, Eff.wi, Option.map_none, List.cons_append, List.nil_append, regV_cons, effW_free, opF_call, ev_func, List.map_cons, ev_tmp, List.getD_cons_succ, List.map_nil, callF_fn, List.append_nil, opF_assign, regV_nil, sepL, List.not_mem_nil, false_implies, implies_true, true_and]))
  (refine ⟨by kernel_rfl, rfl, _, hs, ?_⟩)
  (refine hK _ ?_; clear hK K)
  refine W_ret ?_
  simp (disch := omega) only [retR, resW, resV, List.getD_cons_succ, List.getD_cons_zero, asOne_one, view_int]

set_option maxHeartbeats 4000000 in
theorem f3cmp_ok (r t : RR) (hr : r.ok) (ht : t.ok) (hs : (qr (r.v - t.v)).ok) : Pure Try.prog 6 [r.av, t.av] (· = .int .i64 (rs (r.v - t.v))) := by
  have hd := f3sub_ok r t hr ht
  have hg := f3sign_ok (qr (r.v - t.v)) hs
  rw [qr_v] at hg
  obtain ⟨neg, n, d⟩ := r
  obtain ⟨neg', n', d'⟩ := t
  simp only [RR.av, qr] at hd hg ⊢
  simp only [cQ] at hd
  (refine pureW Try.func6 rfl (rs := [Go.ResultVar.tmp 4]) rfl (n := 9) rfl ?_; simp only [List.length_cons, List.length_nil, List.replicate, List.cons_append, List.nil_append])
  (repeat (refine W_seqV fun K hK => ?_; (try simp (disch := omega) only [regV_cons, effW_free, opF_box, dead, List.getElem?_cons_succ, List.getElem?_cons_zero, storable, ev_tmp, List.getD_cons_zero, List.all_cons, AV.one, List.all_nil, Bool.and_self, cellsOf, List.length_cons, List.length_nil, Nat.zero_add, Nat.reduceAdd, atK_ap, restV_ap, Eff.app, List.set, Eff.wi, Option.map_some, List.nil_append, List.getD_cons_succ, List.cons_append, opF_assign, ev_const, cst_int, Option.map_none, regV_nil, sepL, List.not_mem_nil, false_implies, implies_true, true_and]); refine hK _ ?_; clear hK K))
  ((refine W_seqV fun K hK => ?_); simp (disch := omega) only [regV_cons, effW_free, opF_load, ty29, ne_eq, reduceCtorEq, not_false_eq_true, TI.isAgg, true_or, ev_tmp, List.getD_cons_succ, List.getD_cons_zero, objOf, loadW_ptr, loadO_arr, List.length_cons, List.length_nil, Nat.zero_add, Nat.reduceLT, Nat.reduceAdd, Nat.reduceLeDiff, ofCells, List.drop_zero, List.take_succ_cons, List.take_zero, List.headD_cons, if_true, valK_ap, atK_ap, restV_ap, Eff.app, List.set, Eff.wi, Option.map_none, List.nil_append, List.cons_append, opF_call, ev_func, List.map_cons, List.map_nil, callF_fn, List.append_nil, opF_assign, regV_nil, sepL, List.not_mem_nil, false_implies, implies_true, true_and])
  (refine ⟨by kernel_rfl, rfl, _, hd, ?_⟩)
  (refine ⟨by kernel_rfl, rfl, _, hg, ?_⟩)
  (refine hK _ ?_; clear hK K)
  refine W_ret ?_
  simp (disch := omega) only [retR, resW, resV, List.getD_cons_succ, List.getD_cons_zero, asOne_one, view_int]

set_option maxHeartbeats 1000000 in
theorem f3whole_ok (n : Int) (h1 : -9223372036854775808 ≤ n) (h2 : n < 9223372036854775808) : Pure Try.prog 24 [.int .i64 n] (· = cQ n) := by
  have hw := f2of_ok n h1 h2
  have hm := f3norm_zd n 1 (by have : (limbs n.natAbs).length ≤ 2 := len_le (by omega); unfold zl; omega) (by rw [limbs_1]; simp)
  rw [show mkRat n 1 = (n : Rat) by rw [← Rat.mkRat_self (n : Rat)]; rfl, limbs_1] at hm
  (refine pureW Try.func24 rfl (rs := [Go.ResultVar.cell 2 29]) rfl (n := 8) rfl ?_; simp only [List.length_cons, List.length_nil, List.replicate, List.cons_append, List.nil_append])
  (repeat (refine W_seqV fun K hK => ?_; (try simp (disch := omega) only [regV_cons, effW_free, opF_alloc, dead, List.getElem?_cons_succ, List.getElem?_cons_zero, ty29, ne_eq, reduceCtorEq, not_false_eq_true, List.length_cons, List.length_nil, Nat.zero_add, Nat.reduceAdd, atK_ap, restV_ap, Eff.app, List.set, Eff.wi, Option.map_some, List.nil_append, regV_nil, sepL, List.not_mem_nil, false_implies, implies_true, true_and]); refine hK _ ?_; clear hK K))
  ((refine W_seqV fun K hK => ?_); simp (disch := omega) only [regV_cons, effW_free, opF_move, ev_tmp, List.getD_cons_zero, atK_ap, restV_ap, Eff.app, List.set, Eff.wi, Option.map_none, List.nil_append, opF_call, ev_func, List.map_cons, List.getD_cons_succ, List.map_nil, callF_fn, List.append_nil, List.cons_append, opF_buildSlice, ty25, ev_const, cst_int, litD_slice, dead, List.getElem?_cons_succ, List.getElem?_cons_zero, ty79, ne_eq, reduceCtorEq, not_false_eq_true, List.length_cons, List.length_nil, Nat.zero_add, range1, Nat.reduceMul, Nat.reduceLeDiff, storable, AV.one, cellsOf, List.forall_mem_cons, true_and, List.not_mem_nil, false_implies, implies_true, and_true, valK_ap, opF_build, ty29, buildW_struct, Nat.reduceAdd, Nat.reduceLT, ty27, and_self, laid, List.foldl_cons, List.take_zero, List.foldl_nil, opF_store, storeF_ptr, storeO_arr, Bool.false_eq_true, overlay, wrK_ap, Option.map_some, regV_nil, sepL])
  (refine ⟨by kernel_rfl, rfl, _, hw, ?_⟩; (try simp (disch := omega) only [cZ, cI, List.all_cons, AV.one, List.all_nil, Bool.and_self, List.length_cons, List.length_nil, Nat.zero_add, Nat.reduceAdd, Nat.reduceLeDiff, and_self, List.drop_succ_cons, List.drop_zero, List.cons_append, List.nil_append, List.take_succ_cons, List.take_zero, List.drop_nil, List.append_nil, true_and]); (repeat (refine And.intro (by show AV.pures _ = true; rfl) ?_)))
  (refine ⟨by kernel_rfl, rfl, _, hm, ?_⟩; (try simp (disch := omega) only [cQ, List.all_cons, AV.one, List.all_nil, Bool.and_self, List.length_cons, List.length_nil, Nat.zero_add, Nat.reduceAdd, List.drop_succ_cons, List.drop_nil, List.append_nil, true_and]))
  (refine hK _ ?_; clear hK K)
  refine W_ret ?_
  simp (disch := omega) only [retR, resW, resV, List.getD_cons_succ, List.getD_cons_zero, asOne_one]; try simp (disch := omega) only [ty29, ne_eq, reduceCtorEq, not_false_eq_true, TI.isAgg, true_or, cQ, loadW_ptr, List.getD_cons_succ, List.getD_cons_zero, loadO_arr, List.length_cons, List.length_nil, Nat.zero_add, Nat.reduceLT, Nat.reduceAdd, Nat.reduceLeDiff, ofCells, List.drop_zero, List.take_succ_cons, List.take_zero, List.headD_cons, if_true, view_agg, views_cons, view_bool, view_sl, views_nil, and_self]
end Go.Proofs.Ytjkjapjcmbfkgaa.Vm

/-
  Atoms' truth in the reference's words: the values of forms, what an atom says.
-/
namespace Go.Proofs.Ytjkjapjcmbfkgaa.Vm
open Go Go.RowKit
set_option linter.unusedVariables false
set_option linter.unusedSimpArgs false
set_option pp.deepTerms false
set_option pp.deepTerms.threshold 8

def rowR (r : RR) : List AV := [.bool r.neg, .sl (u32s r.num), .sl (u32s r.den)]
theorem rowR_all (f : List RR) : AllLen 3 (tab rowR f) := tab_all (k := 3) (fun _ => rfl) f
theorem rowR_one (f : List RR) : AllOne (tab rowR f) := tab_one (fun _ => rfl) f
theorem rowR_pure (f : List RR) : AllPure (tab rowR f) := tab_pure (fun _ => rfl) f
def rowS (s : ByteArray) : List AV := [.str s]
theorem rowS_all (f : List ByteArray) : AllLen 1 (tab rowS f) := tab_all (k := 1) (fun _ => rfl) f
theorem rowS_one (f : List ByteArray) : AllOne (tab rowS f) := tab_one (fun _ => rfl) f
theorem rowS_pure (f : List ByteArray) : AllPure (tab rowS f) := tab_pure (fun _ => rfl) f
instance : Inhabited ByteArray := ⟨ByteArray.empty⟩

theorem f6zero_ok : Pure Try.prog 12 [] (· = cQ 0) := by
  have h1 := f3whole_ok 0 (by omega) (by omega)
  change Pure _ _ _ (· = cQ 0) at h1
  generalize (0 : Rat) = q at *
  simp only [cQ] at h1
  (refine pureW Try.func12 rfl (rs := [Go.ResultVar.cell 0 29]) rfl (n := 2) rfl ?_; simp only [List.length_cons, List.length_nil, List.replicate, List.cons_append, List.nil_append])
  (repeat (refine W_seqV fun K hK => ?_; (try simp (disch := omega) only [regV_cons, effW_free, opF_alloc, dead, List.getElem?_cons_zero, ty29, ne_eq, reduceCtorEq, not_false_eq_true, List.length_cons, List.length_nil, Nat.zero_add, Nat.reduceAdd, atK_ap, restV_ap, Eff.app, List.set, Eff.wi, Option.map_some, List.nil_append, regV_nil, sepL, List.not_mem_nil, false_implies, implies_true, true_and]); refine hK _ ?_; clear hK K))
  ((refine W_seqV fun K hK => ?_); simp (disch := omega) only [regV_cons, effW_free, opF_call, ev_func, List.map_cons, ev_const, cst_int, List.map_nil, callF_fn, List.nil_append, List.append_nil, atK_ap, restV_ap, Eff.app, List.set, Eff.wi, Option.map_none, opF_store, ty29, ne_eq, reduceCtorEq, not_false_eq_true, ev_tmp, List.getD_cons_zero, List.getD_cons_succ, storeF_ptr, storeO_arr, storable, AV.one, cellsOf, Bool.false_eq_true, false_implies, List.length_cons, List.length_nil, Nat.zero_add, Nat.reduceLT, Nat.reduceAdd, Nat.reduceLeDiff, overlay, List.take_zero, wrK_ap, Option.map_some, List.cons_append, regV_nil, sepL, List.not_mem_nil, implies_true, true_and])
  (refine ⟨by kernel_rfl, rfl, _, h1, ?_⟩; (try simp (disch := omega) only [List.all_cons, AV.one, List.all_nil, Bool.and_self, List.length_cons, List.length_nil, Nat.zero_add, Nat.reduceAdd, List.drop_succ_cons, List.drop_nil, List.append_nil, true_and]))
  (refine hK _ ?_; clear hK K)
  refine W_ret ?_
  simp (disch := omega) only [retR, resW, resV, List.getD_cons_zero, asOne_one]; try simp (disch := omega) only [ty29, ne_eq, reduceCtorEq, not_false_eq_true, TI.isAgg, true_or, cQ, loadW_ptr, List.getD_cons_zero, loadO_arr, List.length_cons, List.length_nil, Nat.zero_add, Nat.reduceLT, Nat.reduceAdd, Nat.reduceLeDiff, ofCells, List.drop_zero, List.take_succ_cons, List.take_zero, List.headD_cons, if_true, view_agg, views_cons, view_bool, view_sl, views_nil, and_self]

theorem ev2_take (x : Int → Rat) (f : List (Int × Rat)) {i : Nat} (h : i < f.length) : ev2 x (f.take (i + 1)) = ev2 x (f.take i) + (f.getD i default).2 * x (f.getD i default).1 := by
  rw [List.take_succ_eq_append_getElem h, ev2_append]
  simp only [ev2]
  have : f.getD i default = f[i] := by simp [List.getD_eq_getElem?_getD, h]
  rw [this]
  grind
theorem nbs_take (f : List (Int × Rat)) (i : Nat) : nbs (f.take i) ≤ nbs f := by
  induction f generalizing i with
  | nil => simp
  | cons p f ih =>
    cases i with
    | zero => simp [nbs]
    | succ i => have := ih i; simp only [List.take_succ_cons, nbs]; omega

set_option maxRecDepth 20000 in
set_option maxHeartbeats 8000000 in
theorem f6value_ok (f : List (Int × RR)) (xs : List RR) (hf : FOk f 67108864) (hs : nbs (vals f) ≤ 67108864) (hx : ∀ x ∈ xs, x.ok) (hb : nbl (xs.map RR.v) ≤ 67108864) :
    Pure Try.prog 7 [cF f, .sl (tab rowR xs)] (· = cQ (ev2 (asg (xs.map RR.v)) (vals f))) := by
  have hz := f6zero_ok
  have hfl := hf.len
  have hvl : (vals f).length = f.length := by simp [vals]
  have hnv : ∀ i, nb (ev2 (asg (xs.map RR.v)) ((vals f).take i)) ≤ 201326593 := fun i => by
    have h1 := nb_value (xs.map RR.v) ((vals f).take i)
    have h2 := nbs_take (vals f) i
    omega
  have hst : ∀ i, i < f.length → ev2 (asg (xs.map RR.v)) ((vals f).take (i + 1)) = ev2 (asg (xs.map RR.v)) ((vals f).take i) + (f.getD i default).2.v * asg (xs.map RR.v) (f.getD i default).1 := fun i hi => by
    rw [ev2_take _ _ (by omega)]
    congr 2 <;> simp [vals, List.getD_eq_getElem?_getD, hi]
  have h0 : ev2 (asg (xs.map RR.v)) ((vals f).take 0) = 0 := rfl
  have hlast : (vals f).take f.length = vals f := List.take_of_length_le (by omega)
  have hok : ∀ i, i < f.length → (f.getD i default).2.ok ∧ nb (f.getD i default).2.v ≤ 67108864 := fun i hi => by
    have hm : f.getD i default ∈ f := by simp [List.getD_eq_getElem?_getD, hi]
    refine ⟨hf.ok _ hm, ?_⟩
    have := hf.sz.mem (List.mem_map_of_mem (f := fun p : Int × RR => (p.1, p.2.v)) hm)
    exact this
  have hasg : ∀ v : Int, 0 ≤ v → v < (xs.length : Int) → asg (xs.map RR.v) v = (xs.getD v.toNat default).v ∧ (xs.getD v.toNat default).ok := fun v h1 h2 => by
    have h3 : v.toNat < xs.length := by omega
    refine ⟨?_, hx _ (by simp [List.getD_eq_getElem?_getD, h3])⟩
    rw [asg, if_pos h1]
    simp [List.getD_eq_getElem?_getD, h3]
  have hasg0 : ∀ v : Int, ¬ (0 ≤ v ∧ v < (xs.length : Int)) → asg (xs.map RR.v) v = 0 := fun v h => by
    unfold asg
    split
    · rw [List.getD_eq_getElem?_getD, List.getElem?_eq_none (by rw [List.length_map]; omega)]; rfl
    · rfl
  have hna := fun v => nb_asg (xs.map RR.v) v
  generalize asg (xs.map RR.v) = A at *
  rw [← hlast]
  generalize hE : (fun i => ev2 A ((vals f).take i)) = E at *
  have hE' : ∀ i, ev2 A ((vals f).take i) = E i := fun i => congrFun hE i
  simp only [hE'] at *
  clear hE hE' hlast
  simp only [cQ] at hz
  (refine pureW Try.func7 rfl (rs := [Go.ResultVar.cell 4 29]) rfl (n := 47) rfl ?_; simp only [List.length_cons, List.length_nil, List.replicate, List.cons_append, List.nil_append])
  simp only [cF]
  (repeat (refine W_seqV fun K hK => ?_; (try simp (disch := omega) only [regV_cons, effW_free, opF_alloc, dead, List.getElem?_cons_succ, List.getElem?_cons_zero, ty29, ne_eq, reduceCtorEq, not_false_eq_true, List.length_cons, List.length_nil, Nat.zero_add, Nat.reduceAdd, atK_ap, restV_ap, Eff.app, List.set, Eff.wi, Option.map_some, List.nil_append, regV_nil, sepL, List.not_mem_nil, false_implies, implies_true, true_and]); refine hK _ ?_; clear hK K))
  ((refine W_seqV fun K hK => ?_); simp (disch := omega) only [regV_cons, effW_free, opF_call, ev_func, List.map_nil, callF_fn, List.append_nil, atK_ap, restV_ap, Eff.app, List.set, Eff.wi, Option.map_none, List.nil_append, opF_alloc, dead, List.getElem?_cons_succ, List.getElem?_cons_zero, ty29, ne_eq, reduceCtorEq, not_false_eq_true, List.length_cons, List.length_nil, Nat.zero_add, Nat.reduceAdd, Option.map_some, List.cons_append, opF_store, ev_tmp, List.getD_cons_succ, List.getD_cons_zero, storeF_ptr, storeO_arr, storable, AV.one, cellsOf, Bool.false_eq_true, false_implies, Nat.reduceLT, Nat.reduceLeDiff, overlay, List.take_zero, wrK_ap, regV_nil, sepL, List.not_mem_nil, implies_true, true_and])
  (refine ⟨by kernel_rfl, rfl, _, hz, ?_⟩; (try simp (disch := omega) only [List.all_cons, AV.one, List.all_nil, Bool.and_self, List.length_cons, List.length_nil, Nat.zero_add, Nat.reduceAdd, List.drop_succ_cons, List.drop_nil, List.append_nil, true_and]))
  (refine hK _ ?_; clear hK K)
  ((refine W_seq ?_; refine W_seqV fun K hK => ?_); simp (disch := omega) only [regV_cons, effW_free, opF_assign, ev_const, cst_int, atK_ap, restV_ap, Eff.app, List.set, Eff.wi, Option.map_none, List.nil_append, regV_nil, sepL, List.not_mem_nil, false_implies, implies_true, true_and])
  (refine hK _ ?_; clear hK K)
  refine W_block (W_loop (fun t : {t : Nat // t ≤ f.length} =>
      ⟨[.sl (tab rowM f), .sl (tab rowR xs), .any, .any, .ptr 4 0 0, .ptr 5 0 0, .int .i64 t.1, .any, .any, .any, .any, .any, .any, .any, .any, .any, .any, .any, .any, .any, .any, .any, .any, .any, .any, .any, .any, .any, .any, .any, .any, .any, .any, .any, .any, .any, .any, .any, .any, .any, .any, .any, .any, .any, .any, .any, .any], [.dead, .dead, .dead, .dead, .arr 29 3 false [[.bool false, .nils, .nils]], .arr 29 3 false [[.bool (decide ((E t.1).num < 0)), .sl (u32s (limbs (E t.1).num.natAbs)), .sl (u32s (limbs (E t.1).den))]], .dead, .dead, .dead, .dead, .dead, .dead, .dead, .dead, .dead, .dead, .dead, .dead, .dead, .dead, .dead, .dead, .dead, .dead, .dead, .dead, .dead, .dead, .dead, .dead, .dead, .dead, .dead, .dead, .dead, .dead, .dead, .dead, .dead, .dead, .dead, .dead, .dead, .dead, .dead, .dead, .dead]⟩) (fun t => f.length - t.1)
      ⟨0, by omega⟩ (Le_of (by simp [leE]) (by simp [h0])) fun t => ?_)
  obtain ⟨i, hi⟩ := t
  dsimp only
  by_cases hlt : i < f.length
  · have hXi : (tab rowM f).getD i [] = rowM (f.getD i default) := tab_getD hlt
    have hsi := hst i hlt
    obtain ⟨hp1, hp2⟩ := hok i hlt
    have hni := hnv i
    generalize f.getD i default = p at *
    simp only [rowM] at hXi
    refine W_seq ?_
    ((refine W_seqV fun K hK => ?_); simp (disch := omega) only [regV_cons, effW_free, opF_move, ev_tmp, List.getD_cons_succ, List.getD_cons_zero, atK_ap, restV_ap, Eff.app, List.set, Eff.wi, Option.map_none, List.nil_append, List.cons_append, opF_len, ty23, lenW_sl, tab_length, valK_ap, opF_binOp, ty3, binW_lss, nat_lt_int, hlt, decide_true, regV_nil, sepL, List.not_mem_nil, false_implies, implies_true, true_and])
    (refine hK _ ?_; clear hK K)
    (first | refine W_cond rfl (fun _ => ?_) (fun h => by cases h) | refine W_seq (W_cond rfl (fun _ => ?_) (fun h => by cases h)))
    refine W_skip ?_
    simp only [thenW]
    refine W_seq ?_
    refine W_block ?_
    by_cases hv0 : 0 ≤ p.1
    · by_cases hv1 : p.1 < (xs.length : Int)
      · obtain ⟨ha1, ha2⟩ := hasg _ hv0 hv1
        have hnp := hna p.1
        rw [ha1] at hsi hnp
        have hYi : (tab rowR xs).getD p.1.toNat [] = rowR (xs.getD p.1.toNat default) := tab_getD (by omega)
        generalize xs.getD p.1.toNat default = y at *
        have hmul := f3mul_ok p.2 y hp1 ha2
        have hadd := f3add_ok (qr (E i)) (qr (p.2.v * y.v)) (qr_ok (by omega)) (qr_ok (by have := nb_mul p.2.v y.v; omega))
        rw [qr_v, qr_v, ← hsi] at hadd
        generalize p.2.v * y.v = m at *
        simp only [rowR] at hYi
        simp only [RR.av, qr, cQ] at hmul hadd
        ((refine W_seqV fun K hK => ?_); simp (disch := omega) only [regV_cons, effW_free, opF_move, ev_tmp, List.getD_cons_zero, atK_ap, restV_ap, Eff.app, List.set, Eff.wi, Option.map_none, List.nil_append, List.getD_cons_succ, List.cons_append, opF_indexAddr, ty23, objOf, indexAddrW_sl, ty53, ne_eq, reduceCtorEq, not_false_eq_true, nat_nonneg, tab_length, nat_lt_int, hlt, rowM_all, toNat_natCast, hXi, valK_ap, opF_fieldAddr, fieldAddrW_ia, List.length_cons, List.length_nil, Nat.zero_add, Nat.reduceAdd, Nat.reduceLT, ty3, Nat.add_zero, opF_load, TI.isAgg, Bool.false_eq_true, or_true, loadW_ia, Nat.reduceLeDiff, ofCells, List.drop_zero, List.take_succ_cons, List.take_zero, List.headD_cons, if_false, opF_binOp, ev_const, cst_int, binW_geq, ge_iff_le, hv0, decide_true, effW_guard, guardOf, List.getElem?_toArray, List.getElem?_cons_succ, List.getElem?_cons_zero, Option.bind_some, effH_tt, opF_len, ty32, lenW_sl, binW_lss, hv1, opF_pick, cst_bool, pickW_bool, cond_true, regV_nil, sepL, List.not_mem_nil, false_implies, implies_true, true_and])
        (refine hK _ ?_; clear hK K)
        (first | refine W_cond rfl (fun _ => ?_) (fun h => by cases h) | refine W_seq (W_cond rfl (fun _ => ?_) (fun h => by cases h)))
        ((refine W_regS mixed 16 [] (by kernel_rfl) fun K hK => ?_); simp (disch := omega) only [List.take_succ_cons, List.take_zero, List.drop_succ_cons, List.drop_zero, regV_cons, effW_free, opF_load, ty29, ne_eq, reduceCtorEq, not_false_eq_true, TI.isAgg, true_or, ev_tmp, List.getD_cons_succ, List.getD_cons_zero, objOf, loadW_ptr, loadO_arr, List.length_cons, List.length_nil, Nat.zero_add, Nat.reduceLT, Nat.reduceAdd, Nat.reduceLeDiff, ofCells, List.headD_cons, if_true, valK_ap, atK_ap, restV_ap, Eff.app, List.set, Eff.wi, Option.map_none, List.nil_append, opF_move, List.cons_append, opF_indexAddr, ty23, indexAddrW_sl, ty53, nat_nonneg, tab_length, nat_lt_int, hlt, rowM_all, toNat_natCast, hXi, opF_fieldAddr, fieldAddrW_ia, loadW_ia, ty3, Nat.add_zero, Bool.false_eq_true, or_true, if_false, ty32, hv0, hv1, rowR_all, hYi, opF_call, ev_func, List.map_cons, List.map_nil, callF_fn, List.append_nil, regV_nil, sepL, List.not_mem_nil, false_implies, implies_true, thenO_ap, opsW_free, opW_store, storeW_ptr, storeO_arr, storable, AV.one, cellsOf, overlay, sethK_ap, St.seth, restO_ap, opsW_nil, true_and])
        (refine ⟨by kernel_rfl, rfl, _, hmul, ?_⟩)
        (refine ⟨by kernel_rfl, rfl, _, hadd, ?_⟩; (try simp (disch := omega) only [List.all_cons, AV.one, List.all_nil, Bool.and_self, List.length_cons, List.length_nil, Nat.zero_add, Nat.reduceAdd, List.drop_succ_cons, List.drop_nil, List.append_nil, true_and]))
        (refine hK _ ?_; clear hK K)
        simp only [blockW, thenW]
        ((refine W_regV fun K hK => ?_); simp (disch := omega) only [regV_cons, effW_free, opF_move, ev_tmp, List.getD_cons_succ, List.getD_cons_zero, atK_ap, restV_ap, Eff.app, List.set, Eff.wi, Option.map_none, List.nil_append, opF_binOp, ty3, ev_const, cst_int, binW_add, wrap_i64_one, valK_ap, List.cons_append, opF_assign, regV_nil, sepL, List.not_mem_nil, false_implies, implies_true, true_and])
        (refine hK _ ?_; clear hK K)
        simp only [blockW, thenW]
        refine ⟨⟨i + 1, by omega⟩, Le_drop (by simp [leE]) (by simp [leH]) rfl rfl, ?_⟩
        dsimp only
        omega
      · rw [hasg0 _ (fun h => hv1 h.2), Rat.mul_zero, Rat.add_zero] at hsi
        ((refine W_seqV fun K hK => ?_); simp (disch := omega) only [regV_cons, effW_free, opF_move, ev_tmp, List.getD_cons_zero, atK_ap, restV_ap, Eff.app, List.set, Eff.wi, Option.map_none, List.nil_append, List.getD_cons_succ, List.cons_append, opF_indexAddr, ty23, objOf, indexAddrW_sl, ty53, ne_eq, reduceCtorEq, not_false_eq_true, nat_nonneg, tab_length, nat_lt_int, hlt, rowM_all, toNat_natCast, hXi, valK_ap, opF_fieldAddr, fieldAddrW_ia, List.length_cons, List.length_nil, Nat.zero_add, Nat.reduceAdd, Nat.reduceLT, ty3, Nat.add_zero, opF_load, TI.isAgg, Bool.false_eq_true, or_true, loadW_ia, Nat.reduceLeDiff, ofCells, List.drop_zero, List.take_succ_cons, List.take_zero, List.headD_cons, if_false, opF_binOp, ev_const, cst_int, binW_geq, ge_iff_le, hv0, decide_true, effW_guard, guardOf, List.getElem?_toArray, List.getElem?_cons_succ, List.getElem?_cons_zero, Option.bind_some, effH_tt, opF_len, ty32, lenW_sl, binW_lss, hv1, decide_false, opF_pick, cst_bool, pickW_bool, cond_true, regV_nil, sepL, List.not_mem_nil, false_implies, implies_true, true_and])
        (refine hK _ ?_; clear hK K)
        (first | refine W_cond rfl (fun h => by cases h) (fun _ => ?_) | refine W_seq (W_cond rfl (fun h => by cases h) (fun _ => ?_)))
        refine W_skip ?_
        simp only [blockW, thenW]
        ((refine W_regV fun K hK => ?_); simp (disch := omega) only [regV_cons, effW_free, opF_move, ev_tmp, List.getD_cons_succ, List.getD_cons_zero, atK_ap, restV_ap, Eff.app, List.set, Eff.wi, Option.map_none, List.nil_append, opF_binOp, ty3, ev_const, cst_int, binW_add, wrap_i64_one, valK_ap, List.cons_append, opF_assign, regV_nil, sepL, List.not_mem_nil, false_implies, implies_true, true_and])
        (refine hK _ ?_; clear hK K)
        simp only [blockW, thenW]
        refine ⟨⟨i + 1, by omega⟩, Le_drop (by simp [leE]) (by simp [leH, hsi]) rfl rfl, ?_⟩
        dsimp only
        omega
    · rw [hasg0 _ (fun h => hv0 h.1), Rat.mul_zero, Rat.add_zero] at hsi
      ((refine W_seqV fun K hK => ?_); simp (disch := omega) only [regV_cons, effW_free, opF_move, ev_tmp, List.getD_cons_zero, atK_ap, restV_ap, Eff.app, List.set, Eff.wi, Option.map_none, List.nil_append, List.getD_cons_succ, List.cons_append, opF_indexAddr, ty23, objOf, indexAddrW_sl, ty53, ne_eq, reduceCtorEq, not_false_eq_true, nat_nonneg, tab_length, nat_lt_int, hlt, rowM_all, toNat_natCast, hXi, valK_ap, opF_fieldAddr, fieldAddrW_ia, List.length_cons, List.length_nil, Nat.zero_add, Nat.reduceAdd, Nat.reduceLT, ty3, Nat.add_zero, opF_load, TI.isAgg, Bool.false_eq_true, or_true, loadW_ia, Nat.reduceLeDiff, ofCells, List.drop_zero, List.take_succ_cons, List.take_zero, List.headD_cons, if_false, opF_binOp, ev_const, cst_int, binW_geq, ge_iff_le, hv0, decide_false, effW_guard, guardOf, List.getElem?_toArray, List.getElem?_cons_succ, List.getElem?_cons_zero, Option.bind_some, effH_tf, opF_pick, cst_bool, pickW_no, regV_nil, sepL, List.not_mem_nil, false_implies, implies_true, true_and])
      (refine hK _ ?_; clear hK K)
      (first | refine W_cond rfl (fun h => by cases h) (fun _ => ?_) | refine W_seq (W_cond rfl (fun h => by cases h) (fun _ => ?_)))
      refine W_skip ?_
      simp only [blockW, thenW]
      ((refine W_regV fun K hK => ?_); simp (disch := omega) only [regV_cons, effW_free, opF_move, ev_tmp, List.getD_cons_succ, List.getD_cons_zero, atK_ap, restV_ap, Eff.app, List.set, Eff.wi, Option.map_none, List.nil_append, opF_binOp, ty3, ev_const, cst_int, binW_add, wrap_i64_one, valK_ap, List.cons_append, opF_assign, regV_nil, sepL, List.not_mem_nil, false_implies, implies_true, true_and])
      (refine hK _ ?_; clear hK K)
      simp only [blockW, thenW]
      refine ⟨⟨i + 1, by omega⟩, Le_drop (by simp [leE]) (by simp [leH, hsi]) rfl rfl, ?_⟩
      dsimp only
      omega
  · obtain rfl : i = f.length := by omega
    refine W_seq ?_
    ((refine W_seqV fun K hK => ?_); simp (disch := omega) only [regV_cons, effW_free, opF_move, ev_tmp, List.getD_cons_succ, List.getD_cons_zero, atK_ap, restV_ap, Eff.app, List.set, Eff.wi, Option.map_none, List.nil_append, List.cons_append, opF_len, ty23, lenW_sl, tab_length, valK_ap, opF_binOp, ty3, binW_lss, Int.lt_irrefl, decide_false, regV_nil, sepL, List.not_mem_nil, false_implies, implies_true, true_and])
    (refine hK _ ?_; clear hK K)
    (first | refine W_cond rfl (fun h => by cases h) (fun _ => ?_) | refine W_seq (W_cond rfl (fun h => by cases h) (fun _ => ?_)))
    refine W_exit ?_
    simp only [thenW, blockW, if_true]
    ((refine W_seqV fun K hK => ?_); simp (disch := omega) only [regV_cons, effW_free, opF_load, ty29, ne_eq, reduceCtorEq, not_false_eq_true, TI.isAgg, true_or, ev_tmp, List.getD_cons_succ, List.getD_cons_zero, objOf, loadW_ptr, loadO_arr, List.length_cons, List.length_nil, Nat.zero_add, Nat.reduceLT, Nat.reduceAdd, Nat.reduceLeDiff, ofCells, List.drop_zero, List.take_succ_cons, List.take_zero, List.headD_cons, if_true, valK_ap, atK_ap, restV_ap, Eff.app, List.set, Eff.wi, Option.map_none, List.nil_append, opF_store, storeF_ptr, storeO_arr, storable, List.all_cons, AV.one, List.all_nil, Bool.and_self, cellsOf, Bool.false_eq_true, false_implies, overlay, List.drop_succ_cons, List.drop_nil, List.append_nil, wrK_ap, Option.map_some, List.cons_append, regV_nil, sepL, List.not_mem_nil, implies_true, true_and])
    (refine hK _ ?_; clear hK K)
    refine W_ret ?_
    simp (disch := omega) only [retR, resW, resV, List.getD_cons_succ, List.getD_cons_zero, asOne_one]; try simp (disch := omega) only [ty29, ne_eq, reduceCtorEq, not_false_eq_true, TI.isAgg, true_or, cQ, loadW_ptr, List.getD_cons_succ, List.getD_cons_zero, loadO_arr, List.length_cons, List.length_nil, Nat.zero_add, Nat.reduceLT, Nat.reduceAdd, Nat.reduceLeDiff, ofCells, List.drop_zero, List.take_succ_cons, List.take_zero, List.headD_cons, if_true, view_agg, views_cons, view_bool, view_sl, views_nil, and_self]

/-- A list's names, one by one. -/
theorem inN_take {names : List ByteArray} {n : ByteArray} {i : Nat} (h : i < names.length) : inN (names.take (i + 1)) n = (inN (names.take i) n || ((names.getD i default).toList == n.toList)) := by
  unfold inN
  rw [List.take_succ_eq_append_getElem h, List.any_append]
  simp [List.getD_eq_getElem?_getD, h]
theorem inN_all {names : List ByteArray} {n : ByteArray} {i : Nat} (h : i < names.length) (hm : ((names.getD i default).toList == n.toList) = true) : inN names n = true := by
  unfold inN
  rw [List.any_eq_true]
  exact ⟨_, by simp [List.getD_eq_getElem?_getD, h], hm⟩

set_option maxRecDepth 20000 in
set_option maxHeartbeats 8000000 in
theorem f10true_ok (a : At) (xs : List RR) (names : List ByteArray) (ha : AtOk a) (hx : ∀ x ∈ xs, x.ok) (hb : nbl (xs.map RR.v) ≤ 67108864) (hnl : names.length ≤ 67108864) :
    Pure Try.prog 4 [.agg a.cells, .sl (tab rowR xs), .sl (tab rowS names)] (· = .bool (truth a (xs.map RR.v) names)) := by
  have hval := f6value_ok a.form xs ha.form ha.nbs hx hb
  have hnv : nb (ev2 (asg (xs.map RR.v)) (vals a.form)) ≤ 201326593 := by
    have h1 := nb_value (xs.map RR.v) (vals a.form)
    have := ha.nbs
    omega
  unfold truth
  generalize ev2 (asg (xs.map RR.v)) (vals a.form) = e at *
  have hcmp := f3cmp_ok (qr e) a.bound (qr_ok (by omega)) ha.bound (by
    rw [qr_v]
    refine qr_ok ?_
    have h1 := nb_sub e a.bound.v
    have h2 := ha.nb
    omega)
  rw [qr_v] at hcmp
  have hsg := sg_rs (e - a.bound.v)
  generalize rs (e - a.bound.v) = d at *
  have hns := named_size a.name
  clear ha
  obtain ⟨name, form, bound, strict⟩ := a
  unfold At.cells
  dsimp only at *
  simp only [RR.av, qr, cQ, cF] at hcmp hval
  generalize hnm : named name = nm at *
  cases nm
  · simp only [Bool.false_eq_true, if_false]
    (refine pureW Try.func4 rfl (rs := [Go.ResultVar.tmp 6]) rfl (n := 44) rfl ?_; simp only [List.length_cons, List.length_nil, List.replicate, List.cons_append, List.nil_append])
    (repeat (refine W_seqV fun K hK => ?_; (try simp (disch := omega) only [regV_cons, effW_free, opF_box, dead, List.getElem?_cons_succ, List.getElem?_cons_zero, storable, ev_tmp, List.getD_cons_zero, List.all_cons, AV.one, List.all_nil, Bool.and_self, cellsOf, List.length_cons, List.length_nil, Nat.zero_add, Nat.reduceAdd, atK_ap, restV_ap, Eff.app, List.set, Eff.wi, Option.map_some, List.nil_append, opF_assign, ev_const, cst_bool, Option.map_none, List.cons_append, regV_nil, sepL, List.not_mem_nil, false_implies, implies_true, true_and]); refine hK _ ?_; clear hK K))
    refine W_seq ?_
    ((refine W_seqV fun K hK => ?_); simp (disch := omega) only [regV_cons, effW_free, opF_fieldAddr, ty31, ev_tmp, List.getD_cons_succ, List.getD_cons_zero, fieldAddrW_ptr, List.length_cons, List.length_nil, Nat.zero_add, Nat.reduceAdd, Nat.reduceLT, ty9, ne_eq, reduceCtorEq, not_false_eq_true, Nat.add_zero, valK_ap, atK_ap, restV_ap, Eff.app, List.set, Eff.wi, Option.map_none, List.nil_append, opF_load, TI.isAgg, Bool.false_eq_true, or_true, objOf, loadW_ptr, loadO_arr, Nat.reduceLeDiff, ofCells, List.drop_zero, List.take_succ_cons, List.take_zero, List.headD_cons, if_false, List.cons_append, opF_len, lenW_str, opF_binOp, ty3, ev_const, cst_int, binW_gtr, gt_iff_lt, Int.natCast_pos, hns, regV_nil, sepL, List.not_mem_nil, false_implies, implies_true, true_and])
    (refine hK _ ?_; clear hK K)
    (first | refine W_cond rfl (fun h => by cases h) (fun _ => ?_) | refine W_seq (W_cond rfl (fun h => by cases h) (fun _ => ?_)))
    refine W_skip ?_
    simp only [thenW]
    ((refine W_seqD mixed [] (by kernel_rfl) fun K hK => ?_); simp (disch := omega) only [regV_cons, effW_free, opF_fieldAddr, ty31, ev_tmp, List.getD_cons_succ, List.getD_cons_zero, fieldAddrW_ptr, List.length_cons, List.length_nil, Nat.zero_add, Nat.reduceAdd, Nat.reduceLT, ty23, ne_eq, reduceCtorEq, not_false_eq_true, valK_ap, atK_ap, restV_ap, Eff.app, List.set, Eff.wi, Option.map_none, List.nil_append, opF_load, TI.isAgg, Bool.false_eq_true, or_true, objOf, loadW_ptr, loadO_arr, Nat.reduceLeDiff, ofCells, List.drop_succ_cons, List.drop_zero, List.take_succ_cons, List.take_zero, List.headD_cons, if_false, List.cons_append, opF_move, opF_call, ev_func, List.map_cons, List.map_nil, callF_fn, List.append_nil, ty29, true_or, if_true, opF_assign, regV_nil, sepL, List.not_mem_nil, false_implies, implies_true, true_and])
    (refine ⟨by kernel_rfl, rfl, _, hval, ?_⟩)
    (refine ⟨by kernel_rfl, rfl, _, hcmp, ?_⟩)
    (refine hK _ ?_; clear hK K)
    clear hval hcmp
    have z1 : ((-1 : Int) == 0) = false := rfl
    have z2 : ((0 : Int) == 0) = true := rfl
    have z3 : ((1 : Int) == 0) = false := rfl
    rcases hsg with rfl | rfl | rfl
    all_goals
      ((refine W_seqV fun K hK => ?_); simp (disch := omega) only [Int.reduceNeg, regV_cons, effW_free, opF_move, ev_tmp, List.getD_cons_succ, List.getD_cons_zero, atK_ap, restV_ap, Eff.app, List.set, Eff.wi, Option.map_none, List.nil_append, opF_binOp, ty3, ev_const, cst_int, binW_lss, Int.reduceLT, decide_true, valK_ap, List.cons_append, effW_guard, guardOf, List.getElem?_toArray, List.getElem?_cons_succ, List.getElem?_cons_zero, Option.bind_some, effH_ft, effH_und, opF_pick, cst_bool, pickW_yes, opF_assign, regV_nil, sepL, List.not_mem_nil, false_implies, implies_true, true_and, Int.lt_irrefl, decide_false, effH_ff, binW_eql, z2, effH_tt, opF_fieldAddr, ty31, fieldAddrW_ptr, List.length_cons, List.length_nil, Nat.zero_add, Nat.reduceAdd, Nat.reduceLT, ty4, ne_eq, reduceCtorEq, not_false_eq_true, opF_load, TI.isAgg, Bool.false_eq_true, or_true, objOf, loadW_ptr, loadO_arr, Nat.reduceLeDiff, ofCells, List.drop_succ_cons, List.drop_zero, List.take_succ_cons, List.take_zero, List.headD_cons, if_false, opF_unOp, unW_not, pickW_bool, cond_true, cond_false, z3, effH_tf, pickW_no])
      (refine hK _ ?_; clear hK K)
      refine W_ret ?_
      simp (disch := omega) only [retR, resW, resV, List.getD_cons_succ, List.getD_cons_zero, asOne_one, view_bool]
    all_goals simp
  · simp only [if_true]
    (refine pureW Try.func4 rfl (rs := [Go.ResultVar.tmp 6]) rfl (n := 44) rfl ?_; simp only [List.length_cons, List.length_nil, List.replicate, List.cons_append, List.nil_append])
    (repeat (refine W_seqV fun K hK => ?_; (try simp (disch := omega) only [regV_cons, effW_free, opF_box, dead, List.getElem?_cons_succ, List.getElem?_cons_zero, storable, ev_tmp, List.getD_cons_zero, List.all_cons, AV.one, List.all_nil, Bool.and_self, cellsOf, List.length_cons, List.length_nil, Nat.zero_add, Nat.reduceAdd, atK_ap, restV_ap, Eff.app, List.set, Eff.wi, Option.map_some, List.nil_append, opF_assign, ev_const, cst_bool, Option.map_none, List.cons_append, regV_nil, sepL, List.not_mem_nil, false_implies, implies_true, true_and]); refine hK _ ?_; clear hK K))
    refine W_seq ?_
    ((refine W_seqV fun K hK => ?_); simp (disch := omega) only [regV_cons, effW_free, opF_fieldAddr, ty31, ev_tmp, List.getD_cons_succ, List.getD_cons_zero, fieldAddrW_ptr, List.length_cons, List.length_nil, Nat.zero_add, Nat.reduceAdd, Nat.reduceLT, ty9, ne_eq, reduceCtorEq, not_false_eq_true, Nat.add_zero, valK_ap, atK_ap, restV_ap, Eff.app, List.set, Eff.wi, Option.map_none, List.nil_append, opF_load, TI.isAgg, Bool.false_eq_true, or_true, objOf, loadW_ptr, loadO_arr, Nat.reduceLeDiff, ofCells, List.drop_zero, List.take_succ_cons, List.take_zero, List.headD_cons, if_false, List.cons_append, opF_len, lenW_str, opF_binOp, ty3, ev_const, cst_int, binW_gtr, gt_iff_lt, Int.natCast_pos, hns, regV_nil, sepL, List.not_mem_nil, false_implies, implies_true, true_and])
    (refine hK _ ?_; clear hK K)
    (first | refine W_cond rfl (fun _ => ?_) (fun h => by cases h) | refine W_seq (W_cond rfl (fun _ => ?_) (fun h => by cases h)))
    ((refine W_seq ?_; refine W_seqV fun K hK => ?_); simp (disch := omega) only [regV_cons, effW_free, opF_assign, ev_const, cst_int, atK_ap, restV_ap, Eff.app, List.set, Eff.wi, Option.map_none, List.nil_append, regV_nil, sepL, List.not_mem_nil, false_implies, implies_true, true_and])
    (refine hK _ ?_; clear hK K)
    refine W_block (W_loop (fun t : {t : Nat // t ≤ names.length ∧ inN (names.take t) name = false} =>
      ⟨[.any, .sl (tab rowR xs), .sl (tab rowS names), .ptr 3 0 0, .any, .any, .any, .int .i64 t.1, .any, .any, .any, .any, .any, .any, .any, .any, .any, .any, .any, .any, .any, .any, .any, .any, .any, .any, .any, .any, .any, .any, .any, .any, .any, .any, .any, .any, .any, .any, .any, .any, .any, .any, .any, .any], [.dead, .dead, .dead, .arr 31 6 false [[.str name, .sl (tab rowM form), .bool bound.neg, .sl (u32s bound.num), .sl (u32s bound.den), .bool strict]], .dead, .dead, .dead, .dead, .dead, .dead, .dead, .dead, .dead, .dead, .dead, .dead, .dead, .dead, .dead, .dead, .dead, .dead, .dead, .dead, .dead, .dead, .dead, .dead, .dead, .dead, .dead, .dead, .dead, .dead, .dead, .dead, .dead, .dead, .dead, .dead, .dead, .dead, .dead, .dead]⟩) (fun t => names.length - t.1)
      ⟨0, by omega, rfl⟩ (Le_of (by simp [leE]) (by simp)) fun t => ?_)
    obtain ⟨i, hi, hin⟩ := t
    dsimp only
    by_cases hlt : i < names.length
    · have hXi : (tab rowS names).getD i [] = rowS (names.getD i default) := tab_getD hlt
      have hsu := inN_take (n := name) hlt
      have hal := inN_all (n := name) hlt
      generalize names.getD i default = m at *
      simp only [rowS] at hXi
      refine W_seq ?_
      ((refine W_seqV fun K hK => ?_); simp (disch := omega) only [regV_cons, effW_free, opF_move, ev_tmp, List.getD_cons_succ, List.getD_cons_zero, atK_ap, restV_ap, Eff.app, List.set, Eff.wi, Option.map_none, List.nil_append, List.cons_append, opF_len, ty33, lenW_sl, tab_length, valK_ap, opF_binOp, ty3, binW_lss, nat_lt_int, hlt, decide_true, regV_nil, sepL, List.not_mem_nil, false_implies, implies_true, true_and])
      (refine hK _ ?_; clear hK K)
      (first | refine W_cond rfl (fun _ => ?_) (fun h => by cases h) | refine W_seq (W_cond rfl (fun _ => ?_) (fun h => by cases h)))
      refine W_skip ?_
      simp only [thenW]
      refine W_seq ?_
      refine W_block ?_
      generalize hq : (m.toList == name.toList) = q at *
      cases q
      · rw [hin] at hsu
        ((refine W_seqD mixed [] (by kernel_rfl) fun K hK => ?_); simp (disch := omega) only [regV_cons, effW_free, opF_move, ev_tmp, List.getD_cons_succ, List.getD_cons_zero, atK_ap, restV_ap, Eff.app, List.set, Eff.wi, Option.map_none, List.nil_append, List.cons_append, opF_indexAddr, ty33, objOf, indexAddrW_sl, ty9, ne_eq, reduceCtorEq, not_false_eq_true, nat_nonneg, tab_length, nat_lt_int, hlt, rowS_all, toNat_natCast, hXi, valK_ap, opF_load, TI.isAgg, Bool.false_eq_true, or_true, loadW_ia, Nat.zero_add, List.length_cons, List.length_nil, Nat.reduceLeDiff, ofCells, List.drop_zero, List.take_succ_cons, List.take_zero, List.headD_cons, if_false, opF_fieldAddr, ty31, fieldAddrW_ptr, Nat.reduceAdd, Nat.reduceLT, Nat.add_zero, loadW_ptr, loadO_arr, opF_binOp, binW_seql, hq, regV_nil, sepL, List.not_mem_nil, false_implies, implies_true, true_and])
        (refine hK _ ?_; clear hK K)
        (first | refine W_cond rfl (fun h => by cases h) (fun _ => ?_) | refine W_seq (W_cond rfl (fun h => by cases h) (fun _ => ?_)))
        refine W_skip ?_
        simp only [blockW, thenW]
        ((refine W_regV fun K hK => ?_); simp (disch := omega) only [regV_cons, effW_free, opF_move, ev_tmp, List.getD_cons_succ, List.getD_cons_zero, atK_ap, restV_ap, Eff.app, List.set, Eff.wi, Option.map_none, List.nil_append, opF_binOp, ty3, ev_const, cst_int, binW_add, wrap_i64_one, valK_ap, List.cons_append, opF_assign, regV_nil, sepL, List.not_mem_nil, false_implies, implies_true, true_and])
        (refine hK _ ?_; clear hK K)
        simp only [blockW, thenW]
        refine ⟨⟨i + 1, by omega, hsu⟩, Le_drop (by simp [leE]) (by simp [leH]) rfl rfl, ?_⟩
        dsimp only
        omega
      · rw [hal rfl]
        ((refine W_seqD mixed [] (by kernel_rfl) fun K hK => ?_); simp (disch := omega) only [regV_cons, effW_free, opF_move, ev_tmp, List.getD_cons_succ, List.getD_cons_zero, atK_ap, restV_ap, Eff.app, List.set, Eff.wi, Option.map_none, List.nil_append, List.cons_append, opF_indexAddr, ty33, objOf, indexAddrW_sl, ty9, ne_eq, reduceCtorEq, not_false_eq_true, nat_nonneg, tab_length, nat_lt_int, hlt, rowS_all, toNat_natCast, hXi, valK_ap, opF_load, TI.isAgg, Bool.false_eq_true, or_true, loadW_ia, Nat.zero_add, List.length_cons, List.length_nil, Nat.reduceLeDiff, ofCells, List.drop_zero, List.take_succ_cons, List.take_zero, List.headD_cons, if_false, opF_fieldAddr, ty31, fieldAddrW_ptr, Nat.reduceAdd, Nat.reduceLT, Nat.add_zero, loadW_ptr, loadO_arr, opF_binOp, binW_seql, hq, regV_nil, sepL, List.not_mem_nil, false_implies, implies_true, true_and])
        (refine hK _ ?_; clear hK K)
        (first | refine W_cond rfl (fun _ => ?_) (fun h => by cases h) | refine W_seq (W_cond rfl (fun _ => ?_) (fun h => by cases h)))
        ((refine W_seqV fun K hK => ?_); simp (disch := omega) only [regV_cons, effW_free, opF_assign, ev_const, cst_bool, atK_ap, restV_ap, Eff.app, List.set, Eff.wi, Option.map_none, List.nil_append, regV_nil, sepL, List.not_mem_nil, false_implies, implies_true, true_and])
        (refine hK _ ?_; clear hK K)
        refine W_ret ?_
        simp (disch := omega) only [blockW, thenW, retR, resW, resV, List.getD_cons_succ, List.getD_cons_zero, asOne_one, view_bool]
    · obtain rfl : i = names.length := by omega
      rw [List.take_length] at hin
      rw [hin]
      refine W_seq ?_
      ((refine W_seqV fun K hK => ?_); simp (disch := omega) only [regV_cons, effW_free, opF_move, ev_tmp, List.getD_cons_succ, List.getD_cons_zero, atK_ap, restV_ap, Eff.app, List.set, Eff.wi, Option.map_none, List.nil_append, List.cons_append, opF_len, ty33, lenW_sl, tab_length, valK_ap, opF_binOp, ty3, binW_lss, Int.lt_irrefl, decide_false, regV_nil, sepL, List.not_mem_nil, false_implies, implies_true, true_and])
      (refine hK _ ?_; clear hK K)
      (first | refine W_cond rfl (fun h => by cases h) (fun _ => ?_) | refine W_seq (W_cond rfl (fun h => by cases h) (fun _ => ?_)))
      refine W_exit ?_
      simp only [thenW, blockW, if_true]
      ((refine W_seqV fun K hK => ?_); simp (disch := omega) only [regV_cons, effW_free, opF_assign, ev_const, cst_bool, atK_ap, restV_ap, Eff.app, List.set, Eff.wi, Option.map_none, List.nil_append, regV_nil, sepL, List.not_mem_nil, false_implies, implies_true, true_and])
      (refine hK _ ?_; clear hK K)
      refine W_ret ?_
      simp (disch := omega) only [thenW, retR, resW, resV, List.getD_cons_succ, List.getD_cons_zero, asOne_one, view_bool]
end Go.Proofs.Ytjkjapjcmbfkgaa.Vm

/-
  ImpliedTrue.
-/
namespace Go.Proofs.Ytjkjapjcmbfkgaa.Vm
open Go Go.RowKit
set_option linter.unusedVariables false
set_option linter.unusedSimpArgs false
set_option pp.deepTerms false
set_option pp.deepTerms.threshold 8

/-- A clause, as the law looks at it. -/
theorem relT_at {a b : At} (xs : List Rat) (names : List ByteArray) {i : Nat} (h : i < (relT a b 4).length) : ∃ one two : Int, (relT a b 4).getD i default = [one, two] ∧ (one = 1 ∨ one = -1) ∧ (two = 2 ∨ two = -2) ∧
    (((decide (one = 1)) == truth a xs names) = true ∨ ((decide (two = 2)) == truth b xs names) = true) := by
  have hm : (relT a b 4).getD i default ∈ relT a b 4 := by simp [List.getD_eq_getElem?_getD, h]
  generalize (relT a b 4).getD i default = c at *
  rw [relT_all, List.mem_map] at hm
  obtain ⟨p, hp, rfl⟩ := hm
  rw [List.mem_filter] at hp
  refine ⟨p.1, p.2, rfl, ?_, ?_, rel_holds hp.1 hp.2 xs names⟩
  all_goals
    have := hp.1
    simp only [prs, List.mem_cons, List.not_mem_nil, or_false] at this
    rcases this with h | h | h | h <;> rw [h] <;> simp

set_option maxRecDepth 20000 in
set_option maxHeartbeats 8000000 in
theorem law_ok (a b : At) (xs : List RR) (names : List ByteArray) (ha : AtOk a) (hb : AtOk b) (hx : ∀ x ∈ xs, x.ok) (hxb : nbl (xs.map RR.v) ≤ 67108864) (hnl : names.length ≤ 67108864) :
    Pure Try.prog 3 [.agg (a.cells ++ b.cells ++ [.sl (tab rowR xs), .sl (tab rowS names)])] (· = .bool true) := by
  have hta := f10true_ok a xs names ha hx hxb hnl
  have htb := f10true_ok b xs names hb hx hxb hnl
  have hr1 : Pure Try.prog 5 [.agg a.cells, .agg b.cells] (· = .sl (tab rowC (relT a b 4))) := (relate_new a b ha hb).pure.mono fun r h => by obtain ⟨rows, rfl, rfl⟩ := h; rfl
  have hr2 : Pure Try.prog 5 [.agg a.cells, .agg a.cells] (· = .sl (tab rowC (relT a a 4))) := (relate_new a a ha ha).pure.mono fun r h => by obtain ⟨rows, rfl, rfl⟩ := h; rfl
  have h2 := relT_two a
  have hat := fun i h => @relT_at a b (xs.map RR.v) names i h
  have hl4 := relT_len a b 4
  generalize relT a a 4 = S at *
  generalize relT a b 4 = R at *
  generalize truth a (xs.map RR.v) names = s at *
  generalize truth b (xs.map RR.v) names = t at *
  have h2I : (2 : Int) ≤ S.length := by omega
  obtain ⟨an, af, ab, ast⟩ := a
  obtain ⟨bn, bf, bb, bst⟩ := b
  unfold At.cells at *
  simp only [List.cons_append, List.nil_append]
  (refine pureW Try.func3 rfl (rs := [Go.ResultVar.tmp 2]) rfl (n := 99) rfl ?_; simp only [List.length_cons, List.length_nil, List.replicate, List.cons_append, List.nil_append])
  (repeat (refine W_seqV fun K hK => ?_; (try simp (disch := omega) only [regV_cons, effW_free, opF_box, dead, List.getElem?_cons_succ, List.getElem?_cons_zero, storable, ev_tmp, List.getD_cons_zero, List.all_cons, AV.one, List.all_nil, Bool.and_self, cellsOf, List.length_cons, List.length_nil, Nat.zero_add, Nat.reduceAdd, atK_ap, restV_ap, Eff.app, List.set, Eff.wi, Option.map_some, List.nil_append, opF_assign, ev_const, cst_bool, Option.map_none, List.cons_append, regV_nil, sepL, List.not_mem_nil, false_implies, implies_true, true_and]); refine hK _ ?_; clear hK K))
  dsimp only at hta htb hr1 hr2
  ((refine W_seqV fun K hK => ?_); simp (disch := omega) only [regV_cons, effW_free, opF_fieldAddr, ty35, ev_tmp, List.getD_cons_succ, List.getD_cons_zero, fieldAddrW_ptr, List.length_cons, List.length_nil, Nat.zero_add, Nat.reduceAdd, Nat.reduceLT, ty31, ne_eq, reduceCtorEq, not_false_eq_true, Nat.add_zero, valK_ap, atK_ap, restV_ap, Eff.app, List.set, Eff.wi, Option.map_none, List.nil_append, opF_load, TI.isAgg, true_or, objOf, loadW_ptr, loadO_arr, Nat.reduceLeDiff, ofCells, List.drop_zero, List.take_succ_cons, List.take_zero, List.headD_cons, if_true, List.cons_append, ty32, Bool.false_eq_true, or_true, List.drop_succ_cons, if_false, ty33, opF_call, ev_func, List.map_cons, List.map_nil, callF_fn, List.append_nil, opF_assign, regV_nil, sepL, List.not_mem_nil, false_implies, implies_true, true_and])
  (refine ⟨by kernel_rfl, rfl, _, hta, ?_⟩)
  (refine hK _ ?_; clear hK K)
  ((refine W_seqV fun K hK => ?_); simp (disch := omega) only [regV_cons, effW_free, opF_fieldAddr, ty35, ev_tmp, List.getD_cons_succ, List.getD_cons_zero, fieldAddrW_ptr, List.length_cons, List.length_nil, Nat.zero_add, Nat.reduceAdd, Nat.reduceLT, ty31, ne_eq, reduceCtorEq, not_false_eq_true, valK_ap, atK_ap, restV_ap, Eff.app, List.set, Eff.wi, Option.map_none, List.nil_append, opF_load, TI.isAgg, true_or, objOf, loadW_ptr, loadO_arr, Nat.reduceLeDiff, ofCells, List.drop_succ_cons, List.drop_zero, List.take_succ_cons, List.take_zero, List.headD_cons, if_true, List.cons_append, ty32, Bool.false_eq_true, or_true, if_false, ty33, opF_call, ev_func, List.map_cons, List.map_nil, callF_fn, List.append_nil, opF_assign, regV_nil, sepL, List.not_mem_nil, false_implies, implies_true, true_and])
  (refine ⟨by kernel_rfl, rfl, _, htb, ?_⟩)
  (refine hK _ ?_; clear hK K)
  ((refine W_seqV fun K hK => ?_); simp (disch := omega) only [regV_cons, effW_free, opF_fieldAddr, ty35, ev_tmp, List.getD_cons_succ, List.getD_cons_zero, fieldAddrW_ptr, List.length_cons, List.length_nil, Nat.zero_add, Nat.reduceAdd, Nat.reduceLT, ty31, ne_eq, reduceCtorEq, not_false_eq_true, Nat.add_zero, valK_ap, atK_ap, restV_ap, Eff.app, List.set, Eff.wi, Option.map_none, List.nil_append, opF_load, TI.isAgg, true_or, objOf, loadW_ptr, loadO_arr, Nat.reduceLeDiff, ofCells, List.drop_zero, List.take_succ_cons, List.take_zero, List.headD_cons, if_true, List.cons_append, List.drop_succ_cons, opF_call, ev_func, List.map_cons, List.map_nil, callF_fn, List.append_nil, opF_assign, regV_nil, sepL, List.not_mem_nil, false_implies, implies_true, true_and])
  (refine ⟨by kernel_rfl, rfl, _, hr1, ?_⟩)
  (refine hK _ ?_; clear hK K)
  ((refine W_seq ?_; refine W_seqV fun K hK => ?_); simp (disch := omega) only [regV_cons, effW_free, opF_assign, ev_const, cst_int, atK_ap, restV_ap, Eff.app, List.set, Eff.wi, Option.map_none, List.nil_append, regV_nil, sepL, List.not_mem_nil, false_implies, implies_true, true_and])
  (refine hK _ ?_; clear hK K)
  refine W_block (W_loop (fun n : {n : Nat // n ≤ R.length} =>
      ⟨(.any :: (.ptr 1 0 0) :: (.bool false) :: (.bool s) :: (.bool t) :: (.sl (tab rowC R)) :: (.int .i64 n.1) :: .any :: .any :: .any :: .any :: .any :: .any :: .any :: .any :: .any :: .any :: .any :: .any :: .any :: .any :: .any :: .any :: .any :: .any :: .any :: .any :: .any :: .any :: .any :: .any :: .any :: .any :: .any :: .any :: .any :: .any :: .any :: .any :: .any :: .any :: .any :: .any :: .any :: .any :: .any :: .any :: .any :: .any :: .any :: .any :: .any :: .any :: .any :: .any :: .any :: .any :: .any :: .any :: .any :: .any :: .any :: .any :: .any :: .any :: .any :: .any :: .any :: .any :: .any :: .any :: .any :: .any :: .any :: .any :: .any :: .any :: .any :: .any :: .any :: .any :: .any :: .any :: .any :: .any :: .any :: .any :: .any :: .any :: .any :: .any :: .any :: .any :: .any :: .any :: .any :: .any :: .any :: .any :: []), (.dead :: (.arr 35 14 false [[.str an, .sl (tab rowM af), .bool ab.neg, .sl (u32s ab.num), .sl (u32s ab.den), .bool ast, .str bn, .sl (tab rowM bf), .bool bb.neg, .sl (u32s bb.num), .sl (u32s bb.den), .bool bst, .sl (tab rowR xs), .sl (tab rowS names)]]) :: .dead :: .dead :: .dead :: .dead :: .dead :: .dead :: .dead :: .dead :: .dead :: .dead :: .dead :: .dead :: .dead :: .dead :: .dead :: .dead :: .dead :: .dead :: .dead :: .dead :: .dead :: .dead :: .dead :: .dead :: .dead :: .dead :: .dead :: .dead :: .dead :: .dead :: .dead :: .dead :: .dead :: .dead :: .dead :: .dead :: .dead :: .dead :: .dead :: .dead :: .dead :: .dead :: .dead :: .dead :: .dead :: .dead :: .dead :: .dead :: .dead :: .dead :: .dead :: .dead :: .dead :: .dead :: .dead :: .dead :: .dead :: .dead :: .dead :: .dead :: .dead :: .dead :: .dead :: .dead :: .dead :: .dead :: .dead :: .dead :: .dead :: .dead :: .dead :: .dead :: .dead :: .dead :: .dead :: .dead :: .dead :: .dead :: .dead :: .dead :: .dead :: .dead :: .dead :: .dead :: .dead :: .dead :: .dead :: .dead :: .dead :: .dead :: .dead :: .dead :: .dead :: .dead :: .dead :: .dead :: .dead :: [])⟩) (fun n => R.length - n.1)
      ⟨0, by omega⟩ (Le_of (by simp [leE]) (by simp)) fun n => ?_)
  obtain ⟨i, hi⟩ := n
  dsimp only
  clear hta htb hr1
  by_cases hlt : i < R.length
  · obtain ⟨one, two, hc, ho1, ho2, hh⟩ := hat i hlt
    have hXi : (tab rowC R).getD i [] = [.sl [[.int .i64 one], [.int .i64 two]]] := by rw [tab_getD hlt, hc]; rfl
    have w1 : IntKind.i64.wrap (one * one) = 1 := by rcases ho1 with rfl | rfl <;> rfl
    have w2 : IntKind.i64.wrap (two * two) = 4 := by rcases ho2 with rfl | rfl <;> rfl
    have z1 : ((1 : Int) != 1) = false := rfl
    have z2 : ((4 : Int) != 4) = false := rfl
    have z3 : ((2 : Int) != 2) = false := rfl
    have hb1 : (one == 1) = decide (one = 1) := rfl
    have hb2 : (two == 2) = decide (two = 2) := rfl
    generalize decide (one = 1) = o at *
    generalize decide (two = 2) = w at *
    clear hat ho1 ho2 hc
    refine W_seq ?_
    ((refine W_seqV fun K hK => ?_); simp (disch := omega) only [regV_cons, effW_free, opF_move, ev_tmp, List.getD_cons_succ, List.getD_cons_zero, atK_ap, restV_ap, Eff.app, List.set, Eff.wi, Option.map_none, List.nil_append, List.cons_append, opF_len, ty37, lenW_sl, tab_length, valK_ap, opF_binOp, ty3, binW_lss, nat_lt_int, hlt, decide_true, regV_nil, sepL, List.not_mem_nil, false_implies, implies_true, true_and])
    (refine hK _ ?_; clear hK K)
    (first | refine W_cond rfl (fun _ => ?_) (fun h => by cases h) | refine W_seq (W_cond rfl (fun _ => ?_) (fun h => by cases h)))
    refine W_skip ?_
    simp only [thenW]
    refine W_seq ?_
    refine W_block ?_
    ((refine W_seq ?_; refine W_seqD mixed [] (by kernel_rfl) fun K hK => ?_); simp (disch := omega) only [regV_cons, effW_free, opF_move, ev_tmp, List.getD_cons_succ, List.getD_cons_zero, atK_ap, restV_ap, Eff.app, List.set, Eff.wi, Option.map_none, List.nil_append, List.cons_append, opF_indexAddr, ty37, objOf, indexAddrW_sl, ty40, ne_eq, reduceCtorEq, not_false_eq_true, nat_nonneg, tab_length, nat_lt_int, hlt, rowC_all, toNat_natCast, hXi, valK_ap, opF_load, TI.isAgg, Bool.false_eq_true, or_true, loadW_ia, Nat.zero_add, List.length_cons, List.length_nil, Nat.reduceLeDiff, ofCells, List.drop_zero, List.take_succ_cons, List.take_zero, List.headD_cons, if_false, opF_len, lenW_sl, Nat.reduceAdd, Int.cast_ofNat_Int, opF_binOp, ty3, ev_const, cst_int, binW_neq, z3, effW_guard, guardOf, List.getElem?_toArray, List.getElem?_cons_succ, List.getElem?_cons_zero, Option.bind_some, effH_ff, Int.reduceLE, Int.reduceLT, Int.toNat_zero, binW_mul, w1, z1, opF_pick, cst_bool, pickW_bool, cond_false, Int.reduceToNat, w2, z2, regV_nil, sepL, List.not_mem_nil, false_implies, implies_true, true_and])
    ((repeat refine And.intro (by first | omega | exact allLen_lit rfl) ?_); refine hK _ ?_; clear hK K)
    (first | refine W_cond rfl (fun h => by cases h) (fun _ => ?_) | refine W_seq (W_cond rfl (fun h => by cases h) (fun _ => ?_)))
    refine W_skip ?_
    simp only [blockW, thenW]
    have y1 : (true == true) = true := rfl
    have y2 : (false == false) = true := rfl
    have y3 : (true == false) = false := rfl
    have y4 : (false == true) = false := rfl
    cases o <;> cases s <;> cases w <;> cases t
    all_goals first | (exfalso; revert hh; decide) | skip
    all_goals
      ((refine W_seqV fun K hK => ?_); simp (disch := omega) only [regV_cons, effW_free, opF_move, ev_tmp, List.getD_cons_succ, List.getD_cons_zero, atK_ap, restV_ap, Eff.app, List.set, Eff.wi, Option.map_none, List.nil_append, List.cons_append, opF_indexAddr, ty37, objOf, indexAddrW_sl, ty40, ne_eq, reduceCtorEq, not_false_eq_true, nat_nonneg, tab_length, nat_lt_int, hlt, rowC_all, toNat_natCast, hXi, valK_ap, opF_load, TI.isAgg, Bool.false_eq_true, or_true, loadW_ia, Nat.zero_add, List.length_cons, List.length_nil, Nat.reduceLeDiff, ofCells, List.drop_zero, List.take_succ_cons, List.take_zero, List.headD_cons, if_false, ev_const, cst_int, ty3, Int.reduceLE, Nat.reduceAdd, Int.cast_ofNat_Int, Int.reduceLT, Int.toNat_zero, opF_binOp, binW_eql, hb1, ty4, binW_bneq, y2, Bool.not_true, effW_guard, guardOf, List.getElem?_toArray, List.getElem?_cons_succ, List.getElem?_cons_zero, Option.bind_some, effH_tf, opF_pick, cst_bool, pickW_no, regV_nil, sepL, List.not_mem_nil, false_implies, implies_true, true_and, y4, Bool.not_false, effH_tt, Int.reduceToNat, hb2, pickW_bool, cond_true, y1, y3])
      ((repeat refine And.intro (by first | omega | exact allLen_lit rfl) ?_); refine hK _ ?_; clear hK K)
      (first | refine W_cond rfl (fun h => by cases h) (fun _ => ?_) | refine W_seq (W_cond rfl (fun h => by cases h) (fun _ => ?_)))
      refine W_skip ?_
      simp only [blockW, thenW]
      ((refine W_regV fun K hK => ?_); simp (disch := omega) only [regV_cons, effW_free, opF_move, ev_tmp, List.getD_cons_succ, List.getD_cons_zero, atK_ap, restV_ap, Eff.app, List.set, Eff.wi, Option.map_none, List.nil_append, opF_binOp, ty3, ev_const, cst_int, binW_add, wrap_i64_one, valK_ap, List.cons_append, opF_assign, regV_nil, sepL, List.not_mem_nil, false_implies, implies_true, true_and])
      (refine hK _ ?_; clear hK K)
      simp only [blockW, thenW]
      refine ⟨⟨i + 1, by omega⟩, Le_drop (by simp [leE]) (by simp [leH]) rfl rfl, ?_⟩
      dsimp only
      omega
  · obtain rfl : i = R.length := by omega
    refine W_seq ?_
    ((refine W_seqV fun K hK => ?_); simp (disch := omega) only [regV_cons, effW_free, opF_move, ev_tmp, List.getD_cons_succ, List.getD_cons_zero, atK_ap, restV_ap, Eff.app, List.set, Eff.wi, Option.map_none, List.nil_append, List.cons_append, opF_len, ty37, lenW_sl, tab_length, valK_ap, opF_binOp, ty3, binW_lss, Int.lt_irrefl, decide_false, regV_nil, sepL, List.not_mem_nil, false_implies, implies_true, true_and])
    (refine hK _ ?_; clear hK K)
    (first | refine W_cond rfl (fun h => by cases h) (fun _ => ?_) | refine W_seq (W_cond rfl (fun h => by cases h) (fun _ => ?_)))
    refine W_exit ?_
    simp only [thenW, blockW, if_true]
    ((refine W_seqV fun K hK => ?_); simp (disch := omega) only [regV_cons, effW_free, opF_fieldAddr, ty35, ev_tmp, List.getD_cons_succ, List.getD_cons_zero, fieldAddrW_ptr, List.length_cons, List.length_nil, Nat.zero_add, Nat.reduceAdd, Nat.reduceLT, ty31, ne_eq, reduceCtorEq, not_false_eq_true, Nat.add_zero, valK_ap, atK_ap, restV_ap, Eff.app, List.set, Eff.wi, Option.map_none, List.nil_append, opF_load, TI.isAgg, true_or, objOf, loadW_ptr, loadO_arr, Nat.reduceLeDiff, ofCells, List.drop_zero, List.take_succ_cons, List.take_zero, List.headD_cons, if_true, List.cons_append, opF_call, ev_func, List.map_cons, List.map_nil, callF_fn, List.append_nil, opF_assign, regV_nil, sepL, List.not_mem_nil, false_implies, implies_true, true_and])
    (refine ⟨by kernel_rfl, rfl, _, hr2, ?_⟩)
    (refine hK _ ?_; clear hK K)
    ((refine W_seqV fun K hK => ?_); simp (disch := omega) only [regV_cons, effW_free, opF_move, ev_tmp, List.getD_cons_succ, List.getD_cons_zero, atK_ap, restV_ap, Eff.app, List.set, Eff.wi, Option.map_none, List.nil_append, opF_len, ty37, lenW_sl, tab_length, valK_ap, List.cons_append, opF_binOp, ty3, ev_const, cst_int, binW_geq, ge_iff_le, opF_assign, regV_nil, sepL, List.not_mem_nil, false_implies, implies_true, true_and])
    (refine hK _ ?_; clear hK K)
    refine W_ret ?_
    simp (disch := omega) only [retR, resW, resV, List.getD_cons_succ, List.getD_cons_zero, asOne_one, view_bool]
    simp
    omega
end Go.Proofs.Ytjkjapjcmbfkgaa.Vm

/-
  Arguments read as plain data: opened into abstract values.
-/
namespace Go.Proofs.Ytjkjapjcmbfkgaa.Vm
open Go Go.RowKit
set_option linter.unusedVariables false
set_option linter.unusedSimpArgs false

section
variable {H : Type} {encH : TypeId × Value → H} {P : Program} {w : World}
/-- Cells that read as data of a type stand for a value of α; its weight is at most the reading's bulk. -/
def Opens (encH : TypeId × Value → H) (P : Program) (w : World) (t : TypeId) {α : Type} (e : α → List AV) (good : α → Prop) (wt : α → Nat) : Prop :=
  ∀ (fuel : Nat) (cs : List Value) (x : DataW H × List MemPlace), DataW.trod encH P w 0 (fun _ => true) true fuel t cs = some x → ∃ a, Rps w (fun _ => False) noPl (e a) cs ∧ good a ∧ wt a ≤ Rows.uptoBulk x.1

theorem Opens.bool {t : TypeId} (ht : P.underlying t = some .bool) : Opens encH P w t (fun b : Bool => [.bool b]) (fun _ => True) (fun _ => 1) := by
  intro fuel cs x h
  obtain ⟨b, rfl, rfl⟩ := DataW.trod_bool ht h
  exact ⟨b, ⟨_, _, rfl, rfl, rfl⟩, trivial, by simp [Rows.uptoBulk]⟩
theorem Opens.i64 {t : TypeId} (ht : P.underlying t = some (.int .i64)) : Opens encH P w t (fun n : Int => [.int .i64 n]) (fun n => -9223372036854775808 ≤ n ∧ n ≤ 9223372036854775807) (fun _ => 1) := by
  intro fuel cs x h
  obtain ⟨n, rfl, rfl, hw⟩ := DataW.trod_int ht h
  exact ⟨n, ⟨_, _, rfl, rfl, rfl⟩, bounds_i64 hw, by simp [Rows.uptoBulk]⟩
theorem Opens.u32 {t : TypeId} (ht : P.underlying t = some (.int .u32)) : Opens encH P w t (fun n : Nat => [.int .u32 (n : Int)]) (fun n => n < 4294967296) (fun _ => 1) := by
  intro fuel cs x h
  obtain ⟨n, rfl, rfl, hw⟩ := DataW.trod_int ht h
  obtain ⟨h1, h2⟩ := bounds_u32 hw
  refine ⟨n.toNat, ⟨_, _, rfl, ?_, rfl⟩, by omega, by simp [Rows.uptoBulk]⟩
  show Value.int .u32 n = _
  rw [Int.toNat_of_nonneg h1]
theorem Opens.str {t : TypeId} (ht : P.underlying t = some .string) : Opens encH P w t (fun s : ByteArray => [.str s]) (fun _ => True) (fun s => s.size + 1) := by
  intro fuel cs x h
  obtain ⟨s, rfl, rfl, hs⟩ := DataW.trod_string ht h
  refine ⟨s, ⟨_, _, rfl, rfl, rfl⟩, trivial, ?_⟩
  simp only [Rows.uptoBulk]
  have : s.data.toList.length = s.size := by rw [Array.length_toList]; rfl
  omega
theorem Opens.map {t : TypeId} {α β : Type} {e : α → List AV} {good : α → Prop} {wt : α → Nat} (h : Opens encH P w t e good wt) {e' : β → List AV} {good' : β → Prop} {wt' : β → Nat} (f : α → β)
    (he : ∀ a, e' (f a) = e a) (hg : ∀ a, good a → good' (f a)) (hw : ∀ a, wt' (f a) ≤ wt a) : Opens encH P w t e' good' wt' := by
  intro fuel cs x hx
  obtain ⟨a, h1, h2, h3⟩ := h fuel cs x hx
  exact ⟨f a, by rw [he]; exact h1, hg a h2, Nat.le_trans (hw a) h3⟩
theorem Opens.two {t : TypeId} {f0 f1 : Field} (ht : P.underlying t = some (.struct #[f0, f1])) (o0 : f0.offset = 0) (o1 : f1.offset = P.cellsOf f0.type) (hl : P.cellsOf t = P.cellsOf f0.type + P.cellsOf f1.type)
    {α β : Type} {e0 : α → List AV} {g0 : α → Prop} {w0 : α → Nat} {e1 : β → List AV} {g1 : β → Prop} {w1 : β → Nat} (h0 : Opens encH P w f0.type e0 g0 w0) (h1 : Opens encH P w f1.type e1 g1 w1) :
    Opens encH P w t (fun p : α × β => e0 p.1 ++ e1 p.2) (fun p => g0 p.1 ∧ g1 p.2) (fun p => w0 p.1 + w1 p.2 + 1) := by
  intro fuel cs x h
  obtain ⟨xs, n, _, rfl, hlen, hxs, hf⟩ := DataW.trod_struct ht h
  match xs, hxs with
  | [y0, y1], _ =>
    obtain ⟨a, r0, q0, b0⟩ := h0 _ _ _ (hf 0 f0 rfl)
    obtain ⟨b, r1, q1, b1⟩ := h1 _ _ _ (hf 1 f1 rfl)
    refine ⟨(a, b), ?_, ⟨q0, q1⟩, ?_⟩
    · have := r0.append r1
      rw [o0, o1, List.drop_zero, List.take_of_length_le (l := cs.drop _) (by rw [List.length_drop]; omega), List.take_append_drop] at this
      exact this
    · simp only [List.map_cons, List.map_nil, Rows.uptoBulk, Rows.uptoBulkAll]
      omega
theorem Opens.four {t : TypeId} {f0 f1 f2 f3 : Field} (ht : P.underlying t = some (.struct #[f0, f1, f2, f3])) (o0 : f0.offset = 0) (o1 : f1.offset = P.cellsOf f0.type) (o2 : f2.offset = P.cellsOf f0.type + P.cellsOf f1.type)
    (o3 : f3.offset = P.cellsOf f0.type + P.cellsOf f1.type + P.cellsOf f2.type) (hl : P.cellsOf t = P.cellsOf f0.type + P.cellsOf f1.type + P.cellsOf f2.type + P.cellsOf f3.type)
    {α β γ δ : Type} {e0 : α → List AV} {g0 : α → Prop} {w0 : α → Nat} {e1 : β → List AV} {g1 : β → Prop} {w1 : β → Nat} {e2 : γ → List AV} {g2 : γ → Prop} {w2 : γ → Nat} {e3 : δ → List AV} {g3 : δ → Prop} {w3 : δ → Nat}
    (h0 : Opens encH P w f0.type e0 g0 w0) (h1 : Opens encH P w f1.type e1 g1 w1) (h2 : Opens encH P w f2.type e2 g2 w2) (h3 : Opens encH P w f3.type e3 g3 w3) :
    Opens encH P w t (fun p : α × β × γ × δ => e0 p.1 ++ (e1 p.2.1 ++ (e2 p.2.2.1 ++ e3 p.2.2.2))) (fun p => g0 p.1 ∧ g1 p.2.1 ∧ g2 p.2.2.1 ∧ g3 p.2.2.2) (fun p => w0 p.1 + w1 p.2.1 + w2 p.2.2.1 + w3 p.2.2.2 + 1) := by
  intro fuel cs x h
  obtain ⟨xs, n, _, rfl, hlen, hxs, hf⟩ := DataW.trod_struct ht h
  match xs, hxs with
  | [y0, y1, y2, y3], _ =>
    obtain ⟨a, r0, q0, b0⟩ := h0 _ _ _ (hf 0 f0 rfl)
    obtain ⟨b, r1, q1, b1⟩ := h1 _ _ _ (hf 1 f1 rfl)
    obtain ⟨c, r2, q2, b2⟩ := h2 _ _ _ (hf 2 f2 rfl)
    obtain ⟨d, r3, q3, b3⟩ := h3 _ _ _ (hf 3 f3 rfl)
    refine ⟨(a, b, c, d), ?_, ⟨q0, q1, q2, q3⟩, ?_⟩
    · have := r0.append (r1.append (r2.append r3))
      rw [o0, o1, o2, o3, List.drop_zero, List.take_of_length_le (l := cs.drop (P.cellsOf f0.type + P.cellsOf f1.type + P.cellsOf f2.type)) (by rw [List.length_drop]; omega),
        ← List.drop_drop (i := P.cellsOf f2.type), List.take_append_drop, ← List.drop_drop (i := P.cellsOf f1.type), List.take_append_drop, List.take_append_drop] at this
      exact this
    · simp only [List.map_cons, List.map_nil, Rows.uptoBulk, Rows.uptoBulkAll]
      omega
def sumW {α : Type} (wt : α → Nat) : List α → Nat
  | [] => 0
  | x :: l => wt x + sumW wt l
theorem sumW_snoc {α : Type} (wt : α → Nat) (l : List α) (x : α) : sumW wt (l ++ [x]) = sumW wt l + wt x := by
  induction l with
  | nil => simp [sumW]
  | cons y l ih => simp only [List.cons_append, sumW, ih]; omega
theorem bulk_append (l r : List (DataW H)) : Rows.uptoBulkAll (l ++ r) = Rows.uptoBulkAll l + Rows.uptoBulkAll r := by
  induction l with
  | nil => simp [Rows.uptoBulkAll]
  | cons x l ih => simp only [List.cons_append, Rows.uptoBulkAll, ih]; omega
theorem Opens.slice {t e : TypeId} (ht : P.underlying t = some (.slice e)) (hpos : 0 < P.cellsOf e) {α : Type} {enc : α → List AV} {good : α → Prop} {wt : α → Nat} (he : Opens encH P w e enc good wt) :
    Opens encH P w t (fun l : List α => [.sl (tab enc l)]) (fun l => ∀ x ∈ l, good x) (fun l => sumW wt l + 1) := by
  intro fuel cs x h
  rcases DataW.trod_slice ht h with ⟨rfl, rfl⟩ | ⟨a, len, cap, elems, rest, n, _, rfl, rfl, hb, hlc, hcm, hlen, hel, _, _⟩
  · exact ⟨[], ⟨_, _, rfl, ⟨none, 0, rfl, Nat.le_refl _, by decide, .inl rfl⟩, rfl⟩, by simp, by simp [Rows.uptoBulk, sumW]⟩
  · obtain ⟨b, o, spot⟩ := a
    have step : ∀ m, m ≤ len → ∃ (l : List α) (vss : List (List Value)), l.length = m ∧ vss.flatten.length = m * P.cellsOf e ∧ RpR w (fun _ => False) noPl (tab enc l) vss ∧ (∀ x ∈ l, good x) ∧ sumW wt l ≤ Rows.uptoBulkAll ((elems.take m).map (·.1)) ∧
        (0 < m → spot = none ∧ b < w.heap.size) ∧ CellsAt w b o vss.flatten := by
      intro m
      induction m with
      | zero => exact fun _ => ⟨[], [], rfl, by simp, rfl, by simp, by simp [sumW, Rows.uptoBulkAll], by omega, fun j u hj => by simp at hj⟩
      | succ m ih =>
        intro hm
        obtain ⟨l, vss, h1, h2, h3, h4, h5, h6, h7⟩ := ih (by omega)
        have hi := hel m (by omega)
        have hg : elems[m]? = some (elems[m]'(by omega)) := by simp
        rw [hg] at hi
        obtain ⟨cs', hc, hd⟩ := Option.bind_eq_some_iff.1 hi
        obtain ⟨_, hcl, hcell⟩ := World.cells?_some hc
        obtain ⟨y, hy1, hy2, hy3⟩ := he _ _ _ hd
        obtain ⟨c0, hc0⟩ : ∃ c0, cs'[0]? = some c0 := ⟨cs'[0]'(by omega), by simp⟩
        have g0 : w.cell? (((⟨b, o, spot⟩ : Addr).add (m * P.cellsOf e)).add 0) = some c0 := by rw [hcell 0 hpos, hc0]
        have hsp : spot = none ∧ b < w.heap.size := by
          have hs : spot = none := by
            cases m with
            | zero => have := World.cell?_spot g0; simpa [Addr.add] using this
            | succ m => exact (h6 (by omega)).1
          refine ⟨hs, ?_⟩
          have : ((⟨b, o, spot⟩ : Addr).add (m * P.cellsOf e)).add 0 = ⟨b, o + m * P.cellsOf e, none⟩ := by rw [hs, WideShapes.add_plain, WideShapes.add_plain]; rfl
          rw [this] at g0
          unfold World.cell? at g0
          split at g0
          · rename_i heq
            exact (Array.getElem?_eq_some_iff.1 heq).1
          · cases g0
        obtain ⟨hs, hbs⟩ := hsp
        subst hs
        refine ⟨l ++ [y], vss ++ [cs'], by simp [h1], ?_, ?_, ?_, ?_, fun _ => ⟨rfl, hbs⟩, ?_⟩
        · rw [List.flatten_append, List.length_append, h2, Nat.succ_mul]
          simp [hcl]
        · rw [← tab_snoc]
          exact h3.append ⟨_, _, rfl, hy1, rfl⟩
        · intro x hx
          rcases List.mem_append.1 hx with hx | hx
          · exact h4 x hx
          · rw [List.mem_singleton] at hx; subst hx; exact hy2
        · rw [sumW_snoc, List.take_add_one, hg, List.map_append, bulk_append]
          simp only [Option.toList_some, List.map_cons, List.map_nil, Rows.uptoBulkAll]
          omega
        · intro j u hj
          rw [List.flatten_append] at hj
          by_cases hjl : j < vss.flatten.length
          · rw [List.getElem?_append_left hjl] at hj
            exact h7 j u hj
          · rw [List.getElem?_append_right (by omega)] at hj
            simp only [List.flatten_cons, List.flatten_nil, List.append_nil] at hj
            have hlt : j - vss.flatten.length < cs'.length := (List.getElem?_eq_some_iff.1 hj).1
            have := hcell (j - vss.flatten.length) (by omega)
            rw [WideShapes.add_plain, WideShapes.add_plain, hj] at this
            rw [← this]
            congr 2
            omega
    obtain ⟨l, vss, h1, h2, h3, h4, h5, h6, h7⟩ := step len (Nat.le_refl _)
    have htl : (tab enc l).length = len := by rw [tab_length, h1]
    refine ⟨l, ⟨_, _, rfl, ⟨some ⟨b, o, spot⟩, cap, by rw [htl], by rw [htl]; exact hlc, hcm, ?_⟩, rfl⟩, h4, ?_⟩
    · by_cases h0 : 0 < len
      · obtain ⟨rfl, hbs⟩ := h6 h0
        exact .inr ⟨b, o, vss, rfl, fun h => h, hbs, h7, h3⟩
      · left
        have : l = [] := List.eq_nil_of_length_eq_zero (by omega)
        rw [this]; rfl
    · rw [List.take_of_length_le (by omega)] at h5
      simp only [Rows.uptoBulk]
      omega
end
end Go.Proofs.Ytjkjapjcmbfkgaa.Vm

/-
  Arguments of the program's own types opened: numbers, forms, atoms.
-/
namespace Go.Proofs.Ytjkjapjcmbfkgaa.Vm
open Go Go.RowKit
set_option linter.unusedVariables false
set_option linter.unusedSimpArgs false

section
variable {H : Type} {encH : TypeId × Value → H} {w : World}
theorem sumW_one (l : List Nat) : sumW (fun _ => 1) l = l.length := by
  induction l with
  | nil => rfl
  | cons x l ih => simp only [sumW, ih, List.length_cons]; omega
theorem opens_nat : Opens encH Try.prog w 25 (fun l : List Nat => [.sl (u32s l)]) Limbs (fun l => l.length + 1) :=
  (Opens.slice Try.underlying25 (by show 0 < Try.prog.cellsOf 79; rw [show Try.prog.cellsOf 79 = 1 by kernel_rfl]; decide) (Opens.u32 Try.underlying79)).map id (fun _ => rfl) (fun _ h => h) (fun l => by show l.length + 1 ≤ sumW (fun _ => 1) l + 1; rw [sumW_one]; exact Nat.le_refl _)
theorem opens_int : Opens encH Try.prog w 27 (fun p : Bool × List Nat => [.bool p.1, .sl (u32s p.2)]) (fun p => Limbs p.2) (fun p => p.2.length + 3) :=
  (Opens.two Try.underlying27 rfl (by kernel_rfl) (by kernel_rfl) (Opens.bool Try.underlying4) opens_nat).map id (fun _ => rfl) (fun _ h => h.2) (fun l => by simp only [id]; omega)
def RR.good (r : RR) : Prop := Limbs r.num ∧ Limbs r.den
def RR.wt (r : RR) : Nat := r.num.length + r.den.length + 5
theorem RR.bits_wt (r : RR) : r.bits ≤ 32 * r.wt := by unfold RR.bits RR.wt; omega
theorem opens_rat : Opens encH Try.prog w 29 rowR RR.good RR.wt :=
  (Opens.two Try.underlying29 rfl (by kernel_rfl) (by kernel_rfl) opens_int opens_nat).map (fun p => (⟨p.1.1, p.1.2, p.2⟩ : RR)) (fun _ => rfl) (fun _ h => h) (fun l => by simp only [RR.wt]; omega)
def mono_wt (p : Int × RR) : Nat := p.2.wt + 2
theorem opens_mono : Opens encH Try.prog w 53 rowM (fun p : Int × RR => (-9223372036854775808 ≤ p.1 ∧ p.1 ≤ 9223372036854775807) ∧ p.2.good) mono_wt :=
  (Opens.two Try.underlying53 rfl (by kernel_rfl) (by kernel_rfl) (Opens.i64 Try.underlying3) opens_rat).map id (fun _ => rfl) (fun _ h => h) (fun l => by simp only [id, mono_wt]; omega)
def form_good (f : List (Int × RR)) : Prop := ∀ p ∈ f, (-9223372036854775808 ≤ p.1 ∧ p.1 ≤ 9223372036854775807) ∧ p.2.good
def form_wt (f : List (Int × RR)) : Nat := sumW mono_wt f + 1
theorem opens_form : Opens encH Try.prog w 23 (fun f => [cF f]) form_good form_wt :=
  Opens.slice Try.underlying23 (by show 0 < Try.prog.cellsOf 53; rw [show Try.prog.cellsOf 53 = 4 by kernel_rfl]; decide) opens_mono
def At.good (a : At) : Prop := form_good a.form ∧ a.bound.good
def At.wt (a : At) : Nat := a.name.size + form_wt a.form + a.bound.wt + 3
theorem opens_atom : Opens encH Try.prog w 31 At.cells At.good At.wt :=
  (Opens.four Try.underlying31 rfl (by kernel_rfl) (by kernel_rfl) (by kernel_rfl) (by kernel_rfl) (Opens.str Try.underlying9) opens_form opens_rat (Opens.bool Try.underlying4)).map
    (fun p => (⟨p.1, p.2.1, p.2.2.1, p.2.2.2⟩ : At)) (fun _ => rfl) (fun _ h => ⟨h.2.1, h.2.2.1⟩) (fun p => by simp only [At.wt]; omega)
theorem opens_rats : Opens encH Try.prog w 32 (fun l => [.sl (tab rowR l)]) (fun l => ∀ r ∈ l, r.good) (fun l => sumW RR.wt l + 1) :=
  Opens.slice Try.underlying32 (by show 0 < Try.prog.cellsOf 29; rw [show Try.prog.cellsOf 29 = 3 by kernel_rfl]; decide) opens_rat
theorem opens_names : Opens encH Try.prog w 33 (fun l => [.sl (tab rowS l)]) (fun l => ∀ r ∈ l, True) (fun l => sumW (fun s : ByteArray => s.size + 1) l + 1) :=
  Opens.slice Try.underlying33 (by show 0 < Try.prog.cellsOf 9; rw [show Try.prog.cellsOf 9 = 1 by kernel_rfl]; decide) (Opens.str Try.underlying9)
end

/-! ### what little bulk means -/
theorem RR.good.ok {r : RR} (h : r.good) (hb : r.wt ≤ 1048576) : r.ok := ⟨h.1, h.2, by unfold RR.wt at hb; omega, by unfold RR.wt at hb; omega⟩
theorem RR.good.nb {r : RR} (h : r.good) : nb r.v ≤ 32 * r.wt := Nat.le_trans (nb_v r h.1 h.2) r.bits_wt
theorem form_nbs : ∀ {f : List (Int × RR)}, form_good f → nbs (vals f) ≤ 32 * sumW mono_wt f
  | [], _ => by simp [vals, nbs]
  | p :: f, h => by
    have h1 := (h p List.mem_cons_self).2.nb
    have h2 := form_nbs (f := f) fun q hq => h q (List.mem_cons_of_mem _ hq)
    simp only [vals, List.map_cons, nbs, sumW, mono_wt] at *
    omega
theorem sumW_mem {α : Type} {wt : α → Nat} {l : List α} {x : α} (h : x ∈ l) : wt x ≤ sumW wt l := by
  induction l with
  | nil => cases h
  | cons y l ih =>
    simp only [sumW]
    rcases List.mem_cons.1 h with rfl | h
    · omega
    · have := ih h; omega
theorem form_ok {f : List (Int × RR)} (h : form_good f) (hb : form_wt f ≤ 1048576) : FOk f 67108864 ∧ nbs (vals f) ≤ 67108864 := by
  have h1 := form_nbs h
  unfold form_wt at hb
  refine ⟨⟨fun p hp => (h p hp).2.ok ?_, (Sz.of _).mono (by omega)⟩, by omega⟩
  have := sumW_mem (wt := mono_wt) hp
  unfold mono_wt at this hb
  omega
theorem At.good.ok {a : At} (h : a.good) (hb : a.wt ≤ 1048576) : AtOk a := by
  unfold At.wt at hb
  obtain ⟨h1, h2⟩ := form_ok h.1 (by omega)
  refine ⟨h1, h2, h.2.ok (by omega), ?_⟩
  have := h.2.nb
  omega
theorem rats_ok {xs : List RR} (h : ∀ r ∈ xs, r.good) (hb : sumW RR.wt xs ≤ 1048576) : (∀ r ∈ xs, r.ok) ∧ nbl (xs.map RR.v) ≤ 67108864 := by
  refine ⟨fun r hr => (h r hr).ok (Nat.le_trans (sumW_mem (wt := RR.wt) hr) hb), ?_⟩
  have key : ∀ l : List RR, (∀ r ∈ l, r.good) → nbl (l.map RR.v) ≤ 32 * sumW RR.wt l := by
    intro l
    induction l with
    | nil => intro _; simp [nbl]
    | cons x l ih =>
      intro hl
      have h1 := (hl x List.mem_cons_self).nb
      have h2 := ih fun r hr => hl r (List.mem_cons_of_mem _ hr)
      simp only [List.map_cons, nbl, sumW]
      omega
  have := key xs h
  omega
theorem sumW_len {α : Type} {wt : α → Nat} (h : ∀ x, 1 ≤ wt x) (l : List α) : l.length ≤ sumW wt l := by
  induction l with
  | nil => simp [sumW]
  | cons x l ih => have := h x; simp only [List.length_cons, sumW]; omega
end Go.Proofs.Ytjkjapjcmbfkgaa.Vm

/-
  ImpliedTrue, the statement.
-/
namespace Go.Proofs.Ytjkjapjcmbfkgaa.Vm
open Go Go.RowKit Go.ChangeShapes Go.WideShapes Go.ChangeAt
set_option linter.unusedVariables false
set_option linter.unusedSimpArgs false

namespace true_
theorem own : ownKnob Try.prog.godebug = none := by kernel_rfl
theorem laidOut : laidOutB Try.prog = true := by kernel_rfl
structure Arg where
  a : At
  b : At
  xs : List RR
  names : List ByteArray
theorem opens_arg {H : Type} {encH : TypeId × Value → H} {w : World} : Opens encH Try.prog w 35 (fun p : Arg => p.a.cells ++ p.b.cells ++ [.sl (tab rowR p.xs), .sl (tab rowS p.names)])
    (fun p => p.a.good ∧ p.b.good ∧ ∀ r ∈ p.xs, r.good) (fun p => p.a.wt + p.b.wt + sumW RR.wt p.xs + sumW (fun s : ByteArray => s.size + 1) p.names) :=
  (Opens.four Try.underlying35 rfl (by kernel_rfl) (by kernel_rfl) (by kernel_rfl) (by kernel_rfl) opens_atom opens_atom opens_rats opens_names).map
    (fun p => (⟨p.1, p.2.1, p.2.2.1, p.2.2.2⟩ : Arg)) (fun p => by simp only [List.append_assoc, List.cons_append, List.nil_append]) (fun _ h => ⟨h.1, h.2.1, h.2.2.1⟩) (fun p => by simp only; omega)

set_option maxRecDepth 100000 in
theorem contract (H : Type) (encH : TypeId × Value → H) (W : World) (base : Nat) (args : Array Value) (ds gs : List (DataW H)) (before : List MemPlace)
    (hval : ∀ (j : Nat) t v, Try.f3.params[j]? = some t → args[j]? = some v → Value.okWide Try.prog W .any base t v)
    (hW : DataW.Whole encH Try.prog Try.f3.params.toList Rows.impliedTrueSpec.vars false W args.toList ds gs before) (hk : Rows.uptoSmall H (ds ++ gs) = true) :
    Calls Try.prog 3 args W fun e W' => ∃ v, e = .returned v ∧ Rows.impliedTrueSpec.post encH Try.prog Try.f3 false true false false W args v W' := by
  have hW' := hW
  obtain ⟨p, q, hA0, hV, rfl, hfz, hnd⟩ := hW
  have hA : DataW.TrodAll encH Try.prog W 0 (fun _ => true) true Try.f3.params.toList args.toList ds p := hA0
  rw [Try.params3] at hA hval
  obtain ⟨v0, d0, rfl, rfl, h0⟩ := trodAll_one hA
  obtain ⟨rfl, rfl⟩ := trodVars_none hV
  simp only [List.append_nil] at hW' hk
  have hlt : ∀ x ∈ p, x.block < W.heap.size := fun x hx => by simpa using hW'.lt x hx
  have hok : Value.okWide Try.prog W .any base 35 v0 := hval 0 35 v0 rfl rfl
  unfold Value.okWide at hok
  rw [Try.underlying35] at hok
  obtain ⟨cs, rfl, _, _⟩ := hok
  have h0k := h0
  obtain ⟨fuel, hf⟩ := h0
  obtain ⟨x, hx1, ⟨hg1, hg2, hg3⟩, hx3⟩ := opens_arg fuel cs.toList (d0, p) hf
  have hbulk : Rows.uptoBulkAll [d0] ≤ 1048576 := of_decide_eq_true hk
  simp only [Rows.uptoBulkAll] at hbulk
  dsimp only at hx3
  obtain ⟨ho1, ho2⟩ := rats_ok hg3 (by omega)
  have hnl := sumW_len (wt := fun s : ByteArray => s.size + 1) (fun _ => by omega) x.names
  have hlaw := law_ok x.a x.b x.xs x.names (hg1.ok (by omega)) (hg2.ok (by omega)) ho1 ho2 (by omega)
  refine (hlaw W [.agg cs] (fun _ => False) (fun _ h => h.elim) ⟨_, _, rfl, ⟨cs.toList, by simp, hx1⟩, rfl⟩).mono fun e W' he => ?_
  obtain ⟨v, r, rfl, rfl, hbel, hrp⟩ := he
  have hv : v = .bool true := hrp
  subst hv
  exact ⟨_, rfl, ⟨_, _, _, [], _, [], hW', trodAll_mk1 (shut_bool Try.underlying4 _), trodAll_mk1 (Below.trod laidOut (by kernel_rfl) (of_decide_eq_true (by kernel_rfl)) h0k hbel hlt), rfl, hbel.frame _, fun h => by cases h⟩⟩

set_option maxRecDepth 100000 in
theorem lifted (os : Os) (started : os.Started) (H : Type) (enc : TypeId × Value → H) (F : Stop.Interp) :
    ReturnsInHanded {} Try.checked os 3 .any ((Rows.OpenSpec.upto Rows.impliedTrueSpec).pre6 enc Try.prog Try.f3 Rows.impliedTrueUptoRow.domain false) (((Rows.OpenSpec.upto Rows.impliedTrueSpec).at F).post enc Try.prog Try.f3 false true false false) := by
  refine returnsInHanded_of_cond (C := Try.checked) (s := Rows.OpenSpec.upto Rows.impliedTrueSpec) (k := Rows.uptoSmall) rfl own started (by kernel_rfl) Try.func3
    (OpenSpec.witness (enc := enc) (C := Try.checked) (s := Rows.OpenSpec.upto Rows.impliedTrueSpec) (k := Rows.uptoSmall) rfl false ⟨#[], #[.agg #[.string .empty, .slice none 0 0, .bool false, .slice none 0 0, .slice none 0 0, .bool false, .string .empty, .slice none 0 0, .bool false, .slice none 0 0, .slice none 0 0, .bool false, .slice none 0 0, .slice none 0 0]], []⟩ 8 (by kernel_rfl) (by kernel_rfl) (by kernel_rfl)
      (x := ([.agg [.agg [.lit (.string []), .nil, .agg [.agg [.lit (.bool false), .nil], .nil], .lit (.bool false)], .agg [.lit (.string []), .nil, .agg [.agg [.lit (.bool false), .nil], .nil], .lit (.bool false)], .nil, .nil]], [], [])) (by kernel_rfl) rfl (by kernel_rfl)) ?_
  intro W base args ds gs before hval hW _ hk _
  exact contract H enc W base args ds gs before hval hW hk
end true_

theorem impliedTrue_holds : Rows.ImpliedTrueUptoSaid :=
  OpenClaim.holds_of_cond 3 Try.f3 rfl rfl rfl rfl rfl rfl rfl ⟨rfl, rfl, rfl, rfl, rfl⟩ rfl rfl rfl rfl rfl (by kernel_rfl) Try.func3 (by kernel_rfl)
    (of_decide_eq_true (by kernel_rfl)) (by unfold Func.isWrapper; first | (rw [if_pos (by decide +kernel)]; kernel_rfl) | (rw [if_neg (by decide +kernel)]; exact ⟨rfl, rfl⟩))
    (fun os started H enc _ F => true_.lifted os started H enc F)
end Go.Proofs.Ytjkjapjcmbfkgaa.Vm

