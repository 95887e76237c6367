/-
  Part 7 of 8 of a proof.
-/
import Derived.Test.YtjkjapjcmbfkgaaImpliedTrue6
import Derived.Orders
import Derived.Below
import Derived.Laws.AppendOwn
import Derived.Laws.MakeOwn
import Derived.Laws.CopyRow
import Derived.Laws.Rows
import Derived.Laws.Cells
import Derived.Tactics
import Derived.Laws.BitsLemmas
import Derived.Test.YtjkjapjcmbfkgaaProg

/-
  The reference's natural numbers: Of, twice, Bit, Shift by -1.
-/
namespace Go.Proofs.Ytjkjapjcmbfkgaa.Vm
open Go Go.RowKit
set_option maxRecDepth 100000
set_option linter.unusedVariables false
set_option linter.unusedSimpArgs false
set_option pp.deepTerms false
set_option pp.deepTerms.threshold 8

theorem tyUint : tyOf Try.prog 85 = ⟨.int .u64, 1, 8, true, [.int .u64 0]⟩ := by kernel_rfl
set_option maxHeartbeats 1000000 in
theorem f1of_ok (n : Nat) (h : n < 18446744073709551616) : Pure Try.prog 71 [.int .u64 n] (· = cN n) := by
  have hv : val [n % 4294967296, n / 4294967296 % 4294967296] = n := by simp only [val]; omega
  have hl : Limbs [n % 4294967296, n / 4294967296 % 4294967296] := by
    intro x hx
    simp only [List.mem_cons, List.not_mem_nil, or_false] at hx
    omega
  have ho := fnorm_ok _ hl (by simp)
  rw [hv] at ho
  (refine pureW Try.func71 rfl (rs := [Go.ResultVar.tmp 2]) rfl (n := 10) rfl ?_; simp only [List.length_cons, List.length_nil, List.replicate, List.cons_append, List.nil_append])
  (repeat (refine W_seqV fun K hK => ?_; (try simp (disch := omega) only [regV_cons, effW_free, opF_assign, ev_const, cst_nils, atK_ap, restV_ap, Eff.app, List.set, Eff.wi, Option.map_none, List.nil_append, regV_nil, sepL, List.not_mem_nil, false_implies, implies_true, true_and]); (repeat refine And.intro (by first | omega | exact ⟨rfl, rfl⟩) ?_); refine hK _ ?_; clear hK K))
  ((refine W_seqV fun K hK => ?_); simp (disch := omega) only [regV_cons, effW_free, opF_move, ev_tmp, List.getD_cons_zero, atK_ap, restV_ap, Eff.app, List.set, Eff.wi, Option.map_none, List.nil_append, opF_convert, ty71, ty79, List.getD_cons_succ, convW_int, wrap_u32_nat, valK_ap, List.cons_append, opF_binOp, ev_const, cst_int, binW_shr, Int.reduceLE, Int.reduceToNat, min_u64, fdiv_pow, Nat.reducePow, opF_buildSlice, ty25, List.map_cons, List.map_nil, litD_slice, dead, List.getElem?_cons_succ, List.getElem?_cons_zero, ne_eq, reduceCtorEq, not_false_eq_true, List.length_cons, List.length_nil, Nat.zero_add, range2, Nat.reduceMul, Nat.reduceLeDiff, storable, AV.one, cellsOf, List.forall_mem_cons, true_and, List.not_mem_nil, false_implies, implies_true, and_true, opF_call, ev_func, callF_fn, List.append_nil, opF_assign, regV_nil, sepL])
  refine ⟨⟨rfl, rfl⟩, ?_⟩
  (refine ⟨by kernel_rfl, rfl, _, ho, ?_⟩; (try simp (disch := omega) only [cN, cNat]))
  (refine hK _ ?_; clear hK K)
  refine W_ret ?_
  simp (disch := omega) only [retR, resW, resV, List.getD_cons_succ, List.getD_cons_zero, asOne_one, view_sl, cN, cNat]

set_option maxHeartbeats 4000000 in
theorem ftwice_ok (l : List Nat) (d : Bool) (hl : Limbs l) (h1 : l.length < 549755813888) : Pure Try.prog 70 [cNat l, .bool d] (· = cN (2 * val l + d.toNat)) := by
  have hd : d.toNat ≤ 1 := by cases d <;> decide
  (refine pureW Try.func70 rfl (rs := [Go.ResultVar.tmp 4]) rfl (n := 41) rfl ?_; simp only [List.length_cons, List.length_nil, List.replicate, List.cons_append, List.nil_append])
  unfold cNat
  (repeat (first | (refine W_seqV fun K hK => ?_; (try simp (disch := omega) only [regV_cons, effW_free, opF_assign, ev_const, cst_nils, atK_ap, restV_ap, Eff.app, List.set, Eff.wi, Option.map_none, List.nil_append, regV_nil, sepL, List.not_mem_nil, false_implies, implies_true, true_and, cst_int]); refine hK _ ?_; clear hK K) | (refine W_seqR fun K hK => ?_; (try simp (disch := omega) only [opsW_free, opW_move, St.ret, List.set, ev_tmp, List.getD_cons_zero, restO_ap, opW_len, ty25, List.getD_cons_succ, lenW_sl, u32s_length, retK_ap, opW_binOp, ty3, ev_const, cst_int, binW_add, wrap_i64_one, opW_makeSlice, makeW_slice, dead, List.getElem?_cons_succ, List.getElem?_cons_zero, ty79, ne_eq, reduceCtorEq, not_false_eq_true, List.length_cons, List.length_nil, Nat.zero_add, nat_nonneg, Int.cast_ofNat_Int, toNat_natCast, St.seth, u32s_rep, retK2_ap, opW_assign, opsW_nil, true_and]); (repeat refine And.intro (by omega) ?_); refine hK _ ?_; clear hK K)))
  refine W_join (fun s' => Le [] s' ⟨[.sl (u32s l), .any, .any, .any, .any, .sref 11 0 (l.length + 1), .int .u32 (d.toNat : Int), .any, .any, .any, .any, .any, .any, .any, .any, .any, .any, .any, .any, .any, .any, .any, .any, .any, .any, .any, .any, .any, .any, .any, .any, .any, .any, .any, .any, .any, .any, .any, .any, .any, .any], [.dead, .dead, .dead, .dead, .dead, .dead, .dead, .dead, .dead, .dead, .dead, .arr 79 1 true (u32s (List.replicate (l.length + 1) 0)), .dead, .dead, .dead, .dead, .dead, .dead, .dead, .dead, .dead, .dead, .dead, .dead, .dead, .dead, .dead, .dead, .dead, .dead, .dead, .dead, .dead, .dead, .dead, .dead, .dead, .dead, .dead, .dead, .dead]⟩) ?_ ?_
  · cases d
    · ((refine W_seqV fun K hK => ?_); simp (disch := omega) only [regV_cons, effW_free, opF_move, ev_tmp, List.getD_cons_succ, List.getD_cons_zero, atK_ap, restV_ap, Eff.app, List.set, Eff.wi, Option.map_none, List.nil_append, regV_nil, sepL, List.not_mem_nil, false_implies, implies_true, true_and])
      (refine hK _ ?_; clear hK K)
      (first | refine W_cond rfl (fun h => by cases h) (fun _ => ?_) | refine W_seq (W_cond rfl (fun h => by cases h) (fun _ => ?_)))
      refine W_skip ?_
      simp only [thenW]
      exact Le_of (by simp [leE]) (by simp)
    · ((refine W_seqV fun K hK => ?_); simp (disch := omega) only [regV_cons, effW_free, opF_move, ev_tmp, List.getD_cons_succ, List.getD_cons_zero, atK_ap, restV_ap, Eff.app, List.set, Eff.wi, Option.map_none, List.nil_append, regV_nil, sepL, List.not_mem_nil, false_implies, implies_true, true_and])
      (refine hK _ ?_; clear hK K)
      (first | refine W_cond rfl (fun _ => ?_) (fun h => by cases h) | refine W_seq (W_cond rfl (fun _ => ?_) (fun h => by cases h)))
      ((refine W_regV fun K hK => ?_); simp (disch := omega) only [regV_cons, effW_free, opF_assign, ev_const, cst_int, atK_ap, restV_ap, Eff.app, List.set, Eff.wi, Option.map_none, List.nil_append, regV_nil, sepL, List.not_mem_nil, false_implies, implies_true, true_and])
      (refine hK _ ?_; clear hK K)
      simp only [thenW]
      exact Le_of (by simp [leE]) (by simp)
  intro s' hle
  refine W.le ?_ hle
  clear hle s'
  generalize d.toNat = k0 at *
  ((refine W_seq ?_; refine W_seqV fun K hK => ?_); simp (disch := omega) only [regV_cons, effW_free, opF_assign, ev_const, cst_int, atK_ap, restV_ap, Eff.app, List.set, Eff.wi, Option.map_none, List.nil_append, regV_nil, sepL, List.not_mem_nil, false_implies, implies_true, true_and])
  (refine hK _ ?_; clear hK K)
  refine W_block (W_loop (fun t : {t : Nat × List Nat × Nat // t.1 ≤ l.length ∧ t.2.1.length = l.length + 1 ∧ Limbs t.2.1 ∧ t.2.2 ≤ 1 ∧ val (t.2.1.take t.1) + 4294967296 ^ t.1 * t.2.2 = 2 * val (l.take t.1) + k0} =>
      ⟨[.sl (u32s l), .any, .any, .any, .any, .sref 11 0 (l.length + 1), .int .u32 t.1.2.2, .int .i64 t.1.1, .any, .any, .any, .any, .any, .any, .any, .any, .any, .any, .any, .any, .any, .any, .any, .any, .any, .any, .any, .any, .any, .any, .any, .any, .any, .any, .any, .any, .any, .any, .any, .any, .any], [.dead, .dead, .dead, .dead, .dead, .dead, .dead, .dead, .dead, .dead, .dead, .arr 79 1 true (u32s t.1.2.1), .dead, .dead, .dead, .dead, .dead, .dead, .dead, .dead, .dead, .dead, .dead, .dead, .dead, .dead, .dead, .dead, .dead, .dead, .dead, .dead, .dead, .dead, .dead, .dead, .dead, .dead, .dead, .dead, .dead]⟩) (fun t => l.length - t.1.1)
    ⟨(0, List.replicate (l.length + 1) 0, k0), by simp, by simp, Limbs.rep _, hd, by simp [val]⟩ (Le_of (by simp [leE]) (by simp)) fun t => ?_)
  obtain ⟨⟨i, c, k⟩, h3, h4, h5, h6, h7⟩ := t
  dsimp only at h3 h4 h5 h6 h7 ⊢
  by_cases hlt : i < l.length
  · have hx := hl.getD i
    have hi : i < c.length := by omega
    have hor := twice_lo (x := l.getD i 0) h6
    have hk32 : k < 4294967296 := by omega
    have hlo : l.getD i 0 * 2 ^ 1 % 4294967296 < 4294967296 := Nat.mod_lt _ (by omega)
    refine W_seq ?_
    ((refine W_seqV fun K hK => ?_); simp (disch := omega) only [regV_cons, effW_free, opF_move, ev_tmp, List.getD_cons_succ, List.getD_cons_zero, atK_ap, restV_ap, Eff.app, List.set, Eff.wi, Option.map_none, List.nil_append, List.cons_append, opF_len, ty25, lenW_sl, u32s_length, valK_ap, opF_binOp, ty3, binW_lss, nat_lt_int, hlt, decide_true, regV_nil, sepL, List.not_mem_nil, false_implies, implies_true, true_and])
    (refine hK _ ?_; clear hK K)
    (first | refine W_cond rfl (fun _ => ?_) (fun h => by cases h) | refine W_seq (W_cond rfl (fun _ => ?_) (fun h => by cases h)))
    refine W_skip ?_
    simp only [thenW]
    refine W_seq (W_block ?_)
    ((refine W_seqV fun K hK => ?_); simp (disch := omega) only [regV_cons, effW_free, opF_move, ev_tmp, List.getD_cons_succ, List.getD_cons_zero, atK_ap, restV_ap, Eff.app, List.set, Eff.wi, Option.map_none, List.nil_append, List.cons_append, opF_indexAddr, ty25, objOf, indexAddrW_sl, ty79, ne_eq, reduceCtorEq, not_false_eq_true, nat_nonneg, u32s_length, nat_lt_int, hlt, u32s_all, toNat_natCast, u32s_getD, valK_ap, opF_load, TI.isAgg, Bool.false_eq_true, or_true, loadW_ia, Nat.zero_add, List.length_cons, List.length_nil, Nat.reduceLeDiff, ofCells, List.drop_zero, List.take_succ_cons, List.take_zero, List.headD_cons, if_false, opF_binOp, ev_const, cst_int, binW_shl, Int.reduceLE, Int.reduceToNat, min_u32, shl_u32, Nat.reducePow, binW_or, bor_u32, indexAddrW_sref, kOk_arr, opF_store, storeF_ptr, storeO_arr, storable, AV.one, cellsOf, forall_const, overlay, List.drop_succ_cons, List.drop_nil, List.append_nil, u32s_set, wrK_ap, Option.map_some, regV_nil, sepL, List.not_mem_nil, false_implies, implies_true, true_and])
    ((repeat (refine And.intro (by first | omega | (show AV.pures _ = true; rfl)) ?_)); refine hK _ ?_; clear hK K)
    ((refine W_regV fun K hK => ?_); simp (disch := omega) only [regV_cons, effW_free, opF_move, ev_tmp, List.getD_cons_zero, atK_ap, restV_ap, Eff.app, List.set, Eff.wi, Option.map_none, List.nil_append, List.getD_cons_succ, List.cons_append, opF_indexAddr, ty25, objOf, indexAddrW_sl, ty79, ne_eq, reduceCtorEq, not_false_eq_true, nat_nonneg, u32s_length, nat_lt_int, hlt, u32s_all, toNat_natCast, u32s_getD, valK_ap, opF_load, TI.isAgg, Bool.false_eq_true, or_true, loadW_ia, Nat.zero_add, List.length_cons, List.length_nil, Nat.reduceLeDiff, ofCells, List.drop_zero, List.take_succ_cons, List.take_zero, List.headD_cons, if_false, opF_binOp, ev_const, cst_int, binW_shr, Int.reduceLE, Int.reduceToNat, min_u32, fdiv_pow, Nat.reducePow, opF_assign, regV_nil, sepL, List.not_mem_nil, false_implies, implies_true, true_and])
    (refine hK _ ?_; clear hK K)
    simp only [thenW, blockW]
    ((refine W_regV fun K hK => ?_); simp (disch := omega) only [regV_cons, effW_free, opF_move, ev_tmp, List.getD_cons_succ, List.getD_cons_zero, atK_ap, restV_ap, Eff.app, List.set, Eff.wi, Option.map_none, List.nil_append, opF_binOp, ty3, ev_const, cst_int, binW_add, wrap_i64_one, valK_ap, List.cons_append, opF_assign, regV_nil, sepL, List.not_mem_nil, false_implies, implies_true, true_and])
    (refine hK _ ?_; clear hK K)
    simp only [thenW, blockW]
    have hor2 : l.getD i 0 * 2 % 4294967296 ||| k = l.getD i 0 * 2 % 4294967296 + k := hor
    have hkk : l.getD i 0 / 2 ^ 31 = l.getD i 0 / 2147483648 := rfl
    simp only [Nat.pow_one, hor2, hkk]
    refine ⟨⟨(i + 1, c.set i (l.getD i 0 * 2 % 4294967296 + k), l.getD i 0 / 2147483648), by dsimp only; omega, by simpa using h4, h5.set i (by omega), by dsimp only; omega, ?_⟩, Le_of (by simp [leE]) (by simp), by dsimp only; omega⟩
    dsimp only
    rw [val_take_set hi, val_take_succ, Nat.pow_succ]
    exact twice_round h7 h6 hx rfl
  · obtain rfl : i = l.length := by omega
    have hlt' : decide (l.length < l.length) = false := decide_eq_false (by omega)
    have hi : l.length < c.length := by omega
    have hv := val_take_set hi k
    rw [List.take_length] at h7
    rw [List.take_of_length_le (by simp; omega), h7] at hv
    have hn := fnorm_ok (c.set l.length k) (h5.set _ (by omega)) (by simp; omega)
    rw [hv] at hn
    refine W_seq ?_
    ((refine W_seqV fun K hK => ?_); simp (disch := omega) only [regV_cons, effW_free, opF_move, ev_tmp, List.getD_cons_succ, List.getD_cons_zero, atK_ap, restV_ap, Eff.app, List.set, Eff.wi, Option.map_none, List.nil_append, List.cons_append, opF_len, ty25, lenW_sl, u32s_length, valK_ap, opF_binOp, ty3, binW_lss, Int.lt_irrefl, decide_false, regV_nil, sepL, List.not_mem_nil, false_implies, implies_true, true_and])
    (refine hK _ ?_; clear hK K)
    (first | refine W_cond rfl (fun h => by cases h) (fun _ => ?_) | refine W_seq (W_cond rfl (fun h => by cases h) (fun _ => ?_)))
    refine W_exit ?_
    simp only [thenW, blockW, if_true]
    ((refine W_seqV fun K hK => ?_); simp (disch := omega) only [regV_cons, effW_free, opF_move, ev_tmp, List.getD_cons_succ, List.getD_cons_zero, atK_ap, restV_ap, Eff.app, List.set, Eff.wi, Option.map_none, List.nil_append, List.cons_append, opF_len, ty25, lenW_sl, u32s_length, valK_ap, opF_indexAddr, objOf, indexAddrW_sref, ty79, ne_eq, reduceCtorEq, not_false_eq_true, nat_nonneg, nat_lt_int, kOk_arr, toNat_natCast, Nat.zero_add, opF_store, storeF_ptr, storeO_arr, storable, AV.one, cellsOf, List.length_cons, List.length_nil, forall_const, u32s_getD, Nat.reduceLeDiff, overlay, List.take_zero, List.drop_succ_cons, List.drop_nil, List.append_nil, u32s_set, wrK_ap, Option.map_some, regV_nil, sepL, List.not_mem_nil, false_implies, implies_true, true_and])
    ((repeat (refine And.intro (by first | omega | (show AV.pures _ = true; rfl)) ?_)); refine hK _ ?_; clear hK K)
    (refine W.le ?_ (Le_freeze 11 (rows := u32s (c.set l.length k)) rfl (by simp) (.inl rfl)); simp only [St.freeze, List.map_cons, List.map_nil, List.set, if_true, if_false, Nat.reduceEqDiff, reduceCtorEq, List.drop_zero, u32s_take, u32s_drop, froz_any, froz_und, froz_int, froz_bool, froz_str, froz_nils, froz_sl, froz_ia, froz_nilp, froz_nilif, froz_nilfn, froz_nilmp, froz_gl, froz_sref, froz_ptr, froz_agg, froz_tup, froz_fn, froz_ifc, frozs_nil, frozs_cons, froz_dead, froz_arr])
    rw [List.take_of_length_le (by simp; omega)]
    ((refine W_seqV fun K hK => ?_); simp (disch := omega) only [u32s_getD_set, regV_cons, effW_free, opF_move, ev_tmp, List.getD_cons_succ, List.getD_cons_zero, atK_ap, restV_ap, Eff.app, List.set, Eff.wi, Option.map_none, List.nil_append, opF_call, ev_func, List.map_cons, List.map_nil, callF_fn, List.append_nil, List.cons_append, opF_assign, regV_nil, sepL, List.not_mem_nil, false_implies, implies_true, true_and])
    (refine ⟨by kernel_rfl, rfl, _, hn, ?_⟩; (try simp (disch := omega) only [cN, cNat]))
    (refine hK _ ?_; clear hK K)
    refine W_ret ?_
    simp (disch := omega) only [retR, resW, resV, List.getD_cons_succ, List.getD_cons_zero, asOne_one, view_sl, cN, cNat]

set_option maxHeartbeats 4000000 in
theorem fbit_ok (l : List Nat) (i : Nat) (hl : Limbs l) (h1 : l.length < 549755813888) (hi : i < 1125899906842624) : Pure Try.prog 68 [cNat l, .int .i64 i] (· = .bool (bitV (val l) i)) := by
  have hx := hl.getD (i / 32)
  have hb : bitV (val l) i = (l.getD (i / 32) 0 / 2 ^ (i % 32) % 2 == 1) := by
    unfold bitV
    rw [← bit_limb l hl (i / 32) (i % 32) (Nat.mod_lt _ (by omega)), Nat.div_add_mod]
  have hq : IntKind.wrap .i64 ((i : Int).tdiv 32) = ((i / 32 : Nat) : Int) := by
    rw [show (i : Int).tdiv 32 = ((i / 32 : Nat) : Int) from rfl]; exact wrap_i64_nat (by omega)
  have hr : (i : Int).tmod 32 = ((i % 32 : Nat) : Int) := rfl
  have hm : min (i % 32) 32 = i % 32 := Nat.min_eq_left (by omega)
  have hge : decide ((0 : Int) ≤ (i : Int)) = true := decide_eq_true (by omega)
  by_cases hlt : i / 32 < l.length
  · (refine pureW Try.func68 rfl (rs := [Go.ResultVar.tmp 4]) rfl (n := 27) rfl ?_; simp only [List.length_cons, List.length_nil, List.replicate, List.cons_append, List.nil_append])
    unfold cNat
    (repeat (refine W_seqV fun K hK => ?_; (try simp (disch := omega) only [regV_cons, effW_free, opF_assign, ev_const, cst_bool, atK_ap, restV_ap, Eff.app, List.set, Eff.wi, Option.map_none, List.nil_append, regV_nil, sepL, List.not_mem_nil, false_implies, implies_true, true_and]); (repeat refine And.intro (by omega) ?_); refine hK _ ?_; clear hK K))
    ((refine W_seqV fun K hK => ?_); simp (disch := omega) only [regV_cons, effW_free, opF_move, ev_tmp, List.getD_cons_succ, List.getD_cons_zero, atK_ap, restV_ap, Eff.app, List.set, Eff.wi, Option.map_none, List.nil_append, opF_binOp, ty3, ev_const, cst_int, binW_geq, ge_iff_le, nat_nonneg, decide_true, valK_ap, List.cons_append, effW_guard, guardOf, List.getElem?_toArray, List.getElem?_cons_succ, List.getElem?_cons_zero, Option.bind_some, effH_tt, binW_quo, ne_eq, hq, opF_len, ty25, lenW_sl, u32s_length, binW_lss, nat_lt_int, hlt, opF_pick, cst_bool, pickW_bool, cond_true, opF_indexAddr, objOf, indexAddrW_sl, ty79, reduceCtorEq, not_false_eq_true, u32s_all, toNat_natCast, u32s_getD, opF_load, TI.isAgg, Bool.false_eq_true, or_true, loadW_ia, Nat.zero_add, List.length_cons, List.length_nil, Nat.reduceLeDiff, ofCells, List.drop_zero, List.take_succ_cons, List.take_zero, List.headD_cons, if_false, binW_rem, hr, opF_convert, tyUint, convW_int, wrap_u64_nat, binW_shr, min_u32, fdiv_pow, binW_and, binW_eql, opF_assign, regV_nil, sepL, List.not_mem_nil, false_implies, implies_true, true_and])
    repeat refine And.intro (by first | decide | omega) ?_
    refine hK _ ?_
    refine W_ret ?_
    simp (disch := omega) only [retR, resW, resV, List.getD_cons_succ, List.getD_cons_zero, asOne_one, view_bool]
    rw [hb]
    have hand := band_u32 (x := l.getD (i / 32) 0 / 2 ^ (i % 32)) (y := 1) (Nat.lt_of_le_of_lt (Nat.div_le_self _ _) hx) (by decide)
    rw [show ((1 : Nat) : Int) = 1 from rfl] at hand
    rw [hand, and1]
    congr 1
    rw [Bool.eq_iff_iff, beq_iff_eq, beq_iff_eq]
    omega
  · have hlt' : decide (i / 32 < l.length) = false := decide_eq_false hlt
    have h0 : l.getD (i / 32) 0 = 0 := by simp [List.getD_eq_getElem?_getD, List.getElem?_eq_none (show l.length ≤ i / 32 by omega)]
    rw [hb, h0]
    (refine pureW Try.func68 rfl (rs := [Go.ResultVar.tmp 4]) rfl (n := 27) rfl ?_; simp only [List.length_cons, List.length_nil, List.replicate, List.cons_append, List.nil_append])
    unfold cNat
    (repeat (refine W_seqV fun K hK => ?_; (try simp (disch := omega) only [regV_cons, effW_free, opF_assign, ev_const, cst_bool, atK_ap, restV_ap, Eff.app, List.set, Eff.wi, Option.map_none, List.nil_append, regV_nil, sepL, List.not_mem_nil, false_implies, implies_true, true_and]); (repeat refine And.intro (by omega) ?_); refine hK _ ?_; clear hK K))
    ((refine W_seqV fun K hK => ?_); simp (disch := omega) only [regV_cons, effW_free, opF_move, ev_tmp, List.getD_cons_succ, List.getD_cons_zero, atK_ap, restV_ap, Eff.app, List.set, Eff.wi, Option.map_none, List.nil_append, opF_binOp, ty3, ev_const, cst_int, binW_geq, ge_iff_le, nat_nonneg, decide_true, valK_ap, List.cons_append, effW_guard, guardOf, List.getElem?_toArray, List.getElem?_cons_succ, List.getElem?_cons_zero, Option.bind_some, effH_tt, binW_quo, ne_eq, hq, opF_len, ty25, lenW_sl, u32s_length, binW_lss, nat_lt_int, hlt', opF_pick, cst_bool, pickW_bool, cond_true, effH_tf, pickW_no, opF_assign, regV_nil, sepL, List.not_mem_nil, false_implies, implies_true, true_and])
    repeat refine And.intro (by first | decide | omega) ?_
    refine hK _ ?_
    refine W_ret ?_
    simp (disch := omega) only [retR, resW, resV, List.getD_cons_succ, List.getD_cons_zero, asOne_one, view_bool]
    simp

theorem shr_pos {l : List Nat} (h : Limbs l) : l.getD 0 0 % 2 = val l % 2 := by
  cases l with
  | nil => rfl
  | cons x l => simp only [List.getD_cons_zero, val]; omega
/-- What is there after i limbs of a half: the i-th place and all behind it are still 0. -/
structure Hf (l c : List Nat) (i : Nat) : Prop where
  len : c.length = l.length
  limbs : Limbs c
  eq : 2 * val c + (if i = 0 then 0 else l.getD 0 0 % 2) = val (l.take i)
  zero : ∀ j, i ≤ j → c.getD j 0 = 0
  low : 0 < i → c.getD (i - 1) 0 < 2147483648
theorem Hf.start (l : List Nat) : Hf l (List.replicate l.length 0) 0 :=
  ⟨by simp, Limbs.rep _, by simp [val, val_zeros], fun j _ => by simp [List.getD_eq_getElem?_getD, List.getElem?_replicate]; split <;> simp, fun h => by omega⟩
theorem Hf.zero_step {l c : List Nat} (h : Hf l c 0) (hl : 0 < l.length) (hL : Limbs l) : Hf l (c.set 0 (l.getD 0 0 / 2)) 1 := by
  have hx := hL.getD 0
  have h1 := h.len
  have h2 := val_set (l := c) (p := 0) (by omega) (l.getD 0 0 / 2)
  have h3 := h.eq
  have h4 := h.zero 0 (Nat.le_refl _)
  rw [h4] at h2
  simp only [Nat.pow_zero, Nat.one_mul, Nat.add_zero, List.take_zero, val, if_true] at h2 h3
  refine ⟨by simpa using h1, h.limbs.set _ (by omega), ?_, fun j hj => ?_, fun _ => ?_⟩
  · rw [val_take_succ]
    simp only [List.take_zero, val, Nat.pow_zero, Nat.one_mul, Nat.zero_add, show (1 : Nat) ≠ 0 by omega, if_false]
    omega
  · rw [List.getD_eq_getElem?_getD, List.getElem?_set_ne (by omega), ← List.getD_eq_getElem?_getD]
    exact h.zero j (by omega)
  · rw [List.getD_eq_getElem?_getD, Nat.sub_self, List.getElem?_set_self (by omega)]
    simp only [Option.getD_some]
    omega
theorem half_alg {V2 V1 V0 P B M y x t : Nat} (hB : B = 2 * M) (h2 : V1 + P * y = V0 + P * (y + x % 2 * M)) (h3 : V2 = V1 + P * B * (x / 2)) : 2 * V2 + t = 2 * V0 + t + P * B * x := by
  subst hB
  rw [Nat.mul_add] at h2
  have h4 : V1 = V0 + P * (x % 2 * M) := by omega
  subst h4 h3
  have e1 : P * (2 * M) * x = P * (2 * M) * (2 * (x / 2) + x % 2) := by rw [Nat.div_add_mod]
  rw [e1]
  generalize x / 2 = u
  generalize x % 2 = w
  have e2 : P * (2 * M) * (2 * u + w) = 2 * (P * (2 * M) * u) + 2 * (P * (w * M)) := by
    rw [Nat.mul_add, ← Nat.mul_assoc _ 2, Nat.mul_comm _ 2, Nat.mul_assoc 2]
    congr 1
    rw [Nat.mul_assoc, Nat.mul_assoc, Nat.mul_comm M w, ← Nat.mul_assoc P 2, Nat.mul_comm P 2, Nat.mul_assoc 2]
  rw [e2]
  omega
theorem Hf.step {l c : List Nat} {i : Nat} (h : Hf l c (i + 1)) (hi : i + 1 < l.length) (hL : Limbs l) :
    Hf l ((c.set i (c.getD i 0 + l.getD (i + 1) 0 % 2 * 2147483648)).set (i + 1) (l.getD (i + 1) 0 / 2)) (i + 2) := by
  have hx := hL.getD (i + 1)
  have h1 := h.len
  have hlow := h.low (by omega)
  rw [Nat.add_sub_cancel] at hlow
  have h2 := val_set (l := c) (p := i) (by omega) (c.getD i 0 + l.getD (i + 1) 0 % 2 * 2147483648)
  have h3 := val_set (l := c.set i (c.getD i 0 + l.getD (i + 1) 0 % 2 * 2147483648)) (p := i + 1) (by simp; omega) (l.getD (i + 1) 0 / 2)
  have h4 : (c.set i (c.getD i 0 + l.getD (i + 1) 0 % 2 * 2147483648)).getD (i + 1) 0 = 0 := by
    rw [List.getD_eq_getElem?_getD, List.getElem?_set_ne (by omega), ← List.getD_eq_getElem?_getD]
    exact h.zero _ (Nat.le_refl _)
  rw [h4] at h3
  have h5 := h.eq
  simp only [show i + 1 ≠ 0 by omega, if_false] at h5
  refine ⟨by simpa using h1, (h.limbs.set _ (by omega)).set _ (by omega), ?_, fun j hj => ?_, fun _ => ?_⟩
  · rw [val_take_succ, ← h5]
    simp only [show i + 1 + 1 ≠ 0 by omega, if_false]
    rw [Nat.pow_succ] at h3 ⊢
    rw [Nat.mul_zero, Nat.add_zero] at h3
    exact half_alg (by decide) h2 h3
  · rw [List.getD_eq_getElem?_getD, List.getElem?_set_ne (by omega), List.getElem?_set_ne (by omega), ← List.getD_eq_getElem?_getD]
    exact h.zero j (by omega)
  · rw [List.getD_eq_getElem?_getD, show i + 2 - 1 = i + 1 by omega, List.getElem?_set_self (by simp; omega)]
    simp only [Option.getD_some]
    omega
theorem Hf.done {l c : List Nat} (h : Hf l c l.length) (hL : Limbs l) : val c = val l / 2 := by
  have h1 := h.eq
  rw [List.take_length] at h1
  have h2 := shr_pos hL
  split at h1
  · rename_i h0
    rw [List.eq_nil_of_length_eq_zero h0] at h1 ⊢
    simp only [val] at *
    omega
  · omega
end Go.Proofs.Ytjkjapjcmbfkgaa.Vm

/-
  The reference's natural numbers: Shift by -1.
-/
namespace Go.Proofs.Ytjkjapjcmbfkgaa.Vm
open Go Go.RowKit
set_option linter.unusedVariables false
set_option linter.unusedSimpArgs false
set_option pp.deepTerms false
set_option pp.deepTerms.threshold 8

theorem shr_lo {x y : Nat} (hy : y < 2147483648) : (y ||| x * 2147483648 % 4294967296) = y + x % 2 * 2147483648 := by
  have h1 : x * 2147483648 % 4294967296 = (x % 2) * 2 ^ 31 := by omega
  rw [h1, Nat.or_comm, or_add (by omega)]
  omega
theorem shr_hi {x : Nat} (hx : x < 4294967296) : (0 ||| x * 2147483648 / 4294967296 % 4294967296) = x / 2 := by
  rw [Nat.zero_or]
  omega

set_option maxRecDepth 20000 in
set_option maxHeartbeats 8000000 in
theorem fshr_ok (l : List Nat) (hl : Limbs l) (h1 : l.length < 549755813888) : Pure Try.prog 69 [cNat l, .int .i64 (-1)] (· = .tup [cN (val l / 2), .int .i64 0]) := by
  have hn := fnorm_ok l hl (by omega)
  have hnl := limbs_val_length hl
  have c1 : IntKind.wrap .i64 (Int.tdiv (-1) 32) = 0 := rfl
  have c2 : Int.tmod (-1) 32 = -1 := rfl
  have c3 : IntKind.wrap .i64 (-1) = -1 := rfl
  have c4 : IntKind.wrap .i64 31 = 31 := rfl
  have c5 : IntKind.wrap .u64 31 = 31 := rfl
  simp only [cN, cNat] at hn
  by_cases h0 : val l = 0
  · rw [h0, limbs_zero] at hn
    (refine pureW Try.func69 rfl (rs := [Go.ResultVar.tmp 4, Go.ResultVar.tmp 5]) rfl (n := 106) rfl ?_; simp only [List.length_cons, List.length_nil, List.replicate, List.cons_append, List.nil_append])
    unfold cNat
    (repeat (refine W_seqV fun K hK => ?_; (try simp (disch := omega) only [Int.reduceNeg, regV_cons, effW_free, opF_assign, ev_const, cst_nils, atK_ap, restV_ap, Eff.app, List.set, Eff.wi, Option.map_none, List.nil_append, cst_int, List.cons_append, regV_nil, sepL, List.not_mem_nil, false_implies, implies_true, true_and]); refine hK _ ?_; clear hK K))
    refine W_seq ?_
    ((refine W_seqV fun K hK => ?_); simp (disch := omega) only [Int.reduceNeg, regV_cons, effW_free, opF_move, ev_tmp, List.getD_cons_succ, List.getD_cons_zero, atK_ap, restV_ap, Eff.app, List.set, Eff.wi, Option.map_none, List.nil_append, opF_binOp, ty3, ev_const, cst_int, binW_lss, Int.reduceLT, decide_false, valK_ap, List.cons_append, effW_guard, guardOf, List.getElem?_toArray, List.getElem?_cons_succ, List.getElem?_cons_zero, Option.bind_some, effH_ff, binW_gtr, gt_iff_lt, opF_pick, cst_bool, pickW_bool, cond_false, regV_nil, sepL, List.not_mem_nil, false_implies, implies_true, true_and])
    (refine hK _ ?_; clear hK K)
    (first | refine W_cond rfl (fun h => by cases h) (fun _ => ?_) | refine W_seq (W_cond rfl (fun h => by cases h) (fun _ => ?_)))
    refine W_skip ?_
    simp only [thenW]
    refine W_seq ?_
    ((refine W_seqV fun K hK => ?_); simp (disch := omega) only [Int.reduceNeg, regV_cons, effW_free, opF_move, ev_tmp, List.getD_cons_zero, atK_ap, restV_ap, Eff.app, List.set, Eff.wi, Option.map_none, List.nil_append, opF_call, ev_func, List.map_cons, List.getD_cons_succ, List.map_nil, callF_fn, List.append_nil, List.cons_append, opF_len, ty25])
    (refine ⟨by kernel_rfl, rfl, _, hn, ?_⟩; (try simp (disch := omega) only [Int.reduceNeg, lenW_sl, u32s_length, List.length_nil, Int.cast_ofNat_Int, valK_ap, atK_ap, restV_ap, Eff.app, List.set, Eff.wi, Option.map_none, List.cons_append, List.nil_append, regV_cons, effW_free, opF_binOp, ty3, ev_tmp, List.getD_cons_succ, List.getD_cons_zero, ev_const, cst_int, binW_eql, regV_nil, sepL, List.not_mem_nil, false_implies, implies_true, true_and]))
    (refine hK _ ?_; clear hK K)
    (first | refine W_cond rfl (fun _ => ?_) (fun h => by cases h) | refine W_seq (W_cond rfl (fun _ => ?_) (fun h => by cases h)))
    ((refine W_seqV fun K hK => ?_); simp (disch := omega) only [Int.reduceNeg, regV_cons, effW_free, opF_buildSlice, ty25, List.map_nil, litD_slice, dead, List.getElem?_cons_succ, List.getElem?_cons_zero, ty79, ne_eq, reduceCtorEq, not_false_eq_true, List.length_cons, List.length_nil, Nat.zero_add, range0, Nat.reduceMul, Nat.reduceLeDiff, List.not_mem_nil, storable, AV.one, cellsOf, false_implies, implies_true, valK_ap, atK_ap, restV_ap, Eff.app, List.set, Eff.wi, Option.map_none, List.nil_append, opF_assign, ev_tmp, List.getD_cons_succ, List.getD_cons_zero, List.cons_append, ev_const, cst_int, regV_nil, sepL, true_and])
    (refine hK _ ?_; clear hK K)
    refine W_ret ?_
    simp (disch := omega) only [thenW, retR, resW, resV, List.getD_cons_succ, List.getD_cons_zero, asOne_two, view_tup, views_cons, view_sl, view_int, views_nil, cN, cNat]
    simp [h0, cN, cNat, limbs_zero, u32s]
  · have hp := limbs_len_pos h0
    have hz : (((limbs (val l)).length : Int) == 0) = false := by rw [beq_eq_false_iff_ne]; omega
    have hlp : 0 < l.length := by omega
    (refine pureW Try.func69 rfl (rs := [Go.ResultVar.tmp 4, Go.ResultVar.tmp 5]) rfl (n := 106) rfl ?_; simp only [List.length_cons, List.length_nil, List.replicate, List.cons_append, List.nil_append])
    unfold cNat
    (repeat (refine W_seqV fun K hK => ?_; (try simp (disch := omega) only [Int.reduceNeg, regV_cons, effW_free, opF_assign, ev_const, cst_nils, atK_ap, restV_ap, Eff.app, List.set, Eff.wi, Option.map_none, List.nil_append, cst_int, List.cons_append, regV_nil, sepL, List.not_mem_nil, false_implies, implies_true, true_and]); refine hK _ ?_; clear hK K))
    refine W_seq ?_
    ((refine W_seqV fun K hK => ?_); simp (disch := omega) only [Int.reduceNeg, regV_cons, effW_free, opF_move, ev_tmp, List.getD_cons_succ, List.getD_cons_zero, atK_ap, restV_ap, Eff.app, List.set, Eff.wi, Option.map_none, List.nil_append, opF_binOp, ty3, ev_const, cst_int, binW_lss, Int.reduceLT, decide_false, valK_ap, List.cons_append, effW_guard, guardOf, List.getElem?_toArray, List.getElem?_cons_succ, List.getElem?_cons_zero, Option.bind_some, effH_ff, binW_gtr, gt_iff_lt, opF_pick, cst_bool, pickW_bool, cond_false, regV_nil, sepL, List.not_mem_nil, false_implies, implies_true, true_and])
    (refine hK _ ?_; clear hK K)
    (first | refine W_cond rfl (fun h => by cases h) (fun _ => ?_) | refine W_seq (W_cond rfl (fun h => by cases h) (fun _ => ?_)))
    refine W_skip ?_
    simp only [thenW]
    refine W_seq ?_
    ((refine W_seqV fun K hK => ?_); simp (disch := omega) only [Int.reduceNeg, regV_cons, effW_free, opF_move, ev_tmp, List.getD_cons_zero, atK_ap, restV_ap, Eff.app, List.set, Eff.wi, Option.map_none, List.nil_append, opF_call, ev_func, List.map_cons, List.getD_cons_succ, List.map_nil, callF_fn, List.append_nil, List.cons_append, opF_len, ty25])
    (refine ⟨by kernel_rfl, rfl, _, hn, ?_⟩; (try simp (disch := omega) only [Int.reduceNeg, lenW_sl, u32s_length, valK_ap, atK_ap, restV_ap, Eff.app, List.set, Eff.wi, Option.map_none, List.cons_append, List.nil_append, regV_cons, effW_free, opF_binOp, ty3, ev_tmp, List.getD_cons_succ, List.getD_cons_zero, ev_const, cst_int, binW_eql, regV_nil, sepL, List.not_mem_nil, false_implies, implies_true, true_and]))
    simp (disch := omega) only [Int.reduceNeg, hz]
    (refine hK _ ?_; clear hK K)
    (first | refine W_cond rfl (fun h => by cases h) (fun _ => ?_) | refine W_seq (W_cond rfl (fun h => by cases h) (fun _ => ?_)))
    refine W_skip ?_
    simp only [thenW]
    clear hn hz
    (repeat (refine W_seqV fun K hK => ?_; (try simp (disch := omega) only [Int.reduceNeg, regV_cons, effW_free, opF_move, ev_tmp, List.getD_cons_zero, atK_ap, restV_ap, Eff.app, List.set, Eff.wi, Option.map_none, List.nil_append, opF_len, ty25, List.getD_cons_succ, lenW_sl, u32s_length, valK_ap, List.cons_append, opF_assign, regV_nil, sepL, List.not_mem_nil, false_implies, implies_true, true_and]); refine hK _ ?_; clear hK K))
    refine W_seq ?_
    ((refine W_seqV fun K hK => ?_); simp (disch := omega) only [Int.reduceNeg, regV_cons, effW_free, opF_move, ev_tmp, List.getD_cons_succ, List.getD_cons_zero, atK_ap, restV_ap, Eff.app, List.set, Eff.wi, Option.map_none, List.nil_append, opF_binOp, ty3, ev_const, cst_int, binW_gtr, gt_iff_lt, Int.reduceLT, decide_false, valK_ap, List.cons_append, regV_nil, sepL, List.not_mem_nil, false_implies, implies_true, true_and])
    (refine hK _ ?_; clear hK K)
    (first | refine W_cond rfl (fun h => by cases h) (fun _ => ?_) | refine W_seq (W_cond rfl (fun h => by cases h) (fun _ => ?_)))
    refine W_skip ?_
    simp only [thenW]
    ((refine W_seqR fun K hK => ?_); simp (disch := omega) only [Int.reduceNeg, opsW_free, opW_move, St.ret, List.set, ev_tmp, List.getD_cons_succ, List.getD_cons_zero, restO_ap, opW_makeSlice, ty25, makeW_slice, dead, List.getElem?_cons_succ, List.getElem?_cons_zero, ty79, ne_eq, reduceCtorEq, not_false_eq_true, List.length_cons, List.length_nil, Nat.zero_add, nat_nonneg, Int.cast_ofNat_Int, toNat_natCast, St.seth, u32s_rep, retK2_ap, opW_assign, opsW_nil, true_and])
    ((repeat refine And.intro (by omega) ?_); refine hK _ ?_; clear hK K)
    ((refine W_seqV fun K hK => ?_); simp (disch := omega) only [Int.reduceNeg, regV_cons, effW_free, opF_move, ev_tmp, List.getD_cons_succ, List.getD_cons_zero, atK_ap, restV_ap, Eff.app, List.set, Eff.wi, Option.map_none, List.nil_append, opF_binOp, ty3, ev_const, cst_int, binW_quo, ne_eq, c1, valK_ap, List.cons_append, opF_assign, regV_nil, sepL, List.not_mem_nil, false_implies, implies_true, true_and])
    ((repeat refine And.intro (by omega) ?_); refine hK _ ?_; clear hK K)
    ((refine W_seqV fun K hK => ?_); simp (disch := omega) only [Int.reduceNeg, regV_cons, effW_free, opF_move, ev_tmp, List.getD_cons_succ, List.getD_cons_zero, atK_ap, restV_ap, Eff.app, List.set, Eff.wi, Option.map_none, List.nil_append, opF_binOp, ty3, ev_const, cst_int, binW_rem, ne_eq, c2, valK_ap, List.cons_append, opF_assign, regV_nil, sepL, List.not_mem_nil, false_implies, implies_true, true_and])
    ((repeat refine And.intro (by omega) ?_); refine hK _ ?_; clear hK K)
    refine W_seq ?_
    ((refine W_seqV fun K hK => ?_); simp (disch := omega) only [Int.reduceNeg, regV_cons, effW_free, opF_move, ev_tmp, List.getD_cons_succ, List.getD_cons_zero, atK_ap, restV_ap, Eff.app, List.set, Eff.wi, Option.map_none, List.nil_append, opF_binOp, ty3, ev_const, cst_int, binW_lss, Int.reduceLT, decide_true, valK_ap, List.cons_append, regV_nil, sepL, List.not_mem_nil, false_implies, implies_true, true_and])
    (refine hK _ ?_; clear hK K)
    (first | refine W_cond rfl (fun _ => ?_) (fun h => by cases h) | refine W_seq (W_cond rfl (fun _ => ?_) (fun h => by cases h)))
    ((refine W_seqV fun K hK => ?_); simp (disch := omega) only [Int.reduceNeg, regV_cons, effW_free, opF_move, ev_tmp, List.getD_cons_succ, List.getD_cons_zero, atK_ap, restV_ap, Eff.app, List.set, Eff.wi, Option.map_none, List.nil_append, opF_binOp, ty3, ev_const, cst_int, binW_sub, Int.reduceSub, c3, valK_ap, List.cons_append, opF_assign, regV_nil, sepL, List.not_mem_nil, false_implies, implies_true, true_and])
    (refine hK _ ?_; clear hK K)
    ((refine W_regV fun K hK => ?_); simp (disch := omega) only [Int.reduceNeg, regV_cons, effW_free, opF_move, ev_tmp, List.getD_cons_succ, List.getD_cons_zero, atK_ap, restV_ap, Eff.app, List.set, Eff.wi, Option.map_none, List.nil_append, opF_binOp, ty3, ev_const, cst_int, binW_add, Int.reduceAdd, c4, valK_ap, List.cons_append, opF_assign, regV_nil, sepL, List.not_mem_nil, false_implies, implies_true, true_and])
    (refine hK _ ?_; clear hK K)
    simp only [thenW]
    ((refine W_seq ?_; refine W_seqV fun K hK => ?_); simp (disch := omega) only [Int.reduceNeg, regV_cons, effW_free, opF_assign, ev_const, cst_int, atK_ap, restV_ap, Eff.app, List.set, Eff.wi, Option.map_none, List.nil_append, regV_nil, sepL, List.not_mem_nil, false_implies, implies_true, true_and])
    (refine hK _ ?_; clear hK K)
    refine W_block (W_loop (fun t : {t : Nat × List Nat // t.1 ≤ l.length ∧ Hf l t.2 t.1} =>
      ⟨((.sl (u32s l)) :: (.int .i64 (-1)) :: .any :: .any :: .any :: (.int .i64 0) :: (.int .i64 l.length) :: (.sref 33 0 l.length) :: (.int .i64 (-1)) :: (.int .i64 31) :: (.int .i64 t.1.1) :: .any :: .any :: .any :: .any :: .any :: .any :: .any :: .any :: .any :: .any :: .any :: .any :: .any :: .any :: .any :: .any :: .any :: .any :: .any :: .any :: .any :: .any :: .any :: .any :: .any :: .any :: .any :: .any :: .any :: .any :: .any :: .any :: .any :: .any :: .any :: .any :: .any :: .any :: .any :: .any :: .any :: .any :: .any :: .any :: .any :: .any :: .any :: .any :: .any :: .any :: .any :: .any :: .any :: .any :: .any :: .any :: .any :: .any :: .any :: .any :: .any :: .any :: .any :: .any :: .any :: .any :: .any :: .any :: .any :: .any :: .any :: .any :: .any :: .any :: .any :: .any :: .any :: .any :: .any :: .any :: .any :: .any :: .any :: .any :: .any :: .any :: .any :: .any :: .any :: .any :: .any :: .any :: .any :: .any :: .any :: []), (.dead :: .dead :: .dead :: .dead :: .dead :: .dead :: .dead :: .dead :: .dead :: .dead :: .dead :: .dead :: .dead :: .dead :: .dead :: .dead :: .dead :: .dead :: .dead :: .dead :: .dead :: .dead :: .dead :: .dead :: .dead :: .dead :: .dead :: .dead :: .dead :: .dead :: .dead :: .dead :: .dead :: (.arr 79 1 true (u32s t.1.2)) :: .dead :: .dead :: .dead :: .dead :: .dead :: .dead :: .dead :: .dead :: .dead :: .dead :: .dead :: .dead :: .dead :: .dead :: .dead :: .dead :: .dead :: .dead :: .dead :: .dead :: .dead :: .dead :: .dead :: .dead :: .dead :: .dead :: .dead :: .dead :: .dead :: .dead :: .dead :: .dead :: .dead :: .dead :: .dead :: .dead :: .dead :: .dead :: .dead :: .dead :: .dead :: .dead :: .dead :: .dead :: .dead :: .dead :: .dead :: .dead :: .dead :: .dead :: .dead :: .dead :: .dead :: .dead :: .dead :: .dead :: .dead :: .dead :: .dead :: .dead :: .dead :: .dead :: .dead :: .dead :: .dead :: .dead :: .dead :: .dead :: .dead :: .dead :: .dead :: .dead :: [])⟩) (fun t => l.length - t.1.1)
      ⟨(0, List.replicate l.length 0), by simp, Hf.start l⟩ (Le_of (by simp [leE, c3, c4]) (by simp)) fun t => ?_)
    obtain ⟨⟨i, c⟩, h3, hH⟩ := t
    dsimp only at h3 hH ⊢
    have hcl := hH.len
    by_cases hlt : i < l.length
    · have hx := hl.getD i
      have hhi := shr_hi hx
      have hz := hH.zero i (Nat.le_refl _)
      have hd : l.getD i 0 / 2 < 4294967296 := by omega
      have hw : IntKind.wrap .i64 (IntKind.wrap .i64 ((i : Int) + -1) + 1) = (i : Int) := by rw [wrap_i64 (x := (i : Int) + -1) (by omega) (by omega), wrap_i64 (by omega) (by omega)]; omega
      have hge : decide (0 ≤ (i : Int)) = true := decide_eq_true (by omega)
      refine W_seq ?_
      ((refine W_seqV fun K hK => ?_); simp (disch := omega) only [Int.reduceNeg, regV_cons, effW_free, opF_move, ev_tmp, List.getD_cons_succ, List.getD_cons_zero, atK_ap, restV_ap, Eff.app, List.set, Eff.wi, Option.map_none, List.nil_append, List.cons_append, opF_len, ty25, lenW_sl, u32s_length, valK_ap, opF_binOp, ty3, binW_lss, nat_lt_int, hlt, decide_true, regV_nil, sepL, List.not_mem_nil, false_implies, implies_true, true_and])
      (refine hK _ ?_; clear hK K)
      (first | refine W_cond rfl (fun _ => ?_) (fun h => by cases h) | refine W_seq (W_cond rfl (fun _ => ?_) (fun h => by cases h)))
      refine W_skip ?_
      simp only [thenW]
      refine W_seq (W_block ?_)
      ((refine W_seqV fun K hK => ?_); simp (disch := omega) only [Int.reduceNeg, regV_cons, effW_free, opF_move, ev_tmp, List.getD_cons_zero, atK_ap, restV_ap, Eff.app, List.set, Eff.wi, Option.map_none, List.nil_append, List.getD_cons_succ, List.cons_append, opF_indexAddr, ty25, objOf, indexAddrW_sl, ty79, ne_eq, reduceCtorEq, not_false_eq_true, nat_nonneg, u32s_length, nat_lt_int, hlt, u32s_all, toNat_natCast, u32s_getD, valK_ap, opF_load, TI.isAgg, Bool.false_eq_true, or_true, loadW_ia, Nat.zero_add, List.length_cons, List.length_nil, Nat.reduceLeDiff, ofCells, List.drop_zero, List.take_succ_cons, List.take_zero, List.headD_cons, if_false, opF_convert, ty71, convW_int, wrap_u64_nat, ty3, tyUint, c5, opF_binOp, binW_shl, Int.reduceLE, Int.reduceToNat, min_u64, shl_u64, Nat.reducePow, opF_assign, regV_nil, sepL, List.not_mem_nil, false_implies, implies_true, true_and])
      (refine hK _ ?_; clear hK K)
      rcases i with _ | i
      · have hneg : decide (0 ≤ IntKind.wrap .i64 (((0 : Nat) : Int) + -1)) = false := rfl
        have hst := hH.zero_step hlt hl
        have hw0 : IntKind.wrap .i64 (IntKind.wrap .i64 (-1) + 1) = 0 := rfl
        have hw1 : IntKind.wrap .i64 0 = 0 := rfl
        refine W_seq ?_
        ((refine W_seqV fun K hK => ?_); simp (disch := omega) only [Int.reduceNeg, Int.cast_ofNat_Int, regV_cons, effW_free, opF_move, ev_tmp, List.getD_cons_succ, List.getD_cons_zero, atK_ap, restV_ap, Eff.app, List.set, Eff.wi, Option.map_none, List.nil_append, List.cons_append, opF_binOp, ty3, binW_add, Int.reduceAdd, c3, valK_ap, ev_const, cst_int, binW_geq, ge_iff_le, Int.reduceLE, decide_false, effW_guard, guardOf, List.getElem?_toArray, List.getElem?_cons_succ, List.getElem?_cons_zero, Option.bind_some, effH_tf, opF_pick, cst_bool, pickW_no, regV_nil, sepL, List.not_mem_nil, false_implies, implies_true, true_and])
        (refine hK _ ?_; clear hK K)
        (first | refine W_cond rfl (fun h => by cases h) (fun _ => ?_) | refine W_seq (W_cond rfl (fun h => by cases h) (fun _ => ?_)))
        refine W_skip ?_
        simp only [thenW]
        ((refine W_seqV fun K hK => ?_); simp (disch := omega) only [Int.reduceNeg, regV_cons, effW_free, opF_move, ev_tmp, List.getD_cons_succ, List.getD_cons_zero, atK_ap, restV_ap, Eff.app, List.set, Eff.wi, Option.map_none, List.nil_append, List.cons_append, opF_binOp, ty3, binW_add, Int.reduceAdd, c3, valK_ap, ev_const, cst_int, hw1, binW_geq, ge_iff_le, Int.reduceLE, decide_true, effW_guard, guardOf, List.getElem?_toArray, List.getElem?_cons_succ, List.getElem?_cons_zero, Option.bind_some, effH_tt, binW_lss, Int.natCast_pos, hlt, opF_pick, cst_bool, pickW_bool, cond_true, regV_nil, sepL, List.not_mem_nil, false_implies, implies_true, true_and])
        (refine hK _ ?_; clear hK K)
        (first | refine W_cond rfl (fun _ => ?_) (fun h => by cases h) | refine W_seq (W_cond rfl (fun _ => ?_) (fun h => by cases h)))
        have hc0 : c.getD 0 0 < 4294967296 := by omega
        ((refine W_regV fun K hK => ?_); simp (disch := omega) only [Int.reduceNeg, regV_cons, effW_free, opF_move, ev_tmp, List.getD_cons_succ, List.getD_cons_zero, atK_ap, restV_ap, Eff.app, List.set, Eff.wi, Option.map_none, List.nil_append, List.cons_append, opF_binOp, ty3, binW_add, Int.reduceAdd, c3, valK_ap, ev_const, cst_int, hw1, opF_indexAddr, ty25, objOf, indexAddrW_sref, ty79, ne_eq, reduceCtorEq, not_false_eq_true, Int.reduceLE, Int.natCast_pos, hlt, kOk_arr, Int.toNat_zero, Nat.add_zero, opF_load, TI.isAgg, Bool.false_eq_true, or_true, loadW_ptr, loadO_arr, u32s_length, Nat.zero_add, u32s_getD, List.length_cons, List.length_nil, Nat.reduceLeDiff, ofCells, List.drop_zero, List.take_succ_cons, List.take_zero, List.headD_cons, if_false, ty71, binW_shr, Int.reduceToNat, min_u64, fdiv_pow, Nat.reducePow, opF_convert, convW_int, wrap_u32_nat, binW_or, bor_u32, opF_store, storeF_ptr, storeO_arr, storable, AV.one, cellsOf, forall_const, overlay, List.drop_succ_cons, List.drop_nil, List.append_nil, u32s_set, wrK_ap, Option.map_some, regV_nil, sepL, List.not_mem_nil, false_implies, implies_true, true_and])
        ((repeat (refine And.intro (by first | omega | (show AV.pures _ = true; rfl)) ?_)); refine hK _ ?_; clear hK K)
        simp only [thenW, blockW]
        ((refine W_regV fun K hK => ?_); simp (disch := omega) only [Int.reduceNeg, regV_cons, effW_free, opF_move, ev_tmp, List.getD_cons_succ, List.getD_cons_zero, atK_ap, restV_ap, Eff.app, List.set, Eff.wi, Option.map_none, List.nil_append, opF_binOp, ty3, ev_const, cst_int, binW_add, Int.reduceAdd, valK_ap, List.cons_append, opF_assign, regV_nil, sepL, List.not_mem_nil, false_implies, implies_true, true_and])
        (refine hK _ ?_; clear hK K)
        simp only [thenW, blockW]
        refine ⟨⟨(1, c.set 0 (l.getD 0 0 / 2)), by dsimp only; omega, hst⟩, Le_of (by simp [leE]; try rfl) ?_, by dsimp only; omega⟩
        dsimp only
        simp only [List.cons.injEq, Ob.arr.injEq, true_and, and_true]
        simp only [hz, hhi, u32s_set]
      · have hneg : IntKind.wrap .i64 (((i + 1 : Nat) : Int) + -1) = (i : Int) := by rw [wrap_i64 (by omega) (by omega)]; omega
        have hlow := hH.low (by omega)
        rw [Nat.add_sub_cancel] at hlow
        have hlo := shr_lo (x := l.getD (i + 1) 0) hlow
        have hst := hH.step hlt hl
        have hgi : decide (0 ≤ (i : Int)) = true := decide_eq_true (by omega)
        have hil : i < l.length := by omega
        have hyl : c.getD i 0 < 4294967296 := by omega
        refine W_seq ?_
        ((refine W_seqV fun K hK => ?_); simp (disch := omega) only [Int.reduceNeg, regV_cons, effW_free, opF_move, ev_tmp, List.getD_cons_succ, List.getD_cons_zero, atK_ap, restV_ap, Eff.app, List.set, Eff.wi, Option.map_none, List.nil_append, List.cons_append, opF_binOp, ty3, binW_add, hneg, valK_ap, ev_const, cst_int, binW_geq, ge_iff_le, nat_nonneg, decide_true, effW_guard, guardOf, List.getElem?_toArray, List.getElem?_cons_succ, List.getElem?_cons_zero, Option.bind_some, effH_tt, binW_lss, nat_lt_int, hil, opF_pick, cst_bool, pickW_bool, cond_true, regV_nil, sepL, List.not_mem_nil, false_implies, implies_true, true_and])
        (refine hK _ ?_; clear hK K)
        (first | refine W_cond rfl (fun _ => ?_) (fun h => by cases h) | refine W_seq (W_cond rfl (fun _ => ?_) (fun h => by cases h)))
        ((refine W_regV fun K hK => ?_); simp (disch := omega) only [Int.reduceNeg, regV_cons, effW_free, opF_move, ev_tmp, List.getD_cons_succ, List.getD_cons_zero, atK_ap, restV_ap, Eff.app, List.set, Eff.wi, Option.map_none, List.nil_append, List.cons_append, opF_binOp, ty3, binW_add, hneg, valK_ap, opF_indexAddr, ty25, objOf, indexAddrW_sref, ty79, ne_eq, reduceCtorEq, not_false_eq_true, nat_nonneg, nat_lt_int, hil, kOk_arr, toNat_natCast, Nat.zero_add, opF_load, TI.isAgg, Bool.false_eq_true, or_true, loadW_ptr, loadO_arr, u32s_length, u32s_getD, List.length_cons, List.length_nil, Nat.reduceLeDiff, ofCells, List.drop_zero, List.take_succ_cons, List.take_zero, List.headD_cons, if_false, opF_convert, ty71, convW_int, wrap_u32_nat, binW_or, bor_u32, opF_store, storeF_ptr, storeO_arr, storable, AV.one, cellsOf, forall_const, overlay, List.drop_succ_cons, List.drop_nil, List.append_nil, u32s_set, wrK_ap, Option.map_some, regV_nil, sepL, List.not_mem_nil, false_implies, implies_true, true_and])
        ((repeat (refine And.intro (by first | omega | (show AV.pures _ = true; rfl)) ?_)); refine hK _ ?_; clear hK K)
        simp only [thenW]
        simp only [hlo]
        have hz2 : (c.set i (c.getD i 0 + l.getD (i + 1) 0 % 2 * 2147483648)).getD (i + 1) 0 = 0 := by
          rw [List.getD_eq_getElem?_getD, List.getElem?_set_ne (by omega), ← List.getD_eq_getElem?_getD]; exact hz
        have hz3 : (c.set i (c.getD i 0 + l.getD (i + 1) 0 % 2 * 2147483648)).getD (i + 1) 0 < 4294967296 := by omega
        ((refine W_seqV fun K hK => ?_); simp (disch := omega) only [Int.reduceNeg, regV_cons, effW_free, opF_move, ev_tmp, List.getD_cons_succ, List.getD_cons_zero, atK_ap, restV_ap, Eff.app, List.set, Eff.wi, Option.map_none, List.nil_append, List.cons_append, opF_binOp, ty3, binW_add, valK_ap, ev_const, cst_int, hw, binW_geq, ge_iff_le, nat_nonneg, decide_true, effW_guard, guardOf, List.getElem?_toArray, List.getElem?_cons_succ, List.getElem?_cons_zero, Option.bind_some, effH_tt, binW_lss, nat_lt_int, hlt, opF_pick, cst_bool, pickW_bool, cond_true, regV_nil, sepL, List.not_mem_nil, false_implies, implies_true, true_and])
        (refine hK _ ?_; clear hK K)
        (first | refine W_cond rfl (fun _ => ?_) (fun h => by cases h) | refine W_seq (W_cond rfl (fun _ => ?_) (fun h => by cases h)))
        ((refine W_regV fun K hK => ?_); simp (disch := omega) only [Int.reduceNeg, regV_cons, effW_free, opF_move, ev_tmp, List.getD_cons_succ, List.getD_cons_zero, atK_ap, restV_ap, Eff.app, List.set, Eff.wi, Option.map_none, List.nil_append, List.cons_append, opF_binOp, ty3, binW_add, valK_ap, ev_const, cst_int, hw, opF_indexAddr, ty25, objOf, indexAddrW_sref, ty79, ne_eq, reduceCtorEq, not_false_eq_true, nat_nonneg, nat_lt_int, hlt, kOk_arr, toNat_natCast, Nat.zero_add, opF_load, TI.isAgg, Bool.false_eq_true, or_true, loadW_ptr, loadO_arr, u32s_length, List.length_set, u32s_getD_set, List.length_cons, List.length_nil, Nat.reduceLeDiff, ofCells, List.drop_zero, List.take_succ_cons, List.take_zero, List.headD_cons, if_false, ty71, binW_shr, Int.reduceLE, Int.reduceToNat, min_u64, fdiv_pow, Nat.reducePow, opF_convert, convW_int, wrap_u32_nat, binW_or, bor_u32, opF_store, storeF_ptr, storeO_arr, storable, AV.one, cellsOf, forall_const, overlay, List.drop_succ_cons, List.drop_nil, List.append_nil, u32s_set, wrK_ap, Option.map_some, regV_nil, sepL, List.not_mem_nil, false_implies, implies_true, true_and])
        ((repeat (refine And.intro (by first | omega | (show AV.pures _ = true; rfl)) ?_)); refine hK _ ?_; clear hK K)
        simp only [thenW, blockW]
        ((refine W_regV fun K hK => ?_); simp (disch := omega) only [Int.reduceNeg, regV_cons, effW_free, opF_move, ev_tmp, List.getD_cons_succ, List.getD_cons_zero, atK_ap, restV_ap, Eff.app, List.set, Eff.wi, Option.map_none, List.nil_append, opF_binOp, ty3, ev_const, cst_int, binW_add, wrap_i64_one, valK_ap, List.cons_append, opF_assign, regV_nil, sepL, List.not_mem_nil, false_implies, implies_true, true_and])
        (refine hK _ ?_; clear hK K)
        simp only [thenW, blockW]
        refine ⟨⟨(i + 1 + 1, (c.set i (c.getD i 0 + l.getD (i + 1) 0 % 2 * 2147483648)).set (i + 1) (l.getD (i + 1) 0 / 2)), by dsimp only; omega, hst⟩, Le_of (by simp [leE]; try rfl) ?_, by dsimp only; omega⟩
        dsimp only
        simp only [List.cons.injEq, Ob.arr.injEq, true_and, and_true]
        simp only [hz2, hhi, u32s_set]
    · obtain rfl : i = l.length := by omega
      have hv := hH.done hl
      have hlt' : decide (l.length < l.length) = false := decide_eq_false (by omega)
      have hn := fnorm_ok c hH.limbs (by omega)
      rw [hv] at hn
      refine W_seq ?_
      ((refine W_seqV fun K hK => ?_); simp (disch := omega) only [Int.reduceNeg, regV_cons, effW_free, opF_move, ev_tmp, List.getD_cons_succ, List.getD_cons_zero, atK_ap, restV_ap, Eff.app, List.set, Eff.wi, Option.map_none, List.nil_append, List.cons_append, opF_len, ty25, lenW_sl, u32s_length, valK_ap, opF_binOp, ty3, binW_lss, Int.lt_irrefl, decide_false, regV_nil, sepL, List.not_mem_nil, false_implies, implies_true, true_and])
      (refine hK _ ?_; clear hK K)
      (first | refine W_cond rfl (fun h => by cases h) (fun _ => ?_) | refine W_seq (W_cond rfl (fun h => by cases h) (fun _ => ?_)))
      refine W_exit ?_
      simp only [thenW, blockW, if_true]
      (refine W.le ?_ (Le_freeze 33 (rows := u32s c) rfl (by simp) (.inl rfl)); simp only [St.freeze, List.map_cons, List.map_nil, List.set, if_true, if_false, Nat.reduceEqDiff, reduceCtorEq, List.drop_zero, u32s_take, u32s_drop, froz_any, froz_und, froz_int, froz_bool, froz_str, froz_nils, froz_sl, froz_ia, froz_nilp, froz_nilif, froz_nilfn, froz_nilmp, froz_gl, froz_sref, froz_ptr, froz_agg, froz_tup, froz_fn, froz_ifc, frozs_nil, frozs_cons, froz_dead, froz_arr])
      rw [List.take_of_length_le (by omega)]
      ((refine W_seqV fun K hK => ?_); simp (disch := omega) only [Int.reduceNeg, regV_cons, effW_free, opF_move, ev_tmp, List.getD_cons_succ, List.getD_cons_zero, atK_ap, restV_ap, Eff.app, List.set, Eff.wi, Option.map_none, List.nil_append, opF_call, ev_func, List.map_cons, List.map_nil, callF_fn, List.append_nil, List.cons_append, opF_assign, ev_const, cst_int, regV_nil, sepL, List.not_mem_nil, false_implies, implies_true, true_and])
      (refine ⟨by kernel_rfl, rfl, _, hn, ?_⟩; (try simp (disch := omega) only [Int.reduceNeg, cN, cNat]))
      (refine hK _ ?_; clear hK K)
      refine W_ret ?_
      simp (disch := omega) only [retR, resW, resV, List.getD_cons_succ, List.getD_cons_zero, asOne_two, view_tup, views_cons, view_sl, view_int, views_nil, cN, cNat]
end Go.Proofs.Ytjkjapjcmbfkgaa.Vm

/-
  The reference's natural numbers: Div.
-/
namespace Go.Proofs.Ytjkjapjcmbfkgaa.Vm
open Go Go.RowKit
set_option linter.unusedVariables false
set_option linter.unusedSimpArgs false
set_option pp.deepTerms false
set_option pp.deepTerms.threshold 8

theorem fbit_v (n i : Nat) (h : (limbs n).length < 549755813888) (hi : i < 1125899906842624) : Pure Try.prog 68 [cN n, .int .i64 i] (· = .bool (bitV n i)) := by
  have := fbit_ok (limbs n) i (limbs_limbs n) h hi
  rwa [val_limbs] at this
theorem ftwice_v (n : Nat) (d : Bool) (h : (limbs n).length < 549755813888) : Pure Try.prog 70 [cN n, .bool d] (· = cN (2 * n + d.toNat)) := by
  have := ftwice_ok (limbs n) d (limbs_limbs n) h
  rwa [val_limbs] at this
theorem fcmp_v (n m : Nat) (h : (limbs n).length < 549755813888) (h' : (limbs m).length < 549755813888) : Pure Try.prog 52 [cN n, cN m] (· = .int .i64 (sgn n m)) := by
  have := fcmp_ok (limbs n) (limbs m) (limbs_limbs n) (limbs_limbs m) (by omega) (by omega)
  rwa [val_limbs, val_limbs] at this
theorem fsub_v (n m : Nat) (h : (limbs n).length < 549755813888) (h' : (limbs m).length < 549755813888) (hle : m ≤ n) : Pure Try.prog 53 [cN n, cN m] (· = .tup [cN (n - m), .int .i64 0]) := by
  have := fsub_ok (limbs n) (limbs m) (limbs_limbs n) (limbs_limbs m) h h' (by rw [val_limbs, val_limbs]; exact hle)
  rwa [val_limbs, val_limbs] at this
theorem fshr_v (n : Nat) (h : (limbs n).length < 549755813888) : Pure Try.prog 69 [cN n, .int .i64 (-1)] (· = .tup [cN (n / 2), .int .i64 0]) := by
  have := fshr_ok (limbs n) (limbs_limbs n) h
  rwa [val_limbs] at this
theorem fnorm_v (n : Nat) (h : (limbs n).length < 549755813888) : Pure Try.prog 45 [cN n] (· = cN n) := by
  have := fnorm_ok (limbs n) (limbs_limbs n) (by omega)
  rwa [val_limbs] at this
theorem limbs_low {n : Nat} (h : n ≠ 0) : 4294967296 ^ ((limbs n).length - 1) ≤ n := by
  have h1 := limbs_len_pos h
  have h2 := limbs_top h
  obtain ⟨k, hk⟩ : ∃ k, (limbs n).length = k + 1 := ⟨(limbs n).length - 1, by omega⟩
  rw [hk, Nat.add_sub_cancel] at h2 ⊢
  have h3 := val_top hk
  rw [val_limbs] at h3
  have h4 : 4294967296 ^ k * 1 ≤ 4294967296 ^ k * (limbs n).getD k 0 := Nat.mul_le_mul_left _ (by omega)
  generalize 4294967296 ^ k = P at *
  omega
theorem div_start {a b h : Nat} (hb : b ≠ 0) (hh : h = min ((limbs b).length - 1) (limbs a).length) :
    val ((limbs a).drop ((limbs a).length - h)) = a / 2 ^ (32 * ((limbs a).length - h)) ∧ a / 2 ^ (32 * ((limbs a).length - h)) < b := by
  have h1 := val_div (limbs a) (limbs_limbs a) ((limbs a).length - h)
  rw [val_limbs] at h1
  have h2 := pow_B ((limbs a).length - h) 0
  rw [Nat.add_zero, Nat.pow_zero, Nat.mul_one] at h2
  rw [h2, h1]
  refine ⟨rfl, ?_⟩
  have h3 := val_lt ((limbs_limbs a).drop ((limbs a).length - h))
  have h4 := limbs_low hb
  have h5 : ((limbs a).drop ((limbs a).length - h)).length ≤ (limbs b).length - 1 := by rw [List.length_drop]; omega
  have h6 : 4294967296 ^ ((limbs a).drop ((limbs a).length - h)).length ≤ 4294967296 ^ ((limbs b).length - 1) := Nat.pow_le_pow_right (by omega) h5
  exact Nat.lt_of_lt_of_le h3 (Nat.le_trans h6 h4)
theorem bitV_toNat (n i : Nat) : (bitV n i).toNat = n / 2 ^ i % 2 := by
  unfold bitV
  have : n / 2 ^ i % 2 < 2 := Nat.mod_lt _ (by omega)
  rcases (show n / 2 ^ i % 2 = 0 ∨ n / 2 ^ i % 2 = 1 by omega) with h | h <;> rw [h] <;> rfl

set_option maxRecDepth 20000 in
set_option maxHeartbeats 8000000 in
theorem fdiv_ok (l m : List Nat) (hl : Limbs l) (hm : Limbs m) (h1 : l.length < 274877906944) (h2 : m.length < 274877906944) :
    Pure Try.prog 47 [cNat l, cNat m] (· = divR (val l) (val m)) := by
  have hna := fnorm_ok l hl (by omega)
  have hnb := fnorm_ok m hm (by omega)
  have hal := limbs_val_length hl
  have hbl := limbs_val_length hm
  simp only [cN, cNat] at hna hnb
  generalize val l = a at *
  generalize val m = b at *
  by_cases hb0 : b = 0
  · subst hb0
    rw [limbs_zero] at hnb
    (refine pureW Try.func47 rfl (rs := [Go.ResultVar.tmp 4, Go.ResultVar.tmp 5, Go.ResultVar.tmp 6]) rfl (n := 76) rfl ?_; simp only [List.length_cons, List.length_nil, List.replicate, List.cons_append, List.nil_append])
    unfold cNat
    (repeat (refine W_seqV fun K hK => ?_; (try simp (disch := omega) only [regV_cons, effW_free, opF_assign, ev_const, cst_nils, atK_ap, restV_ap, Eff.app, List.set, Eff.wi, Option.map_none, List.nil_append, List.cons_append, cst_int, regV_nil, sepL, List.not_mem_nil, false_implies, implies_true, true_and]); refine hK _ ?_; clear hK K))
    ((refine W_seqV fun K hK => ?_); simp (disch := omega) only [regV_cons, effW_free, opF_move, ev_tmp, List.getD_cons_succ, List.getD_cons_zero, atK_ap, restV_ap, Eff.app, List.set, Eff.wi, Option.map_none, List.nil_append, opF_call, ev_func, List.map_cons, List.map_nil, callF_fn, List.append_nil, List.cons_append, opF_assign, regV_nil, sepL, List.not_mem_nil, false_implies, implies_true, true_and])
    (refine ⟨by kernel_rfl, rfl, _, hnb, ?_⟩)
    (refine hK _ ?_; clear hK K)
    refine W_seq ?_
    ((refine W_seqV fun K hK => ?_); simp (disch := omega) only [regV_cons, effW_free, opF_move, ev_tmp, List.getD_cons_succ, List.getD_cons_zero, atK_ap, restV_ap, Eff.app, List.set, Eff.wi, Option.map_none, List.nil_append, opF_len, ty25, lenW_sl, u32s_length, List.length_nil, Int.cast_ofNat_Int, valK_ap, List.cons_append, opF_binOp, ty3, ev_const, cst_int, binW_eql, regV_nil, sepL, List.not_mem_nil, false_implies, implies_true, true_and])
    (refine hK _ ?_; clear hK K)
    (first | refine W_cond rfl (fun _ => ?_) (fun h => by cases h) | refine W_seq (W_cond rfl (fun _ => ?_) (fun h => by cases h)))
    ((refine W_seqV fun K hK => ?_); simp (disch := omega) only [regV_cons, effW_free, opF_assign, ev_const, cst_nils, atK_ap, restV_ap, Eff.app, List.set, Eff.wi, Option.map_none, List.nil_append, List.cons_append, cst_int, regV_nil, sepL, List.not_mem_nil, false_implies, implies_true, true_and])
    (refine hK _ ?_; clear hK K)
    refine W_ret ?_
    simp (disch := omega) only [thenW, retR, resW, resV, List.getD_cons_succ, List.getD_cons_zero, asOne_three, view_tup, views_cons, view_nils, view_int, views_nil]
    simp [divR, cN, cNat, limbs_zero, u32s]
  · have hbp := limbs_len_pos hb0
    have hz : (((limbs b).length : Int) == 0) = false := by rw [beq_eq_false_iff_ne]; omega
    rw [divR, if_neg hb0]
    obtain ⟨hi, hhi⟩ : ∃ hi, hi = min ((limbs b).length - 1) (limbs a).length := ⟨_, rfl⟩
    obtain ⟨hs1, hs2⟩ := div_start hb0 hhi
    have hLd := (limbs_limbs a).drop ((limbs a).length - hi)
    have hr0 := fnorm_ok _ hLd (by rw [List.length_drop]; omega)
    rw [hs1] at hr0
    simp only [cN, cNat] at hr0
    (refine pureW Try.func47 rfl (rs := [Go.ResultVar.tmp 4, Go.ResultVar.tmp 5, Go.ResultVar.tmp 6]) rfl (n := 76) rfl ?_; simp only [List.length_cons, List.length_nil, List.replicate, List.cons_append, List.nil_append])
    unfold cNat
    (repeat (refine W_seqV fun K hK => ?_; (try simp (disch := omega) only [regV_cons, effW_free, opF_assign, ev_const, cst_nils, atK_ap, restV_ap, Eff.app, List.set, Eff.wi, Option.map_none, List.nil_append, List.cons_append, cst_int, regV_nil, sepL, List.not_mem_nil, false_implies, implies_true, true_and]); refine hK _ ?_; clear hK K))
    ((refine W_seqV fun K hK => ?_); simp (disch := omega) only [regV_cons, effW_free, opF_move, ev_tmp, List.getD_cons_succ, List.getD_cons_zero, atK_ap, restV_ap, Eff.app, List.set, Eff.wi, Option.map_none, List.nil_append, opF_call, ev_func, List.map_cons, List.map_nil, callF_fn, List.append_nil, List.cons_append, opF_assign, regV_nil, sepL, List.not_mem_nil, false_implies, implies_true, true_and])
    (refine ⟨by kernel_rfl, rfl, _, hnb, ?_⟩)
    (refine hK _ ?_; clear hK K)
    refine W_seq ?_
    ((refine W_seqV fun K hK => ?_); simp (disch := omega) only [regV_cons, effW_free, opF_move, ev_tmp, List.getD_cons_succ, List.getD_cons_zero, atK_ap, restV_ap, Eff.app, List.set, Eff.wi, Option.map_none, List.nil_append, opF_len, ty25, lenW_sl, u32s_length, valK_ap, List.cons_append, opF_binOp, ty3, ev_const, cst_int, binW_eql, hz, regV_nil, sepL, List.not_mem_nil, false_implies, implies_true, true_and])
    (refine hK _ ?_; clear hK K)
    (first | refine W_cond rfl (fun h => by cases h) (fun _ => ?_) | refine W_seq (W_cond rfl (fun h => by cases h) (fun _ => ?_)))
    refine W_skip ?_
    simp only [thenW]
    ((refine W_seqV fun K hK => ?_); simp (disch := omega) only [regV_cons, effW_free, opF_move, ev_tmp, List.getD_cons_zero, atK_ap, restV_ap, Eff.app, List.set, Eff.wi, Option.map_none, List.nil_append, opF_call, ev_func, List.map_cons, List.getD_cons_succ, List.map_nil, callF_fn, List.append_nil, List.cons_append, opF_assign, regV_nil, sepL, List.not_mem_nil, false_implies, implies_true, true_and])
    (refine ⟨by kernel_rfl, rfl, _, hna, ?_⟩)
    (refine hK _ ?_; clear hK K)
    ((refine W_seqR fun K hK => ?_); simp (disch := omega) only [opsW_free, opW_move, St.ret, List.set, ev_tmp, List.getD_cons_zero, restO_ap, opW_len, ty25, List.getD_cons_succ, lenW_sl, u32s_length, retK_ap, opW_makeSlice, makeW_slice, dead, List.getElem?_cons_succ, List.getElem?_cons_zero, ty79, ne_eq, reduceCtorEq, not_false_eq_true, List.length_cons, List.length_nil, Nat.zero_add, nat_nonneg, Int.cast_ofNat_Int, toNat_natCast, St.seth, u32s_rep, retK2_ap, opW_assign, opsW_nil, true_and])
    ((repeat refine And.intro (by omega) ?_); refine hK _ ?_; clear hK K)
    ((refine W_seqV fun K hK => ?_); simp (disch := omega) only [regV_cons, effW_free, opF_move, ev_tmp, List.getD_cons_succ, List.getD_cons_zero, atK_ap, restV_ap, Eff.app, List.set, Eff.wi, Option.map_none, List.nil_append, opF_len, ty25, lenW_sl, u32s_length, valK_ap, List.cons_append, opF_binOp, ty3, ev_const, cst_int, binW_sub, wrap_i64_pred, opF_assign, regV_nil, sepL, List.not_mem_nil, false_implies, implies_true, true_and])
    (refine hK _ ?_; clear hK K)
    refine W_join (fun s' => Le [] s' ⟨((.sl (u32s (limbs a))) :: (.sl (u32s (limbs b))) :: .any :: .any :: .any :: .any :: (.int .i64 0) :: (.sref 20 0 (limbs a).length) :: (.int .i64 (hi : Int)) :: .any :: .any :: .any :: .any :: .any :: .any :: .any :: .any :: .any :: .any :: .any :: .any :: .any :: .any :: .any :: .any :: .any :: .any :: .any :: .any :: .any :: .any :: .any :: .any :: .any :: .any :: .any :: .any :: .any :: .any :: .any :: .any :: .any :: .any :: .any :: .any :: .any :: .any :: .any :: .any :: .any :: .any :: .any :: .any :: .any :: .any :: .any :: .any :: .any :: .any :: .any :: .any :: .any :: .any :: .any :: .any :: .any :: .any :: .any :: .any :: .any :: .any :: .any :: .any :: .any :: .any :: .any :: []), (.dead :: .dead :: .dead :: .dead :: .dead :: .dead :: .dead :: .dead :: .dead :: .dead :: .dead :: .dead :: .dead :: .dead :: .dead :: .dead :: .dead :: .dead :: .dead :: .dead :: (.arr 79 1 true (u32s (List.replicate (limbs a).length 0))) :: .dead :: .dead :: .dead :: .dead :: .dead :: .dead :: .dead :: .dead :: .dead :: .dead :: .dead :: .dead :: .dead :: .dead :: .dead :: .dead :: .dead :: .dead :: .dead :: .dead :: .dead :: .dead :: .dead :: .dead :: .dead :: .dead :: .dead :: .dead :: .dead :: .dead :: .dead :: .dead :: .dead :: .dead :: .dead :: .dead :: .dead :: .dead :: .dead :: .dead :: .dead :: .dead :: .dead :: .dead :: .dead :: .dead :: .dead :: .dead :: .dead :: .dead :: .dead :: .dead :: .dead :: .dead :: .dead :: [])⟩) ?_ ?_
    · by_cases hgt : (limbs a).length < (limbs b).length - 1
      · ((refine W_seqV fun K hK => ?_); simp (disch := omega) only [regV_cons, effW_free, opF_move, ev_tmp, List.getD_cons_succ, List.getD_cons_zero, atK_ap, restV_ap, Eff.app, List.set, Eff.wi, Option.map_none, List.nil_append, List.cons_append, opF_len, ty25, lenW_sl, u32s_length, valK_ap, opF_binOp, ty3, binW_gtr, gt_iff_lt, nat_lt_int, hgt, decide_true, regV_nil, sepL, List.not_mem_nil, false_implies, implies_true, true_and])
        (refine hK _ ?_; clear hK K)
        (first | refine W_cond rfl (fun _ => ?_) (fun h => by cases h) | refine W_seq (W_cond rfl (fun _ => ?_) (fun h => by cases h)))
        ((refine W_regV fun K hK => ?_); simp (disch := omega) only [regV_cons, effW_free, opF_move, ev_tmp, List.getD_cons_zero, atK_ap, restV_ap, Eff.app, List.set, Eff.wi, Option.map_none, List.nil_append, opF_len, ty25, List.getD_cons_succ, lenW_sl, u32s_length, valK_ap, List.cons_append, opF_assign, regV_nil, sepL, List.not_mem_nil, false_implies, implies_true, true_and])
        (refine hK _ ?_; clear hK K)
        simp only [thenW]
        exact Le_of (by simp [leE]; omega) (by simp)
      · have hgt' : decide ((limbs a).length < (limbs b).length - 1) = false := decide_eq_false hgt
        ((refine W_seqV fun K hK => ?_); simp (disch := omega) only [regV_cons, effW_free, opF_move, ev_tmp, List.getD_cons_succ, List.getD_cons_zero, atK_ap, restV_ap, Eff.app, List.set, Eff.wi, Option.map_none, List.nil_append, List.cons_append, opF_len, ty25, lenW_sl, u32s_length, valK_ap, opF_binOp, ty3, binW_gtr, gt_iff_lt, nat_lt_int, hgt', regV_nil, sepL, List.not_mem_nil, false_implies, implies_true, true_and])
        (refine hK _ ?_; clear hK K)
        (first | refine W_cond rfl (fun h => by cases h) (fun _ => ?_) | refine W_seq (W_cond rfl (fun h => by cases h) (fun _ => ?_)))
        refine W_skip ?_
        simp only [thenW]
        exact Le_of (by simp [leE]; omega) (by simp)
    intro s' hle
    refine W.le ?_ hle
    clear hle s'
    have hw32 : IntKind.wrap .i64 (IntKind.wrap .i64 (32 * (((limbs a).length - hi : Nat) : Int)) - 1) = ((32 * ((limbs a).length - hi) : Nat) : Int) - 1 := by
      rw [wrap_i64 (x := 32 * (((limbs a).length - hi : Nat) : Int)) (by omega) (by omega), wrap_i64 (by omega) (by omega)]; omega
    ((refine W_seqV fun K hK => ?_); simp (disch := omega) only [regV_cons, effW_free, opF_move, ev_tmp, List.getD_cons_zero, atK_ap, restV_ap, Eff.app, List.set, Eff.wi, Option.map_none, List.nil_append, List.cons_append, opF_len, ty25, List.getD_cons_succ, lenW_sl, u32s_length, valK_ap, opF_binOp, ty3, binW_sub, wrap_i64_sub, opF_slice, sliceW, ty79, ne_eq, reduceCtorEq, not_false_eq_true, bnd, evo_some, evo_none, nat_nonneg, nat_le_int, mxOk, true_or, u32s_all, objOf, toNat_natCast, u32s_take, List.take_length, u32s_drop, opF_call, ev_func, List.map_cons, List.map_nil, callF_fn, List.append_nil, opF_assign, regV_nil, sepL, List.not_mem_nil, false_implies, implies_true, true_and])
    ((repeat refine And.intro (by omega) ?_); refine ⟨by kernel_rfl, rfl, _, hr0, ?_⟩)
    (refine hK _ ?_; clear hK K)
    ((refine W_seq ?_; refine W_seqV fun K hK => ?_); simp (disch := omega) only [regV_cons, effW_free, opF_move, ev_tmp, List.getD_cons_zero, atK_ap, restV_ap, Eff.app, List.set, Eff.wi, Option.map_none, List.nil_append, opF_len, ty25, List.getD_cons_succ, lenW_sl, u32s_length, valK_ap, List.cons_append, opF_binOp, ty3, binW_sub, wrap_i64_sub, ev_const, cst_int, binW_mul, hw32, opF_assign, regV_nil, sepL, List.not_mem_nil, false_implies, implies_true, true_and])
    (refine hK _ ?_; clear hK K)
    have hb : 0 < b := by omega
    refine W_block (W_loop (fun t : {t : Nat × List Nat // t.1 ≤ 32 * ((limbs a).length - hi) ∧ t.2.length = (limbs a).length ∧ Limbs t.2 ∧ val t.2 = a / 2 ^ t.1 / b * 2 ^ t.1} =>
      ⟨((.sl (u32s (limbs a))) :: (.sl (u32s (limbs b))) :: .any :: .any :: .any :: .any :: (.int .i64 0) :: (.sref 20 0 (limbs a).length) :: .any :: (cN (a / 2 ^ t.1.1 % b)) :: (.int .i64 ((t.1.1 : Int) - 1)) :: .any :: .any :: .any :: .any :: .any :: .any :: .any :: .any :: .any :: .any :: .any :: .any :: .any :: .any :: .any :: .any :: .any :: .any :: .any :: .any :: .any :: .any :: .any :: .any :: .any :: .any :: .any :: .any :: .any :: .any :: .any :: .any :: .any :: .any :: .any :: .any :: .any :: .any :: .any :: .any :: .any :: .any :: .any :: .any :: .any :: .any :: .any :: .any :: .any :: .any :: .any :: .any :: .any :: .any :: .any :: .any :: .any :: .any :: .any :: .any :: .any :: .any :: .any :: .any :: .any :: []), (.dead :: .dead :: .dead :: .dead :: .dead :: .dead :: .dead :: .dead :: .dead :: .dead :: .dead :: .dead :: .dead :: .dead :: .dead :: .dead :: .dead :: .dead :: .dead :: .dead :: (.arr 79 1 true (u32s t.1.2)) :: .dead :: .dead :: .dead :: .dead :: .dead :: .dead :: .dead :: .dead :: .dead :: .dead :: .dead :: .dead :: .dead :: .dead :: .dead :: .dead :: .dead :: .dead :: .dead :: .dead :: .dead :: .dead :: .dead :: .dead :: .dead :: .dead :: .dead :: .dead :: .dead :: .dead :: .dead :: .dead :: .dead :: .dead :: .dead :: .dead :: .dead :: .dead :: .dead :: .dead :: .dead :: .dead :: .dead :: .dead :: .dead :: .dead :: .dead :: .dead :: .dead :: .dead :: .dead :: .dead :: .dead :: .dead :: .dead :: [])⟩) (fun t => t.1.1)
      ⟨(32 * ((limbs a).length - hi), List.replicate (limbs a).length 0), Nat.le_refl _, by simp, Limbs.rep _, by dsimp only; rw [Nat.div_eq_of_lt hs2, Nat.zero_mul]; exact val_zeros _⟩ (Le_of (by simp [leE, cN, cNat, Nat.mod_eq_of_lt hs2]) (by simp)) fun t => ?_)
    obtain ⟨⟨t, q⟩, ht, hql, hqL, hqv⟩ := t
    dsimp only at ht hql hqL hqv ⊢
    simp only [cN, cNat]
    rcases t with _ | t
    · have hq0 : val q = a / b := by rw [hqv]; simp
      have hnq := fnorm_ok q hqL (by omega)
      rw [hq0] at hnq
      refine W_seq ?_
      ((refine W_seqV fun K hK => ?_); simp (disch := omega) only [Nat.reducePow, Int.cast_ofNat_Int, Int.reduceSub, Int.reduceNeg, regV_cons, effW_free, opF_move, ev_tmp, List.getD_cons_succ, List.getD_cons_zero, atK_ap, restV_ap, Eff.app, List.set, Eff.wi, Option.map_none, List.nil_append, opF_binOp, ty3, ev_const, cst_int, binW_geq, ge_iff_le, Int.reduceLE, decide_false, valK_ap, List.cons_append, regV_nil, sepL, List.not_mem_nil, false_implies, implies_true, true_and])
      (refine hK _ ?_; clear hK K)
      (first | refine W_cond rfl (fun h => by cases h) (fun _ => ?_) | refine W_seq (W_cond rfl (fun h => by cases h) (fun _ => ?_)))
      refine W_exit ?_
      simp only [thenW, blockW, if_true]
      (refine W.le ?_ (Le_freeze 20 (rows := u32s q) rfl (by simp) (.inl rfl)); simp only [St.freeze, List.map_cons, List.map_nil, List.set, if_true, if_false, Nat.reduceEqDiff, reduceCtorEq, List.drop_zero, u32s_take, u32s_drop, froz_any, froz_und, froz_int, froz_bool, froz_str, froz_nils, froz_sl, froz_ia, froz_nilp, froz_nilif, froz_nilfn, froz_nilmp, froz_gl, froz_sref, froz_ptr, froz_agg, froz_tup, froz_fn, froz_ifc, frozs_nil, frozs_cons, froz_dead, froz_arr])
      rw [List.take_of_length_le (by omega)]
      ((refine W_seqV fun K hK => ?_); simp (disch := omega) only [Int.reduceNeg, regV_cons, effW_free, opF_move, ev_tmp, List.getD_cons_succ, List.getD_cons_zero, atK_ap, restV_ap, Eff.app, List.set, Eff.wi, Option.map_none, List.nil_append, opF_call, ev_func, List.map_cons, List.map_nil, callF_fn, List.append_nil, List.cons_append, opF_assign, ev_const, cst_int, regV_nil, sepL, List.not_mem_nil, false_implies, implies_true, true_and])
      (refine ⟨by kernel_rfl, rfl, _, hnq, ?_⟩; (try simp (disch := omega) only [cN, cNat, Int.reduceNeg]))
      (refine hK _ ?_; clear hK K)
      refine W_ret ?_
      simp (disch := omega) only [retR, resW, resV, List.getD_cons_succ, List.getD_cons_zero, asOne_three, view_tup, views_cons, view_sl, view_int, views_nil]
      simp
    · have hj : ((t + 1 : Nat) : Int) - 1 = t := by omega
      rw [hj]
      obtain ⟨e1, e2, e3, e4⟩ := div_step hb (rfl : a / 2 ^ (t + 1) % b = _) hqv
      have hbv := bitV_toNat a t
      have hrb : a / 2 ^ (t + 1) % b < b := Nat.mod_lt _ hb
      have hrl := limbs_mono (Nat.le_of_lt hrb)
      have hbt := fbit_v a t (by omega) (by omega)
      have htw := ftwice_v (a / 2 ^ (t + 1) % b) (bitV a t) (by omega)
      rw [hbv] at htw
      have hr2 : (limbs (2 * (a / 2 ^ (t + 1) % b) + a / 2 ^ t % 2)).length ≤ (limbs b).length + 1 := by
        refine limbs_length_le (Nat.lt_of_lt_of_le e2 ?_)
        have := lt_len b
        rw [Nat.pow_succ]
        generalize 4294967296 ^ (limbs b).length = P at *
        omega
      have hcm := fcmp_v (2 * (a / 2 ^ (t + 1) % b) + a / 2 ^ t % 2) b (by omega) (by omega)
      have hge : decide ((0 : Int) ≤ (t : Int)) = true := decide_eq_true (by omega)
      have hwt : IntKind.wrap .i64 ((t : Int) - 1) = (t : Int) - 1 := wrap_i64 (by omega) (by omega)
      simp only [cN, cNat] at hbt htw
      refine W_seq ?_
      ((refine W_seqV fun K hK => ?_); simp (disch := omega) only [regV_cons, effW_free, opF_move, ev_tmp, List.getD_cons_succ, List.getD_cons_zero, atK_ap, restV_ap, Eff.app, List.set, Eff.wi, Option.map_none, List.nil_append, opF_binOp, ty3, ev_const, cst_int, binW_geq, ge_iff_le, nat_nonneg, decide_true, valK_ap, List.cons_append, regV_nil, sepL, List.not_mem_nil, false_implies, implies_true, true_and])
      (refine hK _ ?_; clear hK K)
      (first | refine W_cond rfl (fun _ => ?_) (fun h => by cases h) | refine W_seq (W_cond rfl (fun _ => ?_) (fun h => by cases h)))
      refine W_skip ?_
      simp only [thenW]
      refine W_seq (W_block ?_)
      ((refine W_seqV fun K hK => ?_); simp (disch := omega) only [regV_cons, effW_free, opF_move, ev_tmp, List.getD_cons_succ, List.getD_cons_zero, atK_ap, restV_ap, Eff.app, List.set, Eff.wi, Option.map_none, List.nil_append, List.cons_append, opF_call, ev_func, List.map_cons, List.map_nil, callF_fn, List.append_nil, opF_assign, regV_nil, sepL, List.not_mem_nil, false_implies, implies_true, true_and])
      (refine ⟨by kernel_rfl, rfl, _, hbt, ?_⟩)
      (refine ⟨by kernel_rfl, rfl, _, htw, ?_⟩)
      (refine hK _ ?_; clear hK K)
      by_cases hle : b ≤ 2 * (a / 2 ^ (t + 1) % b) + a / 2 ^ t % 2
      · obtain ⟨e5, e6⟩ := e3 hle
        have hs := sgn_nn hle
        have hsb := fsub_v (2 * (a / 2 ^ (t + 1) % b) + a / 2 ^ t % 2) b (by omega) (by omega) hle
        rw [e5] at hsb
        simp only [cN, cNat] at hsb hcm
        refine W_seq ?_
        ((refine W_regV fun K hK => ?_); simp (disch := omega) only [regV_cons, effW_free, opF_move, ev_tmp, List.getD_cons_succ, List.getD_cons_zero, atK_ap, restV_ap, Eff.app, List.set, Eff.wi, Option.map_none, List.nil_append, List.cons_append, opF_call, ev_func, List.map_cons, List.map_nil, callF_fn, List.append_nil, opF_binOp, ty3, ev_const, cst_int])
        (refine ⟨by kernel_rfl, rfl, _, hcm, ?_⟩; (try simp (disch := omega) only [binW_geq, ge_iff_le, valK_ap, atK_ap, restV_ap, Eff.app, List.set, Eff.wi, Option.map_none, List.cons_append, List.nil_append, regV_nil, sepL, List.not_mem_nil, false_implies, implies_true, true_and]))
        simp (disch := omega) only [hs]
        (refine hK _ ?_; clear hK K)
        (first | refine W_cond rfl (fun _ => ?_) (fun h => by cases h) | refine W_seq (W_cond rfl (fun _ => ?_) (fun h => by cases h)))
        ((refine W_seqV fun K hK => ?_); simp (disch := omega) only [regV_cons, effW_free, opF_move, ev_tmp, List.getD_cons_succ, List.getD_cons_zero, atK_ap, restV_ap, Eff.app, List.set, Eff.wi, Option.map_none, List.nil_append, List.cons_append, opF_call, ev_func, List.map_cons, List.map_nil, callF_fn, List.append_nil, opF_extract])
        (refine ⟨by kernel_rfl, rfl, _, hsb, ?_⟩; (try simp (disch := omega) only [extractW_tup, List.length_cons, List.length_nil, Nat.zero_add, Nat.reduceAdd, Nat.reduceLT, List.getD_cons_zero, valK_ap, atK_ap, restV_ap, Eff.app, List.set, Eff.wi, Option.map_none, List.cons_append, List.nil_append, regV_cons, effW_free, opF_extract, ev_tmp, List.getD_cons_succ, opF_assign, regV_nil, sepL, List.not_mem_nil, false_implies, implies_true, true_and]))
        (refine hK _ ?_; clear hK K)
        have hr32 : t % 32 < 32 := Nat.mod_lt _ (by omega)
        have hp32 : t / 32 < q.length := by omega
        have hp32' : t / 32 < (limbs a).length := by omega
        have hx := hqL.getD (t / 32)
        have h2lt : 2 ^ (t % 32) < 4294967296 := Nat.lt_of_lt_of_le (Nat.pow_lt_pow_right (by omega) hr32) (by decide)
        have hmul := limb_mul (q := q) hqL (p := t / 32) (r := t % 32) (k := a / 2 ^ (t + 1) / b) hr32 (by rw [hqv, Nat.div_add_mod, Nat.mul_comm])
        have hor := or_bit hmul
        have hlt32 := or_bit_lt hx hr32 hmul
        have hset := val_set hp32 (q.getD (t / 32) 0 + 2 ^ (t % 32))
        rw [Nat.mul_add, ← pow_B, Nat.div_add_mod] at hset
        have hvs : val (q.set (t / 32) (q.getD (t / 32) 0 + 2 ^ (t % 32))) = a / 2 ^ t / b * 2 ^ t := by omega
        have hqq : IntKind.wrap .i64 ((t : Int).tdiv 32) = ((t / 32 : Nat) : Int) := by
          rw [show (t : Int).tdiv 32 = ((t / 32 : Nat) : Int) from rfl]; exact wrap_i64_nat (by omega)
        have hrr : (t : Int).tmod 32 = ((t % 32 : Nat) : Int) := rfl
        have hsh : IntKind.wrap .u32 (1 * p2 (t % 32)) = ((2 ^ (t % 32) : Nat) : Int) := by
          have := shl_u32 (n := 1) (k := t % 32)
          rw [Nat.one_mul, Nat.mod_eq_of_lt h2lt] at this
          exact this
        have hmi : min (t % 32) 32 = t % 32 := Nat.min_eq_left (by omega)
        ((refine W_regV fun K hK => ?_); simp (disch := omega) only [regV_cons, effW_free, opF_move, ev_tmp, List.getD_cons_succ, List.getD_cons_zero, atK_ap, restV_ap, Eff.app, List.set, Eff.wi, Option.map_none, List.nil_append, List.cons_append, opF_binOp, ty3, ev_const, cst_int, binW_quo, ne_eq, hqq, valK_ap, opF_indexAddr, ty25, objOf, indexAddrW_sref, ty79, reduceCtorEq, not_false_eq_true, nat_nonneg, nat_lt_int, hp32', kOk_arr, toNat_natCast, Nat.zero_add, opF_load, TI.isAgg, Bool.false_eq_true, or_true, loadW_ptr, loadO_arr, u32s_length, u32s_getD, List.length_cons, List.length_nil, Nat.reduceLeDiff, ofCells, List.drop_zero, List.take_succ_cons, List.take_zero, List.headD_cons, if_false, binW_rem, hrr, opF_convert, tyUint, convW_int, wrap_u64_nat, binW_shl, min_u32, hsh, binW_or, bor_u32, opF_store, storeF_ptr, storeO_arr, storable, AV.one, cellsOf, forall_const, overlay, List.drop_succ_cons, List.drop_nil, List.append_nil, u32s_set, wrK_ap, Option.map_some, regV_nil, sepL, List.not_mem_nil, false_implies, implies_true, true_and])
        ((repeat (refine And.intro (by first | omega | (show AV.pures _ = true; rfl)) ?_)); refine hK _ ?_; clear hK K)
        simp only [thenW, blockW]
        ((refine W_regV fun K hK => ?_); simp (disch := omega) only [regV_cons, effW_free, opF_move, ev_tmp, List.getD_cons_succ, List.getD_cons_zero, atK_ap, restV_ap, Eff.app, List.set, Eff.wi, Option.map_none, List.nil_append, opF_binOp, ty3, ev_const, cst_int, binW_sub, hwt, valK_ap, List.cons_append, opF_assign, regV_nil, sepL, List.not_mem_nil, false_implies, implies_true, true_and])
        (refine hK _ ?_; clear hK K)
        simp only [thenW, blockW]
        exact ⟨⟨(t, q.set (t / 32) (q.getD (t / 32) 0 + 2 ^ (t % 32))), by dsimp only; omega, by simpa using hql, hqL.set _ hlt32, hvs⟩, Le_of (by simp [leE, cN, cNat]) (by simp only [hor]), by dsimp only; omega⟩
      · obtain ⟨e5, e6⟩ := e4 (by omega)
        have hs := sgn_ng hle
        simp only [cN, cNat] at hcm
        refine W_seq ?_
        ((refine W_regV fun K hK => ?_); simp (disch := omega) only [regV_cons, effW_free, opF_move, ev_tmp, List.getD_cons_succ, List.getD_cons_zero, atK_ap, restV_ap, Eff.app, List.set, Eff.wi, Option.map_none, List.nil_append, List.cons_append, opF_call, ev_func, List.map_cons, List.map_nil, callF_fn, List.append_nil, opF_binOp, ty3, ev_const, cst_int])
        (refine ⟨by kernel_rfl, rfl, _, hcm, ?_⟩; (try simp (disch := omega) only [binW_geq, ge_iff_le, valK_ap, atK_ap, restV_ap, Eff.app, List.set, Eff.wi, Option.map_none, List.cons_append, List.nil_append, regV_nil, sepL, List.not_mem_nil, false_implies, implies_true, true_and]))
        simp (disch := omega) only [hs]
        (refine hK _ ?_; clear hK K)
        (first | refine W_cond rfl (fun h => by cases h) (fun _ => ?_) | refine W_seq (W_cond rfl (fun h => by cases h) (fun _ => ?_)))
        refine W_skip ?_
        simp only [thenW, blockW]
        ((refine W_regV fun K hK => ?_); simp (disch := omega) only [regV_cons, effW_free, opF_move, ev_tmp, List.getD_cons_succ, List.getD_cons_zero, atK_ap, restV_ap, Eff.app, List.set, Eff.wi, Option.map_none, List.nil_append, opF_binOp, ty3, ev_const, cst_int, binW_sub, hwt, valK_ap, List.cons_append, opF_assign, regV_nil, sepL, List.not_mem_nil, false_implies, implies_true, true_and])
        (refine hK _ ?_; clear hK K)
        simp only [thenW, blockW]
        exact ⟨⟨(t, q), by dsimp only; omega, hql, hqL, e6⟩, Le_of (by simp [leE, cN, cNat, e5]) rfl, by dsimp only; omega⟩
end Go.Proofs.Ytjkjapjcmbfkgaa.Vm

/-
  The reference's natural numbers: Gcd.
-/
namespace Go.Proofs.Ytjkjapjcmbfkgaa.Vm
open Go Go.RowKit
set_option linter.unusedVariables false
set_option linter.unusedSimpArgs false
set_option pp.deepTerms false
set_option pp.deepTerms.threshold 8

theorem even_bit (n : Nat) : bitV n 0 = decide (n % 2 = 1) := by
  unfold bitV
  rw [Nat.pow_zero, Nat.div_one, Bool.eq_iff_iff]
  simp
theorem pow_lim {g j t x : Nat} (h : g * 2 ^ t = x) (hj : j ≤ t) : g * 2 ^ j ≤ x := by
  rw [← h]; exact Nat.mul_le_mul_left _ (Nat.pow_le_pow_right (by omega) hj)

theorem gcd_lims {x t a : Nat} (h0 : a ≠ 0) (h : x * 2 ^ t = a) : 0 < x ∧ (limbs x).length ≤ (limbs a).length ∧ t ≤ 32 * (limbs a).length := by
  have h1 : 0 < x := by
    rcases Nat.eq_zero_or_pos x with hz | hz
    · subst hz; rw [Nat.zero_mul] at h; omega
    · exact hz
  have h2 : 0 < 2 ^ t := Nat.pow_pos (by omega)
  refine ⟨h1, limbs_mono (by rw [← h]; exact Nat.le_mul_of_pos_right _ h2), ?_⟩
  have h3 := lt_len a
  rw [show (4294967296 : Nat) = 2 ^ 32 from rfl, ← Nat.pow_mul] at h3
  have h4 : 2 ^ t ≤ a := by rw [← h]; exact Nat.le_mul_of_pos_left _ h1
  have h5 : 2 ^ t < 2 ^ (32 * (limbs a).length) := Nat.lt_of_le_of_lt h4 h3
  exact Nat.le_of_lt ((Nat.pow_lt_pow_iff_right (by omega)).1 h5)
theorem half_pow {x t a : Nat} (h0 : x % 2 = 0) (h : x * 2 ^ t = a) : x / 2 * 2 ^ (t + 1) = a := by
  rw [Nat.pow_succ, ← h, ← Nat.mul_assoc, Nat.mul_right_comm, Nat.div_mul_cancel (by omega)]

set_option maxRecDepth 20000 in
set_option maxHeartbeats 16000000 in
theorem fgcd_ok (l m : List Nat) (hl : Limbs l) (hm : Limbs m) (h1 : l.length < 274877906944) (h2 : m.length < 274877906944) :
    Pure Try.prog 46 [cNat l, cNat m] (· = cN (Nat.gcd (val l) (val m))) := by
  have hna := fnorm_ok l hl (by omega)
  have hnb := fnorm_ok m hm (by omega)
  have hal := limbs_val_length hl
  have hbl := limbs_val_length hm
  simp only [cN, cNat] at hna hnb
  generalize val l = a at *
  generalize val m = b at *
  clear hl hm
  by_cases ha0 : a = 0
  · subst ha0
    rw [limbs_zero] at hna
    (refine pureW Try.func46 rfl (rs := [Go.ResultVar.tmp 4]) rfl (n := 91) rfl ?_; simp only [List.length_cons, List.length_nil, List.replicate, List.cons_append, List.nil_append])
    unfold cNat
    (repeat (refine W_seqV fun K hK => ?_; (try simp (disch := omega) only [regV_cons, effW_free, opF_assign, ev_const, cst_nils, atK_ap, restV_ap, Eff.app, List.set, Eff.wi, Option.map_none, List.nil_append, regV_nil, sepL, List.not_mem_nil, false_implies, implies_true, true_and]); refine hK _ ?_; clear hK K))
    ((refine W_seqV fun K hK => ?_); simp (disch := omega) only [regV_cons, effW_free, opF_move, ev_tmp, List.getD_cons_zero, atK_ap, restV_ap, Eff.app, List.set, Eff.wi, Option.map_none, List.nil_append, opF_call, ev_func, List.map_cons, List.getD_cons_succ, List.map_nil, callF_fn, List.append_nil, List.cons_append, opF_assign, regV_nil, sepL, List.not_mem_nil, false_implies, implies_true, true_and])
    (refine ⟨by kernel_rfl, rfl, _, hna, ?_⟩)
    (refine hK _ ?_; clear hK K)
    ((refine W_seqV fun K hK => ?_); simp (disch := omega) only [regV_cons, effW_free, opF_move, ev_tmp, List.getD_cons_succ, List.getD_cons_zero, atK_ap, restV_ap, Eff.app, List.set, Eff.wi, Option.map_none, List.nil_append, opF_call, ev_func, List.map_cons, List.map_nil, callF_fn, List.append_nil, List.cons_append, opF_assign, regV_nil, sepL, List.not_mem_nil, false_implies, implies_true, true_and])
    (refine ⟨by kernel_rfl, rfl, _, hnb, ?_⟩)
    (refine hK _ ?_; clear hK K)
    refine W_seq ?_
    ((refine W_seqV fun K hK => ?_); simp (disch := omega) only [regV_cons, effW_free, opF_move, ev_tmp, List.getD_cons_zero, atK_ap, restV_ap, Eff.app, List.set, Eff.wi, Option.map_none, List.nil_append, opF_len, ty25, List.getD_cons_succ, lenW_sl, u32s_length, List.length_nil, Int.cast_ofNat_Int, valK_ap, List.cons_append, opF_binOp, ty3, ev_const, cst_int, binW_eql, regV_nil, sepL, List.not_mem_nil, false_implies, implies_true, true_and])
    (refine hK _ ?_; clear hK K)
    (first | refine W_cond rfl (fun _ => ?_) (fun h => by cases h) | refine W_seq (W_cond rfl (fun _ => ?_) (fun h => by cases h)))
    ((refine W_seqV fun K hK => ?_); simp (disch := omega) only [regV_cons, effW_free, opF_move, ev_tmp, List.getD_cons_succ, List.getD_cons_zero, atK_ap, restV_ap, Eff.app, List.set, Eff.wi, Option.map_none, List.nil_append, opF_assign, List.cons_append, regV_nil, sepL, List.not_mem_nil, false_implies, implies_true, true_and])
    (refine hK _ ?_; clear hK K)
    refine W_ret ?_
    simp (disch := omega) only [thenW, retR, resW, resV, List.getD_cons_succ, List.getD_cons_zero, asOne_one, view_sl, cN, cNat]
    rw [Nat.gcd_zero_left]
  have hap := limbs_len_pos ha0
  have hza : (((limbs a).length : Int) == 0) = false := by rw [beq_eq_false_iff_ne]; omega
  by_cases hb0 : b = 0
  · subst hb0
    rw [limbs_zero] at hnb
    (refine pureW Try.func46 rfl (rs := [Go.ResultVar.tmp 4]) rfl (n := 91) rfl ?_; simp only [List.length_cons, List.length_nil, List.replicate, List.cons_append, List.nil_append])
    unfold cNat
    (repeat (refine W_seqV fun K hK => ?_; (try simp (disch := omega) only [regV_cons, effW_free, opF_assign, ev_const, cst_nils, atK_ap, restV_ap, Eff.app, List.set, Eff.wi, Option.map_none, List.nil_append, regV_nil, sepL, List.not_mem_nil, false_implies, implies_true, true_and]); refine hK _ ?_; clear hK K))
    ((refine W_seqV fun K hK => ?_); simp (disch := omega) only [regV_cons, effW_free, opF_move, ev_tmp, List.getD_cons_zero, atK_ap, restV_ap, Eff.app, List.set, Eff.wi, Option.map_none, List.nil_append, opF_call, ev_func, List.map_cons, List.getD_cons_succ, List.map_nil, callF_fn, List.append_nil, List.cons_append, opF_assign, regV_nil, sepL, List.not_mem_nil, false_implies, implies_true, true_and])
    (refine ⟨by kernel_rfl, rfl, _, hna, ?_⟩)
    (refine hK _ ?_; clear hK K)
    ((refine W_seqV fun K hK => ?_); simp (disch := omega) only [regV_cons, effW_free, opF_move, ev_tmp, List.getD_cons_succ, List.getD_cons_zero, atK_ap, restV_ap, Eff.app, List.set, Eff.wi, Option.map_none, List.nil_append, opF_call, ev_func, List.map_cons, List.map_nil, callF_fn, List.append_nil, List.cons_append, opF_assign, regV_nil, sepL, List.not_mem_nil, false_implies, implies_true, true_and])
    (refine ⟨by kernel_rfl, rfl, _, hnb, ?_⟩)
    (refine hK _ ?_; clear hK K)
    refine W_seq ?_
    ((refine W_seqV fun K hK => ?_); simp (disch := omega) only [regV_cons, effW_free, opF_move, ev_tmp, List.getD_cons_zero, atK_ap, restV_ap, Eff.app, List.set, Eff.wi, Option.map_none, List.nil_append, opF_len, ty25, List.getD_cons_succ, lenW_sl, u32s_length, valK_ap, List.cons_append, opF_binOp, ty3, ev_const, cst_int, binW_eql, hza, regV_nil, sepL, List.not_mem_nil, false_implies, implies_true, true_and])
    (refine hK _ ?_; clear hK K)
    (first | refine W_cond rfl (fun h => by cases h) (fun _ => ?_) | refine W_seq (W_cond rfl (fun h => by cases h) (fun _ => ?_)))
    refine W_skip ?_
    simp only [thenW]
    refine W_seq ?_
    ((refine W_seqV fun K hK => ?_); simp (disch := omega) only [regV_cons, effW_free, opF_move, ev_tmp, List.getD_cons_succ, List.getD_cons_zero, atK_ap, restV_ap, Eff.app, List.set, Eff.wi, Option.map_none, List.nil_append, opF_len, ty25, lenW_sl, u32s_length, List.length_nil, Int.cast_ofNat_Int, valK_ap, List.cons_append, opF_binOp, ty3, ev_const, cst_int, binW_eql, regV_nil, sepL, List.not_mem_nil, false_implies, implies_true, true_and])
    (refine hK _ ?_; clear hK K)
    (first | refine W_cond rfl (fun _ => ?_) (fun h => by cases h) | refine W_seq (W_cond rfl (fun _ => ?_) (fun h => by cases h)))
    ((refine W_seqV fun K hK => ?_); simp (disch := omega) only [regV_cons, effW_free, opF_move, ev_tmp, List.getD_cons_zero, atK_ap, restV_ap, Eff.app, List.set, Eff.wi, Option.map_none, List.nil_append, opF_assign, List.getD_cons_succ, List.cons_append, regV_nil, sepL, List.not_mem_nil, false_implies, implies_true, true_and])
    (refine hK _ ?_; clear hK K)
    refine W_ret ?_
    simp (disch := omega) only [thenW, retR, resW, resV, List.getD_cons_succ, List.getD_cons_zero, asOne_one, view_sl, cN, cNat]
    rw [Nat.gcd_zero_right]
  have hbp := limbs_len_pos hb0
  have hzb : (((limbs b).length : Int) == 0) = false := by rw [beq_eq_false_iff_ne]; omega
  have hl1 : limbs 1 = [1] := by rw [limbs_pos (by decide)]; simp [limbs_zero]
  have hca := fcmp_v a 1 (by omega) (by rw [hl1]; simp)
  have hcb := fcmp_v b 1 (by omega) (by rw [hl1]; simp)
  simp only [cN, cNat, hl1] at hca hcb
  have he1 : (sgn a 1 == 0) = decide (a = 1) := by
    unfold sgn
    by_cases h : a = 1
    · subst h; rfl
    · rw [if_neg (by omega), if_pos (by omega), decide_eq_false h]; rfl
  have he2 : (sgn b 1 == 0) = decide (b = 1) := by
    unfold sgn
    by_cases h : b = 1
    · subst h; rfl
    · rw [if_neg (by omega), if_pos (by omega), decide_eq_false h]; rfl
  have hMa : (limbs a).length < 274877906944 := by omega
  have hMb : (limbs b).length < 274877906944 := by omega
  clear hal hbl h1 h2
  (refine pureW Try.func46 rfl (rs := [Go.ResultVar.tmp 4]) rfl (n := 91) rfl ?_; simp only [List.length_cons, List.length_nil, List.replicate, List.cons_append, List.nil_append])
  unfold cNat
  (repeat (refine W_seqV fun K hK => ?_; (try simp (disch := omega) only [regV_cons, effW_free, opF_assign, ev_const, cst_nils, atK_ap, restV_ap, Eff.app, List.set, Eff.wi, Option.map_none, List.nil_append, regV_nil, sepL, List.not_mem_nil, false_implies, implies_true, true_and]); refine hK _ ?_; clear hK K))
  ((refine W_seqV fun K hK => ?_); simp (disch := omega) only [regV_cons, effW_free, opF_move, ev_tmp, List.getD_cons_zero, atK_ap, restV_ap, Eff.app, List.set, Eff.wi, Option.map_none, List.nil_append, opF_call, ev_func, List.map_cons, List.getD_cons_succ, List.map_nil, callF_fn, List.append_nil, List.cons_append, opF_assign, regV_nil, sepL, List.not_mem_nil, false_implies, implies_true, true_and])
  (refine ⟨by kernel_rfl, rfl, _, hna, ?_⟩)
  (refine hK _ ?_; clear hK K)
  ((refine W_seqV fun K hK => ?_); simp (disch := omega) only [regV_cons, effW_free, opF_move, ev_tmp, List.getD_cons_succ, List.getD_cons_zero, atK_ap, restV_ap, Eff.app, List.set, Eff.wi, Option.map_none, List.nil_append, opF_call, ev_func, List.map_cons, List.map_nil, callF_fn, List.append_nil, List.cons_append, opF_assign, regV_nil, sepL, List.not_mem_nil, false_implies, implies_true, true_and])
  (refine ⟨by kernel_rfl, rfl, _, hnb, ?_⟩)
  (refine hK _ ?_; clear hK K)
  refine W_seq ?_
  ((refine W_seqV fun K hK => ?_); simp (disch := omega) only [regV_cons, effW_free, opF_move, ev_tmp, List.getD_cons_zero, atK_ap, restV_ap, Eff.app, List.set, Eff.wi, Option.map_none, List.nil_append, opF_len, ty25, List.getD_cons_succ, lenW_sl, u32s_length, valK_ap, List.cons_append, opF_binOp, ty3, ev_const, cst_int, binW_eql, hza, regV_nil, sepL, List.not_mem_nil, false_implies, implies_true, true_and])
  (refine hK _ ?_; clear hK K)
  (first | refine W_cond rfl (fun h => by cases h) (fun _ => ?_) | refine W_seq (W_cond rfl (fun h => by cases h) (fun _ => ?_)))
  refine W_skip ?_
  simp only [thenW]
  refine W_seq ?_
  ((refine W_seqV fun K hK => ?_); simp (disch := omega) only [regV_cons, effW_free, opF_move, ev_tmp, List.getD_cons_succ, List.getD_cons_zero, atK_ap, restV_ap, Eff.app, List.set, Eff.wi, Option.map_none, List.nil_append, opF_len, ty25, lenW_sl, u32s_length, valK_ap, List.cons_append, opF_binOp, ty3, ev_const, cst_int, binW_eql, hzb, regV_nil, sepL, List.not_mem_nil, false_implies, implies_true, true_and])
  (refine hK _ ?_; clear hK K)
  (first | refine W_cond rfl (fun h => by cases h) (fun _ => ?_) | refine W_seq (W_cond rfl (fun h => by cases h) (fun _ => ?_)))
  refine W_skip ?_
  simp only [thenW]
  ((refine W_seqV fun K hK => ?_); simp (disch := omega) only [regV_cons, effW_free, opF_buildSlice, ty25, List.map_cons, ev_const, cst_int, List.map_nil, litD_slice, dead, List.getElem?_cons_succ, List.getElem?_cons_zero, ty79, ne_eq, reduceCtorEq, not_false_eq_true, List.length_cons, List.length_nil, Nat.zero_add, range1, Nat.reduceMul, Nat.reduceLeDiff, storable, AV.one, cellsOf, List.forall_mem_cons, true_and, List.not_mem_nil, false_implies, implies_true, and_true, valK_ap, atK_ap, restV_ap, Eff.app, List.set, Eff.wi, Option.map_none, List.nil_append, opF_assign, ev_tmp, List.getD_cons_succ, List.getD_cons_zero, List.cons_append, regV_nil, sepL])
  ((repeat (refine And.intro (by first | omega | (show AV.pures _ = true; rfl)) ?_)); refine hK _ ?_; clear hK K)
  clear hna hnb
  by_cases ha1 : a = 1
  · rw [decide_eq_true ha1] at he1
    refine W_seq ?_
    ((refine W_seqV fun K hK => ?_); simp (disch := omega) only [regV_cons, effW_free, opF_move, ev_tmp, List.getD_cons_zero, atK_ap, restV_ap, Eff.app, List.set, Eff.wi, Option.map_none, List.nil_append, List.getD_cons_succ, List.cons_append, opF_call, ev_func, List.map_cons, List.map_nil, callF_fn, List.append_nil, opF_binOp, ty3, ev_const, cst_int])
    (refine ⟨by kernel_rfl, rfl, _, hca, ?_⟩; (try simp (disch := omega) only [binW_eql, valK_ap, atK_ap, restV_ap, Eff.app, List.set, Eff.wi, Option.map_none, List.cons_append, List.nil_append, regV_cons, effW_free, opF_move, ev_tmp, List.getD_cons_succ, List.getD_cons_zero, effW_guard, guardOf, List.getElem?_toArray, List.getElem?_cons_succ, List.getElem?_cons_zero, Option.bind_some]))
    simp (disch := omega) only [he1, effH_ft, restV_ap, Eff.app, List.set, Eff.wi, Option.map_none, List.cons_append, List.nil_append, regV_cons, effW_guard, guardOf, List.getElem?_toArray, List.getElem?_cons_succ, List.getElem?_cons_zero, Option.bind_some, List.getD_cons_succ, List.getD_cons_zero, effW_free, opF_pick, ev_tmp, ev_const, cst_bool, pickW_yes, valK_ap, atK_ap, regV_nil, sepL, List.not_mem_nil, false_implies, implies_true, true_and]
    (refine hK _ ?_; clear hK K)
    (first | refine W_cond rfl (fun _ => ?_) (fun h => by cases h) | refine W_seq (W_cond rfl (fun _ => ?_) (fun h => by cases h)))
    ((refine W_seqV fun K hK => ?_); simp (disch := omega) only [regV_cons, effW_free, opF_move, ev_tmp, List.getD_cons_succ, List.getD_cons_zero, atK_ap, restV_ap, Eff.app, List.set, Eff.wi, Option.map_none, List.nil_append, opF_assign, List.cons_append, regV_nil, sepL, List.not_mem_nil, false_implies, implies_true, true_and])
    (refine hK _ ?_; clear hK K)
    refine W_ret ?_
    simp (disch := omega) only [thenW, retR, resW, resV, sgn, List.getD_cons_succ, List.getD_cons_zero, asOne_one, view_sl, cN, cNat]
    rw [ha1, Nat.gcd_one_left, hl1]
    rfl
  rw [decide_eq_false ha1] at he1
  by_cases hb1 : b = 1
  · rw [decide_eq_true hb1] at he2
    refine W_seq ?_
    ((refine W_seqV fun K hK => ?_); simp (disch := omega) only [regV_cons, effW_free, opF_move, ev_tmp, List.getD_cons_zero, atK_ap, restV_ap, Eff.app, List.set, Eff.wi, Option.map_none, List.nil_append, List.getD_cons_succ, List.cons_append, opF_call, ev_func, List.map_cons, List.map_nil, callF_fn, List.append_nil, opF_binOp, ty3, ev_const, cst_int])
    (refine ⟨by kernel_rfl, rfl, _, hca, ?_⟩; (try simp (disch := omega) only [binW_eql, valK_ap, atK_ap, restV_ap, Eff.app, List.set, Eff.wi, Option.map_none, List.cons_append, List.nil_append, regV_cons, effW_free, opF_move, ev_tmp, List.getD_cons_succ, List.getD_cons_zero, effW_guard, guardOf, List.getElem?_toArray, List.getElem?_cons_succ, List.getElem?_cons_zero, Option.bind_some]))
    simp (disch := omega) only [he1, effH_ff, opF_move, ev_tmp, List.getD_cons_succ, List.getD_cons_zero, atK_ap, restV_ap, Eff.app, List.set, Eff.wi, Option.map_none, List.cons_append, List.nil_append, regV_cons, effW_guard, guardOf, List.getElem?_toArray, List.getElem?_cons_succ, List.getElem?_cons_zero, Option.bind_some, opF_call, ev_func, List.map_cons, List.map_nil, callF_fn, List.append_nil, opF_binOp, ty3, ev_const, cst_int]
    (refine ⟨by kernel_rfl, rfl, _, hcb, ?_⟩; (try simp (disch := omega) only [binW_eql, valK_ap, atK_ap, restV_ap, Eff.app, List.set, Eff.wi, Option.map_none, List.cons_append, List.nil_append, regV_cons, effW_free, opF_pick, ev_tmp, List.getD_cons_succ, List.getD_cons_zero, ev_const, cst_bool, pickW_bool, cond_false, regV_nil, sepL, List.not_mem_nil, false_implies, implies_true, true_and]))
    simp (disch := omega) only [he2]
    (refine hK _ ?_; clear hK K)
    (first | refine W_cond rfl (fun _ => ?_) (fun h => by cases h) | refine W_seq (W_cond rfl (fun _ => ?_) (fun h => by cases h)))
    ((refine W_seqV fun K hK => ?_); simp (disch := omega) only [regV_cons, effW_free, opF_move, ev_tmp, List.getD_cons_succ, List.getD_cons_zero, atK_ap, restV_ap, Eff.app, List.set, Eff.wi, Option.map_none, List.nil_append, opF_assign, List.cons_append, regV_nil, sepL, List.not_mem_nil, false_implies, implies_true, true_and])
    (refine hK _ ?_; clear hK K)
    refine W_ret ?_
    simp (disch := omega) only [thenW, retR, resW, resV, sgn, List.getD_cons_succ, List.getD_cons_zero, asOne_one, view_sl, cN, cNat]
    rw [hb1, Nat.gcd_one_right, hl1]
    rfl
  rw [decide_eq_false hb1] at he2
  refine W_seq ?_
  ((refine W_seqV fun K hK => ?_); simp (disch := omega) only [regV_cons, effW_free, opF_move, ev_tmp, List.getD_cons_zero, atK_ap, restV_ap, Eff.app, List.set, Eff.wi, Option.map_none, List.nil_append, List.getD_cons_succ, List.cons_append, opF_call, ev_func, List.map_cons, List.map_nil, callF_fn, List.append_nil, opF_binOp, ty3, ev_const, cst_int])
  (refine ⟨by kernel_rfl, rfl, _, hca, ?_⟩; (try simp (disch := omega) only [binW_eql, valK_ap, atK_ap, restV_ap, Eff.app, List.set, Eff.wi, Option.map_none, List.cons_append, List.nil_append, regV_cons, effW_free, opF_move, ev_tmp, List.getD_cons_succ, List.getD_cons_zero, effW_guard, guardOf, List.getElem?_toArray, List.getElem?_cons_succ, List.getElem?_cons_zero, Option.bind_some]))
  simp (disch := omega) only [he1, effH_ff, opF_move, ev_tmp, List.getD_cons_succ, List.getD_cons_zero, atK_ap, restV_ap, Eff.app, List.set, Eff.wi, Option.map_none, List.cons_append, List.nil_append, regV_cons, effW_guard, guardOf, List.getElem?_toArray, List.getElem?_cons_succ, List.getElem?_cons_zero, Option.bind_some, opF_call, ev_func, List.map_cons, List.map_nil, callF_fn, List.append_nil, opF_binOp, ty3, ev_const, cst_int]
  (refine ⟨by kernel_rfl, rfl, _, hcb, ?_⟩; (try simp (disch := omega) only [binW_eql, valK_ap, atK_ap, restV_ap, Eff.app, List.set, Eff.wi, Option.map_none, List.cons_append, List.nil_append, regV_cons, effW_free, opF_pick, ev_tmp, List.getD_cons_succ, List.getD_cons_zero, ev_const, cst_bool, pickW_bool, cond_false, regV_nil, sepL, List.not_mem_nil, false_implies, implies_true, true_and]))
  simp (disch := omega) only [he2]
  (refine hK _ ?_; clear hK K)
  (first | refine W_cond rfl (fun h => by cases h) (fun _ => ?_) | refine W_seq (W_cond rfl (fun h => by cases h) (fun _ => ?_)))
  refine W_skip ?_
  simp only [thenW]
  clear hca hcb he1 he2 hl1
  ((refine W_seqV fun K hK => ?_); simp (disch := omega) only [regV_cons, effW_free, opF_assign, ev_const, cst_int, atK_ap, restV_ap, Eff.app, List.set, Eff.wi, Option.map_none, List.nil_append, regV_nil, sepL, List.not_mem_nil, false_implies, implies_true, true_and])
  (refine hK _ ?_; clear hK K)
  refine W_join (fun s' => ∃ x y tw, x * 2 ^ tw = a ∧ y * 2 ^ tw = b ∧ (x % 2 = 1 ∨ y % 2 = 1) ∧ Le [] s' ⟨((cN x) :: (cN y) :: .any :: .any :: .any :: .any :: (.int .i64 ((tw : Nat) : Int)) :: .any :: .any :: .any :: .any :: .any :: .any :: .any :: .any :: .any :: .any :: .any :: .any :: .any :: .any :: .any :: .any :: .any :: .any :: .any :: .any :: .any :: .any :: .any :: .any :: .any :: .any :: .any :: .any :: .any :: .any :: .any :: .any :: .any :: .any :: .any :: .any :: .any :: .any :: .any :: .any :: .any :: .any :: .any :: .any :: .any :: .any :: .any :: .any :: .any :: .any :: .any :: .any :: .any :: .any :: .any :: .any :: .any :: .any :: .any :: .any :: .any :: .any :: .any :: .any :: .any :: .any :: .any :: .any :: .any :: .any :: .any :: .any :: .any :: .any :: .any :: .any :: .any :: .any :: .any :: .any :: .any :: .any :: .any :: .any :: []), (.dead :: .dead :: .dead :: .dead :: .dead :: .dead :: .dead :: .dead :: .dead :: .dead :: .dead :: .dead :: .dead :: .dead :: .dead :: .dead :: .dead :: .dead :: .dead :: .dead :: .dead :: .dead :: .dead :: .dead :: .dead :: .dead :: .dead :: .dead :: .dead :: .dead :: .dead :: .dead :: .dead :: .dead :: .dead :: .dead :: .dead :: .dead :: .dead :: .dead :: .dead :: .dead :: .dead :: .dead :: .dead :: .dead :: .dead :: .dead :: .dead :: .dead :: .dead :: .dead :: .dead :: .dead :: .dead :: .dead :: .dead :: .dead :: .dead :: .dead :: .dead :: .dead :: .dead :: .dead :: .dead :: .dead :: .dead :: .dead :: .dead :: .dead :: .dead :: .dead :: .dead :: .dead :: .dead :: .dead :: .dead :: .dead :: .dead :: .dead :: .dead :: .dead :: .dead :: .dead :: .dead :: .dead :: .dead :: .dead :: .dead :: .dead :: .dead :: [])⟩) ?_ ?_
  · refine W_block (W_loop (fun t : {t : Nat × Nat × Nat // t.1 * 2 ^ t.2.2 = a ∧ t.2.1 * 2 ^ t.2.2 = b} => ⟨((cN t.1.1) :: (cN t.1.2.1) :: .any :: .any :: .any :: .any :: (.int .i64 ((t.1.2.2 : Nat) : Int)) :: .any :: .any :: .any :: .any :: .any :: .any :: .any :: .any :: .any :: .any :: .any :: .any :: .any :: .any :: .any :: .any :: .any :: .any :: .any :: .any :: .any :: .any :: .any :: .any :: .any :: .any :: .any :: .any :: .any :: .any :: .any :: .any :: .any :: .any :: .any :: .any :: .any :: .any :: .any :: .any :: .any :: .any :: .any :: .any :: .any :: .any :: .any :: .any :: .any :: .any :: .any :: .any :: .any :: .any :: .any :: .any :: .any :: .any :: .any :: .any :: .any :: .any :: .any :: .any :: .any :: .any :: .any :: .any :: .any :: .any :: .any :: .any :: .any :: .any :: .any :: .any :: .any :: .any :: .any :: .any :: .any :: .any :: .any :: .any :: []), (.dead :: .dead :: .dead :: .dead :: .dead :: .dead :: .dead :: .dead :: .dead :: .dead :: .dead :: .dead :: .dead :: .dead :: .dead :: .dead :: .dead :: .dead :: .dead :: .dead :: .dead :: .dead :: .dead :: .dead :: .dead :: .dead :: .dead :: .dead :: .dead :: .dead :: .dead :: .dead :: .dead :: .dead :: .dead :: .dead :: .dead :: .dead :: .dead :: .dead :: .dead :: .dead :: .dead :: .dead :: .dead :: .dead :: .dead :: .dead :: .dead :: .dead :: .dead :: .dead :: .dead :: .dead :: .dead :: .dead :: .dead :: .dead :: .dead :: .dead :: .dead :: .dead :: .dead :: .dead :: .dead :: .dead :: .dead :: .dead :: .dead :: .dead :: .dead :: .dead :: .dead :: .dead :: .dead :: .dead :: .dead :: .dead :: .dead :: .dead :: .dead :: .dead :: .dead :: .dead :: .dead :: .dead :: .dead :: .dead :: .dead :: .dead :: .dead :: [])⟩) (fun t => t.1.1) ⟨(a, b, 0), by simp, by simp⟩ (Le_of (by simp [leE, cN, cNat]) rfl) fun t => ?_)
    obtain ⟨⟨x, y, tw⟩, hx, hy⟩ := t
    dsimp only at hx hy ⊢
    obtain ⟨p1, p2, p3⟩ := gcd_lims ha0 hx
    obtain ⟨q1, q2, q3⟩ := gcd_lims hb0 hy
    have bx := fbit_v x 0 (by omega) (by omega)
    have by_ := fbit_v y 0 (by omega) (by omega)
    have sx := fshr_v x (by omega)
    have sy := fshr_v y (by omega)
    rw [even_bit] at bx by_
    simp only [cN, cNat, Int.natCast_zero] at bx by_ sx sy ⊢
    by_cases ex : x % 2 = 1
    · rw [decide_eq_true ex] at bx
      refine W_seq ?_
      ((refine W_seqV fun K hK => ?_); simp (disch := omega) only [regV_cons, effW_free, opF_move, ev_tmp, List.getD_cons_zero, atK_ap, restV_ap, Eff.app, List.set, Eff.wi, Option.map_none, List.nil_append, opF_call, ev_func, List.map_cons, List.getD_cons_succ, ev_const, cst_int, List.map_nil, callF_fn, List.append_nil, List.cons_append, opF_unOp])
      (refine ⟨by kernel_rfl, rfl, _, bx, ?_⟩; (try simp (disch := omega) only [unW_not, Bool.not_true, valK_ap, atK_ap, restV_ap, Eff.app, List.set, Eff.wi, Option.map_none, List.cons_append, List.nil_append, regV_cons, effW_free, opF_move, ev_tmp, List.getD_cons_succ, List.getD_cons_zero, effW_guard, guardOf, List.getElem?_toArray, List.getElem?_cons_succ, List.getElem?_cons_zero, Option.bind_some, effH_tf, opF_pick, ev_const, cst_bool, pickW_no, regV_nil, sepL, List.not_mem_nil, false_implies, implies_true, true_and]))
      (refine hK _ ?_; clear hK K)
      (first | refine W_cond rfl (fun h => by cases h) (fun _ => ?_) | refine W_seq (W_cond rfl (fun h => by cases h) (fun _ => ?_)))
      refine W_exit ?_
      simp only [thenW, blockW, if_true]
      exact ⟨x, y, tw, hx, hy, .inl ex, Le_of (by simp [leE, cN, cNat]) rfl⟩
    rw [decide_eq_false ex] at bx
    by_cases ey : y % 2 = 1
    · rw [decide_eq_true ey] at by_
      refine W_seq ?_
      ((refine W_seqV fun K hK => ?_); simp (disch := omega) only [regV_cons, effW_free, opF_move, ev_tmp, List.getD_cons_zero, atK_ap, restV_ap, Eff.app, List.set, Eff.wi, Option.map_none, List.nil_append, opF_call, ev_func, List.map_cons, List.getD_cons_succ, ev_const, cst_int, List.map_nil, callF_fn, List.append_nil, List.cons_append, opF_unOp])
      (refine ⟨by kernel_rfl, rfl, _, bx, ?_⟩; (try simp (disch := omega) only [unW_not, Bool.not_false, valK_ap, atK_ap, restV_ap, Eff.app, List.set, Eff.wi, Option.map_none, List.cons_append, List.nil_append, regV_cons, effW_free, opF_move, ev_tmp, List.getD_cons_succ, List.getD_cons_zero, effW_guard, guardOf, List.getElem?_toArray, List.getElem?_cons_succ, List.getElem?_cons_zero, Option.bind_some, effH_tt, opF_call, ev_func, List.map_cons, ev_const, cst_int, List.map_nil, callF_fn, List.append_nil, opF_unOp]))
      (refine ⟨by kernel_rfl, rfl, _, by_, ?_⟩; (try simp (disch := omega) only [unW_not, Bool.not_true, valK_ap, atK_ap, restV_ap, Eff.app, List.set, Eff.wi, Option.map_none, List.cons_append, List.nil_append, regV_cons, effW_free, opF_pick, ev_tmp, List.getD_cons_succ, List.getD_cons_zero, ev_const, cst_bool, pickW_bool, cond_true, regV_nil, sepL, List.not_mem_nil, false_implies, implies_true, true_and]))
      (refine hK _ ?_; clear hK K)
      (first | refine W_cond rfl (fun h => by cases h) (fun _ => ?_) | refine W_seq (W_cond rfl (fun h => by cases h) (fun _ => ?_)))
      refine W_exit ?_
      simp only [thenW, blockW, if_true]
      exact ⟨x, y, tw, hx, hy, .inr ey, Le_of (by simp [leE, cN, cNat]) rfl⟩
    rw [decide_eq_false ey] at by_
    refine W_seq ?_
    ((refine W_seqV fun K hK => ?_); simp (disch := omega) only [regV_cons, effW_free, opF_move, ev_tmp, List.getD_cons_zero, atK_ap, restV_ap, Eff.app, List.set, Eff.wi, Option.map_none, List.nil_append, opF_call, ev_func, List.map_cons, List.getD_cons_succ, ev_const, cst_int, List.map_nil, callF_fn, List.append_nil, List.cons_append, opF_unOp])
    (refine ⟨by kernel_rfl, rfl, _, bx, ?_⟩; (try simp (disch := omega) only [unW_not, Bool.not_false, valK_ap, atK_ap, restV_ap, Eff.app, List.set, Eff.wi, Option.map_none, List.cons_append, List.nil_append, regV_cons, effW_free, opF_move, ev_tmp, List.getD_cons_succ, List.getD_cons_zero, effW_guard, guardOf, List.getElem?_toArray, List.getElem?_cons_succ, List.getElem?_cons_zero, Option.bind_some, effH_tt, opF_call, ev_func, List.map_cons, ev_const, cst_int, List.map_nil, callF_fn, List.append_nil, opF_unOp]))
    (refine ⟨by kernel_rfl, rfl, _, by_, ?_⟩; (try simp (disch := omega) only [unW_not, Bool.not_false, valK_ap, atK_ap, restV_ap, Eff.app, List.set, Eff.wi, Option.map_none, List.cons_append, List.nil_append, regV_cons, effW_free, opF_pick, ev_tmp, List.getD_cons_succ, List.getD_cons_zero, ev_const, cst_bool, pickW_bool, cond_true, regV_nil, sepL, List.not_mem_nil, false_implies, implies_true, true_and]))
    (refine hK _ ?_; clear hK K)
    (first | refine W_cond rfl (fun _ => ?_) (fun h => by cases h) | refine W_seq (W_cond rfl (fun _ => ?_) (fun h => by cases h)))
    refine W_skip ?_
    simp only [thenW]
    refine W_block ?_
    ((refine W_seqV fun K hK => ?_); simp (disch := omega) only [Int.reduceNeg, regV_cons, effW_free, opF_move, ev_tmp, List.getD_cons_zero, atK_ap, restV_ap, Eff.app, List.set, Eff.wi, Option.map_none, List.nil_append, opF_call, ev_func, List.map_cons, List.getD_cons_succ, ev_const, cst_int, List.map_nil, callF_fn, List.append_nil, List.cons_append, opF_extract])
    (refine ⟨by kernel_rfl, rfl, _, sx, ?_⟩; (try simp (disch := omega) only [Int.reduceNeg, extractW_tup, List.length_cons, List.length_nil, Nat.zero_add, Nat.reduceAdd, Nat.reduceLT, List.getD_cons_zero, valK_ap, atK_ap, restV_ap, Eff.app, List.set, Eff.wi, Option.map_none, List.cons_append, List.nil_append, regV_cons, effW_free, opF_extract, ev_tmp, List.getD_cons_succ, opF_assign, regV_nil, sepL, List.not_mem_nil, false_implies, implies_true, true_and]))
    (refine hK _ ?_; clear hK K)
    ((refine W_seqV fun K hK => ?_); simp (disch := omega) only [Int.reduceNeg, regV_cons, effW_free, opF_move, ev_tmp, List.getD_cons_succ, List.getD_cons_zero, atK_ap, restV_ap, Eff.app, List.set, Eff.wi, Option.map_none, List.nil_append, opF_call, ev_func, List.map_cons, ev_const, cst_int, List.map_nil, callF_fn, List.append_nil, List.cons_append, opF_extract])
    (refine ⟨by kernel_rfl, rfl, _, sy, ?_⟩; (try simp (disch := omega) only [Int.reduceNeg, extractW_tup, List.length_cons, List.length_nil, Nat.zero_add, Nat.reduceAdd, Nat.reduceLT, List.getD_cons_zero, valK_ap, atK_ap, restV_ap, Eff.app, List.set, Eff.wi, Option.map_none, List.cons_append, List.nil_append, regV_cons, effW_free, opF_extract, ev_tmp, List.getD_cons_succ, opF_assign, regV_nil, sepL, List.not_mem_nil, false_implies, implies_true, true_and]))
    (refine hK _ ?_; clear hK K)
    ((refine W_regV fun K hK => ?_); simp (disch := omega) only [regV_cons, effW_free, opF_move, ev_tmp, List.getD_cons_succ, List.getD_cons_zero, atK_ap, restV_ap, Eff.app, List.set, Eff.wi, Option.map_none, List.nil_append, opF_binOp, ty3, ev_const, cst_int, binW_add, wrap_i64_one, valK_ap, List.cons_append, opF_assign, regV_nil, sepL, List.not_mem_nil, false_implies, implies_true, true_and])
    (refine hK _ ?_; clear hK K)
    simp only [thenW, blockW]
    refine ⟨⟨(x / 2, y / 2, tw + 1), half_pow (by omega) hx, half_pow (by omega) hy⟩, Le_of (by simp [leE, cN, cNat]) rfl, ?_⟩
    dsimp only
    omega
  rintro s' ⟨x0, y0, tw, hx, hy, hodd, hle⟩
  refine W.le ?_ hle
  clear hle s' hza hzb hap hbp
  obtain ⟨p1, p2, p3⟩ := gcd_lims ha0 hx
  obtain ⟨q1, q2, q3⟩ := gcd_lims hb0 hy
  have hG : Nat.gcd a b = Nat.gcd x0 y0 * 2 ^ tw := by rw [← hx, ← hy, Nat.gcd_mul_right]
  have hgx : Nat.gcd x0 y0 ≤ x0 := Nat.le_of_dvd p1 (Nat.gcd_dvd_left x0 y0)
  rw [hG]
  refine W_join (fun s' => Le [] s' ⟨((cN (Nat.gcd x0 y0)) :: .any :: .any :: .any :: .any :: .any :: (.int .i64 ((tw : Nat) : Int)) :: .any :: .any :: .any :: .any :: .any :: .any :: .any :: .any :: .any :: .any :: .any :: .any :: .any :: .any :: .any :: .any :: .any :: .any :: .any :: .any :: .any :: .any :: .any :: .any :: .any :: .any :: .any :: .any :: .any :: .any :: .any :: .any :: .any :: .any :: .any :: .any :: .any :: .any :: .any :: .any :: .any :: .any :: .any :: .any :: .any :: .any :: .any :: .any :: .any :: .any :: .any :: .any :: .any :: .any :: .any :: .any :: .any :: .any :: .any :: .any :: .any :: .any :: .any :: .any :: .any :: .any :: .any :: .any :: .any :: .any :: .any :: .any :: .any :: .any :: .any :: .any :: .any :: .any :: .any :: .any :: .any :: .any :: .any :: .any :: []), (.dead :: .dead :: .dead :: .dead :: .dead :: .dead :: .dead :: .dead :: .dead :: .dead :: .dead :: .dead :: .dead :: .dead :: .dead :: .dead :: .dead :: .dead :: .dead :: .dead :: .dead :: .dead :: .dead :: .dead :: .dead :: .dead :: .dead :: .dead :: .dead :: .dead :: .dead :: .dead :: .dead :: .dead :: .dead :: .dead :: .dead :: .dead :: .dead :: .dead :: .dead :: .dead :: .dead :: .dead :: .dead :: .dead :: .dead :: .dead :: .dead :: .dead :: .dead :: .dead :: .dead :: .dead :: .dead :: .dead :: .dead :: .dead :: .dead :: .dead :: .dead :: .dead :: .dead :: .dead :: .dead :: .dead :: .dead :: .dead :: .dead :: .dead :: .dead :: .dead :: .dead :: .dead :: .dead :: .dead :: .dead :: .dead :: .dead :: .dead :: .dead :: .dead :: .dead :: .dead :: .dead :: .dead :: .dead :: .dead :: .dead :: .dead :: .dead :: [])⟩) ?_ ?_
  · refine W_block (W_loop (fun t : {t : Nat × Nat // 0 < t.1 ∧ (t.1 % 2 = 1 ∨ t.2 % 2 = 1) ∧ Nat.gcd t.1 t.2 = Nat.gcd x0 y0 ∧ (limbs t.1).length < 274877906944 ∧ (limbs t.2).length < 274877906944} => ⟨((cN t.1.1) :: (cN t.1.2) :: .any :: .any :: .any :: .any :: (.int .i64 ((tw : Nat) : Int)) :: .any :: .any :: .any :: .any :: .any :: .any :: .any :: .any :: .any :: .any :: .any :: .any :: .any :: .any :: .any :: .any :: .any :: .any :: .any :: .any :: .any :: .any :: .any :: .any :: .any :: .any :: .any :: .any :: .any :: .any :: .any :: .any :: .any :: .any :: .any :: .any :: .any :: .any :: .any :: .any :: .any :: .any :: .any :: .any :: .any :: .any :: .any :: .any :: .any :: .any :: .any :: .any :: .any :: .any :: .any :: .any :: .any :: .any :: .any :: .any :: .any :: .any :: .any :: .any :: .any :: .any :: .any :: .any :: .any :: .any :: .any :: .any :: .any :: .any :: .any :: .any :: .any :: .any :: .any :: .any :: .any :: .any :: .any :: .any :: []), (.dead :: .dead :: .dead :: .dead :: .dead :: .dead :: .dead :: .dead :: .dead :: .dead :: .dead :: .dead :: .dead :: .dead :: .dead :: .dead :: .dead :: .dead :: .dead :: .dead :: .dead :: .dead :: .dead :: .dead :: .dead :: .dead :: .dead :: .dead :: .dead :: .dead :: .dead :: .dead :: .dead :: .dead :: .dead :: .dead :: .dead :: .dead :: .dead :: .dead :: .dead :: .dead :: .dead :: .dead :: .dead :: .dead :: .dead :: .dead :: .dead :: .dead :: .dead :: .dead :: .dead :: .dead :: .dead :: .dead :: .dead :: .dead :: .dead :: .dead :: .dead :: .dead :: .dead :: .dead :: .dead :: .dead :: .dead :: .dead :: .dead :: .dead :: .dead :: .dead :: .dead :: .dead :: .dead :: .dead :: .dead :: .dead :: .dead :: .dead :: .dead :: .dead :: .dead :: .dead :: .dead :: .dead :: .dead :: .dead :: .dead :: .dead :: .dead :: [])⟩) (fun t => t.1.1 + t.1.2) ⟨(x0, y0), p1, hodd, rfl, by dsimp only; omega, by dsimp only; omega⟩ (Le_of (by simp [leE]) rfl) fun t => ?_)
    obtain ⟨⟨x, y⟩, hx0, ho, hg, hlx, hly⟩ := t
    dsimp only at hx0 ho hg hlx hly ⊢
    by_cases y0' : y = 0
    · subst y0'
      rw [Nat.gcd_zero_right] at hg
      subst hg
      simp only [cN, cNat, limbs_zero]
      refine W_seq ?_
      ((refine W_seqV fun K hK => ?_); simp (disch := omega) only [regV_cons, effW_free, opF_move, ev_tmp, List.getD_cons_succ, List.getD_cons_zero, atK_ap, restV_ap, Eff.app, List.set, Eff.wi, Option.map_none, List.nil_append, opF_len, ty25, lenW_sl, u32s_length, List.length_nil, Int.cast_ofNat_Int, valK_ap, List.cons_append, opF_binOp, ty3, ev_const, cst_int, binW_gtr, gt_iff_lt, Int.lt_irrefl, decide_false, regV_nil, sepL, List.not_mem_nil, false_implies, implies_true, true_and])
      (refine hK _ ?_; clear hK K)
      (first | refine W_cond rfl (fun h => by cases h) (fun _ => ?_) | refine W_seq (W_cond rfl (fun h => by cases h) (fun _ => ?_)))
      refine W_exit ?_
      simp only [thenW, blockW, if_true]
      exact Le_of (by simp [leE, cN, cNat]) rfl
    · have hyp := limbs_len_pos y0'
      simp only [cN, cNat]
      refine W_seq ?_
      ((refine W_seqV fun K hK => ?_); simp (disch := omega) only [regV_cons, effW_free, opF_move, ev_tmp, List.getD_cons_succ, List.getD_cons_zero, atK_ap, restV_ap, Eff.app, List.set, Eff.wi, Option.map_none, List.nil_append, opF_len, ty25, lenW_sl, u32s_length, valK_ap, List.cons_append, opF_binOp, ty3, ev_const, cst_int, binW_gtr, gt_iff_lt, Int.natCast_pos, hyp, decide_true, regV_nil, sepL, List.not_mem_nil, false_implies, implies_true, true_and])
      (refine hK _ ?_; clear hK K)
      (first | refine W_cond rfl (fun _ => ?_) (fun h => by cases h) | refine W_seq (W_cond rfl (fun _ => ?_) (fun h => by cases h)))
      refine W_skip ?_
      simp only [thenW]
      refine W_block ?_
      refine W_join (fun s' => ∃ x', 0 < x' ∧ x' % 2 = 1 ∧ x' ≤ x ∧ Nat.gcd x' y = Nat.gcd x0 y0 ∧ Le [] s' ⟨((cN x') :: (cN y) :: .any :: .any :: .any :: .any :: (.int .i64 ((tw : Nat) : Int)) :: .any :: .any :: .any :: .any :: .any :: .any :: .any :: .any :: .any :: .any :: .any :: .any :: .any :: .any :: .any :: .any :: .any :: .any :: .any :: .any :: .any :: .any :: .any :: .any :: .any :: .any :: .any :: .any :: .any :: .any :: .any :: .any :: .any :: .any :: .any :: .any :: .any :: .any :: .any :: .any :: .any :: .any :: .any :: .any :: .any :: .any :: .any :: .any :: .any :: .any :: .any :: .any :: .any :: .any :: .any :: .any :: .any :: .any :: .any :: .any :: .any :: .any :: .any :: .any :: .any :: .any :: .any :: .any :: .any :: .any :: .any :: .any :: .any :: .any :: .any :: .any :: .any :: .any :: .any :: .any :: .any :: .any :: .any :: .any :: []), (.dead :: .dead :: .dead :: .dead :: .dead :: .dead :: .dead :: .dead :: .dead :: .dead :: .dead :: .dead :: .dead :: .dead :: .dead :: .dead :: .dead :: .dead :: .dead :: .dead :: .dead :: .dead :: .dead :: .dead :: .dead :: .dead :: .dead :: .dead :: .dead :: .dead :: .dead :: .dead :: .dead :: .dead :: .dead :: .dead :: .dead :: .dead :: .dead :: .dead :: .dead :: .dead :: .dead :: .dead :: .dead :: .dead :: .dead :: .dead :: .dead :: .dead :: .dead :: .dead :: .dead :: .dead :: .dead :: .dead :: .dead :: .dead :: .dead :: .dead :: .dead :: .dead :: .dead :: .dead :: .dead :: .dead :: .dead :: .dead :: .dead :: .dead :: .dead :: .dead :: .dead :: .dead :: .dead :: .dead :: .dead :: .dead :: .dead :: .dead :: .dead :: .dead :: .dead :: .dead :: .dead :: .dead :: .dead :: .dead :: .dead :: .dead :: .dead :: [])⟩) ?_ ?_
      · refine W_block (W_loop (fun t : {t : Nat // 0 < t ∧ t ≤ x ∧ (t % 2 = 1 ∨ y % 2 = 1) ∧ Nat.gcd t y = Nat.gcd x0 y0} => ⟨((cN t.1) :: (cN y) :: .any :: .any :: .any :: .any :: (.int .i64 ((tw : Nat) : Int)) :: .any :: .any :: .any :: .any :: .any :: .any :: .any :: .any :: .any :: .any :: .any :: .any :: .any :: .any :: .any :: .any :: .any :: .any :: .any :: .any :: .any :: .any :: .any :: .any :: .any :: .any :: .any :: .any :: .any :: .any :: .any :: .any :: .any :: .any :: .any :: .any :: .any :: .any :: .any :: .any :: .any :: .any :: .any :: .any :: .any :: .any :: .any :: .any :: .any :: .any :: .any :: .any :: .any :: .any :: .any :: .any :: .any :: .any :: .any :: .any :: .any :: .any :: .any :: .any :: .any :: .any :: .any :: .any :: .any :: .any :: .any :: .any :: .any :: .any :: .any :: .any :: .any :: .any :: .any :: .any :: .any :: .any :: .any :: .any :: []), (.dead :: .dead :: .dead :: .dead :: .dead :: .dead :: .dead :: .dead :: .dead :: .dead :: .dead :: .dead :: .dead :: .dead :: .dead :: .dead :: .dead :: .dead :: .dead :: .dead :: .dead :: .dead :: .dead :: .dead :: .dead :: .dead :: .dead :: .dead :: .dead :: .dead :: .dead :: .dead :: .dead :: .dead :: .dead :: .dead :: .dead :: .dead :: .dead :: .dead :: .dead :: .dead :: .dead :: .dead :: .dead :: .dead :: .dead :: .dead :: .dead :: .dead :: .dead :: .dead :: .dead :: .dead :: .dead :: .dead :: .dead :: .dead :: .dead :: .dead :: .dead :: .dead :: .dead :: .dead :: .dead :: .dead :: .dead :: .dead :: .dead :: .dead :: .dead :: .dead :: .dead :: .dead :: .dead :: .dead :: .dead :: .dead :: .dead :: .dead :: .dead :: .dead :: .dead :: .dead :: .dead :: .dead :: .dead :: .dead :: .dead :: .dead :: .dead :: [])⟩) (fun t => t.1) ⟨x, hx0, Nat.le_refl _, ho, hg⟩ (Le_of (by simp [leE, cN, cNat]) rfl) fun t => ?_)
        obtain ⟨t, ht0, htx, hto, htg⟩ := t
        dsimp only
        have htl := limbs_mono htx
        have bx := fbit_v t 0 (by omega) (by omega)
        have sx := fshr_v t (by omega)
        rw [even_bit] at bx
        simp only [cN, cNat, Int.natCast_zero] at bx sx ⊢
        by_cases ex : t % 2 = 1
        · rw [decide_eq_true ex] at bx
          refine W_seq ?_
          ((refine W_seqV fun K hK => ?_); simp (disch := omega) only [regV_cons, effW_free, opF_move, ev_tmp, List.getD_cons_zero, atK_ap, restV_ap, Eff.app, List.set, Eff.wi, Option.map_none, List.nil_append, opF_call, ev_func, List.map_cons, List.getD_cons_succ, ev_const, cst_int, List.map_nil, callF_fn, List.append_nil, List.cons_append, opF_unOp])
          (refine ⟨by kernel_rfl, rfl, _, bx, ?_⟩; (try simp (disch := omega) only [unW_not, Bool.not_true, valK_ap, atK_ap, restV_ap, Eff.app, List.set, Eff.wi, Option.map_none, List.cons_append, List.nil_append, regV_nil, sepL, List.not_mem_nil, false_implies, implies_true, true_and]))
          (refine hK _ ?_; clear hK K)
          (first | refine W_cond rfl (fun h => by cases h) (fun _ => ?_) | refine W_seq (W_cond rfl (fun h => by cases h) (fun _ => ?_)))
          refine W_exit ?_
          simp only [thenW, blockW, if_true]
          exact ⟨t, ht0, ex, htx, htg, Le_of (by simp [leE, cN, cNat]) rfl⟩
        · rw [decide_eq_false ex] at bx
          refine W_seq ?_
          ((refine W_seqV fun K hK => ?_); simp (disch := omega) only [regV_cons, effW_free, opF_move, ev_tmp, List.getD_cons_zero, atK_ap, restV_ap, Eff.app, List.set, Eff.wi, Option.map_none, List.nil_append, opF_call, ev_func, List.map_cons, List.getD_cons_succ, ev_const, cst_int, List.map_nil, callF_fn, List.append_nil, List.cons_append, opF_unOp])
          (refine ⟨by kernel_rfl, rfl, _, bx, ?_⟩; (try simp (disch := omega) only [unW_not, Bool.not_false, valK_ap, atK_ap, restV_ap, Eff.app, List.set, Eff.wi, Option.map_none, List.cons_append, List.nil_append, regV_nil, sepL, List.not_mem_nil, false_implies, implies_true, true_and]))
          (refine hK _ ?_; clear hK K)
          (first | refine W_cond rfl (fun _ => ?_) (fun h => by cases h) | refine W_seq (W_cond rfl (fun _ => ?_) (fun h => by cases h)))
          refine W_skip ?_
          simp only [thenW]
          refine W_block ?_
          ((refine W_regV fun K hK => ?_); simp (disch := omega) only [Int.reduceNeg, regV_cons, effW_free, opF_move, ev_tmp, List.getD_cons_zero, atK_ap, restV_ap, Eff.app, List.set, Eff.wi, Option.map_none, List.nil_append, opF_call, ev_func, List.map_cons, List.getD_cons_succ, ev_const, cst_int, List.map_nil, callF_fn, List.append_nil, List.cons_append, opF_extract])
          (refine ⟨by kernel_rfl, rfl, _, sx, ?_⟩; (try simp (disch := omega) only [Int.reduceNeg, extractW_tup, List.length_cons, List.length_nil, Nat.zero_add, Nat.reduceAdd, Nat.reduceLT, List.getD_cons_zero, valK_ap, atK_ap, restV_ap, Eff.app, List.set, Eff.wi, Option.map_none, List.cons_append, List.nil_append, regV_cons, effW_free, opF_extract, ev_tmp, List.getD_cons_succ, opF_assign, regV_nil, sepL, List.not_mem_nil, false_implies, implies_true, true_and]))
          (refine hK _ ?_; clear hK K)
          simp only [thenW, blockW]
          refine ⟨⟨t / 2, by omega, by omega, .inr (hto.resolve_left ex), by rw [gcd_half_left (by omega) (hto.resolve_left ex)]; exact htg⟩, Le_of (by simp [leE, cN, cNat]) rfl, ?_⟩
          dsimp only
          omega
      rintro s' ⟨x', hx'0, hx'o, hx'x, hx'g, hle⟩
      refine W.le ?_ hle
      clear hle s'
      refine W_join (fun s' => ∃ y', 0 < y' ∧ y' % 2 = 1 ∧ y' ≤ y ∧ Nat.gcd x' y' = Nat.gcd x0 y0 ∧ Le [] s' ⟨((cN x') :: (cN y') :: .any :: .any :: .any :: .any :: (.int .i64 ((tw : Nat) : Int)) :: .any :: .any :: .any :: .any :: .any :: .any :: .any :: .any :: .any :: .any :: .any :: .any :: .any :: .any :: .any :: .any :: .any :: .any :: .any :: .any :: .any :: .any :: .any :: .any :: .any :: .any :: .any :: .any :: .any :: .any :: .any :: .any :: .any :: .any :: .any :: .any :: .any :: .any :: .any :: .any :: .any :: .any :: .any :: .any :: .any :: .any :: .any :: .any :: .any :: .any :: .any :: .any :: .any :: .any :: .any :: .any :: .any :: .any :: .any :: .any :: .any :: .any :: .any :: .any :: .any :: .any :: .any :: .any :: .any :: .any :: .any :: .any :: .any :: .any :: .any :: .any :: .any :: .any :: .any :: .any :: .any :: .any :: .any :: .any :: []), (.dead :: .dead :: .dead :: .dead :: .dead :: .dead :: .dead :: .dead :: .dead :: .dead :: .dead :: .dead :: .dead :: .dead :: .dead :: .dead :: .dead :: .dead :: .dead :: .dead :: .dead :: .dead :: .dead :: .dead :: .dead :: .dead :: .dead :: .dead :: .dead :: .dead :: .dead :: .dead :: .dead :: .dead :: .dead :: .dead :: .dead :: .dead :: .dead :: .dead :: .dead :: .dead :: .dead :: .dead :: .dead :: .dead :: .dead :: .dead :: .dead :: .dead :: .dead :: .dead :: .dead :: .dead :: .dead :: .dead :: .dead :: .dead :: .dead :: .dead :: .dead :: .dead :: .dead :: .dead :: .dead :: .dead :: .dead :: .dead :: .dead :: .dead :: .dead :: .dead :: .dead :: .dead :: .dead :: .dead :: .dead :: .dead :: .dead :: .dead :: .dead :: .dead :: .dead :: .dead :: .dead :: .dead :: .dead :: .dead :: .dead :: .dead :: .dead :: [])⟩) ?_ ?_
      · refine W_block (W_loop (fun t : {t : Nat // 0 < t ∧ t ≤ y ∧ Nat.gcd x' t = Nat.gcd x0 y0} => ⟨((cN x') :: (cN t.1) :: .any :: .any :: .any :: .any :: (.int .i64 ((tw : Nat) : Int)) :: .any :: .any :: .any :: .any :: .any :: .any :: .any :: .any :: .any :: .any :: .any :: .any :: .any :: .any :: .any :: .any :: .any :: .any :: .any :: .any :: .any :: .any :: .any :: .any :: .any :: .any :: .any :: .any :: .any :: .any :: .any :: .any :: .any :: .any :: .any :: .any :: .any :: .any :: .any :: .any :: .any :: .any :: .any :: .any :: .any :: .any :: .any :: .any :: .any :: .any :: .any :: .any :: .any :: .any :: .any :: .any :: .any :: .any :: .any :: .any :: .any :: .any :: .any :: .any :: .any :: .any :: .any :: .any :: .any :: .any :: .any :: .any :: .any :: .any :: .any :: .any :: .any :: .any :: .any :: .any :: .any :: .any :: .any :: .any :: []), (.dead :: .dead :: .dead :: .dead :: .dead :: .dead :: .dead :: .dead :: .dead :: .dead :: .dead :: .dead :: .dead :: .dead :: .dead :: .dead :: .dead :: .dead :: .dead :: .dead :: .dead :: .dead :: .dead :: .dead :: .dead :: .dead :: .dead :: .dead :: .dead :: .dead :: .dead :: .dead :: .dead :: .dead :: .dead :: .dead :: .dead :: .dead :: .dead :: .dead :: .dead :: .dead :: .dead :: .dead :: .dead :: .dead :: .dead :: .dead :: .dead :: .dead :: .dead :: .dead :: .dead :: .dead :: .dead :: .dead :: .dead :: .dead :: .dead :: .dead :: .dead :: .dead :: .dead :: .dead :: .dead :: .dead :: .dead :: .dead :: .dead :: .dead :: .dead :: .dead :: .dead :: .dead :: .dead :: .dead :: .dead :: .dead :: .dead :: .dead :: .dead :: .dead :: .dead :: .dead :: .dead :: .dead :: .dead :: .dead :: .dead :: .dead :: .dead :: [])⟩) (fun t => t.1) ⟨y, by omega, Nat.le_refl _, hx'g⟩ (Le_of (by simp [leE, cN, cNat]) rfl) fun t => ?_)
        obtain ⟨t, ht0, htx, htg⟩ := t
        dsimp only
        have htl := limbs_mono htx
        have bx := fbit_v t 0 (by omega) (by omega)
        have sx := fshr_v t (by omega)
        rw [even_bit] at bx
        simp only [cN, cNat, Int.natCast_zero] at bx sx ⊢
        by_cases ex : t % 2 = 1
        · rw [decide_eq_true ex] at bx
          refine W_seq ?_
          ((refine W_seqV fun K hK => ?_); simp (disch := omega) only [regV_cons, effW_free, opF_move, ev_tmp, List.getD_cons_succ, List.getD_cons_zero, atK_ap, restV_ap, Eff.app, List.set, Eff.wi, Option.map_none, List.nil_append, opF_call, ev_func, List.map_cons, ev_const, cst_int, List.map_nil, callF_fn, List.append_nil, List.cons_append, opF_unOp])
          (refine ⟨by kernel_rfl, rfl, _, bx, ?_⟩; (try simp (disch := omega) only [unW_not, Bool.not_true, valK_ap, atK_ap, restV_ap, Eff.app, List.set, Eff.wi, Option.map_none, List.cons_append, List.nil_append, regV_nil, sepL, List.not_mem_nil, false_implies, implies_true, true_and]))
          (refine hK _ ?_; clear hK K)
          (first | refine W_cond rfl (fun h => by cases h) (fun _ => ?_) | refine W_seq (W_cond rfl (fun h => by cases h) (fun _ => ?_)))
          refine W_exit ?_
          simp only [thenW, blockW, if_true]
          exact ⟨t, ht0, ex, htx, htg, Le_of (by simp [leE, cN, cNat]) rfl⟩
        · rw [decide_eq_false ex] at bx
          refine W_seq ?_
          ((refine W_seqV fun K hK => ?_); simp (disch := omega) only [regV_cons, effW_free, opF_move, ev_tmp, List.getD_cons_succ, List.getD_cons_zero, atK_ap, restV_ap, Eff.app, List.set, Eff.wi, Option.map_none, List.nil_append, opF_call, ev_func, List.map_cons, ev_const, cst_int, List.map_nil, callF_fn, List.append_nil, List.cons_append, opF_unOp])
          (refine ⟨by kernel_rfl, rfl, _, bx, ?_⟩; (try simp (disch := omega) only [unW_not, Bool.not_false, valK_ap, atK_ap, restV_ap, Eff.app, List.set, Eff.wi, Option.map_none, List.cons_append, List.nil_append, regV_nil, sepL, List.not_mem_nil, false_implies, implies_true, true_and]))
          (refine hK _ ?_; clear hK K)
          (first | refine W_cond rfl (fun _ => ?_) (fun h => by cases h) | refine W_seq (W_cond rfl (fun _ => ?_) (fun h => by cases h)))
          refine W_skip ?_
          simp only [thenW]
          refine W_block ?_
          ((refine W_regV fun K hK => ?_); simp (disch := omega) only [Int.reduceNeg, regV_cons, effW_free, opF_move, ev_tmp, List.getD_cons_succ, List.getD_cons_zero, atK_ap, restV_ap, Eff.app, List.set, Eff.wi, Option.map_none, List.nil_append, opF_call, ev_func, List.map_cons, ev_const, cst_int, List.map_nil, callF_fn, List.append_nil, List.cons_append, opF_extract])
          (refine ⟨by kernel_rfl, rfl, _, sx, ?_⟩; (try simp (disch := omega) only [Int.reduceNeg, extractW_tup, List.length_cons, List.length_nil, Nat.zero_add, Nat.reduceAdd, Nat.reduceLT, List.getD_cons_zero, valK_ap, atK_ap, restV_ap, Eff.app, List.set, Eff.wi, Option.map_none, List.cons_append, List.nil_append, regV_cons, effW_free, opF_extract, ev_tmp, List.getD_cons_succ, opF_assign, regV_nil, sepL, List.not_mem_nil, false_implies, implies_true, true_and]))
          (refine hK _ ?_; clear hK K)
          simp only [thenW, blockW]
          refine ⟨⟨t / 2, by omega, by omega, by rw [gcd_half_right hx'o (by omega)]; exact htg⟩, Le_of (by simp [leE, cN, cNat]) rfl, ?_⟩
          dsimp only
          omega
      rintro s' ⟨y', hy'0, hy'o, hy'y, hy'g, hle⟩
      refine W.le ?_ hle
      clear hle s'
      have hxl' := limbs_mono hx'x
      have hyl' := limbs_mono hy'y
      have hcm := fcmp_v x' y' (by omega) (by omega)
      simp only [cN, cNat] at hcm ⊢
      by_cases hgt : y' < x'
      · have hs : decide (0 < sgn x' y') = true := by rw [sgn, if_neg (by omega), if_pos hgt]; rfl
        have hsb := fsub_v x' y' (by omega) (by omega) (by omega)
        have hdl := limbs_mono (Nat.sub_le x' y')
        simp only [cN, cNat] at hsb
        refine W_seq ?_
        refine W_seq ?_
        ((refine W_regV fun K hK => ?_); simp (disch := omega) only [regV_cons, effW_free, opF_move, ev_tmp, List.getD_cons_zero, atK_ap, restV_ap, Eff.app, List.set, Eff.wi, Option.map_none, List.nil_append, List.getD_cons_succ, List.cons_append, opF_call, ev_func, List.map_cons, List.map_nil, callF_fn, List.append_nil, opF_binOp, ty3, ev_const, cst_int])
        (refine ⟨by kernel_rfl, rfl, _, hcm, ?_⟩; (try simp (disch := omega) only [binW_gtr, gt_iff_lt, valK_ap, atK_ap, restV_ap, Eff.app, List.set, Eff.wi, Option.map_none, List.cons_append, List.nil_append, regV_nil, sepL, List.not_mem_nil, false_implies, implies_true, true_and]))
        simp (disch := omega) only [hs]
        (refine hK _ ?_; clear hK K)
        (first | refine W_cond rfl (fun _ => ?_) (fun h => by cases h) | refine W_seq (W_cond rfl (fun _ => ?_) (fun h => by cases h)))
        ((refine W_regV fun K hK => ?_); simp (disch := omega) only [regV_cons, effW_free, opF_move, ev_tmp, List.getD_cons_succ, List.getD_cons_zero, atK_ap, restV_ap, Eff.app, List.set, Eff.wi, Option.map_none, List.nil_append, List.cons_append, opF_assign, regV_nil, sepL, List.not_mem_nil, false_implies, implies_true, true_and])
        (refine hK _ ?_; clear hK K)
        simp only [thenW]
        ((refine W_regV fun K hK => ?_); simp (disch := omega) only [regV_cons, effW_free, opF_move, ev_tmp, List.getD_cons_succ, List.getD_cons_zero, atK_ap, restV_ap, Eff.app, List.set, Eff.wi, Option.map_none, List.nil_append, List.cons_append, opF_call, ev_func, List.map_cons, List.map_nil, callF_fn, List.append_nil, opF_extract])
        (refine ⟨by kernel_rfl, rfl, _, hsb, ?_⟩; (try simp (disch := omega) only [extractW_tup, List.length_cons, List.length_nil, Nat.zero_add, Nat.reduceAdd, Nat.reduceLT, List.getD_cons_zero, valK_ap, atK_ap, restV_ap, Eff.app, List.set, Eff.wi, Option.map_none, List.cons_append, List.nil_append, regV_cons, effW_free, opF_extract, ev_tmp, List.getD_cons_succ, opF_assign, regV_nil, sepL, List.not_mem_nil, false_implies, implies_true, true_and]))
        (refine hK _ ?_; clear hK K)
        simp only [thenW, blockW]
        refine ⟨⟨(y', x' - y'), hy'0, .inl hy'o, by dsimp only; rw [gcd_less (by omega), Nat.gcd_comm]; exact hy'g, by dsimp only; omega, by dsimp only; omega⟩, Le_of (by simp [leE, cN, cNat]) rfl, ?_⟩
        dsimp only
        omega
      · have hs : decide (0 < sgn x' y') = false := by
          rw [sgn, if_neg hgt]
          split <;> rfl
        have hsb := fsub_v y' x' (by omega) (by omega) (by omega)
        have hdl := limbs_mono (Nat.sub_le y' x')
        simp only [cN, cNat] at hsb
        refine W_seq ?_
        refine W_seq ?_
        ((refine W_regV fun K hK => ?_); simp (disch := omega) only [regV_cons, effW_free, opF_move, ev_tmp, List.getD_cons_zero, atK_ap, restV_ap, Eff.app, List.set, Eff.wi, Option.map_none, List.nil_append, List.getD_cons_succ, List.cons_append, opF_call, ev_func, List.map_cons, List.map_nil, callF_fn, List.append_nil, opF_binOp, ty3, ev_const, cst_int])
        (refine ⟨by kernel_rfl, rfl, _, hcm, ?_⟩; (try simp (disch := omega) only [binW_gtr, gt_iff_lt, valK_ap, atK_ap, restV_ap, Eff.app, List.set, Eff.wi, Option.map_none, List.cons_append, List.nil_append, regV_nil, sepL, List.not_mem_nil, false_implies, implies_true, true_and]))
        simp (disch := omega) only [hs]
        (refine hK _ ?_; clear hK K)
        (first | refine W_cond rfl (fun h => by cases h) (fun _ => ?_) | refine W_seq (W_cond rfl (fun h => by cases h) (fun _ => ?_)))
        refine W_skip ?_
        simp only [thenW]
        ((refine W_regV fun K hK => ?_); simp (disch := omega) only [regV_cons, effW_free, opF_move, ev_tmp, List.getD_cons_succ, List.getD_cons_zero, atK_ap, restV_ap, Eff.app, List.set, Eff.wi, Option.map_none, List.nil_append, List.cons_append, opF_call, ev_func, List.map_cons, List.map_nil, callF_fn, List.append_nil, opF_extract])
        (refine ⟨by kernel_rfl, rfl, _, hsb, ?_⟩; (try simp (disch := omega) only [extractW_tup, List.length_cons, List.length_nil, Nat.zero_add, Nat.reduceAdd, Nat.reduceLT, List.getD_cons_zero, valK_ap, atK_ap, restV_ap, Eff.app, List.set, Eff.wi, Option.map_none, List.cons_append, List.nil_append, regV_cons, effW_free, opF_extract, ev_tmp, List.getD_cons_succ, opF_assign, regV_nil, sepL, List.not_mem_nil, false_implies, implies_true, true_and]))
        (refine hK _ ?_; clear hK K)
        simp only [thenW, blockW]
        refine ⟨⟨(x', y' - x'), hx'0, .inl hx'o, by dsimp only; rw [gcd_less (by omega)]; exact hy'g, by dsimp only; omega, by dsimp only; omega⟩, Le_of (by simp [leE, cN, cNat]) rfl, ?_⟩
        dsimp only
        omega
  intro s' hle
  refine W.le ?_ hle
  clear hle s'
  generalize hge : Nat.gcd x0 y0 = g at *
  have hgl : ∀ j, j ≤ tw → (limbs (g * 2 ^ j)).length < 274877906944 := fun j hj => by
    have := limbs_mono (Nat.le_trans (Nat.mul_le_mul hgx (Nat.pow_le_pow_right (show 0 < 2 by omega) hj)) (Nat.le_of_eq hx))
    omega
  have htw : tw < 8796093022208 := by omega
  clear p1 p2 p3 q1 q2 q3 hx hy hodd hG hge hgx ha0 hb0 ha1 hb1 hMa hMb
  simp only [cN, cNat]
  ((refine W_seq ?_; refine W_seqV fun K hK => ?_); simp (disch := omega) only [regV_cons, effW_free, opF_assign, ev_const, cst_int, atK_ap, restV_ap, Eff.app, List.set, Eff.wi, Option.map_none, List.nil_append, regV_nil, sepL, List.not_mem_nil, false_implies, implies_true, true_and])
  (refine hK _ ?_; clear hK K)
  refine W_block (W_loop (fun t : {t : Nat // t ≤ tw} => ⟨((cN (g * 2 ^ t.1)) :: .any :: .any :: .any :: .any :: .any :: (.int .i64 ((tw : Nat) : Int)) :: (.int .i64 ((t.1 : Nat) : Int)) :: .any :: .any :: .any :: .any :: .any :: .any :: .any :: .any :: .any :: .any :: .any :: .any :: .any :: .any :: .any :: .any :: .any :: .any :: .any :: .any :: .any :: .any :: .any :: .any :: .any :: .any :: .any :: .any :: .any :: .any :: .any :: .any :: .any :: .any :: .any :: .any :: .any :: .any :: .any :: .any :: .any :: .any :: .any :: .any :: .any :: .any :: .any :: .any :: .any :: .any :: .any :: .any :: .any :: .any :: .any :: .any :: .any :: .any :: .any :: .any :: .any :: .any :: .any :: .any :: .any :: .any :: .any :: .any :: .any :: .any :: .any :: .any :: .any :: .any :: .any :: .any :: .any :: .any :: .any :: .any :: .any :: .any :: .any :: []), (.dead :: .dead :: .dead :: .dead :: .dead :: .dead :: .dead :: .dead :: .dead :: .dead :: .dead :: .dead :: .dead :: .dead :: .dead :: .dead :: .dead :: .dead :: .dead :: .dead :: .dead :: .dead :: .dead :: .dead :: .dead :: .dead :: .dead :: .dead :: .dead :: .dead :: .dead :: .dead :: .dead :: .dead :: .dead :: .dead :: .dead :: .dead :: .dead :: .dead :: .dead :: .dead :: .dead :: .dead :: .dead :: .dead :: .dead :: .dead :: .dead :: .dead :: .dead :: .dead :: .dead :: .dead :: .dead :: .dead :: .dead :: .dead :: .dead :: .dead :: .dead :: .dead :: .dead :: .dead :: .dead :: .dead :: .dead :: .dead :: .dead :: .dead :: .dead :: .dead :: .dead :: .dead :: .dead :: .dead :: .dead :: .dead :: .dead :: .dead :: .dead :: .dead :: .dead :: .dead :: .dead :: .dead :: .dead :: .dead :: .dead :: .dead :: .dead :: [])⟩) (fun t => tw - t.1) ⟨0, by omega⟩ (Le_of (by simp [leE, cN, cNat]) rfl) fun t => ?_)
  obtain ⟨j, hj⟩ := t
  dsimp only
  have hjl := hgl j hj
  have htv := ftwice_v (g * 2 ^ j) false (by omega)
  rw [show 2 * (g * 2 ^ j) + false.toNat = g * 2 ^ (j + 1) by rw [Nat.pow_succ, Bool.toNat_false, Nat.add_zero, Nat.mul_comm 2, Nat.mul_assoc]] at htv
  simp only [cN, cNat] at htv ⊢
  by_cases hlt : j < tw
  · refine W_seq ?_
    ((refine W_seqV fun K hK => ?_); simp (disch := omega) only [regV_cons, effW_free, opF_move, ev_tmp, List.getD_cons_succ, List.getD_cons_zero, atK_ap, restV_ap, Eff.app, List.set, Eff.wi, Option.map_none, List.nil_append, List.cons_append, opF_binOp, ty3, binW_lss, nat_lt_int, hlt, decide_true, valK_ap, regV_nil, sepL, List.not_mem_nil, false_implies, implies_true, true_and])
    (refine hK _ ?_; clear hK K)
    (first | refine W_cond rfl (fun _ => ?_) (fun h => by cases h) | refine W_seq (W_cond rfl (fun _ => ?_) (fun h => by cases h)))
    refine W_skip ?_
    simp only [thenW]
    refine W_seq (W_block ?_)
    ((refine W_regV fun K hK => ?_); simp (disch := omega) only [regV_cons, effW_free, opF_move, ev_tmp, List.getD_cons_zero, atK_ap, restV_ap, Eff.app, List.set, Eff.wi, Option.map_none, List.nil_append, opF_call, ev_func, List.map_cons, List.getD_cons_succ, ev_const, cst_bool, List.map_nil, callF_fn, List.append_nil, List.cons_append, opF_assign, regV_nil, sepL, List.not_mem_nil, false_implies, implies_true, true_and])
    (refine ⟨by kernel_rfl, rfl, _, htv, ?_⟩)
    (refine hK _ ?_; clear hK K)
    simp only [thenW, blockW]
    ((refine W_regV fun K hK => ?_); simp (disch := omega) only [regV_cons, effW_free, opF_move, ev_tmp, List.getD_cons_succ, List.getD_cons_zero, atK_ap, restV_ap, Eff.app, List.set, Eff.wi, Option.map_none, List.nil_append, opF_binOp, ty3, ev_const, cst_int, binW_add, wrap_i64_one, valK_ap, List.cons_append, opF_assign, regV_nil, sepL, List.not_mem_nil, false_implies, implies_true, true_and])
    (refine hK _ ?_; clear hK K)
    simp only [thenW, blockW]
    exact ⟨⟨j + 1, by omega⟩, Le_of (by simp [leE, cN, cNat]) rfl, by dsimp only; omega⟩
  · obtain rfl : j = tw := by omega
    have hlt' : decide (j < j) = false := decide_eq_false (by omega)
    refine W_seq ?_
    ((refine W_seqV fun K hK => ?_); simp (disch := omega) only [regV_cons, effW_free, opF_move, ev_tmp, List.getD_cons_succ, List.getD_cons_zero, atK_ap, restV_ap, Eff.app, List.set, Eff.wi, Option.map_none, List.nil_append, List.cons_append, opF_binOp, ty3, binW_lss, Int.lt_irrefl, decide_false, valK_ap, regV_nil, sepL, List.not_mem_nil, false_implies, implies_true, true_and])
    (refine hK _ ?_; clear hK K)
    (first | refine W_cond rfl (fun h => by cases h) (fun _ => ?_) | refine W_seq (W_cond rfl (fun h => by cases h) (fun _ => ?_)))
    refine W_exit ?_
    simp only [thenW, blockW, if_true]
    ((refine W_seqV fun K hK => ?_); simp (disch := omega) only [regV_cons, effW_free, opF_move, ev_tmp, List.getD_cons_zero, atK_ap, restV_ap, Eff.app, List.set, Eff.wi, Option.map_none, List.nil_append, opF_assign, List.getD_cons_succ, List.cons_append, regV_nil, sepL, List.not_mem_nil, false_implies, implies_true, true_and])
    (refine hK _ ?_; clear hK K)
    refine W_ret ?_
    simp (disch := omega) only [retR, resW, resV, List.getD_cons_succ, List.getD_cons_zero, asOne_one, view_sl]
end Go.Proofs.Ytjkjapjcmbfkgaa.Vm

/-
  The reference's whole numbers.
-/
namespace Go.Proofs.Ytjkjapjcmbfkgaa.Vm
open Go Go.RowKit
set_option maxRecDepth 100000
set_option linter.unusedVariables false
set_option linter.unusedSimpArgs false
set_option pp.deepTerms false
set_option pp.deepTerms.threshold 8

theorem cZ_made (neg : Bool) (n : Nat) : cI (neg && decide (0 < (limbs n).length)) (limbs n) = cZ (if neg then -(n : Int) else n) := by
  cases neg
  · have := cZ_of 1 n
    simpa using this
  · have := cZ_of (-1) n
    simpa using this
theorem iv_if (neg : Bool) (l : List Nat) : iv neg l = if neg then -(val l : Int) else val l := rfl

set_option maxHeartbeats 2000000 in
theorem f2made_ok (neg : Bool) (l : List Nat) (h : Limbs l) (hl : l.length < 274877906944) : Pure Try.prog 50 [.bool neg, cNat l] (· = cZ (iv neg l)) := by
  have hn := fnorm_ok l h (by omega)
  rw [iv_if, ← cZ_made]
  simp only [cN, cNat] at hn
  (refine pureW Try.func50 rfl (rs := [Go.ResultVar.cell 4 27]) rfl (n := 16) rfl ?_; simp only [List.length_cons, List.length_nil, List.replicate, List.cons_append, List.nil_append])
  unfold cNat
  (repeat (refine W_seqV fun K hK => ?_; (try simp (disch := omega) only [regV_cons, effW_free, opF_alloc, dead, List.getElem?_cons_succ, List.getElem?_cons_zero, ty27, ne_eq, reduceCtorEq, not_false_eq_true, List.length_cons, List.length_nil, Nat.zero_add, Nat.reduceAdd, atK_ap, restV_ap, Eff.app, List.set, Eff.wi, Option.map_some, List.nil_append, regV_nil, sepL, List.not_mem_nil, false_implies, implies_true, true_and]); refine hK _ ?_; clear hK K))
  ((refine W_seqV fun K hK => ?_); simp (disch := omega) only [regV_cons, effW_free, opF_move, ev_tmp, List.getD_cons_succ, List.getD_cons_zero, atK_ap, restV_ap, Eff.app, List.set, Eff.wi, Option.map_none, List.nil_append, opF_call, ev_func, List.map_cons, List.map_nil, callF_fn, List.append_nil, List.cons_append, opF_assign, regV_nil, sepL, List.not_mem_nil, false_implies, implies_true, true_and])
  (refine ⟨by kernel_rfl, rfl, _, hn, ?_⟩)
  (refine hK _ ?_; clear hK K)
  cases neg
  · ((refine W_seqV fun K hK => ?_); simp (disch := omega) only [regV_cons, effW_free, opF_move, ev_tmp, List.getD_cons_zero, atK_ap, restV_ap, Eff.app, List.set, Eff.wi, Option.map_none, List.nil_append, List.getD_cons_succ, List.cons_append, effW_guard, guardOf, List.getElem?_toArray, List.getElem?_cons_succ, List.getElem?_cons_zero, Option.bind_some, effH_tf, opF_pick, ev_const, cst_bool, pickW_no, valK_ap, opF_build, ty27, List.map_cons, List.map_nil, buildW_struct, storable, AV.one, List.length_cons, List.length_nil, Nat.zero_add, Nat.reduceAdd, ne_eq, cellsOf, List.forall_mem_cons, Nat.reduceLT, ty4, reduceCtorEq, not_false_eq_true, Nat.reduceLeDiff, and_self, ty25, List.not_mem_nil, false_implies, implies_true, laid, List.foldl_cons, List.take_zero, List.drop_succ_cons, List.drop_zero, List.take_succ_cons, List.drop_nil, List.append_nil, List.foldl_nil, opF_store, storeF_ptr, storeO_arr, List.all_cons, List.all_nil, Bool.and_self, Bool.false_eq_true, overlay, wrK_ap, Option.map_some, regV_nil, sepL, true_and])
    (refine hK _ ?_; clear hK K)
    refine W_ret ?_
    simp (disch := omega) only [retR, resW, resV, List.getD_cons_succ, List.getD_cons_zero, asOne_one]; try simp (disch := omega) only [ty27, ne_eq, reduceCtorEq, not_false_eq_true, TI.isAgg, true_or, cI, loadW_ptr, List.getD_cons_succ, List.getD_cons_zero, loadO_arr, List.length_cons, List.length_nil, Nat.zero_add, Nat.reduceLT, Nat.reduceAdd, Nat.reduceLeDiff, ofCells, List.drop_zero, List.take_succ_cons, List.take_zero, List.headD_cons, if_true, view_agg, views_cons, view_bool, view_sl, views_nil, true_and]
    try rfl
  · ((refine W_seqV fun K hK => ?_); simp (disch := omega) only [regV_cons, effW_free, opF_move, ev_tmp, List.getD_cons_zero, atK_ap, restV_ap, Eff.app, List.set, Eff.wi, Option.map_none, List.nil_append, List.getD_cons_succ, List.cons_append, effW_guard, guardOf, List.getElem?_toArray, List.getElem?_cons_succ, List.getElem?_cons_zero, Option.bind_some, effH_tt, opF_len, ty25, lenW_sl, u32s_length, valK_ap, opF_binOp, ty3, ev_const, cst_int, binW_gtr, gt_iff_lt, Int.natCast_pos, opF_pick, cst_bool, pickW_bool, cond_true, opF_build, ty27, List.map_cons, List.map_nil, buildW_struct, storable, AV.one, List.length_cons, List.length_nil, Nat.zero_add, Nat.reduceAdd, ne_eq, cellsOf, List.forall_mem_cons, Nat.reduceLT, ty4, reduceCtorEq, not_false_eq_true, Nat.reduceLeDiff, and_self, List.not_mem_nil, false_implies, implies_true, laid, List.foldl_cons, List.take_zero, List.drop_succ_cons, List.drop_zero, List.take_succ_cons, List.drop_nil, List.append_nil, List.foldl_nil, opF_store, storeF_ptr, storeO_arr, List.all_cons, List.all_nil, Bool.and_self, Bool.false_eq_true, overlay, wrK_ap, Option.map_some, regV_nil, sepL, true_and])
    (refine hK _ ?_; clear hK K)
    refine W_ret ?_
    simp (disch := omega) only [retR, resW, resV, List.getD_cons_succ, List.getD_cons_zero, asOne_one]; try simp (disch := omega) only [ty27, ne_eq, reduceCtorEq, not_false_eq_true, TI.isAgg, true_or, cI, Bool.true_and, loadW_ptr, List.getD_cons_succ, List.getD_cons_zero, loadO_arr, List.length_cons, List.length_nil, Nat.zero_add, Nat.reduceLT, Nat.reduceAdd, Nat.reduceLeDiff, ofCells, List.drop_zero, List.take_succ_cons, List.take_zero, List.headD_cons, if_true, view_agg, views_cons, view_bool, view_sl, views_nil, and_self]
    try simp
theorem f2made_v (neg : Bool) (n : Nat) (hl : (limbs n).length < 274877906944) : Pure Try.prog 50 [.bool neg, cN n] (· = cZ (if neg then -(n : Int) else n)) := by
  have := f2made_ok neg (limbs n) (limbs_limbs n) hl
  rwa [iv_if, val_limbs] at this

set_option maxHeartbeats 2000000 in
theorem f2norm_ok (neg : Bool) (l : List Nat) (h : Limbs l) (hl : l.length < 274877906944) : Pure Try.prog 44 [cI neg l] (· = cZ (iv neg l)) := by
  have hm := f2made_ok neg l h hl
  (refine pureW Try.func44 rfl (rs := [Go.ResultVar.cell 2 27]) rfl (n := 8) rfl ?_; simp only [List.length_cons, List.length_nil, List.replicate, List.cons_append, List.nil_append])
  unfold cI
  (repeat (refine W_seqV fun K hK => ?_; (try simp (disch := omega) only [regV_cons, effW_free, opF_box, dead, List.getElem?_cons_succ, List.getElem?_cons_zero, storable, ev_tmp, List.getD_cons_zero, List.all_cons, AV.one, List.all_nil, Bool.and_self, cellsOf, List.length_cons, List.length_nil, Nat.zero_add, Nat.reduceAdd, atK_ap, restV_ap, Eff.app, List.set, Eff.wi, Option.map_some, List.nil_append, opF_alloc, ty27, ne_eq, reduceCtorEq, not_false_eq_true, List.cons_append, regV_nil, sepL, List.not_mem_nil, false_implies, implies_true, true_and]); refine hK _ ?_; clear hK K))
  ((refine W_seqV fun K hK => ?_); simp (disch := omega) only [regV_cons, effW_free, opF_fieldAddr, ty27, ev_tmp, List.getD_cons_succ, List.getD_cons_zero, fieldAddrW_ptr, List.length_cons, List.length_nil, Nat.zero_add, Nat.reduceAdd, Nat.reduceLT, ty4, ne_eq, reduceCtorEq, not_false_eq_true, Nat.add_zero, valK_ap, atK_ap, restV_ap, Eff.app, List.set, Eff.wi, Option.map_none, List.nil_append, opF_load, TI.isAgg, Bool.false_eq_true, or_true, objOf, loadW_ptr, loadO_arr, Nat.reduceLeDiff, ofCells, List.drop_zero, List.take_succ_cons, List.take_zero, List.headD_cons, if_false, List.cons_append, ty25, List.drop_succ_cons, opF_call, ev_func, List.map_cons, List.map_nil, callF_fn, List.append_nil, opF_store, storeF_ptr, storeO_arr, storable, AV.one, cellsOf, false_implies, overlay, wrK_ap, Option.map_some, regV_nil, sepL, List.not_mem_nil, implies_true, true_and])
  (refine ⟨by kernel_rfl, rfl, _, hm, ?_⟩; (try simp (disch := omega) only [cZ, cI, List.all_cons, AV.one, List.all_nil, Bool.and_self, List.length_cons, List.length_nil, Nat.zero_add, Nat.reduceAdd, List.drop_succ_cons, List.drop_nil, List.append_nil, true_and]))
  (refine hK _ ?_; clear hK K)
  refine W_ret ?_
  simp (disch := omega) only [retR, resW, resV, List.getD_cons_succ, List.getD_cons_zero, asOne_one]; try simp (disch := omega) only [ty27, ne_eq, reduceCtorEq, not_false_eq_true, TI.isAgg, true_or, cZ, cI, loadW_ptr, List.getD_cons_succ, List.getD_cons_zero, loadO_arr, List.length_cons, List.length_nil, Nat.zero_add, Nat.reduceLT, Nat.reduceAdd, Nat.reduceLeDiff, ofCells, List.drop_zero, List.take_succ_cons, List.take_zero, List.headD_cons, if_true, view_agg, views_cons, view_bool, view_sl, views_nil, and_self]

set_option maxHeartbeats 2000000 in
theorem f2neg_ok (neg : Bool) (l : List Nat) (h : Limbs l) (hl : l.length < 274877906944) : Pure Try.prog 48 [cI neg l] (· = cZ (-(iv neg l))) := by
  have hm := f2made_ok (!neg) l h hl
  rw [show iv (!neg) l = -(iv neg l) by cases neg <;> simp [iv]] at hm
  (refine pureW Try.func48 rfl (rs := [Go.ResultVar.cell 2 27]) rfl (n := 9) rfl ?_; simp only [List.length_cons, List.length_nil, List.replicate, List.cons_append, List.nil_append])
  unfold cI
  (repeat (refine W_seqV fun K hK => ?_; (try simp (disch := omega) only [regV_cons, effW_free, opF_box, dead, List.getElem?_cons_succ, List.getElem?_cons_zero, storable, ev_tmp, List.getD_cons_zero, List.all_cons, AV.one, List.all_nil, Bool.and_self, cellsOf, List.length_cons, List.length_nil, Nat.zero_add, Nat.reduceAdd, atK_ap, restV_ap, Eff.app, List.set, Eff.wi, Option.map_some, List.nil_append, opF_alloc, ty27, ne_eq, reduceCtorEq, not_false_eq_true, List.cons_append, regV_nil, sepL, List.not_mem_nil, false_implies, implies_true, true_and]); refine hK _ ?_; clear hK K))
  ((refine W_seqV fun K hK => ?_); simp (disch := omega) only [regV_cons, effW_free, opF_fieldAddr, ty27, ev_tmp, List.getD_cons_succ, List.getD_cons_zero, fieldAddrW_ptr, List.length_cons, List.length_nil, Nat.zero_add, Nat.reduceAdd, Nat.reduceLT, ty4, ne_eq, reduceCtorEq, not_false_eq_true, Nat.add_zero, valK_ap, atK_ap, restV_ap, Eff.app, List.set, Eff.wi, Option.map_none, List.nil_append, opF_load, TI.isAgg, Bool.false_eq_true, or_true, objOf, loadW_ptr, loadO_arr, Nat.reduceLeDiff, ofCells, List.drop_zero, List.take_succ_cons, List.take_zero, List.headD_cons, if_false, List.cons_append, opF_unOp, unW_not, ty25, List.drop_succ_cons, opF_call, ev_func, List.map_cons, List.map_nil, callF_fn, List.append_nil, opF_store, storeF_ptr, storeO_arr, storable, AV.one, cellsOf, false_implies, overlay, wrK_ap, Option.map_some, regV_nil, sepL, List.not_mem_nil, implies_true, true_and])
  (refine ⟨by kernel_rfl, rfl, _, hm, ?_⟩; (try simp (disch := omega) only [cZ, cI, List.all_cons, AV.one, List.all_nil, Bool.and_self, List.length_cons, List.length_nil, Nat.zero_add, Nat.reduceAdd, List.drop_succ_cons, List.drop_nil, List.append_nil, true_and]))
  (refine hK _ ?_; clear hK K)
  refine W_ret ?_
  simp (disch := omega) only [retR, resW, resV, List.getD_cons_succ, List.getD_cons_zero, asOne_one]; try simp (disch := omega) only [ty27, ne_eq, reduceCtorEq, not_false_eq_true, TI.isAgg, true_or, cZ, cI, loadW_ptr, List.getD_cons_succ, List.getD_cons_zero, loadO_arr, List.length_cons, List.length_nil, Nat.zero_add, Nat.reduceLT, Nat.reduceAdd, Nat.reduceLeDiff, ofCells, List.drop_zero, List.take_succ_cons, List.take_zero, List.headD_cons, if_true, view_agg, views_cons, view_bool, view_sl, views_nil, and_self]

set_option maxHeartbeats 2000000 in
theorem f2sign_ok (neg : Bool) (l : List Nat) (h : Limbs l) (hl : l.length < 274877906944) : Pure Try.prog 21 [cI neg l] (· = .int .i64 (iv neg l).sign) := by
  have hm := f2norm_ok neg l h hl
  have hab := iv_abs neg l
  generalize iv neg l = z at *
  by_cases hz : z < 0
  · have hz' := decide_eq_true hz
    rw [Int.sign_eq_neg_one_of_neg hz]
    (refine pureW Try.func21 rfl (rs := [Go.ResultVar.tmp 2]) rfl (n := 12) rfl ?_; simp only [List.length_cons, List.length_nil, List.replicate, List.cons_append, List.nil_append])
    unfold cI
    (repeat (refine W_seqV fun K hK => ?_; (try simp (disch := omega) only [regV_cons, effW_free, opF_box, dead, List.getElem?_cons_succ, List.getElem?_cons_zero, storable, ev_tmp, List.getD_cons_zero, List.all_cons, AV.one, List.all_nil, Bool.and_self, cellsOf, List.length_cons, List.length_nil, Nat.zero_add, Nat.reduceAdd, atK_ap, restV_ap, Eff.app, List.set, Eff.wi, Option.map_some, List.nil_append, opF_assign, ev_const, cst_int, Option.map_none, List.cons_append, regV_nil, sepL, List.not_mem_nil, false_implies, implies_true, true_and]); refine hK _ ?_; clear hK K))
    ((refine W_seqV fun K hK => ?_); simp (disch := omega) only [regV_cons, effW_free, opF_load, ty27, ne_eq, reduceCtorEq, not_false_eq_true, TI.isAgg, true_or, ev_tmp, List.getD_cons_succ, List.getD_cons_zero, objOf, loadW_ptr, loadO_arr, List.length_cons, List.length_nil, Nat.zero_add, Nat.reduceLT, Nat.reduceAdd, Nat.reduceLeDiff, ofCells, List.drop_zero, List.take_succ_cons, List.take_zero, List.headD_cons, if_true, valK_ap, atK_ap, restV_ap, Eff.app, List.set, Eff.wi, Option.map_none, List.nil_append, opF_call, ev_func, List.map_cons, List.map_nil, callF_fn, List.append_nil, List.cons_append, opF_alloc, dead, List.getElem?_cons_succ, List.getElem?_cons_zero, Option.map_some, opF_store, storeF_ptr, storeO_arr, storable, AV.one, cellsOf, Bool.false_eq_true, false_implies, overlay, wrK_ap, regV_nil, sepL, List.not_mem_nil, implies_true, true_and])
    (refine ⟨by kernel_rfl, rfl, _, hm, ?_⟩; (try simp (disch := omega) only [cZ, cI, List.all_cons, AV.one, List.all_nil, Bool.and_self, List.length_cons, List.length_nil, Nat.zero_add, Nat.reduceAdd, List.drop_succ_cons, List.drop_nil, List.append_nil, true_and]))
    (refine hK _ ?_; clear hK K)
    refine W_seq ?_
    ((refine W_seqV fun K hK => ?_); simp (disch := omega) only [hz', regV_cons, effW_free, opF_fieldAddr, ty27, ev_tmp, List.getD_cons_succ, List.getD_cons_zero, fieldAddrW_ptr, List.length_cons, List.length_nil, Nat.zero_add, Nat.reduceAdd, Nat.reduceLT, ty4, ne_eq, reduceCtorEq, not_false_eq_true, Nat.add_zero, valK_ap, atK_ap, restV_ap, Eff.app, List.set, Eff.wi, Option.map_none, List.nil_append, opF_load, TI.isAgg, Bool.false_eq_true, or_true, objOf, loadW_ptr, loadO_arr, Nat.reduceLeDiff, ofCells, List.drop_zero, List.take_succ_cons, List.take_zero, List.headD_cons, if_false, List.cons_append, regV_nil, sepL, List.not_mem_nil, false_implies, implies_true, true_and])
    (refine hK _ ?_; clear hK K)
    (first | refine W_cond rfl (fun _ => ?_) (fun h => by cases h) | refine W_seq (W_cond rfl (fun _ => ?_) (fun h => by cases h)))
    ((refine W_seqV fun K hK => ?_); simp (disch := omega) only [Int.reduceNeg, regV_cons, effW_free, opF_assign, ev_const, cst_int, atK_ap, restV_ap, Eff.app, List.set, Eff.wi, Option.map_none, List.nil_append, regV_nil, sepL, List.not_mem_nil, false_implies, implies_true, true_and])
    (refine hK _ ?_; clear hK K)
    refine W_ret ?_
    simp (disch := omega) only [thenW, retR, resW, resV, List.getD_cons_succ, List.getD_cons_zero, asOne_one, view_int]
  · have hz' := decide_eq_false hz
    by_cases h0 : z = 0
    · subst h0
      (refine pureW Try.func21 rfl (rs := [Go.ResultVar.tmp 2]) rfl (n := 12) rfl ?_; simp only [List.length_cons, List.length_nil, List.replicate, List.cons_append, List.nil_append])
      unfold cI
      (repeat (refine W_seqV fun K hK => ?_; (try simp (disch := omega) only [regV_cons, effW_free, opF_box, dead, List.getElem?_cons_succ, List.getElem?_cons_zero, storable, ev_tmp, List.getD_cons_zero, List.all_cons, AV.one, List.all_nil, Bool.and_self, cellsOf, List.length_cons, List.length_nil, Nat.zero_add, Nat.reduceAdd, atK_ap, restV_ap, Eff.app, List.set, Eff.wi, Option.map_some, List.nil_append, opF_assign, ev_const, cst_int, Option.map_none, List.cons_append, regV_nil, sepL, List.not_mem_nil, false_implies, implies_true, true_and]); refine hK _ ?_; clear hK K))
      ((refine W_seqV fun K hK => ?_); simp (disch := omega) only [regV_cons, effW_free, opF_load, ty27, ne_eq, reduceCtorEq, not_false_eq_true, TI.isAgg, true_or, ev_tmp, List.getD_cons_succ, List.getD_cons_zero, objOf, loadW_ptr, loadO_arr, List.length_cons, List.length_nil, Nat.zero_add, Nat.reduceLT, Nat.reduceAdd, Nat.reduceLeDiff, ofCells, List.drop_zero, List.take_succ_cons, List.take_zero, List.headD_cons, if_true, valK_ap, atK_ap, restV_ap, Eff.app, List.set, Eff.wi, Option.map_none, List.nil_append, opF_call, ev_func, List.map_cons, List.map_nil, callF_fn, List.append_nil, List.cons_append, opF_alloc, dead, List.getElem?_cons_succ, List.getElem?_cons_zero, Option.map_some, opF_store, storeF_ptr, storeO_arr, storable, AV.one, cellsOf, Bool.false_eq_true, false_implies, overlay, wrK_ap, regV_nil, sepL, List.not_mem_nil, implies_true, true_and])
      (refine ⟨by kernel_rfl, rfl, _, hm, ?_⟩; (try simp (disch := omega) only [cZ, cI, Int.lt_irrefl, decide_false, List.all_cons, AV.one, List.all_nil, Bool.and_self, List.length_cons, List.length_nil, Nat.zero_add, Nat.reduceAdd, List.drop_succ_cons, List.drop_nil, List.append_nil, true_and]))
      (refine hK _ ?_; clear hK K)
      refine W_seq ?_
      ((refine W_seqV fun K hK => ?_); simp (disch := omega) only [regV_cons, effW_free, opF_fieldAddr, ty27, ev_tmp, List.getD_cons_succ, List.getD_cons_zero, fieldAddrW_ptr, List.length_cons, List.length_nil, Nat.zero_add, Nat.reduceAdd, Nat.reduceLT, ty4, ne_eq, reduceCtorEq, not_false_eq_true, Nat.add_zero, valK_ap, atK_ap, restV_ap, Eff.app, List.set, Eff.wi, Option.map_none, List.nil_append, opF_load, TI.isAgg, Bool.false_eq_true, or_true, objOf, loadW_ptr, loadO_arr, Nat.reduceLeDiff, ofCells, List.drop_zero, List.take_succ_cons, List.take_zero, List.headD_cons, if_false, List.cons_append, regV_nil, sepL, List.not_mem_nil, false_implies, implies_true, true_and])
      (refine hK _ ?_; clear hK K)
      (first | refine W_cond rfl (fun h => by cases h) (fun _ => ?_) | refine W_seq (W_cond rfl (fun h => by cases h) (fun _ => ?_)))
      refine W_skip ?_
      simp only [thenW]
      refine W_seq ?_
      ((refine W_seqV fun K hK => ?_); simp (disch := omega) only [Int.natAbs_zero, limbs_zero, regV_cons, effW_free, opF_fieldAddr, ty27, ev_tmp, List.getD_cons_succ, List.getD_cons_zero, fieldAddrW_ptr, List.length_cons, List.length_nil, Nat.zero_add, Nat.reduceAdd, Nat.reduceLT, ty25, ne_eq, reduceCtorEq, not_false_eq_true, valK_ap, atK_ap, restV_ap, Eff.app, List.set, Eff.wi, Option.map_none, List.nil_append, opF_load, TI.isAgg, Bool.false_eq_true, or_true, objOf, loadW_ptr, loadO_arr, Nat.reduceLeDiff, ofCells, List.drop_succ_cons, List.drop_zero, List.take_succ_cons, List.take_zero, List.headD_cons, if_false, List.cons_append, opF_len, lenW_sl, u32s_length, Int.cast_ofNat_Int, opF_binOp, ty3, ev_const, cst_int, binW_gtr, gt_iff_lt, Int.lt_irrefl, decide_false, regV_nil, sepL, List.not_mem_nil, false_implies, implies_true, true_and])
      (refine hK _ ?_; clear hK K)
      (first | refine W_cond rfl (fun h => by cases h) (fun _ => ?_) | refine W_seq (W_cond rfl (fun h => by cases h) (fun _ => ?_)))
      refine W_skip ?_
      simp only [thenW]
      ((refine W_seqV fun K hK => ?_); simp (disch := omega) only [regV_cons, effW_free, opF_assign, ev_const, cst_int, atK_ap, restV_ap, Eff.app, List.set, Eff.wi, Option.map_none, List.nil_append, regV_nil, sepL, List.not_mem_nil, false_implies, implies_true, true_and])
      (refine hK _ ?_; clear hK K)
      refine W_ret ?_
      simp (disch := omega) only [retR, resW, resV, List.getD_cons_succ, List.getD_cons_zero, asOne_one, view_int]
      try rfl
    · have hlp := limbs_len_pos (n := z.natAbs) (by omega)
      rw [Int.sign_eq_one_of_pos (by omega)]
      (refine pureW Try.func21 rfl (rs := [Go.ResultVar.tmp 2]) rfl (n := 12) rfl ?_; simp only [List.length_cons, List.length_nil, List.replicate, List.cons_append, List.nil_append])
      unfold cI
      (repeat (refine W_seqV fun K hK => ?_; (try simp (disch := omega) only [regV_cons, effW_free, opF_box, dead, List.getElem?_cons_succ, List.getElem?_cons_zero, storable, ev_tmp, List.getD_cons_zero, List.all_cons, AV.one, List.all_nil, Bool.and_self, cellsOf, List.length_cons, List.length_nil, Nat.zero_add, Nat.reduceAdd, atK_ap, restV_ap, Eff.app, List.set, Eff.wi, Option.map_some, List.nil_append, opF_assign, ev_const, cst_int, Option.map_none, List.cons_append, regV_nil, sepL, List.not_mem_nil, false_implies, implies_true, true_and]); refine hK _ ?_; clear hK K))
      ((refine W_seqV fun K hK => ?_); simp (disch := omega) only [regV_cons, effW_free, opF_load, ty27, ne_eq, reduceCtorEq, not_false_eq_true, TI.isAgg, true_or, ev_tmp, List.getD_cons_succ, List.getD_cons_zero, objOf, loadW_ptr, loadO_arr, List.length_cons, List.length_nil, Nat.zero_add, Nat.reduceLT, Nat.reduceAdd, Nat.reduceLeDiff, ofCells, List.drop_zero, List.take_succ_cons, List.take_zero, List.headD_cons, if_true, valK_ap, atK_ap, restV_ap, Eff.app, List.set, Eff.wi, Option.map_none, List.nil_append, opF_call, ev_func, List.map_cons, List.map_nil, callF_fn, List.append_nil, List.cons_append, opF_alloc, dead, List.getElem?_cons_succ, List.getElem?_cons_zero, Option.map_some, opF_store, storeF_ptr, storeO_arr, storable, AV.one, cellsOf, Bool.false_eq_true, false_implies, overlay, wrK_ap, regV_nil, sepL, List.not_mem_nil, implies_true, true_and])
      (refine ⟨by kernel_rfl, rfl, _, hm, ?_⟩; (try simp (disch := omega) only [cZ, cI, List.all_cons, AV.one, List.all_nil, Bool.and_self, List.length_cons, List.length_nil, Nat.zero_add, Nat.reduceAdd, List.drop_succ_cons, List.drop_nil, List.append_nil, true_and]))
      (refine hK _ ?_; clear hK K)
      refine W_seq ?_
      ((refine W_seqV fun K hK => ?_); simp (disch := omega) only [hz', regV_cons, effW_free, opF_fieldAddr, ty27, ev_tmp, List.getD_cons_succ, List.getD_cons_zero, fieldAddrW_ptr, List.length_cons, List.length_nil, Nat.zero_add, Nat.reduceAdd, Nat.reduceLT, ty4, ne_eq, reduceCtorEq, not_false_eq_true, Nat.add_zero, valK_ap, atK_ap, restV_ap, Eff.app, List.set, Eff.wi, Option.map_none, List.nil_append, opF_load, TI.isAgg, Bool.false_eq_true, or_true, objOf, loadW_ptr, loadO_arr, Nat.reduceLeDiff, ofCells, List.drop_zero, List.take_succ_cons, List.take_zero, List.headD_cons, if_false, List.cons_append, regV_nil, sepL, List.not_mem_nil, false_implies, implies_true, true_and])
      (refine hK _ ?_; clear hK K)
      (first | refine W_cond rfl (fun h => by cases h) (fun _ => ?_) | refine W_seq (W_cond rfl (fun h => by cases h) (fun _ => ?_)))
      refine W_skip ?_
      simp only [thenW]
      refine W_seq ?_
      ((refine W_seqV fun K hK => ?_); simp (disch := omega) only [regV_cons, effW_free, opF_fieldAddr, ty27, ev_tmp, List.getD_cons_succ, List.getD_cons_zero, fieldAddrW_ptr, List.length_cons, List.length_nil, Nat.zero_add, Nat.reduceAdd, Nat.reduceLT, ty25, ne_eq, reduceCtorEq, not_false_eq_true, valK_ap, atK_ap, restV_ap, Eff.app, List.set, Eff.wi, Option.map_none, List.nil_append, opF_load, TI.isAgg, Bool.false_eq_true, or_true, objOf, loadW_ptr, loadO_arr, Nat.reduceLeDiff, ofCells, List.drop_succ_cons, List.drop_zero, List.take_succ_cons, List.take_zero, List.headD_cons, if_false, List.cons_append, opF_len, lenW_sl, u32s_length, opF_binOp, ty3, ev_const, cst_int, binW_gtr, gt_iff_lt, Int.natCast_pos, hlp, decide_true, regV_nil, sepL, List.not_mem_nil, false_implies, implies_true, true_and])
      (refine hK _ ?_; clear hK K)
      (first | refine W_cond rfl (fun _ => ?_) (fun h => by cases h) | refine W_seq (W_cond rfl (fun _ => ?_) (fun h => by cases h)))
      ((refine W_seqV fun K hK => ?_); simp (disch := omega) only [regV_cons, effW_free, opF_assign, ev_const, cst_int, atK_ap, restV_ap, Eff.app, List.set, Eff.wi, Option.map_none, List.nil_append, regV_nil, sepL, List.not_mem_nil, false_implies, implies_true, true_and])
      (refine hK _ ?_; clear hK K)
      refine W_ret ?_
      simp (disch := omega) only [thenW, retR, resW, resV, List.getD_cons_succ, List.getD_cons_zero, asOne_one, view_int]

set_option maxHeartbeats 2000000 in
theorem f2mul_ok (neg : Bool) (l : List Nat) (h : Limbs l) (hl : l.length < 68719476736) (neg' : Bool) (l' : List Nat) (h' : Limbs l') (hl' : l'.length < 68719476736) : Pure Try.prog 26 [cI neg l, cI neg' l'] (· = cZ (iv neg l * iv neg' l')) := by
  have hm := fmul_ok l l' h h' (by omega) (by omega)
  have hlm := len_mul (val l) (val l')
  have h1 := limbs_val_length h
  have h2 := limbs_val_length h'
  have hd := f2made_v (!(neg == neg')) (val l * val l') (by omega)
  rw [show (if (!(neg == neg')) = true then -((val l * val l' : Nat) : Int) else ((val l * val l' : Nat) : Int)) = iv neg l * iv neg' l' by cases neg <;> cases neg' <;> simp [iv, Int.neg_mul, Int.mul_neg]] at hd
  (refine pureW Try.func26 rfl (rs := [Go.ResultVar.cell 4 27]) rfl (n := 16) rfl ?_; simp only [List.length_cons, List.length_nil, List.replicate, List.cons_append, List.nil_append])
  unfold cI
  (repeat (refine W_seqV fun K hK => ?_; (try simp (disch := omega) only [regV_cons, effW_free, opF_box, dead, List.getElem?_cons_succ, List.getElem?_cons_zero, storable, ev_tmp, List.getD_cons_zero, List.all_cons, AV.one, List.all_nil, Bool.and_self, cellsOf, List.length_cons, List.length_nil, Nat.zero_add, Nat.reduceAdd, atK_ap, restV_ap, Eff.app, List.set, Eff.wi, Option.map_some, List.nil_append, List.getD_cons_succ, List.cons_append, opF_alloc, ty27, ne_eq, reduceCtorEq, not_false_eq_true, regV_nil, sepL, List.not_mem_nil, false_implies, implies_true, true_and]); refine hK _ ?_; clear hK K))
  ((refine W_seqD mixed [] (by kernel_rfl) fun K hK => ?_); simp (disch := omega) only [regV_cons, effW_free, opF_fieldAddr, ty27, ev_tmp, List.getD_cons_succ, List.getD_cons_zero, fieldAddrW_ptr, List.length_cons, List.length_nil, Nat.zero_add, Nat.reduceAdd, Nat.reduceLT, ty4, ne_eq, reduceCtorEq, not_false_eq_true, Nat.add_zero, valK_ap, atK_ap, restV_ap, Eff.app, List.set, Eff.wi, Option.map_none, List.nil_append, opF_load, TI.isAgg, Bool.false_eq_true, or_true, objOf, loadW_ptr, loadO_arr, Nat.reduceLeDiff, ofCells, List.drop_zero, List.take_succ_cons, List.take_zero, List.headD_cons, if_false, List.cons_append, opF_binOp, binW_bneq, ty25, List.drop_succ_cons, opF_call, ev_func, List.map_cons, List.map_nil, callF_fn, List.append_nil, opF_store, storeF_ptr, storeO_arr, storable, AV.one, cellsOf, false_implies, overlay, wrK_ap, Option.map_some, regV_nil, sepL, List.not_mem_nil, implies_true, true_and])
  (refine ⟨by kernel_rfl, rfl, _, hm, ?_⟩; (try simp (disch := omega) only [cN, cNat]))
  (refine ⟨by kernel_rfl, rfl, _, hd, ?_⟩; (try simp (disch := omega) only [cZ, cI, List.all_cons, AV.one, List.all_nil, Bool.and_self, List.length_cons, List.length_nil, Nat.zero_add, Nat.reduceAdd, List.drop_succ_cons, List.drop_nil, List.append_nil, true_and]))
  (refine hK _ ?_; clear hK K)
  refine W_ret ?_
  simp (disch := omega) only [retR, resW, resV, List.getD_cons_succ, List.getD_cons_zero, asOne_one]; try simp (disch := omega) only [ty27, ne_eq, reduceCtorEq, not_false_eq_true, TI.isAgg, true_or, cZ, cI, loadW_ptr, List.getD_cons_succ, List.getD_cons_zero, loadO_arr, List.length_cons, List.length_nil, Nat.zero_add, Nat.reduceLT, Nat.reduceAdd, Nat.reduceLeDiff, ofCells, List.drop_zero, List.take_succ_cons, List.take_zero, List.headD_cons, if_true, view_agg, views_cons, view_bool, view_sl, views_nil, and_self]

set_option maxHeartbeats 4000000 in
theorem f2add_ok (neg : Bool) (l : List Nat) (h : Limbs l) (hl : l.length < 137438953472) (neg' : Bool) (l' : List Nat) (h' : Limbs l') (hl' : l'.length < 137438953472) : Pure Try.prog 25 [cI neg l, cI neg' l'] (· = cZ (iv neg l + iv neg' l')) := by
  have h1 := limbs_val_length h
  have h2 := limbs_val_length h'
  cases hnn : neg == neg'
  · have hc := fcmp_ok l l' h h' (by omega) (by omega)
    by_cases hle : val l' ≤ val l
    · have hs := sgn_nn hle
      have hsub := fsub_ok l l' h h' (by omega) (by omega) hle
      have hsl := limbs_mono (Nat.sub_le (val l) (val l'))
      have hd := f2made_v neg (val l - val l') (by omega)
      rw [show (if neg = true then -((val l - val l' : Nat) : Int) else ((val l - val l' : Nat) : Int)) = iv neg l + iv neg' l' by cases neg <;> cases neg' <;> simp [iv] at * <;> omega] at hd
      (refine pureW Try.func25 rfl (rs := [Go.ResultVar.cell 4 27]) rfl (n := 52) rfl ?_; simp only [List.length_cons, List.length_nil, List.replicate, List.cons_append, List.nil_append])
      unfold cI
      (repeat (refine W_seqV fun K hK => ?_; (try simp (disch := omega) only [regV_cons, effW_free, opF_box, dead, List.getElem?_cons_succ, List.getElem?_cons_zero, storable, ev_tmp, List.getD_cons_zero, List.all_cons, AV.one, List.all_nil, Bool.and_self, cellsOf, List.length_cons, List.length_nil, Nat.zero_add, Nat.reduceAdd, atK_ap, restV_ap, Eff.app, List.set, Eff.wi, Option.map_some, List.nil_append, List.getD_cons_succ, List.cons_append, opF_alloc, ty27, ne_eq, reduceCtorEq, not_false_eq_true, regV_nil, sepL, List.not_mem_nil, false_implies, implies_true, true_and]); refine hK _ ?_; clear hK K))
      refine W_seq ?_
      ((refine W_seqV fun K hK => ?_); simp (disch := omega) only [regV_cons, effW_free, opF_fieldAddr, ty27, ev_tmp, List.getD_cons_succ, List.getD_cons_zero, fieldAddrW_ptr, List.length_cons, List.length_nil, Nat.zero_add, Nat.reduceAdd, Nat.reduceLT, ty4, ne_eq, reduceCtorEq, not_false_eq_true, Nat.add_zero, valK_ap, atK_ap, restV_ap, Eff.app, List.set, Eff.wi, Option.map_none, List.nil_append, opF_load, TI.isAgg, Bool.false_eq_true, or_true, objOf, loadW_ptr, loadO_arr, Nat.reduceLeDiff, ofCells, List.drop_zero, List.take_succ_cons, List.take_zero, List.headD_cons, if_false, List.cons_append, opF_binOp, binW_beql, hnn, regV_nil, sepL, List.not_mem_nil, false_implies, implies_true, true_and])
      (refine hK _ ?_; clear hK K)
      (first | refine W_cond rfl (fun h => by cases h) (fun _ => ?_) | refine W_seq (W_cond rfl (fun h => by cases h) (fun _ => ?_)))
      refine W_skip ?_
      simp only [thenW]
      refine W_seq ?_
      ((refine W_seqV fun K hK => ?_); simp (disch := omega) only [regV_cons, effW_free, opF_fieldAddr, ty27, ev_tmp, List.getD_cons_succ, List.getD_cons_zero, fieldAddrW_ptr, List.length_cons, List.length_nil, Nat.zero_add, Nat.reduceAdd, Nat.reduceLT, ty25, ne_eq, reduceCtorEq, not_false_eq_true, valK_ap, atK_ap, restV_ap, Eff.app, List.set, Eff.wi, Option.map_none, List.nil_append, opF_load, TI.isAgg, Bool.false_eq_true, or_true, objOf, loadW_ptr, loadO_arr, Nat.reduceLeDiff, ofCells, List.drop_succ_cons, List.drop_zero, List.take_succ_cons, List.take_zero, List.headD_cons, if_false, List.cons_append, opF_call, ev_func, List.map_cons, List.map_nil, callF_fn, List.append_nil, opF_binOp, ty3, ev_const, cst_int, true_and])
      (refine ⟨by kernel_rfl, rfl, _, hc, ?_⟩; (try simp (disch := omega) only [binW_geq, ge_iff_le, valK_ap, atK_ap, restV_ap, Eff.app, List.set, Eff.wi, Option.map_none, List.cons_append, List.nil_append, regV_nil, sepL, List.not_mem_nil, false_implies, implies_true, true_and]))
      simp (disch := omega) only [hs]
      (refine hK _ ?_; clear hK K)
      (first | refine W_cond rfl (fun _ => ?_) (fun h => by cases h) | refine W_seq (W_cond rfl (fun _ => ?_) (fun h => by cases h)))
      ((refine W_seqV fun K hK => ?_); simp (disch := omega) only [regV_cons, effW_free, opF_fieldAddr, ty27, ev_tmp, List.getD_cons_succ, List.getD_cons_zero, fieldAddrW_ptr, List.length_cons, List.length_nil, Nat.zero_add, Nat.reduceAdd, Nat.reduceLT, ty25, ne_eq, reduceCtorEq, not_false_eq_true, valK_ap, atK_ap, restV_ap, Eff.app, List.set, Eff.wi, Option.map_none, List.nil_append, opF_load, TI.isAgg, Bool.false_eq_true, or_true, objOf, loadW_ptr, loadO_arr, Nat.reduceLeDiff, ofCells, List.drop_succ_cons, List.drop_zero, List.take_succ_cons, List.take_zero, List.headD_cons, if_false, List.cons_append, opF_call, ev_func, List.map_cons, List.map_nil, callF_fn, List.append_nil, opF_move, opF_extract, true_and])
      (refine ⟨by kernel_rfl, rfl, _, hsub, ?_⟩; (try simp (disch := omega) only [cN, cNat, extractW_tup, List.length_cons, List.length_nil, Nat.zero_add, Nat.reduceAdd, Nat.reduceLT, List.getD_cons_zero, valK_ap, atK_ap, restV_ap, Eff.app, List.set, Eff.wi, Option.map_none, List.cons_append, List.nil_append, regV_cons, effW_free, opF_extract, ev_tmp, List.getD_cons_succ, opF_assign, regV_nil, sepL, List.not_mem_nil, false_implies, implies_true, true_and]))
      (refine hK _ ?_; clear hK K)
      ((refine W_seqV fun K hK => ?_); simp (disch := omega) only [regV_cons, effW_free, opF_fieldAddr, ty27, ev_tmp, List.getD_cons_succ, List.getD_cons_zero, fieldAddrW_ptr, List.length_cons, List.length_nil, Nat.zero_add, Nat.reduceAdd, Nat.reduceLT, ty4, ne_eq, reduceCtorEq, not_false_eq_true, Nat.add_zero, valK_ap, atK_ap, restV_ap, Eff.app, List.set, Eff.wi, Option.map_none, List.nil_append, opF_load, TI.isAgg, Bool.false_eq_true, or_true, objOf, loadW_ptr, loadO_arr, Nat.reduceLeDiff, ofCells, List.drop_zero, List.take_succ_cons, List.take_zero, List.headD_cons, if_false, List.cons_append, opF_move, opF_call, ev_func, List.map_cons, List.map_nil, callF_fn, List.append_nil, opF_store, storeF_ptr, storeO_arr, storable, AV.one, cellsOf, false_implies, overlay, wrK_ap, Option.map_some, regV_nil, sepL, List.not_mem_nil, implies_true, true_and])
      (refine ⟨by kernel_rfl, rfl, _, hd, ?_⟩; (try simp (disch := omega) only [cZ, cI, List.all_cons, AV.one, List.all_nil, Bool.and_self, List.length_cons, List.length_nil, Nat.zero_add, Nat.reduceAdd, List.drop_succ_cons, List.drop_nil, List.append_nil, true_and]))
      (refine hK _ ?_; clear hK K)
      refine W_ret ?_
      simp (disch := omega) only [thenW, retR, resW, resV, sgn, List.getD_cons_succ, List.getD_cons_zero, asOne_one]; try simp (disch := omega) only [ty27, ne_eq, reduceCtorEq, not_false_eq_true, TI.isAgg, true_or, cZ, cI, loadW_ptr, List.getD_cons_succ, List.getD_cons_zero, loadO_arr, List.length_cons, List.length_nil, Nat.zero_add, Nat.reduceLT, Nat.reduceAdd, Nat.reduceLeDiff, ofCells, List.drop_zero, List.take_succ_cons, List.take_zero, List.headD_cons, if_true, view_agg, views_cons, view_bool, view_sl, views_nil, and_self]
    · have hs := sgn_ng hle
      have hsub := fsub_ok l' l h' h (by omega) (by omega) (by omega)
      have hsl := limbs_mono (Nat.sub_le (val l') (val l))
      have hd := f2made_v neg' (val l' - val l) (by omega)
      rw [show (if neg' = true then -((val l' - val l : Nat) : Int) else ((val l' - val l : Nat) : Int)) = iv neg l + iv neg' l' by cases neg <;> cases neg' <;> simp [iv] at * <;> omega] at hd
      (refine pureW Try.func25 rfl (rs := [Go.ResultVar.cell 4 27]) rfl (n := 52) rfl ?_; simp only [List.length_cons, List.length_nil, List.replicate, List.cons_append, List.nil_append])
      unfold cI
      (repeat (refine W_seqV fun K hK => ?_; (try simp (disch := omega) only [regV_cons, effW_free, opF_box, dead, List.getElem?_cons_succ, List.getElem?_cons_zero, storable, ev_tmp, List.getD_cons_zero, List.all_cons, AV.one, List.all_nil, Bool.and_self, cellsOf, List.length_cons, List.length_nil, Nat.zero_add, Nat.reduceAdd, atK_ap, restV_ap, Eff.app, List.set, Eff.wi, Option.map_some, List.nil_append, List.getD_cons_succ, List.cons_append, opF_alloc, ty27, ne_eq, reduceCtorEq, not_false_eq_true, regV_nil, sepL, List.not_mem_nil, false_implies, implies_true, true_and]); refine hK _ ?_; clear hK K))
      refine W_seq ?_
      ((refine W_seqV fun K hK => ?_); simp (disch := omega) only [regV_cons, effW_free, opF_fieldAddr, ty27, ev_tmp, List.getD_cons_succ, List.getD_cons_zero, fieldAddrW_ptr, List.length_cons, List.length_nil, Nat.zero_add, Nat.reduceAdd, Nat.reduceLT, ty4, ne_eq, reduceCtorEq, not_false_eq_true, Nat.add_zero, valK_ap, atK_ap, restV_ap, Eff.app, List.set, Eff.wi, Option.map_none, List.nil_append, opF_load, TI.isAgg, Bool.false_eq_true, or_true, objOf, loadW_ptr, loadO_arr, Nat.reduceLeDiff, ofCells, List.drop_zero, List.take_succ_cons, List.take_zero, List.headD_cons, if_false, List.cons_append, opF_binOp, binW_beql, hnn, regV_nil, sepL, List.not_mem_nil, false_implies, implies_true, true_and])
      (refine hK _ ?_; clear hK K)
      (first | refine W_cond rfl (fun h => by cases h) (fun _ => ?_) | refine W_seq (W_cond rfl (fun h => by cases h) (fun _ => ?_)))
      refine W_skip ?_
      simp only [thenW]
      refine W_seq ?_
      ((refine W_seqV fun K hK => ?_); simp (disch := omega) only [regV_cons, effW_free, opF_fieldAddr, ty27, ev_tmp, List.getD_cons_succ, List.getD_cons_zero, fieldAddrW_ptr, List.length_cons, List.length_nil, Nat.zero_add, Nat.reduceAdd, Nat.reduceLT, ty25, ne_eq, reduceCtorEq, not_false_eq_true, valK_ap, atK_ap, restV_ap, Eff.app, List.set, Eff.wi, Option.map_none, List.nil_append, opF_load, TI.isAgg, Bool.false_eq_true, or_true, objOf, loadW_ptr, loadO_arr, Nat.reduceLeDiff, ofCells, List.drop_succ_cons, List.drop_zero, List.take_succ_cons, List.take_zero, List.headD_cons, if_false, List.cons_append, opF_call, ev_func, List.map_cons, List.map_nil, callF_fn, List.append_nil, opF_binOp, ty3, ev_const, cst_int, true_and])
      (refine ⟨by kernel_rfl, rfl, _, hc, ?_⟩; (try simp (disch := omega) only [binW_geq, ge_iff_le, valK_ap, atK_ap, restV_ap, Eff.app, List.set, Eff.wi, Option.map_none, List.cons_append, List.nil_append, regV_nil, sepL, List.not_mem_nil, false_implies, implies_true, true_and]))
      simp (disch := omega) only [hs]
      (refine hK _ ?_; clear hK K)
      (first | refine W_cond rfl (fun h => by cases h) (fun _ => ?_) | refine W_seq (W_cond rfl (fun h => by cases h) (fun _ => ?_)))
      refine W_skip ?_
      simp only [thenW]
      ((refine W_seqV fun K hK => ?_); simp (disch := omega) only [regV_cons, effW_free, opF_fieldAddr, ty27, ev_tmp, List.getD_cons_succ, List.getD_cons_zero, fieldAddrW_ptr, List.length_cons, List.length_nil, Nat.zero_add, Nat.reduceAdd, Nat.reduceLT, ty25, ne_eq, reduceCtorEq, not_false_eq_true, valK_ap, atK_ap, restV_ap, Eff.app, List.set, Eff.wi, Option.map_none, List.nil_append, opF_load, TI.isAgg, Bool.false_eq_true, or_true, objOf, loadW_ptr, loadO_arr, Nat.reduceLeDiff, ofCells, List.drop_succ_cons, List.drop_zero, List.take_succ_cons, List.take_zero, List.headD_cons, if_false, List.cons_append, opF_call, ev_func, List.map_cons, List.map_nil, callF_fn, List.append_nil, opF_move, opF_extract, true_and])
      (refine ⟨by kernel_rfl, rfl, _, hsub, ?_⟩; (try simp (disch := omega) only [cN, cNat, extractW_tup, List.length_cons, List.length_nil, Nat.zero_add, Nat.reduceAdd, Nat.reduceLT, List.getD_cons_zero, valK_ap, atK_ap, restV_ap, Eff.app, List.set, Eff.wi, Option.map_none, List.cons_append, List.nil_append, regV_cons, effW_free, opF_extract, ev_tmp, List.getD_cons_succ, opF_assign, regV_nil, sepL, List.not_mem_nil, false_implies, implies_true, true_and]))
      (refine hK _ ?_; clear hK K)
      ((refine W_seqV fun K hK => ?_); simp (disch := omega) only [regV_cons, effW_free, opF_fieldAddr, ty27, ev_tmp, List.getD_cons_succ, List.getD_cons_zero, fieldAddrW_ptr, List.length_cons, List.length_nil, Nat.zero_add, Nat.reduceAdd, Nat.reduceLT, ty4, ne_eq, reduceCtorEq, not_false_eq_true, Nat.add_zero, valK_ap, atK_ap, restV_ap, Eff.app, List.set, Eff.wi, Option.map_none, List.nil_append, opF_load, TI.isAgg, Bool.false_eq_true, or_true, objOf, loadW_ptr, loadO_arr, Nat.reduceLeDiff, ofCells, List.drop_zero, List.take_succ_cons, List.take_zero, List.headD_cons, if_false, List.cons_append, opF_move, opF_call, ev_func, List.map_cons, List.map_nil, callF_fn, List.append_nil, opF_store, storeF_ptr, storeO_arr, storable, AV.one, cellsOf, false_implies, overlay, wrK_ap, Option.map_some, regV_nil, sepL, List.not_mem_nil, implies_true, true_and])
      (refine ⟨by kernel_rfl, rfl, _, hd, ?_⟩; (try simp (disch := omega) only [cZ, cI, List.all_cons, AV.one, List.all_nil, Bool.and_self, List.length_cons, List.length_nil, Nat.zero_add, Nat.reduceAdd, List.drop_succ_cons, List.drop_nil, List.append_nil, true_and]))
      (refine hK _ ?_; clear hK K)
      refine W_ret ?_
      simp (disch := omega) only [retR, resW, resV, sgn, List.getD_cons_succ, List.getD_cons_zero, asOne_one]; try simp (disch := omega) only [ty27, ne_eq, reduceCtorEq, not_false_eq_true, TI.isAgg, true_or, cZ, cI, loadW_ptr, List.getD_cons_succ, List.getD_cons_zero, loadO_arr, List.length_cons, List.length_nil, Nat.zero_add, Nat.reduceLT, Nat.reduceAdd, Nat.reduceLeDiff, ofCells, List.drop_zero, List.take_succ_cons, List.take_zero, List.headD_cons, if_true, view_agg, views_cons, view_bool, view_sl, views_nil, and_self]
  · have ha := fadd_ok l l' h h' (by omega) (by omega)
    have hal : (limbs (val l + val l')).length ≤ (limbs (val l)).length + (limbs (val l')).length + 1 := by
      have := zl_add (val l) (val l')
      simpa [zl, ← Int.natCast_add] using this
    have hd := f2made_v neg (val l + val l') (by omega)
    rw [show (if neg = true then -((val l + val l' : Nat) : Int) else ((val l + val l' : Nat) : Int)) = iv neg l + iv neg' l' by cases neg <;> cases neg' <;> simp [iv] at * <;> omega] at hd
    (refine pureW Try.func25 rfl (rs := [Go.ResultVar.cell 4 27]) rfl (n := 52) rfl ?_; simp only [List.length_cons, List.length_nil, List.replicate, List.cons_append, List.nil_append])
    unfold cI
    (repeat (refine W_seqV fun K hK => ?_; (try simp (disch := omega) only [regV_cons, effW_free, opF_box, dead, List.getElem?_cons_succ, List.getElem?_cons_zero, storable, ev_tmp, List.getD_cons_zero, List.all_cons, AV.one, List.all_nil, Bool.and_self, cellsOf, List.length_cons, List.length_nil, Nat.zero_add, Nat.reduceAdd, atK_ap, restV_ap, Eff.app, List.set, Eff.wi, Option.map_some, List.nil_append, List.getD_cons_succ, List.cons_append, opF_alloc, ty27, ne_eq, reduceCtorEq, not_false_eq_true, regV_nil, sepL, List.not_mem_nil, false_implies, implies_true, true_and]); refine hK _ ?_; clear hK K))
    refine W_seq ?_
    ((refine W_seqV fun K hK => ?_); simp (disch := omega) only [regV_cons, effW_free, opF_fieldAddr, ty27, ev_tmp, List.getD_cons_succ, List.getD_cons_zero, fieldAddrW_ptr, List.length_cons, List.length_nil, Nat.zero_add, Nat.reduceAdd, Nat.reduceLT, ty4, ne_eq, reduceCtorEq, not_false_eq_true, Nat.add_zero, valK_ap, atK_ap, restV_ap, Eff.app, List.set, Eff.wi, Option.map_none, List.nil_append, opF_load, TI.isAgg, Bool.false_eq_true, or_true, objOf, loadW_ptr, loadO_arr, Nat.reduceLeDiff, ofCells, List.drop_zero, List.take_succ_cons, List.take_zero, List.headD_cons, if_false, List.cons_append, opF_binOp, binW_beql, hnn, regV_nil, sepL, List.not_mem_nil, false_implies, implies_true, true_and])
    (refine hK _ ?_; clear hK K)
    (first | refine W_cond rfl (fun _ => ?_) (fun h => by cases h) | refine W_seq (W_cond rfl (fun _ => ?_) (fun h => by cases h)))
    ((refine W_seqD mixed [] (by kernel_rfl) fun K hK => ?_); simp (disch := omega) only [regV_cons, effW_free, opF_fieldAddr, ty27, ev_tmp, List.getD_cons_succ, List.getD_cons_zero, fieldAddrW_ptr, List.length_cons, List.length_nil, Nat.zero_add, Nat.reduceAdd, Nat.reduceLT, ty4, ne_eq, reduceCtorEq, not_false_eq_true, Nat.add_zero, valK_ap, atK_ap, restV_ap, Eff.app, List.set, Eff.wi, Option.map_none, List.nil_append, opF_load, TI.isAgg, Bool.false_eq_true, or_true, objOf, loadW_ptr, loadO_arr, Nat.reduceLeDiff, ofCells, List.drop_zero, List.take_succ_cons, List.take_zero, List.headD_cons, if_false, List.cons_append, ty25, List.drop_succ_cons, opF_call, ev_func, List.map_cons, List.map_nil, callF_fn, List.append_nil, opF_store, storeF_ptr, storeO_arr, storable, AV.one, cellsOf, false_implies, overlay, wrK_ap, Option.map_some, regV_nil, sepL, List.not_mem_nil, implies_true, true_and])
    (refine ⟨by kernel_rfl, rfl, _, ha, ?_⟩; (try simp (disch := omega) only [cN, cNat]))
    (refine ⟨by kernel_rfl, rfl, _, hd, ?_⟩; (try simp (disch := omega) only [cZ, cI, List.all_cons, AV.one, List.all_nil, Bool.and_self, List.length_cons, List.length_nil, Nat.zero_add, Nat.reduceAdd, List.drop_succ_cons, List.drop_nil, List.append_nil, true_and]))
    (refine hK _ ?_; clear hK K)
    refine W_ret ?_
    simp (disch := omega) only [thenW, retR, resW, resV, List.getD_cons_succ, List.getD_cons_zero, asOne_one]; try simp (disch := omega) only [ty27, ne_eq, reduceCtorEq, not_false_eq_true, TI.isAgg, true_or, cZ, cI, loadW_ptr, List.getD_cons_succ, List.getD_cons_zero, loadO_arr, List.length_cons, List.length_nil, Nat.zero_add, Nat.reduceLT, Nat.reduceAdd, Nat.reduceLeDiff, ofCells, List.drop_zero, List.take_succ_cons, List.take_zero, List.headD_cons, if_true, view_agg, views_cons, view_bool, view_sl, views_nil, and_self]

set_option maxHeartbeats 2000000 in
theorem f2of_ok (n : Int) (h1 : -9223372036854775808 ≤ n) (h2 : n < 9223372036854775808) : Pure Try.prog 49 [.int .i64 n] (· = cZ n) := by
  have ho := f1of_ok n.natAbs (by omega)
  have hl : (limbs n.natAbs).length ≤ 2 := len_le (by omega)
  by_cases h0 : n < 0
  · have hw := wrap_u64_neg h0 h1
    have hd := f2made_v true n.natAbs (by omega)
    rw [show (if true = true then -(n.natAbs : Int) else (n.natAbs : Int)) = n by rw [if_pos rfl]; omega] at hd
    have hz : decide (n < 0) = true := decide_eq_true h0
    (refine pureW Try.func49 rfl (rs := [Go.ResultVar.cell 2 27]) rfl (n := 14) rfl ?_; simp only [List.length_cons, List.length_nil, List.replicate, List.cons_append, List.nil_append])
    (repeat (refine W_seqV fun K hK => ?_; (try simp (disch := omega) only [regV_cons, effW_free, opF_alloc, dead, List.getElem?_cons_succ, List.getElem?_cons_zero, ty27, ne_eq, reduceCtorEq, not_false_eq_true, List.length_cons, List.length_nil, Nat.zero_add, Nat.reduceAdd, atK_ap, restV_ap, Eff.app, List.set, Eff.wi, Option.map_some, List.nil_append, regV_nil, sepL, List.not_mem_nil, false_implies, implies_true, true_and]); refine hK _ ?_; clear hK K))
    refine W_seq ?_
    ((refine W_seqV fun K hK => ?_); simp (disch := omega) only [regV_cons, effW_free, opF_move, ev_tmp, List.getD_cons_zero, atK_ap, restV_ap, Eff.app, List.set, Eff.wi, Option.map_none, List.nil_append, opF_binOp, ty2, List.getD_cons_succ, ev_const, cst_int, binW_lss, hz, valK_ap, List.cons_append, regV_nil, sepL, List.not_mem_nil, false_implies, implies_true, true_and])
    (refine hK _ ?_; clear hK K)
    (first | refine W_cond rfl (fun _ => ?_) (fun h => by cases h) | refine W_seq (W_cond rfl (fun _ => ?_) (fun h => by cases h)))
    ((refine W_seqV fun K hK => ?_); simp (disch := omega) only [regV_cons, effW_free, opF_move, ev_tmp, List.getD_cons_zero, atK_ap, restV_ap, Eff.app, List.set, Eff.wi, Option.map_none, List.nil_append, opF_convert, ty2, ty71, List.getD_cons_succ, convW_int, valK_ap, List.cons_append, opF_binOp, ev_const, cst_int, binW_sub, hw, opF_call, ev_func, List.map_cons, List.map_nil, callF_fn, List.append_nil, cst_bool, opF_store, ty27, ne_eq, reduceCtorEq, not_false_eq_true, storeF_ptr, storeO_arr, storable, AV.one, cellsOf, Bool.false_eq_true, false_implies, List.length_cons, List.length_nil, Nat.zero_add, Nat.reduceLT, Nat.reduceAdd, Nat.reduceLeDiff, overlay, List.take_zero, wrK_ap, Option.map_some, regV_nil, sepL, List.not_mem_nil, implies_true, true_and])
    (refine ⟨by kernel_rfl, rfl, _, ho, ?_⟩; (try simp (disch := omega) only [cN, cNat]))
    (refine ⟨by kernel_rfl, rfl, _, hd, ?_⟩; (try simp (disch := omega) only [cZ, cI, List.all_cons, AV.one, List.all_nil, Bool.and_self, List.length_cons, List.length_nil, Nat.zero_add, Nat.reduceAdd, List.drop_succ_cons, List.drop_nil, List.append_nil, true_and]))
    (refine hK _ ?_; clear hK K)
    refine W_ret ?_
    simp (disch := omega) only [thenW, retR, resW, resV, List.getD_cons_succ, List.getD_cons_zero, asOne_one]; try simp (disch := omega) only [ty27, ne_eq, reduceCtorEq, not_false_eq_true, TI.isAgg, true_or, cZ, cI, loadW_ptr, List.getD_cons_succ, List.getD_cons_zero, loadO_arr, List.length_cons, List.length_nil, Nat.zero_add, Nat.reduceLT, Nat.reduceAdd, Nat.reduceLeDiff, ofCells, List.drop_zero, List.take_succ_cons, List.take_zero, List.headD_cons, if_true, view_agg, views_cons, view_bool, view_sl, views_nil, and_self]
  · have hw : IntKind.wrap .u64 n = ((n.natAbs : Nat) : Int) := by rw [wrap_u64 (by omega) (by omega)]; omega
    have hd := f2made_v false n.natAbs (by omega)
    rw [show (if false = true then -(n.natAbs : Int) else (n.natAbs : Int)) = n by rw [if_neg (by decide)]; omega] at hd
    have hz : decide (n < 0) = false := decide_eq_false h0
    (refine pureW Try.func49 rfl (rs := [Go.ResultVar.cell 2 27]) rfl (n := 14) rfl ?_; simp only [List.length_cons, List.length_nil, List.replicate, List.cons_append, List.nil_append])
    (repeat (refine W_seqV fun K hK => ?_; (try simp (disch := omega) only [regV_cons, effW_free, opF_alloc, dead, List.getElem?_cons_succ, List.getElem?_cons_zero, ty27, ne_eq, reduceCtorEq, not_false_eq_true, List.length_cons, List.length_nil, Nat.zero_add, Nat.reduceAdd, atK_ap, restV_ap, Eff.app, List.set, Eff.wi, Option.map_some, List.nil_append, regV_nil, sepL, List.not_mem_nil, false_implies, implies_true, true_and]); refine hK _ ?_; clear hK K))
    refine W_seq ?_
    ((refine W_seqV fun K hK => ?_); simp (disch := omega) only [regV_cons, effW_free, opF_move, ev_tmp, List.getD_cons_zero, atK_ap, restV_ap, Eff.app, List.set, Eff.wi, Option.map_none, List.nil_append, opF_binOp, ty2, List.getD_cons_succ, ev_const, cst_int, binW_lss, hz, valK_ap, List.cons_append, regV_nil, sepL, List.not_mem_nil, false_implies, implies_true, true_and])
    (refine hK _ ?_; clear hK K)
    (first | refine W_cond rfl (fun h => by cases h) (fun _ => ?_) | refine W_seq (W_cond rfl (fun h => by cases h) (fun _ => ?_)))
    refine W_skip ?_
    simp only [thenW]
    ((refine W_seqV fun K hK => ?_); simp (disch := omega) only [regV_cons, effW_free, opF_move, ev_tmp, List.getD_cons_zero, atK_ap, restV_ap, Eff.app, List.set, Eff.wi, Option.map_none, List.nil_append, opF_convert, ty2, ty71, List.getD_cons_succ, convW_int, hw, valK_ap, List.cons_append, opF_call, ev_func, List.map_cons, List.map_nil, callF_fn, List.append_nil, ev_const, cst_bool, opF_store, ty27, ne_eq, reduceCtorEq, not_false_eq_true, storeF_ptr, storeO_arr, storable, AV.one, cellsOf, Bool.false_eq_true, false_implies, List.length_cons, List.length_nil, Nat.zero_add, Nat.reduceLT, Nat.reduceAdd, Nat.reduceLeDiff, overlay, List.take_zero, wrK_ap, Option.map_some, regV_nil, sepL, List.not_mem_nil, implies_true, true_and])
    (refine ⟨by kernel_rfl, rfl, _, ho, ?_⟩; (try simp (disch := omega) only [cN, cNat]))
    (refine ⟨by kernel_rfl, rfl, _, hd, ?_⟩; (try simp (disch := omega) only [cZ, cI, List.all_cons, AV.one, List.all_nil, Bool.and_self, List.length_cons, List.length_nil, Nat.zero_add, Nat.reduceAdd, List.drop_succ_cons, List.drop_nil, List.append_nil, true_and]))
    (refine hK _ ?_; clear hK K)
    refine W_ret ?_
    simp (disch := omega) only [retR, resW, resV, List.getD_cons_succ, List.getD_cons_zero, asOne_one]; try simp (disch := omega) only [ty27, ne_eq, reduceCtorEq, not_false_eq_true, TI.isAgg, true_or, cZ, cI, loadW_ptr, List.getD_cons_succ, List.getD_cons_zero, loadO_arr, List.length_cons, List.length_nil, Nat.zero_add, Nat.reduceLT, Nat.reduceAdd, Nat.reduceLeDiff, ofCells, List.drop_zero, List.take_succ_cons, List.take_zero, List.headD_cons, if_true, view_agg, views_cons, view_bool, view_sl, views_nil, and_self]
end Go.Proofs.Ytjkjapjcmbfkgaa.Vm

