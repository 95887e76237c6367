/-
  Part 4 of 8 of a proof.
-/
import Derived.Test.YtjkjapjcmbfkgaaImpliedTrue3
import Derived.Orders
import Derived.Below
import Derived.Laws.AppendOwn
import Derived.Laws.MakeOwn
import Derived.Laws.CopyRow
import Derived.Laws.Rows
import Derived.Laws.Cells
import Derived.Tactics
import Derived.Laws.BitsLemmas
import Derived.Test.YtjkjapjcmbfkgaaProg

/-
  Natural numbers: long division.
-/
namespace Go.Proofs.Ytjkjapjcmbfkgaa.Vm
open Go Go.RowKit
set_option linter.unusedVariables false
set_option linter.unusedSimpArgs false
set_option pp.deepTerms false
set_option pp.deepTerms.threshold 8

set_option maxRecDepth 20000 in
set_option maxHeartbeats 4000000 in
theorem long_ok (a b : List Nat) (ha : Limbs a) (hb : Limbs b) (hbl : 2 ≤ b.length) (hba : b.length ≤ a.length) (hal : a.length < 274877906944) (ht : b.getD (b.length - 1) 0 ≠ 0) :
    Pure Try.prog 65 [cNat a, cNat b] (· = .tup [cN (val a / val b), cN (val a % val b)]) := by
  obtain ⟨nb, hnb⟩ : ∃ nb, b.length = nb + 1 := ⟨b.length - 1, by omega⟩
  have ht' : b.getD nb 0 ≠ 0 := by rwa [hnb, Nat.add_sub_cancel] at ht
  have hbl1 := blen_le (n := b.getD nb 0) (k := 32) (hb.getD nb)
  obtain ⟨up, hup⟩ : ∃ up, up = 32 - blen (b.getD nb 0) := ⟨_, rfl⟩
  obtain ⟨hup32, hVB, hVt⟩ := norm_facts hb hnb ht' hup
  have hBt := hb.getD nb
  -- the moved numbers
  obtain ⟨v, hv⟩ : ∃ v, v = padL (nb + 1) (val b * 2 ^ up) := ⟨_, rfl⟩
  have hvl : v.length = nb + 1 := by rw [hv]; exact padL_length hVB
  have hvL : Limbs v := by rw [hv]; exact padL_limbs _ _
  have hvv : val v = val b * 2 ^ up := by rw [hv]; exact padL_val _ _
  rw [← hv] at hVt
  have hvt : (padL (nb + 1 + 1) (val b * 2 ^ up)).take (nb + 1) = v := by rw [hv]; exact padL_take hVB (by omega)
  have hvm := moved_ok b up hb (by omega) hup32
  have hum := moved_new a up ha (by omega) hup32
  have hUB : val a * 2 ^ up < 4294967296 ^ (a.length + 1) := by
    rw [Nat.pow_succ]
    exact Nat.mul_lt_mul_of_lt_of_le (val_lt ha) (Nat.le_trans (Nat.pow_le_pow_right (by omega) (Nat.le_of_lt hup32)) (by decide)) (by decide)
  obtain ⟨u0, hu0⟩ : ∃ u0, u0 = padL (a.length + 1) (val a * 2 ^ up) := ⟨_, rfl⟩
  have hu0l : u0.length = a.length + 1 := by rw [hu0]; exact padL_length hUB
  have hu0L : Limbs u0 := by rw [hu0]; exact padL_limbs _ _
  have hu0v : val u0 = val a * 2 ^ up := by rw [hu0]; exact padL_val _ _
  have hpl : (padL (nb + 1 + 1) (val b * 2 ^ up)).length = nb + 1 + 1 := padL_length (Nat.lt_of_lt_of_le hVB (Nat.pow_le_pow_right (by omega) (by omega)))
  rw [← hu0] at hum
  rw [hnb] at hvm
  clear hu0 hv
  have hV0 : 0 < val v := by
    rw [val_top (n := nb) hvl]
    have : 0 < 4294967296 ^ nb * v.getD nb 0 := Nat.mul_pos (Nat.pow_pos (by omega)) (by omega)
    omega
  have hVB' : val v < 4294967296 ^ (nb + 1) := by rw [hvv]; exact hVB
  have hm : a.length + 1 = (a.length - nb) + nb + 1 := by omega
  have hst : val (u0.drop (a.length - nb)) < val v := by
    refine long_start (m := a.length - nb) (n := nb) (by omega) hu0v ?_ ?_
    · have := val_lt ha
      rwa [show a.length - nb + nb = a.length by omega]
    · rw [hvv]
      refine Nat.mul_le_mul_right _ ?_
      rw [val_top (n := nb) hnb]
      have : 4294967296 ^ nb * 1 ≤ 4294967296 ^ nb * b.getD nb 0 := Nat.mul_le_mul_left _ (by omega)
      omega
  have hnb' : ((b.length : Nat) : Int) - 1 = nb := by omega
  (refine pureW Try.func65 rfl (rs := [Go.ResultVar.tmp 4, Go.ResultVar.tmp 5]) rfl (n := 89) rfl ?_; simp only [List.length_cons, List.length_nil, List.replicate, List.cons_append, List.nil_append])
  simp only [cNat]
  ((refine W_seqV fun K hK => ?_); simp (disch := omega) only [regV_cons, effW_free, opF_assign, ev_const, cst_nils, atK_ap, restV_ap, Eff.app, List.set, Eff.wi, Option.map_none, List.nil_append, List.cons_append, regV_nil, sepL, List.not_mem_nil, false_implies, implies_true, true_and])
  (refine hK _ ?_; clear hK K)
  (refine W_seqV fun K hK => ?_; simp (disch := omega) only [regV_cons, effW_free, opF_move, ev_tmp, List.getD_cons_succ, List.getD_cons_zero, atK_ap, restV_ap, Eff.app, List.set, Eff.wi, Option.map_none, List.nil_append, List.cons_append, opF_len, ty25, lenW_sl, u32s_length, hnb, valK_ap, opF_binOp, ty3, ev_const, cst_int, binW_sub, wrap_i64_pred, Nat.add_sub_cancel, opF_indexAddr, objOf, indexAddrW_sl, ty79, ne_eq, reduceCtorEq, not_false_eq_true, nat_nonneg, nat_lt_int, u32s_all, toNat_natCast, u32s_getD, opF_load, TI.isAgg, Bool.false_eq_true, or_true, loadW_ia, Nat.zero_add, List.length_cons, List.length_nil, Nat.reduceLeDiff, ofCells, List.drop_zero, List.take_succ_cons, List.take_zero, List.headD_cons, if_false, opF_call, ev_func, List.map_cons, List.map_nil, callF_fn, List.append_nil, opF_assign, regV_nil, sepL, List.not_mem_nil, false_implies, implies_true, true_and])
  ((repeat refine And.intro (by omega) ?_); refine ⟨by kernel_rfl, rfl, _, lz32_ok (b.getD nb 0) hBt, ?_⟩)
  rw [← hup]
  (refine hK _ ?_; clear hK K)
  (refine W_seqV fun K hK => ?_; simp (disch := omega) only [regV_cons, effW_free, opF_move, ev_tmp, List.getD_cons_succ, List.getD_cons_zero, atK_ap, restV_ap, Eff.app, List.set, Eff.wi, Option.map_none, List.nil_append, List.cons_append, opF_call, ev_func, List.map_cons, List.map_nil, callF_fn, List.append_nil, opF_len, ty25, lenW_sl, u32s_length, hnb, valK_ap, opF_slice, sliceW, evo_none, bnd, Int.cast_ofNat_Int, evo_some, Int.reduceLE, nat_nonneg, nat_le_int, objOf, Int.toNat_zero, toNat_natCast, opF_assign, regV_nil, sepL, List.not_mem_nil, false_implies, implies_true, true_and, ne_eq, mxOk, Option.isSome_some, or_self, List.drop_zero, Nat.add_zero])
  (refine ⟨by kernel_rfl, rfl, _, hvm, ?_⟩; (try simp (disch := omega) only [cNat, ty79, reduceCtorEq, not_false_eq_true, u32s_length, u32s_all, u32s_take, true_and]); (repeat refine And.intro (by omega) ?_))
  simp (disch := omega) only [hvt]
  (refine hK _ ?_; clear hK K)
  ((refine W_seqR fun K hK => ?_); simp (disch := omega) only [opsW_free, opW_move, St.ret, List.set, ev_tmp, List.getD_cons_zero, restO_ap, List.getD_cons_succ, opW_call, ev_func, List.map_cons, List.map_nil, callW_fn, List.nil_append, List.append_nil])
  (refine ⟨by kernel_rfl, call_new 29 rfl rfl hum fun rows hr => ?_⟩; subst hr; simp (disch := omega) only [u32s_length, hu0l, St.seth, List.set, retK2_ap, St.ret, restO_ap, opsW_free, opW_assign, ev_tmp, List.getD_cons_succ, List.getD_cons_zero, opsW_nil])
  (refine hK _ ?_; clear hK K)
  (refine W_seqV fun K hK => ?_; simp (disch := omega) only [regV_cons, effW_free, opF_move, ev_tmp, List.getD_cons_succ, List.getD_cons_zero, atK_ap, restV_ap, Eff.app, List.set, Eff.wi, Option.map_none, List.nil_append, opF_len, ty25, lenW_sl, u32s_length, hvl, valK_ap, List.cons_append, opF_assign, regV_nil, sepL, List.not_mem_nil, false_implies, implies_true, true_and])
  (refine hK _ ?_; clear hK K)
  have hsub : a.length + 1 - (nb + 1) = a.length - nb := by omega
  (refine W_seqR fun K hK => ?_; simp (disch := omega) only [opsW_free, opW_move, St.ret, List.set, ev_tmp, List.getD_cons_succ, List.getD_cons_zero, restO_ap, opW_len, ty25, lenW_sref, retK_ap, opW_binOp, ty3, binW_sub, wrap_i64_sub, hsub, opW_makeSlice, makeW_slice, dead, List.getElem?_cons_succ, List.getElem?_cons_zero, ty79, ne_eq, reduceCtorEq, not_false_eq_true, List.length_cons, List.length_nil, Nat.zero_add, nat_nonneg, Int.cast_ofNat_Int, toNat_natCast, St.seth, u32s_rep, retK2_ap, opW_assign, opsW_nil, true_and])
  ((repeat refine And.intro (by omega) ?_); refine hK _ ?_; clear hK K)
  refine W_join (fun s' => ∃ u q, u.length = a.length + 1 ∧ q.length = a.length - nb ∧ Limbs u ∧ Limbs q ∧ val q = val a / val b ∧ val u = (val a % val b) * 2 ^ up ∧ Le [] s' ⟨(.any :: .any :: .any :: .any :: .any :: .any :: (.int .i64 up) :: .any :: (.sref 29 0 (a.length + 1)) :: (.int .i64 ((nb + 1 : Nat) : Int)) :: (.sref 36 0 (a.length - nb)) :: .any :: .any :: .any :: .any :: .any :: .any :: .any :: .any :: .any :: .any :: .any :: .any :: .any :: .any :: .any :: .any :: .any :: .any :: .any :: .any :: .any :: .any :: .any :: .any :: .any :: .any :: .any :: .any :: .any :: .any :: .any :: .any :: .any :: .any :: .any :: .any :: .any :: .any :: .any :: .any :: .any :: .any :: .any :: .any :: .any :: .any :: .any :: .any :: .any :: .any :: .any :: .any :: .any :: .any :: .any :: .any :: .any :: .any :: .any :: .any :: .any :: .any :: .any :: .any :: .any :: .any :: .any :: .any :: .any :: .any :: .any :: .any :: .any :: .any :: .any :: .any :: .any :: .any :: []), (.dead :: .dead :: .dead :: .dead :: .dead :: .dead :: .dead :: .dead :: .dead :: .dead :: .dead :: .dead :: .dead :: .dead :: .dead :: .dead :: .dead :: .dead :: .dead :: .dead :: .dead :: .dead :: .dead :: .dead :: .dead :: .dead :: .dead :: .dead :: .dead :: (.arr 79 1 true (u32s u)) :: .dead :: .dead :: .dead :: .dead :: .dead :: .dead :: (.arr 79 1 true (u32s q)) :: .dead :: .dead :: .dead :: .dead :: .dead :: .dead :: .dead :: .dead :: .dead :: .dead :: .dead :: .dead :: .dead :: .dead :: .dead :: .dead :: .dead :: .dead :: .dead :: .dead :: .dead :: .dead :: .dead :: .dead :: .dead :: .dead :: .dead :: .dead :: .dead :: .dead :: .dead :: .dead :: .dead :: .dead :: .dead :: .dead :: .dead :: .dead :: .dead :: .dead :: .dead :: .dead :: .dead :: .dead :: .dead :: .dead :: .dead :: .dead :: .dead :: .dead :: .dead :: .dead :: [])⟩) ?_ ?_
  · refine W_seq ?_
    (refine W_regV fun K hK => ?_; simp (disch := omega) only [regV_cons, effW_free, opF_move, ev_tmp, List.getD_cons_succ, List.getD_cons_zero, atK_ap, restV_ap, Eff.app, List.set, Eff.wi, Option.map_none, List.nil_append, opF_len, ty25, lenW_sref, valK_ap, List.cons_append, opF_binOp, ty3, binW_sub, wrap_i64_sub, hsub, ev_const, cst_int, wrap_i64_pred, opF_assign, regV_nil, sepL, List.not_mem_nil, false_implies, implies_true, true_and])
    (refine hK _ ?_; clear hK K)
    refine W_block (W_loop (fun t : {t : Nat × List Nat × List Nat // t.1 ≤ a.length - nb ∧ t.2.1.length = a.length + 1 ∧ t.2.2.length = a.length - nb ∧ Limbs t.2.1 ∧ Limbs t.2.2 ∧ val (t.2.1.drop t.1) < val v ∧ val t.2.1 + 4294967296 ^ t.1 * val (t.2.2.drop t.1) * val v = val u0} =>
      ⟨(.any :: .any :: .any :: .any :: .any :: .any :: (.int .i64 up) :: (.sl (u32s v)) :: (.sref 29 0 (a.length + 1)) :: (.int .i64 ((nb + 1 : Nat) : Int)) :: (.sref 36 0 (a.length - nb)) :: (.int .i64 ((t.1.1 : Int) - 1)) :: .any :: .any :: .any :: .any :: .any :: .any :: .any :: .any :: .any :: .any :: .any :: .any :: .any :: .any :: .any :: .any :: .any :: .any :: .any :: .any :: .any :: .any :: .any :: .any :: .any :: .any :: .any :: .any :: .any :: .any :: .any :: .any :: .any :: .any :: .any :: .any :: .any :: .any :: .any :: .any :: .any :: .any :: .any :: .any :: .any :: .any :: .any :: .any :: .any :: .any :: .any :: .any :: .any :: .any :: .any :: .any :: .any :: .any :: .any :: .any :: .any :: .any :: .any :: .any :: .any :: .any :: .any :: .any :: .any :: .any :: .any :: .any :: .any :: .any :: .any :: .any :: .any :: []), (.dead :: .dead :: .dead :: .dead :: .dead :: .dead :: .dead :: .dead :: .dead :: .dead :: .dead :: .dead :: .dead :: .dead :: .dead :: .dead :: .dead :: .dead :: .dead :: .dead :: .dead :: .dead :: .dead :: .dead :: .dead :: .dead :: .dead :: .dead :: .dead :: (.arr 79 1 true (u32s t.1.2.1)) :: .dead :: .dead :: .dead :: .dead :: .dead :: .dead :: (.arr 79 1 true (u32s t.1.2.2)) :: .dead :: .dead :: .dead :: .dead :: .dead :: .dead :: .dead :: .dead :: .dead :: .dead :: .dead :: .dead :: .dead :: .dead :: .dead :: .dead :: .dead :: .dead :: .dead :: .dead :: .dead :: .dead :: .dead :: .dead :: .dead :: .dead :: .dead :: .dead :: .dead :: .dead :: .dead :: .dead :: .dead :: .dead :: .dead :: .dead :: .dead :: .dead :: .dead :: .dead :: .dead :: .dead :: .dead :: .dead :: .dead :: .dead :: .dead :: .dead :: .dead :: .dead :: .dead :: .dead :: [])⟩) (fun t => t.1.1)
      ⟨(a.length - nb, u0, List.replicate (a.length - nb) 0), by simp, hu0l, by simp, hu0L, Limbs.rep _, hst, by simp [val]⟩ (Le_of ?_ rfl) fun t => ?_)
    · simp [leE]
      omega
    obtain ⟨⟨k, u, q⟩, h1, h2, h3, h4, h5, h6, h7⟩ := t
    dsimp only at h1 h2 h3 h4 h5 h6 h7 ⊢
    rcases k with _ | k
    · refine W_seq ?_
      ((refine W_seqV fun K hK => ?_); simp (disch := omega) only [Int.cast_ofNat_Int, Int.reduceSub, Int.reduceNeg, regV_cons, effW_free, opF_move, ev_tmp, List.getD_cons_succ, List.getD_cons_zero, atK_ap, restV_ap, Eff.app, List.set, Eff.wi, Option.map_none, List.nil_append, opF_binOp, ty3, ev_const, cst_int, binW_geq, ge_iff_le, Int.reduceLE, decide_false, valK_ap, List.cons_append, regV_nil, sepL, List.not_mem_nil, false_implies, implies_true, true_and])
      (refine hK _ ?_; clear hK K)
      (repeat' (first | (exfalso; simp at h; done) | (refine W_exit ?_; simp only [thenW, blockW, if_true, reduceCtorEq, if_false, Nat.reduceEqDiff]) | (refine W_cond rfl (fun h => ?_) (fun h => ?_) <;> (try simp only [cond_true, cond_false, decide_eq_true_eq, decide_eq_false_iff_not, bne_iff_ne, beq_iff_eq, bne_eq_false_iff_eq, beq_eq_false_iff_ne, ne_eq, Nat.not_lt, Nat.not_le, Int.not_lt, Int.not_le, Bool.not_eq_true', Bool.not_eq_false'] at h))))
      rw [hvv, hu0v] at h7
      rw [hvv] at h6
      have hb0 : 0 < val b := by
        rw [hvv] at hV0
        exact Nat.pos_of_mul_pos_right hV0
      obtain ⟨e1, e2⟩ := long_end h7 h6 hb0
      exact ⟨u, q, h2, h3, h4, h5, e1, e2, Le_of (by simp [leE]) rfl⟩
    · have hj : ((k + 1 : Nat) : Int) - 1 = k := by omega
      rw [hj]
      (repeat' (first | (exfalso; simp at h; done) | refine W_block ?_ | (refine W_seqV fun K hK => ?_; (try simp (disch := omega) only [regV_cons, effW_free, opF_move, ev_tmp, List.getD_cons_succ, List.getD_cons_zero, atK_ap, restV_ap, Eff.app, List.set, Eff.wi, Option.map_none, List.nil_append, opF_binOp, ty3, ev_const, cst_int, binW_geq, ge_iff_le, nat_nonneg, decide_true, valK_ap, List.cons_append, regV_nil, sepL, List.not_mem_nil, false_implies, implies_true, true_and]); refine hK _ ?_; clear hK K) | refine W_skip ?_ | (refine W_cond rfl (fun h => ?_) (fun h => ?_) <;> (try simp only [cond_true, cond_false, decide_eq_true_eq, decide_eq_false_iff_not, bne_iff_ne, beq_iff_eq, bne_eq_false_iff_eq, beq_eq_false_iff_ne, ne_eq, Nat.not_lt, Nat.not_le, Int.not_lt, Int.not_le, Bool.not_eq_true', Bool.not_eq_false'] at h)) | refine W_seq ?_))
      have hsz : k + (nb + 1) + 1 - k = v.length + 1 := by omega
      obtain ⟨g1, g2, g3⟩ := long_win (u := u) (k := k) (n := nb + 1) (by omega) hVB' h4 h6
      obtain ⟨g4, g5⟩ := long_next (q := q) (n := nb + 1) (by omega) (by omega) hVB' hV0 h4 h6 h7
      have hwl : ((u.drop k).take (nb + 1 + 1)).length = nb + 1 + 1 := by simp; omega
      obtain ⟨win, hwin⟩ : ∃ win, win = (u.drop k).take (nb + 1 + 1) := ⟨_, rfl⟩
      have hps : put u k win = u := by rw [hwin]; exact put_self (by omega)
      have hwL : Limbs win := by rw [hwin]; exact (h4.drop k).take _
      rw [← hwin] at g1 g2 g4 g5 hwl
      have hD := digit_ok u win v k h4 hwL hvL (by omega) (by omega) (by omega) (by omega) (by rw [hvl, Nat.add_sub_cancel]; exact hVt) g2
      rw [hps, hvl] at hD
      rw [hvl] at hsz
      clear hwin
      have hql : val win / val v < 4294967296 := Nat.div_lt_of_lt_mul (by rw [Nat.mul_comm]; exact g2)
      have hpL := put_limbs h4 (off := k) (padL_limbs (nb + 1 + 1) (val win % val v))
      have hpl2 : (padL (nb + 1 + 1) (val win % val v)).length = nb + 1 + 1 := padL_length (Nat.lt_trans (Nat.mod_lt _ hV0) (Nat.lt_of_lt_of_le hVB' (Nat.pow_le_pow_right (by omega) (by omega))))
      have hpl3 : (put u k (padL (nb + 1 + 1) (val win % val v))).length = a.length + 1 := by rw [put_length (by omega)]; exact h2
      (refine W_regR fun K hK => ?_; simp (disch := omega) only [opsW_free, opW_move, St.ret, List.set, ev_tmp, List.getD_cons_succ, List.getD_cons_zero, restO_ap, opW_binOp, ty3, binW_add, wrap_i64_add, retK_ap, ev_const, cst_int, wrap_i64_one, opW_slice, sliceW, ty25, ty79, ne_eq, reduceCtorEq, not_false_eq_true, evo_none, bnd, evo_some, nat_nonneg, nat_le_int, Nat.reduceLeDiff, toNat_natCast, Nat.zero_add, opW_call, ev_func, List.map_cons, List.map_nil, callW_fn, List.nil_append, List.append_nil, true_and])
      refine ⟨by omega, by omega, by kernel_rfl, ?_⟩
      rw [hsz]
      refine call_mutC hD rfl rfl fun r rows hr => ?_
      obtain ⟨rfl, rfl⟩ := hr
      obtain ⟨w', hw'⟩ : ∃ w', w' = put u k (padL (nb + 1 + 1) (val win % val v)) := ⟨_, rfl⟩
      obtain ⟨x, hx⟩ : ∃ x, x = val win / val v := ⟨_, rfl⟩
      rw [← hw'] at g4 g5
      rw [← hx] at g5
      rw [← hx] at hql
      rw [← hw'] at hpL hpl3
      rw [← hw', ← hx]
      clear hx hw' hD hps
      simp (disch := omega) only [St.seth, List.set, retK2_ap, St.ret, restO_ap, opsW_free, opW_indexAddr, ty25, ev_tmp, List.getD_cons_succ, List.getD_cons_zero, indexAddrW_sref, ty79, ne_eq, reduceCtorEq, not_false_eq_true, nat_nonneg, nat_lt_int, kOk_arr, toNat_natCast, Nat.zero_add, retK_ap, opW_store, storeW_ptr, storeO_arr, storable, AV.one, cellsOf, List.length_cons, List.length_nil, forall_const, u32s_length, u32s_getD, Nat.reduceLeDiff, overlay, List.take_zero, List.nil_append, List.drop_succ_cons, List.drop_nil, List.append_nil, u32s_set, sethK_ap, opsW_nil, true_and]
      ((repeat (refine And.intro (by first | omega | (show AV.pures _ = true; rfl)) ?_)); refine hK _ ?_; clear hK K)
      simp only [blockW, thenW]
      (repeat' (refine W_regV fun K hK => ?_; (try simp (disch := omega) only [regV_cons, effW_free, opF_move, ev_tmp, List.getD_cons_succ, List.getD_cons_zero, atK_ap, restV_ap, Eff.app, List.set, Eff.wi, Option.map_none, List.nil_append, opF_binOp, ty3, ev_const, cst_int, binW_sub, valK_ap, List.cons_append, opF_assign, regV_nil, sepL, List.not_mem_nil, false_implies, implies_true, true_and]); refine hK _ ?_; clear hK K))
      exact ⟨⟨(k, w', q.set k x), by dsimp only; omega, hpl3, by simpa using h3, hpL, h5.set _ hql, g4, g5⟩, Le_of (by simp [leE]; exact wrap_i64 (by omega) (by omega)) rfl, by dsimp only; omega⟩
  rintro s' ⟨u, q, h1, h2, h3, h4, h5, h6, hle⟩
  refine W.le ?_ hle
  clear hle s' hvm hum hpl hvt
  (repeat (refine W_seqR fun K hK => ?_; (try simp (disch := omega) only [opsW_free, opW_move, St.ret, List.set, ev_tmp, List.getD_cons_succ, List.getD_cons_zero, restO_ap, opW_makeSlice, ty25, makeW_slice, dead, List.getElem?_cons_succ, List.getElem?_cons_zero, ty79, ne_eq, reduceCtorEq, not_false_eq_true, List.length_cons, List.length_nil, Nat.zero_add, nat_nonneg, Int.cast_ofNat_Int, toNat_natCast, St.seth, u32s_rep, retK2_ap, opW_assign, opsW_nil, true_and]); (repeat refine And.intro (by omega) ?_); refine hK _ ?_; clear hK K))
  refine W_seq (W_seq ?_)
  (refine W_regV fun K hK => ?_; simp (disch := omega) only [regV_cons, effW_free, opF_move, ev_tmp, List.getD_cons_succ, List.getD_cons_zero, atK_ap, restV_ap, Eff.app, List.set, Eff.wi, Option.map_none, List.nil_append, ev_const, cst_int, List.cons_append, regV_nil, sepL, List.not_mem_nil, false_implies, implies_true, true_and])
  (refine hK _ ?_; clear hK K)
  refine W_block (W_loop (fun t : {t : Nat × List Nat // t.1 ≤ nb + 1 ∧ t.2.length = nb + 1 ∧ Limbs t.2 ∧ val (t.2.take t.1) * 2 ^ up + u.getD 0 0 % 2 ^ up = val (u.take t.1) + 4294967296 ^ t.1 * (u.getD t.1 0 % 2 ^ up)} =>
      ⟨(.any :: .any :: .any :: .any :: .any :: .any :: (.int .i64 up) :: .any :: (.sref 29 0 (a.length + 1)) :: .any :: (.sref 36 0 (a.length - nb)) :: .any :: (.sref 59 0 (nb + 1)) :: .any :: .any :: .any :: .any :: .any :: .any :: .any :: .any :: .any :: .any :: .any :: .any :: .any :: .any :: .any :: .any :: .any :: .any :: .any :: .any :: .any :: .any :: .any :: .any :: .any :: .any :: .any :: .any :: .any :: .any :: .any :: .any :: .any :: .any :: .any :: .any :: .any :: .any :: .any :: .any :: .any :: .any :: .any :: .any :: .any :: .any :: .any :: (.int .i64 ((nb + 1 : Nat) : Int)) :: (.int .i64 t.1.1) :: .any :: .any :: .any :: .any :: .any :: .any :: .any :: .any :: .any :: .any :: .any :: .any :: .any :: .any :: .any :: .any :: .any :: .any :: .any :: .any :: .any :: .any :: .any :: .any :: .any :: .any :: .any :: []), (.dead :: .dead :: .dead :: .dead :: .dead :: .dead :: .dead :: .dead :: .dead :: .dead :: .dead :: .dead :: .dead :: .dead :: .dead :: .dead :: .dead :: .dead :: .dead :: .dead :: .dead :: .dead :: .dead :: .dead :: .dead :: .dead :: .dead :: .dead :: .dead :: (.arr 79 1 true (u32s u)) :: .dead :: .dead :: .dead :: .dead :: .dead :: .dead :: (.arr 79 1 true (u32s q)) :: .dead :: .dead :: .dead :: .dead :: .dead :: .dead :: .dead :: .dead :: .dead :: .dead :: .dead :: .dead :: .dead :: .dead :: .dead :: .dead :: .dead :: .dead :: .dead :: .dead :: .dead :: .dead :: (.arr 79 1 true (u32s t.1.2)) :: .dead :: .dead :: .dead :: .dead :: .dead :: .dead :: .dead :: .dead :: .dead :: .dead :: .dead :: .dead :: .dead :: .dead :: .dead :: .dead :: .dead :: .dead :: .dead :: .dead :: .dead :: .dead :: .dead :: .dead :: .dead :: .dead :: .dead :: .dead :: .dead :: [])⟩) (fun t => nb + 1 - t.1.1)
      ⟨(0, List.replicate (nb + 1) 0), by simp, by simp, Limbs.rep _, by simp [val]⟩ (Le_of (by simp [leE]) rfl) fun t => ?_)
  obtain ⟨⟨i, r⟩, g1, g2, g3, g4⟩ := t
  dsimp only at g1 g2 g3 g4 ⊢
  have hui := h3.getD i
  have hui1 := h3.getD (i + 1)
  have hsh : u.getD (i + 1) 0 * 2 ^ (32 - up) < 18446744073709551616 := by
    have e1 : 2 ^ (32 - up) ≤ 2 ^ 32 := Nat.pow_le_pow_right (by omega) (by omega)
    have e2 : u.getD (i + 1) 0 * 2 ^ (32 - up) ≤ 4294967295 * 4294967296 := Nat.mul_le_mul (by omega) e1
    omega
  have hor := shr_or (y := u.getD (i + 1) 0) hui hup32
  have horl := shr_or_lt (y := u.getD (i + 1) 0) hui hup32
  (repeat' (first | refine W_block ?_ | (refine W_seqV fun K hK => ?_; (try simp (disch := omega) only [regV_cons, effW_free, opF_binOp, ty3, ev_tmp, List.getD_cons_succ, List.getD_cons_zero, binW_lss, nat_lt_int, valK_ap, atK_ap, restV_ap, Eff.app, List.set, Eff.wi, Option.map_none, List.nil_append, regV_nil, sepL, List.not_mem_nil, false_implies, implies_true, true_and, opF_move, opF_assign, List.cons_append]); refine hK _ ?_; clear hK K) | (refine W_regV fun K hK => ?_; (try simp (disch := omega) only [regV_cons, effW_free, opF_binOp, ty3, ev_tmp, List.getD_cons_succ, List.getD_cons_zero, ev_const, cst_int, binW_add, wrap_i64_one, valK_ap, atK_ap, restV_ap, Eff.app, List.set, Eff.wi, Option.map_none, List.nil_append, opF_move, List.cons_append, regV_nil, sepL, List.not_mem_nil, false_implies, implies_true, true_and]); refine hK _ ?_; clear hK K) | (refine W_regD mixed [] (by kernel_rfl) fun K hK => ?_; (try simp (disch := omega) only [regV_cons, effW_free, opF_move, ev_tmp, List.getD_cons_succ, List.getD_cons_zero, atK_ap, restV_ap, Eff.app, List.set, Eff.wi, Option.map_none, List.nil_append, List.cons_append, opF_indexAddr, ty25, objOf, indexAddrW_sref, ty79, ne_eq, reduceCtorEq, not_false_eq_true, nat_nonneg, nat_lt_int, kOk_arr, toNat_natCast, Nat.zero_add, valK_ap, opF_load, TI.isAgg, Bool.false_eq_true, or_true, loadW_ptr, loadO_arr, u32s_length, u32s_getD, List.length_cons, List.length_nil, Nat.reduceLeDiff, ofCells, List.drop_zero, List.take_succ_cons, List.take_zero, List.headD_cons, if_false, opF_binOp, binW_shr, min_u32, fdiv_pow, ty3, ev_const, cst_int, binW_add, wrap_i64_one, opF_convert, ty71, convW_int, wrap_u64_nat, binW_sub, wrap_i64_32, binW_shl, min_u64, shl_u64, wrap_u32_nat, binW_or, bor_u32, opF_store, storeF_ptr, storeO_arr, storable, AV.one, cellsOf, forall_const, overlay, List.drop_succ_cons, List.drop_nil, List.append_nil, u32s_set, wrK_ap, Option.map_some, regV_nil, sepL, List.not_mem_nil, false_implies, implies_true, true_and]); (repeat (refine And.intro (by first | omega | (show AV.pures _ = true; rfl)) ?_)); refine hK _ ?_; clear hK K) | refine W_skip ?_ | (refine W_exit ?_; simp only [thenW, blockW, if_true, reduceCtorEq, if_false, Nat.reduceEqDiff]) | (refine W_cond rfl (fun h => ?_) (fun h => ?_) <;> (try simp only [cond_true, cond_false, decide_eq_true_eq, decide_eq_false_iff_not, bne_iff_ne, beq_iff_eq, bne_eq_false_iff_eq, beq_eq_false_iff_ne, ne_eq, Nat.not_lt, Nat.not_le, Int.not_lt, Int.not_le, Bool.not_eq_true', Bool.not_eq_false'] at h)) | refine W_seq ?_))
  · simp only [thenW]
    refine ⟨⟨(i + 1, r.set i (u.getD i 0 / 2 ^ up ||| u.getD (i + 1) 0 * 2 ^ (32 - up) % 4294967296)), by dsimp only; omega, by simpa using g2, g3.set _ horl, ?_⟩, Le_of (by simp [leE]) rfl, by dsimp only; omega⟩
    dsimp only
    rw [val_take_set (by omega), val_take_succ, Nat.pow_succ, hor]
    exact shr_round g4 hup32
  · obtain rfl : i = nb + 1 := by omega
    have hb0 : 0 < val b := by
      rw [hvv] at hV0
      exact Nat.pos_of_mul_pos_right hV0
    rw [List.take_of_length_le (by omega)] at g4
    have hr : val r = val a % val b := by
      refine shr_end h6 ?_ (by omega) hup32 g4
      rw [h6]
      refine Nat.lt_trans ?_ hVB
      exact Nat.mul_lt_mul_of_pos_right (Nat.mod_lt _ hb0) (Nat.pow_pos (by omega))
    (refine W.le ?_ (Le_freeze 36 (rows := u32s q) rfl (by simp) (.inl rfl)); simp only [St.freeze, List.map_cons, List.map_nil, List.set, if_true, if_false, Nat.reduceEqDiff, reduceCtorEq, List.drop_zero, u32s_take, u32s_drop, froz_any, froz_und, froz_int, froz_bool, froz_str, froz_nils, froz_sl, froz_ia, froz_nilp, froz_nilif, froz_nilfn, froz_nilmp, froz_gl, froz_sref, froz_ptr, froz_agg, froz_tup, froz_fn, froz_ifc, frozs_nil, frozs_cons, froz_dead, froz_arr])
    (refine W.le ?_ (Le_freeze 59 (rows := u32s r) rfl (by simp) (.inl rfl)); simp only [St.freeze, List.map_cons, List.map_nil, List.set, if_true, if_false, Nat.reduceEqDiff, reduceCtorEq, List.drop_zero, u32s_take, u32s_drop, froz_any, froz_und, froz_int, froz_bool, froz_str, froz_nils, froz_sl, froz_ia, froz_nilp, froz_nilif, froz_nilfn, froz_nilmp, froz_gl, froz_sref, froz_ptr, froz_agg, froz_tup, froz_fn, froz_ifc, frozs_nil, frozs_cons, froz_dead, froz_arr])
    rw [List.take_of_length_le (by omega), List.take_of_length_le (l := r) (by omega)]
    (refine W_regV fun K hK => ?_; simp (disch := omega) only [Nat.lt_irrefl, decide_false, regV_cons, effW_free, opF_move, ev_tmp, List.getD_cons_succ, List.getD_cons_zero, atK_ap, restV_ap, Eff.app, List.set, Eff.wi, Option.map_none, List.nil_append, opF_call, ev_func, List.map_cons, List.map_nil, callF_fn, List.append_nil, List.cons_append, opF_assign, regV_nil, sepL, List.not_mem_nil, false_implies, implies_true, true_and])
    (refine ⟨by kernel_rfl, rfl, _, own_ok' q h4 (by omega), ?_⟩; (try simp (disch := omega) only [cN, cNat]))
    (refine ⟨by kernel_rfl, rfl, _, own_ok' r g3 (by omega), ?_⟩; (try simp (disch := omega) only [cN, cNat]))
    (refine hK _ ?_; clear hK K)
    refine W_ret ?_
    simp (disch := omega) only [retR, resW, resV, List.getD_cons_succ, List.getD_cons_zero, asOne_two, view_tup, views_cons, view_sl, views_nil, cN, cNat]
    rw [h5, hr]
end Go.Proofs.Ytjkjapjcmbfkgaa.Vm

/-
  Natural numbers: division, the greatest common divisor.
-/
namespace Go.Proofs.Ytjkjapjcmbfkgaa.Vm
open Go Go.RowKit
set_option linter.unusedVariables false
set_option linter.unusedSimpArgs false
set_option pp.deepTerms false
set_option pp.deepTerms.threshold 8

theorem limbs_top {n : Nat} (h : n ≠ 0) : (limbs n).getD ((limbs n).length - 1) 0 ≠ 0 := by
  induction n using Nat.strongRecOn with
  | _ n ih =>
    rw [limbs_pos h, List.length_cons, Nat.add_sub_cancel]
    by_cases h0 : n / 4294967296 = 0
    · rw [h0, limbs_zero]
      simp only [List.length_nil, List.getD_cons_zero]
      omega
    · have := ih _ (by omega) h0
      obtain ⟨m, hm⟩ : ∃ m, (limbs (n / 4294967296)).length = m + 1 := ⟨(limbs (n / 4294967296)).length - 1, by
        have : limbs (n / 4294967296) ≠ [] := fun h => h0 (limbs_eq_nil.1 h)
        have := List.length_pos_iff.2 this
        omega⟩
      rw [hm] at this ⊢
      rw [List.getD_cons_succ]
      exact this
theorem limbs_len_pos {n : Nat} (h : n ≠ 0) : 0 < (limbs n).length := List.length_pos_iff.2 fun h0 => h (limbs_eq_nil.1 h0)
theorem sgn_lt {a b : Nat} (h : a < b) : sgn a b = -1 := by simp [sgn, h]
theorem sgn_ge {a b : Nat} (h : ¬ a < b) : decide (sgn a b < 0) = false := by
  simp only [sgn, h, if_false, decide_eq_false_iff_not]
  split <;> omega
theorem sgn_lt' {a b : Nat} (h : a < b) : decide (sgn a b < 0) = true := by rw [sgn_lt h]; rfl
theorem limbs_one {n : Nat} (h : (limbs n).length = 1) : (limbs n).getD 0 0 = n ∧ n < 4294967296 := by
  have h0 : n ≠ 0 := by rintro rfl; rw [limbs_zero] at h; cases h
  have h1 := val_limbs n
  have h2 := limbs_limbs n
  match hl : limbs n, h with
  | [x], _ =>
    rw [hl] at h1 h2
    have h3 := h2 x List.mem_cons_self
    simp only [val] at h1
    simp only [List.getD_cons_zero]
    omega

def divR (a b : Nat) : AV := if b = 0 then .tup [cN 0, cN 0, .int .i64 11] else .tup [cN (a / b), cN (a % b), .int .i64 0]
set_option maxHeartbeats 4000000 in
theorem ndiv_ok (a b : List Nat) (ha : Limbs a) (hb : Limbs b) (h1 : a.length < 274877906944) (h2 : b.length < 274877906944) :
    Pure Try.prog 37 [cNat a, cNat b] (· = divR (val a) (val b)) := by
  have hal := limbs_val_length ha
  have hbl := limbs_val_length hb
  have haL := limbs_limbs (val a)
  have hbL := limbs_limbs (val b)
  have hcmp := ncmp_ok (limbs (val a)) (limbs (val b)) haL hbL (by omega) (by omega)
  rw [val_limbs, val_limbs] at hcmp
  have hoa := own_ok' (limbs (val a)) haL (by omega)
  rw [val_limbs] at hoa
  (refine pureW Try.func37 rfl (rs := [Go.ResultVar.tmp 4, Go.ResultVar.tmp 5, Go.ResultVar.tmp 6]) rfl (n := 51) rfl ?_; simp only [List.length_cons, List.length_nil, List.replicate, List.cons_append, List.nil_append])
  ((refine W_seqV fun K hK => ?_); simp (disch := omega) only [cNat, regV_cons, effW_free, opF_assign, ev_const, cst_nils, atK_ap, restV_ap, Eff.app, List.set, Eff.wi, Option.map_none, List.nil_append, List.cons_append, cst_int, regV_nil, sepL, List.not_mem_nil, false_implies, implies_true, true_and])
  (refine hK _ ?_; clear hK K)
  ((refine W_seqV fun K hK => ?_); simp (disch := omega) only [regV_cons, effW_free, opF_move, ev_tmp, List.getD_cons_zero, atK_ap, restV_ap, Eff.app, List.set, Eff.wi, Option.map_none, List.nil_append, opF_call, ev_func, List.map_cons, List.getD_cons_succ, List.map_nil, callF_fn, List.append_nil, List.cons_append, opF_assign, regV_nil, sepL, List.not_mem_nil, false_implies, implies_true, true_and])
  (refine ⟨by kernel_rfl, rfl, _, trim_ok' a ha (by omega), ?_⟩; (try simp (disch := omega) only [cN, cNat]))
  (refine ⟨by kernel_rfl, rfl, _, trim_ok' b hb (by omega), ?_⟩; (try simp (disch := omega) only [cN, cNat]))
  (refine hK _ ?_; clear hK K)
  refine W_seq (W_block ?_)
  by_cases hb0 : val b = 0
  · rw [hb0, limbs_zero]
    (repeat' (first | (exfalso; simp at h; done) | (refine W_seqV fun K hK => ?_; (try simp (disch := omega) only [regV_cons, effW_free, opF_move, ev_tmp, List.getD_cons_succ, List.getD_cons_zero, atK_ap, restV_ap, Eff.app, List.set, Eff.wi, Option.map_none, List.nil_append, opF_len, ty25, lenW_sl, u32s_length, List.length_nil, Int.cast_ofNat_Int, valK_ap, List.cons_append, opF_binOp, ty3, ev_const, cst_int, binW_eql, opF_assign, regV_nil, sepL, List.not_mem_nil, false_implies, implies_true, true_and, cst_nils]); refine hK _ ?_; clear hK K) | (refine W_ret ?_; simp (disch := omega) only [blockW, thenW, retR, resW, resV, List.getD_cons_succ, List.getD_cons_zero, asOne_three, view_tup, views_cons, view_nils, view_int, views_nil]) | (refine W_cond rfl (fun h => ?_) (fun h => ?_) <;> (try simp only [cond_true, cond_false, decide_eq_true_eq, decide_eq_false_iff_not, bne_iff_ne, beq_iff_eq, bne_eq_false_iff_eq, beq_eq_false_iff_ne, ne_eq, Nat.not_lt, Nat.not_le, Int.not_lt, Int.not_le, Bool.not_eq_true', Bool.not_eq_false'] at h))))
    rw [divR, if_pos rfl]
    simp only [cN, limbs_zero, cNat]
    rfl
  have hbp := limbs_len_pos hb0
  have hbt := limbs_top hb0
  rw [divR, if_neg hb0]
  have hz : (((limbs (val b)).length : Int) == 0) = false := by rw [beq_eq_false_iff_ne]; omega
  ((refine W_seqV fun K hK => ?_); simp (disch := omega) only [regV_cons, effW_free, opF_move, ev_tmp, List.getD_cons_succ, List.getD_cons_zero, atK_ap, restV_ap, Eff.app, List.set, Eff.wi, Option.map_none, List.nil_append, opF_len, ty25, lenW_sl, u32s_length, valK_ap, List.cons_append, opF_binOp, ty3, ev_const, cst_int, binW_eql, hz, opF_assign, regV_nil, sepL, List.not_mem_nil, false_implies, implies_true, true_and])
  (refine hK _ ?_; clear hK K)
  (first | refine W_cond rfl (fun h => by cases h) (fun _ => ?_) | refine W_seq (W_cond rfl (fun h => by cases h) (fun _ => ?_)))
  by_cases hlt : val a < val b
  · have hs := sgn_lt' hlt
    ((refine W_seqV fun K hK => ?_); simp (disch := omega) only [regV_cons, effW_free, opF_move, ev_tmp, List.getD_cons_zero, atK_ap, restV_ap, Eff.app, List.set, Eff.wi, Option.map_none, List.nil_append, List.getD_cons_succ, List.cons_append, opF_call, ev_func, List.map_cons, List.map_nil, callF_fn, List.append_nil, opF_binOp, ty3, ev_const, cst_int])
    (refine ⟨by kernel_rfl, rfl, _, hcmp, ?_⟩; (try simp (disch := omega) only [binW_lss, valK_ap, atK_ap, restV_ap, Eff.app, List.set, Eff.wi, Option.map_none, List.cons_append, List.nil_append, regV_cons, effW_free, opF_assign, ev_tmp, List.getD_cons_succ, List.getD_cons_zero, regV_nil, sepL, List.not_mem_nil, false_implies, implies_true, true_and]))
    simp (disch := omega) only [hs]
    (refine hK _ ?_; clear hK K)
    (first | refine W_cond rfl (fun _ => ?_) (fun h => by cases h) | refine W_seq (W_cond rfl (fun _ => ?_) (fun h => by cases h)))
    ((refine W_seqV fun K hK => ?_); simp (disch := omega) only [regV_cons, effW_free, opF_move, ev_tmp, List.getD_cons_zero, atK_ap, restV_ap, Eff.app, List.set, Eff.wi, Option.map_none, List.nil_append, opF_call, ev_func, List.map_cons, List.getD_cons_succ, List.map_nil, callF_fn, List.append_nil, List.cons_append, opF_assign, ev_const, cst_nils, cst_int, regV_nil, sepL, List.not_mem_nil, false_implies, implies_true, true_and])
    (refine ⟨by kernel_rfl, rfl, _, hoa, ?_⟩; (try simp (disch := omega) only [cN, cNat]))
    (refine hK _ ?_; clear hK K)
    refine W_ret ?_
    simp (disch := omega) only [blockW, thenW, retR, resW, resV, sgn, List.getD_cons_succ, List.getD_cons_zero, asOne_three, view_tup, views_cons, view_nils, view_sl, view_int, views_nil, cN, cNat]
    rw [Nat.div_eq_of_lt hlt, Nat.mod_eq_of_lt hlt, limbs_zero]
    rfl
  · have hs := sgn_ge hlt
    have hmono := limbs_mono (Nat.le_of_not_lt hlt)
    ((refine W_seqV fun K hK => ?_); simp (disch := omega) only [regV_cons, effW_free, opF_move, ev_tmp, List.getD_cons_zero, atK_ap, restV_ap, Eff.app, List.set, Eff.wi, Option.map_none, List.nil_append, List.getD_cons_succ, List.cons_append, opF_call, ev_func, List.map_cons, List.map_nil, callF_fn, List.append_nil, opF_binOp, ty3, ev_const, cst_int])
    (refine ⟨by kernel_rfl, rfl, _, hcmp, ?_⟩; (try simp (disch := omega) only [binW_lss, valK_ap, atK_ap, restV_ap, Eff.app, List.set, Eff.wi, Option.map_none, List.cons_append, List.nil_append, regV_cons, effW_free, opF_assign, ev_tmp, List.getD_cons_succ, List.getD_cons_zero, regV_nil, sepL, List.not_mem_nil, false_implies, implies_true, true_and]))
    simp (disch := omega) only [hs]
    (refine hK _ ?_; clear hK K)
    (first | refine W_cond rfl (fun h => by cases h) (fun _ => ?_) | refine W_seq (W_cond rfl (fun h => by cases h) (fun _ => ?_)))
    by_cases ho : (limbs (val b)).length = 1
    · obtain ⟨o1, o2⟩ := limbs_one ho
      have hz2 : (((limbs (val b)).length : Int) == 1) = true := by rw [ho]; rfl
      have hsh := short_ok (limbs (val a)) (val b) haL (by omega) (by omega) o2
      rw [val_limbs] at hsh
      have hmod := Nat.mod_lt (val a) (show 0 < val b by omega)
      have hql : (padL (limbs (val a)).length (val a / val b)).length = (limbs (val a)).length := padL_length (Nat.lt_of_le_of_lt (Nat.div_le_self _ _) (by have := val_lt haL; rwa [val_limbs] at this))
      have hq := own_ok' (padL (limbs (val a)).length (val a / val b)) (padL_limbs _ _) (by omega)
      rw [padL_val] at hq
      have hr := own_ok' [val a % val b] (fun x hx => by simp at hx; omega) (by simp)
      simp only [val, Nat.mul_zero, Nat.add_zero] at hr
      ((refine W_seqV fun K hK => ?_); simp (disch := omega) only [regV_cons, effW_free, opF_move, ev_tmp, List.getD_cons_succ, List.getD_cons_zero, atK_ap, restV_ap, Eff.app, List.set, Eff.wi, Option.map_none, List.nil_append, opF_len, ty25, lenW_sl, u32s_length, valK_ap, List.cons_append, opF_binOp, ty3, ev_const, cst_int, binW_eql, hz2, opF_assign, regV_nil, sepL, List.not_mem_nil, false_implies, implies_true, true_and])
      (refine hK _ ?_; clear hK K)
      (first | refine W_cond rfl (fun _ => ?_) (fun h => by cases h) | refine W_seq (W_cond rfl (fun _ => ?_) (fun h => by cases h)))
      ((refine W_seqV fun K hK => ?_); simp (disch := omega) only [regV_cons, effW_free, opF_move, ev_tmp, List.getD_cons_zero, atK_ap, restV_ap, Eff.app, List.set, Eff.wi, Option.map_none, List.nil_append, List.getD_cons_succ, List.cons_append, opF_indexAddr, ty25, ev_const, cst_int, objOf, indexAddrW_sl, ty79, ne_eq, reduceCtorEq, not_false_eq_true, Int.reduceLE, u32s_length, Int.natCast_pos, u32s_all, Int.toNat_zero, u32s_getD, o1, valK_ap, opF_load, TI.isAgg, Bool.false_eq_true, or_true, loadW_ia, Nat.zero_add, List.length_cons, List.length_nil, Nat.reduceLeDiff, ofCells, List.drop_zero, List.take_succ_cons, List.take_zero, List.headD_cons, if_false, opF_call, ev_func, List.map_cons, List.map_nil, callF_fn, List.append_nil, opF_extract, true_and])
      ((repeat refine And.intro (by omega) ?_); refine ⟨by kernel_rfl, rfl, _, hsh, ?_⟩; (try simp (disch := omega) only [cNat, extractW_tup, List.length_cons, List.length_nil, Nat.zero_add, Nat.reduceAdd, Nat.reduceLT, List.getD_cons_zero, valK_ap, atK_ap, restV_ap, Eff.app, List.set, Eff.wi, Option.map_none, List.cons_append, List.nil_append, regV_cons, effW_free, opF_extract, ev_tmp, List.getD_cons_succ, opF_assign, regV_nil, sepL, List.not_mem_nil, false_implies, implies_true, true_and]))
      (refine hK _ ?_; clear hK K)
      ((refine W_seqV fun K hK => ?_); simp (disch := omega) only [regV_cons, effW_free, opF_move, ev_tmp, List.getD_cons_succ, List.getD_cons_zero, atK_ap, restV_ap, Eff.app, List.set, Eff.wi, Option.map_none, List.nil_append, opF_call, ev_func, List.map_cons, List.map_nil, callF_fn, List.append_nil, List.cons_append, opF_buildSlice, ty25, litD_slice, dead, List.getElem?_cons_succ, List.getElem?_cons_zero, ty79, ne_eq, reduceCtorEq, not_false_eq_true, List.length_cons, List.length_nil, Nat.zero_add, range1, Nat.reduceMul, Nat.reduceLeDiff, storable, AV.one, cellsOf, List.forall_mem_cons, true_and, List.not_mem_nil, false_implies, implies_true, and_true, valK_ap, opF_assign, ev_const, cst_int, regV_nil, sepL])
      (refine ⟨by kernel_rfl, rfl, _, hq, ?_⟩; (try simp (disch := omega) only [cN, cNat]); (repeat (refine And.intro (by show AV.pures _ = true; rfl) ?_)))
      (refine ⟨by kernel_rfl, rfl, _, hr, ?_⟩; (try simp (disch := omega) only [cN, cNat]))
      (refine hK _ ?_; clear hK K)
      refine W_ret ?_
      simp (disch := omega) only [blockW, thenW, retR, resW, resV, sgn, List.getD_cons_succ, List.getD_cons_zero, asOne_three, view_tup, views_cons, view_sl, view_int, views_nil, cN, cNat]
    · have hz2 : (((limbs (val b)).length : Int) == 1) = false := by rw [beq_eq_false_iff_ne]; omega
      have hlo := long_ok (limbs (val a)) (limbs (val b)) haL hbL (by omega) hmono (by omega) hbt
      rw [val_limbs, val_limbs] at hlo
      ((refine W_seqV fun K hK => ?_); simp (disch := omega) only [regV_cons, effW_free, opF_move, ev_tmp, List.getD_cons_succ, List.getD_cons_zero, atK_ap, restV_ap, Eff.app, List.set, Eff.wi, Option.map_none, List.nil_append, opF_len, ty25, lenW_sl, u32s_length, valK_ap, List.cons_append, opF_binOp, ty3, ev_const, cst_int, binW_eql, hz2, opF_assign, regV_nil, sepL, List.not_mem_nil, false_implies, implies_true, true_and])
      (refine hK _ ?_; clear hK K)
      (first | refine W_cond rfl (fun h => by cases h) (fun _ => ?_) | refine W_seq (W_cond rfl (fun h => by cases h) (fun _ => ?_)))
      refine W_skip ?_
      simp only [thenW, blockW]
      ((refine W_seqV fun K hK => ?_); simp (disch := omega) only [regV_cons, effW_free, opF_move, ev_tmp, List.getD_cons_zero, atK_ap, restV_ap, Eff.app, List.set, Eff.wi, Option.map_none, List.nil_append, List.getD_cons_succ, List.cons_append, opF_call, ev_func, List.map_cons, List.map_nil, callF_fn, List.append_nil, opF_extract])
      (refine ⟨by kernel_rfl, rfl, _, hlo, ?_⟩; (try simp (disch := omega) only [cN, cNat, extractW_tup, List.length_cons, List.length_nil, Nat.zero_add, Nat.reduceAdd, Nat.reduceLT, List.getD_cons_zero, valK_ap, atK_ap, restV_ap, Eff.app, List.set, Eff.wi, Option.map_none, List.cons_append, List.nil_append, regV_cons, effW_free, opF_extract, ev_tmp, List.getD_cons_succ, opF_assign, regV_nil, sepL, List.not_mem_nil, false_implies, implies_true, true_and]))
      (refine hK _ ?_; clear hK K)
      (repeat' (first | (refine W_seqV fun K hK => ?_; (try simp (disch := omega) only [regV_cons, effW_free, opF_move, ev_tmp, List.getD_cons_succ, List.getD_cons_zero, atK_ap, restV_ap, Eff.app, List.set, Eff.wi, Option.map_none, List.nil_append, List.cons_append, opF_assign, ev_const, cst_int, regV_nil, sepL, List.not_mem_nil, false_implies, implies_true, true_and]); refine hK _ ?_; clear hK K) | (refine W_ret ?_; simp (disch := omega) only [retR, resW, resV, sgn, List.getD_cons_succ, List.getD_cons_zero, asOne_three, view_tup, views_cons, view_sl, view_int, views_nil, cN, cNat])))

theorem gcd_step {a b : Nat} (hb : b ≠ 0) : Nat.gcd b (a % b) = Nat.gcd a b := by
  rw [Nat.gcd_comm b, ← Nat.gcd_rec, Nat.gcd_comm]
set_option maxHeartbeats 4000000 in
theorem ngcd_ok (a b : List Nat) (ha : Limbs a) (hb : Limbs b) (h1 : a.length < 274877906944) (h2 : b.length < 274877906944) :
    Pure Try.prog 36 [cNat a, cNat b] (· = cN (Nat.gcd (val a) (val b))) := by
  have hal := limbs_val_length ha
  have hbl := limbs_val_length hb
  (refine pureW Try.func36 rfl (rs := [Go.ResultVar.tmp 4]) rfl (n := 25) rfl ?_; simp only [List.length_cons, List.length_nil, List.replicate, List.cons_append, List.nil_append])
  ((refine W_seqV fun K hK => ?_); simp (disch := omega) only [cNat, regV_cons, effW_free, opF_assign, ev_const, cst_nils, atK_ap, restV_ap, Eff.app, List.set, Eff.wi, Option.map_none, List.nil_append, regV_nil, sepL, List.not_mem_nil, false_implies, implies_true, true_and])
  (refine hK _ ?_; clear hK K)
  ((refine W_seqV fun K hK => ?_); simp (disch := omega) only [regV_cons, effW_free, opF_move, ev_tmp, List.getD_cons_zero, atK_ap, restV_ap, Eff.app, List.set, Eff.wi, Option.map_none, List.nil_append, opF_call, ev_func, List.map_cons, List.getD_cons_succ, List.map_nil, callF_fn, List.append_nil, List.cons_append, opF_assign, regV_nil, sepL, List.not_mem_nil, false_implies, implies_true, true_and])
  (refine ⟨by kernel_rfl, rfl, _, own_ok' a ha (by omega), ?_⟩; (try simp (disch := omega) only [cN, cNat]))
  (refine ⟨by kernel_rfl, rfl, _, own_ok' b hb (by omega), ?_⟩; (try simp (disch := omega) only [cN, cNat]))
  (refine hK _ ?_; clear hK K)
  refine W_seq (W_block (W_loop (fun t : {t : Nat × Nat // (limbs t.1).length < 274877906944 ∧ (limbs t.2).length < 274877906944 ∧ Nat.gcd t.1 t.2 = Nat.gcd (val a) (val b)} =>
      ⟨[cN t.1.1, cN t.1.2, .any, .any, .any, .any, .any, .any, .any, .any, .any, .any, .any, .any, .any, .any, .any, .any, .any, .any, .any, .any, .any, .any, .any], [.dead, .dead, .dead, .dead, .dead, .dead, .dead, .dead, .dead, .dead, .dead, .dead, .dead, .dead, .dead, .dead, .dead, .dead, .dead, .dead, .dead, .dead, .dead, .dead, .dead]⟩) (fun t => t.1.2)
      ⟨(val a, val b), by dsimp only; omega, by dsimp only; omega, rfl⟩ (Le_of (by simp [leE, cN, cNat]) rfl) fun t => ?_))
  obtain ⟨⟨x, y⟩, h3, h4, h5⟩ := t
  dsimp only at h3 h4 h5 ⊢
  by_cases hy : y = 0
  · subst hy
    simp only [cN, limbs_zero, cNat]
    (repeat' (first | (exfalso; simp at h; done) | (refine W_seqV fun K hK => ?_; (try simp (disch := omega) only [regV_cons, effW_free, opF_move, ev_tmp, List.getD_cons_succ, List.getD_cons_zero, atK_ap, restV_ap, Eff.app, List.set, Eff.wi, Option.map_none, List.nil_append, opF_len, ty25, lenW_sl, u32s_length, List.length_nil, Int.cast_ofNat_Int, valK_ap, List.cons_append, opF_binOp, ty3, ev_const, cst_int, binW_gtr, gt_iff_lt, Int.lt_irrefl, decide_false, regV_nil, sepL, List.not_mem_nil, false_implies, implies_true, true_and, opF_assign]); refine hK _ ?_; clear hK K) | (refine W_ret ?_; simp (disch := omega) only [retR, resW, resV, List.getD_cons_succ, List.getD_cons_zero, asOne_one, view_sl]) | (refine W_exit ?_; simp only [thenW, blockW, if_true, reduceCtorEq, if_false, Nat.reduceEqDiff]) | (refine W_cond rfl (fun h => ?_) (fun h => ?_) <;> (try simp only [cond_true, cond_false, decide_eq_true_eq, decide_eq_false_iff_not, bne_iff_ne, beq_iff_eq, bne_eq_false_iff_eq, beq_eq_false_iff_ne, ne_eq, Nat.not_lt, Nat.not_le, Int.not_lt, Int.not_le, Bool.not_eq_true', Bool.not_eq_false'] at h)) | refine W_seq ?_))
    rw [← h5, Nat.gcd_zero_right]
  · have hp := limbs_len_pos hy
    have hd := ndiv_ok (limbs x) (limbs y) (limbs_limbs x) (limbs_limbs y) h3 h4
    rw [val_limbs, val_limbs, divR, if_neg hy] at hd
    have hml := limbs_mono (Nat.mod_le x y)
    (repeat' (first | refine W_block ?_ | (refine W_seqV fun K hK => ?_; (try simp (disch := omega) only [cN, cNat, regV_cons, effW_free, opF_move, ev_tmp, List.getD_cons_succ, List.getD_cons_zero, atK_ap, restV_ap, Eff.app, List.set, Eff.wi, Option.map_none, List.nil_append, opF_len, ty25, lenW_sl, u32s_length, valK_ap, List.cons_append, opF_binOp, ty3, ev_const, cst_int, binW_gtr, gt_iff_lt, Int.natCast_pos, regV_nil, sepL, List.not_mem_nil, false_implies, implies_true, true_and, opF_assign]); refine hK _ ?_; clear hK K) | refine W_skip ?_ | (refine W_ret ?_; simp (disch := omega) only [retR, resW, resV, List.getD_cons_succ, List.getD_cons_zero, asOne_one, view_sl, cN, cNat]) | (refine W_exit ?_; simp only [thenW, blockW, if_true, reduceCtorEq, if_false, Nat.reduceEqDiff]) | (refine W_cond rfl (fun h => ?_) (fun h => ?_) <;> (try simp only [cond_true, cond_false, decide_eq_true_eq, decide_eq_false_iff_not, bne_iff_ne, beq_iff_eq, bne_eq_false_iff_eq, beq_eq_false_iff_ne, ne_eq, Nat.not_lt, Nat.not_le, Int.not_lt, Int.not_le, Bool.not_eq_true', Bool.not_eq_false'] at h)) | refine W_seq ?_))
    · ((refine W_regV fun K hK => ?_); simp (disch := omega) only [regV_cons, effW_free, opF_move, ev_tmp, List.getD_cons_zero, atK_ap, restV_ap, Eff.app, List.set, Eff.wi, Option.map_none, List.nil_append, List.getD_cons_succ, List.cons_append, opF_call, ev_func, List.map_cons, List.map_nil, callF_fn, List.append_nil, opF_extract])
      (refine ⟨by kernel_rfl, rfl, _, hd, ?_⟩; (try simp (disch := omega) only [cN, cNat, extractW_tup, List.length_cons, List.length_nil, Nat.zero_add, Nat.reduceAdd, Nat.reduceLT, List.getD_cons_zero, valK_ap, atK_ap, restV_ap, Eff.app, List.set, Eff.wi, Option.map_none, List.cons_append, List.nil_append, regV_cons, effW_free, opF_extract, ev_tmp, List.getD_cons_succ, opF_assign, regV_nil, sepL, List.not_mem_nil, false_implies, implies_true, true_and]))
      (refine hK _ ?_; clear hK K)
      ((refine W_regV fun K hK => ?_); simp (disch := omega) only [regV_cons, effW_free, opF_move, ev_tmp, List.getD_cons_succ, List.getD_cons_zero, atK_ap, restV_ap, Eff.app, List.set, Eff.wi, Option.map_none, List.nil_append, List.cons_append, opF_assign, regV_nil, sepL, List.not_mem_nil, false_implies, implies_true, true_and])
      (refine hK _ ?_; clear hK K)
      simp only [blockW, thenW]
      exact ⟨⟨(y, x % y), h4, by dsimp only; omega, by rw [gcd_step hy]; exact h5⟩, Le_of (by simp [leE, cN, cNat]) rfl, Nat.mod_lt _ (by omega)⟩
    · exfalso; omega
end Go.Proofs.Ytjkjapjcmbfkgaa.Vm

/-
  Whole numbers as sign and limbs: plain laws.
-/
namespace Go.Proofs.Ytjkjapjcmbfkgaa.Vm
open Go Go.RowKit
set_option linter.unusedVariables false
set_option linter.unusedSimpArgs false

/-- A whole number as it is handed in: any sign, any limbs. -/
def cI (neg : Bool) (l : List Nat) : AV := .agg [.bool neg, .sl (u32s l)]
def iv (neg : Bool) (l : List Nat) : Int := if neg then -(val l : Int) else val l
/-- A whole number, normal. -/
def cZ (z : Int) : AV := cI (decide (z < 0)) (limbs z.natAbs)
theorem iv_abs (neg : Bool) (l : List Nat) : (iv neg l).natAbs = val l := by
  unfold iv; split <;> simp
theorem iv_cZ (z : Int) : iv (decide (z < 0)) (limbs z.natAbs) = z := by
  unfold iv
  rw [val_limbs]
  by_cases h : z < 0
  · simp only [h, decide_true, if_true]; omega
  · simp only [h, decide_false, Bool.false_eq_true, if_false]; omega
/-- What 'signed' makes: the product of the signs decides. -/
theorem cZ_of (p : Int) (n : Nat) : cI (decide (p < 0) && decide (0 < (limbs n).length)) (limbs n) = cZ (if p < 0 then -(n : Int) else n) := by
  unfold cZ
  by_cases hp : p < 0
  · simp only [hp, decide_true, if_true, Bool.true_and, Int.natAbs_neg, Int.natAbs_natCast]
    by_cases h0 : n = 0
    · subst h0; simp [limbs_zero]
    · have := limbs_len_pos h0
      rw [decide_eq_true this, decide_eq_true (show -(n : Int) < 0 by omega)]
  · simp only [hp, decide_false, Bool.false_and, Bool.false_eq_true, if_false, Int.natAbs_natCast]
    rw [decide_eq_false (show ¬ ((n : Int) < 0) by omega)]
theorem isign (neg : Bool) (l : List Nat) : (iv neg l).sign = if val l = 0 then 0 else if neg then -1 else 1 := by
  unfold iv
  by_cases h0 : val l = 0
  · simp [h0]
  · rw [if_neg h0]
    cases neg
    · simp only [Bool.false_eq_true, if_false]; exact Int.sign_eq_one_of_pos (by omega)
    · simp only [if_true]; exact Int.sign_eq_neg_one_of_neg (by omega)
def sg (z : Int) : Prop := z = -1 ∨ z = 0 ∨ z = 1
theorem sg_sign (z : Int) : sg z.sign := by
  rcases Int.lt_trichotomy z 0 with h | h | h
  · exact .inl (Int.sign_eq_neg_one_of_neg h)
  · subst h; exact .inr (.inl rfl)
  · exact .inr (.inr (Int.sign_eq_one_of_pos h))
theorem sg_mul {a b : Int} (ha : sg a) (hb : sg b) : sg (a * b) := by
  rcases ha with rfl | rfl | rfl <;> rcases hb with rfl | rfl | rfl <;> simp [sg]
theorem sg_wrap {a : Int} (h : sg a) : IntKind.wrap .i64 a = a := by
  rcases h with rfl | rfl | rfl <;> rfl
def i64s (l : List Int) : List (List AV) := l.map fun x => [.int .i64 x]
theorem i64s_length (l : List Int) : (i64s l).length = l.length := by simp [i64s]
theorem i64s_all (l : List Int) : AllLen 1 (i64s l) := by
  intro r hr
  simp only [i64s, List.mem_map] at hr
  obtain ⟨x, _, rfl⟩ := hr
  rfl
theorem i64s_getD {l : List Int} {i : Nat} (h : i < l.length) : (i64s l).getD i [] = [.int .i64 (l.getD i 0)] := by
  simp [i64s, List.getD_eq_getElem?_getD, h]
def prodL (l : List Int) : Int := l.foldl (· * ·) 1
theorem prodL_take {l : List Int} {i : Nat} (h : i < l.length) : prodL (l.take (i + 1)) = prodL (l.take i) * l.getD i 0 := by
  unfold prodL
  rw [List.take_succ_eq_append_getElem h, List.foldl_append, List.foldl_cons, List.foldl_nil, List.getD_eq_getElem?_getD, List.getElem?_eq_getElem h]
  rfl
theorem sg_prodL {l : List Int} (h : ∀ x ∈ l, sg x) : sg (prodL l) := by
  unfold prodL
  have : ∀ (l : List Int) (a : Int), sg a → (∀ x ∈ l, sg x) → sg (l.foldl (· * ·) a) := by
    intro l
    induction l with
    | nil => intro a ha _; exact ha
    | cons x l ih =>
      intro a ha hl
      exact ih _ (sg_mul ha (hl x List.mem_cons_self)) fun y hy => hl y (List.mem_cons_of_mem _ hy)
  exact this l 1 (.inr (.inr rfl)) h
theorem sg_getD {l : List Int} (h : ∀ x ∈ l, sg x) (i : Nat) : sg (l.getD i 0) := by
  rw [List.getD_eq_getElem?_getD]
  cases hi : l[i]? with
  | none => exact .inr (.inl rfl)
  | some x => exact h x (List.mem_of_getElem? hi)
theorem iv_neg (neg : Bool) (l : List Nat) : (if prodL [-1, (iv neg l).sign] < 0 then -(val l : Int) else val l) = -(iv neg l) := by
  rw [isign]
  simp only [prodL, List.foldl_cons, List.foldl_nil, iv]
  by_cases h0 : val l = 0
  · simp [h0]
  · cases neg <;> simp [h0]
theorem iv_norm (neg : Bool) (l : List Nat) : (if prodL [(iv neg l).sign] < 0 then -(val l : Int) else val l) = iv neg l := by
  rw [isign]
  simp only [prodL, List.foldl_cons, List.foldl_nil, iv]
  by_cases h0 : val l = 0
  · simp [h0]
  · cases neg <;> simp [h0]
theorem iv_mul (neg neg' : Bool) (l m : List Nat) : (if prodL [(iv neg l).sign, (iv neg' m).sign] < 0 then -((val l * val m : Nat) : Int) else (val l * val m : Nat)) = iv neg l * iv neg' m := by
  rw [isign, isign]
  simp only [prodL, List.foldl_cons, List.foldl_nil, iv]
  by_cases h0 : val l = 0
  · simp [h0]
  · by_cases h1 : val m = 0
    · simp [h1]
    · cases neg <;> cases neg' <;> simp [h0, h1, Int.neg_mul, Int.mul_neg]
theorem bor_sg {x y : Int} (hx : sg x) (hy : sg y) : borI .i64 (borI .i64 x y) 1 = if x = -1 ∨ y = -1 then -1 else 1 := by
  rcases hx with rfl | rfl | rfl <;> rcases hy with rfl | rfl | rfl <;> decide
theorem sg_bor {x y : Int} : sg (if x = -1 ∨ y = -1 then -1 else 1) := by
  split
  · exact .inl rfl
  · exact .inr (.inr rfl)
/-- The sum, where the signs do not differ. -/
theorem iv_add_same (neg : Bool) (l : List Nat) (neg' : Bool) (m : List Nat) (h : 0 ≤ (iv neg l).sign * (iv neg' m).sign) :
    (if prodL [if (iv neg l).sign = -1 ∨ (iv neg' m).sign = -1 then -1 else 1] < 0 then -((val l + val m : Nat) : Int) else (val l + val m : Nat)) = iv neg l + iv neg' m := by
  rw [isign, isign] at h ⊢
  simp only [prodL, List.foldl_cons, List.foldl_nil, iv]
  by_cases h0 : val l = 0
  · by_cases h1 : val m = 0
    · simp [h0, h1]
    · cases neg <;> cases neg' <;> simp [h0, h1]
  · by_cases h1 : val m = 0
    · cases neg <;> cases neg' <;> simp [h0, h1]
    · cases neg <;> cases neg' <;> simp [h0, h1] at h ⊢
      omega
/-- The sum, where they do: the greater amount's sign decides. -/
theorem iv_add_diff (neg : Bool) (l : List Nat) (neg' : Bool) (m : List Nat) (h : ¬ 0 ≤ (iv neg l).sign * (iv neg' m).sign) :
    (val m ≤ val l → (if prodL [(iv neg l).sign] < 0 then -((val l - val m : Nat) : Int) else (val l - val m : Nat)) = iv neg l + iv neg' m) ∧
    (val l < val m → (if prodL [(iv neg' m).sign] < 0 then -((val m - val l : Nat) : Int) else (val m - val l : Nat)) = iv neg l + iv neg' m) := by
  rw [isign, isign] at h ⊢
  simp only [prodL, List.foldl_cons, List.foldl_nil, iv]
  by_cases h0 : val l = 0
  · simp [h0] at h
  · by_cases h1 : val m = 0
    · simp [h1] at h
    · cases neg <;> cases neg' <;> simp [h0, h1] at h ⊢ <;> omega
theorem sgn_nn {a b : Nat} (h : b ≤ a) : decide (0 ≤ sgn a b) = true := by
  refine decide_eq_true ?_
  unfold sgn
  rw [if_neg (by omega)]
  split <;> omega
theorem sgn_ng {a b : Nat} (h : ¬ b ≤ a) : decide (0 ≤ sgn a b) = false := by
  rw [sgn_lt (by omega)]; rfl
/-- The size of a whole number: how many limbs. -/
def zl (z : Int) : Nat := (limbs z.natAbs).length
theorem zl_iv (neg : Bool) (l : List Nat) (h : Limbs l) : zl (iv neg l) ≤ l.length := by
  unfold zl; rw [iv_abs]; exact limbs_val_length h
theorem len_le {n k : Nat} (h : n < 4294967296 ^ k) : (limbs n).length ≤ k := limbs_length_le h
theorem lt_len (n : Nat) : n < 4294967296 ^ (limbs n).length := by
  have := val_lt (limbs_limbs n)
  rwa [val_limbs] at this
theorem zl_add (a b : Int) : zl (a + b) ≤ zl a + zl b + 1 := by
  unfold zl
  refine len_le ?_
  have h1 := lt_len a.natAbs
  have h2 := lt_len b.natAbs
  have h3 : (a + b).natAbs ≤ a.natAbs + b.natAbs := Int.natAbs_add_le a b
  have p1 : 0 < 4294967296 ^ (limbs a.natAbs).length := Nat.pow_pos (by omega)
  have p2 : 0 < 4294967296 ^ (limbs b.natAbs).length := Nat.pow_pos (by omega)
  rw [Nat.pow_succ, Nat.pow_add]
  have h4 : 4294967296 ^ (limbs a.natAbs).length ≤ 4294967296 ^ (limbs a.natAbs).length * 4294967296 ^ (limbs b.natAbs).length := Nat.le_mul_of_pos_right _ p2
  have h5 : 4294967296 ^ (limbs b.natAbs).length ≤ 4294967296 ^ (limbs a.natAbs).length * 4294967296 ^ (limbs b.natAbs).length := Nat.le_mul_of_pos_left _ p1
  omega
theorem len_mul (a b : Nat) : (limbs (a * b)).length ≤ (limbs a).length + (limbs b).length := by
  refine len_le ?_
  rw [Nat.pow_add]
  have h1 := lt_len a
  have h2 := lt_len b
  exact Nat.mul_lt_mul'' h1 h2
theorem zl_mul (a b : Int) : zl (a * b) ≤ zl a + zl b := by
  unfold zl; rw [Int.natAbs_mul]; exact len_mul _ _
theorem zl_neg (a : Int) : zl (-a) = zl a := by unfold zl; rw [Int.natAbs_neg]
end Go.Proofs.Ytjkjapjcmbfkgaa.Vm

/-
  Whole numbers: core, Sign, signed.
-/
namespace Go.Proofs.Ytjkjapjcmbfkgaa.Vm
open Go Go.RowKit
set_option linter.unusedVariables false
set_option linter.unusedSimpArgs false
set_option pp.deepTerms false
set_option pp.deepTerms.threshold 8

set_option maxHeartbeats 1000000 in
theorem core_ok (l : List Nat) (hl : l.length < 9223372036854775807) : Pure Try.prog 67 [cNat l] (· = cNat (trim l)) := by
  (refine pureW Try.func67 rfl (rs := [Go.ResultVar.tmp 2]) rfl (n := 22) rfl ?_; simp only [List.length_cons, List.length_nil, List.replicate, List.cons_append, List.nil_append])
  unfold cNat
  ((refine W_seqR fun K hK => ?_); simp (disch := omega) only [opsW_free, opW_assign, St.ret, List.set, ev_const, cst_nils, restO_ap, opsW_nil])
  (refine hK _ ?_; clear hK K)
  ((refine W_seqR fun K hK => ?_); simp (disch := omega) only [opsW_free, opW_move, St.ret, List.set, ev_tmp, List.getD_cons_zero, restO_ap, opW_len, ty25, List.getD_cons_succ, lenW_sl, u32s_length, retK_ap, opW_assign, opsW_nil])
  (refine hK _ ?_; clear hK K)
  refine W_seq (W_block (W_loop (fun n : {n : Nat // n ≤ l.length ∧ cutLen l n = cutLen l l.length} => ⟨[.sl (u32s l), .any, .any, .int .i64 n.1, .any, .any, .any, .any, .any, .any, .any, .any, .any, .any, .any, .any, .any, .any, .any, .any, .any, .any], [.dead, .dead, .dead, .dead, .dead, .dead, .dead, .dead, .dead, .dead, .dead, .dead, .dead, .dead, .dead, .dead, .dead, .dead, .dead, .dead, .dead, .dead]⟩) (fun n => n.1) ⟨l.length, Nat.le_refl _, rfl⟩ (Le_of ?_ rfl) fun n => ?_))
  · simp [leE]
  obtain ⟨n, hn, hc⟩ := n
  refine W_seq ?_
  dsimp only
  rcases Nat.eq_zero_or_pos n with rfl | hpos
  · ((refine W_seqR fun K hK => ?_); simp (disch := omega) only [Int.cast_ofNat_Int, opsW_free, opW_move, St.ret, List.set, ev_tmp, List.getD_cons_succ, List.getD_cons_zero, restO_ap, opW_binOp, ty3, ev_const, cst_int, binW_gtr, gt_iff_lt, Int.lt_irrefl, decide_false, retK_ap, opsW_guard, guardOf, List.getElem?_toArray, List.getElem?_cons_succ, List.getElem?_cons_zero, Option.bind_some, opsH_tf, opW_pick, cst_bool, pickW_no, opsW_nil])
    (refine hK _ ?_; clear hK K)
    (first | refine W_cond rfl (fun h => by cases h) (fun _ => ?_) | refine W_seq (W_cond rfl (fun h => by cases h) (fun _ => ?_)))
    refine W_exit ?_
    simp only [thenW, blockW, if_true]
    ((refine W_seqR fun K hK => ?_); simp (disch := omega) only [opsW_free, opW_move, St.ret, List.set, ev_tmp, List.getD_cons_zero, restO_ap, List.getD_cons_succ, opW_slice, sliceW, ty25, ty79, ne_eq, reduceCtorEq, not_false_eq_true, bnd, evo_none, Int.cast_ofNat_Int, evo_some, Int.reduceLE, u32s_length, nat_nonneg, mxOk, and_self, Option.isSome_some, or_true, u32s_all, Int.toNat_zero, List.take_zero, List.drop_nil, retK_ap, opW_assign, opsW_nil, true_and])
    (refine hK _ ?_; clear hK K)
    refine W_ret ?_
    simp (disch := omega) only [retR, resW, resV, List.getD_cons_succ, List.getD_cons_zero, asOne_one, view_sl]
    simp [trim, ← hc, cutLen, u32s]
  · ((refine W_seqR fun K hK => ?_); simp (disch := omega) only [opsW_free, opW_move, St.ret, List.set, ev_tmp, List.getD_cons_succ, List.getD_cons_zero, restO_ap, opW_binOp, ty3, ev_const, cst_int, binW_gtr, gt_iff_lt, Int.natCast_pos, hpos, decide_true, retK_ap, opsW_guard, guardOf, List.getElem?_toArray, List.getElem?_cons_succ, List.getElem?_cons_zero, Option.bind_some, opsH_tt, binW_sub, wrap_i64_pred, opW_indexAddr, ty25, indexAddrW_sl, ty79, ne_eq, reduceCtorEq, not_false_eq_true, nat_nonneg, u32s_length, nat_lt_int, u32s_all, toNat_natCast, u32s_getD, opW_load, TI.isAgg, Bool.false_eq_true, or_true, loadW_ia, Nat.zero_add, List.length_cons, List.length_nil, Nat.reduceLeDiff, ofCells, List.drop_zero, List.take_succ_cons, List.take_zero, List.headD_cons, if_false, binW_eql, opW_pick, cst_bool, pickW_bool, cond_true, opsW_nil, true_and])
    refine ⟨by omega, ?_⟩
    (refine hK _ ?_; clear hK K)
    refine W_cond rfl (fun h => ?_) (fun h => ?_)
    · refine W_skip (W_block (W_regR fun K hK => ?_))
      simp (disch := omega) only [opsW_free, opW_move, St.ret, List.set, ev_tmp, List.getD_cons_succ, List.getD_cons_zero, restO_ap, opW_binOp, ty3, ev_const, cst_int, binW_sub, wrap_i64_pred, retK_ap, opW_assign, opsW_nil]
      refine hK _ ⟨⟨n - 1, by omega, ?_⟩, Le_of ?_ rfl, ?_⟩
      · rw [← hc]
        obtain ⟨m, rfl⟩ : ∃ m, n = m + 1 := ⟨n - 1, by omega⟩
        simp at h
        simp only [cutLen, Nat.add_sub_cancel, List.getD_eq_getElem?_getD, h, if_true]
      · simp [leE]
      · simp; omega
    refine W_exit ?_
    simp only [thenW, blockW, if_true]
    ((refine W_seqR fun K hK => ?_); simp (disch := omega) only [opsW_free, opW_move, St.ret, List.set, ev_tmp, List.getD_cons_zero, restO_ap, List.getD_cons_succ, opW_slice, sliceW, ty25, ty79, ne_eq, reduceCtorEq, not_false_eq_true, bnd, evo_none, Int.cast_ofNat_Int, evo_some, Int.reduceLE, nat_nonneg, u32s_length, nat_le_int, mxOk, Option.isSome_some, or_true, u32s_all, Int.toNat_zero, toNat_natCast, u32s_take, List.drop_zero, retK_ap, opW_assign, opsW_nil, true_and])
    refine ⟨hn, ?_⟩
    ((repeat refine And.intro (by omega) ?_); refine hK _ ?_; clear hK K)
    refine W_ret ?_
    simp (disch := omega) only [retR, resW, resV, List.getD_cons_succ, List.getD_cons_zero, asOne_one, view_sl]
    obtain ⟨m, rfl⟩ : ∃ m, n = m + 1 := ⟨n - 1, by omega⟩
    simp at h
    simp only [trim, ← hc, cutLen, List.getD_eq_getElem?_getD, h, if_false]
theorem core_ok' (l : List Nat) (h : Limbs l) (hl : l.length < 1099511627776) : Pure Try.prog 67 [cNat l] (· = cN (val l)) := by
  have := core_ok l (by omega)
  rwa [trim_eq h] at this

set_option maxHeartbeats 1000000 in
theorem wsign_ok (neg : Bool) (l : List Nat) (h : Limbs l) (hl : l.length < 1099511627776) : Pure Try.prog 42 [cI neg l] (· = .int .i64 (iv neg l).sign) := by
  rw [isign]
  have hc := core_ok' l h hl
  (refine pureW Try.func42 rfl (rs := [Go.ResultVar.tmp 2]) rfl (n := 12) rfl ?_; simp only [List.length_cons, List.length_nil, List.replicate, List.cons_append, List.nil_append])
  unfold cI
  (repeat (refine W_seqV fun K hK => ?_; (try simp (disch := omega) only [regV_cons, effW_free, opF_box, dead, List.getElem?_cons_succ, List.getElem?_cons_zero, storable, ev_tmp, List.getD_cons_zero, List.all_cons, AV.one, List.all_nil, Bool.and_self, cellsOf, List.length_cons, List.length_nil, Nat.zero_add, Nat.reduceAdd, atK_ap, restV_ap, Eff.app, List.set, Eff.wi, Option.map_some, List.nil_append, opF_assign, ev_const, cst_int, Option.map_none, List.cons_append, regV_nil, sepL, List.not_mem_nil, false_implies, implies_true, true_and]); refine hK _ ?_; clear hK K))
  refine W_seq (W_block ?_)
  by_cases h0 : val l = 0
  · rw [h0] at hc
    simp only [cN, limbs_zero, cNat] at hc
    rw [if_pos h0]
    ((refine W_seqV fun K hK => ?_); simp (disch := omega) only [regV_cons, effW_free, opF_fieldAddr, ty27, ev_tmp, List.getD_cons_succ, List.getD_cons_zero, fieldAddrW_ptr, List.length_cons, List.length_nil, Nat.zero_add, Nat.reduceAdd, Nat.reduceLT, ty25, ne_eq, reduceCtorEq, not_false_eq_true, valK_ap, atK_ap, restV_ap, Eff.app, List.set, Eff.wi, Option.map_none, List.nil_append, opF_load, TI.isAgg, Bool.false_eq_true, or_true, objOf, loadW_ptr, loadO_arr, Nat.reduceLeDiff, ofCells, List.drop_succ_cons, List.drop_zero, List.take_succ_cons, List.take_zero, List.headD_cons, if_false, List.cons_append, opF_call, ev_func, List.map_cons, List.map_nil, callF_fn, List.append_nil, opF_len, true_and])
    (refine ⟨by kernel_rfl, rfl, _, hc, ?_⟩; (try simp (disch := omega) only [lenW_sl, u32s_length, List.length_nil, Int.cast_ofNat_Int, valK_ap, atK_ap, restV_ap, Eff.app, List.set, Eff.wi, Option.map_none, List.cons_append, List.nil_append, regV_cons, effW_free, opF_binOp, ty3, ev_tmp, List.getD_cons_succ, List.getD_cons_zero, ev_const, cst_int, binW_eql, opF_assign, regV_nil, sepL, List.not_mem_nil, false_implies, implies_true, true_and]))
    (refine hK _ ?_; clear hK K)
    (repeat' (first | (exfalso; simp at h; done) | (refine W_seqV fun K hK => ?_; (try simp (disch := omega) only [regV_cons, effW_free, opF_assign, ev_const, cst_int, atK_ap, restV_ap, Eff.app, List.set, Eff.wi, Option.map_none, List.nil_append, regV_nil, sepL, List.not_mem_nil, false_implies, implies_true, true_and]); refine hK _ ?_; clear hK K) | (refine W_ret ?_; simp (disch := omega) only [blockW, thenW, retR, resW, resV, List.getD_cons_succ, List.getD_cons_zero, asOne_one, view_int]) | (refine W_cond rfl (fun h => ?_) (fun h => ?_) <;> (try simp only [cond_true, cond_false, decide_eq_true_eq, decide_eq_false_iff_not, bne_iff_ne, beq_iff_eq, bne_eq_false_iff_eq, beq_eq_false_iff_ne, ne_eq, Nat.not_lt, Nat.not_le, Int.not_lt, Int.not_le, Bool.not_eq_true', Bool.not_eq_false'] at h))))
  · rw [if_neg h0]
    have hp := limbs_len_pos h0
    have hz : (((limbs (val l)).length : Int) == 0) = false := by rw [beq_eq_false_iff_ne]; omega
    simp only [cN, cNat] at hc
    ((refine W_seqV fun K hK => ?_); simp (disch := omega) only [regV_cons, effW_free, opF_fieldAddr, ty27, ev_tmp, List.getD_cons_succ, List.getD_cons_zero, fieldAddrW_ptr, List.length_cons, List.length_nil, Nat.zero_add, Nat.reduceAdd, Nat.reduceLT, ty25, ne_eq, reduceCtorEq, not_false_eq_true, valK_ap, atK_ap, restV_ap, Eff.app, List.set, Eff.wi, Option.map_none, List.nil_append, opF_load, TI.isAgg, Bool.false_eq_true, or_true, objOf, loadW_ptr, loadO_arr, Nat.reduceLeDiff, ofCells, List.drop_succ_cons, List.drop_zero, List.take_succ_cons, List.take_zero, List.headD_cons, if_false, List.cons_append, opF_call, ev_func, List.map_cons, List.map_nil, callF_fn, List.append_nil, opF_len, true_and])
    (refine ⟨by kernel_rfl, rfl, _, hc, ?_⟩; (try simp (disch := omega) only [lenW_sl, u32s_length, valK_ap, atK_ap, restV_ap, Eff.app, List.set, Eff.wi, Option.map_none, List.cons_append, List.nil_append, regV_cons, effW_free, opF_binOp, ty3, ev_tmp, List.getD_cons_succ, List.getD_cons_zero, ev_const, cst_int, binW_eql, opF_assign, regV_nil, sepL, List.not_mem_nil, false_implies, implies_true, true_and]))
    simp (disch := omega) only [hz]
    (refine hK _ ?_; clear hK K)
    (first | refine W_cond rfl (fun h => by cases h) (fun _ => ?_) | refine W_seq (W_cond rfl (fun h => by cases h) (fun _ => ?_)))
    cases neg
    · (repeat' (first | (exfalso; simp at h; done) | (refine W_seqV fun K hK => ?_; (try simp (disch := omega) only [regV_cons, effW_free, opF_fieldAddr, ty27, ev_tmp, List.getD_cons_succ, List.getD_cons_zero, fieldAddrW_ptr, List.length_cons, List.length_nil, Nat.zero_add, Nat.reduceAdd, Nat.reduceLT, ty4, ne_eq, reduceCtorEq, not_false_eq_true, Nat.add_zero, valK_ap, atK_ap, restV_ap, Eff.app, List.set, Eff.wi, Option.map_none, List.nil_append, opF_load, TI.isAgg, Bool.false_eq_true, or_true, objOf, loadW_ptr, loadO_arr, Nat.reduceLeDiff, ofCells, List.drop_zero, List.take_succ_cons, List.take_zero, List.headD_cons, if_false, List.cons_append, opF_assign, regV_nil, sepL, List.not_mem_nil, false_implies, implies_true, true_and, ev_const, cst_int]); refine hK _ ?_; clear hK K) | refine W_skip ?_ | (refine W_ret ?_; simp (disch := omega) only [retR, resW, resV, List.getD_cons_succ, List.getD_cons_zero, asOne_one, view_int]) | (refine W_cond rfl (fun h => ?_) (fun h => ?_) <;> (try simp only [cond_true, cond_false, decide_eq_true_eq, decide_eq_false_iff_not, bne_iff_ne, beq_iff_eq, bne_eq_false_iff_eq, beq_eq_false_iff_ne, ne_eq, Nat.not_lt, Nat.not_le, Int.not_lt, Int.not_le, Bool.not_eq_true', Bool.not_eq_false'] at h))))
      rfl
    · (repeat' (first | (exfalso; simp at h; done) | (refine W_seqV fun K hK => ?_; (try simp (disch := omega) only [regV_cons, effW_free, opF_fieldAddr, ty27, ev_tmp, List.getD_cons_succ, List.getD_cons_zero, fieldAddrW_ptr, List.length_cons, List.length_nil, Nat.zero_add, Nat.reduceAdd, Nat.reduceLT, ty4, ne_eq, reduceCtorEq, not_false_eq_true, Nat.add_zero, valK_ap, atK_ap, restV_ap, Eff.app, List.set, Eff.wi, Option.map_none, List.nil_append, opF_load, TI.isAgg, Bool.false_eq_true, or_true, objOf, loadW_ptr, loadO_arr, Nat.reduceLeDiff, ofCells, List.drop_zero, List.take_succ_cons, List.take_zero, List.headD_cons, if_false, List.cons_append, opF_assign, regV_nil, sepL, List.not_mem_nil, false_implies, implies_true, true_and, Int.reduceNeg, ev_const, cst_int]); refine hK _ ?_; clear hK K) | (refine W_ret ?_; simp (disch := omega) only [blockW, thenW, retR, resW, resV, List.getD_cons_succ, List.getD_cons_zero, asOne_one, view_int]) | (refine W_cond rfl (fun h => ?_) (fun h => ?_) <;> (try simp only [cond_true, cond_false, decide_eq_true_eq, decide_eq_false_iff_not, bne_iff_ne, beq_iff_eq, bne_eq_false_iff_eq, beq_eq_false_iff_ne, ne_eq, Nat.not_lt, Nat.not_le, Int.not_lt, Int.not_le, Bool.not_eq_true', Bool.not_eq_false'] at h))))
      rfl

set_option maxHeartbeats 1000000 in
theorem signed_ok (l : List Nat) (ss : List Int) (h : Limbs l) (hl : l.length < 1099511627776) (hss : ∀ x ∈ ss, sg x) (hsl : ss.length < 100) :
    Pure Try.prog 58 [cNat l, .sl (i64s ss)] (· = cZ (if prodL ss < 0 then -(val l : Int) else val l)) := by
  rw [← cZ_of]
  (refine pureW Try.func58 rfl (rs := [Go.ResultVar.cell 4 27]) rfl (n := 29) rfl ?_; simp only [List.length_cons, List.length_nil, List.replicate, List.cons_append, List.nil_append])
  unfold cNat
  (repeat (refine W_seqV fun K hK => ?_; (try simp (disch := omega) only [regV_cons, effW_free, opF_alloc, dead, List.getElem?_cons_succ, List.getElem?_cons_zero, ty27, ne_eq, reduceCtorEq, not_false_eq_true, List.length_cons, List.length_nil, Nat.zero_add, Nat.reduceAdd, atK_ap, restV_ap, Eff.app, List.set, Eff.wi, Option.map_some, List.nil_append, regV_nil, sepL, List.not_mem_nil, false_implies, implies_true, true_and]); refine hK _ ?_; clear hK K))
  ((refine W_seqV fun K hK => ?_); simp (disch := omega) only [regV_cons, effW_free, opF_move, ev_tmp, List.getD_cons_zero, atK_ap, restV_ap, Eff.app, List.set, Eff.wi, Option.map_none, List.nil_append, opF_call, ev_func, List.map_cons, List.getD_cons_succ, List.map_nil, callF_fn, List.append_nil, List.cons_append, opF_assign, regV_nil, sepL, List.not_mem_nil, false_implies, implies_true, true_and])
  (refine ⟨by kernel_rfl, rfl, _, norm_ok l h hl, ?_⟩; (try simp (disch := omega) only [cN, cNat]))
  (refine hK _ ?_; clear hK K)
  (repeat (refine W_seqV fun K hK => ?_; (try simp (disch := omega) only [regV_cons, effW_free, opF_assign, ev_const, cst_int, atK_ap, restV_ap, Eff.app, List.set, Eff.wi, Option.map_none, List.nil_append, regV_nil, sepL, List.not_mem_nil, false_implies, implies_true, true_and]); refine hK _ ?_; clear hK K))
  refine W_join (fun s' => Le [] s' ⟨[.sl (u32s (limbs (val l))), .any, .any, .any, .ptr 4 0 0, .int .i64 (prodL ss), .any, .any, .any, .any, .any, .any, .any, .any, .any, .any, .any, .any, .any, .any, .any, .any, .any, .any, .any, .any, .any, .any, .any], [.dead, .dead, .dead, .dead, .arr 27 2 false [[.bool false, .nils]], .dead, .dead, .dead, .dead, .dead, .dead, .dead, .dead, .dead, .dead, .dead, .dead, .dead, .dead, .dead, .dead, .dead, .dead, .dead, .dead, .dead, .dead, .dead, .dead]⟩) ?_ ?_
  · (repeat (refine W_seqV fun K hK => ?_; (try simp (disch := omega) only [regV_cons, effW_free, opF_move, ev_tmp, List.getD_cons_succ, List.getD_cons_zero, atK_ap, restV_ap, Eff.app, List.set, Eff.wi, Option.map_none, List.nil_append, opF_len, ty39, lenW_sl, i64s_length, valK_ap, List.cons_append, ev_const, cst_int, regV_nil, sepL, List.not_mem_nil, false_implies, implies_true, true_and]); refine hK _ ?_; clear hK K))
    refine W_block (W_loop (fun t : {t : Nat // t ≤ ss.length} => ⟨[.sl (u32s (limbs (val l))), .any, .any, .any, .ptr 4 0 0, .int .i64 (prodL (ss.take t.1)), .any, .any, .any, .any, .sl (i64s ss), .int .i64 ss.length, .int .i64 t.1, .any, .any, .any, .any, .any, .any, .any, .any, .any, .any, .any, .any, .any, .any, .any, .any], [.dead, .dead, .dead, .dead, .arr 27 2 false [[.bool false, .nils]], .dead, .dead, .dead, .dead, .dead, .dead, .dead, .dead, .dead, .dead, .dead, .dead, .dead, .dead, .dead, .dead, .dead, .dead, .dead, .dead, .dead, .dead, .dead, .dead]⟩) (fun t => ss.length - t.1)
      ⟨0, by omega⟩ (Le_of (by simp [leE, prodL]) rfl) fun t => ?_)
    obtain ⟨i, hi⟩ := t
    dsimp only
    have hw := sg_wrap (sg_mul (sg_prodL (l := ss.take i) fun x hx => hss x (List.mem_of_mem_take hx)) (sg_getD hss i))
    (repeat' (first | refine W_block ?_ | (refine W_seqV fun K hK => ?_; (try simp (disch := omega) only [regV_cons, effW_free, opF_binOp, ty3, ev_tmp, List.getD_cons_succ, List.getD_cons_zero, binW_lss, nat_lt_int, valK_ap, atK_ap, restV_ap, Eff.app, List.set, Eff.wi, Option.map_none, List.nil_append, regV_nil, sepL, List.not_mem_nil, false_implies, implies_true, true_and, opF_indexAddr, ty39, objOf, indexAddrW_sl, ne_eq, reduceCtorEq, not_false_eq_true, nat_nonneg, i64s_length, i64s_all, toNat_natCast, i64s_getD, opF_load, TI.isAgg, Bool.false_eq_true, or_true, loadW_ia, Nat.zero_add, List.length_cons, List.length_nil, Nat.reduceLeDiff, ofCells, List.drop_zero, List.take_succ_cons, List.take_zero, List.headD_cons, if_false, List.cons_append, opF_assign]); (repeat refine And.intro (by omega) ?_); refine hK _ ?_; clear hK K) | (refine W_regV fun K hK => ?_; (try simp (disch := omega) only [regV_cons, effW_free, opF_move, ev_tmp, List.getD_cons_succ, List.getD_cons_zero, atK_ap, restV_ap, Eff.app, List.set, Eff.wi, Option.map_none, List.nil_append, List.cons_append, opF_binOp, ty3, binW_mul, valK_ap, opF_assign, regV_nil, sepL, List.not_mem_nil, false_implies, implies_true, true_and, ev_const, cst_int, binW_add, wrap_i64_one]); refine hK _ ?_; clear hK K) | refine W_skip ?_ | (refine W_exit ?_; simp only [thenW, blockW, if_true, reduceCtorEq, if_false, Nat.reduceEqDiff]) | (refine W_cond rfl (fun h => ?_) (fun h => ?_) <;> (try simp only [cond_true, cond_false, decide_eq_true_eq, decide_eq_false_iff_not, bne_iff_ne, beq_iff_eq, bne_eq_false_iff_eq, beq_eq_false_iff_ne, ne_eq, Nat.not_lt, Nat.not_le, Int.not_lt, Int.not_le, Bool.not_eq_true', Bool.not_eq_false'] at h)) | refine W_seq ?_))
    · simp only [thenW]
      exact ⟨⟨i + 1, by omega⟩, Le_of (by simp [leE, prodL_take (show i < ss.length by omega)]; simpa using hw) rfl, by dsimp only; omega⟩
    · obtain rfl : i = ss.length := by omega
      rw [List.take_length]
      exact Le_of (by simp [leE]) rfl
  rintro s' hle
  refine W.le ?_ hle
  clear hle s'
  by_cases hp : prodL ss < 0
  · have hz : decide (prodL ss < 0) = true := decide_eq_true hp
    ((refine W_seqV fun K hK => ?_); simp (disch := omega) only [regV_cons, effW_free, opF_move, ev_tmp, List.getD_cons_succ, List.getD_cons_zero, atK_ap, restV_ap, Eff.app, List.set, Eff.wi, Option.map_none, List.nil_append, opF_binOp, ty3, ev_const, cst_int, binW_lss, hz, valK_ap, List.cons_append, effW_guard, guardOf, List.getElem?_toArray, List.getElem?_cons_succ, List.getElem?_cons_zero, Option.bind_some, effH_tt, opF_len, ty25, lenW_sl, u32s_length, binW_gtr, gt_iff_lt, Int.natCast_pos, opF_pick, cst_bool, pickW_bool, cond_true, opF_build, ty27, List.map_cons, List.map_nil, buildW_struct, storable, AV.one, List.length_cons, List.length_nil, Nat.zero_add, Nat.reduceAdd, ne_eq, cellsOf, List.forall_mem_cons, Nat.reduceLT, ty4, reduceCtorEq, not_false_eq_true, Nat.reduceLeDiff, and_self, List.not_mem_nil, false_implies, implies_true, laid, List.foldl_cons, List.take_zero, List.drop_succ_cons, List.drop_zero, List.take_succ_cons, List.drop_nil, List.append_nil, List.foldl_nil, opF_store, storeF_ptr, storeO_arr, List.all_cons, List.all_nil, Bool.and_self, Bool.false_eq_true, overlay, wrK_ap, Option.map_some, regV_nil, sepL, true_and])
    (refine hK _ ?_; clear hK K)
    refine W_ret ?_
    simp (disch := omega) only [retR, resW, resV, List.getD_cons_succ, List.getD_cons_zero, asOne_one]; try simp (disch := omega) only [ty27, ne_eq, reduceCtorEq, not_false_eq_true, TI.isAgg, true_or, loadW_ptr, List.getD_cons_succ, List.getD_cons_zero, loadO_arr, List.length_cons, List.length_nil, Nat.zero_add, Nat.reduceLT, Nat.reduceAdd, Nat.reduceLeDiff, ofCells, List.drop_zero, List.take_succ_cons, List.take_zero, List.headD_cons, if_true, view_agg, views_cons, view_bool, view_sl, views_nil, true_and]
    simp only [cI, hz, Bool.true_and, Bool.false_and]
  · have hz : decide (prodL ss < 0) = false := decide_eq_false hp
    ((refine W_seqV fun K hK => ?_); simp (disch := omega) only [regV_cons, effW_free, opF_move, ev_tmp, List.getD_cons_succ, List.getD_cons_zero, atK_ap, restV_ap, Eff.app, List.set, Eff.wi, Option.map_none, List.nil_append, opF_binOp, ty3, ev_const, cst_int, binW_lss, hz, valK_ap, List.cons_append, effW_guard, guardOf, List.getElem?_toArray, List.getElem?_cons_succ, List.getElem?_cons_zero, Option.bind_some, effH_tf, opF_pick, cst_bool, pickW_no, opF_build, ty27, List.map_cons, List.map_nil, buildW_struct, storable, AV.one, List.length_cons, List.length_nil, Nat.zero_add, Nat.reduceAdd, ne_eq, cellsOf, List.forall_mem_cons, Nat.reduceLT, ty4, reduceCtorEq, not_false_eq_true, Nat.reduceLeDiff, and_self, ty25, List.not_mem_nil, false_implies, implies_true, laid, List.foldl_cons, List.take_zero, List.drop_succ_cons, List.drop_zero, List.take_succ_cons, List.drop_nil, List.append_nil, List.foldl_nil, opF_store, storeF_ptr, storeO_arr, List.all_cons, List.all_nil, Bool.and_self, Bool.false_eq_true, overlay, wrK_ap, Option.map_some, regV_nil, sepL, true_and])
    (refine hK _ ?_; clear hK K)
    refine W_ret ?_
    simp (disch := omega) only [retR, resW, resV, List.getD_cons_succ, List.getD_cons_zero, asOne_one]; try simp (disch := omega) only [ty27, ne_eq, reduceCtorEq, not_false_eq_true, TI.isAgg, true_or, loadW_ptr, List.getD_cons_succ, List.getD_cons_zero, loadO_arr, List.length_cons, List.length_nil, Nat.zero_add, Nat.reduceLT, Nat.reduceAdd, Nat.reduceLeDiff, ofCells, List.drop_zero, List.take_succ_cons, List.take_zero, List.headD_cons, if_true, view_agg, views_cons, view_bool, view_sl, views_nil, true_and]
    simp only [cI, hz, Bool.true_and, Bool.false_and]
end Go.Proofs.Ytjkjapjcmbfkgaa.Vm

/-
  Whole numbers: Of, Norm, Neg, Add, Sub, Mul, Cmp.
-/
namespace Go.Proofs.Ytjkjapjcmbfkgaa.Vm
open Go Go.RowKit
set_option linter.unusedVariables false
set_option linter.unusedSimpArgs false
set_option pp.deepTerms false
set_option pp.deepTerms.threshold 8

set_option maxHeartbeats 1000000 in
theorem wneg_ok (neg : Bool) (l : List Nat) (h : Limbs l) (hl : l.length < 1099511627776) : Pure Try.prog 66 [cI neg l] (· = cZ (-(iv neg l))) := by
  have hs := wsign_ok neg l h hl
  have hg := signed_ok l [-1, (iv neg l).sign] h hl (by intro x hx; simp at hx; rcases hx with rfl | rfl; exact .inl rfl; exact sg_sign _) (by simp)
  rw [iv_neg] at hg
  (refine pureW Try.func66 rfl (rs := [Go.ResultVar.cell 2 27]) rfl (n := 9) rfl ?_; simp only [List.length_cons, List.length_nil, List.replicate, List.cons_append, List.nil_append])
  unfold cI
  (repeat (refine W_seqV fun K hK => ?_; (try simp (disch := omega) only [regV_cons, effW_free, opF_box, dead, List.getElem?_cons_succ, List.getElem?_cons_zero, storable, ev_tmp, List.getD_cons_zero, List.all_cons, AV.one, List.all_nil, Bool.and_self, cellsOf, List.length_cons, List.length_nil, Nat.zero_add, Nat.reduceAdd, atK_ap, restV_ap, Eff.app, List.set, Eff.wi, Option.map_some, List.nil_append, opF_alloc, ty27, ne_eq, reduceCtorEq, not_false_eq_true, List.cons_append, regV_nil, sepL, List.not_mem_nil, false_implies, implies_true, true_and]); refine hK _ ?_; clear hK K))
  ((refine W_seqD mixed [] (by kernel_rfl) fun K hK => ?_); simp (disch := omega) only [Int.reduceNeg, regV_cons, effW_free, opF_fieldAddr, ty27, ev_tmp, List.getD_cons_succ, List.getD_cons_zero, fieldAddrW_ptr, List.length_cons, List.length_nil, Nat.zero_add, Nat.reduceAdd, Nat.reduceLT, ty25, ne_eq, reduceCtorEq, not_false_eq_true, valK_ap, atK_ap, restV_ap, Eff.app, List.set, Eff.wi, Option.map_none, List.nil_append, opF_load, TI.isAgg, Bool.false_eq_true, or_true, objOf, loadW_ptr, loadO_arr, Nat.reduceLeDiff, ofCells, List.drop_succ_cons, List.drop_zero, List.take_succ_cons, List.take_zero, List.headD_cons, if_false, List.cons_append, true_or, if_true, opF_call, ev_func, List.map_cons, List.map_nil, callF_fn, List.append_nil, opF_buildSlice, ty39, ev_const, cst_int, litD_slice, dead, List.getElem?_cons_succ, List.getElem?_cons_zero, ty3, range2, Nat.reduceMul, storable, AV.one, cellsOf, List.forall_mem_cons, true_and, List.not_mem_nil, false_implies, implies_true, and_true, opF_store, storeF_ptr, storeO_arr, overlay, wrK_ap, Option.map_some, regV_nil, sepL])
  (refine ⟨by kernel_rfl, rfl, _, hs, ?_⟩; (try simp (disch := omega) only [Int.reduceNeg, List.length_cons, List.length_nil, Nat.zero_add, true_and]); (repeat refine And.intro (by exact ⟨rfl, rfl⟩) ?_))
  (refine ⟨by kernel_rfl, rfl, _, hg, ?_⟩; (try simp (disch := omega) only [cZ, cI, List.all_cons, AV.one, List.all_nil, Bool.and_self, List.length_cons, List.length_nil, Nat.zero_add, Nat.reduceAdd, Int.reduceNeg, List.drop_succ_cons, List.drop_nil, List.append_nil, true_and]))
  (refine hK _ ?_; clear hK K)
  refine W_ret ?_
  simp (disch := omega) only [retR, resW, resV, List.getD_cons_succ, List.getD_cons_zero, asOne_one]; try simp (disch := omega) only [ty27, ne_eq, reduceCtorEq, not_false_eq_true, TI.isAgg, true_or, cZ, cI, loadW_ptr, List.getD_cons_succ, List.getD_cons_zero, loadO_arr, List.length_cons, List.length_nil, Nat.zero_add, Nat.reduceLT, Nat.reduceAdd, Nat.reduceLeDiff, ofCells, List.drop_zero, List.take_succ_cons, List.take_zero, List.headD_cons, if_true, view_agg, views_cons, view_bool, view_sl, views_nil, and_self]

set_option maxHeartbeats 1000000 in
theorem wnorm_ok (neg : Bool) (l : List Nat) (h : Limbs l) (hl : l.length < 1099511627776) : Pure Try.prog 74 [cI neg l] (· = cZ (iv neg l)) := by
  have hs := wsign_ok neg l h hl
  have hg := signed_ok l [(iv neg l).sign] h hl (by intro x hx; simp at hx; subst hx; exact sg_sign _) (by simp)
  rw [iv_norm] at hg
  (refine pureW Try.func74 rfl (rs := [Go.ResultVar.cell 2 27]) rfl (n := 9) rfl ?_; simp only [List.length_cons, List.length_nil, List.replicate, List.cons_append, List.nil_append])
  unfold cI
  (repeat (refine W_seqV fun K hK => ?_; (try simp (disch := omega) only [regV_cons, effW_free, opF_box, dead, List.getElem?_cons_succ, List.getElem?_cons_zero, storable, ev_tmp, List.getD_cons_zero, List.all_cons, AV.one, List.all_nil, Bool.and_self, cellsOf, List.length_cons, List.length_nil, Nat.zero_add, Nat.reduceAdd, atK_ap, restV_ap, Eff.app, List.set, Eff.wi, Option.map_some, List.nil_append, opF_alloc, ty27, ne_eq, reduceCtorEq, not_false_eq_true, List.cons_append, regV_nil, sepL, List.not_mem_nil, false_implies, implies_true, true_and]); refine hK _ ?_; clear hK K))
  ((refine W_seqD mixed [] (by kernel_rfl) fun K hK => ?_); simp (disch := omega) only [regV_cons, effW_free, opF_fieldAddr, ty27, ev_tmp, List.getD_cons_succ, List.getD_cons_zero, fieldAddrW_ptr, List.length_cons, List.length_nil, Nat.zero_add, Nat.reduceAdd, Nat.reduceLT, ty25, ne_eq, reduceCtorEq, not_false_eq_true, valK_ap, atK_ap, restV_ap, Eff.app, List.set, Eff.wi, Option.map_none, List.nil_append, opF_load, TI.isAgg, Bool.false_eq_true, or_true, objOf, loadW_ptr, loadO_arr, Nat.reduceLeDiff, ofCells, List.drop_succ_cons, List.drop_zero, List.take_succ_cons, List.take_zero, List.headD_cons, if_false, List.cons_append, true_or, if_true, opF_call, ev_func, List.map_cons, List.map_nil, callF_fn, List.append_nil, opF_buildSlice, ty39, litD_slice, dead, List.getElem?_cons_succ, List.getElem?_cons_zero, ty3, range1, Nat.reduceMul, storable, AV.one, cellsOf, List.forall_mem_cons, List.not_mem_nil, false_implies, implies_true, and_true, opF_store, storeF_ptr, storeO_arr, overlay, wrK_ap, Option.map_some, regV_nil, sepL, true_and])
  (refine ⟨by kernel_rfl, rfl, _, hs, ?_⟩; (try simp (disch := omega) only [List.length_cons, List.length_nil, Nat.zero_add, true_and]); (repeat (refine And.intro (by show AV.pures _ = true; rfl) ?_)))
  (refine ⟨by kernel_rfl, rfl, _, hg, ?_⟩; (try simp (disch := omega) only [cZ, cI, List.all_cons, AV.one, List.all_nil, Bool.and_self, List.length_cons, List.length_nil, Nat.zero_add, Nat.reduceAdd, List.drop_succ_cons, List.drop_nil, List.append_nil, true_and]))
  (refine hK _ ?_; clear hK K)
  refine W_ret ?_
  simp (disch := omega) only [retR, resW, resV, List.getD_cons_succ, List.getD_cons_zero, asOne_one]; try simp (disch := omega) only [ty27, ne_eq, reduceCtorEq, not_false_eq_true, TI.isAgg, true_or, cZ, cI, loadW_ptr, List.getD_cons_succ, List.getD_cons_zero, loadO_arr, List.length_cons, List.length_nil, Nat.zero_add, Nat.reduceLT, Nat.reduceAdd, Nat.reduceLeDiff, ofCells, List.drop_zero, List.take_succ_cons, List.take_zero, List.headD_cons, if_true, view_agg, views_cons, view_bool, view_sl, views_nil, and_self]

set_option maxHeartbeats 1000000 in
theorem wmul_ok (neg : Bool) (l : List Nat) (h : Limbs l) (hl : l.length < 274877906944) (neg' : Bool) (l' : List Nat) (h' : Limbs l') (hl' : l'.length < 274877906944) : Pure Try.prog 32 [cI neg l, cI neg' l'] (· = cZ (iv neg l * iv neg' l')) := by
  have hs := wsign_ok neg l h (by omega)
  have hs' := wsign_ok neg' l' h' (by omega)
  have hm := nmul_ok l l' h h' hl hl'
  have hml := len_mul (val l) (val l')
  have h1 := limbs_val_length h
  have h2 := limbs_val_length h'
  have hg := signed_ok (limbs (val l * val l')) [(iv neg l).sign, (iv neg' l').sign] (limbs_limbs _) (by omega) (by intro x hx; simp at hx; rcases hx with rfl | rfl <;> exact sg_sign _) (by simp)
  rw [val_limbs, iv_mul] at hg
  (refine pureW Try.func32 rfl (rs := [Go.ResultVar.cell 4 27]) rfl (n := 16) rfl ?_; simp only [List.length_cons, List.length_nil, List.replicate, List.cons_append, List.nil_append])
  unfold cI
  (repeat (refine W_seqV fun K hK => ?_; (try simp (disch := omega) only [regV_cons, effW_free, opF_box, dead, List.getElem?_cons_succ, List.getElem?_cons_zero, storable, ev_tmp, List.getD_cons_zero, List.all_cons, AV.one, List.all_nil, Bool.and_self, cellsOf, List.length_cons, List.length_nil, Nat.zero_add, Nat.reduceAdd, atK_ap, restV_ap, Eff.app, List.set, Eff.wi, Option.map_some, List.nil_append, List.getD_cons_succ, List.cons_append, opF_alloc, ty27, ne_eq, reduceCtorEq, not_false_eq_true, regV_nil, sepL, List.not_mem_nil, false_implies, implies_true, true_and]); refine hK _ ?_; clear hK K))
  ((refine W_seqD mixed [] (by kernel_rfl) fun K hK => ?_); simp (disch := omega) only [regV_cons, effW_free, opF_fieldAddr, ty27, ev_tmp, List.getD_cons_succ, List.getD_cons_zero, fieldAddrW_ptr, List.length_cons, List.length_nil, Nat.zero_add, Nat.reduceAdd, Nat.reduceLT, ty25, ne_eq, reduceCtorEq, not_false_eq_true, valK_ap, atK_ap, restV_ap, Eff.app, List.set, Eff.wi, Option.map_none, List.nil_append, opF_load, TI.isAgg, Bool.false_eq_true, or_true, objOf, loadW_ptr, loadO_arr, Nat.reduceLeDiff, ofCells, List.drop_succ_cons, List.drop_zero, List.take_succ_cons, List.take_zero, List.headD_cons, if_false, List.cons_append, opF_call, ev_func, List.map_cons, List.map_nil, callF_fn, List.append_nil, true_or, if_true, opF_buildSlice, ty39, litD_slice, dead, List.getElem?_cons_succ, List.getElem?_cons_zero, ty3, range2, Nat.reduceMul, storable, AV.one, cellsOf, List.forall_mem_cons, List.not_mem_nil, false_implies, implies_true, and_true, opF_store, storeF_ptr, storeO_arr, overlay, wrK_ap, Option.map_some, regV_nil, sepL, true_and])
  (refine ⟨by kernel_rfl, rfl, _, hm, ?_⟩; (try simp (disch := omega) only [cN, cNat]))
  (refine ⟨by kernel_rfl, rfl, _, hs, ?_⟩; (try simp (disch := omega) only [List.length_cons, List.length_nil, Nat.zero_add, true_and]))
  (refine ⟨by kernel_rfl, rfl, _, hs', ?_⟩; (try simp (disch := omega) only [List.length_cons, List.length_nil, Nat.zero_add, true_and]); (repeat refine And.intro (by exact ⟨rfl, rfl⟩) ?_))
  (refine ⟨by kernel_rfl, rfl, _, hg, ?_⟩; (try simp (disch := omega) only [cZ, cI, List.all_cons, AV.one, List.all_nil, Bool.and_self, List.length_cons, List.length_nil, Nat.zero_add, Nat.reduceAdd, List.drop_succ_cons, List.drop_nil, List.append_nil, true_and]))
  (refine hK _ ?_; clear hK K)
  refine W_ret ?_
  simp (disch := omega) only [retR, resW, resV, List.getD_cons_succ, List.getD_cons_zero, asOne_one]; try simp (disch := omega) only [ty27, ne_eq, reduceCtorEq, not_false_eq_true, TI.isAgg, true_or, cZ, cI, loadW_ptr, List.getD_cons_succ, List.getD_cons_zero, loadO_arr, List.length_cons, List.length_nil, Nat.zero_add, Nat.reduceLT, Nat.reduceAdd, Nat.reduceLeDiff, ofCells, List.drop_zero, List.take_succ_cons, List.take_zero, List.headD_cons, if_true, view_agg, views_cons, view_bool, view_sl, views_nil, and_self]

set_option maxHeartbeats 4000000 in
theorem wadd_ok (neg : Bool) (l : List Nat) (h : Limbs l) (hl : l.length < 274877906944) (neg' : Bool) (l' : List Nat) (h' : Limbs l') (hl' : l'.length < 274877906944) : Pure Try.prog 75 [cI neg l, cI neg' l'] (· = cZ (iv neg l + iv neg' l')) := by
  have hs := wsign_ok neg l h (by omega)
  have hs' := wsign_ok neg' l' h' (by omega)
  have g1 := sg_sign (iv neg l)
  have g2 := sg_sign (iv neg' l')
  have hb := bor_sg g1 g2
  have hw := sg_wrap (sg_mul g1 g2)
  have hla := limbs_val_length h
  have hlb := limbs_val_length h'
  (refine pureW Try.func75 rfl (rs := [Go.ResultVar.cell 4 27]) rfl (n := 60) rfl ?_; simp only [List.length_cons, List.length_nil, List.replicate, List.cons_append, List.nil_append])
  unfold cI
  (repeat (refine W_seqV fun K hK => ?_; (try simp (disch := omega) only [regV_cons, effW_free, opF_box, dead, List.getElem?_cons_succ, List.getElem?_cons_zero, storable, ev_tmp, List.getD_cons_zero, List.all_cons, AV.one, List.all_nil, Bool.and_self, cellsOf, List.length_cons, List.length_nil, Nat.zero_add, Nat.reduceAdd, atK_ap, restV_ap, Eff.app, List.set, Eff.wi, Option.map_some, List.nil_append, List.getD_cons_succ, List.cons_append, opF_alloc, ty27, ne_eq, reduceCtorEq, not_false_eq_true, regV_nil, sepL, List.not_mem_nil, false_implies, implies_true, true_and]); refine hK _ ?_; clear hK K))
  ((refine W_seqD mixed [] (by kernel_rfl) fun K hK => ?_); simp (disch := omega) only [regV_cons, effW_free, opF_load, ty27, ne_eq, reduceCtorEq, not_false_eq_true, TI.isAgg, true_or, ev_tmp, List.getD_cons_succ, List.getD_cons_zero, objOf, loadW_ptr, loadO_arr, List.length_cons, List.length_nil, Nat.zero_add, Nat.reduceLT, Nat.reduceAdd, Nat.reduceLeDiff, ofCells, List.drop_zero, List.take_succ_cons, List.take_zero, List.headD_cons, if_true, valK_ap, atK_ap, restV_ap, Eff.app, List.set, Eff.wi, Option.map_none, List.nil_append, opF_call, ev_func, List.map_cons, List.map_nil, callF_fn, List.append_nil, List.cons_append, opF_assign, regV_nil, sepL, List.not_mem_nil, false_implies, implies_true, true_and])
  (refine ⟨by kernel_rfl, rfl, _, hs, ?_⟩)
  (refine ⟨by kernel_rfl, rfl, _, hs', ?_⟩)
  (refine hK _ ?_; clear hK K)
  by_cases hd : 0 ≤ (iv neg l).sign * (iv neg' l').sign
  · have hz : decide (0 ≤ (iv neg l).sign * (iv neg' l').sign) = true := decide_eq_true hd
    have ha := nadd_ok l l' h h' (by omega) (by omega)
    have hal : (limbs (val l + val l')).length ≤ (limbs (val l)).length + (limbs (val l')).length + 1 := by
      have := zl_add (val l) (val l')
      simpa [zl, ← Int.natCast_add] using this
    have hg := signed_ok (limbs (val l + val l')) [if (iv neg l).sign = -1 ∨ (iv neg' l').sign = -1 then -1 else 1] (limbs_limbs _) (by omega) (by intro x hx; simp only [List.mem_singleton] at hx; subst hx; exact sg_bor) (by simp)
    rw [val_limbs, iv_add_same _ _ _ _ hd] at hg
    refine W_seq ?_
    ((refine W_seqV fun K hK => ?_); simp (disch := omega) only [regV_cons, effW_free, opF_move, ev_tmp, List.getD_cons_succ, List.getD_cons_zero, atK_ap, restV_ap, Eff.app, List.set, Eff.wi, Option.map_none, List.nil_append, List.cons_append, opF_binOp, ty3, binW_mul, hw, valK_ap, ev_const, cst_int, binW_geq, ge_iff_le, hz, regV_nil, sepL, List.not_mem_nil, false_implies, implies_true, true_and])
    (refine hK _ ?_; clear hK K)
    (first | refine W_cond rfl (fun _ => ?_) (fun h => by cases h) | refine W_seq (W_cond rfl (fun _ => ?_) (fun h => by cases h)))
    ((refine W_seqV fun K hK => ?_); simp (disch := omega) only [regV_cons, effW_free, opF_fieldAddr, ty27, ev_tmp, List.getD_cons_succ, List.getD_cons_zero, fieldAddrW_ptr, List.length_cons, List.length_nil, Nat.zero_add, Nat.reduceAdd, Nat.reduceLT, ty25, ne_eq, reduceCtorEq, not_false_eq_true, valK_ap, atK_ap, restV_ap, Eff.app, List.set, Eff.wi, Option.map_none, List.nil_append, opF_load, TI.isAgg, Bool.false_eq_true, or_true, objOf, loadW_ptr, loadO_arr, Nat.reduceLeDiff, ofCells, List.drop_succ_cons, List.drop_zero, List.take_succ_cons, List.take_zero, List.headD_cons, if_false, List.cons_append, opF_call, ev_func, List.map_cons, List.map_nil, callF_fn, List.append_nil, opF_move, opF_binOp, ty3, binW_or, ev_const, cst_int, hb, Int.reduceNeg, opF_buildSlice, ty39, litD_slice, dead, List.getElem?_cons_succ, List.getElem?_cons_zero, range1, Nat.reduceMul, storable, AV.one, cellsOf, List.forall_mem_cons, true_and, List.not_mem_nil, false_implies, implies_true, and_true, opF_store, storeF_ptr, storeO_arr, overlay, wrK_ap, Option.map_some, regV_nil, sepL])
    (refine ⟨by kernel_rfl, rfl, _, ha, ?_⟩; (try simp (disch := omega) only [Int.reduceNeg, cN, cNat]); (repeat (refine And.intro (by show AV.pures _ = true; rfl) ?_)))
    (refine ⟨by kernel_rfl, rfl, _, hg, ?_⟩; (try simp (disch := omega) only [cZ, cI, List.all_cons, AV.one, List.all_nil, Bool.and_self, List.length_cons, List.length_nil, Nat.zero_add, Nat.reduceAdd, Int.reduceNeg, List.drop_succ_cons, List.drop_nil, List.append_nil, true_and]))
    (refine hK _ ?_; clear hK K)
    refine W_ret ?_
    simp (disch := omega) only [thenW, retR, resW, resV, List.getD_cons_succ, List.getD_cons_zero, asOne_one]; try simp (disch := omega) only [ty27, ne_eq, reduceCtorEq, not_false_eq_true, TI.isAgg, true_or, cZ, cI, loadW_ptr, List.getD_cons_succ, List.getD_cons_zero, loadO_arr, List.length_cons, List.length_nil, Nat.zero_add, Nat.reduceLT, Nat.reduceAdd, Nat.reduceLeDiff, ofCells, List.drop_zero, List.take_succ_cons, List.take_zero, List.headD_cons, if_true, view_agg, views_cons, view_bool, view_sl, views_nil, and_self]
  · have hz : decide (0 ≤ (iv neg l).sign * (iv neg' l').sign) = false := decide_eq_false hd
    obtain ⟨e1, e2⟩ := iv_add_diff neg l neg' l' hd
    have hc := ncmp_ok l l' h h' (by omega) (by omega)
    refine W_seq ?_
    ((refine W_seqV fun K hK => ?_); simp (disch := omega) only [regV_cons, effW_free, opF_move, ev_tmp, List.getD_cons_succ, List.getD_cons_zero, atK_ap, restV_ap, Eff.app, List.set, Eff.wi, Option.map_none, List.nil_append, List.cons_append, opF_binOp, ty3, binW_mul, hw, valK_ap, ev_const, cst_int, binW_geq, ge_iff_le, hz, regV_nil, sepL, List.not_mem_nil, false_implies, implies_true, true_and])
    (refine hK _ ?_; clear hK K)
    (first | refine W_cond rfl (fun h => by cases h) (fun _ => ?_) | refine W_seq (W_cond rfl (fun h => by cases h) (fun _ => ?_)))
    refine W_skip ?_
    simp only [thenW]
    by_cases hle : val l' ≤ val l
    · have hz2 := sgn_nn hle
      have hsub := nsub_ok l l' h h' (by omega) (by omega)
      have hsl := limbs_mono (Nat.sub_le (val l) (val l'))
      have hg := signed_ok (limbs (val l - val l')) [(iv neg l).sign] (limbs_limbs _) (by omega) (by intro x hx; simp only [List.mem_singleton] at hx; subst hx; exact g1) (by simp)
      rw [val_limbs, e1 hle] at hg
      refine W_seq ?_
      ((refine W_seqV fun K hK => ?_); simp (disch := omega) only [regV_cons, effW_free, opF_fieldAddr, ty27, ev_tmp, List.getD_cons_succ, List.getD_cons_zero, fieldAddrW_ptr, List.length_cons, List.length_nil, Nat.zero_add, Nat.reduceAdd, Nat.reduceLT, ty25, ne_eq, reduceCtorEq, not_false_eq_true, valK_ap, atK_ap, restV_ap, Eff.app, List.set, Eff.wi, Option.map_none, List.nil_append, opF_load, TI.isAgg, Bool.false_eq_true, or_true, objOf, loadW_ptr, loadO_arr, Nat.reduceLeDiff, ofCells, List.drop_succ_cons, List.drop_zero, List.take_succ_cons, List.take_zero, List.headD_cons, if_false, List.cons_append, opF_call, ev_func, List.map_cons, List.map_nil, callF_fn, List.append_nil, opF_binOp, ty3, ev_const, cst_int, true_and])
      (refine ⟨by kernel_rfl, rfl, _, hc, ?_⟩; (try simp (disch := omega) only [binW_geq, ge_iff_le, valK_ap, atK_ap, restV_ap, Eff.app, List.set, Eff.wi, Option.map_none, List.cons_append, List.nil_append, regV_nil, sepL, List.not_mem_nil, false_implies, implies_true, true_and]))
      simp (disch := omega) only [hz2]
      (refine hK _ ?_; clear hK K)
      (first | refine W_cond rfl (fun _ => ?_) (fun h => by cases h) | refine W_seq (W_cond rfl (fun _ => ?_) (fun h => by cases h)))
      ((refine W_seqV fun K hK => ?_); simp (disch := omega) only [regV_cons, effW_free, opF_fieldAddr, ty27, ev_tmp, List.getD_cons_succ, List.getD_cons_zero, fieldAddrW_ptr, List.length_cons, List.length_nil, Nat.zero_add, Nat.reduceAdd, Nat.reduceLT, ty25, ne_eq, reduceCtorEq, not_false_eq_true, valK_ap, atK_ap, restV_ap, Eff.app, List.set, Eff.wi, Option.map_none, List.nil_append, opF_load, TI.isAgg, Bool.false_eq_true, or_true, objOf, loadW_ptr, loadO_arr, Nat.reduceLeDiff, ofCells, List.drop_succ_cons, List.drop_zero, List.take_succ_cons, List.take_zero, List.headD_cons, if_false, List.cons_append, opF_call, ev_func, List.map_cons, List.map_nil, callF_fn, List.append_nil, opF_move, opF_extract, true_and])
      (refine ⟨by kernel_rfl, rfl, _, hsub, ?_⟩; (try simp (disch := omega) only [cN, cNat, extractW_tup, List.length_cons, List.length_nil, Nat.zero_add, Nat.reduceAdd, Nat.reduceLT, List.getD_cons_zero, valK_ap, atK_ap, restV_ap, Eff.app, List.set, Eff.wi, Option.map_none, List.cons_append, List.nil_append, regV_cons, effW_free, opF_extract, ev_tmp, List.getD_cons_succ, opF_assign, regV_nil, sepL, List.not_mem_nil, false_implies, implies_true, true_and]))
      (refine hK _ ?_; clear hK K)
      ((refine W_seqV fun K hK => ?_); simp (disch := omega) only [regV_cons, effW_free, opF_move, ev_tmp, List.getD_cons_succ, List.getD_cons_zero, atK_ap, restV_ap, Eff.app, List.set, Eff.wi, Option.map_none, List.nil_append, List.cons_append, opF_buildSlice, ty39, List.map_cons, List.map_nil, litD_slice, dead, List.getElem?_cons_succ, List.getElem?_cons_zero, ty3, ne_eq, reduceCtorEq, not_false_eq_true, List.length_cons, List.length_nil, Nat.zero_add, range1, Nat.reduceMul, Nat.reduceLeDiff, storable, AV.one, cellsOf, List.forall_mem_cons, true_and, List.not_mem_nil, false_implies, implies_true, and_true, valK_ap, opF_call, ev_func, callF_fn, List.append_nil, opF_store, ty27, storeF_ptr, storeO_arr, Bool.false_eq_true, Nat.reduceLT, Nat.reduceAdd, overlay, List.take_zero, wrK_ap, Option.map_some, regV_nil, sepL])
      ((repeat (refine And.intro (by show AV.pures _ = true; rfl) ?_)); refine ⟨by kernel_rfl, rfl, _, hg, ?_⟩; (try simp (disch := omega) only [cZ, cI, List.all_cons, AV.one, List.all_nil, Bool.and_self, List.length_cons, List.length_nil, Nat.zero_add, Nat.reduceAdd, List.drop_succ_cons, List.drop_nil, List.append_nil, true_and]))
      (refine hK _ ?_; clear hK K)
      refine W_ret ?_
      simp (disch := omega) only [thenW, retR, resW, resV, sgn, List.getD_cons_succ, List.getD_cons_zero, asOne_one]; try simp (disch := omega) only [ty27, ne_eq, reduceCtorEq, not_false_eq_true, TI.isAgg, true_or, cZ, cI, loadW_ptr, List.getD_cons_succ, List.getD_cons_zero, loadO_arr, List.length_cons, List.length_nil, Nat.zero_add, Nat.reduceLT, Nat.reduceAdd, Nat.reduceLeDiff, ofCells, List.drop_zero, List.take_succ_cons, List.take_zero, List.headD_cons, if_true, view_agg, views_cons, view_bool, view_sl, views_nil, and_self]
    · have hz2 := sgn_ng hle
      have hsub := nsub_ok l' l h' h (by omega) (by omega)
      have hsl := limbs_mono (Nat.sub_le (val l') (val l))
      have hg := signed_ok (limbs (val l' - val l)) [(iv neg' l').sign] (limbs_limbs _) (by omega) (by intro x hx; simp only [List.mem_singleton] at hx; subst hx; exact g2) (by simp)
      rw [val_limbs, e2 (by omega)] at hg
      refine W_seq ?_
      ((refine W_seqV fun K hK => ?_); simp (disch := omega) only [regV_cons, effW_free, opF_fieldAddr, ty27, ev_tmp, List.getD_cons_succ, List.getD_cons_zero, fieldAddrW_ptr, List.length_cons, List.length_nil, Nat.zero_add, Nat.reduceAdd, Nat.reduceLT, ty25, ne_eq, reduceCtorEq, not_false_eq_true, valK_ap, atK_ap, restV_ap, Eff.app, List.set, Eff.wi, Option.map_none, List.nil_append, opF_load, TI.isAgg, Bool.false_eq_true, or_true, objOf, loadW_ptr, loadO_arr, Nat.reduceLeDiff, ofCells, List.drop_succ_cons, List.drop_zero, List.take_succ_cons, List.take_zero, List.headD_cons, if_false, List.cons_append, opF_call, ev_func, List.map_cons, List.map_nil, callF_fn, List.append_nil, opF_binOp, ty3, ev_const, cst_int, true_and])
      (refine ⟨by kernel_rfl, rfl, _, hc, ?_⟩; (try simp (disch := omega) only [binW_geq, ge_iff_le, valK_ap, atK_ap, restV_ap, Eff.app, List.set, Eff.wi, Option.map_none, List.cons_append, List.nil_append, regV_nil, sepL, List.not_mem_nil, false_implies, implies_true, true_and]))
      simp (disch := omega) only [hz2]
      (refine hK _ ?_; clear hK K)
      (first | refine W_cond rfl (fun h => by cases h) (fun _ => ?_) | refine W_seq (W_cond rfl (fun h => by cases h) (fun _ => ?_)))
      refine W_skip ?_
      simp only [thenW]
      ((refine W_seqV fun K hK => ?_); simp (disch := omega) only [regV_cons, effW_free, opF_fieldAddr, ty27, ev_tmp, List.getD_cons_succ, List.getD_cons_zero, fieldAddrW_ptr, List.length_cons, List.length_nil, Nat.zero_add, Nat.reduceAdd, Nat.reduceLT, ty25, ne_eq, reduceCtorEq, not_false_eq_true, valK_ap, atK_ap, restV_ap, Eff.app, List.set, Eff.wi, Option.map_none, List.nil_append, opF_load, TI.isAgg, Bool.false_eq_true, or_true, objOf, loadW_ptr, loadO_arr, Nat.reduceLeDiff, ofCells, List.drop_succ_cons, List.drop_zero, List.take_succ_cons, List.take_zero, List.headD_cons, if_false, List.cons_append, opF_call, ev_func, List.map_cons, List.map_nil, callF_fn, List.append_nil, opF_move, opF_extract, true_and])
      (refine ⟨by kernel_rfl, rfl, _, hsub, ?_⟩; (try simp (disch := omega) only [cN, cNat, extractW_tup, List.length_cons, List.length_nil, Nat.zero_add, Nat.reduceAdd, Nat.reduceLT, List.getD_cons_zero, valK_ap, atK_ap, restV_ap, Eff.app, List.set, Eff.wi, Option.map_none, List.cons_append, List.nil_append, regV_cons, effW_free, opF_extract, ev_tmp, List.getD_cons_succ, opF_assign, regV_nil, sepL, List.not_mem_nil, false_implies, implies_true, true_and]))
      (refine hK _ ?_; clear hK K)
      ((refine W_seqV fun K hK => ?_); simp (disch := omega) only [regV_cons, effW_free, opF_move, ev_tmp, List.getD_cons_succ, List.getD_cons_zero, atK_ap, restV_ap, Eff.app, List.set, Eff.wi, Option.map_none, List.nil_append, List.cons_append, opF_buildSlice, ty39, List.map_cons, List.map_nil, litD_slice, dead, List.getElem?_cons_succ, List.getElem?_cons_zero, ty3, ne_eq, reduceCtorEq, not_false_eq_true, List.length_cons, List.length_nil, Nat.zero_add, range1, Nat.reduceMul, Nat.reduceLeDiff, storable, AV.one, cellsOf, List.forall_mem_cons, true_and, List.not_mem_nil, false_implies, implies_true, and_true, valK_ap, opF_call, ev_func, callF_fn, List.append_nil, opF_store, ty27, storeF_ptr, storeO_arr, Bool.false_eq_true, Nat.reduceLT, Nat.reduceAdd, overlay, List.take_zero, wrK_ap, Option.map_some, regV_nil, sepL])
      ((repeat (refine And.intro (by show AV.pures _ = true; rfl) ?_)); refine ⟨by kernel_rfl, rfl, _, hg, ?_⟩; (try simp (disch := omega) only [cZ, cI, List.all_cons, AV.one, List.all_nil, Bool.and_self, List.length_cons, List.length_nil, Nat.zero_add, Nat.reduceAdd, List.drop_succ_cons, List.drop_nil, List.append_nil, true_and]))
      (refine hK _ ?_; clear hK K)
      refine W_ret ?_
      simp (disch := omega) only [retR, resW, resV, sgn, List.getD_cons_succ, List.getD_cons_zero, asOne_one]; try simp (disch := omega) only [ty27, ne_eq, reduceCtorEq, not_false_eq_true, TI.isAgg, true_or, cZ, cI, loadW_ptr, List.getD_cons_succ, List.getD_cons_zero, loadO_arr, List.length_cons, List.length_nil, Nat.zero_add, Nat.reduceLT, Nat.reduceAdd, Nat.reduceLeDiff, ofCells, List.drop_zero, List.take_succ_cons, List.take_zero, List.headD_cons, if_true, view_agg, views_cons, view_bool, view_sl, views_nil, and_self]

set_option maxHeartbeats 1000000 in
theorem wsub_ok (neg : Bool) (l : List Nat) (h : Limbs l) (hl : l.length < 274877906944) (neg' : Bool) (l' : List Nat) (h' : Limbs l') (hl' : l'.length < 274877906944) : Pure Try.prog 57 [cI neg l, cI neg' l'] (· = cZ (iv neg l - iv neg' l')) := by
  have hn := wneg_ok neg' l' h' (by omega)
  have hlb := limbs_val_length h'
  have ha := wadd_ok neg l h hl (decide (-(iv neg' l') < 0)) (limbs (-(iv neg' l')).natAbs) (limbs_limbs _) (by rw [Int.natAbs_neg, iv_abs]; omega)
  rw [iv_cZ, ← Int.sub_eq_add_neg] at ha
  (refine pureW Try.func57 rfl (rs := [Go.ResultVar.cell 4 27]) rfl (n := 9) rfl ?_; simp only [List.length_cons, List.length_nil, List.replicate, List.cons_append, List.nil_append])
  unfold cI
  (repeat (refine W_seqV fun K hK => ?_; (try simp (disch := omega) only [regV_cons, effW_free, opF_box, dead, List.getElem?_cons_succ, List.getElem?_cons_zero, storable, ev_tmp, List.getD_cons_zero, List.all_cons, AV.one, List.all_nil, Bool.and_self, cellsOf, List.length_cons, List.length_nil, Nat.zero_add, Nat.reduceAdd, atK_ap, restV_ap, Eff.app, List.set, Eff.wi, Option.map_some, List.nil_append, List.getD_cons_succ, List.cons_append, opF_alloc, ty27, ne_eq, reduceCtorEq, not_false_eq_true, regV_nil, sepL, List.not_mem_nil, false_implies, implies_true, true_and]); refine hK _ ?_; clear hK K))
  ((refine W_seqD mixed [] (by kernel_rfl) fun K hK => ?_); simp (disch := omega) only [regV_cons, effW_free, opF_load, ty27, ne_eq, reduceCtorEq, not_false_eq_true, TI.isAgg, true_or, ev_tmp, List.getD_cons_succ, List.getD_cons_zero, objOf, loadW_ptr, loadO_arr, List.length_cons, List.length_nil, Nat.zero_add, Nat.reduceLT, Nat.reduceAdd, Nat.reduceLeDiff, ofCells, List.drop_zero, List.take_succ_cons, List.take_zero, List.headD_cons, if_true, valK_ap, atK_ap, restV_ap, Eff.app, List.set, Eff.wi, Option.map_none, List.nil_append, List.cons_append, opF_call, ev_func, List.map_cons, List.map_nil, callF_fn, List.append_nil, opF_store, storeF_ptr, storeO_arr, storable, AV.one, cellsOf, Bool.false_eq_true, false_implies, overlay, wrK_ap, Option.map_some, regV_nil, sepL, List.not_mem_nil, implies_true, true_and])
  (refine ⟨by kernel_rfl, rfl, _, hn, ?_⟩; (try simp (disch := omega) only [cZ, cI]))
  (refine ⟨by kernel_rfl, rfl, _, ha, ?_⟩; (try simp (disch := omega) only [cZ, cI, List.all_cons, AV.one, List.all_nil, Bool.and_self, List.length_cons, List.length_nil, Nat.zero_add, Nat.reduceAdd, List.drop_succ_cons, List.drop_nil, List.append_nil, true_and]))
  (refine hK _ ?_; clear hK K)
  refine W_ret ?_
  simp (disch := omega) only [retR, resW, resV, List.getD_cons_succ, List.getD_cons_zero, asOne_one]; try simp (disch := omega) only [ty27, ne_eq, reduceCtorEq, not_false_eq_true, TI.isAgg, true_or, cZ, cI, loadW_ptr, List.getD_cons_succ, List.getD_cons_zero, loadO_arr, List.length_cons, List.length_nil, Nat.zero_add, Nat.reduceLT, Nat.reduceAdd, Nat.reduceLeDiff, ofCells, List.drop_zero, List.take_succ_cons, List.take_zero, List.headD_cons, if_true, view_agg, views_cons, view_bool, view_sl, views_nil, and_self]

set_option maxHeartbeats 1000000 in
theorem wcmp_ok (neg : Bool) (l : List Nat) (h : Limbs l) (hl : l.length < 274877906944) (neg' : Bool) (l' : List Nat) (h' : Limbs l') (hl' : l'.length < 274877906944) : Pure Try.prog 31 [cI neg l, cI neg' l'] (· = .int .i64 (iv neg l - iv neg' l').sign) := by
  have hs := wsub_ok neg l h hl neg' l' h' hl'
  have h1 := limbs_val_length h
  have h2 := limbs_val_length h'
  have hz := zl_add (iv neg l) (-(iv neg' l'))
  rw [zl_neg, ← Int.sub_eq_add_neg] at hz
  simp only [zl, iv_abs] at hz
  have hg := wsign_ok (decide (iv neg l - iv neg' l' < 0)) (limbs (iv neg l - iv neg' l').natAbs) (limbs_limbs _) (by omega)
  rw [iv_cZ] at hg
  (refine pureW Try.func31 rfl (rs := [Go.ResultVar.tmp 4]) rfl (n := 9) rfl ?_; simp only [List.length_cons, List.length_nil, List.replicate, List.cons_append, List.nil_append])
  unfold cI
  (repeat (refine W_seqV fun K hK => ?_; (try simp (disch := omega) only [regV_cons, effW_free, opF_box, dead, List.getElem?_cons_succ, List.getElem?_cons_zero, storable, ev_tmp, List.getD_cons_zero, List.all_cons, AV.one, List.all_nil, Bool.and_self, cellsOf, List.length_cons, List.length_nil, Nat.zero_add, Nat.reduceAdd, atK_ap, restV_ap, Eff.app, List.set, Eff.wi, Option.map_some, List.nil_append, List.getD_cons_succ, List.cons_append, opF_assign, ev_const, cst_int, Option.map_none, regV_nil, sepL, List.not_mem_nil, false_implies, implies_true, true_and]); refine hK _ ?_; clear hK K))
  ((refine W_seqV fun K hK => ?_); simp (disch := omega) only [regV_cons, effW_free, opF_load, ty27, ne_eq, reduceCtorEq, not_false_eq_true, TI.isAgg, true_or, ev_tmp, List.getD_cons_succ, List.getD_cons_zero, objOf, loadW_ptr, loadO_arr, List.length_cons, List.length_nil, Nat.zero_add, Nat.reduceLT, Nat.reduceAdd, Nat.reduceLeDiff, ofCells, List.drop_zero, List.take_succ_cons, List.take_zero, List.headD_cons, if_true, valK_ap, atK_ap, restV_ap, Eff.app, List.set, Eff.wi, Option.map_none, List.nil_append, List.cons_append, opF_call, ev_func, List.map_cons, List.map_nil, callF_fn, List.append_nil, opF_assign, regV_nil, sepL, List.not_mem_nil, false_implies, implies_true, true_and])
  (refine ⟨by kernel_rfl, rfl, _, hs, ?_⟩; (try simp (disch := omega) only [cZ, cI]))
  (refine ⟨by kernel_rfl, rfl, _, hg, ?_⟩)
  (refine hK _ ?_; clear hK K)
  refine W_ret ?_
  simp (disch := omega) only [retR, resW, resV, List.getD_cons_succ, List.getD_cons_zero, asOne_one, view_int]
theorem wrap_u64_neg {n : Int} (h : n < 0) (h2 : -9223372036854775808 ≤ n) : IntKind.wrap .u64 (0 - IntKind.wrap .u64 n) = ((n.natAbs : Nat) : Int) := by
  unfold IntKind.wrap
  simp [IntKind.bits, IntKind.signed]
  omega
set_option maxHeartbeats 1000000 in
theorem wof_ok (n : Int) (h1 : -9223372036854775808 ≤ n) (h2 : n < 9223372036854775808) : Pure Try.prog 60 [.int .i64 n] (· = cZ n) := by
  have ho := of_ok n.natAbs (by omega)
  have hl : (limbs n.natAbs).length ≤ 2 := len_le (by omega)
  by_cases h0 : n < 0
  · have hw := wrap_u64_neg h0 h1
    have hg := signed_ok (limbs n.natAbs) [-1] (limbs_limbs _) (by omega) (by intro x hx; simp only [List.mem_singleton] at hx; subst hx; exact .inl rfl) (by simp)
    rw [val_limbs, show (if prodL [-1] < 0 then -(n.natAbs : Int) else (n.natAbs : Int)) = n by rw [if_pos (by decide)]; omega] at hg
    have hz : decide (n < 0) = true := decide_eq_true h0
    (refine pureW Try.func60 rfl (rs := [Go.ResultVar.cell 2 27]) rfl (n := 15) rfl ?_; simp only [List.length_cons, List.length_nil, List.replicate, List.cons_append, List.nil_append])
    (repeat (refine W_seqV fun K hK => ?_; (try simp (disch := omega) only [regV_cons, effW_free, opF_alloc, dead, List.getElem?_cons_succ, List.getElem?_cons_zero, ty27, ne_eq, reduceCtorEq, not_false_eq_true, List.length_cons, List.length_nil, Nat.zero_add, Nat.reduceAdd, atK_ap, restV_ap, Eff.app, List.set, Eff.wi, Option.map_some, List.nil_append, regV_nil, sepL, List.not_mem_nil, false_implies, implies_true, true_and]); refine hK _ ?_; clear hK K))
    refine W_seq ?_
    ((refine W_seqV fun K hK => ?_); simp (disch := omega) only [regV_cons, effW_free, opF_move, ev_tmp, List.getD_cons_zero, atK_ap, restV_ap, Eff.app, List.set, Eff.wi, Option.map_none, List.nil_append, opF_binOp, ty2, List.getD_cons_succ, ev_const, cst_int, binW_lss, hz, valK_ap, List.cons_append, regV_nil, sepL, List.not_mem_nil, false_implies, implies_true, true_and])
    (refine hK _ ?_; clear hK K)
    (first | refine W_cond rfl (fun _ => ?_) (fun h => by cases h) | refine W_seq (W_cond rfl (fun _ => ?_) (fun h => by cases h)))
    ((refine W_seqV fun K hK => ?_); simp (disch := omega) only [Int.reduceNeg, regV_cons, effW_free, opF_move, ev_tmp, List.getD_cons_zero, atK_ap, restV_ap, Eff.app, List.set, Eff.wi, Option.map_none, List.nil_append, opF_convert, ty2, ty71, List.getD_cons_succ, convW_int, valK_ap, List.cons_append, opF_unOp, unW_neg, hw, opF_call, ev_func, List.map_cons, List.map_nil, callF_fn, List.append_nil, opF_buildSlice, ty39, ev_const, cst_int, litD_slice, dead, List.getElem?_cons_succ, List.getElem?_cons_zero, ty3, ne_eq, reduceCtorEq, not_false_eq_true, List.length_cons, List.length_nil, Nat.zero_add, range1, Nat.reduceMul, Nat.reduceLeDiff, storable, AV.one, cellsOf, List.forall_mem_cons, true_and, List.not_mem_nil, false_implies, implies_true, and_true, opF_store, ty27, storeF_ptr, storeO_arr, Bool.false_eq_true, Nat.reduceLT, Nat.reduceAdd, overlay, List.take_zero, wrK_ap, Option.map_some, regV_nil, sepL])
    (refine ⟨by kernel_rfl, rfl, _, ho, ?_⟩; (try simp (disch := omega) only [Int.reduceNeg, cN, cNat]); (repeat (refine And.intro (by show AV.pures _ = true; rfl) ?_)))
    (refine ⟨by kernel_rfl, rfl, _, hg, ?_⟩; (try simp (disch := omega) only [cZ, cI, List.all_cons, AV.one, List.all_nil, Bool.and_self, List.length_cons, List.length_nil, Nat.zero_add, Nat.reduceAdd, Int.reduceNeg, List.drop_succ_cons, List.drop_nil, List.append_nil, true_and]))
    (refine hK _ ?_; clear hK K)
    refine W_ret ?_
    simp (disch := omega) only [thenW, retR, resW, resV, List.getD_cons_succ, List.getD_cons_zero, asOne_one]; try simp (disch := omega) only [ty27, ne_eq, reduceCtorEq, not_false_eq_true, TI.isAgg, true_or, cZ, cI, loadW_ptr, List.getD_cons_succ, List.getD_cons_zero, loadO_arr, List.length_cons, List.length_nil, Nat.zero_add, Nat.reduceLT, Nat.reduceAdd, Nat.reduceLeDiff, ofCells, List.drop_zero, List.take_succ_cons, List.take_zero, List.headD_cons, if_true, view_agg, views_cons, view_bool, view_sl, views_nil, and_self]
  · have hw : IntKind.wrap .u64 n = ((n.natAbs : Nat) : Int) := by rw [wrap_u64 (by omega) (by omega)]; omega
    have hg := signed_ok (limbs n.natAbs) [] (limbs_limbs _) (by omega) (by intro x hx; cases hx) (by simp)
    rw [val_limbs, show (if prodL [] < 0 then -(n.natAbs : Int) else (n.natAbs : Int)) = n by rw [if_neg (by decide)]; omega] at hg
    have hz : decide (n < 0) = false := decide_eq_false h0
    (refine pureW Try.func60 rfl (rs := [Go.ResultVar.cell 2 27]) rfl (n := 15) rfl ?_; simp only [List.length_cons, List.length_nil, List.replicate, List.cons_append, List.nil_append])
    (repeat (refine W_seqV fun K hK => ?_; (try simp (disch := omega) only [regV_cons, effW_free, opF_alloc, dead, List.getElem?_cons_succ, List.getElem?_cons_zero, ty27, ne_eq, reduceCtorEq, not_false_eq_true, List.length_cons, List.length_nil, Nat.zero_add, Nat.reduceAdd, atK_ap, restV_ap, Eff.app, List.set, Eff.wi, Option.map_some, List.nil_append, regV_nil, sepL, List.not_mem_nil, false_implies, implies_true, true_and]); refine hK _ ?_; clear hK K))
    refine W_seq ?_
    ((refine W_seqV fun K hK => ?_); simp (disch := omega) only [regV_cons, effW_free, opF_move, ev_tmp, List.getD_cons_zero, atK_ap, restV_ap, Eff.app, List.set, Eff.wi, Option.map_none, List.nil_append, opF_binOp, ty2, List.getD_cons_succ, ev_const, cst_int, binW_lss, hz, valK_ap, List.cons_append, regV_nil, sepL, List.not_mem_nil, false_implies, implies_true, true_and])
    (refine hK _ ?_; clear hK K)
    (first | refine W_cond rfl (fun h => by cases h) (fun _ => ?_) | refine W_seq (W_cond rfl (fun h => by cases h) (fun _ => ?_)))
    refine W_skip ?_
    simp only [thenW]
    ((refine W_seqV fun K hK => ?_); simp (disch := omega) only [regV_cons, effW_free, opF_move, ev_tmp, List.getD_cons_zero, atK_ap, restV_ap, Eff.app, List.set, Eff.wi, Option.map_none, List.nil_append, opF_convert, ty2, ty71, List.getD_cons_succ, convW_int, hw, valK_ap, List.cons_append, opF_call, ev_func, List.map_cons, List.map_nil, callF_fn, List.append_nil, ev_const, cst_nils, opF_store, ty27, ne_eq, reduceCtorEq, not_false_eq_true, storeF_ptr, storeO_arr, storable, AV.one, cellsOf, Bool.false_eq_true, false_implies, List.length_cons, List.length_nil, Nat.zero_add, Nat.reduceLT, Nat.reduceAdd, Nat.reduceLeDiff, overlay, List.take_zero, wrK_ap, Option.map_some, regV_nil, sepL, List.not_mem_nil, implies_true, true_and])
    (refine ⟨by kernel_rfl, rfl, _, ho, ?_⟩; (try simp (disch := omega) only [cN, cNat]))
    (refine ⟨by kernel_rfl, rfl, _, hg, ?_⟩; (try simp (disch := omega) only [cZ, cI, List.all_cons, AV.one, List.all_nil, Bool.and_self, List.length_cons, List.length_nil, Nat.zero_add, Nat.reduceAdd, List.drop_succ_cons, List.drop_nil, List.append_nil, true_and]))
    (refine hK _ ?_; clear hK K)
    refine W_ret ?_
    simp (disch := omega) only [retR, resW, resV, List.getD_cons_succ, List.getD_cons_zero, asOne_one]; try simp (disch := omega) only [ty27, ne_eq, reduceCtorEq, not_false_eq_true, TI.isAgg, true_or, cZ, cI, loadW_ptr, List.getD_cons_succ, List.getD_cons_zero, loadO_arr, List.length_cons, List.length_nil, Nat.zero_add, Nat.reduceLT, Nat.reduceAdd, Nat.reduceLeDiff, ofCells, List.drop_zero, List.take_succ_cons, List.take_zero, List.headD_cons, if_true, view_agg, views_cons, view_bool, view_sl, views_nil, and_self]
end Go.Proofs.Ytjkjapjcmbfkgaa.Vm

/-
  Rational numbers as sign and limbs; how long they are.
-/
namespace Go.Proofs.Ytjkjapjcmbfkgaa.Vm
open Go Go.RowKit
set_option linter.unusedVariables false
set_option linter.unusedSimpArgs false

/-- A rational number as it is handed in. -/
structure RR where
  neg : Bool
  num : List Nat
  den : List Nat
def RR.av (r : RR) : AV := .agg [.bool r.neg, .sl (u32s r.num), .sl (u32s r.den)]
def RR.v (r : RR) : Rat := mkRat (iv r.neg r.num) (val r.den)
structure RR.ok (r : RR) : Prop where
  num : Limbs r.num
  den : Limbs r.den
  nl : r.num.length < 17179869184
  dl : r.den.length < 17179869184
/-- A rational number in lowest terms. -/
def qr (q : Rat) : RR := ⟨decide (q.num < 0), limbs q.num.natAbs, limbs q.den⟩
def cQ (q : Rat) : AV := .agg [.bool (decide (q.num < 0)), .sl (u32s (limbs q.num.natAbs)), .sl (u32s (limbs q.den))]
theorem qr_av (q : Rat) : (qr q).av = cQ q := rfl
theorem qr_v (q : Rat) : (qr q).v = q := by
  unfold RR.v qr
  dsimp only
  rw [iv_cZ, val_limbs, Rat.mkRat_self]

/-! ### how long -/
def H (q : Rat) : Nat := q.num.natAbs + q.den
def nb (q : Rat) : Nat := Nat.log2 (H q) + 1
theorem H_pos (q : Rat) : 0 < H q := by have := q.den_pos; unfold H; omega
theorem H_lt (q : Rat) : H q < 2 ^ nb q := Nat.lt_log2_self
theorem nb_le {q : Rat} {k : Nat} (h : H q < 2 ^ k) : nb q ≤ k := by
  have := (Nat.log2_lt (Nat.ne_of_gt (H_pos q))).2 h
  unfold nb; omega
theorem H_mkRat (n : Int) {d : Nat} (hd : d ≠ 0) : H (mkRat n d) ≤ n.natAbs + d := by
  unfold H
  rw [Rat.num_mkRat, Rat.den_mkRat, if_neg hd, if_neg hd]
  have h1 : (n / ((d.gcd n.natAbs : Nat) : Int)).natAbs = n.natAbs / d.gcd n.natAbs := by
    rw [Int.natAbs_ediv_of_dvd, Int.natAbs_natCast]
    rw [← Int.dvd_natAbs, Int.ofNat_dvd]
    exact Nat.gcd_dvd_right _ _
  rw [h1]
  have h2 := Nat.div_le_self n.natAbs (d.gcd n.natAbs)
  have h3 := Nat.div_le_self d (d.gcd n.natAbs)
  omega
theorem nb_of {q : Rat} {x y k l : Nat} (h : H q ≤ x * y) (hx : x < 2 ^ k) (hy : y < 2 ^ l) : nb q ≤ k + l := by
  refine nb_le (Nat.lt_of_le_of_lt h ?_)
  rw [Nat.pow_add]
  exact Nat.mul_lt_mul_of_lt_of_le hx (Nat.le_of_lt hy) (Nat.pow_pos (by omega))
theorem natAbs_add_le (a b : Int) : (a + b).natAbs ≤ a.natAbs + b.natAbs := by omega
theorem H_add (a b : Rat) : H (a + b) ≤ H a * H b := by
  rw [Rat.add_def']
  refine Nat.le_trans (H_mkRat _ (Nat.mul_ne_zero a.den_nz b.den_nz)) ?_
  have := natAbs_add_le (a.num * b.den) (b.num * a.den)
  rw [Int.natAbs_mul, Int.natAbs_mul, Int.natAbs_natCast, Int.natAbs_natCast] at this
  unfold H
  rw [Nat.add_mul, Nat.mul_add, Nat.mul_add]
  have h1 : b.num.natAbs * a.den = a.den * b.num.natAbs := Nat.mul_comm _ _
  omega
theorem nb_add (a b : Rat) : nb (a + b) ≤ nb a + nb b := nb_of (H_add a b) (H_lt a) (H_lt b)
theorem H_neg (a : Rat) : H (-a) = H a := by unfold H; simp
theorem nb_neg (a : Rat) : nb (-a) = nb a := by unfold nb; rw [H_neg]
theorem nb_sub (a b : Rat) : nb (a - b) ≤ nb a + nb b := by rw [Rat.sub_eq_add_neg]; have := nb_add a (-b); rwa [nb_neg] at this
theorem H_mul (a b : Rat) : H (a * b) ≤ H a * H b := by
  rw [Rat.mul_def']
  refine Nat.le_trans (H_mkRat _ (Nat.mul_ne_zero a.den_nz b.den_nz)) ?_
  rw [Int.natAbs_mul]
  unfold H
  rw [Nat.add_mul, Nat.mul_add, Nat.mul_add]
  omega
theorem nb_mul (a b : Rat) : nb (a * b) ≤ nb a + nb b := nb_of (H_mul a b) (H_lt a) (H_lt b)
theorem H_inv (a : Rat) : H a⁻¹ = H a := by
  unfold H
  rw [Rat.num_inv, Rat.den_inv, Int.natAbs_mul, Int.natAbs_natCast]
  by_cases h : a.num = 0
  · have : a = 0 := Rat.num_eq_zero.1 h
    subst this; rfl
  · rw [if_neg h, Int.natAbs_sign_of_ne_zero h]
    omega
theorem nb_inv (a : Rat) : nb a⁻¹ = nb a := by unfold nb; rw [H_inv]
theorem nb_zero : nb 0 = 1 := by decide
theorem nb_one : nb 1 = 2 := by decide
theorem nb_pos (q : Rat) : 1 ≤ nb q := by unfold nb; omega
theorem len_bits {n k : Nat} (h : n < 2 ^ k) : (limbs n).length ≤ k := by
  refine limbs_length_le (Nat.lt_of_lt_of_le h ?_)
  rw [show (4294967296 : Nat) = 2 ^ 32 from rfl, ← Nat.pow_mul]
  exact Nat.pow_le_pow_right (by omega) (by omega)
theorem len_num (q : Rat) : (limbs q.num.natAbs).length ≤ nb q := len_bits (Nat.lt_of_le_of_lt (by unfold H; omega) (H_lt q))
theorem len_den (q : Rat) : (limbs q.den).length ≤ nb q := len_bits (Nat.lt_of_le_of_lt (by unfold H; omega) (H_lt q))
def RR.bits (r : RR) : Nat := 32 * (r.num.length + r.den.length) + 1
theorem nb_v (r : RR) (hn : Limbs r.num) (hd : Limbs r.den) : nb r.v ≤ r.bits := by
  unfold RR.v RR.bits
  by_cases h0 : val r.den = 0
  · rw [h0, Rat.mkRat_zero, nb_zero]; omega
  refine nb_le (Nat.lt_of_le_of_lt (H_mkRat _ h0) ?_)
  rw [iv_abs]
  have h1 := val_lt hn
  have h2 := val_lt hd
  rw [show (4294967296 : Nat) = 2 ^ 32 from rfl, ← Nat.pow_mul] at h1 h2
  have h3 : 2 ^ (32 * r.num.length) ≤ 2 ^ (32 * (r.num.length + r.den.length)) := Nat.pow_le_pow_right (by omega) (by omega)
  have h4 : 2 ^ (32 * r.den.length) ≤ 2 ^ (32 * (r.num.length + r.den.length)) := Nat.pow_le_pow_right (by omega) (by omega)
  rw [Nat.pow_succ]
  omega
theorem qr_ok {q : Rat} (h : nb q < 17179869184) : (qr q).ok :=
  ⟨limbs_limbs _, limbs_limbs _, Nat.lt_of_le_of_lt (len_num q) h, Nat.lt_of_le_of_lt (len_den q) h⟩
/-- Lowest terms are no longer than what was handed in. -/
theorem mk_num (neg : Bool) (n : List Nat) {d : Nat} (hd : d ≠ 0) : (mkRat (iv neg n) d).num = iv neg (limbs (val n / Nat.gcd (val n) d)) := by
  rw [Rat.num_mkRat, if_neg hd, iv_abs, Nat.gcd_comm]
  unfold iv
  rw [val_limbs]
  cases neg
  · simp
  · simp only [if_true]
    rw [Int.neg_ediv_of_dvd (Int.ofNat_dvd.2 (Nat.gcd_dvd_left _ _))]
    simp
theorem mk_den (neg : Bool) (n : List Nat) {d : Nat} (hd : d ≠ 0) : (mkRat (iv neg n) d).den = d / Nat.gcd (val n) d := by
  rw [Rat.den_mkRat, if_neg hd, iv_abs, Nat.gcd_comm]
theorem v_len {r : RR} (hr : r.ok) : (limbs r.v.num.natAbs).length < 17179869184 ∧ (limbs r.v.den).length < 17179869184 := by
  unfold RR.v
  by_cases h0 : val r.den = 0
  · rw [h0, Rat.mkRat_zero]
    have : (limbs 1).length ≤ 1 := limbs_length_le (by decide)
    simp [limbs_zero]
    omega
  · rw [mk_num _ _ h0, mk_den _ _ h0, iv_abs, val_limbs]
    have h1 := limbs_mono (Nat.div_le_self (val r.num) (Nat.gcd (val r.num) (val r.den)))
    have h2 := limbs_mono (Nat.div_le_self (val r.den) (Nat.gcd (val r.num) (val r.den)))
    have h3 := limbs_val_length hr.num
    have h4 := limbs_val_length hr.den
    have := hr.nl
    have := hr.dl
    exact ⟨by omega, by omega⟩
theorem v_ok {r : RR} (hr : r.ok) : (qr r.v).ok := ⟨limbs_limbs _, limbs_limbs _, (v_len hr).1, (v_len hr).2⟩
end Go.Proofs.Ytjkjapjcmbfkgaa.Vm

/-
  Rational numbers: made, Norm, Of, Whole, Sign.
-/
namespace Go.Proofs.Ytjkjapjcmbfkgaa.Vm
open Go Go.RowKit
set_option maxRecDepth 100000
set_option linter.unusedVariables false
set_option linter.unusedSimpArgs false
set_option pp.deepTerms false
set_option pp.deepTerms.threshold 8

set_option maxHeartbeats 4000000 in
theorem rmade_ok (neg : Bool) (n d : List Nat) (hn : Limbs n) (hd : Limbs d) (h1 : n.length < 274877906944) (h2 : d.length < 274877906944) (h0 : val d ≠ 0) :
    Pure Try.prog 56 [cI neg n, cNat d] (· = cQ (mkRat (iv neg n) (val d))) := by
  have hg := ngcd_ok n d hn hd h1 h2
  have hnl := limbs_val_length hn
  have hdl := limbs_val_length hd
  have hgd : Nat.gcd (val n) (val d) ≠ 0 := fun h => h0 (Nat.gcd_eq_zero_iff.1 h).2
  have hgl := limbs_mono (Nat.le_of_dvd (Nat.pos_of_ne_zero h0) (Nat.gcd_dvd_right (val n) (val d)))
  have hd1 := ndiv_ok n (limbs (Nat.gcd (val n) (val d))) hn (limbs_limbs _) h1 (by omega)
  have hd2 := ndiv_ok d (limbs (Nat.gcd (val n) (val d))) hd (limbs_limbs _) h2 (by omega)
  rw [val_limbs, divR, if_neg hgd] at hd1 hd2
  have hq1 := limbs_mono (Nat.div_le_self (val n) (Nat.gcd (val n) (val d)))
  have hw := wnorm_ok neg (limbs (val n / Nat.gcd (val n) (val d))) (limbs_limbs _) (by omega)
  rw [← mk_num neg n h0] at hw
  have hden := mk_den neg n h0
  generalize mkRat (iv neg n) (val d) = q at *
  (refine pureW Try.func56 rfl (rs := [Go.ResultVar.cell 4 29]) rfl (n := 38) rfl ?_; simp only [List.length_cons, List.length_nil, List.replicate, List.cons_append, List.nil_append])
  unfold cI
  (repeat (refine W_seqV fun K hK => ?_; (try simp (disch := omega) only [cNat, regV_cons, effW_free, opF_box, dead, List.getElem?_cons_succ, List.getElem?_cons_zero, storable, ev_tmp, List.getD_cons_zero, List.all_cons, AV.one, List.all_nil, Bool.and_self, cellsOf, List.length_cons, List.length_nil, Nat.zero_add, Nat.reduceAdd, atK_ap, restV_ap, Eff.app, List.set, Eff.wi, Option.map_some, List.nil_append, opF_alloc, ty29, ne_eq, reduceCtorEq, not_false_eq_true, List.cons_append, regV_nil, sepL, List.not_mem_nil, false_implies, implies_true, true_and]); refine hK _ ?_; clear hK K))
  ((refine W_seqV fun K hK => ?_); simp (disch := omega) only [regV_cons, effW_free, opF_fieldAddr, ty27, ev_tmp, List.getD_cons_succ, List.getD_cons_zero, fieldAddrW_ptr, List.length_cons, List.length_nil, Nat.zero_add, Nat.reduceAdd, Nat.reduceLT, ty25, ne_eq, reduceCtorEq, not_false_eq_true, valK_ap, atK_ap, restV_ap, Eff.app, List.set, Eff.wi, Option.map_none, List.nil_append, opF_load, TI.isAgg, Bool.false_eq_true, or_true, objOf, loadW_ptr, loadO_arr, Nat.reduceLeDiff, ofCells, List.drop_succ_cons, List.drop_zero, List.take_succ_cons, List.take_zero, List.headD_cons, if_false, List.cons_append, opF_move, opF_call, ev_func, List.map_cons, List.map_nil, callF_fn, List.append_nil, opF_assign, regV_nil, sepL, List.not_mem_nil, false_implies, implies_true, true_and])
  (refine ⟨by kernel_rfl, rfl, _, hg, ?_⟩; (try simp (disch := omega) only [cN, cNat]))
  (refine hK _ ?_; clear hK K)
  ((refine W_seqV fun K hK => ?_); simp (disch := omega) only [regV_cons, effW_free, opF_fieldAddr, ty27, ev_tmp, List.getD_cons_succ, List.getD_cons_zero, fieldAddrW_ptr, List.length_cons, List.length_nil, Nat.zero_add, Nat.reduceAdd, Nat.reduceLT, ty25, ne_eq, reduceCtorEq, not_false_eq_true, valK_ap, atK_ap, restV_ap, Eff.app, List.set, Eff.wi, Option.map_none, List.nil_append, opF_load, TI.isAgg, Bool.false_eq_true, or_true, objOf, loadW_ptr, loadO_arr, Nat.reduceLeDiff, ofCells, List.drop_succ_cons, List.drop_zero, List.take_succ_cons, List.take_zero, List.headD_cons, if_false, List.cons_append, opF_move, opF_call, ev_func, List.map_cons, List.map_nil, callF_fn, List.append_nil, opF_extract, true_and])
  (refine ⟨by kernel_rfl, rfl, _, hd1, ?_⟩; (try simp (disch := omega) only [cN, cNat, extractW_tup, List.length_cons, List.length_nil, Nat.zero_add, Nat.reduceAdd, Nat.reduceLT, List.getD_cons_zero, valK_ap, atK_ap, restV_ap, Eff.app, List.set, Eff.wi, Option.map_none, List.cons_append, List.nil_append, regV_cons, effW_free, opF_extract, ev_tmp, List.getD_cons_succ, opF_assign, regV_nil, sepL, List.not_mem_nil, false_implies, implies_true, true_and]))
  (refine hK _ ?_; clear hK K)
  ((refine W_seqV fun K hK => ?_); simp (disch := omega) only [regV_cons, effW_free, opF_move, ev_tmp, List.getD_cons_succ, List.getD_cons_zero, atK_ap, restV_ap, Eff.app, List.set, Eff.wi, Option.map_none, List.nil_append, List.cons_append, opF_call, ev_func, List.map_cons, List.map_nil, callF_fn, List.append_nil, opF_extract])
  (refine ⟨by kernel_rfl, rfl, _, hd2, ?_⟩; (try simp (disch := omega) only [cN, cNat, extractW_tup, List.length_cons, List.length_nil, Nat.zero_add, Nat.reduceAdd, Nat.reduceLT, List.getD_cons_zero, valK_ap, atK_ap, restV_ap, Eff.app, List.set, Eff.wi, Option.map_none, List.cons_append, List.nil_append, regV_cons, effW_free, opF_extract, ev_tmp, List.getD_cons_succ, opF_assign, regV_nil, sepL, List.not_mem_nil, false_implies, implies_true, true_and]))
  (refine hK _ ?_; clear hK K)
  ((refine W_seqV fun K hK => ?_); simp (disch := omega) only [regV_cons, effW_free, opF_fieldAddr, ty27, ev_tmp, List.getD_cons_succ, List.getD_cons_zero, fieldAddrW_ptr, List.length_cons, List.length_nil, Nat.zero_add, Nat.reduceAdd, Nat.reduceLT, ty4, ne_eq, reduceCtorEq, not_false_eq_true, Nat.add_zero, valK_ap, atK_ap, restV_ap, Eff.app, List.set, Eff.wi, Option.map_none, List.nil_append, opF_load, TI.isAgg, Bool.false_eq_true, or_true, objOf, loadW_ptr, loadO_arr, Nat.reduceLeDiff, ofCells, List.drop_zero, List.take_succ_cons, List.take_zero, List.headD_cons, if_false, List.cons_append, opF_move, opF_build, List.map_cons, List.map_nil, buildW_struct, storable, AV.one, cellsOf, List.forall_mem_cons, and_self, ty25, List.not_mem_nil, false_implies, implies_true, laid, List.foldl_cons, List.drop_succ_cons, List.drop_nil, List.append_nil, List.foldl_nil, opF_call, ev_func, callF_fn, ty29, true_and, and_true, opF_store, storeF_ptr, storeO_arr, overlay, wrK_ap, Option.map_some, regV_nil, sepL])
  (refine ⟨by kernel_rfl, rfl, _, hw, ?_⟩; (try simp (disch := omega) only [cZ, cI, List.all_cons, AV.one, List.all_nil, Bool.and_self, List.length_cons, List.length_nil, Nat.zero_add, Nat.reduceAdd, Nat.reduceLeDiff, and_self, List.drop_succ_cons, List.drop_zero, List.cons_append, List.nil_append, List.take_succ_cons, List.take_zero, List.drop_nil, List.append_nil, true_and]))
  (refine hK _ ?_; clear hK K)
  refine W_ret ?_
  simp (disch := omega) only [retR, resW, resV, List.getD_cons_succ, List.getD_cons_zero, asOne_one]; try simp (disch := omega) only [ty29, ne_eq, reduceCtorEq, not_false_eq_true, TI.isAgg, true_or, cQ, loadW_ptr, List.getD_cons_succ, List.getD_cons_zero, loadO_arr, List.length_cons, List.length_nil, Nat.zero_add, Nat.reduceLT, Nat.reduceAdd, Nat.reduceLeDiff, ofCells, List.drop_zero, List.take_succ_cons, List.take_zero, List.headD_cons, if_true, view_agg, views_cons, view_bool, view_sl, views_nil, true_and]
  rw [hden]

theorem bits_pos {l : List Nat} (h : Limbs l) (h1 : l.length < 549755813888) (h0 : val l ≠ 0) : ∃ k : Nat, k ≠ 0 ∧ Pure Try.prog 55 [cNat l] (· = .int .i64 k) := by
  have hb := bits_ok l h h1
  rw [if_neg h0] at hb
  refine ⟨_, ?_, hb⟩
  have h2 : blen ((limbs (val l)).getD ((limbs (val l)).length - 1) 0) ≠ 0 := by
    intro h3
    have := (blen_spec ((limbs (val l)).getD ((limbs (val l)).length - 1) 0)).1
    rw [h3] at this
    have := limbs_top h0
    omega
  omega
theorem limbs_1 : limbs 1 = [1] := by rw [limbs_pos (by decide)]; simp [limbs_zero]
theorem iz {k : Nat} (h : k ≠ 0) : (((k : Nat) : Int) == 0) = false := by rw [beq_eq_false_iff_ne]; omega

set_option maxHeartbeats 4000000 in
theorem rnorm_ok (r : RR) (hr : r.ok) : Pure Try.prog 30 [r.av] (· = cQ r.v) := by
  obtain ⟨neg, n, d⟩ := r
  obtain ⟨hn, hd, h1, h2⟩ := hr
  dsimp only at hn hd h1 h2
  have hb := bits_ok d hd (by omega)
  simp only [RR.av, RR.v]
  by_cases h0 : val d = 0
  · rw [h0, Rat.mkRat_zero]
    rw [if_pos h0] at hb
    (refine pureW Try.func30 rfl (rs := [Go.ResultVar.cell 2 29]) rfl (n := 14) rfl ?_; simp only [List.length_cons, List.length_nil, List.replicate, List.cons_append, List.nil_append])
    (repeat (refine W_seqV fun K hK => ?_; (try simp (disch := omega) only [regV_cons, effW_free, opF_box, dead, List.getElem?_cons_succ, List.getElem?_cons_zero, storable, ev_tmp, List.getD_cons_zero, List.all_cons, AV.one, List.all_nil, Bool.and_self, cellsOf, List.length_cons, List.length_nil, Nat.zero_add, Nat.reduceAdd, atK_ap, restV_ap, Eff.app, List.set, Eff.wi, Option.map_some, List.nil_append, opF_alloc, ty29, ne_eq, reduceCtorEq, not_false_eq_true, List.cons_append, regV_nil, sepL, List.not_mem_nil, false_implies, implies_true, true_and]); refine hK _ ?_; clear hK K))
    refine W_seq ?_
    ((refine W_seqV fun K hK => ?_); simp (disch := omega) only [regV_cons, effW_free, opF_fieldAddr, ty29, ev_tmp, List.getD_cons_succ, List.getD_cons_zero, fieldAddrW_ptr, List.length_cons, List.length_nil, Nat.zero_add, Nat.reduceAdd, Nat.reduceLT, ty25, ne_eq, reduceCtorEq, not_false_eq_true, valK_ap, atK_ap, restV_ap, Eff.app, List.set, Eff.wi, Option.map_none, List.nil_append, opF_load, TI.isAgg, Bool.false_eq_true, or_true, objOf, loadW_ptr, loadO_arr, Nat.reduceLeDiff, ofCells, List.drop_succ_cons, List.drop_zero, List.take_succ_cons, List.take_zero, List.headD_cons, if_false, List.cons_append, opF_call, ev_func, List.map_cons, List.map_nil, callF_fn, List.append_nil, opF_binOp, ty3, ev_const, cst_int, true_and])
    (refine ⟨by kernel_rfl, rfl, _, hb, ?_⟩; (try simp (disch := omega) only [Int.cast_ofNat_Int, binW_eql, valK_ap, atK_ap, restV_ap, Eff.app, List.set, Eff.wi, Option.map_none, List.cons_append, List.nil_append, regV_nil, sepL, List.not_mem_nil, false_implies, implies_true, true_and]))
    (refine hK _ ?_; clear hK K)
    (repeat' (first | (exfalso; simp at h; done) | (refine W_seqV fun K hK => ?_; (try simp (disch := omega) only [regV_cons, effW_free, opF_buildSlice, ty25, List.map_cons, ev_const, cst_int, List.map_nil, litD_slice, dead, List.getElem?_cons_succ, List.getElem?_cons_zero, ty79, ne_eq, reduceCtorEq, not_false_eq_true, List.length_cons, List.length_nil, Nat.zero_add, range1, Nat.reduceMul, Nat.reduceLeDiff, storable, AV.one, cellsOf, List.forall_mem_cons, true_and, List.not_mem_nil, false_implies, implies_true, and_true, valK_ap, atK_ap, restV_ap, Eff.app, List.set, Eff.wi, Option.map_none, List.nil_append, opF_build, ty29, ev_tmp, List.getD_cons_succ, List.getD_cons_zero, buildW_struct, Nat.reduceAdd, Nat.reduceLT, and_self, ty27, laid, List.foldl_cons, List.take_succ_cons, List.take_zero, List.cons_append, List.drop_succ_cons, List.drop_nil, List.append_nil, List.foldl_nil, opF_store, storeF_ptr, storeO_arr, List.all_cons, List.all_nil, Bool.and_self, Bool.false_eq_true, overlay, wrK_ap, Option.map_some, regV_nil, sepL]); (repeat (refine And.intro (by first | omega | (show AV.pures _ = true; rfl)) ?_)); refine hK _ ?_; clear hK K) | (refine W_ret ?_; simp (disch := omega) only [thenW, retR, resW, resV, List.getD_cons_succ, List.getD_cons_zero, asOne_one]) | (refine W_cond rfl (fun h => ?_) (fun h => ?_) <;> (try simp only [cond_true, cond_false, decide_eq_true_eq, decide_eq_false_iff_not, bne_iff_ne, beq_iff_eq, bne_eq_false_iff_eq, beq_eq_false_iff_ne, ne_eq, Nat.not_lt, Nat.not_le, Int.not_lt, Int.not_le, Bool.not_eq_true', Bool.not_eq_false'] at h))))
    (try simp (disch := omega) only [ty29, ne_eq, reduceCtorEq, not_false_eq_true, TI.isAgg, true_or, cQ, loadW_ptr, List.getD_cons_succ, List.getD_cons_zero, loadO_arr, List.length_cons, List.length_nil, Nat.zero_add, Nat.reduceLT, Nat.reduceAdd, Nat.reduceLeDiff, ofCells, List.drop_zero, List.take_succ_cons, List.take_zero, List.headD_cons, if_true, view_agg, views_cons, view_bool, view_nils, view_sl, views_nil, true_and])
    simp [cQ, limbs_zero, u32s, limbs_1]
  · have hm := rmade_ok neg n d hn hd (by omega) (by omega) h0
    obtain ⟨k, hk, hb⟩ := bits_pos hd (by omega) h0
    have hz := iz hk
    (refine pureW Try.func30 rfl (rs := [Go.ResultVar.cell 2 29]) rfl (n := 14) rfl ?_; simp only [List.length_cons, List.length_nil, List.replicate, List.cons_append, List.nil_append])
    (repeat (refine W_seqV fun K hK => ?_; (try simp (disch := omega) only [regV_cons, effW_free, opF_box, dead, List.getElem?_cons_succ, List.getElem?_cons_zero, storable, ev_tmp, List.getD_cons_zero, List.all_cons, AV.one, List.all_nil, Bool.and_self, cellsOf, List.length_cons, List.length_nil, Nat.zero_add, Nat.reduceAdd, atK_ap, restV_ap, Eff.app, List.set, Eff.wi, Option.map_some, List.nil_append, opF_alloc, ty29, ne_eq, reduceCtorEq, not_false_eq_true, List.cons_append, regV_nil, sepL, List.not_mem_nil, false_implies, implies_true, true_and]); refine hK _ ?_; clear hK K))
    refine W_seq ?_
    ((refine W_seqV fun K hK => ?_); simp (disch := omega) only [regV_cons, effW_free, opF_fieldAddr, ty29, ev_tmp, List.getD_cons_succ, List.getD_cons_zero, fieldAddrW_ptr, List.length_cons, List.length_nil, Nat.zero_add, Nat.reduceAdd, Nat.reduceLT, ty25, ne_eq, reduceCtorEq, not_false_eq_true, valK_ap, atK_ap, restV_ap, Eff.app, List.set, Eff.wi, Option.map_none, List.nil_append, opF_load, TI.isAgg, Bool.false_eq_true, or_true, objOf, loadW_ptr, loadO_arr, Nat.reduceLeDiff, ofCells, List.drop_succ_cons, List.drop_zero, List.take_succ_cons, List.take_zero, List.headD_cons, if_false, List.cons_append, opF_call, ev_func, List.map_cons, List.map_nil, callF_fn, List.append_nil, opF_binOp, ty3, ev_const, cst_int, true_and])
    (refine ⟨by kernel_rfl, rfl, _, hb, ?_⟩; (try simp (disch := omega) only [binW_eql, valK_ap, atK_ap, restV_ap, Eff.app, List.set, Eff.wi, Option.map_none, List.cons_append, List.nil_append, regV_nil, sepL, List.not_mem_nil, false_implies, implies_true, true_and]))
    simp (disch := omega) only [hz]
    (refine hK _ ?_; clear hK K)
    (first | refine W_cond rfl (fun h => by cases h) (fun _ => ?_) | refine W_seq (W_cond rfl (fun h => by cases h) (fun _ => ?_)))
    refine W_skip ?_
    simp only [thenW]
    ((refine W_seqV fun K hK => ?_); simp (disch := omega) only [regV_cons, effW_free, opF_fieldAddr, ty29, ev_tmp, List.getD_cons_succ, List.getD_cons_zero, fieldAddrW_ptr, List.length_cons, List.length_nil, Nat.zero_add, Nat.reduceAdd, Nat.reduceLT, ty27, ne_eq, reduceCtorEq, not_false_eq_true, Nat.add_zero, valK_ap, atK_ap, restV_ap, Eff.app, List.set, Eff.wi, Option.map_none, List.nil_append, opF_load, TI.isAgg, true_or, objOf, loadW_ptr, loadO_arr, Nat.reduceLeDiff, ofCells, List.drop_zero, List.take_succ_cons, List.take_zero, List.headD_cons, if_true, List.cons_append, ty25, Bool.false_eq_true, or_true, List.drop_succ_cons, if_false, opF_call, ev_func, List.map_cons, List.map_nil, callF_fn, List.append_nil, opF_store, storeF_ptr, storeO_arr, storable, AV.one, cellsOf, false_implies, overlay, wrK_ap, Option.map_some, regV_nil, sepL, List.not_mem_nil, implies_true, true_and])
    (refine ⟨by kernel_rfl, rfl, _, hm, ?_⟩; (try simp (disch := omega) only [cQ, List.all_cons, AV.one, List.all_nil, Bool.and_self, List.length_cons, List.length_nil, Nat.zero_add, Nat.reduceAdd, List.drop_succ_cons, List.drop_nil, List.append_nil, true_and]))
    (refine hK _ ?_; clear hK K)
    refine W_ret ?_
    simp (disch := omega) only [retR, resW, resV, List.getD_cons_succ, List.getD_cons_zero, asOne_one]; try simp (disch := omega) only [ty29, ne_eq, reduceCtorEq, not_false_eq_true, TI.isAgg, true_or, cQ, loadW_ptr, List.getD_cons_succ, List.getD_cons_zero, loadO_arr, List.length_cons, List.length_nil, Nat.zero_add, Nat.reduceLT, Nat.reduceAdd, Nat.reduceLeDiff, ofCells, List.drop_zero, List.take_succ_cons, List.take_zero, List.headD_cons, if_true, view_agg, views_cons, view_bool, view_sl, views_nil, and_self]

/-! What a normal number's parts come to. -/
theorem q_num (q : Rat) : iv (decide (q.num < 0)) (limbs q.num.natAbs) = q.num := iv_cZ _
theorem sgnq (q : Rat) (h : (qr q).ok) : Pure Try.prog 42 [cI (decide (q.num < 0)) (limbs q.num.natAbs)] (· = .int .i64 q.num.sign) := by
  have := wsign_ok (decide (q.num < 0)) (limbs q.num.natAbs) (limbs_limbs _) (Nat.lt_trans h.nl (by decide))
  rwa [q_num] at this
theorem den_iv (q : Rat) : iv false (limbs q.den) = q.den := by simp [iv, val_limbs]

set_option maxHeartbeats 4000000 in
theorem rsign_ok (r : RR) (hr : r.ok) : Pure Try.prog 19 [r.av] (· = .int .i64 r.v.num.sign) := by
  have hn := rnorm_ok r hr
  have hs := sgnq r.v (v_ok hr)
  obtain ⟨neg, n, d⟩ := r
  simp only [RR.av] at hn ⊢
  generalize RR.v _ = q at *
  simp only [cQ] at hn
  (refine pureW Try.func19 rfl (rs := [Go.ResultVar.tmp 2]) rfl (n := 7) rfl ?_; simp only [List.length_cons, List.length_nil, List.replicate, List.cons_append, List.nil_append])
  (repeat (refine W_seqV fun K hK => ?_; (try simp (disch := omega) only [regV_cons, effW_free, opF_box, dead, List.getElem?_cons_succ, List.getElem?_cons_zero, storable, ev_tmp, List.getD_cons_zero, List.all_cons, AV.one, List.all_nil, Bool.and_self, cellsOf, List.length_cons, List.length_nil, Nat.zero_add, Nat.reduceAdd, atK_ap, restV_ap, Eff.app, List.set, Eff.wi, Option.map_some, List.nil_append, opF_assign, ev_const, cst_int, Option.map_none, List.cons_append, regV_nil, sepL, List.not_mem_nil, false_implies, implies_true, true_and]); refine hK _ ?_; clear hK K))
  ((refine W_seqV fun K hK => ?_); simp (disch := omega) only [regV_cons, effW_free, opF_load, ty29, ne_eq, reduceCtorEq, not_false_eq_true, TI.isAgg, true_or, ev_tmp, List.getD_cons_succ, List.getD_cons_zero, objOf, loadW_ptr, loadO_arr, List.length_cons, List.length_nil, Nat.zero_add, Nat.reduceLT, Nat.reduceAdd, Nat.reduceLeDiff, ofCells, List.drop_zero, List.take_succ_cons, List.take_zero, List.headD_cons, if_true, valK_ap, atK_ap, restV_ap, Eff.app, List.set, Eff.wi, Option.map_none, List.nil_append, opF_call, ev_func, List.map_cons, List.map_nil, callF_fn, List.append_nil, List.cons_append, opF_field, true_and])
  (refine ⟨by kernel_rfl, rfl, _, hn, ?_⟩; (try simp (disch := omega) only [fieldW_agg, List.length_cons, List.length_nil, Nat.zero_add, Nat.reduceAdd, Nat.reduceLT, List.getD_cons_zero, ty27, ne_eq, reduceCtorEq, not_false_eq_true, TI.isAgg, true_or, Nat.reduceLeDiff, ofCells, List.drop_zero, List.take_succ_cons, List.take_zero, List.headD_cons, if_true, valK_ap, atK_ap, restV_ap, Eff.app, List.set, Eff.wi, Option.map_none, List.cons_append, List.nil_append, regV_cons, effW_free, opF_call, ev_func, List.map_cons, ev_tmp, List.getD_cons_succ, List.map_nil, callF_fn, List.append_nil, opF_assign, regV_nil, sepL, List.not_mem_nil, false_implies, implies_true, true_and]))
  (refine ⟨by kernel_rfl, rfl, _, hs, ?_⟩)
  (refine hK _ ?_; clear hK K)
  refine W_ret ?_
  simp (disch := omega) only [retR, resW, resV, List.getD_cons_succ, List.getD_cons_zero, asOne_one, view_int]

set_option maxHeartbeats 4000000 in
theorem rof_ok (neg : Bool) (n : List Nat) (hn : Limbs n) (h1 : n.length < 137438953472) (neg' : Bool) (d : List Nat) (hd : Limbs d) (h2 : d.length < 137438953472) :
    Pure Try.prog 39 [cI neg n, cI neg' d] (· = if val d = 0 then .tup [.agg [.bool false, .sl [], .sl []], .int .i64 11] else .tup [cQ (Rat.divInt (iv neg n) (iv neg' d)), .int .i64 0]) := by
  have hs := wsign_ok neg' d hd (by omega)
  rw [isign] at hs
  by_cases h0 : val d = 0
  · rw [if_pos h0] at hs ⊢
    (refine pureW Try.func39 rfl (rs := [Go.ResultVar.cell 4 29, Go.ResultVar.tmp 5]) rfl (n := 19) rfl ?_; simp only [List.length_cons, List.length_nil, List.replicate, List.cons_append, List.nil_append])
    unfold cI
    (repeat (refine W_seqV fun K hK => ?_; (try simp (disch := omega) only [regV_cons, effW_free, opF_box, dead, List.getElem?_cons_succ, List.getElem?_cons_zero, storable, ev_tmp, List.getD_cons_zero, List.all_cons, AV.one, List.all_nil, Bool.and_self, cellsOf, List.length_cons, List.length_nil, Nat.zero_add, Nat.reduceAdd, atK_ap, restV_ap, Eff.app, List.set, Eff.wi, Option.map_some, List.nil_append, List.getD_cons_succ, List.cons_append, opF_alloc, ty29, ne_eq, reduceCtorEq, not_false_eq_true, opF_assign, ev_const, cst_int, Option.map_none, regV_nil, sepL, List.not_mem_nil, false_implies, implies_true, true_and]); refine hK _ ?_; clear hK K))
    refine W_seq ?_
    ((refine W_seqV fun K hK => ?_); simp (disch := omega) only [regV_cons, effW_free, opF_load, ty27, ne_eq, reduceCtorEq, not_false_eq_true, TI.isAgg, true_or, ev_tmp, List.getD_cons_succ, List.getD_cons_zero, objOf, loadW_ptr, loadO_arr, List.length_cons, List.length_nil, Nat.zero_add, Nat.reduceLT, Nat.reduceAdd, Nat.reduceLeDiff, ofCells, List.drop_zero, List.take_succ_cons, List.take_zero, List.headD_cons, if_true, valK_ap, atK_ap, restV_ap, Eff.app, List.set, Eff.wi, Option.map_none, List.nil_append, opF_call, ev_func, List.map_cons, List.map_nil, callF_fn, List.append_nil, List.cons_append, opF_binOp, ty3, ev_const, cst_int, true_and])
    (refine ⟨by kernel_rfl, rfl, _, hs, ?_⟩; (try simp (disch := omega) only [binW_eql, valK_ap, atK_ap, restV_ap, Eff.app, List.set, Eff.wi, Option.map_none, List.cons_append, List.nil_append, regV_nil, sepL, List.not_mem_nil, false_implies, implies_true, true_and]))
    (refine hK _ ?_; clear hK K)
    (repeat' (first | (exfalso; simp at h; done) | (refine W_seqV fun K hK => ?_; (try simp (disch := omega) only [regV_cons, effW_free, opF_build, ty29, List.map_nil, buildW_struct, List.not_mem_nil, storable, AV.one, List.length_cons, List.length_nil, Nat.zero_add, Nat.reduceAdd, ne_eq, cellsOf, false_implies, implies_true, List.forall_mem_cons, ty27, reduceCtorEq, not_false_eq_true, ty25, and_self, laid, List.foldl_nil, valK_ap, atK_ap, restV_ap, Eff.app, List.set, Eff.wi, Option.map_none, List.nil_append, opF_store, ev_tmp, List.getD_cons_succ, List.getD_cons_zero, storeF_ptr, storeO_arr, List.all_cons, List.all_nil, Bool.and_self, Bool.false_eq_true, Nat.reduceLT, Nat.reduceLeDiff, overlay, List.take_zero, List.drop_succ_cons, List.drop_nil, List.append_nil, wrK_ap, Option.map_some, List.cons_append, opF_assign, ev_const, cst_int, regV_nil, sepL, true_and]); refine hK _ ?_; clear hK K) | (refine W_ret ?_; simp (disch := omega) only [thenW, retR, resW, resV, List.getD_cons_succ, List.getD_cons_zero, asOne_two, view_tup, views_cons, view_int, views_nil]) | (refine W_cond rfl (fun h => ?_) (fun h => ?_) <;> (try simp only [cond_true, cond_false, decide_eq_true_eq, decide_eq_false_iff_not, bne_iff_ne, beq_iff_eq, bne_eq_false_iff_eq, beq_eq_false_iff_ne, ne_eq, Nat.not_lt, Nat.not_le, Int.not_lt, Int.not_le, Bool.not_eq_true', Bool.not_eq_false'] at h))))
    (try simp (disch := omega) only [ty29, ne_eq, reduceCtorEq, not_false_eq_true, TI.isAgg, true_or, loadW_ptr, List.getD_cons_succ, List.getD_cons_zero, loadO_arr, List.length_cons, List.length_nil, Nat.zero_add, Nat.reduceLT, Nat.reduceAdd, Nat.reduceLeDiff, ofCells, List.drop_zero, List.take_succ_cons, List.take_zero, List.headD_cons, if_true, view_agg, views_cons, view_bool, view_nils, views_nil, and_self])
  · rw [if_neg h0] at hs ⊢
    have hnl := limbs_val_length hn
    cases neg'
    · have hm := rmade_ok neg n d hn hd (by omega) (by omega) h0
      have he : Rat.divInt (iv neg n) (iv false d) = mkRat (iv neg n) (val d) := by simp [iv]
      rw [← he] at hm
      (refine pureW Try.func39 rfl (rs := [Go.ResultVar.cell 4 29, Go.ResultVar.tmp 5]) rfl (n := 19) rfl ?_; simp only [List.length_cons, List.length_nil, List.replicate, List.cons_append, List.nil_append])
      unfold cI
      (repeat (refine W_seqV fun K hK => ?_; (try simp (disch := omega) only [regV_cons, effW_free, opF_box, dead, List.getElem?_cons_succ, List.getElem?_cons_zero, storable, ev_tmp, List.getD_cons_zero, List.all_cons, AV.one, List.all_nil, Bool.and_self, cellsOf, List.length_cons, List.length_nil, Nat.zero_add, Nat.reduceAdd, atK_ap, restV_ap, Eff.app, List.set, Eff.wi, Option.map_some, List.nil_append, List.getD_cons_succ, List.cons_append, opF_alloc, ty29, ne_eq, reduceCtorEq, not_false_eq_true, opF_assign, ev_const, cst_int, Option.map_none, regV_nil, sepL, List.not_mem_nil, false_implies, implies_true, true_and]); refine hK _ ?_; clear hK K))
      refine W_seq ?_
      ((refine W_seqV fun K hK => ?_); simp (disch := omega) only [regV_cons, effW_free, opF_load, ty27, ne_eq, reduceCtorEq, not_false_eq_true, TI.isAgg, true_or, ev_tmp, List.getD_cons_succ, List.getD_cons_zero, objOf, loadW_ptr, loadO_arr, List.length_cons, List.length_nil, Nat.zero_add, Nat.reduceLT, Nat.reduceAdd, Nat.reduceLeDiff, ofCells, List.drop_zero, List.take_succ_cons, List.take_zero, List.headD_cons, if_true, valK_ap, atK_ap, restV_ap, Eff.app, List.set, Eff.wi, Option.map_none, List.nil_append, opF_call, ev_func, List.map_cons, List.map_nil, callF_fn, List.append_nil, List.cons_append, opF_binOp, ty3, ev_const, cst_int, true_and])
      (refine ⟨by kernel_rfl, rfl, _, hs, ?_⟩; (try simp (disch := omega) only [Bool.false_eq_true, Int.reduceNeg, if_false, binW_eql, valK_ap, atK_ap, restV_ap, Eff.app, List.set, Eff.wi, Option.map_none, List.cons_append, List.nil_append, regV_nil, sepL, List.not_mem_nil, false_implies, implies_true, true_and]))
      (refine hK _ ?_; clear hK K)
      (first | refine W_cond rfl (fun h => by cases h) (fun _ => ?_) | refine W_seq (W_cond rfl (fun h => by cases h) (fun _ => ?_)))
      refine W_skip ?_
      simp only [thenW]
      refine W_seq ?_
      ((refine W_seqV fun K hK => ?_); simp (disch := omega) only [regV_cons, effW_free, opF_load, ty27, ne_eq, reduceCtorEq, not_false_eq_true, TI.isAgg, true_or, ev_tmp, List.getD_cons_succ, List.getD_cons_zero, objOf, loadW_ptr, loadO_arr, List.length_cons, List.length_nil, Nat.zero_add, Nat.reduceLT, Nat.reduceAdd, Nat.reduceLeDiff, ofCells, List.drop_zero, List.take_succ_cons, List.take_zero, List.headD_cons, if_true, valK_ap, atK_ap, restV_ap, Eff.app, List.set, Eff.wi, Option.map_none, List.nil_append, opF_call, ev_func, List.map_cons, List.map_nil, callF_fn, List.append_nil, List.cons_append, opF_binOp, ty3, ev_const, cst_int, true_and])
      (refine ⟨by kernel_rfl, rfl, _, hs, ?_⟩; (try simp (disch := omega) only [Bool.false_eq_true, Int.reduceNeg, if_false, binW_lss, Int.reduceLT, decide_false, valK_ap, atK_ap, restV_ap, Eff.app, List.set, Eff.wi, Option.map_none, List.cons_append, List.nil_append, regV_nil, sepL, List.not_mem_nil, false_implies, implies_true, true_and]))
      (refine hK _ ?_; clear hK K)
      (first | refine W_cond rfl (fun h => by cases h) (fun _ => ?_) | refine W_seq (W_cond rfl (fun h => by cases h) (fun _ => ?_)))
      refine W_skip ?_
      simp only [thenW]
      ((refine W_seqV fun K hK => ?_); simp (disch := omega) only [regV_cons, effW_free, opF_load, ty27, ne_eq, reduceCtorEq, not_false_eq_true, TI.isAgg, true_or, ev_tmp, List.getD_cons_succ, List.getD_cons_zero, objOf, loadW_ptr, loadO_arr, List.length_cons, List.length_nil, Nat.zero_add, Nat.reduceLT, Nat.reduceAdd, Nat.reduceLeDiff, ofCells, List.drop_zero, List.take_succ_cons, List.take_zero, List.headD_cons, if_true, valK_ap, atK_ap, restV_ap, Eff.app, List.set, Eff.wi, Option.map_none, List.nil_append, opF_fieldAddr, fieldAddrW_ptr, ty25, List.cons_append, Bool.false_eq_true, or_true, List.drop_succ_cons, if_false, opF_call, ev_func, List.map_cons, List.map_nil, callF_fn, List.append_nil, opF_store, ty29, storeF_ptr, storeO_arr, storable, AV.one, cellsOf, false_implies, overlay, wrK_ap, Option.map_some, opF_assign, ev_const, cst_int, regV_nil, sepL, List.not_mem_nil, implies_true, true_and])
      (refine ⟨by kernel_rfl, rfl, _, hm, ?_⟩; (try simp (disch := omega) only [cQ, List.all_cons, AV.one, List.all_nil, Bool.and_self, List.length_cons, List.length_nil, Nat.zero_add, Nat.reduceAdd, List.drop_succ_cons, List.drop_nil, List.append_nil, true_and]))
      (refine hK _ ?_; clear hK K)
      refine W_ret ?_
      simp (disch := omega) only [retR, resW, resV, List.getD_cons_succ, List.getD_cons_zero, asOne_two, view_tup, views_cons, view_int, views_nil]; try simp (disch := omega) only [ty29, ne_eq, reduceCtorEq, not_false_eq_true, TI.isAgg, true_or, cQ, loadW_ptr, List.getD_cons_succ, List.getD_cons_zero, loadO_arr, List.length_cons, List.length_nil, Nat.zero_add, Nat.reduceLT, Nat.reduceAdd, Nat.reduceLeDiff, ofCells, List.drop_zero, List.take_succ_cons, List.take_zero, List.headD_cons, if_true, view_agg, views_cons, view_bool, view_sl, views_nil, and_self]
    · have hw := wneg_ok neg n hn (by omega)
      have hm := rmade_ok (decide (-(iv neg n) < 0)) (limbs (-(iv neg n)).natAbs) d (limbs_limbs _) hd (by rw [Int.natAbs_neg, iv_abs]; omega) (by omega) h0
      rw [iv_cZ] at hm
      have he : Rat.divInt (iv neg n) (iv true d) = mkRat (-(iv neg n)) (val d) := by
        simp only [iv, if_true]
        rw [Rat.divInt_neg', Rat.divInt_ofNat]
      rw [← he] at hm
      (refine pureW Try.func39 rfl (rs := [Go.ResultVar.cell 4 29, Go.ResultVar.tmp 5]) rfl (n := 19) rfl ?_; simp only [List.length_cons, List.length_nil, List.replicate, List.cons_append, List.nil_append])
      unfold cI
      (repeat (refine W_seqV fun K hK => ?_; (try simp (disch := omega) only [regV_cons, effW_free, opF_box, dead, List.getElem?_cons_succ, List.getElem?_cons_zero, storable, ev_tmp, List.getD_cons_zero, List.all_cons, AV.one, List.all_nil, Bool.and_self, cellsOf, List.length_cons, List.length_nil, Nat.zero_add, Nat.reduceAdd, atK_ap, restV_ap, Eff.app, List.set, Eff.wi, Option.map_some, List.nil_append, List.getD_cons_succ, List.cons_append, opF_alloc, ty29, ne_eq, reduceCtorEq, not_false_eq_true, opF_assign, ev_const, cst_int, Option.map_none, regV_nil, sepL, List.not_mem_nil, false_implies, implies_true, true_and]); refine hK _ ?_; clear hK K))
      refine W_seq ?_
      ((refine W_seqV fun K hK => ?_); simp (disch := omega) only [regV_cons, effW_free, opF_load, ty27, ne_eq, reduceCtorEq, not_false_eq_true, TI.isAgg, true_or, ev_tmp, List.getD_cons_succ, List.getD_cons_zero, objOf, loadW_ptr, loadO_arr, List.length_cons, List.length_nil, Nat.zero_add, Nat.reduceLT, Nat.reduceAdd, Nat.reduceLeDiff, ofCells, List.drop_zero, List.take_succ_cons, List.take_zero, List.headD_cons, if_true, valK_ap, atK_ap, restV_ap, Eff.app, List.set, Eff.wi, Option.map_none, List.nil_append, opF_call, ev_func, List.map_cons, List.map_nil, callF_fn, List.append_nil, List.cons_append, opF_binOp, ty3, ev_const, cst_int, true_and])
      (refine ⟨by kernel_rfl, rfl, _, hs, ?_⟩; (try simp (disch := omega) only [Int.reduceNeg, if_true, binW_eql, valK_ap, atK_ap, restV_ap, Eff.app, List.set, Eff.wi, Option.map_none, List.cons_append, List.nil_append, regV_nil, sepL, List.not_mem_nil, false_implies, implies_true, true_and]))
      (refine hK _ ?_; clear hK K)
      (first | refine W_cond rfl (fun h => by cases h) (fun _ => ?_) | refine W_seq (W_cond rfl (fun h => by cases h) (fun _ => ?_)))
      refine W_skip ?_
      simp only [thenW]
      refine W_seq ?_
      ((refine W_seqV fun K hK => ?_); simp (disch := omega) only [Int.reduceNeg, regV_cons, effW_free, opF_load, ty27, ne_eq, reduceCtorEq, not_false_eq_true, TI.isAgg, true_or, ev_tmp, List.getD_cons_succ, List.getD_cons_zero, objOf, loadW_ptr, loadO_arr, List.length_cons, List.length_nil, Nat.zero_add, Nat.reduceLT, Nat.reduceAdd, Nat.reduceLeDiff, ofCells, List.drop_zero, List.take_succ_cons, List.take_zero, List.headD_cons, if_true, valK_ap, atK_ap, restV_ap, Eff.app, List.set, Eff.wi, Option.map_none, List.nil_append, opF_call, ev_func, List.map_cons, List.map_nil, callF_fn, List.append_nil, List.cons_append, opF_binOp, ty3, ev_const, cst_int, true_and])
      (refine ⟨by kernel_rfl, rfl, _, hs, ?_⟩; (try simp (disch := omega) only [Int.reduceNeg, if_true, binW_lss, Int.reduceLT, decide_true, valK_ap, atK_ap, restV_ap, Eff.app, List.set, Eff.wi, Option.map_none, List.cons_append, List.nil_append, regV_nil, sepL, List.not_mem_nil, false_implies, implies_true, true_and]))
      (refine hK _ ?_; clear hK K)
      (first | refine W_cond rfl (fun _ => ?_) (fun h => by cases h) | refine W_seq (W_cond rfl (fun _ => ?_) (fun h => by cases h)))
      ((refine W_regV fun K hK => ?_); simp (disch := omega) only [Int.reduceNeg, regV_cons, effW_free, opF_load, ty27, ne_eq, reduceCtorEq, not_false_eq_true, TI.isAgg, true_or, ev_tmp, List.getD_cons_succ, List.getD_cons_zero, objOf, loadW_ptr, loadO_arr, List.length_cons, List.length_nil, Nat.zero_add, Nat.reduceLT, Nat.reduceAdd, Nat.reduceLeDiff, ofCells, List.drop_zero, List.take_succ_cons, List.take_zero, List.headD_cons, if_true, valK_ap, atK_ap, restV_ap, Eff.app, List.set, Eff.wi, Option.map_none, List.nil_append, opF_call, ev_func, List.map_cons, List.map_nil, callF_fn, List.append_nil, List.cons_append, opF_store, storeF_ptr, storeO_arr, storable, AV.one, cellsOf, Bool.false_eq_true, false_implies, overlay, wrK_ap, Option.map_some, regV_nil, sepL, List.not_mem_nil, implies_true, true_and])
      (refine ⟨by kernel_rfl, rfl, _, hw, ?_⟩; (try simp (disch := omega) only [cZ, cI, List.all_cons, AV.one, List.all_nil, Bool.and_self, List.length_cons, List.length_nil, Nat.zero_add, Nat.reduceAdd, Int.reduceNeg, List.drop_succ_cons, List.drop_nil, List.append_nil, true_and]))
      (refine hK _ ?_; clear hK K)
      simp only [thenW]
      ((refine W_seqV fun K hK => ?_); simp (disch := omega) only [Int.reduceNeg, regV_cons, effW_free, opF_load, ty27, ne_eq, reduceCtorEq, not_false_eq_true, TI.isAgg, true_or, ev_tmp, List.getD_cons_succ, List.getD_cons_zero, objOf, loadW_ptr, loadO_arr, List.length_cons, List.length_nil, Nat.zero_add, Nat.reduceLT, Nat.reduceAdd, Nat.reduceLeDiff, ofCells, List.drop_zero, List.take_succ_cons, List.take_zero, List.headD_cons, if_true, valK_ap, atK_ap, restV_ap, Eff.app, List.set, Eff.wi, Option.map_none, List.nil_append, opF_fieldAddr, fieldAddrW_ptr, ty25, List.cons_append, Bool.false_eq_true, or_true, List.drop_succ_cons, if_false, opF_call, ev_func, List.map_cons, List.map_nil, callF_fn, List.append_nil, opF_store, ty29, storeF_ptr, storeO_arr, storable, AV.one, cellsOf, false_implies, overlay, wrK_ap, Option.map_some, opF_assign, ev_const, cst_int, regV_nil, sepL, List.not_mem_nil, implies_true, true_and])
      (refine ⟨by kernel_rfl, rfl, _, hm, ?_⟩; (try simp (disch := omega) only [cQ, List.all_cons, AV.one, List.all_nil, Bool.and_self, List.length_cons, List.length_nil, Nat.zero_add, Nat.reduceAdd, Int.reduceNeg, List.drop_succ_cons, List.drop_nil, List.append_nil, true_and]))
      (refine hK _ ?_; clear hK K)
      refine W_ret ?_
      simp (disch := omega) only [retR, resW, resV, List.getD_cons_succ, List.getD_cons_zero, asOne_two, view_tup, views_cons, view_int, views_nil]; try simp (disch := omega) only [ty29, ne_eq, reduceCtorEq, not_false_eq_true, TI.isAgg, true_or, cQ, loadW_ptr, List.getD_cons_succ, List.getD_cons_zero, loadO_arr, List.length_cons, List.length_nil, Nat.zero_add, Nat.reduceLT, Nat.reduceAdd, Nat.reduceLeDiff, ofCells, List.drop_zero, List.take_succ_cons, List.take_zero, List.headD_cons, if_true, view_agg, views_cons, view_bool, view_sl, views_nil, and_self]

set_option maxHeartbeats 1000000 in
theorem rwhole_ok (n : Int) (h1 : -9223372036854775808 ≤ n) (h2 : n < 9223372036854775808) : Pure Try.prog 34 [.int .i64 n] (· = cQ n) := by
  have hw := wof_ok n h1 h2
  (refine pureW Try.func34 rfl (rs := [Go.ResultVar.cell 2 29]) rfl (n := 7) rfl ?_; simp only [List.length_cons, List.length_nil, List.replicate, List.cons_append, List.nil_append])
  (repeat (refine W_seqV fun K hK => ?_; (try simp (disch := omega) only [regV_cons, effW_free, opF_alloc, dead, List.getElem?_cons_succ, List.getElem?_cons_zero, ty29, ne_eq, reduceCtorEq, not_false_eq_true, List.length_cons, List.length_nil, Nat.zero_add, Nat.reduceAdd, atK_ap, restV_ap, Eff.app, List.set, Eff.wi, Option.map_some, List.nil_append, regV_nil, sepL, List.not_mem_nil, false_implies, implies_true, true_and]); refine hK _ ?_; clear hK K))
  ((refine W_seqV fun K hK => ?_); simp (disch := omega) only [regV_cons, effW_free, opF_move, ev_tmp, List.getD_cons_zero, atK_ap, restV_ap, Eff.app, List.set, Eff.wi, Option.map_none, List.nil_append, opF_call, ev_func, List.map_cons, List.getD_cons_succ, List.map_nil, callF_fn, List.append_nil, List.cons_append, opF_buildSlice, ty25, ev_const, cst_int, litD_slice, dead, List.getElem?_cons_succ, List.getElem?_cons_zero, ty79, ne_eq, reduceCtorEq, not_false_eq_true, List.length_cons, List.length_nil, Nat.zero_add, range1, Nat.reduceMul, Nat.reduceLeDiff, storable, AV.one, cellsOf, List.forall_mem_cons, true_and, List.not_mem_nil, false_implies, implies_true, and_true, valK_ap, opF_build, ty29, buildW_struct, Nat.reduceAdd, Nat.reduceLT, ty27, and_self, laid, List.foldl_cons, List.take_zero, List.foldl_nil, opF_store, storeF_ptr, storeO_arr, Bool.false_eq_true, overlay, wrK_ap, Option.map_some, regV_nil, sepL])
  (refine ⟨by kernel_rfl, rfl, _, hw, ?_⟩; (try simp (disch := omega) only [cZ, cI, List.all_cons, AV.one, List.all_nil, Bool.and_self, List.length_cons, List.length_nil, Nat.zero_add, Nat.reduceAdd, Nat.reduceLeDiff, and_self, List.drop_succ_cons, List.drop_zero, List.cons_append, List.nil_append, List.take_succ_cons, List.take_zero, List.drop_nil, List.append_nil, true_and]); (repeat (refine And.intro (by first | omega | (show AV.pures _ = true; rfl)) ?_)))
  (refine hK _ ?_; clear hK K)
  refine W_ret ?_
  simp (disch := omega) only [retR, resW, resV, List.getD_cons_succ, List.getD_cons_zero, asOne_one]; try simp (disch := omega) only [ty29, ne_eq, reduceCtorEq, not_false_eq_true, TI.isAgg, true_or, cQ, loadW_ptr, List.getD_cons_succ, List.getD_cons_zero, loadO_arr, List.length_cons, List.length_nil, Nat.zero_add, Nat.reduceLT, Nat.reduceAdd, Nat.reduceLeDiff, ofCells, List.drop_zero, List.take_succ_cons, List.take_zero, List.headD_cons, if_true, view_agg, views_cons, view_bool, view_sl, views_nil, true_and]
  simp [limbs_1, u32s]
  rfl
end Go.Proofs.Ytjkjapjcmbfkgaa.Vm

