/-
  Part 5 of 8 of a proof.
-/
import Derived.Test.YtjkjapjcmbfkgaaImpliedTrue4
import Derived.Orders
import Derived.Below
import Derived.Laws.AppendOwn
import Derived.Laws.MakeOwn
import Derived.Laws.CopyRow
import Derived.Laws.Rows
import Derived.Laws.Cells
import Derived.Tactics
import Derived.Laws.BitsLemmas
import Derived.Test.YtjkjapjcmbfkgaaProg

/-
  Rational numbers: Cmp, Add, Mul, Inv, Div.
-/
namespace Go.Proofs.Ytjkjapjcmbfkgaa.Vm
open Go Go.RowKit
set_option linter.unusedVariables false
set_option linter.unusedSimpArgs false
set_option pp.deepTerms false
set_option pp.deepTerms.threshold 8

/-- A rational number's sign. -/
def rs (q : Rat) : Int := q.num.sign
theorem rs_mkRat (n : Int) {d : Nat} (h : d ≠ 0) : rs (mkRat n d) = n.sign := by
  unfold rs
  rw [Rat.num_mkRat, if_neg h]
  have hg : 0 < d.gcd n.natAbs := Nat.gcd_pos_of_pos_left _ (Nat.pos_of_ne_zero h)
  obtain ⟨k, hk⟩ : ((d.gcd n.natAbs : Nat) : Int) ∣ n := by
    rw [← Int.dvd_natAbs, Int.ofNat_dvd]; exact Nat.gcd_dvd_right _ _
  generalize d.gcd n.natAbs = g at *
  subst hk
  rw [Int.mul_ediv_cancel_left _ (by omega), Int.sign_mul, Int.sign_eq_one_of_pos (show (0 : Int) < (g : Int) by omega), Int.one_mul]
theorem rs_sub (a b : Rat) : rs (a - b) = (a.num * b.den - b.num * a.den).sign := by
  rw [Rat.sub_def', rs_mkRat _ (Nat.mul_ne_zero a.den_nz b.den_nz)]
theorem mkRat_iv (z : Int) (d : Nat) : mkRat (iv (decide (z < 0)) (limbs z.natAbs)) (val (limbs d)) = mkRat z d := by rw [iv_cZ, val_limbs]

theorem mul_qq (a b : Rat) (ha : (qr a).ok) (hb : (qr b).ok) : Pure Try.prog 32 [cI (decide (a.num < 0)) (limbs a.num.natAbs), cI (decide (b.num < 0)) (limbs b.num.natAbs)] (· = cZ (a.num * b.num)) := by
  have := wmul_ok (decide (a.num < 0)) (limbs a.num.natAbs) (limbs_limbs _) (Nat.lt_trans ha.nl (by decide)) (decide (b.num < 0)) (limbs b.num.natAbs) (limbs_limbs _) (Nat.lt_trans hb.nl (by decide))
  rwa [q_num, q_num] at this
theorem mul_qd (a b : Rat) (ha : (qr a).ok) (hb : (qr b).ok) : Pure Try.prog 32 [cI (decide (a.num < 0)) (limbs a.num.natAbs), cI false (limbs b.den)] (· = cZ (a.num * b.den)) := by
  have := wmul_ok (decide (a.num < 0)) (limbs a.num.natAbs) (limbs_limbs _) (Nat.lt_trans ha.nl (by decide)) false (limbs b.den) (limbs_limbs _) (Nat.lt_trans hb.dl (by decide))
  rwa [q_num, den_iv] at this
theorem zl_qd (a b : Rat) (ha : (qr a).ok) (hb : (qr b).ok) : zl (a.num * b.den) < 34359738368 := by
  have h1 := zl_mul a.num b.den
  have h2 : zl a.num < 17179869184 := ha.nl
  have h3 : zl (b.den : Int) < 17179869184 := hb.dl
  omega
theorem dd_ok (a b : Rat) (ha : (qr a).ok) (hb : (qr b).ok) : Pure Try.prog 38 [cNat (limbs a.den), cNat (limbs b.den)] (· = cN (a.den * b.den)) := by
  have := nmul_ok (limbs a.den) (limbs b.den) (limbs_limbs _) (limbs_limbs _) (Nat.lt_trans ha.dl (by decide)) (Nat.lt_trans hb.dl (by decide))
  rwa [val_limbs, val_limbs] at this
theorem dd_len (a b : Rat) (ha : (qr a).ok) (hb : (qr b).ok) : (limbs (a.den * b.den)).length < 34359738368 := by
  have h1 := len_mul a.den b.den
  have h2 : (limbs a.den).length < 17179869184 := ha.dl
  have h3 : (limbs b.den).length < 17179869184 := hb.dl
  omega
theorem made_zd (z : Int) (d : Nat) (hz : zl z < 274877906944) (hd : (limbs d).length < 274877906944) (h0 : d ≠ 0) :
    Pure Try.prog 56 [cI (decide (z < 0)) (limbs z.natAbs), cNat (limbs d)] (· = cQ (mkRat z d)) := by
  have := rmade_ok (decide (z < 0)) (limbs z.natAbs) (limbs d) (limbs_limbs _) (limbs_limbs _) hz hd (by rw [val_limbs]; exact h0)
  rwa [mkRat_iv] at this

set_option maxHeartbeats 4000000 in
theorem rcmp_ok (r t : RR) (hr : r.ok) (ht : t.ok) : Pure Try.prog 17 [r.av, t.av] (· = .int .i64 (rs (r.v - t.v))) := by
  have hn := rnorm_ok r hr
  have hm := rnorm_ok t ht
  have ho := v_ok hr
  have hp := v_ok ht
  obtain ⟨neg, n, d⟩ := r
  obtain ⟨neg', n', d'⟩ := t
  simp only [RR.av] at hn hm ⊢
  generalize RR.v _ = q at *
  generalize RR.v _ = p at *
  have h1 := mul_qd q p ho hp
  have h2 := mul_qd p q hp ho
  have z1 := zl_qd q p ho hp
  have z2 := zl_qd p q hp ho
  have hc := wcmp_ok (decide (q.num * p.den < 0)) (limbs (q.num * p.den).natAbs) (limbs_limbs _) (Nat.lt_trans z1 (by decide)) (decide (p.num * q.den < 0)) (limbs (p.num * q.den).natAbs) (limbs_limbs _) (Nat.lt_trans z2 (by decide))
  rw [iv_cZ, iv_cZ] at hc
  rw [rs_sub]
  simp only [cQ] at hn hm
  (refine pureW Try.func17 rfl (rs := [Go.ResultVar.tmp 4]) rfl (n := 22) rfl ?_; simp only [List.length_cons, List.length_nil, List.replicate, List.cons_append, List.nil_append])
  ((refine W_seqV fun K hK => ?_); simp (disch := omega) only [regV_cons, effW_free, opF_box, dead, List.getElem?_cons_succ, List.getElem?_cons_zero, storable, ev_tmp, List.getD_cons_zero, List.all_cons, AV.one, List.all_nil, Bool.and_self, cellsOf, List.length_cons, List.length_nil, Nat.zero_add, Nat.reduceAdd, atK_ap, restV_ap, Eff.app, List.set, Eff.wi, Option.map_some, List.nil_append, List.getD_cons_succ, List.cons_append, opF_assign, ev_const, cst_int, Option.map_none, regV_nil, sepL, List.not_mem_nil, false_implies, implies_true, true_and])
  (refine hK _ ?_; clear hK K)
  ((refine W_seqD mixed [(2, 4)] (by kernel_rfl) fun K hK => ?_); simp (disch := omega) only [regV_cons, effW_free, opF_load, ty29, ne_eq, reduceCtorEq, not_false_eq_true, TI.isAgg, true_or, ev_tmp, List.getD_cons_succ, List.getD_cons_zero, objOf, loadW_ptr, loadO_arr, List.length_cons, List.length_nil, Nat.zero_add, Nat.reduceLT, Nat.reduceAdd, Nat.reduceLeDiff, ofCells, List.drop_zero, List.take_succ_cons, List.take_zero, List.headD_cons, if_true, valK_ap, atK_ap, restV_ap, Eff.app, List.set, Eff.wi, Option.map_none, List.nil_append, opF_call, ev_func, List.map_cons, List.map_nil, callF_fn, List.append_nil, List.cons_append, opF_store, storeF_ptr, storeO_arr, storable, AV.one, cellsOf, Bool.false_eq_true, false_implies, overlay, wrK_ap, Option.map_some, regV_nil, sepL, List.forall_mem_cons, List.getElem?_cons_succ, List.getElem?_cons_zero, List.not_mem_nil, implies_true, and_true, true_and])
  (refine ⟨by kernel_rfl, rfl, _, hn, ?_⟩; (try simp (disch := omega) only [List.all_cons, AV.one, List.all_nil, Bool.and_self, List.length_cons, List.length_nil, Nat.zero_add, Nat.reduceAdd, List.drop_succ_cons, List.drop_nil, List.append_nil, true_and]))
  (refine ⟨by kernel_rfl, rfl, _, hm, ?_⟩; (try simp (disch := omega) only [List.all_cons, AV.one, List.all_nil, Bool.and_self, List.length_cons, List.length_nil, Nat.zero_add, Nat.reduceAdd, List.drop_succ_cons, List.drop_nil, List.append_nil, true_and]); (repeat (refine And.intro (by first | omega | (simp only [sepP]; decide)) ?_)))
  (refine hK _ ?_; clear hK K)
  ((refine W_seqD mixed [] (by kernel_rfl) fun K hK => ?_); simp (disch := omega) only [regV_cons, effW_free, opF_fieldAddr, ty29, ev_tmp, List.getD_cons_succ, List.getD_cons_zero, fieldAddrW_ptr, List.length_cons, List.length_nil, Nat.zero_add, Nat.reduceAdd, Nat.reduceLT, ty27, ne_eq, reduceCtorEq, not_false_eq_true, Nat.add_zero, valK_ap, atK_ap, restV_ap, Eff.app, List.set, Eff.wi, Option.map_none, List.nil_append, opF_load, TI.isAgg, true_or, objOf, loadW_ptr, loadO_arr, Nat.reduceLeDiff, ofCells, List.drop_zero, List.take_succ_cons, List.take_zero, List.headD_cons, if_true, List.cons_append, ty25, Bool.false_eq_true, or_true, List.drop_succ_cons, if_false, opF_build, List.map_cons, List.map_nil, buildW_struct, storable, AV.one, cellsOf, List.forall_mem_cons, and_self, List.not_mem_nil, false_implies, implies_true, ty4, laid, List.foldl_cons, List.drop_nil, List.append_nil, List.foldl_nil, opF_call, ev_func, callF_fn, opF_assign, regV_nil, sepL, true_and])
  (refine ⟨by kernel_rfl, rfl, _, h1, ?_⟩; (try simp (disch := omega) only [cZ, cI]))
  (refine ⟨by kernel_rfl, rfl, _, h2, ?_⟩; (try simp (disch := omega) only [cZ, cI]))
  (refine ⟨by kernel_rfl, rfl, _, hc, ?_⟩)
  (refine hK _ ?_; clear hK K)
  refine W_ret ?_
  simp (disch := omega) only [retR, resW, resV, List.getD_cons_succ, List.getD_cons_zero, asOne_one, view_int]

set_option maxHeartbeats 4000000 in
theorem radd_ok (r t : RR) (hr : r.ok) (ht : t.ok) : Pure Try.prog 86 [r.av, t.av] (· = cQ (r.v + t.v)) := by
  have hn := rnorm_ok r hr
  have hm := rnorm_ok t ht
  have ho := v_ok hr
  have hp := v_ok ht
  obtain ⟨neg, n, d⟩ := r
  obtain ⟨neg', n', d'⟩ := t
  simp only [RR.av] at hn hm ⊢
  generalize RR.v _ = q at *
  generalize RR.v _ = p at *
  have h1 := mul_qd q p ho hp
  have h2 := mul_qd p q hp ho
  have z1 := zl_qd q p ho hp
  have z2 := zl_qd p q hp ho
  have hc := wadd_ok (decide (q.num * p.den < 0)) (limbs (q.num * p.den).natAbs) (limbs_limbs _) (Nat.lt_trans z1 (by decide)) (decide (p.num * q.den < 0)) (limbs (p.num * q.den).natAbs) (limbs_limbs _) (Nat.lt_trans z2 (by decide))
  rw [iv_cZ, iv_cZ] at hc
  have z3 := zl_add (q.num * p.den) (p.num * q.den)
  have hd := dd_ok q p ho hp
  have hl := dd_len q p ho hp
  have hmd := made_zd (q.num * p.den + p.num * q.den) (q.den * p.den) (by omega) (by omega) (Nat.mul_ne_zero q.den_nz p.den_nz)
  rw [← Rat.add_def'] at hmd
  simp only [cQ] at hn hm
  (refine pureW Try.func86 rfl (rs := [Go.ResultVar.cell 4 29]) rfl (n := 30) rfl ?_; simp only [List.length_cons, List.length_nil, List.replicate, List.cons_append, List.nil_append])
  ((refine W_seqV fun K hK => ?_); simp (disch := omega) only [regV_cons, effW_free, opF_box, dead, List.getElem?_cons_succ, List.getElem?_cons_zero, storable, ev_tmp, List.getD_cons_zero, List.all_cons, AV.one, List.all_nil, Bool.and_self, cellsOf, List.length_cons, List.length_nil, Nat.zero_add, Nat.reduceAdd, atK_ap, restV_ap, Eff.app, List.set, Eff.wi, Option.map_some, List.nil_append, List.getD_cons_succ, List.cons_append, opF_alloc, ty29, ne_eq, reduceCtorEq, not_false_eq_true, regV_nil, sepL, List.not_mem_nil, false_implies, implies_true, true_and])
  (refine hK _ ?_; clear hK K)
  ((refine W_seqD mixed [(2, 4)] (by kernel_rfl) fun K hK => ?_); simp (disch := omega) only [regV_cons, effW_free, opF_load, ty29, ne_eq, reduceCtorEq, not_false_eq_true, TI.isAgg, true_or, ev_tmp, List.getD_cons_succ, List.getD_cons_zero, objOf, loadW_ptr, loadO_arr, List.length_cons, List.length_nil, Nat.zero_add, Nat.reduceLT, Nat.reduceAdd, Nat.reduceLeDiff, ofCells, List.drop_zero, List.take_succ_cons, List.take_zero, List.headD_cons, if_true, valK_ap, atK_ap, restV_ap, Eff.app, List.set, Eff.wi, Option.map_none, List.nil_append, opF_call, ev_func, List.map_cons, List.map_nil, callF_fn, List.append_nil, List.cons_append, opF_store, storeF_ptr, storeO_arr, storable, AV.one, cellsOf, Bool.false_eq_true, false_implies, overlay, wrK_ap, Option.map_some, regV_nil, sepL, List.forall_mem_cons, List.getElem?_cons_succ, List.getElem?_cons_zero, List.not_mem_nil, implies_true, and_true, true_and])
  (refine ⟨by kernel_rfl, rfl, _, hn, ?_⟩; (try simp (disch := omega) only [List.all_cons, AV.one, List.all_nil, Bool.and_self, List.length_cons, List.length_nil, Nat.zero_add, Nat.reduceAdd, List.drop_succ_cons, List.drop_nil, List.append_nil, true_and]))
  (refine ⟨by kernel_rfl, rfl, _, hm, ?_⟩; (try simp (disch := omega) only [List.all_cons, AV.one, List.all_nil, Bool.and_self, List.length_cons, List.length_nil, Nat.zero_add, Nat.reduceAdd, List.drop_succ_cons, List.drop_nil, List.append_nil, true_and]); (repeat (refine And.intro (by first | omega | (simp only [sepP]; decide)) ?_)))
  (refine hK _ ?_; clear hK K)
  ((refine W_seqD mixed [(1, 13), (3, 13), (7, 13), (9, 13)] (by kernel_rfl) fun K hK => ?_); simp (disch := omega) only [regV_cons, effW_free, opF_fieldAddr, ty29, ev_tmp, List.getD_cons_succ, List.getD_cons_zero, fieldAddrW_ptr, List.length_cons, List.length_nil, Nat.zero_add, Nat.reduceAdd, Nat.reduceLT, ty27, ne_eq, reduceCtorEq, not_false_eq_true, Nat.add_zero, valK_ap, atK_ap, restV_ap, Eff.app, List.set, Eff.wi, Option.map_none, List.nil_append, opF_load, TI.isAgg, true_or, objOf, loadW_ptr, loadO_arr, Nat.reduceLeDiff, ofCells, List.drop_zero, List.take_succ_cons, List.take_zero, List.headD_cons, if_true, List.cons_append, ty25, Bool.false_eq_true, or_true, List.drop_succ_cons, if_false, opF_build, List.map_cons, List.map_nil, buildW_struct, storable, AV.one, cellsOf, List.forall_mem_cons, and_self, List.not_mem_nil, false_implies, implies_true, ty4, laid, List.foldl_cons, List.drop_nil, List.append_nil, List.foldl_nil, opF_call, ev_func, callF_fn, opF_alloc, dead, List.getElem?_cons_succ, List.getElem?_cons_zero, Option.map_some, opF_store, storeF_ptr, storeO_arr, overlay, wrK_ap, regV_nil, sepL, and_true, true_and])
  (refine ⟨by kernel_rfl, rfl, _, h1, ?_⟩; (try simp (disch := omega) only [cZ, cI]))
  (refine ⟨by kernel_rfl, rfl, _, h2, ?_⟩; (try simp (disch := omega) only [cZ, cI]))
  (refine ⟨by kernel_rfl, rfl, _, hc, ?_⟩; (try simp (disch := omega) only [cZ, cI, List.all_cons, AV.one, List.all_nil, Bool.and_self, List.length_cons, List.length_nil, Nat.zero_add, Nat.reduceAdd, List.drop_succ_cons, List.drop_nil, List.append_nil, true_and]); (repeat (refine And.intro (by first | omega | (simp only [sepP]; decide)) ?_)))
  (refine hK _ ?_; clear hK K)
  ((refine W_seqD mixed [] (by kernel_rfl) fun K hK => ?_); simp (disch := omega) only [regV_cons, effW_free, opF_load, ty27, ne_eq, reduceCtorEq, not_false_eq_true, TI.isAgg, true_or, ev_tmp, List.getD_cons_succ, List.getD_cons_zero, objOf, loadW_ptr, loadO_arr, List.length_cons, List.length_nil, Nat.zero_add, Nat.reduceLT, Nat.reduceAdd, Nat.reduceLeDiff, ofCells, List.drop_zero, List.take_succ_cons, List.take_zero, List.headD_cons, if_true, valK_ap, atK_ap, restV_ap, Eff.app, List.set, Eff.wi, Option.map_none, List.nil_append, opF_fieldAddr, ty29, fieldAddrW_ptr, ty25, List.cons_append, Bool.false_eq_true, or_true, List.drop_succ_cons, if_false, opF_call, ev_func, List.map_cons, List.map_nil, callF_fn, List.append_nil, opF_store, storeF_ptr, storeO_arr, storable, AV.one, cellsOf, false_implies, overlay, wrK_ap, Option.map_some, regV_nil, sepL, List.not_mem_nil, implies_true, true_and])
  (refine ⟨by kernel_rfl, rfl, _, hd, ?_⟩; (try simp (disch := omega) only [cN, cNat]))
  (refine ⟨by kernel_rfl, rfl, _, hmd, ?_⟩; (try simp (disch := omega) only [cQ, List.all_cons, AV.one, List.all_nil, Bool.and_self, List.length_cons, List.length_nil, Nat.zero_add, Nat.reduceAdd, List.drop_succ_cons, List.drop_nil, List.append_nil, true_and]))
  (refine hK _ ?_; clear hK K)
  refine W_ret ?_
  simp (disch := omega) only [retR, resW, resV, List.getD_cons_succ, List.getD_cons_zero, asOne_one]; try simp (disch := omega) only [ty29, ne_eq, reduceCtorEq, not_false_eq_true, TI.isAgg, true_or, cQ, loadW_ptr, List.getD_cons_succ, List.getD_cons_zero, loadO_arr, List.length_cons, List.length_nil, Nat.zero_add, Nat.reduceLT, Nat.reduceAdd, Nat.reduceLeDiff, ofCells, List.drop_zero, List.take_succ_cons, List.take_zero, List.headD_cons, if_true, view_agg, views_cons, view_bool, view_sl, views_nil, and_self]

set_option maxHeartbeats 4000000 in
theorem rmul_ok (r t : RR) (hr : r.ok) (ht : t.ok) : Pure Try.prog 43 [r.av, t.av] (· = cQ (r.v * t.v)) := by
  have hn := rnorm_ok r hr
  have hm := rnorm_ok t ht
  have ho := v_ok hr
  have hp := v_ok ht
  obtain ⟨neg, n, d⟩ := r
  obtain ⟨neg', n', d'⟩ := t
  simp only [RR.av] at hn hm ⊢
  generalize RR.v _ = q at *
  generalize RR.v _ = p at *
  have h1 := mul_qq q p ho hp
  have z1 : zl (q.num * p.num) < 34359738368 := by
    have h1 := zl_mul q.num p.num
    have h2 : zl q.num < 17179869184 := ho.nl
    have h3 : zl p.num < 17179869184 := hp.nl
    omega
  have hd := dd_ok q p ho hp
  have hl := dd_len q p ho hp
  have hmd := made_zd (q.num * p.num) (q.den * p.den) (by omega) (by omega) (Nat.mul_ne_zero q.den_nz p.den_nz)
  rw [← Rat.mul_def'] at hmd
  simp only [cQ] at hn hm
  (refine pureW Try.func43 rfl (rs := [Go.ResultVar.cell 4 29]) rfl (n := 20) rfl ?_; simp only [List.length_cons, List.length_nil, List.replicate, List.cons_append, List.nil_append])
  ((refine W_seqV fun K hK => ?_); simp (disch := omega) only [regV_cons, effW_free, opF_box, dead, List.getElem?_cons_succ, List.getElem?_cons_zero, storable, ev_tmp, List.getD_cons_zero, List.all_cons, AV.one, List.all_nil, Bool.and_self, cellsOf, List.length_cons, List.length_nil, Nat.zero_add, Nat.reduceAdd, atK_ap, restV_ap, Eff.app, List.set, Eff.wi, Option.map_some, List.nil_append, List.getD_cons_succ, List.cons_append, opF_alloc, ty29, ne_eq, reduceCtorEq, not_false_eq_true, regV_nil, sepL, List.not_mem_nil, false_implies, implies_true, true_and])
  (refine hK _ ?_; clear hK K)
  ((refine W_seqD mixed [(2, 4)] (by kernel_rfl) fun K hK => ?_); simp (disch := omega) only [regV_cons, effW_free, opF_load, ty29, ne_eq, reduceCtorEq, not_false_eq_true, TI.isAgg, true_or, ev_tmp, List.getD_cons_succ, List.getD_cons_zero, objOf, loadW_ptr, loadO_arr, List.length_cons, List.length_nil, Nat.zero_add, Nat.reduceLT, Nat.reduceAdd, Nat.reduceLeDiff, ofCells, List.drop_zero, List.take_succ_cons, List.take_zero, List.headD_cons, if_true, valK_ap, atK_ap, restV_ap, Eff.app, List.set, Eff.wi, Option.map_none, List.nil_append, opF_call, ev_func, List.map_cons, List.map_nil, callF_fn, List.append_nil, List.cons_append, opF_store, storeF_ptr, storeO_arr, storable, AV.one, cellsOf, Bool.false_eq_true, false_implies, overlay, wrK_ap, Option.map_some, regV_nil, sepL, List.forall_mem_cons, List.getElem?_cons_succ, List.getElem?_cons_zero, List.not_mem_nil, implies_true, and_true, true_and])
  (refine ⟨by kernel_rfl, rfl, _, hn, ?_⟩; (try simp (disch := omega) only [List.all_cons, AV.one, List.all_nil, Bool.and_self, List.length_cons, List.length_nil, Nat.zero_add, Nat.reduceAdd, List.drop_succ_cons, List.drop_nil, List.append_nil, true_and]))
  (refine ⟨by kernel_rfl, rfl, _, hm, ?_⟩; (try simp (disch := omega) only [List.all_cons, AV.one, List.all_nil, Bool.and_self, List.length_cons, List.length_nil, Nat.zero_add, Nat.reduceAdd, List.drop_succ_cons, List.drop_nil, List.append_nil, true_and]); (repeat (refine And.intro (by first | omega | (simp only [sepP]; decide)) ?_)))
  (refine hK _ ?_; clear hK K)
  ((refine W_seqD mixed [] (by kernel_rfl) fun K hK => ?_); simp (disch := omega) only [regV_cons, effW_free, opF_fieldAddr, ty29, ev_tmp, List.getD_cons_succ, List.getD_cons_zero, fieldAddrW_ptr, List.length_cons, List.length_nil, Nat.zero_add, Nat.reduceAdd, Nat.reduceLT, ty27, ne_eq, reduceCtorEq, not_false_eq_true, Nat.add_zero, valK_ap, atK_ap, restV_ap, Eff.app, List.set, Eff.wi, Option.map_none, List.nil_append, opF_load, TI.isAgg, true_or, objOf, loadW_ptr, loadO_arr, Nat.reduceLeDiff, ofCells, List.drop_zero, List.take_succ_cons, List.take_zero, List.headD_cons, if_true, List.cons_append, opF_call, ev_func, List.map_cons, List.map_nil, callF_fn, List.append_nil, ty25, Bool.false_eq_true, or_true, List.drop_succ_cons, if_false, opF_store, storeF_ptr, storeO_arr, storable, AV.one, cellsOf, false_implies, overlay, wrK_ap, Option.map_some, regV_nil, sepL, List.not_mem_nil, implies_true, true_and])
  (refine ⟨by kernel_rfl, rfl, _, h1, ?_⟩; (try simp (disch := omega) only [cZ, cI]))
  (refine ⟨by kernel_rfl, rfl, _, hd, ?_⟩; (try simp (disch := omega) only [cN, cNat]))
  (refine ⟨by kernel_rfl, rfl, _, hmd, ?_⟩; (try simp (disch := omega) only [cQ, List.all_cons, AV.one, List.all_nil, Bool.and_self, List.length_cons, List.length_nil, Nat.zero_add, Nat.reduceAdd, List.drop_succ_cons, List.drop_nil, List.append_nil, true_and]))
  (refine hK _ ?_; clear hK K)
  refine W_ret ?_
  simp (disch := omega) only [retR, resW, resV, List.getD_cons_succ, List.getD_cons_zero, asOne_one]; try simp (disch := omega) only [ty29, ne_eq, reduceCtorEq, not_false_eq_true, TI.isAgg, true_or, cQ, loadW_ptr, List.getD_cons_succ, List.getD_cons_zero, loadO_arr, List.length_cons, List.length_nil, Nat.zero_add, Nat.reduceLT, Nat.reduceAdd, Nat.reduceLeDiff, ofCells, List.drop_zero, List.take_succ_cons, List.take_zero, List.headD_cons, if_true, view_agg, views_cons, view_bool, view_sl, views_nil, and_self]

/-- What Inv and Div answer where nothing can be divided by. -/
def noQ : AV := .tup [.agg [.bool false, .sl [], .sl []], .int .i64 11]
def cQE (q : Rat) : AV := .tup [cQ q, .int .i64 0]
theorem val_zero_num {q : Rat} : val (limbs q.num.natAbs) = 0 ↔ q = 0 := by
  rw [val_limbs, Int.natAbs_eq_zero, Rat.num_eq_zero]

set_option maxHeartbeats 4000000 in
theorem rinv_ok (r : RR) (hr : r.ok) : Pure Try.prog 40 [r.av] (· = if r.v = 0 then noQ else cQE (r.v)⁻¹) := by
  have hn := rnorm_ok r hr
  have ho := v_ok hr
  obtain ⟨neg, n, d⟩ := r
  simp only [RR.av] at hn ⊢
  generalize RR.v _ = q at *
  have hf := rof_ok false (limbs q.den) (limbs_limbs _) (Nat.lt_trans ho.dl (by decide)) (decide (q.num < 0)) (limbs q.num.natAbs) (limbs_limbs _) (Nat.lt_trans ho.nl (by decide))
  rw [q_num, den_iv, ← Rat.inv_def] at hf
  simp only [cQ] at hn
  by_cases h0 : q = 0
  · rw [if_pos (val_zero_num.2 h0)] at hf
    rw [if_pos h0]
    (refine pureW Try.func40 rfl (rs := [Go.ResultVar.cell 2 29, Go.ResultVar.tmp 3]) rfl (n := 14) rfl ?_; simp only [List.length_cons, List.length_nil, List.replicate, List.cons_append, List.nil_append])
    (repeat (refine W_seqV fun K hK => ?_; (try simp (disch := omega) only [regV_cons, effW_free, opF_box, dead, List.getElem?_cons_succ, List.getElem?_cons_zero, storable, ev_tmp, List.getD_cons_zero, List.all_cons, AV.one, List.all_nil, Bool.and_self, cellsOf, List.length_cons, List.length_nil, Nat.zero_add, Nat.reduceAdd, atK_ap, restV_ap, Eff.app, List.set, Eff.wi, Option.map_some, List.nil_append, opF_alloc, ty29, ne_eq, reduceCtorEq, not_false_eq_true, List.cons_append, opF_assign, ev_const, cst_int, Option.map_none, regV_nil, sepL, List.not_mem_nil, false_implies, implies_true, true_and]); refine hK _ ?_; clear hK K))
    ((refine W_seqV fun K hK => ?_); simp (disch := omega) only [regV_cons, effW_free, opF_load, ty29, ne_eq, reduceCtorEq, not_false_eq_true, TI.isAgg, true_or, ev_tmp, List.getD_cons_succ, List.getD_cons_zero, objOf, loadW_ptr, loadO_arr, List.length_cons, List.length_nil, Nat.zero_add, Nat.reduceLT, Nat.reduceAdd, Nat.reduceLeDiff, ofCells, List.drop_zero, List.take_succ_cons, List.take_zero, List.headD_cons, if_true, valK_ap, atK_ap, restV_ap, Eff.app, List.set, Eff.wi, Option.map_none, List.nil_append, opF_call, ev_func, List.map_cons, List.map_nil, callF_fn, List.append_nil, List.cons_append, opF_store, storeF_ptr, storeO_arr, storable, AV.one, cellsOf, Bool.false_eq_true, false_implies, overlay, wrK_ap, Option.map_some, regV_nil, sepL, List.not_mem_nil, implies_true, true_and])
    (refine ⟨by kernel_rfl, rfl, _, hn, ?_⟩; (try simp (disch := omega) only [List.all_cons, AV.one, List.all_nil, Bool.and_self, List.length_cons, List.length_nil, Nat.zero_add, Nat.reduceAdd, List.drop_succ_cons, List.drop_nil, List.append_nil, true_and]))
    (refine hK _ ?_; clear hK K)
    ((refine W_seqV fun K hK => ?_); simp (disch := omega) only [regV_cons, effW_free, opF_fieldAddr, ty29, ev_tmp, List.getD_cons_succ, List.getD_cons_zero, fieldAddrW_ptr, List.length_cons, List.length_nil, Nat.zero_add, Nat.reduceAdd, Nat.reduceLT, ty25, ne_eq, reduceCtorEq, not_false_eq_true, valK_ap, atK_ap, restV_ap, Eff.app, List.set, Eff.wi, Option.map_none, List.nil_append, opF_load, TI.isAgg, Bool.false_eq_true, or_true, objOf, loadW_ptr, loadO_arr, Nat.reduceLeDiff, ofCells, List.drop_succ_cons, List.drop_zero, List.take_succ_cons, List.take_zero, List.headD_cons, if_false, List.cons_append, opF_build, ty27, List.map_cons, List.map_nil, buildW_struct, storable, AV.one, cellsOf, List.forall_mem_cons, and_self, List.not_mem_nil, false_implies, implies_true, ty4, laid, List.foldl_cons, List.drop_nil, List.append_nil, List.foldl_nil, Nat.add_zero, true_or, if_true, opF_call, ev_func, callF_fn, opF_extract, true_and])
    (refine ⟨by kernel_rfl, rfl, _, hf, ?_⟩; (try simp (disch := omega) only [extractW_tup, List.length_cons, List.length_nil, Nat.zero_add, Nat.reduceAdd, Nat.reduceLT, List.getD_cons_zero, valK_ap, atK_ap, restV_ap, Eff.app, List.set, Eff.wi, Option.map_none, List.cons_append, List.nil_append, regV_cons, effW_free, opF_extract, ev_tmp, List.getD_cons_succ, opF_store, ty29, ne_eq, reduceCtorEq, not_false_eq_true, storeF_ptr, storeO_arr, storable, List.all_cons, AV.one, List.all_nil, Bool.and_self, cellsOf, Bool.false_eq_true, false_implies, Nat.reduceLeDiff, overlay, List.take_zero, List.drop_succ_cons, List.drop_nil, List.append_nil, wrK_ap, Option.map_some, opF_assign, regV_nil, sepL, List.not_mem_nil, implies_true, true_and]))
    (refine hK _ ?_; clear hK K)
    refine W_ret ?_
    simp (disch := omega) only [retR, resW, resV, List.getD_cons_succ, List.getD_cons_zero, asOne_two, view_tup, views_cons, view_int, views_nil]; try simp (disch := omega) only [ty29, ne_eq, reduceCtorEq, not_false_eq_true, TI.isAgg, true_or, loadW_ptr, List.getD_cons_succ, List.getD_cons_zero, loadO_arr, List.length_cons, List.length_nil, Nat.zero_add, Nat.reduceLT, Nat.reduceAdd, Nat.reduceLeDiff, ofCells, List.drop_zero, List.take_succ_cons, List.take_zero, List.headD_cons, if_true, view_agg, views_cons, view_bool, view_sl, views_nil, true_and]
    rfl
  · rw [if_neg (fun h => h0 (val_zero_num.1 h))] at hf
    rw [if_neg h0]
    (refine pureW Try.func40 rfl (rs := [Go.ResultVar.cell 2 29, Go.ResultVar.tmp 3]) rfl (n := 14) rfl ?_; simp only [List.length_cons, List.length_nil, List.replicate, List.cons_append, List.nil_append])
    (repeat (refine W_seqV fun K hK => ?_; (try simp (disch := omega) only [regV_cons, effW_free, opF_box, dead, List.getElem?_cons_succ, List.getElem?_cons_zero, storable, ev_tmp, List.getD_cons_zero, List.all_cons, AV.one, List.all_nil, Bool.and_self, cellsOf, List.length_cons, List.length_nil, Nat.zero_add, Nat.reduceAdd, atK_ap, restV_ap, Eff.app, List.set, Eff.wi, Option.map_some, List.nil_append, opF_alloc, ty29, ne_eq, reduceCtorEq, not_false_eq_true, List.cons_append, opF_assign, ev_const, cst_int, Option.map_none, regV_nil, sepL, List.not_mem_nil, false_implies, implies_true, true_and]); refine hK _ ?_; clear hK K))
    ((refine W_seqV fun K hK => ?_); simp (disch := omega) only [regV_cons, effW_free, opF_load, ty29, ne_eq, reduceCtorEq, not_false_eq_true, TI.isAgg, true_or, ev_tmp, List.getD_cons_succ, List.getD_cons_zero, objOf, loadW_ptr, loadO_arr, List.length_cons, List.length_nil, Nat.zero_add, Nat.reduceLT, Nat.reduceAdd, Nat.reduceLeDiff, ofCells, List.drop_zero, List.take_succ_cons, List.take_zero, List.headD_cons, if_true, valK_ap, atK_ap, restV_ap, Eff.app, List.set, Eff.wi, Option.map_none, List.nil_append, opF_call, ev_func, List.map_cons, List.map_nil, callF_fn, List.append_nil, List.cons_append, opF_store, storeF_ptr, storeO_arr, storable, AV.one, cellsOf, Bool.false_eq_true, false_implies, overlay, wrK_ap, Option.map_some, regV_nil, sepL, List.not_mem_nil, implies_true, true_and])
    (refine ⟨by kernel_rfl, rfl, _, hn, ?_⟩; (try simp (disch := omega) only [List.all_cons, AV.one, List.all_nil, Bool.and_self, List.length_cons, List.length_nil, Nat.zero_add, Nat.reduceAdd, List.drop_succ_cons, List.drop_nil, List.append_nil, true_and]))
    (refine hK _ ?_; clear hK K)
    ((refine W_seqV fun K hK => ?_); simp (disch := omega) only [regV_cons, effW_free, opF_fieldAddr, ty29, ev_tmp, List.getD_cons_succ, List.getD_cons_zero, fieldAddrW_ptr, List.length_cons, List.length_nil, Nat.zero_add, Nat.reduceAdd, Nat.reduceLT, ty25, ne_eq, reduceCtorEq, not_false_eq_true, valK_ap, atK_ap, restV_ap, Eff.app, List.set, Eff.wi, Option.map_none, List.nil_append, opF_load, TI.isAgg, Bool.false_eq_true, or_true, objOf, loadW_ptr, loadO_arr, Nat.reduceLeDiff, ofCells, List.drop_succ_cons, List.drop_zero, List.take_succ_cons, List.take_zero, List.headD_cons, if_false, List.cons_append, opF_build, ty27, List.map_cons, List.map_nil, buildW_struct, storable, AV.one, cellsOf, List.forall_mem_cons, and_self, List.not_mem_nil, false_implies, implies_true, ty4, laid, List.foldl_cons, List.drop_nil, List.append_nil, List.foldl_nil, Nat.add_zero, true_or, if_true, opF_call, ev_func, callF_fn, opF_extract, true_and])
    (refine ⟨by kernel_rfl, rfl, _, hf, ?_⟩; (try simp (disch := omega) only [cQ, extractW_tup, List.length_cons, List.length_nil, Nat.zero_add, Nat.reduceAdd, Nat.reduceLT, List.getD_cons_zero, valK_ap, atK_ap, restV_ap, Eff.app, List.set, Eff.wi, Option.map_none, List.cons_append, List.nil_append, regV_cons, effW_free, opF_extract, ev_tmp, List.getD_cons_succ, opF_store, ty29, ne_eq, reduceCtorEq, not_false_eq_true, storeF_ptr, storeO_arr, storable, List.all_cons, AV.one, List.all_nil, Bool.and_self, cellsOf, Bool.false_eq_true, false_implies, Nat.reduceLeDiff, overlay, List.take_zero, List.drop_succ_cons, List.drop_nil, List.append_nil, wrK_ap, Option.map_some, opF_assign, regV_nil, sepL, List.not_mem_nil, implies_true, true_and]))
    (refine hK _ ?_; clear hK K)
    refine W_ret ?_
    simp (disch := omega) only [retR, resW, resV, List.getD_cons_succ, List.getD_cons_zero, asOne_two, view_tup, views_cons, view_int, views_nil]; try simp (disch := omega) only [ty29, ne_eq, reduceCtorEq, not_false_eq_true, TI.isAgg, true_or, loadW_ptr, List.getD_cons_succ, List.getD_cons_zero, loadO_arr, List.length_cons, List.length_nil, Nat.zero_add, Nat.reduceLT, Nat.reduceAdd, Nat.reduceLeDiff, ofCells, List.drop_zero, List.take_succ_cons, List.take_zero, List.headD_cons, if_true, view_agg, views_cons, view_bool, view_sl, views_nil, true_and]
    rfl

set_option maxHeartbeats 4000000 in
theorem rdiv_ok (r t : RR) (hr : r.ok) (ht : t.ok) : Pure Try.prog 20 [r.av, t.av] (· = if t.v = 0 then noQ else cQE (r.v / t.v)) := by
  have hi := rinv_ok t ht
  have ho := v_ok ht
  by_cases h0 : t.v = 0
  · rw [if_pos h0] at hi ⊢
    obtain ⟨neg, n, d⟩ := r
    obtain ⟨neg', n', d'⟩ := t
    simp only [RR.av, noQ] at hi ⊢
    (refine pureW Try.func20 rfl (rs := [Go.ResultVar.cell 4 29, Go.ResultVar.tmp 5]) rfl (n := 20) rfl ?_; simp only [List.length_cons, List.length_nil, List.replicate, List.cons_append, List.nil_append])
    (repeat (refine W_seqV fun K hK => ?_; (try simp (disch := omega) only [regV_cons, effW_free, opF_box, dead, List.getElem?_cons_succ, List.getElem?_cons_zero, storable, ev_tmp, List.getD_cons_zero, List.all_cons, AV.one, List.all_nil, Bool.and_self, cellsOf, List.length_cons, List.length_nil, Nat.zero_add, Nat.reduceAdd, atK_ap, restV_ap, Eff.app, List.set, Eff.wi, Option.map_some, List.nil_append, List.getD_cons_succ, List.cons_append, opF_alloc, ty29, ne_eq, reduceCtorEq, not_false_eq_true, opF_assign, ev_const, cst_int, Option.map_none, regV_nil, sepL, List.not_mem_nil, false_implies, implies_true, true_and]); refine hK _ ?_; clear hK K))
    ((refine W_seqV fun K hK => ?_); simp (disch := omega) only [regV_cons, effW_free, opF_load, ty29, ne_eq, reduceCtorEq, not_false_eq_true, TI.isAgg, true_or, ev_tmp, List.getD_cons_succ, List.getD_cons_zero, objOf, loadW_ptr, loadO_arr, List.length_cons, List.length_nil, Nat.zero_add, Nat.reduceLT, Nat.reduceAdd, Nat.reduceLeDiff, ofCells, List.drop_zero, List.take_succ_cons, List.take_zero, List.headD_cons, if_true, valK_ap, atK_ap, restV_ap, Eff.app, List.set, Eff.wi, Option.map_none, List.nil_append, opF_call, ev_func, List.map_cons, List.map_nil, callF_fn, List.append_nil, List.cons_append, opF_move, opF_extract, true_and])
    (refine ⟨by kernel_rfl, rfl, _, hi, ?_⟩; (try simp (disch := omega) only [extractW_tup, List.length_cons, List.length_nil, Nat.zero_add, Nat.reduceAdd, Nat.reduceLT, List.getD_cons_zero, valK_ap, atK_ap, restV_ap, Eff.app, List.set, Eff.wi, Option.map_none, List.cons_append, List.nil_append, regV_cons, effW_free, opF_extract, ev_tmp, List.getD_cons_succ, opF_alloc, dead, List.getElem?_cons_succ, List.getElem?_cons_zero, ty29, ne_eq, reduceCtorEq, not_false_eq_true, Option.map_some, opF_store, storeF_ptr, storeO_arr, storable, List.all_cons, AV.one, List.all_nil, Bool.and_self, cellsOf, Bool.false_eq_true, false_implies, Nat.reduceLeDiff, overlay, List.take_zero, List.drop_succ_cons, List.drop_nil, List.append_nil, wrK_ap, opF_assign, regV_nil, sepL, List.not_mem_nil, implies_true, true_and]))
    (refine hK _ ?_; clear hK K)
    (repeat' (first | (exfalso; simp at h; done) | (refine W_seqV fun K hK => ?_; (try simp (disch := omega) only [regV_cons, effW_free, opF_move, ev_tmp, List.getD_cons_succ, List.getD_cons_zero, atK_ap, restV_ap, Eff.app, List.set, Eff.wi, Option.map_none, List.nil_append, opF_binOp, ty58, ev_const, cst_int, binW_neq, valK_ap, List.cons_append, regV_nil, sepL, List.not_mem_nil, false_implies, implies_true, true_and, opF_build, ty29, List.map_nil, buildW_struct, storable, AV.one, List.length_cons, List.length_nil, Nat.zero_add, Nat.reduceAdd, ne_eq, cellsOf, List.forall_mem_cons, ty27, reduceCtorEq, not_false_eq_true, ty25, and_self, laid, List.foldl_nil, opF_store, storeF_ptr, storeO_arr, List.all_cons, List.all_nil, Bool.and_self, Bool.false_eq_true, Nat.reduceLT, Nat.reduceLeDiff, overlay, List.take_zero, List.drop_succ_cons, List.drop_nil, List.append_nil, wrK_ap, Option.map_some, opF_assign]); refine hK _ ?_; clear hK K) | (refine W_ret ?_; simp (disch := omega) only [thenW, retR, resW, resV, List.getD_cons_succ, List.getD_cons_zero, asOne_two, view_tup, views_cons, view_int, views_nil]) | (refine W_cond rfl (fun h => ?_) (fun h => ?_) <;> (try simp only [cond_true, cond_false, decide_eq_true_eq, decide_eq_false_iff_not, bne_iff_ne, beq_iff_eq, bne_eq_false_iff_eq, beq_eq_false_iff_ne, ne_eq, Nat.not_lt, Nat.not_le, Int.not_lt, Int.not_le, Bool.not_eq_true', Bool.not_eq_false'] at h)) | refine W_seq ?_))
    (try simp (disch := omega) only [ty29, ne_eq, reduceCtorEq, not_false_eq_true, TI.isAgg, true_or, loadW_ptr, List.getD_cons_succ, List.getD_cons_zero, loadO_arr, List.length_cons, List.length_nil, Nat.zero_add, Nat.reduceLT, Nat.reduceAdd, Nat.reduceLeDiff, ofCells, List.drop_zero, List.take_succ_cons, List.take_zero, List.headD_cons, if_true, view_agg, views_cons, view_bool, view_nils, views_nil, and_self])
  · rw [if_neg h0] at hi ⊢
    have hoi : (qr (t.v)⁻¹).ok := by
      refine ⟨limbs_limbs _, limbs_limbs _, ?_, ?_⟩
      · have := ho.dl
        simp only [qr] at this ⊢
        rw [Rat.num_inv, Int.natAbs_mul, Int.natAbs_natCast, Int.natAbs_sign_of_ne_zero (fun h => h0 (Rat.num_eq_zero.1 h)), Nat.one_mul]
        exact this
      · have := ho.nl
        simp only [qr] at this ⊢
        rw [Rat.den_inv, if_neg (fun h => h0 (Rat.num_eq_zero.1 h))]
        exact this
    have hm := rmul_ok r (qr (t.v)⁻¹) hr hoi
    rw [qr_v, qr_av, ← Rat.div_def] at hm
    obtain ⟨neg, n, d⟩ := r
    obtain ⟨neg', n', d'⟩ := t
    simp only [RR.av, cQE, cQ] at hi hm ⊢
    generalize RR.v _ = q at *
    generalize RR.v _ = p at *
    (refine pureW Try.func20 rfl (rs := [Go.ResultVar.cell 4 29, Go.ResultVar.tmp 5]) rfl (n := 20) rfl ?_; simp only [List.length_cons, List.length_nil, List.replicate, List.cons_append, List.nil_append])
    (repeat (refine W_seqV fun K hK => ?_; (try simp (disch := omega) only [regV_cons, effW_free, opF_box, dead, List.getElem?_cons_succ, List.getElem?_cons_zero, storable, ev_tmp, List.getD_cons_zero, List.all_cons, AV.one, List.all_nil, Bool.and_self, cellsOf, List.length_cons, List.length_nil, Nat.zero_add, Nat.reduceAdd, atK_ap, restV_ap, Eff.app, List.set, Eff.wi, Option.map_some, List.nil_append, List.getD_cons_succ, List.cons_append, opF_alloc, ty29, ne_eq, reduceCtorEq, not_false_eq_true, opF_assign, ev_const, cst_int, Option.map_none, regV_nil, sepL, List.not_mem_nil, false_implies, implies_true, true_and]); refine hK _ ?_; clear hK K))
    ((refine W_seqV fun K hK => ?_); simp (disch := omega) only [regV_cons, effW_free, opF_load, ty29, ne_eq, reduceCtorEq, not_false_eq_true, TI.isAgg, true_or, ev_tmp, List.getD_cons_succ, List.getD_cons_zero, objOf, loadW_ptr, loadO_arr, List.length_cons, List.length_nil, Nat.zero_add, Nat.reduceLT, Nat.reduceAdd, Nat.reduceLeDiff, ofCells, List.drop_zero, List.take_succ_cons, List.take_zero, List.headD_cons, if_true, valK_ap, atK_ap, restV_ap, Eff.app, List.set, Eff.wi, Option.map_none, List.nil_append, opF_call, ev_func, List.map_cons, List.map_nil, callF_fn, List.append_nil, List.cons_append, opF_move, opF_extract, true_and])
    (refine ⟨by kernel_rfl, rfl, _, hi, ?_⟩; (try simp (disch := omega) only [extractW_tup, List.length_cons, List.length_nil, Nat.zero_add, Nat.reduceAdd, Nat.reduceLT, List.getD_cons_zero, valK_ap, atK_ap, restV_ap, Eff.app, List.set, Eff.wi, Option.map_none, List.cons_append, List.nil_append, regV_cons, effW_free, opF_extract, ev_tmp, List.getD_cons_succ, opF_alloc, dead, List.getElem?_cons_succ, List.getElem?_cons_zero, ty29, ne_eq, reduceCtorEq, not_false_eq_true, Option.map_some, opF_store, storeF_ptr, storeO_arr, storable, List.all_cons, AV.one, List.all_nil, Bool.and_self, cellsOf, Bool.false_eq_true, false_implies, Nat.reduceLeDiff, overlay, List.take_zero, List.drop_succ_cons, List.drop_nil, List.append_nil, wrK_ap, opF_assign, regV_nil, sepL, List.not_mem_nil, implies_true, true_and]))
    (refine hK _ ?_; clear hK K)
    skip
    (repeat' (first | (exfalso; simp at h; done) | (refine W_seqV fun K hK => ?_; (try simp (disch := omega) only [regV_cons, effW_free, opF_move, ev_tmp, List.getD_cons_succ, List.getD_cons_zero, atK_ap, restV_ap, Eff.app, List.set, Eff.wi, Option.map_none, List.nil_append, opF_binOp, ty58, ev_const, cst_int, binW_neq, valK_ap, List.cons_append, regV_nil, sepL, List.not_mem_nil, false_implies, implies_true, true_and]); refine hK _ ?_; clear hK K) | refine W_skip ?_ | (refine W_cond rfl (fun h => ?_) (fun h => ?_) <;> (try simp only [cond_true, cond_false, decide_eq_true_eq, decide_eq_false_iff_not, bne_iff_ne, beq_iff_eq, bne_eq_false_iff_eq, beq_eq_false_iff_ne, ne_eq, Nat.not_lt, Nat.not_le, Int.not_lt, Int.not_le, Bool.not_eq_true', Bool.not_eq_false'] at h)) | refine W_seq ?_))
    ((refine W_regV fun K hK => ?_); simp (disch := omega) only [regV_cons, effW_free, opF_load, ty29, ne_eq, reduceCtorEq, not_false_eq_true, TI.isAgg, true_or, ev_tmp, List.getD_cons_succ, List.getD_cons_zero, objOf, loadW_ptr, loadO_arr, List.length_cons, List.length_nil, Nat.zero_add, Nat.reduceLT, Nat.reduceAdd, Nat.reduceLeDiff, ofCells, List.drop_zero, List.take_succ_cons, List.take_zero, List.headD_cons, if_true, valK_ap, atK_ap, restV_ap, Eff.app, List.set, Eff.wi, Option.map_none, List.nil_append, List.cons_append, opF_call, ev_func, List.map_cons, List.map_nil, callF_fn, List.append_nil, opF_store, storeF_ptr, storeO_arr, storable, AV.one, cellsOf, Bool.false_eq_true, false_implies, overlay, wrK_ap, Option.map_some, opF_assign, ev_const, cst_int, regV_nil, sepL, List.not_mem_nil, implies_true, true_and])
    (refine ⟨by kernel_rfl, rfl, _, hm, ?_⟩; (try simp (disch := omega) only [List.all_cons, AV.one, List.all_nil, Bool.and_self, List.length_cons, List.length_nil, Nat.zero_add, Nat.reduceAdd, List.drop_succ_cons, List.drop_nil, List.append_nil, true_and]))
    (refine hK _ ?_; clear hK K)
    (repeat' (refine W_ret ?_; simp (disch := omega) only [retR, resW, resV, List.getD_cons_succ, List.getD_cons_zero, asOne_two, view_tup, views_cons, view_int, views_nil]))
    (try simp (disch := omega) only [ty29, ne_eq, reduceCtorEq, not_false_eq_true, TI.isAgg, true_or, loadW_ptr, List.getD_cons_succ, List.getD_cons_zero, loadO_arr, List.length_cons, List.length_nil, Nat.zero_add, Nat.reduceLT, Nat.reduceAdd, Nat.reduceLeDiff, ofCells, List.drop_zero, List.take_succ_cons, List.take_zero, List.headD_cons, if_true, view_agg, views_cons, view_bool, view_sl, views_nil, and_self])
end Go.Proofs.Ytjkjapjcmbfkgaa.Vm

/-
  Regions whose order is open, and whose last operations stand behind all others: those are done in the text's order (appends, calls that make slices).
-/
namespace Go.Proofs.Ytjkjapjcmbfkgaa.Vm
open Go
set_option linter.unusedVariables false
set_option linter.unusedSimpArgs false

/-- A slot that is nil is data without rows. -/
theorem Le_nilsl {pins : List Nat} {e : List AV} {hp : List Ob} (j : Nat) (hj : e[j]? = some .nils) : Le pins ⟨e, hp⟩ ⟨e.set j (.sl []), hp⟩ := by
  intro fr ρ a w hpins hr
  refine ⟨ρ, { hr with env := ?_ }⟩
  obtain ⟨v, hv, hr1⟩ := hr.env.get (show e[j]? = some .nils from hj)
  have h2 := Rp.data .nils hr1
  have h3 := hr.env.set j (x := .sl []) h2
  have h4 : a.tmps.toList.set j v = a.tmps.toList := by
    obtain ⟨hlt, he⟩ := List.getElem?_eq_some_iff.1 hv
    rw [← he, List.set_getElem_self]
  rwa [h4] at h3

def depsOf (o : Oper) : List Nat := (o.after.toList.filter (Region.binds .any)).map (·.on)
def reach (ops : Array Oper) : Nat → List Nat → List Nat
  | 0, R => R
  | k + 1, R => reach ops k (if R.contains k then R ++ ((ops[k]?).map depsOf).getD [] else R)
theorem reach_listed {ops : Array Oper} {listed : Array Bool} (hcl : ∀ k o, ops[k]? = some o → listed.getD k false = true → ∀ e ∈ o.after, Region.binds .any e = true → listed.getD e.on false = true) :
    ∀ (k : Nat) (R : List Nat), (∀ x ∈ R, listed.getD x false = true) → ∀ x ∈ reach ops k R, listed.getD x false = true
  | 0, R, h, x, hx => h x hx
  | k + 1, R, h, x, hx => by
    refine reach_listed hcl k _ (fun y hy => ?_) x hx
    split at hy
    · rename_i hk
      rcases List.mem_append.1 hy with hy | hy
      · exact h y hy
      · cases ho : ops[k]? with
        | none => rw [ho] at hy; simp at hy
        | some o =>
          rw [ho] at hy
          simp only [Option.map_some, Option.getD_some, depsOf, List.mem_map, List.mem_filter] at hy
          obtain ⟨e, ⟨he, hb⟩, rfl⟩ := hy
          exact hcl k o ho (h k (by simpa using hk)) e (by simpa using he) hb
    · exact h y hy
def splitOk (ops : Array Oper) (L : List (Nat × Nat)) (m : Nat) : Bool :=
  decide (m < ops.size) &&
  ((List.range ops.size).all fun k => ((ops[k]?).map fun o => o.after.all fun e => !Region.binds .any e || decide (e.on < k)).getD true) &&
  ((List.range m).all fun k => (List.range k).all fun j => pairOk ops L j k) &&
  ((List.range m).all fun j => (reach ops m (((ops[m]?).map depsOf).getD [])).contains j) &&
  ((List.range ops.size).all fun k => decide (k ≤ m) || ((ops[k]?).map fun o => ordered o (k - 1)).getD true)
theorem splitOk_at {ops : Array Oper} {L : List (Nat × Nat)} {m : Nat} (h : splitOk ops L m = true) : m < ops.size ∧
    (∀ k o, ops[k]? = some o → ∀ e ∈ o.after, Region.binds .any e = true → e.on < k) ∧
    (∀ k o, k < m → ops[k]? = some o → ∀ j x, j < k → ops[j]? = some x → ordered o j = true ∨ (Oper.apart ops x o = true ∧ (memOk x o = true ∨ (j, k) ∈ L))) ∧
    (∀ o, ops[m]? = some o → ∀ listed : Array Bool, (∀ k o, ops[k]? = some o → listed.getD k false = true → ∀ e ∈ o.after, Region.binds .any e = true → listed.getD e.on false = true) → (∀ e ∈ o.after, Region.binds .any e = true → listed.getD e.on false = true) → ∀ j, j < m → listed.getD j false = true) ∧
    (∀ k o, m < k → ops[k]? = some o → ordered o (k - 1) = true) := by
  unfold splitOk at h
  simp only [Bool.and_eq_true, decide_eq_true_eq] at h
  obtain ⟨⟨⟨⟨h1, h2⟩, h3⟩, h4⟩, h5⟩ := h
  refine ⟨h1, fun k o ho e he hb => ?_, fun k o hk ho j x hj hx => ?_, fun o ho listed hcl hd j hj => ?_, fun k o hk ho => ?_⟩
  · have hks : k < ops.size := (Array.getElem?_eq_some_iff.1 ho).1
    have := List.all_eq_true.1 h2 k (by simpa using hks)
    rw [ho] at this
    simp only [Option.map_some, Option.getD_some, Array.all_eq_true_iff_forall_mem] at this
    have := this e he
    rw [hb] at this
    simpa using this
  · have := List.all_eq_true.1 (List.all_eq_true.1 h3 k (by simpa using hk)) j (by simpa using hj)
    unfold pairOk at this
    rw [hx, ho] at this
    simpa using this
  · have := List.all_eq_true.1 h4 j (by simpa using hj)
    rw [ho] at this
    refine reach_listed hcl m _ (fun x hx => ?_) j (by simpa using this)
    simp only [Option.map_some, Option.getD_some, depsOf, List.mem_map, List.mem_filter] at hx
    obtain ⟨e, ⟨he, hb⟩, rfl⟩ := hx
    exact hd e (by simpa using he) hb
  · have hks : k < ops.size := (Array.getElem?_eq_some_iff.1 ho).1
    have := List.all_eq_true.1 h5 k (by simpa using hks)
    rw [ho] at this
    simp only [Option.map_some, Option.getD_some, Bool.or_eq_true, decide_eq_true_eq] at this
    exact this.resolve_left (by omega)

section
variable {P : Program} {pins : List Nat} {ops : Array Oper}
structure GoodM (P : Program) (pins : List Nat) (ops : Array Oper) (L : List (Nat × Nat)) (m : Nat) (fs : List Eff) (s0 : St) : Prop where
  len : fs.length = m
  does : ∀ k f o, fs[k]? = some f → ops[k]? = some o → Does P pins ops o f (Dst (fun i => decide (i < k)) 0 fs s0)
  sep : ∀ j k f g, (j, k) ∈ L → fs[j]? = some f → fs[k]? = some g → sepP (f.rd, f.wi) (g.rd, g.wi)

theorem anyM_sound {L : List (Nat × Nat)} {fs : List Eff} {s0 : St} {fr : Fr} {Q : Exit → Act → World → Prop} (hp : fr.pins = pins) {m : Nat} (hok : splitOk ops L m = true) (hg : GoodM P pins ops L m fs s0) (H : ∀ (fuel : Nat) (listed : Array Bool) (a : Act) (w : World) (ρ : Pl), listed.size = ops.size → (∀ j, j < ops.size → listed.getD j false = decide (j < m)) → unl listed ops.size ≤ fuel → Rep fr ρ (Dst (fun _ => true) 0 fs s0) a w → wpAny P .any ops Q fuel listed a w) :
    ∀ (fuel : Nat) (listed : Array Bool) (a : Act) (w : World) (ρ : Pl), listed.size = ops.size → (∀ k o, ops[k]? = some o → listed.getD k false = true → ∀ e ∈ o.after, Region.binds .any e = true → listed.getD e.on false = true) → (∀ j, m ≤ j → listed.getD j false = false) →
      unl listed ops.size ≤ fuel → Rep fr ρ (Dst (fun i => listed.getD i false) 0 fs s0) a w → wpAny P .any ops Q fuel listed a w := by
  have gd : ∀ (listed : Array Bool) (i : Nat), listed.size = ops.size → i < ops.size → listed.getD i true = listed.getD i false := by
    intro listed i hs hi
    have : i < listed.size := by omega
    simp [this]
  obtain ⟨hm, hdeps, hpairs, hreach, hchain⟩ := splitOk_at hok
  have emp : ∀ (listed : Array Bool), listed.size = ops.size → Region.ready .any ops listed = [] → ∀ j, j < ops.size → listed.getD j false = true := by
    intro listed hs hr
    have key : ∀ n j, j < n → j < ops.size → listed.getD j false = true := by
      intro n
      induction n with
      | zero => intro j hj; omega
      | succ n ih =>
        intro j hj hjs
        cases hl : listed.getD j false with
        | true => rfl
        | false =>
          exfalso
          have ho : ops[j]? = some ops[j] := Array.getElem?_eq_getElem hjs
          have : j ∈ Region.ready .any ops listed := by
            rw [mem_ready]
            refine ⟨by rw [gd listed j hs hjs]; exact hl, _, ho, fun e he hb => ?_⟩
            have := hdeps j _ ho e he hb
            exact ih e.on (by omega) (by omega)
          rw [hr] at this
          cases this
    exact fun j hj => key (j + 1) j (by omega) hj
  have full : ∀ (fuel : Nat) (listed : Array Bool) (a : Act) (w : World) (ρ : Pl), listed.size = ops.size → (∀ j, m ≤ j → listed.getD j false = false) → (∀ j, j < m → listed.getD j false = true) → unl listed ops.size ≤ fuel → Rep fr ρ (Dst (fun i => listed.getD i false) 0 fs s0) a w → wpAny P .any ops Q fuel listed a w := by
    intro fuel listed a w ρ hs h1 h2 hu hr
    refine H fuel listed a w ρ hs (fun j _ => ?_) hu ?_
    · by_cases hj : j < m
      · rw [h2 j hj]; simp [hj]
      · rw [h1 j (by omega)]; simp; omega
    · rw [Dst_congr (S := fun _ => true) (S' := fun i => listed.getD i false)]
      · exact hr
      · intro j hj
        rw [hg.len] at hj
        simp only [Nat.zero_add]
        exact (h2 j hj).symm
  intro fuel
  induction fuel with
  | zero =>
    intro listed a w ρ hs hcl hup hu hrep
    exfalso
    have hmf := hup m (Nat.le_refl _)
    have : 0 < unl listed ops.size := by
      unfold unl
      rw [List.countP_pos_iff]
      exact ⟨m, by simpa using hm, by rw [gd listed m hs hm, hmf]; rfl⟩
    omega
  | succ fuel ih =>
    intro listed a w ρ hs hcl hup hu hrep
    by_cases hall : ∀ j, j < m → listed.getD j false = true
    · exact full _ listed a w ρ hs hup hall hu hrep
    refine ⟨fun hr => absurd (emp listed hs hr m hm) (by rw [hup m (Nat.le_refl _)]; simp), fun k hk => ?_⟩
    rw [mem_ready] at hk
    obtain ⟨hk1, o, ho, hdep⟩ := hk
    have hks : k < ops.size := (Array.getElem?_eq_some_iff.1 ho).1
    have hk0 : listed.getD k false = false := by rw [← gd listed k hs hks]; exact hk1
    have hkm : k < m := by
      rcases Nat.lt_trichotomy k m with h | h | h
      · exact h
      · subst h
        exact absurd (hreach o ho listed hcl hdep) hall
      · exfalso
        have h1 := hchain k o h ho
        unfold ordered at h1
        rw [Array.any_eq_true'] at h1
        obtain ⟨e, he, hb⟩ := h1
        simp only [Bool.and_eq_true, beq_iff_eq] at hb
        have h2 := hdep e he hb.1
        rw [hb.2, hup (k - 1) (by omega)] at h2
        cases h2
    have hkl : k < listed.size := by omega
    obtain ⟨f, hf⟩ : ∃ f, fs[k]? = some f := ⟨_, List.getElem?_eq_getElem (by rw [hg.len]; exact hkm)⟩
    obtain ⟨hd1, hd2, hd3, hd4⟩ := hg.does k f o hf ho
    have hlisted : ∀ j, ordered o j = true → listed.getD j false = true := by
      intro j hj
      unfold ordered at hj
      rw [Array.any_eq_true'] at hj
      obtain ⟨e, he, hb⟩ := hj
      simp only [Bool.and_eq_true, beq_iff_eq] at hb
      rw [← hb.2]
      exact hdep e he hb.1
    have hopen : ∀ j x, ops[j]? = some x → ordered x k = true → listed.getD j false = false := by
      intro j x hx hj
      cases hl : listed.getD j false with
      | false => rfl
      | true =>
        exfalso
        unfold ordered at hj
        rw [Array.any_eq_true'] at hj
        obtain ⟨e, he, hb⟩ := hj
        simp only [Bool.and_eq_true, beq_iff_eq] at hb
        have := hcl j x hx hl e he hb.1
        rw [hb.2, hk0] at this
        cases this
    -- whoever else is about: apart, or on the right side
    have rel : ∀ j g x, j ≠ k → fs[j]? = some g → ops[j]? = some x → (listed.getD j false = decide (j < k)) ∨
        ((∀ t, g.dst = some t → t ∉ o.looksAt ops) ∧ (∀ d, g.dst = some d → f.dst ≠ some d) ∧ (∀ i, g.wi = some i → f.rd ≠ some i ∧ f.wi ≠ some i)) := by
      intro j g x hjk hgj hxj
      obtain ⟨hx1, hx2, hx3, _⟩ := hg.does j g x hgj hxj
      rcases Nat.lt_or_gt_of_ne hjk with hlt | hgt
      · rcases hpairs k o hkm ho j x hlt hxj with h1 | ⟨h1, h2⟩
        · exact .inl (by rw [hlisted j h1]; simp [hlt])
        · right
          obtain ⟨a1, a2, a3⟩ := Oper.apart_spec h1
          refine ⟨fun t ht => a1 t (hx1 ▸ ht), fun d hd => by rw [hd1]; exact a2 d (hx1 ▸ hd), fun i hi => ?_⟩
          rcases h2 with h2 | h2
          · have hxw : Op.mw x.op = true := hx3 (by rw [hi]; simp)
            unfold memOk at h2
            rw [hxw] at h2
            simp only [Bool.true_and, Bool.not_or, Bool.and_eq_true, Bool.not_eq_true'] at h2
            refine ⟨fun hr => ?_, fun hr => ?_⟩
            · have := hd2 (by rw [hr]; simp)
              rw [this] at h2; exact absurd h2.1.1 (by simp)
            · have := hd3 (by rw [hr]; simp)
              rw [this] at h2; exact absurd h2.1.2 (by simp)
          · have h3 := (hg.sep j k g f h2 hgj hf).1
            simp only [hi] at h3
            rcases h3 with h3 | h3
            · cases h3
            · exact ⟨fun h => h3.1 h.symm, fun h => h3.2 h.symm⟩
      · have hjm : j < m := by
          have := (List.getElem?_eq_some_iff.1 hgj).1
          rwa [hg.len] at this
        rcases hpairs j x hjm hxj k o hgt ho with h1 | ⟨h1, h2⟩
        · exact .inl (by rw [hopen j x hxj h1]; simp; omega)
        · right
          obtain ⟨a1, a2, a3⟩ := Oper.apart_spec h1
          refine ⟨fun t ht => a3 t (hx1 ▸ ht), fun d hd hfd => a2 d (hd1 ▸ hfd) (hx1 ▸ hd), fun i hi => ?_⟩
          rcases h2 with h2 | h2
          · have hxw : Op.mw x.op = true := hx3 (by rw [hi]; simp)
            unfold memOk at h2
            rw [hxw] at h2
            simp only [Bool.or_true, Bool.and_true, Bool.not_or, Bool.and_eq_true, Bool.not_eq_true'] at h2
            refine ⟨fun hr => ?_, fun hr => ?_⟩
            · have := hd2 (by rw [hr]; simp)
              rw [this] at h2; exact absurd h2.2 (by simp)
            · have := hd3 (by rw [hr]; simp)
              rw [this] at h2; exact absurd h2.1 (by simp)
          · obtain ⟨h4, h3⟩ := hg.sep k j f g h2 hf hgj
            simp only [hi] at h3 h4
            refine ⟨fun h => ?_, fun h => ?_⟩
            · rcases h3 with h3 | h3
              · cases h3
              · exact h3 h.symm
            · rcases h4 with h4 | h4
              · rw [h] at h4; cases h4
              · exact h4.2 h
    have opAt : ∀ j g, fs[j]? = some g → ∃ x, ops[j]? = some x := fun j g hj => by
      have : j < fs.length := (List.getElem?_eq_some_iff.1 hj).1
      exact ⟨_, Array.getElem?_eq_getElem (by rw [hg.len] at this; omega)⟩
    have henv : ∀ t ∈ o.looksAt ops, (Dst (fun i => listed.getD i false) 0 fs s0).env[t]? = (Dst (fun i => decide (i < k)) 0 fs s0).env[t]? := by
      intro t ht
      refine Dst_env fs 0 s0 s0 rfl fun j g hj hd => ?_
      simp only [Nat.zero_add]
      by_cases hjk : j = k
      · subst hjk; rw [hk0]; simp
      · obtain ⟨x, hx⟩ := opAt j g hj
        rcases rel j g x hjk hj hx with h1 | h1
        · exact h1
        · exact absurd ht (h1.1 t hd)
    have hhp : ∀ i, f.rd = some i ∨ f.wi = some i → (Dst (fun i => listed.getD i false) 0 fs s0).hp[i]? = (Dst (fun i => decide (i < k)) 0 fs s0).hp[i]? := by
      intro i hi
      refine Dst_hp fs 0 s0 s0 rfl fun j g hj hd => ?_
      simp only [Nat.zero_add]
      by_cases hjk : j = k
      · subst hjk; rw [hk0]; simp
      · obtain ⟨x, hx⟩ := opAt j g hj
        rcases rel j g x hjk hj hx with h1 | h1
        · exact h1
        · obtain ⟨h2, h3⟩ := h1.2.2 i hd
          rcases hi with hi | hi
          · exact absurd hi h2
          · exact absurd hi h3
    have hins : Dst (fun i => (listed.setIfInBounds k true).getD i false) 0 fs s0 = f.app (Dst (fun i => listed.getD i false) 0 fs s0) := by
      refine Dst_insert fs k 0 s0 hf (by simpa using hk0) (by simp [hkl]) (fun j hj => ?_) fun j g hj hgj hS => ?_
      · simp only [Nat.zero_add]
        exact getD_set_ne false (Ne.symm hj)
      · simp only [Nat.zero_add] at hS
        obtain ⟨x, hx⟩ := opAt j g hgj
        rcases rel j g x (by omega) hgj hx with h1 | h1
        · rw [h1] at hS; simp at hS; omega
        · exact ⟨fun d hd hgd => h1.2.1 d hgd hd, fun i hi hgi => (h1.2.2 i hgi).2 hi⟩
    have next : ∀ a' w', Ends fr (· = f.app (Dst (fun i => listed.getD i false) 0 fs s0)) a' w' → wpAny P .any ops Q fuel (listed.setIfInBounds k true) a' w' := by
      rintro a' w' ⟨s', ρ', rfl, hrep'⟩
      refine ih _ a' w' ρ' (by simpa using hs) ?_ ?_ ?_ (by rw [hins]; exact hrep')
      · intro j x hx hl e he hb
        by_cases hjk : j = k
        · subst hjk
          rw [ho] at hx
          cases hx
          exact getD_set_true (hdep e he hb)
        · rw [getD_set_ne false (Ne.symm hjk)] at hl
          exact getD_set_true (hcl j x hx hl e he hb)
      · intro j hj
        rw [getD_set_ne false (by omega)]
        exact hup j hj
      · have : unl (listed.setIfInBounds k true) ops.size < unl listed ops.size := by
          refine countP_lt (fun i hi h => ?_) ⟨k, by simpa using hks, by rw [hk1]; rfl, by simp [hkl]⟩
          by_cases hik : i = k
          · subst hik; simp [hkl] at h
          · rw [getD_set_ne true (Ne.symm hik)] at h; exact h
        omega
    unfold wpOp
    rw [ho]
    simp only
    rcases hd4 with ⟨hw, hfit⟩ | ⟨hw, hfe⟩
    · rw [← wantB_congr henv] at hw
      rw [if_pos (wantB_sound hrep.env hw)]
      refine .inl (Oper.wp_mono next (hfit _ _ (fun x hx => ?_) hhp fr ρ a w Q hp hrep))
      cases x with
      | tmp t =>
        simp only [ev, List.getD_eq_getElem?_getD]
        rw [henv t (List.mem_append_left _ (List.mem_filterMap.2 ⟨.tmp t, hx, rfl⟩))]
      | _ => rfl
    · rw [← wantB_congr henv] at hw
      rw [if_neg (by rw [wantB_sound hrep.env hw]; simp)]
      refine next _ _ ⟨_, ρ, rfl, ?_⟩
      have := hrep.put o.dst (x := .und) (v := undef) (by simp only [Rp])
      rw [hfe]
      exact this


/-- The operations from the m-th on, in the text's order. -/
theorem chain_sound {fr : Fr} (hp : fr.pins = pins) {L : List (Nat × Nat)} {m : Nat} (hok : splitOk ops L m = true) {K : St → Prop} {Q : Exit → Act → World → Prop} (hQ : ∀ a w, Ends fr K a w → Q .normal a w) :
    ∀ (rest : List Oper) (i : Nat), m ≤ i → ops.toList.drop i = rest → ∀ (fuel : Nat) (listed : Array Bool) (s : St) (a : Act) (w : World) (ρ : Pl), listed.size = ops.size → (∀ j, j < ops.size → listed.getD j false = decide (j < i)) → unl listed ops.size ≤ fuel →
      Rep fr ρ s a w → opsW P pins ops rest s K → wpAny P .any ops Q fuel listed a w := by
  obtain ⟨hm, hdeps, hpairs, hreach, hchain⟩ := splitOk_at hok
  have gd : ∀ (listed : Array Bool) (i : Nat), listed.size = ops.size → i < ops.size → listed.getD i true = listed.getD i false := by
    intro listed i hs hi
    have : i < listed.size := by omega
    simp [this]
  intro rest
  induction rest with
  | nil =>
    intro i hi hrest fuel listed s a w ρ hs hl hu hr hk
    have hsz : ops.size ≤ i := by
      have := congrArg List.length hrest
      simp at this
      omega
    have hnone : Region.ready .any ops listed = [] := by
      refine List.eq_nil_iff_forall_not_mem.2 fun k hk => ?_
      rw [mem_ready] at hk
      obtain ⟨h1, o, ho, _⟩ := hk
      have hks : k < ops.size := (Array.getElem?_eq_some_iff.1 ho).1
      rw [gd listed k hs hks, hl k hks] at h1
      simp at h1
      omega
    have hq : Q .normal a w := hQ a w ⟨s, ρ, hk, hr⟩
    cases fuel with
    | zero => exact ⟨hnone, hq⟩
    | succ fuel => exact ⟨fun _ => hq, fun k hk => by rw [hnone] at hk; cases hk⟩
  | cons o rest ih =>
    intro i hi hrest fuel listed s a w ρ hs hl hu hr hk
    have his : i < ops.size := by
      rcases Nat.lt_or_ge i ops.size with h | h
      · exact h
      · rw [List.drop_eq_nil_of_le (by simpa using h)] at hrest
        cases hrest
    have hoi : ops[i]? = some o := by
      have h1 : (ops.toList.drop i)[0]? = some o := by rw [hrest]; rfl
      rw [List.getElem?_drop] at h1
      simpa using h1
    have hnext : ops.toList.drop (i + 1) = rest := by
      have h1 : (ops.toList.drop i).drop 1 = rest := by rw [hrest]; rfl
      rw [List.drop_drop] at h1
      exact h1
    have hil : i < listed.size := by omega
    have hli : listed.getD i true = false := by rw [gd listed i hs his, hl i his]; simp
    have hlt : unl (listed.setIfInBounds i true) ops.size < unl listed ops.size := by
      refine countP_lt (fun j hj h => ?_) ⟨i, by simpa using his, by rw [hli]; rfl, by simp [hil]⟩
      by_cases hik : j = i
      · subst hik; simp [hil] at h
      · rw [getD_set_ne true (Ne.symm hik)] at h; exact h
    cases fuel with
    | zero => omega
    | succ fuel =>
    have hl' : ∀ j, j < ops.size → (listed.setIfInBounds i true).getD j false = decide (j < i + 1) := by
      intro j hj
      by_cases hji : j = i
      · subst hji; simp [hil]
      · rw [getD_set_ne false (Ne.symm hji), hl j hj]
        simp only [decide_eq_decide]
        omega
    have go : ∀ (s' : St) (a' : Act) (w' : World) (ρ' : Pl), Rep fr ρ' s' a' w' → opsW P pins ops rest s' K → wpAny P .any ops Q fuel (listed.setIfInBounds i true) a' w' :=
      fun s' a' w' ρ' hr' hk' => ih (i + 1) (by omega) hnext fuel _ s' a' w' ρ' (by simpa using hs) hl' (by omega) hr' hk'
    refine ⟨fun hn => ?_, fun k hkr => ?_⟩
    · exfalso
      have : i ∈ Region.ready .any ops listed := by
        rw [mem_ready]
        refine ⟨hli, o, hoi, fun e he hb => ?_⟩
        have := hdeps i o hoi e he hb
        rw [hl e.on (by omega)]
        simpa using this
      rw [hn] at this
      cases this
    · have hki : k = i := by
        rw [mem_ready] at hkr
        obtain ⟨h1, x, hx, hd⟩ := hkr
        have hks : k < ops.size := (Array.getElem?_eq_some_iff.1 hx).1
        rw [gd listed k hs hks, hl k hks] at h1
        have hik : i ≤ k := by simpa using h1
        rcases Nat.lt_or_ge i k with h | h
        · exfalso
          have h2 := hchain k x (by omega) hx
          unfold ordered at h2
          rw [Array.any_eq_true'] at h2
          obtain ⟨e, he, hb⟩ := h2
          simp only [Bool.and_eq_true, beq_iff_eq] at hb
          have h3 := hd e he hb.1
          rw [hb.2, hl (k - 1) (by omega)] at h3
          simp at h3
          omega
        · omega
      subst hki
      unfold wpOp
      rw [hoi]
      simp only
      unfold opsW at hk
      have step : ∀ (hw : Region.wanted o (yielded ops a.tmps) = true), (opW P pins o s fun s' => opsW P pins ops rest s' K) → (if Region.wanted o (yielded ops a.tmps) = true then o.wp P a w (wpAny P .any ops Q fuel (listed.setIfInBounds k true)) Q ∨ (o.asks P a w ∧ LetsOut Q) else wpAny P .any ops Q fuel (listed.setIfInBounds k true) (a.put o.dst undef) w) := by
        intro hw hk
        rw [if_pos hw]
        refine .inl (Oper.wp_mono (fun a' w' he => ?_) (opW_sound (Q := Q) hp hr hk))
        obtain ⟨s', ρ', h2, h3⟩ := he
        exact go s' a' w' ρ' h3 h2
      have skip : ∀ (hw : Region.wanted o (yielded ops a.tmps) = false), opsW P pins ops rest (s.ret o.dst .und) K → (if Region.wanted o (yielded ops a.tmps) = true then o.wp P a w (wpAny P .any ops Q fuel (listed.setIfInBounds k true)) Q ∨ (o.asks P a w ∧ LetsOut Q) else wpAny P .any ops Q fuel (listed.setIfInBounds k true) (a.put o.dst undef) w) := by
        intro hw hk
        rw [if_neg (by rw [hw]; simp)]
        exact go _ _ w ρ (hr.put o.dst (x := .und) (v := undef) (by simp only [Rp])) hk
      split at hk
      · rename_i hg
        exact step (by simp [Region.wanted, hg]) hk
      · rename_i j want hg
        obtain ⟨g1, g2⟩ := guard_sound (ops := ops) hr.env j
        split at hk
        · rename_i b hb
          have hy := g1 b hb
          by_cases hbw : b = want
          · have h1 := hk.1 hbw
            rw [← hbw, known_eq hb] at h1
            exact step (by simp [Region.wanted, hg, hy, hbw]) h1
          · have hb2 : b = !want := by cases b <;> cases want <;> simp_all
            have h2 := hk.2 hb2
            rw [← hb2, known_eq hb] at h2
            refine skip ?_ h2
            rw [hb2] at hy
            simp [Region.wanted, hg, hy]
        · rename_i hb
          have hy := g2 hb
          exact skip (by simp [Region.wanted, hg, hy]) hk
        · exact hk.elim

theorem W_regionS (hm : P.follows .mixedOrders = true) {i : Nat} {Q : Exit → St → Prop} {s : St} (m : Nat) (L : List (Nat × Nat)) (hok : splitOk ops L m = true) (h : regV P ops L (ops.toList.take m) s [] fun s' => opsW P pins ops (ops.toList.drop m) s' (Q .normal)) : W P pins (.region i ops true) Q s := by
  intro fr ρ a w hp hr
  obtain ⟨fs, h1, h2, h3, h4⟩ := regV_steps (pins := pins) _ _ _ h
  have hms := (splitOk_at hok).1
  have hlen : fs.length = m := by
    rw [h1, List.length_take, Array.length_toList]; omega
  have hg : GoodM P pins ops L m fs s := by
    refine ⟨hlen, fun k f o hk ho => h2 k f o hk ?_, fun j k f g hj hf hg => ?_⟩
    · have hkm : k < m := by have := (List.getElem?_eq_some_iff.1 hk).1; omega
      rw [List.getElem?_take, if_pos hkm]
      simpa using ho
    · have := h3 (j, k) hj
      simp only [List.nil_append, List.getElem?_map, hf, hg, Option.map_some] at this
      exact this
  refine wp_region_any hm (anyM_sound (fr := fr) hp hok hg (fun fuel listed a' w' ρ' hs hl hu hr' => ?_) ops.size _ a _ ρ (by simp) ?_ ?_ ?_ ?_)
  · exact chain_sound hp hok (fun a w he => he) _ m (Nat.le_refl _) rfl fuel listed _ a' w' ρ' hs hl hu hr' h4
  · intro k o ho hl
    simp only [Array.getD_eq_getD_getElem?, Array.getElem?_replicate] at hl
    split at hl <;> simp at hl
  · intro j _
    simp only [Array.getD_eq_getD_getElem?, Array.getElem?_replicate]
    split <;> rfl
  · unfold unl
    refine Nat.le_trans List.countP_le_length (by simp)
  · have : Dst (fun i => (Array.replicate ops.size false).getD i false) 0 fs s = s := by
      rw [Dst_congr (S' := fun _ => false) _ _ _ (fun j _ => by
        simp only [Array.getD_eq_getD_getElem?, Array.getElem?_replicate]
        split <;> rfl)]
      have : ∀ (l : List Eff) (k : Nat), Dst (fun _ => false) k l s = s := by
        intro l
        induction l with
        | nil => intro k; rfl
        | cons g l ih => intro k; unfold Dst; simp [ih]
      exact this _ _
    rw [this]
    exact hr.heapEq rfl rfl rfl rfl
/-- What follows the first operations of such a region. -/
def thenO (P : Program) (pins : List Nat) (ops : Array Oper) (rest : List Oper) (K : St → Prop) : St → Prop := fun s' => opsW P pins ops rest s' K
theorem thenO_ap {rest : List Oper} {K : St → Prop} {s : St} : thenO P pins ops rest K s = opsW P pins ops rest s K := id rfl
theorem W_seqS (hm : P.follows .mixedOrders = true) {i : Nat} {Q : Exit → St → Prop} {y : Code} {s : St} (m : Nat) (L : List (Nat × Nat)) (hok : splitOk ops L m = true) (h : ∀ K : St → Prop, (∀ s, W P pins y Q s → K s) → regV P ops L (ops.toList.take m) s [] (thenO P pins ops (ops.toList.drop m) K)) : W P pins (.seq (.region i ops true) y) Q s :=
  W_seq (W_regionS hm m L hok (h (W P pins y Q) fun _ h => h))
theorem W_regS (hm : P.follows .mixedOrders = true) {i : Nat} {Q : Exit → St → Prop} {s : St} (m : Nat) (L : List (Nat × Nat)) (hok : splitOk ops L m = true) (h : ∀ K : St → Prop, (∀ s, Q .normal s → K s) → regV P ops L (ops.toList.take m) s [] (thenO P pins ops (ops.toList.drop m) K)) : W P pins (.region i ops true) Q s :=
  W_regionS hm m L hok (h (Q .normal) fun _ h => h)
end
end Go.Proofs.Ytjkjapjcmbfkgaa.Vm

/-
  Rows of a table; forms as lists of a variable and a number: plain laws.
-/
namespace Go.Proofs.Ytjkjapjcmbfkgaa.Vm
open Go Go.RowKit
set_option linter.unusedVariables false
set_option linter.unusedSimpArgs false

/-! ### rows of a table -/
def tab {α : Type} (enc : α → List AV) (l : List α) : List (List AV) := l.map enc
section
variable {α : Type} {enc : α → List AV}
theorem tab_length (l : List α) : (tab enc l).length = l.length := by simp [tab]
theorem tab_getD [Inhabited α] {l : List α} {i : Nat} (h : i < l.length) : (tab enc l).getD i [] = enc (l.getD i default) := by simp [tab, List.getD_eq_getElem?_getD, h]
theorem tab_take (l : List α) (n : Nat) : (tab enc l).take n = tab enc (l.take n) := by simp [tab, List.map_take]
theorem tab_drop (l : List α) (n : Nat) : (tab enc l).drop n = tab enc (l.drop n) := by simp [tab, List.map_drop]
theorem tab_append (l m : List α) : tab enc l ++ tab enc m = tab enc (l ++ m) := by simp [tab]
theorem tab_nil : tab enc [] = [] := rfl
theorem tab_snoc (l : List α) (x : α) : tab enc l ++ [enc x] = tab enc (l ++ [x]) := by simp [tab]
theorem tab_set (l : List α) (n : Nat) (x : α) : (tab enc l).set n (enc x) = tab enc (l.set n x) := by simp [tab, List.map_set]
theorem tab_all {k : Nat} (h : ∀ x, (enc x).length = k) (l : List α) : AllLen k (tab enc l) := by
  intro r hr
  simp only [tab, List.mem_map] at hr
  obtain ⟨x, _, rfl⟩ := hr
  exact h x
theorem tab_one (h : ∀ x, (enc x).all AV.one = true) (l : List α) : AllOne (tab enc l) := by
  intro r hr
  simp only [tab, List.mem_map] at hr
  obtain ⟨x, _, rfl⟩ := hr
  exact h x
theorem tab_pure (h : ∀ x, AV.pures (enc x) = true) (l : List α) : AllPure (tab enc l) := by
  intro r hr
  simp only [tab, List.mem_map] at hr
  obtain ⟨x, _, rfl⟩ := hr
  exact h x
end
theorem pos_succ {n : Nat} : (0 < n + 1) = True := by simp
theorem drop_one {α : Type} {x : α} {l : List α} : (x :: l).drop 1 = l := rfl
theorem tab_getD_zero {α : Type} {enc : α → List AV} {x : α} {l : List α} : (tab enc (x :: l)).getD 0 [] = enc x := rfl
theorem tab_cons {α : Type} {enc : α → List AV} {x : α} {l : List α} : tab enc (x :: l) = enc x :: tab enc l := rfl
instance : Inhabited RR := ⟨⟨false, [], []⟩⟩

/-! ### forms -/
def rowM (p : Int × RR) : List AV := [.int .i64 p.1, .bool p.2.neg, .sl (u32s p.2.num), .sl (u32s p.2.den)]
def rowQ (p : Int × Rat) : List AV := [.int .i64 p.1, .bool (decide (p.2.num < 0)), .sl (u32s (limbs p.2.num.natAbs)), .sl (u32s (limbs p.2.den))]
def cF (f : List (Int × RR)) : AV := .sl (tab rowM f)
def cL (l : List (Int × Rat)) : AV := .sl (tab rowQ l)
def rf (l : List (Int × Rat)) : List (Int × RR) := l.map fun p => (p.1, qr p.2)
def vals (f : List (Int × RR)) : List (Int × Rat) := f.map fun p => (p.1, p.2.v)
theorem vals_rf (l : List (Int × Rat)) : vals (rf l) = l := by
  simp only [vals, rf, List.map_map]
  conv => rhs; rw [← List.map_id l]
  refine List.map_congr_left fun p _ => ?_
  simp [qr_v]
theorem tab_rf (l : List (Int × Rat)) : tab rowM (rf l) = tab rowQ l := by
  simp only [tab, rf, List.map_map]; rfl
theorem cF_rf (l : List (Int × Rat)) : cF (rf l) = cL l := by rw [cF, tab_rf]; rfl
theorem rowM_all (f : List (Int × RR)) : AllLen 4 (tab rowM f) := tab_all (k := 4) (fun _ => rfl) f
theorem rowQ_all (f : List (Int × Rat)) : AllLen 4 (tab rowQ f) := tab_all (k := 4) (fun _ => rfl) f
theorem rowM_one (f : List (Int × RR)) : AllOne (tab rowM f) := tab_one (fun _ => rfl) f
theorem rowQ_one (f : List (Int × Rat)) : AllOne (tab rowQ f) := tab_one (fun _ => rfl) f
theorem rowM_pure (f : List (Int × RR)) : AllPure (tab rowM f) := tab_pure (fun _ => rfl) f
theorem rowQ_pure (f : List (Int × Rat)) : AllPure (tab rowQ f) := tab_pure (fun _ => rfl) f

/-- A variable's coefficient. -/
def coef : List (Int × Rat) → Int → Rat
  | [], _ => 0
  | p :: l, v => (if p.1 = v then p.2 else 0) + coef l v
theorem coef_append (f g : List (Int × Rat)) (v : Int) : coef (f ++ g) v = coef f v + coef g v := by
  induction f with
  | nil => simp [coef, Rat.zero_add]
  | cons p f ih => simp only [List.cons_append, coef, ih, Rat.add_assoc]
/-- How long a variable's coefficients are together. -/
def nbv : List (Int × Rat) → Int → Nat
  | [], _ => 0
  | p :: l, v => (if p.1 = v then nb p.2 else 0) + nbv l v
theorem nbv_append (f g : List (Int × Rat)) (v : Int) : nbv (f ++ g) v = nbv f v + nbv g v := by
  induction f with
  | nil => simp [nbv]
  | cons p f ih => simp only [List.cons_append, nbv, ih]; omega
theorem nbv_mem {l : List (Int × Rat)} {p : Int × Rat} (h : p ∈ l) : nb p.2 ≤ nbv l p.1 := by
  induction l with
  | nil => cases h
  | cons q l ih =>
    simp only [nbv]
    rcases List.mem_cons.1 h with rfl | h
    · simp
    · have := ih h; omega
/-- No variable's coefficients, and not the list, are longer than that. -/
structure Sz (l : List (Int × Rat)) (B : Nat) : Prop where
  b : ∀ v, nbv l v ≤ B
  l : l.length ≤ B
theorem Sz.mem {l : List (Int × Rat)} {B : Nat} (h : Sz l B) {p : Int × Rat} (hp : p ∈ l) : nb p.2 ≤ B := Nat.le_trans (nbv_mem hp) (h.b _)
theorem Sz.mono {l : List (Int × Rat)} {B C : Nat} (h : Sz l B) (hc : B ≤ C) : Sz l C := ⟨fun v => Nat.le_trans (h.b v) hc, Nat.le_trans h.l hc⟩
theorem Sz.append {f g : List (Int × Rat)} {B C : Nat} (hf : Sz f B) (hg : Sz g C) : Sz (f ++ g) (B + C) :=
  ⟨fun v => by rw [nbv_append]; have := hf.b v; have := hg.b v; omega, by rw [List.length_append]; have := hf.l; have := hg.l; omega⟩
theorem Sz.left {f g : List (Int × Rat)} {B : Nat} (h : Sz (f ++ g) B) : Sz f B :=
  ⟨fun v => by have := h.b v; rw [nbv_append] at this; omega, by have := h.l; rw [List.length_append] at this; omega⟩
theorem Sz.right {f g : List (Int × Rat)} {B : Nat} (h : Sz (f ++ g) B) : Sz g B :=
  ⟨fun v => by have := h.b v; rw [nbv_append] at this; omega, by have := h.l; rw [List.length_append] at this; omega⟩
/-- Normal: variables rise, no coefficient is 0. -/
structure NF (l : List (Int × Rat)) : Prop where
  lt : l.Pairwise fun p q => p.1 < q.1
  nz : ∀ p ∈ l, p.2 ≠ 0
theorem NF.nil : NF [] := ⟨List.Pairwise.nil, fun _ h => by cases h⟩
theorem NF.tail {p : Int × Rat} {l : List (Int × Rat)} (h : NF (p :: l)) : NF l := ⟨(List.pairwise_cons.1 h.lt).2, fun q hq => h.nz q (List.mem_cons_of_mem _ hq)⟩
theorem NF.cons {p : Int × Rat} {l : List (Int × Rat)} (h : NF l) (h0 : p.2 ≠ 0) (hl : ∀ q ∈ l, p.1 < q.1) : NF (p :: l) :=
  ⟨List.pairwise_cons.2 ⟨hl, h.lt⟩, fun q hq => by rcases List.mem_cons.1 hq with rfl | hq; exact h0; exact h.nz q hq⟩
theorem NF.head {p : Int × Rat} {l : List (Int × Rat)} (h : NF (p :: l)) : ∀ q ∈ l, p.1 < q.1 := (List.pairwise_cons.1 h.lt).1
theorem coef_none {l : List (Int × Rat)} {v : Int} (h : ∀ p ∈ l, p.1 ≠ v) : coef l v = 0 := by
  induction l with
  | nil => rfl
  | cons p l ih => rw [coef, if_neg (h p List.mem_cons_self), ih fun q hq => h q (List.mem_cons_of_mem _ hq), Rat.zero_add]
theorem NF.coef_head {p : Int × Rat} {l : List (Int × Rat)} (h : NF (p :: l)) : coef (p :: l) p.1 = p.2 := by
  rw [coef, if_pos rfl, coef_none fun q hq => by have := h.head q hq; omega, Rat.add_zero]
theorem NF.coef_lt {p : Int × Rat} {l : List (Int × Rat)} (h : NF (p :: l)) {v : Int} (hv : v < p.1) : coef (p :: l) v = 0 :=
  coef_none fun q hq => by
    rcases List.mem_cons.1 hq with rfl | hq
    · omega
    · have := h.head q hq; omega
theorem NF.coef_tail {p : Int × Rat} {l : List (Int × Rat)} (h : NF (p :: l)) (v : Int) : coef l v = if p.1 = v then 0 else coef (p :: l) v := by
  split
  · rename_i hv; subst hv; exact coef_none fun q hq => by have := h.head q hq; omega
  · rename_i hv; rw [coef, if_neg hv, Rat.zero_add]
/-- A normal form is told by its coefficients. -/
theorem NF.ext : ∀ {f g : List (Int × Rat)}, NF f → NF g → (∀ v, coef f v = coef g v) → f = g
  | [], [], _, _, _ => rfl
  | [], q :: g, _, hg, h => by
    have := h q.1
    rw [hg.coef_head] at this
    exact absurd this.symm (hg.nz q List.mem_cons_self)
  | p :: f, [], hf, _, h => by
    have := h p.1
    rw [hf.coef_head] at this
    exact absurd this (hf.nz p List.mem_cons_self)
  | p :: f, q :: g, hf, hg, h => by
    have h1 : p.1 = q.1 := by
      rcases Int.lt_trichotomy p.1 q.1 with hlt | he | hlt
      · have := h p.1
        rw [hf.coef_head, hg.coef_lt hlt] at this
        exact absurd this (hf.nz p List.mem_cons_self)
      · exact he
      · have := h q.1
        rw [hg.coef_head, hf.coef_lt hlt] at this
        exact absurd this.symm (hg.nz q List.mem_cons_self)
    have h2 : p.2 = q.2 := by
      have := h p.1
      rwa [hf.coef_head, h1, hg.coef_head] at this
    have h3 : f = g := NF.ext hf.tail hg.tail fun v => by rw [hf.coef_tail, hg.coef_tail, h1, h v]
    rw [h3, show p = q from Prod.ext h1 h2]

/-! ### two normal forms put together -/
def mergeF : List (Int × Rat) → List (Int × Rat) → List (Int × Rat)
  | [], g => g
  | f, [] => f
  | p :: f, q :: g => if p.1 < q.1 then p :: mergeF f (q :: g) else if q.1 < p.1 then q :: mergeF (p :: f) g else if p.2 + q.2 = 0 then mergeF f g else (p.1, p.2 + q.2) :: mergeF f g
  termination_by f g => f.length + g.length
theorem mergeF_nil_left (g : List (Int × Rat)) : mergeF [] g = g := by simp [mergeF]
theorem mergeF_nil_right (f : List (Int × Rat)) : mergeF f [] = f := by cases f <;> simp [mergeF]
theorem mergeF_cons (p : Int × Rat) (f : List (Int × Rat)) (q : Int × Rat) (g : List (Int × Rat)) : mergeF (p :: f) (q :: g) = if p.1 < q.1 then p :: mergeF f (q :: g) else if q.1 < p.1 then q :: mergeF (p :: f) g else if p.2 + q.2 = 0 then mergeF f g else (p.1, p.2 + q.2) :: mergeF f g := by
  rw [mergeF]
theorem mergeF_ind {P : List (Int × Rat) → List (Int × Rat) → Prop} (h1 : ∀ g, P [] g) (h2 : ∀ f, P f [])
    (h3 : ∀ p f q g, P f (q :: g) → P (p :: f) g → P f g → P (p :: f) (q :: g)) : ∀ f g, P f g := by
  intro f g
  induction hn : f.length + g.length using Nat.strongRecOn generalizing f g with
  | _ n ih =>
    match f, g with
    | [], g => exact h1 g
    | p :: f, [] => exact h2 _
    | p :: f, q :: g =>
      simp only [List.length_cons] at hn
      exact h3 p f q g (ih _ (by simp only [List.length_cons]; omega) f (q :: g) rfl) (ih _ (by simp only [List.length_cons]; omega) (p :: f) g rfl) (ih _ (by omega) f g rfl)
theorem coef_merge (v : Int) : ∀ f g : List (Int × Rat), coef (mergeF f g) v = coef f v + coef g v := by
  refine mergeF_ind (fun g => ?_) (fun f => ?_) fun p f q g i1 i2 i3 => ?_
  · rw [mergeF_nil_left, coef, Rat.zero_add]
  · rw [mergeF_nil_right]; simp [coef, Rat.add_zero]
  · rw [mergeF_cons]
    split
    · simp only [coef, i1]; grind
    · split
      · simp only [coef, i2]; grind
      · have he : p.1 = q.1 := by omega
        split
        · rename_i h0
          simp only [i3, coef, he]
          split <;> grind
        · simp only [coef, i3, he]
          split <;> grind
theorem mem_merge {r : Int × Rat} : ∀ f g : List (Int × Rat), r ∈ mergeF f g → (∃ p ∈ f, p.1 = r.1) ∨ ∃ q ∈ g, q.1 = r.1 := by
  refine mergeF_ind (fun g h => ?_) (fun f h => ?_) fun p f q g i1 i2 i3 h => ?_
  · rw [mergeF_nil_left] at h; exact .inr ⟨r, h, rfl⟩
  · rw [mergeF_nil_right] at h; exact .inl ⟨r, h, rfl⟩
  · rw [mergeF_cons] at h
    have lift : ∀ {f' g' : List (Int × Rat)}, (∀ x ∈ f', x ∈ p :: f) → (∀ x ∈ g', x ∈ q :: g) → ((∃ x ∈ f', x.1 = r.1) ∨ ∃ x ∈ g', x.1 = r.1) → (∃ x ∈ p :: f, x.1 = r.1) ∨ ∃ x ∈ q :: g, x.1 = r.1 := by
      rintro f' g' hf hg (⟨x, hx, e⟩ | ⟨x, hx, e⟩)
      · exact .inl ⟨x, hf x hx, e⟩
      · exact .inr ⟨x, hg x hx, e⟩
    split at h
    · rcases List.mem_cons.1 h with rfl | h
      · exact .inl ⟨r, List.mem_cons_self, rfl⟩
      · exact lift (fun x hx => List.mem_cons_of_mem _ hx) (fun x hx => hx) (i1 h)
    · split at h
      · rcases List.mem_cons.1 h with rfl | h
        · exact .inr ⟨r, List.mem_cons_self, rfl⟩
        · exact lift (fun x hx => hx) (fun x hx => List.mem_cons_of_mem _ hx) (i2 h)
      · split at h
        · exact lift (fun x hx => List.mem_cons_of_mem _ hx) (fun x hx => List.mem_cons_of_mem _ hx) (i3 h)
        · rcases List.mem_cons.1 h with rfl | h
          · exact .inl ⟨p, List.mem_cons_self, rfl⟩
          · exact lift (fun x hx => List.mem_cons_of_mem _ hx) (fun x hx => List.mem_cons_of_mem _ hx) (i3 h)
theorem NF.merge : ∀ f g : List (Int × Rat), NF f → NF g → NF (mergeF f g) := by
  refine mergeF_ind (fun g hf hg => ?_) (fun f hf hg => ?_) fun p f q g i1 i2 i3 hf hg => ?_
  · rwa [mergeF_nil_left]
  · rwa [mergeF_nil_right]
  · rw [mergeF_cons]
    have lo : ∀ v, (∀ x ∈ p :: f, v ≤ x.1) → True := fun _ _ => trivial
    split
    · rename_i h
      refine NF.cons (i1 hf.tail hg) (hf.nz p List.mem_cons_self) fun r hr => ?_
      rcases mem_merge _ _ hr with ⟨x, hx, e⟩ | ⟨x, hx, e⟩
      · have := hf.head x hx; omega
      · rcases List.mem_cons.1 hx with rfl | hx
        · omega
        · have := hg.head x hx; omega
    · split
      · rename_i h1 h
        refine NF.cons (i2 hf hg.tail) (hg.nz q List.mem_cons_self) fun r hr => ?_
        rcases mem_merge _ _ hr with ⟨x, hx, e⟩ | ⟨x, hx, e⟩
        · rcases List.mem_cons.1 hx with rfl | hx
          · omega
          · have := hf.head x hx; omega
        · have := hg.head x hx; omega
      · have he : p.1 = q.1 := by omega
        split
        · exact i3 hf.tail hg.tail
        · rename_i h0
          refine NF.cons (i3 hf.tail hg.tail) h0 fun r hr => ?_
          rcases mem_merge _ _ hr with ⟨x, hx, e⟩ | ⟨x, hx, e⟩
          · have := hf.head x hx; dsimp only; omega
          · have := hg.head x hx; dsimp only; omega
theorem nbv_merge (v : Int) : ∀ f g : List (Int × Rat), nbv (mergeF f g) v ≤ nbv f v + nbv g v := by
  refine mergeF_ind (fun g => ?_) (fun f => ?_) fun p f q g i1 i2 i3 => ?_
  · rw [mergeF_nil_left]; simp [nbv]
  · rw [mergeF_nil_right]; simp [nbv]
  · rw [mergeF_cons]
    simp only [nbv] at *
    split
    · simp only [nbv]; omega
    · split
      · simp only [nbv]; omega
      · have he : p.1 = q.1 := by omega
        split
        · omega
        · simp only [nbv]
          have := nb_add p.2 q.2
          rw [he]
          split <;> omega
theorem len_merge : ∀ f g : List (Int × Rat), (mergeF f g).length ≤ f.length + g.length := by
  refine mergeF_ind (fun g => ?_) (fun f => ?_) fun p f q g i1 i2 i3 => ?_
  · rw [mergeF_nil_left]; simp
  · rw [mergeF_nil_right]; simp
  · rw [mergeF_cons]
    simp only [List.length_cons] at *
    split
    · simp only [List.length_cons]; omega
    · split
      · simp only [List.length_cons]; omega
      · split
        · omega
        · simp only [List.length_cons]; omega
/-! ### the normal form of any form -/
def normF : List (Int × Rat) → List (Int × Rat)
  | [] => []
  | p :: f => mergeF (if p.2 = 0 then [] else [p]) (normF f)
theorem coef_norm (v : Int) : ∀ f : List (Int × Rat), coef (normF f) v = coef f v
  | [] => rfl
  | p :: f => by
    rw [normF, coef_merge, coef_norm v f, coef]
    split
    · rename_i h; rw [h]; simp [coef]
    · simp [coef, Rat.add_zero]
theorem NF.norm : ∀ f : List (Int × Rat), NF (normF f)
  | [] => NF.nil
  | p :: f => by
    rw [normF]
    refine NF.merge _ _ ?_ (NF.norm f)
    split
    · exact NF.nil
    · rename_i h; exact NF.cons NF.nil h fun _ h => by cases h
theorem nbv_norm (v : Int) : ∀ f : List (Int × Rat), nbv (normF f) v ≤ nbv f v
  | [] => Nat.le_refl _
  | p :: f => by
    rw [normF]
    refine Nat.le_trans (nbv_merge _ _ _) ?_
    have := nbv_norm v f
    simp only [nbv]
    split
    · simp only [nbv]; omega
    · simp only [nbv]; omega
theorem len_norm : ∀ f : List (Int × Rat), (normF f).length ≤ f.length
  | [] => Nat.le_refl _
  | p :: f => by
    rw [normF]
    refine Nat.le_trans (len_merge _ _) ?_
    have := len_norm f
    split <;> simp only [List.length_cons, List.length_nil] <;> omega
theorem Sz.norm {f : List (Int × Rat)} {B : Nat} (h : Sz f B) : Sz (normF f) B := ⟨fun v => Nat.le_trans (nbv_norm v f) (h.b v), Nat.le_trans (len_norm f) h.l⟩
theorem norm_of {f g : List (Int × Rat)} (hg : NF g) (h : ∀ v, coef g v = coef f v) : g = normF f := NF.ext hg (NF.norm f) fun v => by rw [h, coef_norm]
theorem norm_self {f : List (Int × Rat)} (h : NF f) : normF f = f := (norm_of h fun _ => rfl).symm
theorem norm_split (f g : List (Int × Rat)) : mergeF (normF f) (normF g) = normF (f ++ g) :=
  norm_of (NF.merge _ _ (NF.norm f) (NF.norm g)) fun v => by rw [coef_merge, coef_norm, coef_norm, coef_append]
/-- Coefficients that are 0 in a normal form are those of variables that it has not. -/
theorem NF.coef_zero {l : List (Int × Rat)} (h : NF l) {p : Int × Rat} (hp : p ∈ l) : coef l p.1 = p.2 := by
  induction l with
  | nil => cases hp
  | cons q l ih =>
    rcases List.mem_cons.1 hp with rfl | hp
    · exact h.coef_head
    · have h1 := h.head p hp
      rw [coef, if_neg (by omega), Rat.zero_add]
      exact ih h.tail hp
theorem NF.mem_of_coef {l : List (Int × Rat)} {v : Int} (h : coef l v ≠ 0) : ∃ p ∈ l, p.1 = v := by
  induction l with
  | nil => exact absurd rfl h
  | cons q l ih =>
    by_cases hq : q.1 = v
    · exact ⟨q, List.mem_cons_self, hq⟩
    · rw [coef, if_neg hq, Rat.zero_add] at h
      obtain ⟨p, hp, e⟩ := ih h
      exact ⟨p, List.mem_cons_of_mem _ hp, e⟩

/-- How long all coefficients are together. -/
def nbs : List (Int × Rat) → Nat
  | [] => 0
  | p :: l => nb p.2 + nbs l
theorem nbs_append (f g : List (Int × Rat)) : nbs (f ++ g) = nbs f + nbs g := by
  induction f with
  | nil => simp [nbs]
  | cons p f ih => simp only [List.cons_append, nbs, ih]; omega
theorem nbv_le_nbs (l : List (Int × Rat)) (v : Int) : nbv l v ≤ nbs l := by
  induction l with
  | nil => exact Nat.le_refl _
  | cons p l ih => simp only [nbv, nbs]; split <;> omega
theorem nbs_len (l : List (Int × Rat)) : l.length ≤ nbs l := by
  induction l with
  | nil => simp
  | cons p l ih => simp only [nbs, List.length_cons]; have := nb_pos p.2; omega
theorem Sz.of (l : List (Int × Rat)) : Sz l (nbs l) := ⟨nbv_le_nbs l, nbs_len l⟩
theorem nbs_merge : ∀ f g : List (Int × Rat), nbs (mergeF f g) ≤ nbs f + nbs g := by
  refine mergeF_ind (fun g => ?_) (fun f => ?_) fun p f q g i1 i2 i3 => ?_
  · rw [mergeF_nil_left]; simp [nbs]
  · rw [mergeF_nil_right]; simp [nbs]
  · rw [mergeF_cons]
    simp only [nbs] at *
    split
    · simp only [nbs]; omega
    · split
      · simp only [nbs]; omega
      · split
        · omega
        · simp only [nbs]
          have := nb_add p.2 q.2
          omega
theorem nbs_norm : ∀ f : List (Int × Rat), nbs (normF f) ≤ nbs f
  | [] => Nat.le_refl _
  | p :: f => by
    rw [normF]
    refine Nat.le_trans (nbs_merge _ _) ?_
    have := nbs_norm f
    simp only [nbs]
    split <;> simp only [nbs] <;> omega

/-! ### a form's value -/
/-- The value under an assignment. -/
def ev2 (x : Int → Rat) : List (Int × Rat) → Rat
  | [] => 0
  | p :: l => p.2 * x p.1 + ev2 x l
theorem ev2_append (x : Int → Rat) (f g : List (Int × Rat)) : ev2 x (f ++ g) = ev2 x f + ev2 x g := by
  induction f with
  | nil => simp [ev2, Rat.zero_add]
  | cons p f ih => simp only [List.cons_append, ev2, ih, Rat.add_assoc]
theorem ev2_merge (x : Int → Rat) : ∀ f g : List (Int × Rat), ev2 x (mergeF f g) = ev2 x f + ev2 x g := by
  refine mergeF_ind (fun g => ?_) (fun f => ?_) fun p f q g i1 i2 i3 => ?_
  · rw [mergeF_nil_left, ev2, Rat.zero_add]
  · rw [mergeF_nil_right]; simp [ev2, Rat.add_zero]
  · rw [mergeF_cons]
    split
    · rw [ev2, i1, ev2, ev2]; grind
    · split
      · rw [ev2, i2, ev2, ev2]; grind
      · have he : p.1 = q.1 := by omega
        split
        · rename_i h0
          rw [i3, ev2, ev2, he]
          grind
        · rw [ev2, i3, ev2, ev2, he]
          grind
theorem ev2_norm (x : Int → Rat) : ∀ f : List (Int × Rat), ev2 x (normF f) = ev2 x f
  | [] => rfl
  | p :: f => by
    rw [normF, ev2_merge, ev2_norm x f, ev2]
    split
    · rename_i h; rw [h]; simp [ev2]
    · simp [ev2, Rat.add_zero]
/-- So many times. -/
def scaleF (c : Rat) (f : List (Int × Rat)) : List (Int × Rat) := f.map fun p => (p.1, c * p.2)
theorem coef_scale (c : Rat) (f : List (Int × Rat)) (v : Int) : coef (scaleF c f) v = c * coef f v := by
  induction f with
  | nil => simp [scaleF, coef]
  | cons p f ih =>
    simp only [scaleF, List.map_cons, coef] at *
    rw [ih]
    split <;> grind
theorem NF.scale {f : List (Int × Rat)} (h : NF f) {c : Rat} (hc : c ≠ 0) : NF (scaleF c f) := by
  refine ⟨?_, fun p hp => ?_⟩
  · have := h.lt
    simp only [scaleF, List.pairwise_map]
    exact this
  · simp only [scaleF, List.mem_map] at hp
    obtain ⟨q, hq, rfl⟩ := hp
    dsimp only
    intro h0
    rcases Rat.mul_eq_zero.1 h0 with h1 | h1
    · exact hc h1
    · exact h.nz q hq h1
theorem ev2_scale (x : Int → Rat) (c : Rat) (f : List (Int × Rat)) : ev2 x (scaleF c f) = c * ev2 x f := by
  induction f with
  | nil => simp [scaleF, ev2]
  | cons p f ih =>
    simp only [scaleF, List.map_cons, ev2] at *
    rw [ih]
    grind
theorem nbv_none {l : List (Int × Rat)} {v : Int} (h : ∀ p ∈ l, p.1 ≠ v) : nbv l v = 0 := by
  induction l with
  | nil => rfl
  | cons p l ih => rw [nbv, if_neg (h p List.mem_cons_self), ih fun q hq => h q (List.mem_cons_of_mem _ hq)]
theorem Sz.scale {l : List (Int × Rat)} (hl : NF l) {B : Nat} (h : Sz l B) (c : Rat) : Sz (scaleF c l) (nb c + B) := by
  refine ⟨fun v => ?_, by have := h.l; simp [scaleF]; omega⟩
  have key : ∀ l : List (Int × Rat), NF l → nbv (scaleF c l) v ≤ nb c + nbv l v := by
    intro l
    induction l with
    | nil => intro _; simp [scaleF, nbv]
    | cons p l ih =>
      intro hl
      have h1 := ih hl.tail
      simp only [scaleF, List.map_cons, nbv] at *
      have h2 := nb_mul c p.2
      split
      · rename_i hv
        subst hv
        have h3 : nbv (l.map fun p => (p.1, c * p.2)) p.1 = 0 := nbv_none fun q hq => by
          simp only [List.mem_map] at hq
          obtain ⟨r, hr, rfl⟩ := hq
          have := hl.head r hr
          dsimp only
          omega
        rw [h3]
        omega
      · omega
  have := key l hl
  have := h.b v
  omega

/-! ### a form's shape -/
def topF (l : List (Int × Rat)) : Nat := l.foldl (fun t p => Nat.gcd t p.2.num.natAbs) 0
def botF (l : List (Int × Rat)) : Nat := l.foldl (fun t p => Nat.lcm t p.2.den) 1
theorem take_succ_foldl {α β : Type} [Inhabited α] (g : β → α → β) (b : β) {l : List α} {i : Nat} (h : i < l.length) : (l.take (i + 1)).foldl g b = g ((l.take i).foldl g b) (l.getD i default) := by
  rw [List.take_succ_eq_append_getElem h, List.foldl_append]
  simp [List.getD_eq_getElem?_getD, h]
theorem topF_take {l : List (Int × Rat)} {i : Nat} (h : i < l.length) : topF (l.take (i + 1)) = Nat.gcd (topF (l.take i)) (l.getD i default).2.num.natAbs := take_succ_foldl _ _ h
theorem botF_take {l : List (Int × Rat)} {i : Nat} (h : i < l.length) : botF (l.take (i + 1)) = Nat.lcm (botF (l.take i)) (l.getD i default).2.den := take_succ_foldl _ _ h
theorem foldl_gcd (l : List (Int × Rat)) (t : Nat) : l.foldl (fun t p => Nat.gcd t p.2.num.natAbs) t ≠ 0 ∨ (t = 0 ∧ ∀ p ∈ l, p.2.num.natAbs = 0) := by
  induction l generalizing t with
  | nil => by_cases h : t = 0 <;> simp [h]
  | cons p l ih =>
    simp only [List.foldl_cons]
    rcases ih (Nat.gcd t p.2.num.natAbs) with h | ⟨h1, h2⟩
    · exact .inl h
    · rw [Nat.gcd_eq_zero_iff] at h1
      refine .inr ⟨h1.1, fun q hq => ?_⟩
      rcases List.mem_cons.1 hq with rfl | hq
      · exact h1.2
      · exact h2 q hq
theorem topF_ne {p : Int × Rat} {l : List (Int × Rat)} (h : NF (p :: l)) : topF (p :: l) ≠ 0 := by
  rcases foldl_gcd (p :: l) 0 with h1 | ⟨_, h2⟩
  · exact h1
  · exact absurd (Rat.num_eq_zero.1 (Int.natAbs_eq_zero.1 (h2 p List.mem_cons_self))) (h.nz p List.mem_cons_self)
theorem foldl_lcm (l : List (Int × Rat)) : ∀ t : Nat, 0 < t → 0 < l.foldl (fun t p => Nat.lcm t p.2.den) t ∧ l.foldl (fun t p => Nat.lcm t p.2.den) t ≤ t * 2 ^ nbs l := by
  induction l with
  | nil => intro t ht; simp [nbs, ht]
  | cons p l ih =>
    intro t ht
    simp only [List.foldl_cons]
    have hp := p.2.den_pos
    obtain ⟨h1, h2⟩ := ih (Nat.lcm t p.2.den) (Nat.lcm_pos ht hp)
    refine ⟨h1, Nat.le_trans h2 ?_⟩
    have h3 : Nat.lcm t p.2.den ≤ t * p.2.den := Nat.div_le_self _ _
    have h4 : p.2.den ≤ 2 ^ nb p.2 := Nat.le_of_lt (Nat.lt_of_le_of_lt (by unfold H; omega) (H_lt p.2))
    rw [nbs, Nat.pow_add, ← Nat.mul_assoc]
    exact Nat.mul_le_mul_right _ (Nat.le_trans h3 (Nat.mul_le_mul_left _ h4))
theorem botF_pos (l : List (Int × Rat)) : 0 < botF l := (foldl_lcm l 1 (by omega)).1
theorem botF_le (l : List (Int × Rat)) : botF l ≤ 2 ^ nbs l := by have := (foldl_lcm l 1 (by omega)).2; rwa [Nat.one_mul] at this
theorem foldl_gcd_lt {k : Nat} (l : List (Int × Rat)) : ∀ t : Nat, t < 2 ^ k → (∀ p ∈ l, nb p.2 ≤ k) → l.foldl (fun t p => Nat.gcd t p.2.num.natAbs) t < 2 ^ k := by
  induction l with
  | nil => intro t ht _; exact ht
  | cons p l ih =>
    intro t ht hl
    simp only [List.foldl_cons]
    refine ih _ ?_ fun q hq => hl q (List.mem_cons_of_mem _ hq)
    by_cases h0 : t = 0
    · subst h0
      rw [Nat.gcd_zero_left]
      exact Nat.lt_of_lt_of_le (Nat.lt_of_le_of_lt (by unfold H; omega) (H_lt p.2)) (Nat.pow_le_pow_right (by omega) (hl p List.mem_cons_self))
    · exact Nat.lt_of_le_of_lt (Nat.gcd_le_left _ (Nat.pos_of_ne_zero h0)) ht
theorem topF_lt {k : Nat} {l : List (Int × Rat)} (h : ∀ p ∈ l, nb p.2 ≤ k) : topF l < 2 ^ k := foldl_gcd_lt l 0 (Nat.pow_pos (by omega)) h
/-- How often a form's shape is taken. -/
def primeC (l : List (Int × Rat)) : Rat := match l with
  | [] => 1
  | p :: _ => mkRat (iv (decide (p.2.num.sign < 0)) (limbs (topF l))) (botF l)
def primeF (l : List (Int × Rat)) : List (Int × Rat) := scaleF (primeC l)⁻¹ l
theorem primeC_ne {l : List (Int × Rat)} (h : NF l) : primeC l ≠ 0 := by
  cases l with
  | nil => decide
  | cons p l =>
    unfold primeC
    rw [Rat.mkRat_ne_zero (Nat.ne_of_gt (botF_pos _))]
    have := topF_ne h
    intro h0
    have h1 := congrArg Int.natAbs h0
    rw [iv_abs, val_limbs] at h1
    exact this h1
theorem primeF_scale {l : List (Int × Rat)} (h : NF l) : scaleF (primeC l) (primeF l) = l := by
  have hc := primeC_ne h
  simp only [primeF, scaleF, List.map_map]
  conv => rhs; rw [← List.map_id l]
  refine List.map_congr_left fun p _ => ?_
  simp only [Function.comp, id]
  rw [← Rat.mul_assoc, Rat.mul_inv_cancel _ hc, Rat.one_mul]
theorem NF.prime {l : List (Int × Rat)} (h : NF l) : NF (primeF l) := h.scale fun h0 => primeC_ne h (by
  have := Rat.inv_inv (primeC l)
  rw [h0, Rat.inv_zero] at this
  exact this.symm)
theorem nb_primeC {l : List (Int × Rat)} {B : Nat} (hB : ∀ p ∈ l, nb p.2 ≤ B) (h1 : 1 ≤ B) (h2 : nbs l ≤ B) : nb (primeC l) ≤ B + 2 := by
  cases l with
  | nil => show nb 1 ≤ B + 2; rw [nb_one]; omega
  | cons p l =>
    unfold primeC
    refine nb_le (Nat.lt_of_le_of_lt (H_mkRat _ (Nat.ne_of_gt (botF_pos _))) ?_)
    rw [iv_abs, val_limbs]
    have h3 := topF_lt hB
    have h4 := botF_le (p :: l)
    have h5 : 2 ^ nbs (p :: l) ≤ 2 ^ B := Nat.pow_le_pow_right (by omega) h2
    have h6 : 2 ^ (B + 2) = 2 ^ B * 4 := by rw [Nat.pow_add]
    omega
end Go.Proofs.Ytjkjapjcmbfkgaa.Vm

/-
  Forms: byVar, together, merge, sum.
-/
namespace Go.Proofs.Ytjkjapjcmbfkgaa.Vm
open Go Go.RowKit
set_option linter.unusedVariables false
set_option linter.unusedSimpArgs false
set_option pp.deepTerms false
set_option pp.deepTerms.threshold 8

def cmpV (a b : Int) : Int := if a < b then -1 else if b < a then 1 else 0
set_option maxHeartbeats 1000000 in
theorem byVar_ok (p q : Int × RR) : Pure Try.prog 78 [.agg (rowM p), .agg (rowM q)] (· = .int .i64 (cmpV p.1 q.1)) := by
  obtain ⟨v, a⟩ := p
  obtain ⟨w, b⟩ := q
  (refine pureW Try.func78 rfl (rs := [Go.ResultVar.tmp 4]) rfl (n := 17) rfl ?_; simp only [List.length_cons, List.length_nil, List.replicate, List.cons_append, List.nil_append])
  simp only [rowM]
  (repeat' (first | refine W_block ?_ | (refine W_seqV fun K hK => ?_; (try simp (disch := omega) only [regV_cons, effW_free, opF_box, dead, List.getElem?_cons_succ, List.getElem?_cons_zero, storable, ev_tmp, List.getD_cons_zero, List.all_cons, AV.one, List.all_nil, Bool.and_self, cellsOf, List.length_cons, List.length_nil, Nat.zero_add, Nat.reduceAdd, atK_ap, restV_ap, Eff.app, List.set, Eff.wi, Option.map_some, List.nil_append, List.getD_cons_succ, List.cons_append, opF_assign, ev_const, cst_int, Option.map_none, regV_nil, sepL, List.not_mem_nil, false_implies, implies_true, true_and, opF_fieldAddr, ty53, fieldAddrW_ptr, pos_succ, ty3, ne_eq, reduceCtorEq, not_false_eq_true, Nat.add_zero, valK_ap, opF_load, TI.isAgg, Bool.false_eq_true, or_true, objOf, loadW_ptr, loadO_arr, Nat.reduceLeDiff, ofCells, List.drop_zero, List.take_succ_cons, List.take_zero, List.headD_cons, if_false, opF_binOp, binW_lss, Int.reduceNeg, binW_gtr, gt_iff_lt]); refine hK _ ?_; clear hK K) | refine W_skip ?_ | (refine W_ret ?_; simp (disch := omega) only [blockW, thenW, retR, resW, resV, List.getD_cons_succ, List.getD_cons_zero, asOne_one, view_int]) | (refine W_cond rfl (fun h => ?_) (fun h => ?_) <;> (try simp only [cond_true, cond_false, decide_eq_true_eq, decide_eq_false_iff_not, bne_iff_ne, beq_iff_eq, bne_eq_false_iff_eq, beq_eq_false_iff_ne, ne_eq, Nat.not_lt, Nat.not_le, Int.not_lt, Int.not_le, Bool.not_eq_true', Bool.not_eq_false'] at h)) | refine W_seq ?_))
  all_goals (congr 1; unfold cmpV; (repeat split) <;> omega)
theorem rs_ne (q : Rat) : (q.num.sign != 0) = decide (q ≠ 0) := by
  by_cases h : q = 0
  · subst h; rfl
  · rw [decide_eq_true h, bne_iff_ne]
    intro h0
    exact h (Rat.num_eq_zero.1 (Int.sign_eq_zero_iff_zero.1 h0))

set_option maxHeartbeats 1000000 in
theorem together_ok (p q : Int × Rat) (hp : (qr p.2).ok) (hq : (qr q.2).ok) (hs : (qr (p.2 + q.2)).ok) :
    Pure Try.prog 79 [.agg (rowQ p), .agg (rowQ q)] (· = .tup [.agg (rowQ (p.1, p.2 + q.2)), .bool (decide (p.2 + q.2 ≠ 0))]) := by
  have ha := radd_ok (qr p.2) (qr q.2) hp hq
  rw [qr_v, qr_v] at ha
  have hg := rsign_ok (qr (p.2 + q.2)) hs
  rw [qr_v] at hg
  have hne := rs_ne (p.2 + q.2)
  obtain ⟨v, a⟩ := p
  obtain ⟨w, b⟩ := q
  dsimp only at *
  simp only [RR.av, qr] at ha hg
  rw [← hne]
  (refine pureW Try.func79 rfl (rs := [Go.ResultVar.cell 4 53, Go.ResultVar.tmp 5]) rfl (n := 19) rfl ?_; simp only [List.length_cons, List.length_nil, List.replicate, List.cons_append, List.nil_append])
  unfold rowQ
  ((refine W_seqV fun K hK => ?_); simp (disch := omega) only [regV_cons, effW_free, opF_box, dead, List.getElem?_cons_succ, List.getElem?_cons_zero, storable, ev_tmp, List.getD_cons_zero, List.all_cons, AV.one, List.all_nil, Bool.and_self, cellsOf, List.length_cons, List.length_nil, Nat.zero_add, Nat.reduceAdd, atK_ap, restV_ap, Eff.app, List.set, Eff.wi, Option.map_some, List.nil_append, List.getD_cons_succ, List.cons_append, opF_alloc, ty53, ne_eq, reduceCtorEq, not_false_eq_true, opF_assign, ev_const, cst_bool, Option.map_none, regV_nil, sepL, List.not_mem_nil, false_implies, implies_true, true_and])
  (refine hK _ ?_; clear hK K)
  ((refine W_seqV fun K hK => ?_); simp (disch := omega) only [regV_cons, effW_free, opF_fieldAddr, ty53, ev_tmp, List.getD_cons_succ, List.getD_cons_zero, fieldAddrW_ptr, List.length_cons, List.length_nil, Nat.zero_add, Nat.reduceAdd, Nat.reduceLT, ty29, ne_eq, reduceCtorEq, not_false_eq_true, valK_ap, atK_ap, restV_ap, Eff.app, List.set, Eff.wi, Option.map_none, List.nil_append, opF_load, TI.isAgg, true_or, objOf, loadW_ptr, loadO_arr, pos_succ, Nat.reduceLeDiff, ofCells, List.drop_succ_cons, List.drop_zero, List.take_succ_cons, List.take_zero, List.headD_cons, if_true, List.cons_append, opF_call, ev_func, List.map_cons, List.map_nil, callF_fn, List.append_nil, opF_alloc, dead, List.getElem?_cons_succ, List.getElem?_cons_zero, Option.map_some, opF_store, storeF_ptr, storeO_arr, storable, AV.one, cellsOf, Bool.false_eq_true, false_implies, overlay, wrK_ap, regV_nil, sepL, List.not_mem_nil, implies_true, true_and])
  (refine ⟨by kernel_rfl, rfl, _, ha, ?_⟩; (try simp (disch := omega) only [cQ, List.all_cons, AV.one, List.all_nil, Bool.and_self, List.length_cons, List.length_nil, Nat.zero_add, Nat.reduceAdd, List.drop_succ_cons, List.drop_nil, List.append_nil, true_and]))
  (refine hK _ ?_; clear hK K)
  ((refine W_seqD mixed [(4, 7)] (by kernel_rfl) fun K hK => ?_); simp (disch := omega) only [regV_cons, effW_free, opF_fieldAddr, ty53, ev_tmp, List.getD_cons_succ, List.getD_cons_zero, fieldAddrW_ptr, List.length_cons, List.length_nil, Nat.zero_add, Nat.reduceAdd, pos_succ, ty3, ne_eq, reduceCtorEq, not_false_eq_true, Nat.add_zero, valK_ap, atK_ap, restV_ap, Eff.app, List.set, Eff.wi, Option.map_none, List.nil_append, opF_load, TI.isAgg, Bool.false_eq_true, or_true, objOf, loadW_ptr, loadO_arr, Nat.reduceLeDiff, ofCells, List.drop_zero, List.take_succ_cons, List.take_zero, List.headD_cons, if_false, List.cons_append, ty29, true_or, if_true, opF_build, List.map_cons, List.map_nil, buildW_struct, storable, AV.one, cellsOf, List.forall_mem_cons, and_self, List.all_cons, List.all_nil, Bool.and_self, Nat.reduceLT, List.not_mem_nil, false_implies, implies_true, laid, List.foldl_cons, List.drop_succ_cons, List.drop_nil, List.append_nil, List.foldl_nil, opF_call, ev_func, callF_fn, opF_binOp, ev_const, cst_int, true_and])
  (refine ⟨by kernel_rfl, rfl, _, hg, ?_⟩; (try simp (disch := omega) only [binW_neq, valK_ap, atK_ap, restV_ap, Eff.app, List.set, Eff.wi, Option.map_none, List.cons_append, List.nil_append, regV_cons, effW_free, opF_store, ty53, ne_eq, reduceCtorEq, not_false_eq_true, ev_tmp, List.getD_cons_succ, List.getD_cons_zero, storeF_ptr, storeO_arr, storable, List.all_cons, AV.one, List.all_nil, Bool.and_self, cellsOf, List.length_cons, List.length_nil, Nat.zero_add, Nat.reduceAdd, Bool.false_eq_true, false_implies, pos_succ, Nat.reduceLeDiff, overlay, List.take_zero, List.drop_succ_cons, List.drop_nil, List.append_nil, wrK_ap, Option.map_some, opF_assign, regV_nil, sepL, List.forall_mem_cons, List.getElem?_cons_succ, List.getElem?_cons_zero, List.not_mem_nil, implies_true, and_true, true_and]); (repeat (refine And.intro (by first | omega | (simp only [sepP]; decide)) ?_)))
  (refine hK _ ?_; clear hK K)
  refine W_ret ?_
  simp (disch := omega) only [retR, resW, resV, List.getD_cons_succ, List.getD_cons_zero, asOne_two, view_tup, views_cons, view_bool, views_nil]; try simp (disch := omega) only [ty53, ne_eq, reduceCtorEq, not_false_eq_true, TI.isAgg, true_or, loadW_ptr, List.getD_cons_succ, List.getD_cons_zero, loadO_arr, List.length_cons, List.length_nil, Nat.zero_add, pos_succ, Nat.reduceAdd, Nat.reduceLeDiff, ofCells, List.drop_zero, List.take_succ_cons, List.take_zero, List.headD_cons, if_true, view_agg, views_cons, view_int, view_bool, view_sl, views_nil, and_self]

theorem byVar_q (p q : Int × Rat) : Pure Try.prog 78 [.agg (rowQ p), .agg (rowQ q)] (· = .int .i64 (cmpV p.1 q.1)) := byVar_ok (p.1, qr p.2) (q.1, qr q.2)
/-- What stays the same while two forms are put together. -/
structure Mg (f g f' g' out : List (Int × Rat)) : Prop where
  eq : out ++ mergeF f' g' = mergeF f g
  nb : ∀ v, nbv out v + nbv f' v + nbv g' v ≤ nbv f v + nbv g v
  len : out.length + f'.length + g'.length ≤ f.length + g.length
set_option maxRecDepth 20000 in
set_option maxHeartbeats 4000000 in
theorem merge_new (f g : List (Int × Rat)) {B : Nat} (h : Sz (f ++ g) B) (hB : B < 17179869184) :
    New Try.prog 77 [cL f, cL g, .fn (.func 78) [] [], .fn (.func 79) [] []] 53 4 (· = tab rowQ (mergeF f g)) := by
  (refine new_of_W (T := 53) (k := 4) Try.func77 rfl (rs := [Go.ResultVar.tmp 8]) rfl (nt := 76) rfl ?_; simp only [List.length_cons, List.length_nil, List.replicate, List.cons_append, List.nil_append])
  simp only [cL]
  (repeat (refine W_seqV fun K hK => ?_; (try simp (disch := omega) only [regV_cons, effW_free, opF_assign, ev_const, cst_nils, atK_ap, restV_ap, Eff.app, List.set, Eff.wi, Option.map_none, List.nil_append, regV_nil, sepL, List.not_mem_nil, false_implies, implies_true, true_and]); refine hK _ ?_; clear hK K))
  refine W.le ?_ (Le_nil 9 9 53 4 true rfl rfl)
  simp only [List.set]
  refine W_seq (W_block (W_loop (fun t : {t : List (Int × Rat) × List (Int × Rat) × List (Int × Rat) // Mg f g t.1 t.2.1 t.2.2} =>
      ⟨((cL t.1.1) :: (cL t.1.2.1) :: (.fn (.func 78) [] []) :: (.fn (.func 79) [] []) :: .any :: .any :: .any :: .any :: .any :: (.sref 9 0 t.1.2.2.length) :: .any :: .any :: .any :: .any :: .any :: .any :: .any :: .any :: .any :: .any :: .any :: .any :: .any :: .any :: .any :: .any :: .any :: .any :: .any :: .any :: .any :: .any :: .any :: .any :: .any :: .any :: .any :: .any :: .any :: .any :: .any :: .any :: .any :: .any :: .any :: .any :: .any :: .any :: .any :: .any :: .any :: .any :: .any :: .any :: .any :: .any :: .any :: .any :: .any :: .any :: .any :: .any :: .any :: .any :: .any :: .any :: .any :: .any :: .any :: .any :: .any :: .any :: .any :: .any :: .any :: .any :: []), (.dead :: .dead :: .dead :: .dead :: .dead :: .dead :: .dead :: .dead :: .dead :: (.arr 53 4 true (tab rowQ t.1.2.2)) :: .dead :: .dead :: .dead :: .dead :: .dead :: .dead :: .dead :: .dead :: .dead :: .dead :: .dead :: .dead :: .dead :: .dead :: .dead :: .dead :: .dead :: .dead :: .dead :: .dead :: .dead :: .dead :: .dead :: .dead :: .dead :: .dead :: .dead :: .dead :: .dead :: .dead :: .dead :: .dead :: .dead :: .dead :: .dead :: .dead :: .dead :: .dead :: .dead :: .dead :: .dead :: .dead :: .dead :: .dead :: .dead :: .dead :: .dead :: .dead :: .dead :: .dead :: .dead :: .dead :: .dead :: .dead :: .dead :: .dead :: .dead :: .dead :: .dead :: .dead :: .dead :: .dead :: .dead :: .dead :: .dead :: .dead :: [])⟩) (fun t => t.1.1.length + t.1.2.1.length)
      ⟨(f, g, []), ⟨rfl, by simp [nbv], by simp⟩⟩ (Le_of (by simp [leE, cL]) rfl) fun t => ?_))
  obtain ⟨⟨f', g', out⟩, hM⟩ := t
  dsimp only at hM ⊢
  have hll := hM.len
  have hnb := hM.nb
  have hle : f.length + g.length ≤ B := by have := h.l; rwa [List.length_append] at this
  have hbv : ∀ v, nbv f v + nbv g v ≤ B := fun v => by have := h.b v; rwa [nbv_append] at this
  simp only [cL]
  rcases f' with _ | ⟨p, f'⟩
  · refine W_seq ?_
    ((refine W_seqV fun K hK => ?_); simp (disch := omega) only [tab_nil, regV_cons, effW_free, opF_move, ev_tmp, List.getD_cons_zero, atK_ap, restV_ap, Eff.app, List.set, Eff.wi, Option.map_none, List.nil_append, opF_len, ty22, List.getD_cons_succ, lenW_sl, List.length_nil, Int.cast_ofNat_Int, valK_ap, List.cons_append, opF_binOp, ty3, ev_const, cst_int, binW_gtr, gt_iff_lt, Int.lt_irrefl, decide_false, effW_guard, guardOf, List.getElem?_toArray, List.getElem?_cons_succ, List.getElem?_cons_zero, Option.bind_some, effH_tf, opF_pick, cst_bool, pickW_no, regV_nil, sepL, List.not_mem_nil, false_implies, implies_true, true_and])
    (refine hK _ ?_; clear hK K)
    (first | refine W_cond rfl (fun h => by cases h) (fun _ => ?_) | refine W_seq (W_cond rfl (fun h => by cases h) (fun _ => ?_)))
    refine W_exit ?_
    simp only [thenW, blockW, if_true]
    have heq := hM.eq
    rw [mergeF_nil_left] at heq
    ((refine W_seqR fun K hK => ?_); simp (disch := omega) only [opsW_free, opW_move, St.ret, List.set, ev_tmp, List.getD_cons_succ, List.getD_cons_zero, restO_ap, opW_append, ty22, appendW_eq, rowsOf, appR_sref, ty53, ne_eq, reduceCtorEq, not_false_eq_true, List.length_cons, List.length_nil, Nat.zero_add, Nat.reduceAdd, appO_arr, List.not_mem_nil, true_or, implies_true, tab_length, Nat.add_zero, kills_cons, kill_sl, kill_fn, kills_nil, kill_any, kill_sref, if_true, kill_int, kill_bool, kill_und, tab_take, List.take_length, List.append_nil, List.map_cons, kill_dead, kill_arr, List.map_nil, retK2_ap, rowQ_all, rowQ_one, rowQ_pure, or_self, tab_append, opW_assign, opsW_nil, true_and])
    ((repeat refine And.intro (by first | omega | exact allLen_lit rfl | exact allOne_lit rfl) ?_); refine hK _ ?_; clear hK K)
    refine W_ret ?_
    simp (disch := omega) only [newQ, resW, resV, newK, List.getD_cons_succ, List.getD_cons_zero, asOne_one]
    exact ⟨_, by simp, by simp [tab_length], rfl, by rw [← heq]⟩
  rcases g' with _ | ⟨q, g'⟩
  · refine W_seq ?_
    ((refine W_seqV fun K hK => ?_); simp (disch := omega) only [tab_nil, regV_cons, effW_free, opF_move, ev_tmp, List.getD_cons_zero, atK_ap, restV_ap, Eff.app, List.set, Eff.wi, Option.map_none, List.nil_append, opF_len, ty22, List.getD_cons_succ, lenW_sl, tab_length, List.length_cons, valK_ap, List.cons_append, opF_binOp, ty3, ev_const, cst_int, binW_gtr, gt_iff_lt, Int.natCast_pos, pos_succ, decide_true, effW_guard, guardOf, List.getElem?_toArray, List.getElem?_cons_succ, List.getElem?_cons_zero, Option.bind_some, effH_tt, List.length_nil, Int.cast_ofNat_Int, Int.lt_irrefl, decide_false, opF_pick, cst_bool, pickW_bool, cond_true, regV_nil, sepL, List.not_mem_nil, false_implies, implies_true, true_and])
    (refine hK _ ?_; clear hK K)
    (first | refine W_cond rfl (fun h => by cases h) (fun _ => ?_) | refine W_seq (W_cond rfl (fun h => by cases h) (fun _ => ?_)))
    refine W_exit ?_
    simp only [thenW, blockW, if_true]
    have heq := hM.eq
    rw [mergeF_nil_right] at heq
    simp only [List.length_cons] at hll
    ((refine W_seqR fun K hK => ?_); simp (disch := omega) only [opsW_free, opW_move, St.ret, List.set, ev_tmp, List.getD_cons_succ, List.getD_cons_zero, restO_ap, opW_append, ty22, appendW_eq, rowsOf, appR_sref, ty53, ne_eq, reduceCtorEq, not_false_eq_true, List.length_cons, List.length_nil, Nat.zero_add, Nat.reduceAdd, rowQ_all, rowQ_one, appO_arr, List.not_mem_nil, rowQ_pure, or_self, implies_true, tab_length, kills_cons, kill_sl, kill_fn, kills_nil, kill_any, kill_sref, if_true, kill_int, kill_bool, tab_take, List.take_length, tab_append, List.map_cons, kill_dead, kill_arr, List.map_nil, retK2_ap, true_or, List.length_append, Nat.add_zero, List.append_nil, opW_assign, opsW_nil, true_and])
    ((repeat refine And.intro (by first | omega | exact allLen_lit rfl | exact allOne_lit rfl) ?_); refine hK _ ?_; clear hK K)
    refine W_ret ?_
    simp (disch := omega) only [newQ, resW, resV, newK, List.getD_cons_succ, List.getD_cons_zero, asOne_one]
    exact ⟨_, by simp, by simp [tab_length], rfl, by rw [← heq, List.take_of_length_le (by simp)]⟩
  have hc := byVar_q p q
  simp only [rowQ] at hc
  have hnp : nb p.2 ≤ nbv (p :: f') p.1 := nbv_mem List.mem_cons_self
  have hnq : nb q.2 ≤ nbv (q :: g') q.1 := nbv_mem List.mem_cons_self
  have hnp2 := hnb p.1
  have hnq2 := hnb q.1
  have hbp := hbv p.1
  have hbq := hbv q.1
  simp only [List.length_cons] at hll
  have hmc := mergeF_cons p f' q g'
  have heq := hM.eq
  have hsn : ∀ (r : Int × Rat) (v : Int), nbv (out ++ [r]) v = nbv out v + (if r.1 = v then nb r.2 else 0) := fun r v => by rw [nbv_append]; simp [nbv]
  refine W_seq ?_
  ((refine W_seqV fun K hK => ?_); simp (disch := omega) only [regV_cons, effW_free, opF_move, ev_tmp, List.getD_cons_zero, atK_ap, restV_ap, Eff.app, List.set, Eff.wi, Option.map_none, List.nil_append, opF_len, ty22, List.getD_cons_succ, lenW_sl, tab_length, List.length_cons, valK_ap, List.cons_append, opF_binOp, ty3, ev_const, cst_int, binW_gtr, gt_iff_lt, Int.natCast_pos, pos_succ, decide_true, effW_guard, guardOf, List.getElem?_toArray, List.getElem?_cons_succ, List.getElem?_cons_zero, Option.bind_some, effH_tt, opF_pick, cst_bool, pickW_bool, cond_true, regV_nil, sepL, List.not_mem_nil, false_implies, implies_true, true_and])
  (refine hK _ ?_; clear hK K)
  (first | refine W_cond rfl (fun _ => ?_) (fun h => by cases h) | refine W_seq (W_cond rfl (fun _ => ?_) (fun h => by cases h)))
  refine W_skip ?_
  simp only [thenW]
  refine W_block ?_
  ((refine W_seqD mixed [] (by kernel_rfl) fun K hK => ?_); simp (disch := omega) only [regV_cons, effW_free, opF_move, ev_tmp, List.getD_cons_succ, List.getD_cons_zero, atK_ap, restV_ap, Eff.app, List.set, Eff.wi, Option.map_none, List.nil_append, List.cons_append, opF_indexAddr, ty22, ev_const, cst_int, objOf, indexAddrW_sl, ty53, ne_eq, reduceCtorEq, not_false_eq_true, Int.reduceLE, tab_length, List.length_cons, Int.natCast_pos, pos_succ, rowQ_all, Int.toNat_zero, tab_getD_zero, rowQ, valK_ap, opF_load, TI.isAgg, true_or, loadW_ia, Nat.zero_add, List.length_nil, Nat.reduceAdd, Nat.reduceLeDiff, ofCells, List.drop_zero, List.take_succ_cons, List.take_zero, List.headD_cons, if_true, opF_call, List.map_cons, List.map_nil, callF_fn, List.append_nil, opF_assign, regV_nil, sepL, List.not_mem_nil, false_implies, implies_true, true_and])
  (refine ⟨by kernel_rfl, rfl, _, hc, ?_⟩)
  (refine hK _ ?_; clear hK K)
  refine W_block ?_
  refine W_seq ?_
  ((refine W_regV fun K hK => ?_); simp (disch := omega) only [regV_cons, effW_free, opF_move, ev_tmp, List.getD_cons_succ, List.getD_cons_zero, atK_ap, restV_ap, Eff.app, List.set, Eff.wi, Option.map_none, List.nil_append, opF_binOp, ty3, ev_const, cst_int, binW_lss, valK_ap, List.cons_append, opF_assign, regV_nil, sepL, List.not_mem_nil, false_implies, implies_true, true_and])
  (refine hK _ ?_; clear hK K)
  rcases Int.lt_trichotomy p.1 q.1 with hlt | hee | hgt
  · have hcv : cmpV p.1 q.1 = -1 := by simp [cmpV, hlt]
    rw [hcv]
    (first | refine W_cond rfl (fun _ => ?_) (fun h => by cases h) | refine W_seq (W_cond rfl (fun _ => ?_) (fun h => by cases h)))
    ((refine W_seqR fun K hK => ?_); simp (disch := omega) only [Int.reduceNeg, Int.reduceLT, decide_true, opsW_free, opW_move, St.ret, List.set, ev_tmp, List.getD_cons_succ, List.getD_cons_zero, restO_ap, opW_indexAddr, ty22, ev_const, cst_int, indexAddrW_sl, ty53, ne_eq, reduceCtorEq, not_false_eq_true, Int.reduceLE, tab_length, List.length_cons, Int.natCast_pos, pos_succ, rowQ_all, Int.toNat_zero, tab_getD_zero, rowQ, retK_ap, opW_load, TI.isAgg, true_or, loadW_ia, Nat.zero_add, List.length_nil, Nat.reduceAdd, Nat.reduceLeDiff, ofCells, List.drop_zero, List.take_succ_cons, List.take_zero, List.headD_cons, if_true, opW_buildSlice, litW, dead, List.getElem?_cons_succ, List.getElem?_cons_zero, List.map_cons, List.map_nil, range1, Nat.reduceMul, storable, AV.one, cellsOf, List.forall_mem_cons, List.all_cons, List.all_nil, Bool.and_self, and_self, List.not_mem_nil, false_implies, implies_true, St.seth, Bool.and_true, retK2_ap, opW_append, appendW_eq, rowsOf, appR_sref, appO_arr, forall_const, kills_cons, kill_sl, kill_fn, kills_nil, kill_any, kill_sref, kill_int, kill_bool, kill_ia, kill_agg, tab_take, List.take_length, kill_dead, kill_arr, opW_assign, opsW_nil, true_and])
    ((repeat refine And.intro (by first | omega | exact allLen_lit rfl | exact allOne_lit rfl | exact Or.inl rfl) ?_); refine hK _ ?_; clear hK K)
    ((refine W_regV fun K hK => ?_); simp (disch := omega) only [Int.reduceNeg, regV_cons, effW_free, opF_move, ev_tmp, List.getD_cons_zero, atK_ap, restV_ap, Eff.app, List.set, Eff.wi, Option.map_none, List.nil_append, opF_slice, sliceW, ty22, List.getD_cons_succ, ty53, ne_eq, reduceCtorEq, not_false_eq_true, bnd, evo_some, ev_const, cst_int, evo_none, tab_length, List.length_cons, Int.reduceLE, nat_le_int, Nat.reduceLeDiff, mxOk, true_or, rowQ_all, objOf, Int.reduceToNat, toNat_natCast, tab_take, List.take_succ_cons, List.take_length, tab_drop, List.drop_succ_cons, List.drop_zero, valK_ap, List.cons_append, opF_assign, regV_nil, sepL, List.not_mem_nil, false_implies, implies_true, true_and])
    ((repeat refine And.intro (by omega) ?_); refine hK _ ?_; clear hK K)
    simp only [blockW, thenW]
    rw [if_pos hlt] at hmc
    refine ⟨⟨(f', q :: g', out ++ [p]), ⟨?_, ?_, ?_⟩⟩, Le_drop (by simp [leE, cL]) (by simp [leH, ← tab_snoc, rowQ]) rfl rfl, ?_⟩
    · rw [← heq, hmc]; simp
    · intro v; have := hnb v; rw [hsn]; simp only [nbv] at *; omega
    · simp only [List.length_append, List.length_cons, List.length_nil]; omega
    · simp
  · have hcv : cmpV p.1 q.1 = 0 := by simp [cmpV, hee]
    rw [hcv]
    rw [if_neg (by omega), if_neg (by omega)] at hmc
    have hadd := nb_add p.2 q.2
    have hnq' : nb q.2 ≤ nbv (q :: g') p.1 := by rw [hee]; exact hnq
    have ht := together_ok p q (qr_ok (by omega)) (qr_ok (by omega)) (qr_ok (by omega))
    simp only [rowQ] at ht
    (first | refine W_cond rfl (fun h => by cases h) (fun _ => ?_) | refine W_seq (W_cond rfl (fun h => by cases h) (fun _ => ?_)))
    refine W_seq ?_
    ((refine W_regV fun K hK => ?_); simp (disch := omega) only [Int.lt_irrefl, decide_false, regV_cons, effW_free, opF_move, ev_tmp, List.getD_cons_succ, List.getD_cons_zero, atK_ap, restV_ap, Eff.app, List.set, Eff.wi, Option.map_none, List.nil_append, opF_binOp, ty3, ev_const, cst_int, binW_gtr, gt_iff_lt, valK_ap, List.cons_append, opF_assign, regV_nil, sepL, List.not_mem_nil, false_implies, implies_true, true_and])
    (refine hK _ ?_; clear hK K)
    (first | refine W_cond rfl (fun h => by cases h) (fun _ => ?_) | refine W_seq (W_cond rfl (fun h => by cases h) (fun _ => ?_)))
    refine W_seq ?_
    ((refine W_seqD mixed [(2, 11), (3, 11), (5, 11), (6, 11)] (by kernel_rfl) fun K hK => ?_); simp (disch := omega) only [regV_cons, effW_free, opF_move, ev_tmp, List.getD_cons_succ, List.getD_cons_zero, atK_ap, restV_ap, Eff.app, List.set, Eff.wi, Option.map_none, List.nil_append, List.cons_append, opF_indexAddr, ty22, ev_const, cst_int, objOf, indexAddrW_sl, ty53, ne_eq, reduceCtorEq, not_false_eq_true, Int.reduceLE, tab_length, List.length_cons, Int.natCast_pos, pos_succ, rowQ_all, Int.toNat_zero, tab_getD_zero, rowQ, valK_ap, opF_load, TI.isAgg, true_or, loadW_ia, Nat.zero_add, List.length_nil, Nat.reduceAdd, Nat.reduceLeDiff, ofCells, List.drop_zero, List.take_succ_cons, List.take_zero, List.headD_cons, if_true, opF_call, List.map_cons, List.map_nil, callF_fn, List.append_nil, opF_extract, true_and])
    (refine ⟨by kernel_rfl, rfl, _, ht, ?_⟩; (try simp (disch := omega) only [ne_eq, extractW_tup, List.length_cons, List.length_nil, Nat.zero_add, Nat.reduceAdd, pos_succ, List.getD_cons_zero, valK_ap, atK_ap, restV_ap, Eff.app, List.set, Eff.wi, Option.map_none, List.cons_append, List.nil_append, regV_cons, effW_free, opF_extract, ev_tmp, List.getD_cons_succ, Nat.reduceLT, opF_alloc, dead, List.getElem?_cons_succ, List.getElem?_cons_zero, ty53, reduceCtorEq, not_false_eq_true, Option.map_some, opF_store, storeF_ptr, storeO_arr, storable, List.all_cons, AV.one, List.all_nil, Bool.and_self, cellsOf, Bool.false_eq_true, false_implies, Nat.reduceLeDiff, overlay, List.take_zero, List.drop_succ_cons, List.drop_nil, List.append_nil, wrK_ap, opF_assign, regV_nil, sepL, List.forall_mem_cons, List.not_mem_nil, implies_true, and_true, and_self, true_and]); (repeat (refine And.intro (by first | omega | (simp only [sepP]; decide)) ?_)))
    (refine hK _ ?_; clear hK K)
    by_cases h0 : p.2 + q.2 = 0
    · rw [if_pos h0] at hmc
      have hz : decide (p.2 + q.2 ≠ 0) = false := by simp [h0]
      rw [hz]
      ((refine W_seqV fun K hK => ?_); simp (disch := omega) only [regV_cons, effW_free, opF_move, ev_tmp, List.getD_cons_succ, List.getD_cons_zero, atK_ap, restV_ap, Eff.app, List.set, Eff.wi, Option.map_none, List.nil_append, regV_nil, sepL, List.not_mem_nil, false_implies, implies_true, true_and])
      (refine hK _ ?_; clear hK K)
      (first | refine W_cond rfl (fun h => by cases h) (fun _ => ?_) | refine W_seq (W_cond rfl (fun h => by cases h) (fun _ => ?_)))
      refine W_skip ?_
      simp only [thenW]
      (refine W_regD mixed [] (by kernel_rfl) fun K hK => ?_; simp (disch := omega) only [regV_cons, effW_free, opF_move, ev_tmp, List.getD_cons_zero, atK_ap, restV_ap, Eff.app, List.set, Eff.wi, Option.map_none, List.nil_append, opF_slice, sliceW, ty22, List.getD_cons_succ, ty53, ne_eq, reduceCtorEq, not_false_eq_true, bnd, evo_some, ev_const, cst_int, evo_none, tab_length, List.length_cons, Int.reduceLE, nat_le_int, Nat.reduceLeDiff, mxOk, true_or, rowQ_all, objOf, Int.reduceToNat, toNat_natCast, tab_take, List.take_succ_cons, List.take_length, tab_drop, List.drop_succ_cons, List.drop_zero, valK_ap, List.cons_append, opF_assign, regV_nil, sepL, List.not_mem_nil, false_implies, implies_true, true_and])
      ((repeat refine And.intro (by omega) ?_); refine hK _ ?_; clear hK K)
      simp only [blockW, thenW]
      refine ⟨⟨(f', g', out), ⟨?_, ?_, ?_⟩⟩, Le_drop (by simp [leE, cL]) (by simp [leH]) rfl rfl, ?_⟩
      · rw [← heq, hmc]
      · intro v; have := hnb v; simp only [nbv] at *; omega
      · dsimp only; omega
      · dsimp only [List.length_cons]; omega
    · rw [if_neg h0] at hmc
      have hz : decide (p.2 + q.2 ≠ 0) = true := by simp [h0]
      rw [hz]
      ((refine W_seqV fun K hK => ?_); simp (disch := omega) only [regV_cons, effW_free, opF_move, ev_tmp, List.getD_cons_succ, List.getD_cons_zero, atK_ap, restV_ap, Eff.app, List.set, Eff.wi, Option.map_none, List.nil_append, regV_nil, sepL, List.not_mem_nil, false_implies, implies_true, true_and])
      (refine hK _ ?_; clear hK K)
      (first | refine W_cond rfl (fun _ => ?_) (fun h => by cases h) | refine W_seq (W_cond rfl (fun _ => ?_) (fun h => by cases h)))
      (refine W_regR fun K hK => ?_; simp (disch := omega) only [opsW_free, opW_move, St.ret, List.set, ev_tmp, List.getD_cons_succ, List.getD_cons_zero, restO_ap, opW_load, ty53, ne_eq, reduceCtorEq, not_false_eq_true, TI.isAgg, true_or, loadW_ptr, loadO_arr, List.length_cons, List.length_nil, Nat.zero_add, pos_succ, Nat.reduceAdd, Nat.reduceLeDiff, ofCells, List.drop_zero, List.take_succ_cons, List.take_zero, List.headD_cons, if_true, retK_ap, opW_buildSlice, litW, ty22, dead, List.getElem?_cons_succ, List.getElem?_cons_zero, List.map_cons, List.map_nil, range1, Nat.reduceMul, storable, AV.one, cellsOf, List.forall_mem_cons, List.all_cons, List.all_nil, Bool.and_self, and_self, List.not_mem_nil, false_implies, implies_true, St.seth, Bool.and_true, retK2_ap, opW_append, appendW_eq, rowsOf, appR_sref, appO_arr, forall_const, tab_length, kills_cons, kill_sl, kill_fn, kills_nil, kill_any, kill_sref, kill_int, kill_ptr, kill_bool, kill_ia, kill_agg, kill_tup, tab_take, List.take_length, kill_dead, kill_arr, kill_arrf, opW_assign, opsW_nil, true_and])
      ((repeat refine And.intro (by first | omega | exact allLen_lit rfl | exact allOne_lit rfl | exact Or.inl rfl) ?_); refine hK _ ?_; clear hK K)
      simp only [thenW]
      (refine W_regD mixed [] (by kernel_rfl) fun K hK => ?_; simp (disch := omega) only [regV_cons, effW_free, opF_move, ev_tmp, List.getD_cons_zero, atK_ap, restV_ap, Eff.app, List.set, Eff.wi, Option.map_none, List.nil_append, opF_slice, sliceW, ty22, List.getD_cons_succ, ty53, ne_eq, reduceCtorEq, not_false_eq_true, bnd, evo_some, ev_const, cst_int, evo_none, tab_length, List.length_cons, Int.reduceLE, nat_le_int, Nat.reduceLeDiff, mxOk, true_or, rowQ_all, objOf, Int.reduceToNat, toNat_natCast, tab_take, List.take_succ_cons, List.take_length, tab_drop, List.drop_succ_cons, List.drop_zero, valK_ap, List.cons_append, opF_assign, regV_nil, sepL, List.not_mem_nil, false_implies, implies_true, true_and])
      ((repeat refine And.intro (by omega) ?_); refine hK _ ?_; clear hK K)
      simp only [blockW, thenW]
      refine ⟨⟨(f', g', out ++ [(p.1, p.2 + q.2)]), ⟨?_, ?_, ?_⟩⟩, Le_drop (by simp [leE, cL]) (by simp [leH, ← tab_snoc, rowQ]) rfl rfl, ?_⟩
      · rw [← heq, hmc]; simp
      · intro v; have := hnb v; rw [hsn]; simp only [nbv] at *; rw [hee] at *; split <;> simp_all <;> omega
      · simp only [List.length_append, List.length_cons, List.length_nil]; omega
      · dsimp only [List.length_cons]; omega
  · have hcv : cmpV p.1 q.1 = 1 := by rw [cmpV, if_neg (by omega), if_pos hgt]
    rw [hcv]
    (first | refine W_cond rfl (fun h => by cases h) (fun _ => ?_) | refine W_seq (W_cond rfl (fun h => by cases h) (fun _ => ?_)))
    refine W_seq ?_
    ((refine W_regV fun K hK => ?_); simp (disch := omega) only [Int.reduceLT, decide_false, regV_cons, effW_free, opF_move, ev_tmp, List.getD_cons_succ, List.getD_cons_zero, atK_ap, restV_ap, Eff.app, List.set, Eff.wi, Option.map_none, List.nil_append, opF_binOp, ty3, ev_const, cst_int, binW_gtr, gt_iff_lt, decide_true, valK_ap, List.cons_append, opF_assign, regV_nil, sepL, List.not_mem_nil, false_implies, implies_true, true_and])
    (refine hK _ ?_; clear hK K)
    (first | refine W_cond rfl (fun _ => ?_) (fun h => by cases h) | refine W_seq (W_cond rfl (fun _ => ?_) (fun h => by cases h)))
    ((refine W_seqR fun K hK => ?_); simp (disch := omega) only [opsW_free, opW_move, St.ret, List.set, ev_tmp, List.getD_cons_succ, List.getD_cons_zero, restO_ap, opW_indexAddr, ty22, ev_const, cst_int, indexAddrW_sl, ty53, ne_eq, reduceCtorEq, not_false_eq_true, Int.reduceLE, tab_length, List.length_cons, Int.natCast_pos, pos_succ, rowQ_all, Int.toNat_zero, tab_getD_zero, rowQ, retK_ap, opW_load, TI.isAgg, true_or, loadW_ia, Nat.zero_add, List.length_nil, Nat.reduceAdd, Nat.reduceLeDiff, ofCells, List.drop_zero, List.take_succ_cons, List.take_zero, List.headD_cons, if_true, opW_buildSlice, litW, dead, List.getElem?_cons_succ, List.getElem?_cons_zero, List.map_cons, List.map_nil, range1, Nat.reduceMul, storable, AV.one, cellsOf, List.forall_mem_cons, List.all_cons, List.all_nil, Bool.and_self, and_self, List.not_mem_nil, false_implies, implies_true, St.seth, Bool.and_true, retK2_ap, opW_append, appendW_eq, rowsOf, appR_sref, appO_arr, forall_const, kills_cons, kill_sl, kill_fn, kills_nil, kill_any, kill_sref, kill_int, kill_bool, kill_ia, kill_agg, tab_take, List.take_length, kill_dead, kill_arr, opW_assign, opsW_nil, true_and])
    ((repeat refine And.intro (by first | omega | exact allLen_lit rfl | exact allOne_lit rfl | exact Or.inl rfl) ?_); refine hK _ ?_; clear hK K)
    ((refine W_regV fun K hK => ?_); simp (disch := omega) only [regV_cons, effW_free, opF_move, ev_tmp, List.getD_cons_succ, List.getD_cons_zero, atK_ap, restV_ap, Eff.app, List.set, Eff.wi, Option.map_none, List.nil_append, opF_slice, sliceW, ty22, ty53, ne_eq, reduceCtorEq, not_false_eq_true, bnd, evo_some, ev_const, cst_int, evo_none, tab_length, List.length_cons, Int.reduceLE, nat_le_int, Nat.reduceLeDiff, mxOk, true_or, rowQ_all, objOf, Int.reduceToNat, toNat_natCast, tab_take, List.take_succ_cons, List.take_length, tab_drop, List.drop_succ_cons, List.drop_zero, valK_ap, List.cons_append, opF_assign, regV_nil, sepL, List.not_mem_nil, false_implies, implies_true, true_and])
    ((repeat refine And.intro (by omega) ?_); refine hK _ ?_; clear hK K)
    simp only [blockW, thenW]
    rw [if_neg (by omega), if_pos hgt] at hmc
    refine ⟨⟨(p :: f', g', out ++ [q]), ⟨?_, ?_, ?_⟩⟩, Le_drop (by simp [leE, cL]) (by simp [leH, ← tab_snoc, rowQ]) rfl rfl, ?_⟩
    · rw [← heq, hmc]; simp
    · intro v; have := hnb v; rw [hsn]; simp only [nbv] at *; omega
    · simp only [List.length_append, List.length_cons, List.length_nil]; omega
    · simp

set_option maxHeartbeats 1000000 in
theorem sum_new (f g : List (Int × Rat)) {B : Nat} (h : Sz (f ++ g) B) (hB : B < 17179869184) : New Try.prog 59 [cL f, cL g] 53 4 (· = tab rowQ (mergeF f g)) := by
  have hm := merge_new f g h hB
  (refine new_of_W (T := 53) (k := 4) Try.func59 rfl (rs := [Go.ResultVar.tmp 4]) rfl (nt := 8) rfl ?_; simp only [List.length_cons, List.length_nil, List.replicate, List.cons_append, List.nil_append])
  simp only [cL] at hm ⊢
  (repeat (refine W_seqV fun K hK => ?_; (try simp (disch := omega) only [regV_cons, effW_free, opF_assign, ev_const, cst_nils, atK_ap, restV_ap, Eff.app, List.set, Eff.wi, Option.map_none, List.nil_append, regV_nil, sepL, List.not_mem_nil, false_implies, implies_true, true_and]); refine hK _ ?_; clear hK K))
  (refine W_seqR fun K hK => ?_; simp (disch := omega) only [opsW_free, opW_move, St.ret, List.set, ev_tmp, List.getD_cons_zero, restO_ap, List.getD_cons_succ, opW_call, ev_func, List.map_cons, List.map_nil, callW_fn, List.nil_append, List.append_nil])
  refine ⟨by kernel_rfl, ?_⟩
  refine call_new 7 rfl rfl hm fun rows hr => ?_
  subst hr
  simp (disch := omega) only [tab_length, St.seth, List.set, retK2_ap, St.ret, restO_ap, opsW_free, opW_assign, ev_tmp, List.getD_cons_succ, List.getD_cons_zero, opsW_nil]
  (refine hK _ ?_; clear hK K)
  refine W_ret ?_
  simp (disch := omega) only [newQ, resW, resV, newK, List.getD_cons_succ, List.getD_cons_zero, asOne_one]
  exact ⟨tab rowQ (mergeF f g), by simp [tab_length], by simp [tab_length], rfl, rfl⟩
theorem sum_ok (f g : List (Int × Rat)) {B : Nat} (h : Sz (f ++ g) B) (hB : B < 17179869184) : Pure Try.prog 59 [cL f, cL g] (· = cL (mergeF f g)) :=
  (sum_new f g h hB).pure.mono fun r h => by obtain ⟨rows, rfl, rfl⟩ := h; rfl
end Go.Proofs.Ytjkjapjcmbfkgaa.Vm

/-
  Forms: Norm, Add, Scale, Sub, Cmp.
-/
namespace Go.Proofs.Ytjkjapjcmbfkgaa.Vm
open Go Go.RowKit
set_option linter.unusedVariables false
set_option linter.unusedSimpArgs false
set_option pp.deepTerms false
set_option pp.deepTerms.threshold 8

/-- A form that may be handed in: good numbers, not too long together. -/
structure FOk (f : List (Int × RR)) (B : Nat) : Prop where
  ok : ∀ p ∈ f, p.2.ok
  sz : Sz (vals f) B
theorem vals_length (f : List (Int × RR)) : (vals f).length = f.length := by simp [vals]
theorem vals_append (f g : List (Int × RR)) : vals (f ++ g) = vals f ++ vals g := by simp [vals]
theorem FOk.len {f : List (Int × RR)} {B : Nat} (h : FOk f B) : f.length ≤ B := by
  have := h.sz.l
  rwa [vals_length] at this
theorem FOk.take {f : List (Int × RR)} {B : Nat} (h : FOk f B) (n : Nat) : FOk (f.take n) B := by
  refine ⟨fun p hp => h.ok p (List.mem_of_mem_take hp), ?_⟩
  have h1 := h.sz
  rw [← List.take_append_drop n f, vals_append] at h1
  exact h1.left
theorem FOk.drop {f : List (Int × RR)} {B : Nat} (h : FOk f B) (n : Nat) : FOk (f.drop n) B := by
  refine ⟨fun p hp => h.ok p (List.mem_of_mem_drop hp), ?_⟩
  have h1 := h.sz
  rw [← List.take_append_drop n f, vals_append] at h1
  exact h1.right
theorem FOk.rf {l : List (Int × Rat)} {B : Nat} (h : Sz l B) (hB : B < 17179869184) : FOk (rf l) B := by
  refine ⟨fun p hp => ?_, by rw [vals_rf]; exact h⟩
  simp only [Vm.rf, List.mem_map] at hp
  obtain ⟨q, hq, rfl⟩ := hp
  exact qr_ok (Nat.lt_of_le_of_lt (h.mem hq) hB)
theorem rs_eq (q : Rat) : (q.num.sign == 0) = decide (q = 0) := by
  by_cases h : q = 0
  · subst h; rfl
  · rw [decide_eq_false h, beq_eq_false_iff_ne]
    intro h0
    exact h (Rat.num_eq_zero.1 (Int.sign_eq_zero_iff_zero.1 h0))
theorem half_lt {n : Nat} (h : 2 ≤ n) : n / 2 < n ∧ 0 < n / 2 := by omega

set_option maxHeartbeats 4000000 in
theorem lnorm_new (f : List (Int × RR)) {B : Nat} (h : FOk f B) (hB : B < 17179869184) : New Try.prog 33 [cF f] 53 4 (· = tab rowQ (normF (vals f))) := by
  induction hn : f.length using Nat.strongRecOn generalizing f with
  | _ n ih =>
    have hlen := h.len
    match f, hn with
    | [], _ =>
      (refine new_of_W (T := 53) (k := 4) Try.func33 rfl (rs := [Go.ResultVar.tmp 2]) rfl (nt := 39) rfl ?_; simp only [List.length_cons, List.length_nil, List.replicate, List.cons_append, List.nil_append])
      simp only [cF]
      (repeat' (first | (exfalso; simp at h; done) | refine W_block ?_ | (refine W_seqV fun K hK => ?_; (try simp (disch := omega) only [tab_nil, regV_cons, effW_free, opF_assign, ev_const, cst_nils, atK_ap, restV_ap, Eff.app, List.set, Eff.wi, Option.map_none, List.nil_append, regV_nil, sepL, List.not_mem_nil, false_implies, implies_true, true_and, opF_move, ev_tmp, List.getD_cons_zero, opF_len, ty23, List.getD_cons_succ, lenW_sl, List.length_nil, Int.cast_ofNat_Int, valK_ap, List.cons_append, opF_binOp, ty3, cst_int, binW_eql]); refine hK _ ?_; clear hK K) | (refine W_ret ?_; simp (disch := omega) only [blockW, thenW, newQ, resW, resV, newK, List.getD_cons_succ, List.getD_cons_zero, asOne_one]) | (refine W_cond rfl (fun h => ?_) (fun h => ?_) <;> (try simp only [cond_true, cond_false, decide_eq_true_eq, decide_eq_false_iff_not, bne_iff_ne, beq_iff_eq, bne_eq_false_iff_eq, beq_eq_false_iff_ne, ne_eq, Nat.not_lt, Nat.not_le, Int.not_lt, Int.not_le, Bool.not_eq_true', Bool.not_eq_false'] at h)) | refine W_seq ?_))
      rfl
    | [p], hn =>
      have hg := rsign_ok p.2 (h.ok p List.mem_cons_self)
      have hm := rnorm_ok p.2 (h.ok p List.mem_cons_self)
      obtain ⟨v, r⟩ := p
      have heq := rs_eq r.v
      simp only [RR.av] at hg hm
      try dsimp only at hg hm heq
      by_cases h0 : r.v = 0
      · rw [decide_eq_true h0] at heq
        have hv : vals [(v, r)] = [(v, 0)] := by simp [vals, h0]
        have hnn : normF [(v, (0 : Rat))] = [] := by simp [normF, mergeF]
        rw [hv, hnn]
        (refine new_of_W (T := 53) (k := 4) Try.func33 rfl (rs := [Go.ResultVar.tmp 2]) rfl (nt := 39) rfl ?_; simp only [List.length_cons, List.length_nil, List.replicate, List.cons_append, List.nil_append])
        simp only [cF]
        (repeat (refine W_seqV fun K hK => ?_; (try simp (disch := omega) only [regV_cons, effW_free, opF_assign, ev_const, cst_nils, atK_ap, restV_ap, Eff.app, List.set, Eff.wi, Option.map_none, List.nil_append, regV_nil, sepL, List.not_mem_nil, false_implies, implies_true, true_and]); refine hK _ ?_; clear hK K))
        refine W_seq ?_
        ((refine W_seqV fun K hK => ?_); simp (disch := omega) only [regV_cons, effW_free, opF_move, ev_tmp, List.getD_cons_zero, atK_ap, restV_ap, Eff.app, List.set, Eff.wi, Option.map_none, List.nil_append, opF_len, ty23, List.getD_cons_succ, lenW_sl, tab_length, List.length_cons, List.length_nil, Nat.zero_add, Int.cast_ofNat_Int, valK_ap, List.cons_append, regV_nil, sepL, List.not_mem_nil, false_implies, implies_true, true_and])
        (refine hK _ ?_; clear hK K)
        refine W_block ?_
        refine W_seq ?_
        ((refine W_regV fun K hK => ?_); simp (disch := omega) only [regV_cons, effW_free, opF_binOp, ty3, ev_tmp, List.getD_cons_succ, List.getD_cons_zero, ev_const, cst_int, binW_eql, valK_ap, atK_ap, restV_ap, Eff.app, List.set, Eff.wi, Option.map_none, List.nil_append, opF_assign, List.cons_append, regV_nil, sepL, List.not_mem_nil, false_implies, implies_true, true_and])
        (refine hK _ ?_; clear hK K)
        (first | refine W_cond rfl (fun h => by cases h) (fun _ => ?_) | refine W_seq (W_cond rfl (fun h => by cases h) (fun _ => ?_)))
        refine W_seq ?_
        ((refine W_regV fun K hK => ?_); simp (disch := omega) only [regV_cons, effW_free, opF_binOp, ty3, ev_tmp, List.getD_cons_succ, List.getD_cons_zero, ev_const, cst_int, binW_eql, valK_ap, atK_ap, restV_ap, Eff.app, List.set, Eff.wi, Option.map_none, List.nil_append, opF_assign, List.cons_append, regV_nil, sepL, List.not_mem_nil, false_implies, implies_true, true_and])
        (refine hK _ ?_; clear hK K)
        (first | refine W_cond rfl (fun _ => ?_) (fun h => by cases h) | refine W_seq (W_cond rfl (fun _ => ?_) (fun h => by cases h)))
        refine W_seq ?_
        refine W_seq ?_
        ((refine W_regV fun K hK => ?_); simp (disch := omega) only [regV_cons, effW_free, opF_move, ev_tmp, List.getD_cons_zero, atK_ap, restV_ap, Eff.app, List.set, Eff.wi, Option.map_none, List.nil_append, opF_indexAddr, ty23, List.getD_cons_succ, ev_const, cst_int, objOf, indexAddrW_sl, ty53, ne_eq, reduceCtorEq, not_false_eq_true, Int.reduceLE, tab_length, List.length_cons, List.length_nil, Nat.zero_add, Int.cast_ofNat_Int, Int.reduceLT, rowM_all, Int.toNat_zero, tab_getD_zero, rowM, valK_ap, List.cons_append, opF_fieldAddr, fieldAddrW_ia, Nat.reduceAdd, Nat.reduceLT, ty29, opF_load, TI.isAgg, true_or, loadW_ia, Nat.reduceLeDiff, ofCells, List.drop_succ_cons, List.drop_zero, List.take_succ_cons, List.take_zero, List.headD_cons, if_true, opF_call, ev_func, List.map_cons, List.map_nil, callF_fn, List.append_nil, opF_binOp, ty3, true_and])
        (refine ⟨by kernel_rfl, rfl, _, hg, ?_⟩; (try simp (disch := omega) only [binW_eql, valK_ap, atK_ap, restV_ap, Eff.app, List.set, Eff.wi, Option.map_none, List.cons_append, List.nil_append, regV_nil, sepL, List.not_mem_nil, false_implies, implies_true, true_and]))
        simp (disch := omega) only [heq]
        (refine hK _ ?_; clear hK K)
        (first | refine W_cond rfl (fun _ => ?_) (fun h => by cases h) | refine W_seq (W_cond rfl (fun _ => ?_) (fun h => by cases h)))
        ((refine W_seqV fun K hK => ?_); simp (disch := omega) only [regV_cons, effW_free, opF_assign, ev_const, cst_nils, atK_ap, restV_ap, Eff.app, List.set, Eff.wi, Option.map_none, List.nil_append, regV_nil, sepL, List.not_mem_nil, false_implies, implies_true, true_and])
        (refine hK _ ?_; clear hK K)
        refine W_ret ?_
        simp (disch := omega) only [thenW, blockW, newQ, resW, resV, newK, List.getD_cons_succ, List.getD_cons_zero, asOne_one]
        try rfl
      · rw [decide_eq_false h0] at heq
        have hv : normF (vals [(v, r)]) = [(v, r.v)] := by simp [vals, normF, mergeF, h0]
        rw [hv]
        (refine new_of_W (T := 53) (k := 4) Try.func33 rfl (rs := [Go.ResultVar.tmp 2]) rfl (nt := 39) rfl ?_; simp only [List.length_cons, List.length_nil, List.replicate, List.cons_append, List.nil_append])
        simp only [cF]
        (repeat (refine W_seqV fun K hK => ?_; (try simp (disch := omega) only [regV_cons, effW_free, opF_assign, ev_const, cst_nils, atK_ap, restV_ap, Eff.app, List.set, Eff.wi, Option.map_none, List.nil_append, regV_nil, sepL, List.not_mem_nil, false_implies, implies_true, true_and]); refine hK _ ?_; clear hK K))
        refine W_seq ?_
        ((refine W_seqV fun K hK => ?_); simp (disch := omega) only [regV_cons, effW_free, opF_move, ev_tmp, List.getD_cons_zero, atK_ap, restV_ap, Eff.app, List.set, Eff.wi, Option.map_none, List.nil_append, opF_len, ty23, List.getD_cons_succ, lenW_sl, tab_length, List.length_cons, List.length_nil, Nat.zero_add, Int.cast_ofNat_Int, valK_ap, List.cons_append, regV_nil, sepL, List.not_mem_nil, false_implies, implies_true, true_and])
        (refine hK _ ?_; clear hK K)
        refine W_block ?_
        refine W_seq ?_
        ((refine W_regV fun K hK => ?_); simp (disch := omega) only [regV_cons, effW_free, opF_binOp, ty3, ev_tmp, List.getD_cons_succ, List.getD_cons_zero, ev_const, cst_int, binW_eql, valK_ap, atK_ap, restV_ap, Eff.app, List.set, Eff.wi, Option.map_none, List.nil_append, opF_assign, List.cons_append, regV_nil, sepL, List.not_mem_nil, false_implies, implies_true, true_and])
        (refine hK _ ?_; clear hK K)
        (first | refine W_cond rfl (fun h => by cases h) (fun _ => ?_) | refine W_seq (W_cond rfl (fun h => by cases h) (fun _ => ?_)))
        refine W_seq ?_
        ((refine W_regV fun K hK => ?_); simp (disch := omega) only [regV_cons, effW_free, opF_binOp, ty3, ev_tmp, List.getD_cons_succ, List.getD_cons_zero, ev_const, cst_int, binW_eql, valK_ap, atK_ap, restV_ap, Eff.app, List.set, Eff.wi, Option.map_none, List.nil_append, opF_assign, List.cons_append, regV_nil, sepL, List.not_mem_nil, false_implies, implies_true, true_and])
        (refine hK _ ?_; clear hK K)
        (first | refine W_cond rfl (fun _ => ?_) (fun h => by cases h) | refine W_seq (W_cond rfl (fun _ => ?_) (fun h => by cases h)))
        refine W_seq ?_
        refine W_seq ?_
        ((refine W_regV fun K hK => ?_); simp (disch := omega) only [regV_cons, effW_free, opF_move, ev_tmp, List.getD_cons_zero, atK_ap, restV_ap, Eff.app, List.set, Eff.wi, Option.map_none, List.nil_append, opF_indexAddr, ty23, List.getD_cons_succ, ev_const, cst_int, objOf, indexAddrW_sl, ty53, ne_eq, reduceCtorEq, not_false_eq_true, Int.reduceLE, tab_length, List.length_cons, List.length_nil, Nat.zero_add, Int.cast_ofNat_Int, Int.reduceLT, rowM_all, Int.toNat_zero, tab_getD_zero, rowM, valK_ap, List.cons_append, opF_fieldAddr, fieldAddrW_ia, Nat.reduceAdd, Nat.reduceLT, ty29, opF_load, TI.isAgg, true_or, loadW_ia, Nat.reduceLeDiff, ofCells, List.drop_succ_cons, List.drop_zero, List.take_succ_cons, List.take_zero, List.headD_cons, if_true, opF_call, ev_func, List.map_cons, List.map_nil, callF_fn, List.append_nil, opF_binOp, ty3, true_and])
        (refine ⟨by kernel_rfl, rfl, _, hg, ?_⟩; (try simp (disch := omega) only [binW_eql, valK_ap, atK_ap, restV_ap, Eff.app, List.set, Eff.wi, Option.map_none, List.cons_append, List.nil_append, regV_nil, sepL, List.not_mem_nil, false_implies, implies_true, true_and]))
        simp (disch := omega) only [heq]
        (refine hK _ ?_; clear hK K)
        (first | refine W_cond rfl (fun h => by cases h) (fun _ => ?_) | refine W_seq (W_cond rfl (fun h => by cases h) (fun _ => ?_)))
        refine W_skip ?_
        simp only [thenW]
        ((refine W_seqS mixed 10 [] (by kernel_rfl) fun K hK => ?_); simp (disch := omega) only [List.take_succ_cons, List.take_zero, List.drop_succ_cons, List.drop_zero, regV_cons, effW_free, opF_move, ev_tmp, List.getD_cons_zero, atK_ap, restV_ap, Eff.app, List.set, Eff.wi, Option.map_none, List.nil_append, opF_indexAddr, ty23, List.getD_cons_succ, ev_const, cst_int, objOf, indexAddrW_sl, ty53, ne_eq, reduceCtorEq, not_false_eq_true, Int.reduceLE, tab_length, List.length_cons, List.length_nil, Nat.zero_add, Int.cast_ofNat_Int, Int.reduceLT, rowM_all, Int.toNat_zero, tab_getD_zero, rowM, valK_ap, List.cons_append, opF_fieldAddr, fieldAddrW_ia, Nat.reduceAdd, Nat.reduceLT, ty3, Nat.add_zero, opF_load, TI.isAgg, Bool.false_eq_true, or_true, loadW_ia, Nat.reduceLeDiff, ofCells, List.headD_cons, if_false, ty29, true_or, if_true, opF_call, ev_func, List.map_cons, List.map_nil, callF_fn, List.append_nil, opF_build, buildW_struct, storable, AV.one, cellsOf, List.forall_mem_cons, and_self, true_and, List.not_mem_nil, false_implies, implies_true, and_true, laid, List.foldl_cons, List.foldl_nil, regV_nil, sepL, thenO_ap, opsW_free, opW_buildSlice, litW, dead, List.getElem?_cons_succ, List.getElem?_cons_zero, range1, Nat.reduceMul, List.all_cons, Bool.true_and, List.length_append, St.seth, List.all_nil, Bool.and_true, retK2_ap, St.ret, restO_ap, opW_assign, opsW_nil])
        (refine ⟨by kernel_rfl, rfl, _, hm, ?_⟩; (try simp (disch := omega) only [cQ, List.all_cons, AV.one, List.all_nil, Bool.and_self, List.length_cons, List.length_nil, Nat.zero_add, Nat.reduceAdd, Nat.reduceLeDiff, and_self, List.drop_succ_cons, List.drop_nil, List.append_nil, Nat.add_zero, true_and]))
        (refine hK _ ?_; clear hK K)
        refine W_ret ?_
        simp (disch := omega) only [blockW, thenW, newQ, resW, resV, newK, List.getD_cons_succ, List.getD_cons_zero, asOne_one]
        exact ⟨_, by simp, rfl, rfl, by simp [tab, rowQ]⟩
    | p :: q :: g, hn =>
      obtain ⟨l1, l2⟩ := half_lt (n := (p :: q :: g).length) (by simp)
      generalize hfe : p :: q :: g = f at *
      have ht := (ih (f.take (f.length / 2)).length (by rw [List.length_take]; omega) (f.take (f.length / 2)) (h.take _) rfl).pure
      have hd := (ih (f.drop (f.length / 2)).length (by rw [List.length_drop]; omega) (f.drop (f.length / 2)) (h.drop _) rfl).pure
      have hv1 : vals f = vals (f.take (f.length / 2)) ++ vals (f.drop (f.length / 2)) := by
        simp only [vals]; rw [← List.map_append, List.take_append_drop]
      have hsz := h.sz
      rw [hv1] at hsz
      have hsz2 : Sz (normF (vals (f.take (f.length / 2))) ++ normF (vals (f.drop (f.length / 2)))) B := by
        refine ⟨fun v => ?_, ?_⟩
        · have h1 := hsz.b v
          rw [nbv_append] at h1 ⊢
          have := nbv_norm v (vals (f.take (f.length / 2)))
          have := nbv_norm v (vals (f.drop (f.length / 2)))
          omega
        · have h1 := hsz.l
          rw [List.length_append] at h1 ⊢
          have := len_norm (vals (f.take (f.length / 2)))
          have := len_norm (vals (f.drop (f.length / 2)))
          omega
      have hs := sum_new _ _ hsz2 hB
      rw [norm_split, ← hv1] at hs
      have h3 : 2 ≤ f.length := by rw [← hfe]; simp
      clear hfe ih
      have ht' := ht.mono (R' := (· = cL (normF (vals (f.take (f.length / 2)))))) fun r hr => by obtain ⟨rows, rfl, rfl⟩ := hr; rfl
      have hd' := hd.mono (R' := (· = cL (normF (vals (f.drop (f.length / 2)))))) fun r hr => by obtain ⟨rows, rfl, rfl⟩ := hr; rfl
      (refine new_of_W (T := 53) (k := 4) Try.func33 rfl (rs := [Go.ResultVar.tmp 2]) rfl (nt := 39) rfl ?_; simp only [List.length_cons, List.length_nil, List.replicate, List.cons_append, List.nil_append])
      simp only [cF, cL] at hs ht' hd' ⊢
      have z0 : ((f.length : Int) == 0) = false := by rw [beq_eq_false_iff_ne]; omega
      have z1 : ((f.length : Int) == 1) = false := by rw [beq_eq_false_iff_ne]; omega
      (repeat (refine W_seqV fun K hK => ?_; (try simp (disch := omega) only [regV_cons, effW_free, opF_assign, ev_const, cst_nils, atK_ap, restV_ap, Eff.app, List.set, Eff.wi, Option.map_none, List.nil_append, regV_nil, sepL, List.not_mem_nil, false_implies, implies_true, true_and]); refine hK _ ?_; clear hK K))
      refine W_seq ?_
      ((refine W_seqV fun K hK => ?_); simp (disch := omega) only [regV_cons, effW_free, opF_move, ev_tmp, List.getD_cons_zero, atK_ap, restV_ap, Eff.app, List.set, Eff.wi, Option.map_none, List.nil_append, opF_len, ty23, List.getD_cons_succ, lenW_sl, tab_length, valK_ap, List.cons_append, regV_nil, sepL, List.not_mem_nil, false_implies, implies_true, true_and])
      (refine hK _ ?_; clear hK K)
      refine W_block ?_
      refine W_seq ?_
      ((refine W_regV fun K hK => ?_); simp (disch := omega) only [regV_cons, effW_free, opF_binOp, ty3, ev_tmp, List.getD_cons_succ, List.getD_cons_zero, ev_const, cst_int, binW_eql, z0, valK_ap, atK_ap, restV_ap, Eff.app, List.set, Eff.wi, Option.map_none, List.nil_append, opF_assign, List.cons_append, regV_nil, sepL, List.not_mem_nil, false_implies, implies_true, true_and])
      (refine hK _ ?_; clear hK K)
      (first | refine W_cond rfl (fun h => by cases h) (fun _ => ?_) | refine W_seq (W_cond rfl (fun h => by cases h) (fun _ => ?_)))
      refine W_seq ?_
      ((refine W_regV fun K hK => ?_); simp (disch := omega) only [regV_cons, effW_free, opF_binOp, ty3, ev_tmp, List.getD_cons_succ, List.getD_cons_zero, ev_const, cst_int, binW_eql, z1, valK_ap, atK_ap, restV_ap, Eff.app, List.set, Eff.wi, Option.map_none, List.nil_append, opF_assign, List.cons_append, regV_nil, sepL, List.not_mem_nil, false_implies, implies_true, true_and])
      (refine hK _ ?_; clear hK K)
      (first | refine W_cond rfl (fun h => by cases h) (fun _ => ?_) | refine W_seq (W_cond rfl (fun h => by cases h) (fun _ => ?_)))
      refine W_skip ?_
      simp only [thenW, blockW]
      have hw : IntKind.wrap .i64 ((f.length : Int).tdiv 2) = ((f.length / 2 : Nat) : Int) := by
        rw [show (f.length : Int).tdiv 2 = ((f.length / 2 : Nat) : Int) from rfl]
        exact wrap_i64_nat (by omega)
      ((refine W_seqV fun K hK => ?_); simp (disch := omega) only [regV_cons, effW_free, opF_move, ev_tmp, List.getD_cons_zero, atK_ap, restV_ap, Eff.app, List.set, Eff.wi, Option.map_none, List.nil_append, opF_len, ty23, List.getD_cons_succ, lenW_sl, tab_length, valK_ap, List.cons_append, opF_binOp, ty3, ev_const, cst_int, binW_quo, ne_eq, hw, opF_assign, regV_nil, sepL, List.not_mem_nil, false_implies, implies_true, true_and])
      ((repeat refine And.intro (by omega) ?_); refine hK _ ?_; clear hK K)
      ((refine W_seqS mixed 8 [] (by kernel_rfl) fun K hK => ?_); simp (disch := omega) only [List.take_succ_cons, List.take_zero, List.drop_succ_cons, List.drop_zero, regV_cons, effW_free, opF_move, ev_tmp, List.getD_cons_zero, atK_ap, restV_ap, Eff.app, List.set, Eff.wi, Option.map_none, List.nil_append, List.getD_cons_succ, List.cons_append, opF_slice, sliceW, ty23, ty53, ne_eq, reduceCtorEq, not_false_eq_true, bnd, evo_none, Int.cast_ofNat_Int, evo_some, Int.reduceLE, nat_nonneg, tab_length, nat_le_int, mxOk, Option.isSome_some, or_self, rowM_all, objOf, Int.toNat_zero, toNat_natCast, tab_take, valK_ap, opF_call, ev_func, List.map_cons, List.map_nil, callF_fn, List.append_nil, true_or, List.take_length, tab_drop, regV_nil, sepL, List.not_mem_nil, false_implies, implies_true, thenO_ap, opsW_free, opW_call, callW_fn, true_and])
      ((repeat refine And.intro (by omega) ?_); refine ⟨by kernel_rfl, rfl, _, ht', ?_⟩; (repeat refine And.intro (by omega) ?_))
      (refine ⟨by kernel_rfl, rfl, _, hd', ?_⟩)
      (refine ⟨by kernel_rfl, call_new 38 rfl rfl (hs) fun rows hr => ?_⟩; subst hr; (try simp (disch := omega) only [tab_length, St.seth, List.set, retK2_ap, St.ret, restO_ap, opsW_free, opW_assign, ev_tmp, List.getD_cons_succ, List.getD_cons_zero, opsW_nil]))
      (refine hK _ ?_; clear hK K)
      refine W_ret ?_
      simp (disch := omega) only [newQ, resW, resV, newK, List.getD_cons_succ, List.getD_cons_zero, asOne_one]
      exact ⟨tab rowQ (normF (vals f)), by simp, by simp [tab_length], rfl, rfl⟩
theorem lnorm_ok (f : List (Int × RR)) {B : Nat} (h : FOk f B) (hB : B < 17179869184) : Pure Try.prog 33 [cF f] (· = cL (normF (vals f))) :=
  (lnorm_new f h hB).pure.mono fun r h => by obtain ⟨rows, rfl, rfl⟩ := h; rfl

set_option maxHeartbeats 1000000 in
theorem ladd_new (f g : List (Int × RR)) {B C : Nat} (hf : FOk f B) (hg : FOk g C) (hs : B + C < 17179869184) : New Try.prog 54 [cF f, cF g] 53 4 (· = tab rowQ (normF (vals f ++ vals g))) := by
  have h1 := lnorm_ok f hf (by omega)
  have h2 := lnorm_ok g hg (by omega)
  have h3 := sum_new (normF (vals f)) (normF (vals g)) (hf.sz.norm.append hg.sz.norm) hs
  rw [norm_split] at h3
  (refine new_of_W (T := 53) (k := 4) Try.func54 rfl (rs := [Go.ResultVar.tmp 4]) rfl (nt := 10) rfl ?_; simp only [List.length_cons, List.length_nil, List.replicate, List.cons_append, List.nil_append])
  simp only [cF, cL] at h1 h2 h3 ⊢
  (repeat (refine W_seqV fun K hK => ?_; (try simp (disch := omega) only [regV_cons, effW_free, opF_assign, ev_const, cst_nils, atK_ap, restV_ap, Eff.app, List.set, Eff.wi, Option.map_none, List.nil_append, regV_nil, sepL, List.not_mem_nil, false_implies, implies_true, true_and]); refine hK _ ?_; clear hK K))
  ((refine W_seqR fun K hK => ?_); simp (disch := omega) only [opsW_free, opW_move, St.ret, List.set, ev_tmp, List.getD_cons_zero, restO_ap, opW_call, ev_func, List.map_cons, List.getD_cons_succ, List.map_nil, callW_fn, List.nil_append, List.append_nil])
  (refine ⟨by kernel_rfl, call_pure rfl (h1) fun r hr => ?_⟩; subst hr; simp (disch := omega) only [retK2_ap, St.ret, List.set, restO_ap, opsW_free, opW_move, ev_tmp, List.getD_cons_succ, List.getD_cons_zero, opW_call, ev_func, List.map_cons, List.map_nil, callW_fn, List.nil_append, List.append_nil])
  (refine ⟨by kernel_rfl, call_pure rfl (h2) fun r hr => ?_⟩; subst hr; simp (disch := omega) only [retK2_ap, St.ret, List.set, restO_ap, opsW_free, opW_call, ev_func, List.map_cons, ev_tmp, List.getD_cons_succ, List.getD_cons_zero, List.map_nil, callW_fn, List.nil_append, List.append_nil])
  (refine ⟨by kernel_rfl, call_new 9 rfl rfl (h3) fun rows hr => ?_⟩; subst hr; (try simp (disch := omega) only [tab_length, St.seth, List.set, retK2_ap, St.ret, restO_ap, opsW_free, opW_assign, ev_tmp, List.getD_cons_succ, List.getD_cons_zero, opsW_nil]))
  (refine hK _ ?_; clear hK K)
  refine W_ret ?_
  simp (disch := omega) only [newQ, resW, resV, newK, List.getD_cons_succ, List.getD_cons_zero, asOne_one]
  exact ⟨tab rowQ (normF (vals f ++ vals g)), by simp, by simp [tab_length], rfl, rfl⟩
theorem ladd_ok (f g : List (Int × RR)) {B C : Nat} (hf : FOk f B) (hg : FOk g C) (hs : B + C < 17179869184) : Pure Try.prog 54 [cF f, cF g] (· = cL (normF (vals f ++ vals g))) :=
  (ladd_new f g hf hg hs).pure.mono fun r h => by obtain ⟨rows, rfl, rfl⟩ := h; rfl

/-- A part of a form, scaled. -/
theorem scale_set {c : Rat} {l : List (Int × Rat)} {i : Nat} (h : i < l.length) : scaleF c (l.take i) ++ l.drop i = scaleF c (l.take i) ++ l.getD i default :: l.drop (i + 1) := by
  rw [List.drop_eq_getElem_cons h]
  simp [List.getD_eq_getElem?_getD, h]

set_option maxHeartbeats 4000000 in
theorem lscale_new (r : RR) (f : List (Int × RR)) {B : Nat} (hr : r.ok) (hf : FOk f B) (hs : nb r.v + B < 17179869184) :
    New Try.prog 41 [r.av, cF f] 53 4 (· = tab rowQ (if r.v = 0 then [] else scaleF r.v (normF (vals f)))) := by
  have hg := rsign_ok r hr
  have heq := rs_eq r.v
  have hn := lnorm_new f hf (by omega)
  have hsz := hf.sz.norm
  have hlen := hsz.l
  have hmul : ∀ p ∈ normF (vals f), Pure Try.prog 43 [r.av, cQ p.2] (· = cQ (r.v * p.2)) := fun p hp => by
    have hb := hsz.mem hp
    have := rmul_ok r (qr p.2) hr (qr_ok (by omega))
    rwa [qr_v] at this
  generalize normF (vals f) = l at *
  obtain ⟨neg, n, d⟩ := r
  simp only [RR.av] at hg hmul ⊢
  generalize RR.v _ = c at *
  by_cases h0 : c = 0
  · rw [decide_eq_true h0] at heq
    rw [if_pos h0]
    (refine new_of_W (T := 53) (k := 4) Try.func41 rfl (rs := [Go.ResultVar.tmp 4]) rfl (nt := 30) rfl ?_; simp only [List.length_cons, List.length_nil, List.replicate, List.cons_append, List.nil_append])
    simp only [cF]
    (repeat (refine W_seqV fun K hK => ?_; (try simp (disch := omega) only [regV_cons, effW_free, opF_box, dead, List.getElem?_cons_succ, List.getElem?_cons_zero, storable, ev_tmp, List.getD_cons_zero, List.all_cons, AV.one, List.all_nil, Bool.and_self, cellsOf, List.length_cons, List.length_nil, Nat.zero_add, Nat.reduceAdd, atK_ap, restV_ap, Eff.app, List.set, Eff.wi, Option.map_some, List.nil_append, opF_assign, ev_const, cst_nils, Option.map_none, List.cons_append, regV_nil, sepL, List.not_mem_nil, false_implies, implies_true, true_and]); refine hK _ ?_; clear hK K))
    refine W_seq ?_
    ((refine W_seqV fun K hK => ?_); simp (disch := omega) only [regV_cons, effW_free, opF_load, ty29, ne_eq, reduceCtorEq, not_false_eq_true, TI.isAgg, true_or, ev_tmp, List.getD_cons_succ, List.getD_cons_zero, objOf, loadW_ptr, loadO_arr, List.length_cons, List.length_nil, Nat.zero_add, Nat.reduceLT, Nat.reduceAdd, Nat.reduceLeDiff, ofCells, List.drop_zero, List.take_succ_cons, List.take_zero, List.headD_cons, if_true, valK_ap, atK_ap, restV_ap, Eff.app, List.set, Eff.wi, Option.map_none, List.nil_append, opF_call, ev_func, List.map_cons, List.map_nil, callF_fn, List.append_nil, List.cons_append, opF_binOp, ty3, ev_const, cst_int, true_and])
    (refine ⟨by kernel_rfl, rfl, _, hg, ?_⟩; (try simp (disch := omega) only [binW_eql, valK_ap, atK_ap, restV_ap, Eff.app, List.set, Eff.wi, Option.map_none, List.cons_append, List.nil_append, regV_nil, sepL, List.not_mem_nil, false_implies, implies_true, true_and]))
    simp (disch := omega) only [heq]
    (refine hK _ ?_; clear hK K)
    (first | refine W_cond rfl (fun _ => ?_) (fun h => by cases h) | refine W_seq (W_cond rfl (fun _ => ?_) (fun h => by cases h)))
    ((refine W_seqV fun K hK => ?_); simp (disch := omega) only [regV_cons, effW_free, opF_assign, ev_const, cst_nils, atK_ap, restV_ap, Eff.app, List.set, Eff.wi, Option.map_none, List.nil_append, regV_nil, sepL, List.not_mem_nil, false_implies, implies_true, true_and])
    (refine hK _ ?_; clear hK K)
    refine W_ret ?_
    simp (disch := omega) only [thenW, newQ, resW, resV, newK, List.getD_cons_succ, List.getD_cons_zero, asOne_one]
    rfl
  · rw [decide_eq_false h0] at heq
    rw [if_neg h0]
    (refine new_of_W (T := 53) (k := 4) Try.func41 rfl (rs := [Go.ResultVar.tmp 4]) rfl (nt := 30) rfl ?_; simp only [List.length_cons, List.length_nil, List.replicate, List.cons_append, List.nil_append])
    simp only [cF] at hn ⊢
    (repeat (refine W_seqV fun K hK => ?_; (try simp (disch := omega) only [regV_cons, effW_free, opF_box, dead, List.getElem?_cons_succ, List.getElem?_cons_zero, storable, ev_tmp, List.getD_cons_zero, List.all_cons, AV.one, List.all_nil, Bool.and_self, cellsOf, List.length_cons, List.length_nil, Nat.zero_add, Nat.reduceAdd, atK_ap, restV_ap, Eff.app, List.set, Eff.wi, Option.map_some, List.nil_append, opF_assign, ev_const, cst_nils, Option.map_none, List.cons_append, regV_nil, sepL, List.not_mem_nil, false_implies, implies_true, true_and]); refine hK _ ?_; clear hK K))
    refine W_seq ?_
    ((refine W_seqV fun K hK => ?_); simp (disch := omega) only [regV_cons, effW_free, opF_load, ty29, ne_eq, reduceCtorEq, not_false_eq_true, TI.isAgg, true_or, ev_tmp, List.getD_cons_succ, List.getD_cons_zero, objOf, loadW_ptr, loadO_arr, List.length_cons, List.length_nil, Nat.zero_add, Nat.reduceLT, Nat.reduceAdd, Nat.reduceLeDiff, ofCells, List.drop_zero, List.take_succ_cons, List.take_zero, List.headD_cons, if_true, valK_ap, atK_ap, restV_ap, Eff.app, List.set, Eff.wi, Option.map_none, List.nil_append, opF_call, ev_func, List.map_cons, List.map_nil, callF_fn, List.append_nil, List.cons_append, opF_binOp, ty3, ev_const, cst_int, true_and])
    (refine ⟨by kernel_rfl, rfl, _, hg, ?_⟩; (try simp (disch := omega) only [binW_eql, valK_ap, atK_ap, restV_ap, Eff.app, List.set, Eff.wi, Option.map_none, List.cons_append, List.nil_append, regV_nil, sepL, List.not_mem_nil, false_implies, implies_true, true_and]))
    simp (disch := omega) only [heq]
    (refine hK _ ?_; clear hK K)
    (first | refine W_cond rfl (fun h => by cases h) (fun _ => ?_) | refine W_seq (W_cond rfl (fun h => by cases h) (fun _ => ?_)))
    refine W_skip ?_
    simp only [thenW]
    ((refine W_seqR fun K hK => ?_); simp (disch := omega) only [opsW_free, opW_move, St.ret, List.set, ev_tmp, List.getD_cons_succ, List.getD_cons_zero, restO_ap, opW_call, ev_func, List.map_cons, List.map_nil, callW_fn, List.nil_append, List.append_nil])
    (refine ⟨by kernel_rfl, call_new 11 rfl rfl (hn) fun rows hr => ?_⟩; subst hr; (try simp (disch := omega) only [tab_length, St.seth, List.set, retK2_ap, St.ret, restO_ap, opsW_free, opW_assign, ev_tmp, List.getD_cons_succ, List.getD_cons_zero, opsW_nil]))
    (refine hK _ ?_; clear hK K)
    ((refine W_seq ?_; refine W_seqV fun K hK => ?_); simp (disch := omega) only [regV_cons, effW_free, opF_move, ev_tmp, List.getD_cons_succ, List.getD_cons_zero, atK_ap, restV_ap, Eff.app, List.set, Eff.wi, Option.map_none, List.nil_append, opF_len, ty23, lenW_sref, valK_ap, List.cons_append, ev_const, cst_int, regV_nil, sepL, List.not_mem_nil, false_implies, implies_true, true_and])
    (refine hK _ ?_; clear hK K)
    refine W_block (W_loop (fun t : {t : Nat // t ≤ l.length} =>
      ⟨[.any, .any, .ptr 2 0 0, .any, .any, .sref 11 0 l.length, .any, .any, .any, .any, .any, .any, .any, .int .i64 l.length, .int .i64 t.1, .any, .any, .any, .any, .any, .any, .any, .any, .any, .any, .any, .any, .any, .any, .any], [.dead, .dead, .arr 29 3 false [[.bool neg, .sl (u32s n), .sl (u32s d)]], .dead, .dead, .dead, .dead, .dead, .dead, .dead, .dead, .arr 53 4 true (tab rowQ (scaleF c (l.take t.1) ++ l.drop t.1)), .dead, .dead, .dead, .dead, .dead, .dead, .dead, .dead, .dead, .dead, .dead, .dead, .dead, .dead, .dead, .dead, .dead, .dead]⟩) (fun t => l.length - t.1)
      ⟨0, by omega⟩ (Le_of (by simp [leE]) (by simp [scaleF])) fun t => ?_)
    obtain ⟨i, hi⟩ := t
    dsimp only
    have hle : (scaleF c (l.take i) ++ l.drop i).length = l.length := by simp [scaleF]; omega
    by_cases hlt : i < l.length
    · have hmem : l.getD i default ∈ l := by simp [List.getD_eq_getElem?_getD, hlt]
      have hX2 : (scaleF c (l.take i) ++ l.drop i).getD i default = l.getD i default := by
        have h1 : (scaleF c (l.take i)).length = i := by simp [scaleF]; omega
        rw [List.getD_eq_getElem?_getD, List.getElem?_append_right (by omega), h1, List.getElem?_drop]
        simp [List.getD_eq_getElem?_getD]
      have hset : (scaleF c (l.take i) ++ l.drop i).set i ((l.getD i default).1, c * (l.getD i default).2) = scaleF c (l.take (i + 1)) ++ l.drop (i + 1) := by
        have h1 : (scaleF c (l.take i)).length = i := by simp [scaleF]; omega
        rw [List.set_append_right _ _ (by omega), h1, Nat.sub_self, List.drop_eq_getElem_cons hlt, List.set_cons_zero, List.take_succ_eq_append_getElem hlt]
        simp only [scaleF, List.map_append, List.map_cons, List.map_nil, List.append_assoc, List.cons_append, List.nil_append]
        simp [List.getD_eq_getElem?_getD, hlt]
      have hm := hmul _ hmem
      generalize hXe : scaleF c (l.take i) ++ l.drop i = X at *
      generalize hpe : l.getD i default = p at *
      have htset := congrArg (tab rowQ) hset
      rw [← tab_set] at htset
      have hcol : ((i : Nat) : Int) < ((l.length : Nat) : Int) := by omega
      have hXi : (tab rowQ X).getD i [] = rowQ p := by rw [tab_getD (by omega), hX2]
      simp only [rowQ] at htset hXi
      simp only [cQ] at hm
      refine W_seq ?_
      ((refine W_regV fun K hK => ?_); simp (disch := omega) only [regV_cons, effW_free, opF_binOp, ty3, ev_tmp, List.getD_cons_succ, List.getD_cons_zero, binW_lss, nat_lt_int, hlt, decide_true, valK_ap, atK_ap, restV_ap, Eff.app, List.set, Eff.wi, Option.map_none, List.nil_append, regV_nil, sepL, List.not_mem_nil, false_implies, implies_true, true_and])
      (refine hK _ ?_; clear hK K)
      (first | refine W_cond rfl (fun _ => ?_) (fun h => by cases h) | refine W_seq (W_cond rfl (fun _ => ?_) (fun h => by cases h)))
      refine W_skip ?_
      simp only [thenW]
      refine W_seq ?_
      refine W_block ?_
      ((refine W_seqV fun K hK => ?_); simp (disch := omega) only [regV_cons, effW_free, opF_move, ev_tmp, List.getD_cons_succ, List.getD_cons_zero, atK_ap, restV_ap, Eff.app, List.set, Eff.wi, Option.map_none, List.nil_append, opF_assign, List.cons_append, regV_nil, sepL, List.not_mem_nil, false_implies, implies_true, true_and])
      (refine hK _ ?_; clear hK K)
      ((refine W_regS mixed 11 [] (by kernel_rfl) fun K hK => ?_); simp (disch := omega) only [List.take_succ_cons, List.take_zero, List.drop_succ_cons, List.drop_zero, regV_cons, effW_free, opF_move, ev_tmp, List.getD_cons_succ, List.getD_cons_zero, atK_ap, restV_ap, Eff.app, List.set, Eff.wi, Option.map_none, List.nil_append, List.cons_append, opF_load, ty29, ne_eq, reduceCtorEq, not_false_eq_true, TI.isAgg, true_or, objOf, loadW_ptr, loadO_arr, List.length_cons, List.length_nil, Nat.zero_add, Nat.reduceLT, Nat.reduceAdd, Nat.reduceLeDiff, ofCells, List.headD_cons, if_true, valK_ap, opF_indexAddr, ty23, indexAddrW_sref, ty53, nat_nonneg, nat_lt_int, kOk_arr, toNat_natCast, opF_fieldAddr, fieldAddrW_ptr, tab_length, hXi, opF_call, ev_func, List.map_cons, List.map_nil, callF_fn, List.append_nil, regV_nil, sepL, List.not_mem_nil, false_implies, implies_true, thenO_ap, opsW_free, opW_store, storeW_ptr, storeO_arr, storable, AV.one, cellsOf, forall_const, overlay, sethK_ap, St.seth, restO_ap, opsW_nil, true_and])
      ((repeat refine And.intro (by omega) ?_); refine ⟨by kernel_rfl, rfl, _, hm, ?_⟩; (try simp (disch := omega) only [List.all_cons, AV.one, List.all_nil, Bool.and_self, List.length_cons, List.length_nil, Nat.zero_add, Nat.reduceAdd, List.drop_succ_cons, List.drop_nil, List.append_nil, true_and]); (repeat (refine And.intro (by first | omega | (show AV.pures _ = true; rfl)) ?_)))
      (refine hK _ ?_; clear hK K)
      simp only [blockW, thenW]
      ((refine W_regV fun K hK => ?_); simp (disch := omega) only [regV_cons, effW_free, opF_binOp, ty3, ev_tmp, List.getD_cons_succ, List.getD_cons_zero, ev_const, cst_int, binW_add, wrap_i64_one, valK_ap, atK_ap, restV_ap, Eff.app, List.set, Eff.wi, Option.map_none, List.nil_append, opF_move, List.cons_append, regV_nil, sepL, List.not_mem_nil, false_implies, implies_true, true_and])
      (refine hK _ ?_; clear hK K)
      try simp only [blockW, thenW]
      refine ⟨⟨i + 1, by omega⟩, Le_drop (by simp [leE]) (by simp [leH, htset]) rfl rfl, ?_⟩
      dsimp only
      omega
    · obtain rfl : i = l.length := by omega
      refine W_seq ?_
      ((refine W_regV fun K hK => ?_); simp (disch := omega) only [List.take_length, regV_cons, effW_free, opF_binOp, ty3, ev_tmp, List.getD_cons_succ, List.getD_cons_zero, binW_lss, Int.lt_irrefl, decide_false, valK_ap, atK_ap, restV_ap, Eff.app, List.set, Eff.wi, Option.map_none, List.nil_append, regV_nil, sepL, List.not_mem_nil, false_implies, implies_true, true_and])
      (refine hK _ ?_; clear hK K)
      (first | refine W_cond rfl (fun h => by cases h) (fun _ => ?_) | refine W_seq (W_cond rfl (fun h => by cases h) (fun _ => ?_)))
      refine W_exit ?_
      simp only [thenW, blockW, if_true]
      ((refine W_seqV fun K hK => ?_); simp (disch := omega) only [regV_cons, effW_free, opF_move, ev_tmp, List.getD_cons_succ, List.getD_cons_zero, atK_ap, restV_ap, Eff.app, List.set, Eff.wi, Option.map_none, List.nil_append, opF_assign, List.cons_append, regV_nil, sepL, List.not_mem_nil, false_implies, implies_true, true_and])
      (refine hK _ ?_; clear hK K)
      refine W_ret ?_
      simp (disch := omega) only [newQ, resW, resV, newK, List.getD_cons_succ, List.getD_cons_zero, asOne_one]
      exact ⟨tab rowQ (scaleF c l), by simp, by simp [tab_length, scaleF], by simp, rfl⟩
theorem lscale_ok (r : RR) (f : List (Int × RR)) {B : Nat} (hr : r.ok) (hf : FOk f B) (hs : nb r.v + B < 17179869184) :
    Pure Try.prog 41 [r.av, cF f] (· = cL (if r.v = 0 then [] else scaleF r.v (normF (vals f)))) :=
  (lscale_new r f hr hf hs).pure.mono fun r h => by obtain ⟨rows, rfl, rfl⟩ := h; rfl

/-- Minus a form. -/
def negF (l : List (Int × Rat)) : List (Int × Rat) := scaleF (-1) l
theorem nb_m1 : nb (-1) = 2 := by decide
theorem nbv_neg (l : List (Int × Rat)) (v : Int) : nbv (negF l) v = nbv l v := by
  induction l with
  | nil => rfl
  | cons p l ih =>
    simp only [negF, scaleF, List.map_cons, nbv] at *
    rw [ih, show (-1 : Rat) * p.2 = -p.2 by grind, nb_neg]
/-- The difference of two forms. -/
def subF (f g : List (Int × Rat)) : List (Int × Rat) := normF (f ++ negF (normF g))
theorem coef_sub (f g : List (Int × Rat)) (v : Int) : coef (subF f g) v = coef f v - coef g v := by
  rw [subF, coef_norm, coef_append, negF, coef_scale, coef_norm]; grind
theorem ev2_sub (x : Int → Rat) (f g : List (Int × Rat)) : ev2 x (subF f g) = ev2 x f - ev2 x g := by
  rw [subF, ev2_norm, ev2_append, negF, ev2_scale, ev2_norm]; grind
theorem NF.sub (f g : List (Int × Rat)) : NF (subF f g) := NF.norm _
theorem Sz.neg {l : List (Int × Rat)} {B : Nat} (h : Sz l B) : Sz (negF l) B := ⟨fun v => by rw [nbv_neg]; exact h.b v, by have := h.l; simpa [negF, scaleF] using this⟩
theorem Sz.sub {f g : List (Int × Rat)} {B C : Nat} (hf : Sz f B) (hg : Sz g C) : Sz (subF f g) (B + C) := (hf.append hg.norm.neg).norm

set_option maxHeartbeats 1000000 in
theorem lsub_new (f g : List (Int × RR)) {B C : Nat} (hf : FOk f B) (hg : FOk g C) (hs : B + C < 8589934592) : New Try.prog 29 [cF f, cF g] 53 4 (· = tab rowQ (subF (vals f) (vals g))) := by
  have h1 := rwhole_ok (-1) (by decide) (by decide)
  have h2 := lscale_ok (qr (-1)) g (qr_ok (by decide)) hg (by rw [qr_v, nb_m1]; omega)
  rw [qr_v, if_neg (by decide), qr_av] at h2
  have h3 := ladd_new f (rf (negF (normF (vals g)))) hf (FOk.rf hg.sz.norm.neg (by omega)) (by omega)
  rw [vals_rf, cF_rf] at h3
  change New _ _ _ _ _ (· = tab rowQ (subF (vals f) (vals g))) at h3
  rw [show ((-1 : Int) : Rat) = (-1 : Rat) from rfl] at h1
  change Pure _ _ _ (· = cL (negF (normF (vals g)))) at h2
  (refine new_of_W (T := 53) (k := 4) Try.func29 rfl (rs := [Go.ResultVar.tmp 4]) rfl (nt := 10) rfl ?_; simp only [List.length_cons, List.length_nil, List.replicate, List.cons_append, List.nil_append])
  simp only [cF, cL] at h2 h3 ⊢
  (repeat (refine W_seqV fun K hK => ?_; (try simp (disch := omega) only [regV_cons, effW_free, opF_assign, ev_const, cst_nils, atK_ap, restV_ap, Eff.app, List.set, Eff.wi, Option.map_none, List.nil_append, regV_nil, sepL, List.not_mem_nil, false_implies, implies_true, true_and]); refine hK _ ?_; clear hK K))
  ((refine W_seqR fun K hK => ?_); simp (disch := omega) only [Int.reduceNeg, opsW_free, opW_move, St.ret, List.set, ev_tmp, List.getD_cons_zero, restO_ap, opW_call, ev_func, List.map_cons, ev_const, cst_int, List.map_nil, callW_fn, List.nil_append, List.append_nil])
  (refine ⟨by kernel_rfl, call_pure rfl (h1) fun r hr => ?_⟩; subst hr; simp (disch := omega) only [Int.reduceNeg, cQ, retK2_ap, St.ret, List.set, restO_ap, opsW_free, opW_move, ev_tmp, List.getD_cons_succ, List.getD_cons_zero, opW_call, ev_func, List.map_cons, List.map_nil, callW_fn, List.nil_append, List.append_nil])
  (refine ⟨by kernel_rfl, call_pure rfl (h2) fun r hr => ?_⟩; subst hr; simp (disch := omega) only [Int.reduceNeg, retK2_ap, St.ret, List.set, restO_ap, opsW_free, opW_call, ev_func, List.map_cons, ev_tmp, List.getD_cons_succ, List.getD_cons_zero, List.map_nil, callW_fn, List.nil_append, List.append_nil])
  (refine ⟨by kernel_rfl, call_new 9 rfl rfl (h3) fun rows hr => ?_⟩; subst hr; (try simp (disch := omega) only [Int.reduceNeg, tab_length, St.seth, List.set, retK2_ap, St.ret, restO_ap, opsW_free, opW_assign, ev_tmp, List.getD_cons_succ, List.getD_cons_zero, opsW_nil]))
  (refine hK _ ?_; clear hK K)
  refine W_ret ?_
  simp (disch := omega) only [newQ, resW, resV, newK, List.getD_cons_succ, List.getD_cons_zero, asOne_one]
  exact ⟨tab rowQ (subF (vals f) (vals g)), by simp, by simp [tab_length], rfl, rfl⟩
theorem lsub_ok (f g : List (Int × RR)) {B C : Nat} (hf : FOk f B) (hg : FOk g C) (hs : B + C < 8589934592) : Pure Try.prog 29 [cF f, cF g] (· = cL (subF (vals f) (vals g))) :=
  (lsub_new f g hf hg hs).pure.mono fun r h => by obtain ⟨rows, rfl, rfl⟩ := h; rfl

/-- An order of all forms. -/
def cmpF (f g : List (Int × Rat)) : Int := match subF f g with | [] => 0 | p :: _ => p.2.num.sign
set_option maxHeartbeats 1000000 in
theorem lcmp_ok (f g : List (Int × RR)) {B C : Nat} (hf : FOk f B) (hg : FOk g C) (hs : B + C < 8589934592) : Pure Try.prog 16 [cF f, cF g] (· = .int .i64 (cmpF (vals f) (vals g))) := by
  have h1 := lsub_ok f g hf hg hs
  have hb := hf.sz.sub hg.sz
  unfold cmpF
  generalize subF (vals f) (vals g) = l at *
  rcases l with _ | ⟨p, l⟩
  · (refine pureW Try.func16 rfl (rs := [Go.ResultVar.tmp 4]) rfl (n := 17) rfl ?_; simp only [List.length_cons, List.length_nil, List.replicate, List.cons_append, List.nil_append])
    simp only [cF, cL] at h1 ⊢
    (repeat (refine W_seqV fun K hK => ?_; (try simp (disch := omega) only [regV_cons, effW_free, opF_assign, ev_const, cst_int, atK_ap, restV_ap, Eff.app, List.set, Eff.wi, Option.map_none, List.nil_append, regV_nil, sepL, List.not_mem_nil, false_implies, implies_true, true_and]); refine hK _ ?_; clear hK K))
    ((refine W_seqV fun K hK => ?_); simp (disch := omega) only [regV_cons, effW_free, opF_move, ev_tmp, List.getD_cons_zero, atK_ap, restV_ap, Eff.app, List.set, Eff.wi, Option.map_none, List.nil_append, List.getD_cons_succ, List.cons_append, opF_call, ev_func, List.map_cons, List.map_nil, callF_fn, List.append_nil, opF_assign, regV_nil, sepL, List.not_mem_nil, false_implies, implies_true, true_and])
    (refine ⟨by kernel_rfl, rfl, _, h1, ?_⟩; (try simp (disch := omega) only [tab_nil]))
    (refine hK _ ?_; clear hK K)
    (repeat' (first | (exfalso; simp at h; done) | (refine W_seqV fun K hK => ?_; (try simp (disch := omega) only [regV_cons, effW_free, opF_move, ev_tmp, List.getD_cons_succ, List.getD_cons_zero, atK_ap, restV_ap, Eff.app, List.set, Eff.wi, Option.map_none, List.nil_append, opF_len, ty23, lenW_sl, List.length_nil, Int.cast_ofNat_Int, valK_ap, List.cons_append, opF_binOp, ty3, ev_const, cst_int, binW_eql, regV_nil, sepL, List.not_mem_nil, false_implies, implies_true, true_and, opF_assign]); refine hK _ ?_; clear hK K) | (refine W_ret ?_; simp (disch := omega) only [thenW, retR, resW, resV, List.getD_cons_succ, List.getD_cons_zero, asOne_one, view_int]) | (refine W_cond rfl (fun h => ?_) (fun h => ?_) <;> (try simp only [cond_true, cond_false, decide_eq_true_eq, decide_eq_false_iff_not, bne_iff_ne, beq_iff_eq, bne_eq_false_iff_eq, beq_eq_false_iff_ne, ne_eq, Nat.not_lt, Nat.not_le, Int.not_lt, Int.not_le, Bool.not_eq_true', Bool.not_eq_false'] at h)) | refine W_seq ?_))
  · have hg := rsign_ok (qr p.2) (qr_ok (by have := hb.mem (p := p) List.mem_cons_self; omega))
    rw [qr_v] at hg
    simp only [RR.av, qr] at hg
    (refine pureW Try.func16 rfl (rs := [Go.ResultVar.tmp 4]) rfl (n := 17) rfl ?_; simp only [List.length_cons, List.length_nil, List.replicate, List.cons_append, List.nil_append])
    simp only [cF, cL] at h1 ⊢
    (repeat (refine W_seqV fun K hK => ?_; (try simp (disch := omega) only [regV_cons, effW_free, opF_assign, ev_const, cst_int, atK_ap, restV_ap, Eff.app, List.set, Eff.wi, Option.map_none, List.nil_append, regV_nil, sepL, List.not_mem_nil, false_implies, implies_true, true_and]); refine hK _ ?_; clear hK K))
    ((refine W_seqV fun K hK => ?_); simp (disch := omega) only [regV_cons, effW_free, opF_move, ev_tmp, List.getD_cons_zero, atK_ap, restV_ap, Eff.app, List.set, Eff.wi, Option.map_none, List.nil_append, List.getD_cons_succ, List.cons_append, opF_call, ev_func, List.map_cons, List.map_nil, callF_fn, List.append_nil, opF_assign, regV_nil, sepL, List.not_mem_nil, false_implies, implies_true, true_and])
    (refine ⟨by kernel_rfl, rfl, _, h1, ?_⟩)
    (refine hK _ ?_; clear hK K)
    have hz : ((((l.length + 1 : Nat)) : Int) == 0) = false := by rw [beq_eq_false_iff_ne]; omega
    ((refine W_seq ?_; refine W_seqV fun K hK => ?_); simp (disch := omega) only [regV_cons, effW_free, opF_move, ev_tmp, List.getD_cons_succ, List.getD_cons_zero, atK_ap, restV_ap, Eff.app, List.set, Eff.wi, Option.map_none, List.nil_append, opF_len, ty23, lenW_sl, tab_length, List.length_cons, valK_ap, List.cons_append, opF_binOp, ty3, ev_const, cst_int, binW_eql, hz, regV_nil, sepL, List.not_mem_nil, false_implies, implies_true, true_and])
    (refine hK _ ?_; clear hK K)
    (first | refine W_cond rfl (fun h => by cases h) (fun _ => ?_) | refine W_seq (W_cond rfl (fun h => by cases h) (fun _ => ?_)))
    refine W_skip ?_
    simp only [thenW]
    ((refine W_seqV fun K hK => ?_); simp (disch := omega) only [regV_cons, effW_free, opF_move, ev_tmp, List.getD_cons_succ, List.getD_cons_zero, atK_ap, restV_ap, Eff.app, List.set, Eff.wi, Option.map_none, List.nil_append, opF_indexAddr, ty23, ev_const, cst_int, objOf, indexAddrW_sl, ty53, ne_eq, reduceCtorEq, not_false_eq_true, Int.reduceLE, tab_length, List.length_cons, Int.natCast_pos, rowQ_all, Int.toNat_zero, tab_getD_zero, rowQ, valK_ap, List.cons_append, opF_fieldAddr, fieldAddrW_ia, List.length_nil, Nat.zero_add, Nat.reduceAdd, Nat.reduceLT, ty29, opF_load, TI.isAgg, true_or, loadW_ia, Nat.reduceLeDiff, ofCells, List.drop_succ_cons, List.drop_zero, List.take_succ_cons, List.take_zero, List.headD_cons, if_true, opF_call, ev_func, List.map_cons, List.map_nil, callF_fn, List.append_nil, opF_assign, regV_nil, sepL, List.not_mem_nil, false_implies, implies_true, true_and])
    ((repeat refine And.intro (by omega) ?_); refine ⟨by kernel_rfl, rfl, _, hg, ?_⟩)
    (refine hK _ ?_; clear hK K)
    refine W_ret ?_
    simp (disch := omega) only [retR, resW, resV, List.getD_cons_succ, List.getD_cons_zero, asOne_one, view_int]
end Go.Proofs.Ytjkjapjcmbfkgaa.Vm

/-
  Forms: Prime.
-/
namespace Go.Proofs.Ytjkjapjcmbfkgaa.Vm
open Go Go.RowKit
set_option linter.unusedVariables false
set_option linter.unusedSimpArgs false
set_option pp.deepTerms false
set_option pp.deepTerms.threshold 8

theorem gcd_v (a b : Nat) (ha : (limbs a).length < 274877906944) (hb : (limbs b).length < 274877906944) : Pure Try.prog 36 [cN a, cN b] (· = cN (Nat.gcd a b)) := by
  have := ngcd_ok (limbs a) (limbs b) (limbs_limbs a) (limbs_limbs b) ha hb
  rwa [val_limbs, val_limbs] at this
theorem div_v (a b : Nat) (ha : (limbs a).length < 274877906944) (hb : (limbs b).length < 274877906944) (h0 : b ≠ 0) : Pure Try.prog 37 [cN a, cN b] (· = .tup [cN (a / b), cN (a % b), .int .i64 0]) := by
  have := ndiv_ok (limbs a) (limbs b) (limbs_limbs a) (limbs_limbs b) ha hb
  rwa [val_limbs, val_limbs, divR, if_neg h0] at this
theorem mul_v (a b : Nat) (ha : (limbs a).length < 274877906944) (hb : (limbs b).length < 274877906944) : Pure Try.prog 38 [cN a, cN b] (· = cN (a * b)) := by
  have := nmul_ok (limbs a) (limbs b) (limbs_limbs a) (limbs_limbs b) ha hb
  rwa [val_limbs, val_limbs] at this
theorem lcm_way (b d : Nat) : b * (d / Nat.gcd b d) = Nat.lcm b d := by
  rw [Nat.lcm, ← Nat.mul_div_assoc _ (Nat.gcd_dvd_right b d)]

set_option maxRecDepth 20000 in
set_option maxHeartbeats 8000000 in
theorem lprime_ok (f : List (Int × RR)) {B : Nat} (hf : FOk f B) (hB : B < 4294967296) (hn : nbs (vals f) < 4294967296) :
    Pure Try.prog 18 [cF f] (· = .tup [cL (primeF (normF (vals f))), cQ (primeC (normF (vals f)))]) := by
  have h1 := lnorm_ok f hf (by omega)
  have hw := rwhole_ok 1 (by decide) (by decide)
  have hsz := hf.sz.norm
  have hnb := nbs_norm (vals f)
  have hNF := NF.norm (vals f)
  have hof := of_ok 1 (by decide)
  generalize normF (vals f) = l at *
  have hbl := nbs_len l
  have hmem : ∀ p ∈ l, nb p.2 ≤ nbs l := fun p hp => Nat.le_trans (nbv_mem hp) (nbv_le_nbs _ _)
  have htl : ∀ i, (limbs (topF (l.take i))).length ≤ nbs l := fun i => len_bits (topF_lt fun p hp => hmem p (List.mem_of_mem_take hp))
  have hbt : ∀ i, (limbs (botF (l.take i))).length ≤ nbs l + 1 := fun i => by
    refine len_bits (Nat.lt_of_le_of_lt (botF_le _) (Nat.pow_lt_pow_right (by omega) ?_))
    have : nbs (l.take i) + nbs (l.drop i) = nbs l := by rw [← nbs_append, List.take_append_drop]
    omega
  have hnum : ∀ p ∈ l, (limbs p.2.num.natAbs).length ≤ nbs l := fun p hp => Nat.le_trans (len_num p.2) (hmem p hp)
  have hden : ∀ p ∈ l, (limbs p.2.den).length ≤ nbs l := fun p hp => Nat.le_trans (len_den p.2) (hmem p hp)
  rcases l with _ | ⟨p0, l0⟩
  · (refine pureW Try.func18 rfl (rs := [Go.ResultVar.tmp 2, Go.ResultVar.cell 3 29]) rfl (n := 76) rfl ?_; simp only [List.length_cons, List.length_nil, List.replicate, List.cons_append, List.nil_append])
    simp only [cF, cL] at h1 ⊢
    (repeat (refine W_seqV fun K hK => ?_; (try simp (disch := omega) only [regV_cons, effW_free, opF_assign, ev_const, cst_nils, atK_ap, restV_ap, Eff.app, List.set, Eff.wi, Option.map_none, List.nil_append, opF_alloc, dead, List.getElem?_cons_succ, List.getElem?_cons_zero, ty29, ne_eq, reduceCtorEq, not_false_eq_true, List.length_cons, List.length_nil, Nat.zero_add, Nat.reduceAdd, Option.map_some, List.cons_append, regV_nil, sepL, List.not_mem_nil, false_implies, implies_true, true_and]); refine hK _ ?_; clear hK K))
    ((refine W_seqV fun K hK => ?_); simp (disch := omega) only [regV_cons, effW_free, opF_move, ev_tmp, List.getD_cons_zero, atK_ap, restV_ap, Eff.app, List.set, Eff.wi, Option.map_none, List.nil_append, opF_call, ev_func, List.map_cons, List.getD_cons_succ, List.map_nil, callF_fn, List.append_nil, List.cons_append, opF_assign, regV_nil, sepL, List.not_mem_nil, false_implies, implies_true, true_and])
    (refine ⟨by kernel_rfl, rfl, _, h1, ?_⟩; (try simp (disch := omega) only [tab_nil]))
    (refine hK _ ?_; clear hK K)
    refine W_seq ?_
    ((refine W_seqV fun K hK => ?_); simp (disch := omega) only [regV_cons, effW_free, opF_move, ev_tmp, List.getD_cons_zero, atK_ap, restV_ap, Eff.app, List.set, Eff.wi, Option.map_none, List.nil_append, opF_len, ty23, List.getD_cons_succ, lenW_sl, List.length_nil, Int.cast_ofNat_Int, valK_ap, List.cons_append, opF_binOp, ty3, ev_const, cst_int, binW_eql, regV_nil, sepL, List.not_mem_nil, false_implies, implies_true, true_and])
    (refine hK _ ?_; clear hK K)
    (first | refine W_cond rfl (fun _ => ?_) (fun h => by cases h) | refine W_seq (W_cond rfl (fun _ => ?_) (fun h => by cases h)))
    ((refine W_seqV fun K hK => ?_); simp (disch := omega) only [regV_cons, effW_free, opF_call, ev_func, List.map_cons, ev_const, cst_int, List.map_nil, callF_fn, List.nil_append, List.append_nil, atK_ap, restV_ap, Eff.app, List.set, Eff.wi, Option.map_none, opF_assign, cst_nils, List.cons_append, opF_store, ty29, ne_eq, reduceCtorEq, not_false_eq_true, ev_tmp, List.getD_cons_succ, List.getD_cons_zero, storeF_ptr, storeO_arr, storable, AV.one, cellsOf, Bool.false_eq_true, false_implies, List.length_cons, List.length_nil, Nat.zero_add, Nat.reduceLT, Nat.reduceAdd, Nat.reduceLeDiff, overlay, List.take_zero, wrK_ap, Option.map_some, regV_nil, sepL, List.not_mem_nil, implies_true, true_and])
    (refine ⟨by kernel_rfl, rfl, _, hw, ?_⟩; (try simp (disch := omega) only [cQ, List.all_cons, AV.one, List.all_nil, Bool.and_self, List.length_cons, List.length_nil, Nat.zero_add, Nat.reduceAdd, List.drop_succ_cons, List.drop_nil, List.append_nil, true_and]))
    (refine hK _ ?_; clear hK K)
    refine W_ret ?_
    simp (disch := omega) only [thenW, retR, resW, resV, List.getD_cons_succ, List.getD_cons_zero, asOne_two, view_tup, views_cons, view_nils, views_nil]; try simp (disch := omega) only [ty29, ne_eq, reduceCtorEq, not_false_eq_true, TI.isAgg, true_or, cQ, loadW_ptr, List.getD_cons_succ, List.getD_cons_zero, loadO_arr, List.length_cons, List.length_nil, Nat.zero_add, Nat.reduceLT, Nat.reduceAdd, Nat.reduceLeDiff, ofCells, List.drop_zero, List.take_succ_cons, List.take_zero, List.headD_cons, if_true, view_agg, views_cons, view_bool, view_sl, views_nil, true_and]
    rfl
  · generalize hle : p0 :: l0 = l at *
    have hlp : 0 < l.length := by rw [← hle]; simp
    have hz : ((l.length : Int) == 0) = false := by rw [beq_eq_false_iff_ne]; omega
    (refine pureW Try.func18 rfl (rs := [Go.ResultVar.tmp 2, Go.ResultVar.cell 3 29]) rfl (n := 76) rfl ?_; simp only [List.length_cons, List.length_nil, List.replicate, List.cons_append, List.nil_append])
    simp only [cF, cL] at h1 ⊢
    (repeat (refine W_seqV fun K hK => ?_; (try simp (disch := omega) only [regV_cons, effW_free, opF_assign, ev_const, cst_nils, atK_ap, restV_ap, Eff.app, List.set, Eff.wi, Option.map_none, List.nil_append, opF_alloc, dead, List.getElem?_cons_succ, List.getElem?_cons_zero, ty29, ne_eq, reduceCtorEq, not_false_eq_true, List.length_cons, List.length_nil, Nat.zero_add, Nat.reduceAdd, Option.map_some, List.cons_append, regV_nil, sepL, List.not_mem_nil, false_implies, implies_true, true_and]); refine hK _ ?_; clear hK K))
    ((refine W_seqV fun K hK => ?_); simp (disch := omega) only [regV_cons, effW_free, opF_move, ev_tmp, List.getD_cons_zero, atK_ap, restV_ap, Eff.app, List.set, Eff.wi, Option.map_none, List.nil_append, opF_call, ev_func, List.map_cons, List.getD_cons_succ, List.map_nil, callF_fn, List.append_nil, List.cons_append, opF_assign, regV_nil, sepL, List.not_mem_nil, false_implies, implies_true, true_and])
    (refine ⟨by kernel_rfl, rfl, _, h1, ?_⟩)
    (refine hK _ ?_; clear hK K)
    refine W_seq ?_
    ((refine W_seqV fun K hK => ?_); simp (disch := omega) only [regV_cons, effW_free, opF_move, ev_tmp, List.getD_cons_zero, atK_ap, restV_ap, Eff.app, List.set, Eff.wi, Option.map_none, List.nil_append, opF_len, ty23, List.getD_cons_succ, lenW_sl, tab_length, valK_ap, List.cons_append, opF_binOp, ty3, ev_const, cst_int, binW_eql, hz, regV_nil, sepL, List.not_mem_nil, false_implies, implies_true, true_and])
    (refine hK _ ?_; clear hK K)
    (first | refine W_cond rfl (fun h => by cases h) (fun _ => ?_) | refine W_seq (W_cond rfl (fun h => by cases h) (fun _ => ?_)))
    refine W_skip ?_
    simp only [thenW]
    (repeat (refine W_seqV fun K hK => ?_; (try simp (disch := omega) only [regV_cons, effW_free, opF_assign, ev_const, cst_nils, atK_ap, restV_ap, Eff.app, List.set, Eff.wi, Option.map_none, List.nil_append, regV_nil, sepL, List.not_mem_nil, false_implies, implies_true, true_and]); refine hK _ ?_; clear hK K))
    ((refine W_seqV fun K hK => ?_); simp (disch := omega) only [regV_cons, effW_free, opF_call, ev_func, List.map_cons, ev_const, cst_int, List.map_nil, callF_fn, List.nil_append, List.append_nil, atK_ap, restV_ap, Eff.app, List.set, Eff.wi, Option.map_none, opF_assign, ev_tmp, List.getD_cons_succ, List.getD_cons_zero, List.cons_append, regV_nil, sepL, List.not_mem_nil, false_implies, implies_true, true_and])
    (refine ⟨by kernel_rfl, rfl, _, hof, ?_⟩; (try simp (disch := omega) only [cN, cNat]))
    (refine hK _ ?_; clear hK K)
    ((refine W_seq ?_; refine W_seqV fun K hK => ?_); simp (disch := omega) only [regV_cons, effW_free, opF_move, ev_tmp, List.getD_cons_zero, atK_ap, restV_ap, Eff.app, List.set, Eff.wi, Option.map_none, List.nil_append, opF_len, ty23, List.getD_cons_succ, lenW_sl, tab_length, valK_ap, List.cons_append, ev_const, cst_int, regV_nil, sepL, List.not_mem_nil, false_implies, implies_true, true_and])
    (refine hK _ ?_; clear hK K)
    refine W.le ?_ (Le_nilsl 4 rfl)
    simp only [List.set]
    refine W_block (W_loop (fun t : {t : Nat // t ≤ l.length} =>
      ⟨((.sl (tab rowQ l)) :: .any :: .nils :: (.ptr 3 0 0) :: (cN (topF (l.take t.1))) :: (cN (botF (l.take t.1))) :: .any :: .any :: .any :: .any :: .any :: .any :: .any :: .any :: .any :: .any :: .any :: .any :: .any :: .any :: .any :: .any :: .any :: (.sl (tab rowQ l)) :: (.int .i64 l.length) :: (.int .i64 t.1) :: .any :: .any :: .any :: .any :: .any :: .any :: .any :: .any :: .any :: .any :: .any :: .any :: .any :: .any :: .any :: .any :: .any :: .any :: .any :: .any :: .any :: .any :: .any :: .any :: .any :: .any :: .any :: .any :: .any :: .any :: .any :: .any :: .any :: .any :: .any :: .any :: .any :: .any :: .any :: .any :: .any :: .any :: .any :: .any :: .any :: .any :: .any :: .any :: .any :: .any :: []), (.dead :: .dead :: .dead :: (.arr 29 3 false [[.bool false, .nils, .nils]]) :: .dead :: .dead :: .dead :: .dead :: .dead :: .dead :: .dead :: .dead :: .dead :: .dead :: .dead :: .dead :: .dead :: .dead :: .dead :: .dead :: .dead :: .dead :: .dead :: .dead :: .dead :: .dead :: .dead :: .dead :: .dead :: .dead :: .dead :: .dead :: .dead :: .dead :: .dead :: .dead :: .dead :: .dead :: .dead :: .dead :: .dead :: .dead :: .dead :: .dead :: .dead :: .dead :: .dead :: .dead :: .dead :: .dead :: .dead :: .dead :: .dead :: .dead :: .dead :: .dead :: .dead :: .dead :: .dead :: .dead :: .dead :: .dead :: .dead :: .dead :: .dead :: .dead :: .dead :: .dead :: .dead :: .dead :: .dead :: .dead :: .dead :: .dead :: .dead :: .dead :: [])⟩) (fun t => l.length - t.1)
      ⟨0, by omega⟩ (Le_of (by simp [leE, topF, botF, cN, cNat, limbs_zero, u32s]) rfl) fun t => ?_)
    obtain ⟨i, hi⟩ := t
    dsimp only
    simp only [cN, cNat]
    by_cases hlt : i < l.length
    · have hmi : l.getD i default ∈ l := by simp [List.getD_eq_getElem?_getD, hlt]
      have ht1 := htl i
      have hb1 := hbt i
      have ht2 := htl (i + 1)
      have hb2 := hbt (i + 1)
      have hn1 := hnum _ hmi
      have hd1 := hden _ hmi
      have hdz := (l.getD i default).2.den_nz
      have e1 := topF_take hlt
      have e2 := botF_take hlt
      have g1 := gcd_v (topF (l.take i)) (l.getD i default).2.num.natAbs (by omega) (by omega)
      rw [← e1] at g1
      have g2 := gcd_v (botF (l.take i)) (l.getD i default).2.den (by omega) (by omega)
      have hg0 : Nat.gcd (botF (l.take i)) (l.getD i default).2.den ≠ 0 := fun h => hdz (Nat.gcd_eq_zero_iff.1 h).2
      have hgl := limbs_mono (Nat.le_of_dvd (Nat.pos_of_ne_zero hdz) (Nat.gcd_dvd_right (botF (l.take i)) (l.getD i default).2.den))
      have g3 := div_v (l.getD i default).2.den (Nat.gcd (botF (l.take i)) (l.getD i default).2.den) (by omega) (by omega) hg0
      have hql := limbs_mono (Nat.div_le_self (l.getD i default).2.den (Nat.gcd (botF (l.take i)) (l.getD i default).2.den))
      have g4 := mul_v (botF (l.take i)) ((l.getD i default).2.den / Nat.gcd (botF (l.take i)) (l.getD i default).2.den) (by omega) (by omega)
      rw [lcm_way, ← e2] at g4
      have hXi : (tab rowQ l).getD i [] = rowQ (l.getD i default) := tab_getD hlt
      generalize l.getD i default = p at *
      simp only [rowQ] at hXi
      simp only [cN, cNat] at g1 g2 g3 g4
      refine W_seq ?_
      ((refine W_regV fun K hK => ?_); simp (disch := omega) only [regV_cons, effW_free, opF_binOp, ty3, ev_tmp, List.getD_cons_succ, List.getD_cons_zero, binW_lss, nat_lt_int, hlt, decide_true, valK_ap, atK_ap, restV_ap, Eff.app, List.set, Eff.wi, Option.map_none, List.nil_append, regV_nil, sepL, List.not_mem_nil, false_implies, implies_true, true_and])
      (refine hK _ ?_; clear hK K)
      (first | refine W_cond rfl (fun _ => ?_) (fun h => by cases h) | refine W_seq (W_cond rfl (fun _ => ?_) (fun h => by cases h)))
      refine W_skip ?_
      simp only [thenW]
      refine W_seq ?_
      refine W_block ?_
      ((refine W_seqV fun K hK => ?_); simp (disch := omega) only [regV_cons, effW_free, opF_indexAddr, ty23, ev_tmp, List.getD_cons_succ, List.getD_cons_zero, objOf, indexAddrW_sl, ty53, ne_eq, reduceCtorEq, not_false_eq_true, nat_nonneg, tab_length, nat_lt_int, hlt, rowQ_all, toNat_natCast, hXi, valK_ap, atK_ap, restV_ap, Eff.app, List.set, Eff.wi, Option.map_none, List.nil_append, opF_load, TI.isAgg, true_or, loadW_ia, Nat.zero_add, List.length_cons, List.length_nil, Nat.reduceAdd, Nat.reduceLeDiff, ofCells, List.drop_zero, List.take_succ_cons, List.take_zero, List.headD_cons, if_true, List.cons_append, opF_alloc, dead, List.getElem?_cons_succ, List.getElem?_cons_zero, Option.map_some, opF_store, storeF_ptr, storeO_arr, storable, List.all_cons, AV.one, List.all_nil, Bool.and_self, cellsOf, Bool.false_eq_true, false_implies, Nat.reduceLT, overlay, List.drop_succ_cons, List.drop_nil, List.append_nil, wrK_ap, regV_nil, sepL, List.not_mem_nil, implies_true, true_and])
      (refine hK _ ?_; clear hK K)
      ((refine W_seqV fun K hK => ?_); simp (disch := omega) only [regV_cons, effW_free, opF_move, ev_tmp, List.getD_cons_succ, List.getD_cons_zero, atK_ap, restV_ap, Eff.app, List.set, Eff.wi, Option.map_none, List.nil_append, opF_fieldAddr, ty53, fieldAddrW_ptr, List.length_cons, List.length_nil, Nat.zero_add, Nat.reduceAdd, Nat.reduceLT, ty29, ne_eq, reduceCtorEq, not_false_eq_true, valK_ap, List.cons_append, ty27, Nat.add_zero, ty25, opF_load, TI.isAgg, Bool.false_eq_true, or_true, objOf, loadW_ptr, loadO_arr, Nat.reduceLeDiff, ofCells, List.drop_succ_cons, List.drop_zero, List.take_succ_cons, List.take_zero, List.headD_cons, if_false, opF_call, ev_func, List.map_cons, List.map_nil, callF_fn, List.append_nil, opF_assign, regV_nil, sepL, List.not_mem_nil, false_implies, implies_true, true_and])
      (refine ⟨by kernel_rfl, rfl, _, g1, ?_⟩)
      (refine hK _ ?_; clear hK K)
      ((refine W_seqV fun K hK => ?_); simp (disch := omega) only [regV_cons, effW_free, opF_move, ev_tmp, List.getD_cons_succ, List.getD_cons_zero, atK_ap, restV_ap, Eff.app, List.set, Eff.wi, Option.map_none, List.nil_append, opF_fieldAddr, ty53, fieldAddrW_ptr, List.length_cons, List.length_nil, Nat.zero_add, Nat.reduceAdd, Nat.reduceLT, ty29, ne_eq, reduceCtorEq, not_false_eq_true, valK_ap, List.cons_append, ty25, opF_load, TI.isAgg, Bool.false_eq_true, or_true, objOf, loadW_ptr, loadO_arr, Nat.reduceLeDiff, ofCells, List.drop_succ_cons, List.drop_zero, List.take_succ_cons, List.take_zero, List.headD_cons, if_false, opF_call, ev_func, List.map_cons, List.map_nil, callF_fn, List.append_nil, opF_assign, regV_nil, sepL, List.not_mem_nil, false_implies, implies_true, true_and])
      (refine ⟨by kernel_rfl, rfl, _, g2, ?_⟩)
      (refine hK _ ?_; clear hK K)
      ((refine W_seqV fun K hK => ?_); simp (disch := omega) only [regV_cons, effW_free, opF_fieldAddr, ty53, ev_tmp, List.getD_cons_succ, List.getD_cons_zero, fieldAddrW_ptr, List.length_cons, List.length_nil, Nat.zero_add, Nat.reduceAdd, Nat.reduceLT, ty29, ne_eq, reduceCtorEq, not_false_eq_true, valK_ap, atK_ap, restV_ap, Eff.app, List.set, Eff.wi, Option.map_none, List.nil_append, ty25, List.cons_append, opF_load, TI.isAgg, Bool.false_eq_true, or_true, objOf, loadW_ptr, loadO_arr, Nat.reduceLeDiff, ofCells, List.drop_succ_cons, List.drop_zero, List.take_succ_cons, List.take_zero, List.headD_cons, if_false, opF_move, opF_call, ev_func, List.map_cons, List.map_nil, callF_fn, List.append_nil, opF_extract, true_and])
      (refine ⟨by kernel_rfl, rfl, _, g3, ?_⟩; (try simp (disch := omega) only [extractW_tup, List.length_cons, List.length_nil, Nat.zero_add, Nat.reduceAdd, Nat.reduceLT, List.getD_cons_zero, valK_ap, atK_ap, restV_ap, Eff.app, List.set, Eff.wi, Option.map_none, List.cons_append, List.nil_append, regV_cons, effW_free, opF_extract, ev_tmp, List.getD_cons_succ, opF_assign, regV_nil, sepL, List.not_mem_nil, false_implies, implies_true, true_and]))
      (refine hK _ ?_; clear hK K)
      ((refine W_regV fun K hK => ?_); simp (disch := omega) only [regV_cons, effW_free, opF_move, ev_tmp, List.getD_cons_succ, List.getD_cons_zero, atK_ap, restV_ap, Eff.app, List.set, Eff.wi, Option.map_none, List.nil_append, List.cons_append, opF_call, ev_func, List.map_cons, List.map_nil, callF_fn, List.append_nil, opF_assign, regV_nil, sepL, List.not_mem_nil, false_implies, implies_true, true_and])
      (refine ⟨by kernel_rfl, rfl, _, g4, ?_⟩)
      (refine hK _ ?_; clear hK K)
      simp only [blockW, thenW]
      ((refine W_regV fun K hK => ?_); simp (disch := omega) only [regV_cons, effW_free, opF_binOp, ty3, ev_tmp, List.getD_cons_succ, List.getD_cons_zero, ev_const, cst_int, binW_add, wrap_i64_one, valK_ap, atK_ap, restV_ap, Eff.app, List.set, Eff.wi, Option.map_none, List.nil_append, opF_move, List.cons_append, regV_nil, sepL, List.not_mem_nil, false_implies, implies_true, true_and])
      (refine hK _ ?_; clear hK K)
      try simp only [blockW, thenW]
      refine ⟨⟨i + 1, by omega⟩, Le_drop (by simp [leE, cN, cNat]) (by simp [leH]) rfl rfl, ?_⟩
      dsimp only
      omega
    · obtain rfl : i = l.length := by omega
      have ht1 := htl l.length
      have hb1 := hbt l.length
      rw [List.take_length] at ht1 hb1
      have hm0 : p0 ∈ l := by rw [← hle]; exact List.mem_cons_self
      have hp0 := hsz.mem hm0
      have hsg := rsign_ok (qr p0.2) (qr_ok (by omega))
      rw [qr_v] at hsg
      have hC : primeC l = mkRat (iv (decide (p0.2.num.sign < 0)) (limbs (topF l))) (botF l) := by rw [← hle]; rfl
      have hb0 := botF_pos l
      have hof2 := rof_ok (decide (p0.2.num.sign < 0)) (limbs (topF l)) (limbs_limbs _) (by omega) false (limbs (botF l)) (limbs_limbs _) (by omega)
      rw [val_limbs, if_neg (by omega), show iv false (limbs (botF l)) = (botF l : Int) by simp [iv, val_limbs], Rat.divInt_ofNat, ← hC] at hof2
      have hc0 := primeC_ne hNF
      have hnc := nb_primeC (l := l) (B := nbs l + 1) (fun p hp => Nat.le_succ_of_le (hmem p hp)) (by omega) (by omega)
      have hinv := rinv_ok (qr (primeC l)) (qr_ok (by omega))
      rw [qr_v, if_neg hc0] at hinv
      have hsc := lscale_ok (qr (primeC l)⁻¹) (rf l) (qr_ok (by rw [nb_inv]; omega)) (FOk.rf hsz (by omega)) (by rw [qr_v, nb_inv]; omega)
      rw [qr_v, vals_rf, norm_self hNF, if_neg (fun h => hc0 (by have := Rat.inv_inv (primeC l); rw [h, Rat.inv_zero] at this; exact this.symm)), cF_rf] at hsc
      change Pure _ _ _ (· = cL (primeF l)) at hsc
      have hXi : (tab rowQ l).getD 0 [] = rowQ p0 := by rw [← hle]; rfl
      generalize primeC l = c at *
      generalize primeF l = pl at *
      simp only [RR.av, qr, rowQ, cQE, cQ, cL] at hsg hof2 hinv hsc hXi
      refine W_seq ?_
      ((refine W_regV fun K hK => ?_); simp (disch := omega) only [List.take_length, regV_cons, effW_free, opF_binOp, ty3, ev_tmp, List.getD_cons_succ, List.getD_cons_zero, binW_lss, Int.lt_irrefl, decide_false, valK_ap, atK_ap, restV_ap, Eff.app, List.set, Eff.wi, Option.map_none, List.nil_append, regV_nil, sepL, List.not_mem_nil, false_implies, implies_true, true_and])
      (refine hK _ ?_; clear hK K)
      (first | refine W_cond rfl (fun h => by cases h) (fun _ => ?_) | refine W_seq (W_cond rfl (fun h => by cases h) (fun _ => ?_)))
      refine W_exit ?_
      simp only [thenW, blockW, if_true]
      try rw [List.take_length]
      ((refine W_seqV fun K hK => ?_); simp (disch := omega) only [regV_cons, effW_free, opF_move, ev_tmp, List.getD_cons_zero, atK_ap, restV_ap, Eff.app, List.set, Eff.wi, Option.map_none, List.nil_append, opF_indexAddr, ty23, List.getD_cons_succ, ev_const, cst_int, objOf, indexAddrW_sl, ty53, ne_eq, reduceCtorEq, not_false_eq_true, Int.reduceLE, tab_length, Int.natCast_pos, hlp, rowQ_all, Int.toNat_zero, hXi, valK_ap, List.cons_append, opF_fieldAddr, fieldAddrW_ia, List.length_cons, List.length_nil, Nat.zero_add, Nat.reduceAdd, Nat.reduceLT, ty29, opF_load, TI.isAgg, true_or, loadW_ia, Nat.reduceLeDiff, ofCells, List.drop_succ_cons, List.drop_zero, List.take_succ_cons, List.take_zero, List.headD_cons, if_true, opF_call, ev_func, List.map_cons, List.map_nil, callF_fn, List.append_nil, opF_binOp, ty3, true_and])
      (refine ⟨by kernel_rfl, rfl, _, hsg, ?_⟩; (try simp (disch := omega) only [binW_lss, valK_ap, atK_ap, restV_ap, Eff.app, List.set, Eff.wi, Option.map_none, List.cons_append, List.nil_append, regV_cons, effW_free, opF_move, ev_tmp, List.getD_cons_succ, List.getD_cons_zero, opF_build, ty27, List.map_cons, List.map_nil, buildW_struct, storable, AV.one, List.length_cons, List.length_nil, Nat.zero_add, Nat.reduceAdd, ne_eq, cellsOf, List.forall_mem_cons, Nat.reduceLT, ty4, reduceCtorEq, not_false_eq_true, Nat.reduceLeDiff, and_self, ty25, List.not_mem_nil, false_implies, implies_true, laid, List.foldl_cons, List.take_zero, List.drop_succ_cons, List.drop_zero, List.take_succ_cons, List.drop_nil, List.append_nil, List.foldl_nil, opF_call, ev_func, callF_fn, opF_extract, true_and]))
      (refine ⟨by kernel_rfl, rfl, _, hof2, ?_⟩; (try simp (disch := omega) only [extractW_tup, List.length_cons, List.length_nil, Nat.zero_add, Nat.reduceAdd, Nat.reduceLT, List.getD_cons_zero, valK_ap, atK_ap, restV_ap, Eff.app, List.set, Eff.wi, Option.map_none, List.cons_append, List.nil_append, regV_cons, effW_free, opF_extract, ev_tmp, List.getD_cons_succ, opF_alloc, dead, List.getElem?_cons_succ, List.getElem?_cons_zero, ty29, ne_eq, reduceCtorEq, not_false_eq_true, Option.map_some, opF_store, storeF_ptr, storeO_arr, storable, List.all_cons, AV.one, List.all_nil, Bool.and_self, cellsOf, Bool.false_eq_true, false_implies, Nat.reduceLeDiff, overlay, List.take_zero, List.drop_succ_cons, List.drop_nil, List.append_nil, wrK_ap, opF_assign, regV_nil, sepL, List.not_mem_nil, implies_true, true_and]))
      (refine hK _ ?_; clear hK K)
      ((refine W_seqV fun K hK => ?_); simp (disch := omega) only [regV_cons, effW_free, opF_load, ty29, ne_eq, reduceCtorEq, not_false_eq_true, TI.isAgg, true_or, ev_tmp, List.getD_cons_succ, List.getD_cons_zero, objOf, loadW_ptr, loadO_arr, List.length_cons, List.length_nil, Nat.zero_add, Nat.reduceLT, Nat.reduceAdd, Nat.reduceLeDiff, ofCells, List.drop_zero, List.take_succ_cons, List.take_zero, List.headD_cons, if_true, valK_ap, atK_ap, restV_ap, Eff.app, List.set, Eff.wi, Option.map_none, List.nil_append, opF_call, ev_func, List.map_cons, List.map_nil, callF_fn, List.append_nil, List.cons_append, opF_move, opF_extract, true_and])
      (refine ⟨by kernel_rfl, rfl, _, hinv, ?_⟩; (try simp (disch := omega) only [extractW_tup, List.length_cons, List.length_nil, Nat.zero_add, Nat.reduceAdd, Nat.reduceLT, List.getD_cons_zero, valK_ap, atK_ap, restV_ap, Eff.app, List.set, Eff.wi, Option.map_none, List.cons_append, List.nil_append, regV_cons, effW_free, opF_extract, ev_tmp, List.getD_cons_succ, opF_alloc, dead, List.getElem?_cons_succ, List.getElem?_cons_zero, ty29, ne_eq, reduceCtorEq, not_false_eq_true, Option.map_some, opF_store, storeF_ptr, storeO_arr, storable, List.all_cons, AV.one, List.all_nil, Bool.and_self, cellsOf, Bool.false_eq_true, false_implies, Nat.reduceLeDiff, overlay, List.take_zero, List.drop_succ_cons, List.drop_nil, List.append_nil, wrK_ap, opF_assign, regV_nil, sepL, List.not_mem_nil, implies_true, true_and]))
      (refine hK _ ?_; clear hK K)
      ((refine W_seqD mixed [] (by kernel_rfl) fun K hK => ?_); simp (disch := omega) only [regV_cons, effW_free, opF_load, ty29, ne_eq, reduceCtorEq, not_false_eq_true, TI.isAgg, true_or, ev_tmp, List.getD_cons_succ, List.getD_cons_zero, objOf, loadW_ptr, loadO_arr, List.length_cons, List.length_nil, Nat.zero_add, Nat.reduceLT, Nat.reduceAdd, Nat.reduceLeDiff, ofCells, List.drop_zero, List.take_succ_cons, List.take_zero, List.headD_cons, if_true, valK_ap, atK_ap, restV_ap, Eff.app, List.set, Eff.wi, Option.map_none, List.nil_append, opF_move, List.cons_append, opF_call, ev_func, List.map_cons, List.map_nil, callF_fn, List.append_nil, opF_assign, opF_store, storeF_ptr, storeO_arr, storable, List.all_cons, AV.one, List.all_nil, Bool.and_self, cellsOf, Bool.false_eq_true, false_implies, overlay, List.drop_succ_cons, List.drop_nil, wrK_ap, Option.map_some, regV_nil, sepL, List.not_mem_nil, implies_true, true_and])
      (refine ⟨by kernel_rfl, rfl, _, hsc, ?_⟩)
      (refine hK _ ?_; clear hK K)
      refine W_ret ?_
      simp (disch := omega) only [retR, resW, resV, List.getD_cons_succ, List.getD_cons_zero, asOne_two, view_tup, views_cons, view_sl, views_nil]; try simp (disch := omega) only [ty29, ne_eq, reduceCtorEq, not_false_eq_true, TI.isAgg, true_or, cQ, loadW_ptr, List.getD_cons_succ, List.getD_cons_zero, loadO_arr, List.length_cons, List.length_nil, Nat.zero_add, Nat.reduceLT, Nat.reduceAdd, Nat.reduceLeDiff, ofCells, List.drop_zero, List.take_succ_cons, List.take_zero, List.headD_cons, if_true, view_agg, views_cons, view_bool, view_sl, views_nil, and_self]
end Go.Proofs.Ytjkjapjcmbfkgaa.Vm

