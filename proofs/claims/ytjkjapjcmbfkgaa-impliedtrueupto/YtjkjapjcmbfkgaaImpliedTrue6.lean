/-
  Part 6 of 8 of a proof.
-/
import Derived.Test.YtjkjapjcmbfkgaaImpliedTrue5
import Derived.Orders
import Derived.Below
import Derived.Laws.AppendOwn
import Derived.Laws.MakeOwn
import Derived.Laws.CopyRow
import Derived.Laws.Rows
import Derived.Laws.Cells
import Derived.Tactics
import Derived.Laws.BitsLemmas
import Derived.Test.YtjkjapjcmbfkgaaProg

/-
  Regions in the text's order: the first operations by their effects, the last ones as they come.
-/
namespace Go.Proofs.Ytjkjapjcmbfkgaa.Vm
open Go
set_option linter.unusedVariables false
set_option linter.unusedSimpArgs false
section
variable {P : Program} {pins : List Nat} {ops : Array Oper}
theorem regVT_list {L : List (Nat × Nat)} {fr : Fr} (hp : fr.pins = pins) {K : St → Prop} {Q : Exit → Act → World → Prop} (hQ : ∀ a w, Ends fr K a w → Q .normal a w) (tl : List Oper) : ∀ (l : List Oper) (s : St) (acc : List (Option Nat × Option Nat)) (a : Act) (w : World) (ρ : Pl), Rep fr ρ s a w → regV P ops L l s acc (thenO P pins ops tl K) → wpList P ops Q (l ++ tl) a w
  | [], s, acc, a, w, ρ, h, hk => opsW_sound hp hQ tl s a w ρ h hk.2
  | o :: rest, s, acc, a, w, ρ, h, hk => by
    obtain ⟨f, h1, h2, h3, h4, h5⟩ := effW_does (pins := pins) (s := s) (o := o) (ops := ops) (P := P) (C0 := fun f s' => regV P ops L rest (f.app s') (acc ++ [(f.rd, f.wi)]) (thenO P pins ops tl K)) hk
    rw [List.cons_append]
    unfold wpList
    rcases h5 with ⟨hw, hfit⟩ | ⟨hw, hfe⟩
    · rw [if_pos (wantB_sound h.env hw)]
      refine .inl (Oper.wp_mono (fun a' w' he => ?_) (hfit _ _ (fun _ _ => rfl) (fun _ _ => rfl) fr ρ a w Q hp h))
      obtain ⟨s', ρ', rfl, hr⟩ := he
      exact regVT_list hp hQ tl rest _ _ a' w' ρ' hr h1
    · rw [if_neg (by rw [wantB_sound h.env hw]; simp)]
      subst hfe
      exact regVT_list hp hQ tl rest _ _ _ w ρ (h.put o.dst (x := .und) (v := undef) (by simp only [Rp])) h1
theorem W_regionT {i : Nat} {Q : Exit → St → Prop} {s : St} (m : Nat) (h : regV P ops [] (ops.toList.take m) s [] (thenO P pins ops (ops.toList.drop m) (Q .normal))) : W P pins (.region i ops false) Q s := by
  intro fr ρ a w hp hr
  have h1 := regVT_list (fr := fr) (Q := fun e a' w' => Ends fr (Q e) a' w') hp (fun a w he => he) (ops.toList.drop m) (ops.toList.take m) s [] a w ρ hr h
  rw [List.take_append_drop] at h1
  exact wp_region_list h1
theorem W_seqT {i : Nat} {Q : Exit → St → Prop} {y : Code} {s : St} (m : Nat) (h : ∀ K : St → Prop, (∀ s, W P pins y Q s → K s) → regV P ops [] (ops.toList.take m) s [] (thenO P pins ops (ops.toList.drop m) K)) : W P pins (.seq (.region i ops false) y) Q s :=
  W_seq (W_regionT m (h (W P pins y Q) fun _ h => h))
theorem W_regT {i : Nat} {Q : Exit → St → Prop} {s : St} (m : Nat) (h : ∀ K : St → Prop, (∀ s, Q .normal s → K s) → regV P ops [] (ops.toList.take m) s [] (thenO P pins ops (ops.toList.drop m) K)) : W P pins (.region i ops false) Q s :=
  W_regionT m (h (Q .normal) fun _ h => h)
end
end Go.Proofs.Ytjkjapjcmbfkgaa.Vm

/-
  Implied: what atoms say, and whether two can be true together.
-/
namespace Go.Proofs.Ytjkjapjcmbfkgaa.Vm
open Go Go.RowKit
set_option maxRecDepth 100000
set_option linter.unusedVariables false
set_option linter.unusedSimpArgs false
set_option pp.deepTerms false
set_option pp.deepTerms.threshold 8

/-- An atom as it is handed in. -/
structure At where
  name : ByteArray
  form : List (Int × RR)
  bound : RR
  strict : Bool
def At.cells (a : At) : List AV := [.str a.name, .sl (tab rowM a.form), .bool a.bound.neg, .sl (u32s a.bound.num), .sl (u32s a.bound.den), .bool a.strict]
structure AtOk (a : At) : Prop where
  form : FOk a.form 67108864
  nbs : nbs (vals a.form) ≤ 67108864
  bound : a.bound.ok
  nb : nb a.bound.v ≤ 67108864
/-- What a literal says. -/
structure Half where
  name : ByteArray
  shape : List (Int × Rat)
  truth : Bool
  down : Bool
  strict : Bool
  at_ : RR
def Half.cells (h : Half) : List AV := [.str h.name, .sl (tab rowQ h.shape), .bool h.truth, .bool h.down, .bool h.strict, .bool h.at_.neg, .sl (u32s h.at_.num), .sl (u32s h.at_.den)]
structure HalfOk (h : Half) : Prop where
  shape : Sz h.shape 268435456
  at_ : h.at_.ok
  nb : nb h.at_.v ≤ 268435456
def named (b : ByteArray) : Bool := !(b.toList == (ByteArray.mk #[]).toList)
def Half.alone (h : Half) : Bool := named h.name || decide (0 < h.shape.length) || h.truth

set_option maxHeartbeats 4000000 in
theorem alone_ok (h : Half) : Pure Try.prog 15 [.agg h.cells] (· = .bool h.alone) := by
  obtain ⟨name, shape, truth, down, strict, neg, num, den⟩ := h
  unfold Half.cells Half.alone
  dsimp only
  have hn : (!(name.toList == (ByteArray.mk #[]).toList)) = named name := rfl
  generalize named name = na at *
  generalize hq : decide (0 < shape.length) = p at *
  cases na <;> cases p
  all_goals
    (refine pureW Try.func15 rfl (rs := [Go.ResultVar.tmp 2]) rfl (n := 16) rfl ?_; simp only [List.length_cons, List.length_nil, List.replicate, List.cons_append, List.nil_append])
    (repeat (refine W_seqV fun K hK => ?_; (try simp (disch := omega) only [regV_cons, effW_free, opF_box, dead, List.getElem?_cons_succ, List.getElem?_cons_zero, storable, ev_tmp, List.getD_cons_zero, List.all_cons, AV.one, List.all_nil, Bool.and_self, cellsOf, List.length_cons, List.length_nil, Nat.zero_add, Nat.reduceAdd, atK_ap, restV_ap, Eff.app, List.set, Eff.wi, Option.map_some, List.nil_append, opF_assign, ev_const, cst_bool, Option.map_none, List.cons_append, regV_nil, sepL, List.not_mem_nil, false_implies, implies_true, true_and]); refine hK _ ?_; clear hK K))
    ((refine W_seqV fun K hK => ?_); simp (disch := omega) only [regV_cons, effW_free, opF_fieldAddr, ty47, ev_tmp, List.getD_cons_succ, List.getD_cons_zero, fieldAddrW_ptr, List.length_cons, List.length_nil, Nat.zero_add, Nat.reduceAdd, Nat.reduceLT, ty9, ne_eq, reduceCtorEq, not_false_eq_true, Nat.add_zero, valK_ap, atK_ap, restV_ap, Eff.app, List.set, Eff.wi, Option.map_none, List.nil_append, opF_load, TI.isAgg, Bool.false_eq_true, or_true, objOf, loadW_ptr, loadO_arr, Nat.reduceLeDiff, ofCells, List.drop_zero, List.take_succ_cons, List.take_zero, List.headD_cons, if_false, List.cons_append, opF_binOp, ev_const, cst_str, binW_sneq, hn, opF_move, effW_guard, guardOf, List.getElem?_toArray, List.getElem?_cons_succ, List.getElem?_cons_zero, Option.bind_some, effH_ff, ty23, List.drop_succ_cons, opF_len, lenW_sl, tab_length, ty3, cst_int, binW_gtr, gt_iff_lt, Int.natCast_pos, hq, opF_pick, cst_bool, pickW_bool, cond_false, ty4, opF_assign, regV_nil, sepL, List.not_mem_nil, false_implies, implies_true, true_and, effH_ft, pickW_yes])
    (refine hK _ ?_; clear hK K)
    refine W_ret ?_
    simp (disch := omega) only [retR, resW, resV, List.getD_cons_succ, List.getD_cons_zero, asOne_one, view_bool]
  all_goals simp

/-- Can two be true together? -/
def together (a b : Half) : Bool :=
  if (!a.alone || !b.alone) = true then false
  else if (named a.name || named b.name) = true then !(a.name.toList == b.name.toList) || (a.truth == b.truth)
  else if ((cmpF a.shape b.shape != 0) || (a.down == b.down)) = true then true
  else decide ((if a.down then -(rs (a.at_.v - b.at_.v)) else rs (a.at_.v - b.at_.v)) < 0) || (((if a.down then -(rs (a.at_.v - b.at_.v)) else rs (a.at_.v - b.at_.v)) == 0) && !a.strict && !b.strict)
theorem sg_rs (q : Rat) : sg (rs q) := sg_sign _

set_option maxRecDepth 20000 in
set_option maxHeartbeats 8000000 in
theorem itogether_ok (a b : Half) (ha : HalfOk a) (hb : HalfOk b) : Pure Try.prog 8 [.agg a.cells, .agg b.cells] (· = .bool (together a b)) := by
  have h1 := alone_ok a
  have h2 := alone_ok b
  have h3 := lcmp_ok (rf a.shape) (rf b.shape) (FOk.rf ha.shape (by omega)) (FOk.rf hb.shape (by omega)) (by omega)
  rw [cF_rf, cF_rf, vals_rf, vals_rf] at h3
  have h4 := rcmp_ok a.at_ b.at_ ha.at_ hb.at_
  have hsg := sg_rs (a.at_.v - b.at_.v)
  unfold together
  generalize Half.alone a = A at *
  generalize Half.alone b = B at *
  generalize cmpF a.shape b.shape = c at *
  generalize rs (a.at_.v - b.at_.v) = d at *
  clear ha hb
  obtain ⟨name, shape, truth, down, strict, neg, num, den⟩ := a
  obtain ⟨name', shape', truth', down', strict', neg', num', den'⟩ := b
  unfold Half.cells at *
  simp only [cL, RR.av] at *
  have hn : (!(name.toList == (ByteArray.mk #[]).toList)) = named name := rfl
  have hn' : (!(name'.toList == (ByteArray.mk #[]).toList)) = named name' := rfl
  generalize named name = na at *
  generalize named name' = nb at *
  cases A
  · (refine pureW Try.func8 rfl (rs := [Go.ResultVar.tmp 4]) rfl (n := 75) rfl ?_; simp only [List.length_cons, List.length_nil, List.replicate, List.cons_append, List.nil_append])
    (repeat (refine W_seqV fun K hK => ?_; (try simp (disch := omega) only [regV_cons, effW_free, opF_box, dead, List.getElem?_cons_succ, List.getElem?_cons_zero, storable, ev_tmp, List.getD_cons_zero, List.all_cons, AV.one, List.all_nil, Bool.and_self, cellsOf, List.length_cons, List.length_nil, Nat.zero_add, Nat.reduceAdd, atK_ap, restV_ap, Eff.app, List.set, Eff.wi, Option.map_some, List.nil_append, List.getD_cons_succ, List.cons_append, opF_assign, ev_const, cst_bool, Option.map_none, regV_nil, sepL, List.not_mem_nil, false_implies, implies_true, true_and]); refine hK _ ?_; clear hK K))
    refine W_seq (W_block ?_)
    ((refine W_seqV fun K hK => ?_); simp (disch := omega) only [regV_cons, effW_free, opF_load, ty47, ne_eq, reduceCtorEq, not_false_eq_true, TI.isAgg, true_or, ev_tmp, List.getD_cons_succ, List.getD_cons_zero, objOf, loadW_ptr, loadO_arr, List.length_cons, List.length_nil, Nat.zero_add, Nat.reduceLT, Nat.reduceAdd, Nat.reduceLeDiff, ofCells, List.drop_zero, List.take_succ_cons, List.take_zero, List.headD_cons, if_true, valK_ap, atK_ap, restV_ap, Eff.app, List.set, Eff.wi, Option.map_none, List.nil_append, opF_call, ev_func, List.map_cons, List.map_nil, callF_fn, List.append_nil, List.cons_append, opF_unOp, true_and])
    (refine ⟨by kernel_rfl, rfl, _, h1, ?_⟩; (try simp (disch := omega) only [unW_not, Bool.not_false, valK_ap, atK_ap, restV_ap, Eff.app, List.set, Eff.wi, Option.map_none, List.cons_append, List.nil_append, regV_cons, effW_free, opF_move, ev_tmp, List.getD_cons_succ, List.getD_cons_zero, effW_guard, guardOf, List.getElem?_toArray, List.getElem?_cons_succ, List.getElem?_cons_zero, Option.bind_some, effH_ft, opF_pick, ev_const, cst_bool, pickW_yes, opF_assign, regV_nil, sepL, List.not_mem_nil, false_implies, implies_true, true_and]))
    (refine hK _ ?_; clear hK K)
    (first | refine W_cond rfl (fun _ => ?_) (fun h => by cases h) | refine W_seq (W_cond rfl (fun _ => ?_) (fun h => by cases h)))
    ((refine W_seqV fun K hK => ?_); simp (disch := omega) only [regV_cons, effW_free, opF_assign, ev_const, cst_bool, atK_ap, restV_ap, Eff.app, List.set, Eff.wi, Option.map_none, List.nil_append, regV_nil, sepL, List.not_mem_nil, false_implies, implies_true, true_and])
    (refine hK _ ?_; clear hK K)
    refine W_ret ?_
    simp (disch := omega) only [blockW, thenW, retR, resW, resV, List.getD_cons_succ, List.getD_cons_zero, asOne_one, view_bool]
    rfl
  cases B
  · (refine pureW Try.func8 rfl (rs := [Go.ResultVar.tmp 4]) rfl (n := 75) rfl ?_; simp only [List.length_cons, List.length_nil, List.replicate, List.cons_append, List.nil_append])
    (repeat (refine W_seqV fun K hK => ?_; (try simp (disch := omega) only [regV_cons, effW_free, opF_box, dead, List.getElem?_cons_succ, List.getElem?_cons_zero, storable, ev_tmp, List.getD_cons_zero, List.all_cons, AV.one, List.all_nil, Bool.and_self, cellsOf, List.length_cons, List.length_nil, Nat.zero_add, Nat.reduceAdd, atK_ap, restV_ap, Eff.app, List.set, Eff.wi, Option.map_some, List.nil_append, List.getD_cons_succ, List.cons_append, opF_assign, ev_const, cst_bool, Option.map_none, regV_nil, sepL, List.not_mem_nil, false_implies, implies_true, true_and]); refine hK _ ?_; clear hK K))
    refine W_seq (W_block ?_)
    ((refine W_seqV fun K hK => ?_); simp (disch := omega) only [regV_cons, effW_free, opF_load, ty47, ne_eq, reduceCtorEq, not_false_eq_true, TI.isAgg, true_or, ev_tmp, List.getD_cons_succ, List.getD_cons_zero, objOf, loadW_ptr, loadO_arr, List.length_cons, List.length_nil, Nat.zero_add, Nat.reduceLT, Nat.reduceAdd, Nat.reduceLeDiff, ofCells, List.drop_zero, List.take_succ_cons, List.take_zero, List.headD_cons, if_true, valK_ap, atK_ap, restV_ap, Eff.app, List.set, Eff.wi, Option.map_none, List.nil_append, opF_call, ev_func, List.map_cons, List.map_nil, callF_fn, List.append_nil, List.cons_append, opF_unOp, true_and])
    (refine ⟨by kernel_rfl, rfl, _, h1, ?_⟩; (try simp (disch := omega) only [unW_not, Bool.not_true, valK_ap, atK_ap, restV_ap, Eff.app, List.set, Eff.wi, Option.map_none, List.cons_append, List.nil_append, regV_cons, effW_free, opF_move, ev_tmp, List.getD_cons_succ, List.getD_cons_zero, effW_guard, guardOf, List.getElem?_toArray, List.getElem?_cons_succ, List.getElem?_cons_zero, Option.bind_some, effH_ff, opF_load, ty47, ne_eq, reduceCtorEq, not_false_eq_true, TI.isAgg, true_or, objOf, loadW_ptr, loadO_arr, List.length_cons, List.length_nil, Nat.zero_add, Nat.reduceLT, Nat.reduceAdd, Nat.reduceLeDiff, ofCells, List.drop_zero, List.take_succ_cons, List.take_zero, List.headD_cons, if_true, opF_call, ev_func, List.map_cons, List.map_nil, callF_fn, List.append_nil, opF_unOp, true_and]))
    (refine ⟨by kernel_rfl, rfl, _, h2, ?_⟩; (try simp (disch := omega) only [unW_not, Bool.not_false, valK_ap, atK_ap, restV_ap, Eff.app, List.set, Eff.wi, Option.map_none, List.cons_append, List.nil_append, regV_cons, effW_free, opF_pick, ev_tmp, List.getD_cons_succ, List.getD_cons_zero, ev_const, cst_bool, pickW_bool, cond_false, opF_assign, regV_nil, sepL, List.not_mem_nil, false_implies, implies_true, true_and]))
    (refine hK _ ?_; clear hK K)
    (first | refine W_cond rfl (fun _ => ?_) (fun h => by cases h) | refine W_seq (W_cond rfl (fun _ => ?_) (fun h => by cases h)))
    ((refine W_seqV fun K hK => ?_); simp (disch := omega) only [regV_cons, effW_free, opF_assign, ev_const, cst_bool, atK_ap, restV_ap, Eff.app, List.set, Eff.wi, Option.map_none, List.nil_append, regV_nil, sepL, List.not_mem_nil, false_implies, implies_true, true_and])
    (refine hK _ ?_; clear hK K)
    refine W_ret ?_
    simp (disch := omega) only [blockW, thenW, retR, resW, resV, List.getD_cons_succ, List.getD_cons_zero, asOne_one, view_bool]
    rfl
  simp only [Bool.not_true, Bool.or_self, Bool.false_eq_true, if_false]
  by_cases hnn : (na || nb) = true
  · rw [if_pos hnn]
    cases hns : name.toList == name'.toList
    · have hnz : (na = true ∧ nb = true) ∨ (na = true ∧ nb = false) ∨ (na = false ∧ nb = true) := by cases na <;> cases nb <;> simp_all
      rcases hnz with ⟨rfl, rfl⟩ | ⟨rfl, rfl⟩ | ⟨rfl, rfl⟩
      all_goals
        (refine pureW Try.func8 rfl (rs := [Go.ResultVar.tmp 4]) rfl (n := 75) rfl ?_; simp only [List.length_cons, List.length_nil, List.replicate, List.cons_append, List.nil_append])
        (repeat (refine W_seqV fun K hK => ?_; (try simp (disch := omega) only [regV_cons, effW_free, opF_box, dead, List.getElem?_cons_succ, List.getElem?_cons_zero, storable, ev_tmp, List.getD_cons_zero, List.all_cons, AV.one, List.all_nil, Bool.and_self, cellsOf, List.length_cons, List.length_nil, Nat.zero_add, Nat.reduceAdd, atK_ap, restV_ap, Eff.app, List.set, Eff.wi, Option.map_some, List.nil_append, List.getD_cons_succ, List.cons_append, opF_assign, ev_const, cst_bool, Option.map_none, regV_nil, sepL, List.not_mem_nil, false_implies, implies_true, true_and]); refine hK _ ?_; clear hK K))
        refine W_seq (W_block ?_)
        ((refine W_seqV fun K hK => ?_); simp (disch := omega) only [regV_cons, effW_free, opF_load, ty47, ne_eq, reduceCtorEq, not_false_eq_true, TI.isAgg, true_or, ev_tmp, List.getD_cons_succ, List.getD_cons_zero, objOf, loadW_ptr, loadO_arr, List.length_cons, List.length_nil, Nat.zero_add, Nat.reduceLT, Nat.reduceAdd, Nat.reduceLeDiff, ofCells, List.drop_zero, List.take_succ_cons, List.take_zero, List.headD_cons, if_true, valK_ap, atK_ap, restV_ap, Eff.app, List.set, Eff.wi, Option.map_none, List.nil_append, opF_call, ev_func, List.map_cons, List.map_nil, callF_fn, List.append_nil, List.cons_append, opF_unOp, true_and])
        (refine ⟨by kernel_rfl, rfl, _, h1, ?_⟩; (try simp (disch := omega) only [unW_not, Bool.not_true, valK_ap, atK_ap, restV_ap, Eff.app, List.set, Eff.wi, Option.map_none, List.cons_append, List.nil_append, regV_cons, effW_free, opF_move, ev_tmp, List.getD_cons_succ, List.getD_cons_zero, effW_guard, guardOf, List.getElem?_toArray, List.getElem?_cons_succ, List.getElem?_cons_zero, Option.bind_some, effH_ff, opF_load, ty47, ne_eq, reduceCtorEq, not_false_eq_true, TI.isAgg, true_or, objOf, loadW_ptr, loadO_arr, List.length_cons, List.length_nil, Nat.zero_add, Nat.reduceLT, Nat.reduceAdd, Nat.reduceLeDiff, ofCells, List.drop_zero, List.take_succ_cons, List.take_zero, List.headD_cons, if_true, opF_call, ev_func, List.map_cons, List.map_nil, callF_fn, List.append_nil, opF_unOp, true_and]))
        (refine ⟨by kernel_rfl, rfl, _, h2, ?_⟩; (try simp (disch := omega) only [unW_not, Bool.not_true, valK_ap, atK_ap, restV_ap, Eff.app, List.set, Eff.wi, Option.map_none, List.cons_append, List.nil_append, regV_cons, effW_free, opF_pick, ev_tmp, List.getD_cons_succ, List.getD_cons_zero, ev_const, cst_bool, pickW_bool, cond_false, opF_assign, regV_nil, sepL, List.not_mem_nil, false_implies, implies_true, true_and]))
        (refine hK _ ?_; clear hK K)
        (first | refine W_cond rfl (fun h => by cases h) (fun _ => ?_) | refine W_seq (W_cond rfl (fun h => by cases h) (fun _ => ?_)))
        ((refine W_seqV fun K hK => ?_); simp (disch := omega) only [regV_cons, effW_free, opF_fieldAddr, ty47, ev_tmp, List.getD_cons_succ, List.getD_cons_zero, fieldAddrW_ptr, List.length_cons, List.length_nil, Nat.zero_add, Nat.reduceAdd, Nat.reduceLT, ty9, ne_eq, reduceCtorEq, not_false_eq_true, Nat.add_zero, valK_ap, atK_ap, restV_ap, Eff.app, List.set, Eff.wi, Option.map_none, List.nil_append, opF_load, TI.isAgg, Bool.false_eq_true, or_true, objOf, loadW_ptr, loadO_arr, Nat.reduceLeDiff, ofCells, List.drop_zero, List.take_succ_cons, List.take_zero, List.headD_cons, if_false, List.cons_append, opF_binOp, ev_const, cst_str, binW_sneq, hn, opF_move, effW_guard, guardOf, List.getElem?_toArray, List.getElem?_cons_succ, List.getElem?_cons_zero, Option.bind_some, effH_ft, opF_pick, cst_bool, pickW_yes, opF_assign, regV_nil, sepL, List.not_mem_nil, false_implies, implies_true, true_and, effH_ff, hn', pickW_bool, cond_false])
        (refine hK _ ?_; clear hK K)
        (first | refine W_cond rfl (fun _ => ?_) (fun h => by cases h) | refine W_seq (W_cond rfl (fun _ => ?_) (fun h => by cases h)))
        ((refine W_seqV fun K hK => ?_); simp (disch := omega) only [regV_cons, effW_free, opF_fieldAddr, ty47, ev_tmp, List.getD_cons_succ, List.getD_cons_zero, fieldAddrW_ptr, List.length_cons, List.length_nil, Nat.zero_add, Nat.reduceAdd, Nat.reduceLT, ty9, ne_eq, reduceCtorEq, not_false_eq_true, Nat.add_zero, valK_ap, atK_ap, restV_ap, Eff.app, List.set, Eff.wi, Option.map_none, List.nil_append, opF_load, TI.isAgg, Bool.false_eq_true, or_true, objOf, loadW_ptr, loadO_arr, Nat.reduceLeDiff, ofCells, List.drop_zero, List.take_succ_cons, List.take_zero, List.headD_cons, if_false, List.cons_append, opF_binOp, binW_sneq, hns, Bool.not_false, opF_move, effW_guard, guardOf, List.getElem?_toArray, List.getElem?_cons_succ, List.getElem?_cons_zero, Option.bind_some, effH_ft, opF_pick, ev_const, cst_bool, pickW_yes, opF_assign, regV_nil, sepL, List.not_mem_nil, false_implies, implies_true, true_and])
        (refine hK _ ?_; clear hK K)
        refine W_ret ?_
        simp (disch := omega) only [blockW, thenW, retR, resW, resV, List.getD_cons_succ, List.getD_cons_zero, asOne_one, view_bool]
      all_goals rfl
    · have hnz : (na = true ∧ nb = true) ∨ (na = true ∧ nb = false) ∨ (na = false ∧ nb = true) := by cases na <;> cases nb <;> simp_all
      rcases hnz with ⟨rfl, rfl⟩ | ⟨rfl, rfl⟩ | ⟨rfl, rfl⟩
      all_goals
        (refine pureW Try.func8 rfl (rs := [Go.ResultVar.tmp 4]) rfl (n := 75) rfl ?_; simp only [List.length_cons, List.length_nil, List.replicate, List.cons_append, List.nil_append])
        (repeat (refine W_seqV fun K hK => ?_; (try simp (disch := omega) only [regV_cons, effW_free, opF_box, dead, List.getElem?_cons_succ, List.getElem?_cons_zero, storable, ev_tmp, List.getD_cons_zero, List.all_cons, AV.one, List.all_nil, Bool.and_self, cellsOf, List.length_cons, List.length_nil, Nat.zero_add, Nat.reduceAdd, atK_ap, restV_ap, Eff.app, List.set, Eff.wi, Option.map_some, List.nil_append, List.getD_cons_succ, List.cons_append, opF_assign, ev_const, cst_bool, Option.map_none, regV_nil, sepL, List.not_mem_nil, false_implies, implies_true, true_and]); refine hK _ ?_; clear hK K))
        refine W_seq (W_block ?_)
        ((refine W_seqV fun K hK => ?_); simp (disch := omega) only [regV_cons, effW_free, opF_load, ty47, ne_eq, reduceCtorEq, not_false_eq_true, TI.isAgg, true_or, ev_tmp, List.getD_cons_succ, List.getD_cons_zero, objOf, loadW_ptr, loadO_arr, List.length_cons, List.length_nil, Nat.zero_add, Nat.reduceLT, Nat.reduceAdd, Nat.reduceLeDiff, ofCells, List.drop_zero, List.take_succ_cons, List.take_zero, List.headD_cons, if_true, valK_ap, atK_ap, restV_ap, Eff.app, List.set, Eff.wi, Option.map_none, List.nil_append, opF_call, ev_func, List.map_cons, List.map_nil, callF_fn, List.append_nil, List.cons_append, opF_unOp, true_and])
        (refine ⟨by kernel_rfl, rfl, _, h1, ?_⟩; (try simp (disch := omega) only [unW_not, Bool.not_true, valK_ap, atK_ap, restV_ap, Eff.app, List.set, Eff.wi, Option.map_none, List.cons_append, List.nil_append, regV_cons, effW_free, opF_move, ev_tmp, List.getD_cons_succ, List.getD_cons_zero, effW_guard, guardOf, List.getElem?_toArray, List.getElem?_cons_succ, List.getElem?_cons_zero, Option.bind_some, effH_ff, opF_load, ty47, ne_eq, reduceCtorEq, not_false_eq_true, TI.isAgg, true_or, objOf, loadW_ptr, loadO_arr, List.length_cons, List.length_nil, Nat.zero_add, Nat.reduceLT, Nat.reduceAdd, Nat.reduceLeDiff, ofCells, List.drop_zero, List.take_succ_cons, List.take_zero, List.headD_cons, if_true, opF_call, ev_func, List.map_cons, List.map_nil, callF_fn, List.append_nil, opF_unOp, true_and]))
        (refine ⟨by kernel_rfl, rfl, _, h2, ?_⟩; (try simp (disch := omega) only [unW_not, Bool.not_true, valK_ap, atK_ap, restV_ap, Eff.app, List.set, Eff.wi, Option.map_none, List.cons_append, List.nil_append, regV_cons, effW_free, opF_pick, ev_tmp, List.getD_cons_succ, List.getD_cons_zero, ev_const, cst_bool, pickW_bool, cond_false, opF_assign, regV_nil, sepL, List.not_mem_nil, false_implies, implies_true, true_and]))
        (refine hK _ ?_; clear hK K)
        (first | refine W_cond rfl (fun h => by cases h) (fun _ => ?_) | refine W_seq (W_cond rfl (fun h => by cases h) (fun _ => ?_)))
        ((refine W_seqV fun K hK => ?_); simp (disch := omega) only [regV_cons, effW_free, opF_fieldAddr, ty47, ev_tmp, List.getD_cons_succ, List.getD_cons_zero, fieldAddrW_ptr, List.length_cons, List.length_nil, Nat.zero_add, Nat.reduceAdd, Nat.reduceLT, ty9, ne_eq, reduceCtorEq, not_false_eq_true, Nat.add_zero, valK_ap, atK_ap, restV_ap, Eff.app, List.set, Eff.wi, Option.map_none, List.nil_append, opF_load, TI.isAgg, Bool.false_eq_true, or_true, objOf, loadW_ptr, loadO_arr, Nat.reduceLeDiff, ofCells, List.drop_zero, List.take_succ_cons, List.take_zero, List.headD_cons, if_false, List.cons_append, opF_binOp, ev_const, cst_str, binW_sneq, hn, opF_move, effW_guard, guardOf, List.getElem?_toArray, List.getElem?_cons_succ, List.getElem?_cons_zero, Option.bind_some, effH_ft, opF_pick, cst_bool, pickW_yes, opF_assign, regV_nil, sepL, List.not_mem_nil, false_implies, implies_true, true_and, effH_ff, hn', pickW_bool, cond_false])
        (refine hK _ ?_; clear hK K)
        (first | refine W_cond rfl (fun _ => ?_) (fun h => by cases h) | refine W_seq (W_cond rfl (fun _ => ?_) (fun h => by cases h)))
        ((refine W_seqV fun K hK => ?_); simp (disch := omega) only [regV_cons, effW_free, opF_fieldAddr, ty47, ev_tmp, List.getD_cons_succ, List.getD_cons_zero, fieldAddrW_ptr, List.length_cons, List.length_nil, Nat.zero_add, Nat.reduceAdd, Nat.reduceLT, ty9, ne_eq, reduceCtorEq, not_false_eq_true, Nat.add_zero, valK_ap, atK_ap, restV_ap, Eff.app, List.set, Eff.wi, Option.map_none, List.nil_append, opF_load, TI.isAgg, Bool.false_eq_true, or_true, objOf, loadW_ptr, loadO_arr, Nat.reduceLeDiff, ofCells, List.drop_zero, List.take_succ_cons, List.take_zero, List.headD_cons, if_false, List.cons_append, opF_binOp, binW_sneq, hns, Bool.not_true, opF_move, effW_guard, guardOf, List.getElem?_toArray, List.getElem?_cons_succ, List.getElem?_cons_zero, Option.bind_some, effH_ff, ty4, List.drop_succ_cons, binW_beql, opF_pick, ev_const, cst_bool, pickW_bool, cond_false, opF_assign, regV_nil, sepL, List.not_mem_nil, false_implies, implies_true, true_and])
        (refine hK _ ?_; clear hK K)
        refine W_ret ?_
        simp (disch := omega) only [blockW, thenW, retR, resW, resV, List.getD_cons_succ, List.getD_cons_zero, asOne_one, view_bool]
      all_goals simp
  · rw [if_neg hnn]
    obtain ⟨rfl, rfl⟩ : na = false ∧ nb = false := by cases na <;> cases nb <;> simp_all
    by_cases hcd : (c != 0 || down == down') = true
    · rw [if_pos hcd]
      cases hc : c != 0
      · have hdd : (down == down') = true := by rw [hc] at hcd; simpa using hcd
        (refine pureW Try.func8 rfl (rs := [Go.ResultVar.tmp 4]) rfl (n := 75) rfl ?_; simp only [List.length_cons, List.length_nil, List.replicate, List.cons_append, List.nil_append])
        (repeat (refine W_seqV fun K hK => ?_; (try simp (disch := omega) only [regV_cons, effW_free, opF_box, dead, List.getElem?_cons_succ, List.getElem?_cons_zero, storable, ev_tmp, List.getD_cons_zero, List.all_cons, AV.one, List.all_nil, Bool.and_self, cellsOf, List.length_cons, List.length_nil, Nat.zero_add, Nat.reduceAdd, atK_ap, restV_ap, Eff.app, List.set, Eff.wi, Option.map_some, List.nil_append, List.getD_cons_succ, List.cons_append, opF_assign, ev_const, cst_bool, Option.map_none, regV_nil, sepL, List.not_mem_nil, false_implies, implies_true, true_and]); refine hK _ ?_; clear hK K))
        refine W_seq (W_block ?_)
        ((refine W_seqV fun K hK => ?_); simp (disch := omega) only [regV_cons, effW_free, opF_load, ty47, ne_eq, reduceCtorEq, not_false_eq_true, TI.isAgg, true_or, ev_tmp, List.getD_cons_succ, List.getD_cons_zero, objOf, loadW_ptr, loadO_arr, List.length_cons, List.length_nil, Nat.zero_add, Nat.reduceLT, Nat.reduceAdd, Nat.reduceLeDiff, ofCells, List.drop_zero, List.take_succ_cons, List.take_zero, List.headD_cons, if_true, valK_ap, atK_ap, restV_ap, Eff.app, List.set, Eff.wi, Option.map_none, List.nil_append, opF_call, ev_func, List.map_cons, List.map_nil, callF_fn, List.append_nil, List.cons_append, opF_unOp, true_and])
        (refine ⟨by kernel_rfl, rfl, _, h1, ?_⟩; (try simp (disch := omega) only [unW_not, Bool.not_true, valK_ap, atK_ap, restV_ap, Eff.app, List.set, Eff.wi, Option.map_none, List.cons_append, List.nil_append, regV_cons, effW_free, opF_move, ev_tmp, List.getD_cons_succ, List.getD_cons_zero, effW_guard, guardOf, List.getElem?_toArray, List.getElem?_cons_succ, List.getElem?_cons_zero, Option.bind_some, effH_ff, opF_load, ty47, ne_eq, reduceCtorEq, not_false_eq_true, TI.isAgg, true_or, objOf, loadW_ptr, loadO_arr, List.length_cons, List.length_nil, Nat.zero_add, Nat.reduceLT, Nat.reduceAdd, Nat.reduceLeDiff, ofCells, List.drop_zero, List.take_succ_cons, List.take_zero, List.headD_cons, if_true, opF_call, ev_func, List.map_cons, List.map_nil, callF_fn, List.append_nil, opF_unOp, true_and]))
        (refine ⟨by kernel_rfl, rfl, _, h2, ?_⟩; (try simp (disch := omega) only [unW_not, Bool.not_true, valK_ap, atK_ap, restV_ap, Eff.app, List.set, Eff.wi, Option.map_none, List.cons_append, List.nil_append, regV_cons, effW_free, opF_pick, ev_tmp, List.getD_cons_succ, List.getD_cons_zero, ev_const, cst_bool, pickW_bool, cond_false, opF_assign, regV_nil, sepL, List.not_mem_nil, false_implies, implies_true, true_and]))
        (refine hK _ ?_; clear hK K)
        (first | refine W_cond rfl (fun h => by cases h) (fun _ => ?_) | refine W_seq (W_cond rfl (fun h => by cases h) (fun _ => ?_)))
        ((refine W_seqV fun K hK => ?_); simp (disch := omega) only [regV_cons, effW_free, opF_fieldAddr, ty47, ev_tmp, List.getD_cons_succ, List.getD_cons_zero, fieldAddrW_ptr, List.length_cons, List.length_nil, Nat.zero_add, Nat.reduceAdd, Nat.reduceLT, ty9, ne_eq, reduceCtorEq, not_false_eq_true, Nat.add_zero, valK_ap, atK_ap, restV_ap, Eff.app, List.set, Eff.wi, Option.map_none, List.nil_append, opF_load, TI.isAgg, Bool.false_eq_true, or_true, objOf, loadW_ptr, loadO_arr, Nat.reduceLeDiff, ofCells, List.drop_zero, List.take_succ_cons, List.take_zero, List.headD_cons, if_false, List.cons_append, opF_binOp, ev_const, cst_str, binW_sneq, hn, opF_move, effW_guard, guardOf, List.getElem?_toArray, List.getElem?_cons_succ, List.getElem?_cons_zero, Option.bind_some, effH_ff, hn', opF_pick, cst_bool, pickW_bool, cond_false, opF_assign, regV_nil, sepL, List.not_mem_nil, false_implies, implies_true, true_and])
        (refine hK _ ?_; clear hK K)
        (first | refine W_cond rfl (fun h => by cases h) (fun _ => ?_) | refine W_seq (W_cond rfl (fun h => by cases h) (fun _ => ?_)))
        ((refine W_seqV fun K hK => ?_); simp (disch := omega) only [regV_cons, effW_free, opF_fieldAddr, ty47, ev_tmp, List.getD_cons_succ, List.getD_cons_zero, fieldAddrW_ptr, List.length_cons, List.length_nil, Nat.zero_add, Nat.reduceAdd, Nat.reduceLT, ty23, ne_eq, reduceCtorEq, not_false_eq_true, valK_ap, atK_ap, restV_ap, Eff.app, List.set, Eff.wi, Option.map_none, List.nil_append, opF_load, TI.isAgg, Bool.false_eq_true, or_true, objOf, loadW_ptr, loadO_arr, Nat.reduceLeDiff, ofCells, List.drop_succ_cons, List.drop_zero, List.take_succ_cons, List.take_zero, List.headD_cons, if_false, List.cons_append, opF_call, ev_func, List.map_cons, List.map_nil, callF_fn, List.append_nil, opF_binOp, ty3, ev_const, cst_int, true_and])
        (refine ⟨by kernel_rfl, rfl, _, h3, ?_⟩; (try simp (disch := omega) only [binW_neq, valK_ap, atK_ap, restV_ap, Eff.app, List.set, Eff.wi, Option.map_none, List.cons_append, List.nil_append, regV_cons, effW_free, opF_move, ev_tmp, List.getD_cons_succ, List.getD_cons_zero, effW_guard, guardOf, List.getElem?_toArray, List.getElem?_cons_succ, List.getElem?_cons_zero, Option.bind_some]))
        simp (disch := omega) only [hc, effH_ff, opF_fieldAddr, ty47, ev_tmp, List.getD_cons_succ, List.getD_cons_zero, fieldAddrW_ptr, List.length_cons, List.length_nil, Nat.zero_add, Nat.reduceAdd, Nat.reduceLT, ty4, ne_eq, reduceCtorEq, not_false_eq_true, valK_ap, atK_ap, restV_ap, Eff.app, List.set, Eff.wi, Option.map_none, List.cons_append, List.nil_append, regV_cons, effW_guard, guardOf, List.getElem?_toArray, List.getElem?_cons_succ, List.getElem?_cons_zero, Option.bind_some, opF_load, TI.isAgg, Bool.false_eq_true, or_true, objOf, loadW_ptr, loadO_arr, Nat.reduceLeDiff, ofCells, List.drop_succ_cons, List.drop_zero, List.take_succ_cons, List.take_zero, List.headD_cons, if_false, opF_binOp, binW_beql, hdd, effW_free, opF_pick, ev_const, cst_bool, pickW_bool, cond_false, opF_assign, regV_nil, sepL, List.not_mem_nil, false_implies, implies_true, true_and]
        (refine hK _ ?_; clear hK K)
        (first | refine W_cond rfl (fun _ => ?_) (fun h => by cases h) | refine W_seq (W_cond rfl (fun _ => ?_) (fun h => by cases h)))
        ((refine W_seqV fun K hK => ?_); simp (disch := omega) only [regV_cons, effW_free, opF_assign, ev_const, cst_bool, atK_ap, restV_ap, Eff.app, List.set, Eff.wi, Option.map_none, List.nil_append, regV_nil, sepL, List.not_mem_nil, false_implies, implies_true, true_and])
        (refine hK _ ?_; clear hK K)
        refine W_ret ?_
        simp (disch := omega) only [blockW, thenW, retR, resW, resV, List.getD_cons_succ, List.getD_cons_zero, asOne_one, view_bool]
      · (refine pureW Try.func8 rfl (rs := [Go.ResultVar.tmp 4]) rfl (n := 75) rfl ?_; simp only [List.length_cons, List.length_nil, List.replicate, List.cons_append, List.nil_append])
        (repeat (refine W_seqV fun K hK => ?_; (try simp (disch := omega) only [regV_cons, effW_free, opF_box, dead, List.getElem?_cons_succ, List.getElem?_cons_zero, storable, ev_tmp, List.getD_cons_zero, List.all_cons, AV.one, List.all_nil, Bool.and_self, cellsOf, List.length_cons, List.length_nil, Nat.zero_add, Nat.reduceAdd, atK_ap, restV_ap, Eff.app, List.set, Eff.wi, Option.map_some, List.nil_append, List.getD_cons_succ, List.cons_append, opF_assign, ev_const, cst_bool, Option.map_none, regV_nil, sepL, List.not_mem_nil, false_implies, implies_true, true_and]); refine hK _ ?_; clear hK K))
        refine W_seq (W_block ?_)
        ((refine W_seqV fun K hK => ?_); simp (disch := omega) only [regV_cons, effW_free, opF_load, ty47, ne_eq, reduceCtorEq, not_false_eq_true, TI.isAgg, true_or, ev_tmp, List.getD_cons_succ, List.getD_cons_zero, objOf, loadW_ptr, loadO_arr, List.length_cons, List.length_nil, Nat.zero_add, Nat.reduceLT, Nat.reduceAdd, Nat.reduceLeDiff, ofCells, List.drop_zero, List.take_succ_cons, List.take_zero, List.headD_cons, if_true, valK_ap, atK_ap, restV_ap, Eff.app, List.set, Eff.wi, Option.map_none, List.nil_append, opF_call, ev_func, List.map_cons, List.map_nil, callF_fn, List.append_nil, List.cons_append, opF_unOp, true_and])
        (refine ⟨by kernel_rfl, rfl, _, h1, ?_⟩; (try simp (disch := omega) only [unW_not, Bool.not_true, valK_ap, atK_ap, restV_ap, Eff.app, List.set, Eff.wi, Option.map_none, List.cons_append, List.nil_append, regV_cons, effW_free, opF_move, ev_tmp, List.getD_cons_succ, List.getD_cons_zero, effW_guard, guardOf, List.getElem?_toArray, List.getElem?_cons_succ, List.getElem?_cons_zero, Option.bind_some, effH_ff, opF_load, ty47, ne_eq, reduceCtorEq, not_false_eq_true, TI.isAgg, true_or, objOf, loadW_ptr, loadO_arr, List.length_cons, List.length_nil, Nat.zero_add, Nat.reduceLT, Nat.reduceAdd, Nat.reduceLeDiff, ofCells, List.drop_zero, List.take_succ_cons, List.take_zero, List.headD_cons, if_true, opF_call, ev_func, List.map_cons, List.map_nil, callF_fn, List.append_nil, opF_unOp, true_and]))
        (refine ⟨by kernel_rfl, rfl, _, h2, ?_⟩; (try simp (disch := omega) only [unW_not, Bool.not_true, valK_ap, atK_ap, restV_ap, Eff.app, List.set, Eff.wi, Option.map_none, List.cons_append, List.nil_append, regV_cons, effW_free, opF_pick, ev_tmp, List.getD_cons_succ, List.getD_cons_zero, ev_const, cst_bool, pickW_bool, cond_false, opF_assign, regV_nil, sepL, List.not_mem_nil, false_implies, implies_true, true_and]))
        (refine hK _ ?_; clear hK K)
        (first | refine W_cond rfl (fun h => by cases h) (fun _ => ?_) | refine W_seq (W_cond rfl (fun h => by cases h) (fun _ => ?_)))
        ((refine W_seqV fun K hK => ?_); simp (disch := omega) only [regV_cons, effW_free, opF_fieldAddr, ty47, ev_tmp, List.getD_cons_succ, List.getD_cons_zero, fieldAddrW_ptr, List.length_cons, List.length_nil, Nat.zero_add, Nat.reduceAdd, Nat.reduceLT, ty9, ne_eq, reduceCtorEq, not_false_eq_true, Nat.add_zero, valK_ap, atK_ap, restV_ap, Eff.app, List.set, Eff.wi, Option.map_none, List.nil_append, opF_load, TI.isAgg, Bool.false_eq_true, or_true, objOf, loadW_ptr, loadO_arr, Nat.reduceLeDiff, ofCells, List.drop_zero, List.take_succ_cons, List.take_zero, List.headD_cons, if_false, List.cons_append, opF_binOp, ev_const, cst_str, binW_sneq, hn, opF_move, effW_guard, guardOf, List.getElem?_toArray, List.getElem?_cons_succ, List.getElem?_cons_zero, Option.bind_some, effH_ff, hn', opF_pick, cst_bool, pickW_bool, cond_false, opF_assign, regV_nil, sepL, List.not_mem_nil, false_implies, implies_true, true_and])
        (refine hK _ ?_; clear hK K)
        (first | refine W_cond rfl (fun h => by cases h) (fun _ => ?_) | refine W_seq (W_cond rfl (fun h => by cases h) (fun _ => ?_)))
        ((refine W_seqV fun K hK => ?_); simp (disch := omega) only [regV_cons, effW_free, opF_fieldAddr, ty47, ev_tmp, List.getD_cons_succ, List.getD_cons_zero, fieldAddrW_ptr, List.length_cons, List.length_nil, Nat.zero_add, Nat.reduceAdd, Nat.reduceLT, ty23, ne_eq, reduceCtorEq, not_false_eq_true, valK_ap, atK_ap, restV_ap, Eff.app, List.set, Eff.wi, Option.map_none, List.nil_append, opF_load, TI.isAgg, Bool.false_eq_true, or_true, objOf, loadW_ptr, loadO_arr, Nat.reduceLeDiff, ofCells, List.drop_succ_cons, List.drop_zero, List.take_succ_cons, List.take_zero, List.headD_cons, if_false, List.cons_append, opF_call, ev_func, List.map_cons, List.map_nil, callF_fn, List.append_nil, opF_binOp, ty3, ev_const, cst_int, true_and])
        (refine ⟨by kernel_rfl, rfl, _, h3, ?_⟩; (try simp (disch := omega) only [binW_neq, valK_ap, atK_ap, restV_ap, Eff.app, List.set, Eff.wi, Option.map_none, List.cons_append, List.nil_append, regV_cons, effW_free, opF_move, ev_tmp, List.getD_cons_succ, List.getD_cons_zero, effW_guard, guardOf, List.getElem?_toArray, List.getElem?_cons_succ, List.getElem?_cons_zero, Option.bind_some]))
        simp (disch := omega) only [hc, effH_ft, restV_ap, Eff.app, List.set, Eff.wi, Option.map_none, List.cons_append, List.nil_append, regV_cons, effW_guard, guardOf, List.getElem?_toArray, List.getElem?_cons_succ, List.getElem?_cons_zero, Option.bind_some, List.getD_cons_succ, List.getD_cons_zero, effW_free, opF_pick, ev_tmp, ev_const, cst_bool, pickW_yes, valK_ap, atK_ap, opF_assign, regV_nil, sepL, List.not_mem_nil, false_implies, implies_true, true_and]
        (refine hK _ ?_; clear hK K)
        (first | refine W_cond rfl (fun _ => ?_) (fun h => by cases h) | refine W_seq (W_cond rfl (fun _ => ?_) (fun h => by cases h)))
        ((refine W_seqV fun K hK => ?_); simp (disch := omega) only [regV_cons, effW_free, opF_assign, ev_const, cst_bool, atK_ap, restV_ap, Eff.app, List.set, Eff.wi, Option.map_none, List.nil_append, regV_nil, sepL, List.not_mem_nil, false_implies, implies_true, true_and])
        (refine hK _ ?_; clear hK K)
        refine W_ret ?_
        simp (disch := omega) only [blockW, thenW, retR, resW, resV, List.getD_cons_succ, List.getD_cons_zero, asOne_one, view_bool]
    · rw [if_neg hcd]
      have hc : (c != 0) = false := by cases h : c != 0 <;> simp_all
      have hdd : (down == down') = false := by cases h : down == down' <;> simp_all
      (refine pureW Try.func8 rfl (rs := [Go.ResultVar.tmp 4]) rfl (n := 75) rfl ?_; simp only [List.length_cons, List.length_nil, List.replicate, List.cons_append, List.nil_append])
      (repeat (refine W_seqV fun K hK => ?_; (try simp (disch := omega) only [regV_cons, effW_free, opF_box, dead, List.getElem?_cons_succ, List.getElem?_cons_zero, storable, ev_tmp, List.getD_cons_zero, List.all_cons, AV.one, List.all_nil, Bool.and_self, cellsOf, List.length_cons, List.length_nil, Nat.zero_add, Nat.reduceAdd, atK_ap, restV_ap, Eff.app, List.set, Eff.wi, Option.map_some, List.nil_append, List.getD_cons_succ, List.cons_append, opF_assign, ev_const, cst_bool, Option.map_none, regV_nil, sepL, List.not_mem_nil, false_implies, implies_true, true_and]); refine hK _ ?_; clear hK K))
      refine W_seq (W_block ?_)
      ((refine W_seqV fun K hK => ?_); simp (disch := omega) only [regV_cons, effW_free, opF_load, ty47, ne_eq, reduceCtorEq, not_false_eq_true, TI.isAgg, true_or, ev_tmp, List.getD_cons_succ, List.getD_cons_zero, objOf, loadW_ptr, loadO_arr, List.length_cons, List.length_nil, Nat.zero_add, Nat.reduceLT, Nat.reduceAdd, Nat.reduceLeDiff, ofCells, List.drop_zero, List.take_succ_cons, List.take_zero, List.headD_cons, if_true, valK_ap, atK_ap, restV_ap, Eff.app, List.set, Eff.wi, Option.map_none, List.nil_append, opF_call, ev_func, List.map_cons, List.map_nil, callF_fn, List.append_nil, List.cons_append, opF_unOp, true_and])
      (refine ⟨by kernel_rfl, rfl, _, h1, ?_⟩; (try simp (disch := omega) only [unW_not, Bool.not_true, valK_ap, atK_ap, restV_ap, Eff.app, List.set, Eff.wi, Option.map_none, List.cons_append, List.nil_append, regV_cons, effW_free, opF_move, ev_tmp, List.getD_cons_succ, List.getD_cons_zero, effW_guard, guardOf, List.getElem?_toArray, List.getElem?_cons_succ, List.getElem?_cons_zero, Option.bind_some, effH_ff, opF_load, ty47, ne_eq, reduceCtorEq, not_false_eq_true, TI.isAgg, true_or, objOf, loadW_ptr, loadO_arr, List.length_cons, List.length_nil, Nat.zero_add, Nat.reduceLT, Nat.reduceAdd, Nat.reduceLeDiff, ofCells, List.drop_zero, List.take_succ_cons, List.take_zero, List.headD_cons, if_true, opF_call, ev_func, List.map_cons, List.map_nil, callF_fn, List.append_nil, opF_unOp, true_and]))
      (refine ⟨by kernel_rfl, rfl, _, h2, ?_⟩; (try simp (disch := omega) only [unW_not, Bool.not_true, valK_ap, atK_ap, restV_ap, Eff.app, List.set, Eff.wi, Option.map_none, List.cons_append, List.nil_append, regV_cons, effW_free, opF_pick, ev_tmp, List.getD_cons_succ, List.getD_cons_zero, ev_const, cst_bool, pickW_bool, cond_false, opF_assign, regV_nil, sepL, List.not_mem_nil, false_implies, implies_true, true_and]))
      (refine hK _ ?_; clear hK K)
      (first | refine W_cond rfl (fun h => by cases h) (fun _ => ?_) | refine W_seq (W_cond rfl (fun h => by cases h) (fun _ => ?_)))
      ((refine W_seqV fun K hK => ?_); simp (disch := omega) only [regV_cons, effW_free, opF_fieldAddr, ty47, ev_tmp, List.getD_cons_succ, List.getD_cons_zero, fieldAddrW_ptr, List.length_cons, List.length_nil, Nat.zero_add, Nat.reduceAdd, Nat.reduceLT, ty9, ne_eq, reduceCtorEq, not_false_eq_true, Nat.add_zero, valK_ap, atK_ap, restV_ap, Eff.app, List.set, Eff.wi, Option.map_none, List.nil_append, opF_load, TI.isAgg, Bool.false_eq_true, or_true, objOf, loadW_ptr, loadO_arr, Nat.reduceLeDiff, ofCells, List.drop_zero, List.take_succ_cons, List.take_zero, List.headD_cons, if_false, List.cons_append, opF_binOp, ev_const, cst_str, binW_sneq, hn, opF_move, effW_guard, guardOf, List.getElem?_toArray, List.getElem?_cons_succ, List.getElem?_cons_zero, Option.bind_some, effH_ff, hn', opF_pick, cst_bool, pickW_bool, cond_false, opF_assign, regV_nil, sepL, List.not_mem_nil, false_implies, implies_true, true_and])
      (refine hK _ ?_; clear hK K)
      (first | refine W_cond rfl (fun h => by cases h) (fun _ => ?_) | refine W_seq (W_cond rfl (fun h => by cases h) (fun _ => ?_)))
      ((refine W_seqV fun K hK => ?_); simp (disch := omega) only [regV_cons, effW_free, opF_fieldAddr, ty47, ev_tmp, List.getD_cons_succ, List.getD_cons_zero, fieldAddrW_ptr, List.length_cons, List.length_nil, Nat.zero_add, Nat.reduceAdd, Nat.reduceLT, ty23, ne_eq, reduceCtorEq, not_false_eq_true, valK_ap, atK_ap, restV_ap, Eff.app, List.set, Eff.wi, Option.map_none, List.nil_append, opF_load, TI.isAgg, Bool.false_eq_true, or_true, objOf, loadW_ptr, loadO_arr, Nat.reduceLeDiff, ofCells, List.drop_succ_cons, List.drop_zero, List.take_succ_cons, List.take_zero, List.headD_cons, if_false, List.cons_append, opF_call, ev_func, List.map_cons, List.map_nil, callF_fn, List.append_nil, opF_binOp, ty3, ev_const, cst_int, true_and])
      (refine ⟨by kernel_rfl, rfl, _, h3, ?_⟩; (try simp (disch := omega) only [binW_neq, valK_ap, atK_ap, restV_ap, Eff.app, List.set, Eff.wi, Option.map_none, List.cons_append, List.nil_append, regV_cons, effW_free, opF_move, ev_tmp, List.getD_cons_succ, List.getD_cons_zero, effW_guard, guardOf, List.getElem?_toArray, List.getElem?_cons_succ, List.getElem?_cons_zero, Option.bind_some]))
      simp (disch := omega) only [hc, effH_ff, opF_fieldAddr, ty47, ev_tmp, List.getD_cons_succ, List.getD_cons_zero, fieldAddrW_ptr, List.length_cons, List.length_nil, Nat.zero_add, Nat.reduceAdd, Nat.reduceLT, ty4, ne_eq, reduceCtorEq, not_false_eq_true, valK_ap, atK_ap, restV_ap, Eff.app, List.set, Eff.wi, Option.map_none, List.cons_append, List.nil_append, regV_cons, effW_guard, guardOf, List.getElem?_toArray, List.getElem?_cons_succ, List.getElem?_cons_zero, Option.bind_some, opF_load, TI.isAgg, Bool.false_eq_true, or_true, objOf, loadW_ptr, loadO_arr, Nat.reduceLeDiff, ofCells, List.drop_succ_cons, List.drop_zero, List.take_succ_cons, List.take_zero, List.headD_cons, if_false, opF_binOp, binW_beql, hdd, effW_free, opF_pick, ev_const, cst_bool, pickW_bool, cond_false, opF_assign, regV_nil, sepL, List.not_mem_nil, false_implies, implies_true, true_and]
      (refine hK _ ?_; clear hK K)
      (first | refine W_cond rfl (fun h => by cases h) (fun _ => ?_) | refine W_seq (W_cond rfl (fun h => by cases h) (fun _ => ?_)))
      refine W_skip ?_
      simp only [thenW, blockW]
      ((refine W_seqV fun K hK => ?_); simp (disch := omega) only [regV_cons, effW_free, opF_fieldAddr, ty47, ev_tmp, List.getD_cons_succ, List.getD_cons_zero, fieldAddrW_ptr, List.length_cons, List.length_nil, Nat.zero_add, Nat.reduceAdd, Nat.reduceLT, ty29, ne_eq, reduceCtorEq, not_false_eq_true, valK_ap, atK_ap, restV_ap, Eff.app, List.set, Eff.wi, Option.map_none, List.nil_append, opF_load, TI.isAgg, true_or, objOf, loadW_ptr, loadO_arr, Nat.reduceLeDiff, ofCells, List.drop_succ_cons, List.drop_zero, List.take_succ_cons, List.take_zero, List.headD_cons, if_true, List.cons_append, opF_call, ev_func, List.map_cons, List.map_nil, callF_fn, List.append_nil, opF_assign, regV_nil, sepL, List.not_mem_nil, false_implies, implies_true, true_and])
      (refine ⟨by kernel_rfl, rfl, _, h4, ?_⟩)
      (refine hK _ ?_; clear hK K)
      have w1 : IntKind.wrap .i64 (-1) = -1 := rfl
      have w2 : IntKind.wrap .i64 0 = 0 := rfl
      have w3 : IntKind.wrap .i64 1 = 1 := rfl
      have z1 : ((-1 : Int) == 0) = false := rfl
      have z2 : ((0 : Int) == 0) = true := rfl
      have z3 : ((1 : Int) == 0) = false := rfl
      cases down
      · refine W_seq ?_
        ((refine W_seqV fun K hK => ?_); simp (disch := omega) only [regV_cons, effW_free, opF_fieldAddr, ty47, ev_tmp, List.getD_cons_succ, List.getD_cons_zero, fieldAddrW_ptr, List.length_cons, List.length_nil, Nat.zero_add, Nat.reduceAdd, Nat.reduceLT, ty4, ne_eq, reduceCtorEq, not_false_eq_true, valK_ap, atK_ap, restV_ap, Eff.app, List.set, Eff.wi, Option.map_none, List.nil_append, opF_load, TI.isAgg, Bool.false_eq_true, or_true, objOf, loadW_ptr, loadO_arr, Nat.reduceLeDiff, ofCells, List.drop_succ_cons, List.drop_zero, List.take_succ_cons, List.take_zero, List.headD_cons, if_false, List.cons_append, regV_nil, sepL, List.not_mem_nil, false_implies, implies_true, true_and])
        (refine hK _ ?_; clear hK K)
        (first | refine W_cond rfl (fun h => by cases h) (fun _ => ?_) | refine W_seq (W_cond rfl (fun h => by cases h) (fun _ => ?_)))
        refine W_skip ?_
        simp only [thenW]
        clear h1 h2 h3 h4
        rcases hsg with rfl | rfl | rfl <;> cases strict
        all_goals
          ((refine W_seqV fun K hK => ?_); simp (disch := omega) only [Int.reduceNeg, regV_cons, effW_free, opF_move, ev_tmp, List.getD_cons_succ, List.getD_cons_zero, atK_ap, restV_ap, Eff.app, List.set, Eff.wi, Option.map_none, List.nil_append, opF_binOp, ty3, ev_const, cst_int, binW_lss, Int.reduceLT, decide_true, valK_ap, List.cons_append, effW_guard, guardOf, List.getElem?_toArray, List.getElem?_cons_succ, List.getElem?_cons_zero, Option.bind_some, effH_ft, effH_und, opF_pick, cst_bool, pickW_yes, opF_assign, regV_nil, sepL, List.not_mem_nil, false_implies, implies_true, true_and, Int.lt_irrefl, decide_false, effH_ff, binW_eql, z2, effH_tt, opF_fieldAddr, ty47, fieldAddrW_ptr, List.length_cons, List.length_nil, Nat.zero_add, Nat.reduceAdd, Nat.reduceLT, ty4, ne_eq, reduceCtorEq, not_false_eq_true, opF_load, TI.isAgg, Bool.false_eq_true, or_true, objOf, loadW_ptr, loadO_arr, Nat.reduceLeDiff, ofCells, List.drop_succ_cons, List.drop_zero, List.take_succ_cons, List.take_zero, List.headD_cons, if_false, opF_unOp, unW_not, Bool.not_false, pickW_bool, cond_true, cond_false, Bool.not_true, effH_tf, pickW_no, z3])
          (refine hK _ ?_; clear hK K)
          refine W_ret ?_
          simp (disch := omega) only [retR, resW, resV, List.getD_cons_succ, List.getD_cons_zero, asOne_one, view_bool]
        all_goals simp
      · refine W_seq ?_
        ((refine W_seqV fun K hK => ?_); simp (disch := omega) only [regV_cons, effW_free, opF_fieldAddr, ty47, ev_tmp, List.getD_cons_succ, List.getD_cons_zero, fieldAddrW_ptr, List.length_cons, List.length_nil, Nat.zero_add, Nat.reduceAdd, Nat.reduceLT, ty4, ne_eq, reduceCtorEq, not_false_eq_true, valK_ap, atK_ap, restV_ap, Eff.app, List.set, Eff.wi, Option.map_none, List.nil_append, opF_load, TI.isAgg, Bool.false_eq_true, or_true, objOf, loadW_ptr, loadO_arr, Nat.reduceLeDiff, ofCells, List.drop_succ_cons, List.drop_zero, List.take_succ_cons, List.take_zero, List.headD_cons, if_false, List.cons_append, regV_nil, sepL, List.not_mem_nil, false_implies, implies_true, true_and])
        (refine hK _ ?_; clear hK K)
        (first | refine W_cond rfl (fun _ => ?_) (fun h => by cases h) | refine W_seq (W_cond rfl (fun _ => ?_) (fun h => by cases h)))
        clear h1 h2 h3 h4
        rcases hsg with rfl | rfl | rfl <;> cases strict
        all_goals
          ((refine W_regV fun K hK => ?_); simp (disch := omega) only [Int.reduceNeg, regV_cons, effW_free, opF_move, ev_tmp, List.getD_cons_succ, List.getD_cons_zero, atK_ap, restV_ap, Eff.app, List.set, Eff.wi, Option.map_none, List.nil_append, opF_unOp, unW_neg, Int.reduceSub, w3, valK_ap, List.cons_append, opF_assign, regV_nil, sepL, List.not_mem_nil, false_implies, implies_true, true_and, w2, w1])
          (refine hK _ ?_; clear hK K)
          simp only [thenW]
          ((refine W_seqV fun K hK => ?_); simp (disch := omega) only [Int.reduceNeg, regV_cons, effW_free, opF_move, ev_tmp, List.getD_cons_succ, List.getD_cons_zero, atK_ap, restV_ap, Eff.app, List.set, Eff.wi, Option.map_none, List.nil_append, opF_binOp, ty3, ev_const, cst_int, binW_lss, Int.reduceLT, decide_false, valK_ap, List.cons_append, effW_guard, guardOf, List.getElem?_toArray, List.getElem?_cons_succ, List.getElem?_cons_zero, Option.bind_some, effH_ff, binW_eql, z3, effH_tf, opF_pick, cst_bool, pickW_no, pickW_bool, cond_false, opF_assign, regV_nil, sepL, List.not_mem_nil, false_implies, implies_true, true_and, Int.lt_irrefl, z2, effH_tt, opF_fieldAddr, ty47, fieldAddrW_ptr, List.length_cons, List.length_nil, Nat.zero_add, Nat.reduceAdd, Nat.reduceLT, ty4, ne_eq, reduceCtorEq, not_false_eq_true, opF_load, TI.isAgg, Bool.false_eq_true, or_true, objOf, loadW_ptr, loadO_arr, Nat.reduceLeDiff, ofCells, List.drop_succ_cons, List.drop_zero, List.take_succ_cons, List.take_zero, List.headD_cons, if_false, opF_unOp, unW_not, Bool.not_false, cond_true, Bool.not_true, decide_true, effH_ft, effH_und, pickW_yes])
          (refine hK _ ?_; clear hK K)
          refine W_ret ?_
          simp (disch := omega) only [retR, resW, resV, List.getD_cons_succ, List.getD_cons_zero, asOne_one, view_bool]
        all_goals simp
end Go.Proofs.Ytjkjapjcmbfkgaa.Vm

/-
  Implied: what an atom, or its opposite, says; the clauses of two.
-/
namespace Go.Proofs.Ytjkjapjcmbfkgaa.Vm
open Go Go.RowKit
set_option linter.unusedVariables false
set_option linter.unusedSimpArgs false
set_option pp.deepTerms false
set_option pp.deepTerms.threshold 8

def zeroR : RR := ⟨false, [], []⟩
def saysH (a : At) (sign : Bool) : Half :=
  if named a.name = true then ⟨a.name, [], sign, false, false, zeroR⟩
  else match normF (vals a.form) with
    | [] => ⟨ByteArray.mk #[], [], (decide (0 < rs a.bound.v) || (rs a.bound.v == 0 && !a.strict)) == sign, false, false, zeroR⟩
    | p :: l => ⟨ByteArray.mk #[], primeF (p :: l), false, decide (0 < rs (primeC (p :: l))) == sign, a.strict == sign, qr (a.bound.v / primeC (p :: l))⟩
theorem zeroR_ok : zeroR.ok := ⟨fun _ h => (by cases h), fun _ h => (by cases h), (by decide), (by decide)⟩
theorem zeroR_v : zeroR.v = 0 := by simp [zeroR, RR.v, val]
theorem nb_div (a b : Rat) : nb (a / b) ≤ nb a + nb b := by rw [Rat.div_def]; have := nb_mul a b⁻¹; rwa [nb_inv] at this
theorem says_facts {a : At} (ha : AtOk a) : Sz (normF (vals a.form)) 67108864 ∧ nb (primeC (normF (vals a.form))) ≤ 67108866 := by
  have h1 := ha.form.sz.norm
  refine ⟨h1, nb_primeC (fun p hp => h1.mem hp) (by omega) (Nat.le_trans (nbs_norm _) ha.nbs)⟩
theorem saysH_ok {a : At} (ha : AtOk a) (sign : Bool) : HalfOk (saysH a sign) := by
  have hz : HalfOk ⟨a.name, [], sign, false, false, zeroR⟩ := ⟨⟨fun _ => by simp [nbv], by simp⟩, zeroR_ok, by show nb zeroR.v ≤ _; rw [zeroR_v, nb_zero]; omega⟩
  obtain ⟨h1, h2⟩ := says_facts ha
  have hNF := NF.norm (vals a.form)
  unfold saysH
  split
  · exact hz
  · split
    · exact ⟨⟨fun _ => by simp [nbv], by simp⟩, zeroR_ok, by show nb zeroR.v ≤ _; rw [zeroR_v, nb_zero]; omega⟩
    · rename_i p l hl
      rw [hl] at h1 h2 hNF
      have h3 := h1.scale hNF (primeC (p :: l))⁻¹
      rw [nb_inv] at h3
      have h4 := nb_div a.bound.v (primeC (p :: l))
      have h5 := ha.nb
      refine ⟨h3.mono (by omega), qr_ok (by omega), ?_⟩
      show nb (qr _).v ≤ _
      rw [qr_v]
      omega

set_option maxRecDepth 20000 in
set_option maxHeartbeats 8000000 in
theorem says_ok (a : At) (sign : Bool) (ha : AtOk a) : Pure Try.prog 9 [.agg a.cells, .bool sign] (· = .agg (saysH a sign).cells) := by
  have h1 := lprime_ok a.form ha.form (by omega) (by have := ha.nbs; omega)
  have h2 := rsign_ok a.bound ha.bound
  obtain ⟨hs, hnc⟩ := says_facts ha
  have hNF := NF.norm (vals a.form)
  have hbo := ha.bound
  unfold saysH
  generalize normF (vals a.form) = l at *
  clear ha
  change Pure _ _ _ (· = .int .i64 (rs a.bound.v)) at h2
  obtain ⟨name, form, bound, strict⟩ := a
  unfold At.cells
  dsimp only at *
  have hn : (!(name.toList == (ByteArray.mk #[]).toList)) = named name := rfl
  generalize named name = na at *
  cases na
  · simp only [Bool.false_eq_true, if_false]
    rcases l with _ | ⟨p, l⟩
    · have hsg := sg_rs bound.v
      obtain ⟨neg, num, den⟩ := bound
      simp only [RR.av] at *
      generalize rs _ = d at *
      have z1 : ((-1 : Int) == 0) = false := rfl
      have z2 : ((0 : Int) == 0) = true := rfl
      have z3 : ((1 : Int) == 0) = false := rfl
      simp only [cL, primeF, scaleF, List.map_nil] at h1
      (refine pureW Try.func9 rfl (rs := [Go.ResultVar.cell 4 47]) rfl (n := 62) rfl ?_; simp only [List.length_cons, List.length_nil, List.replicate, List.cons_append, List.nil_append])
      simp only [cF, cQ] at h1
      (repeat (refine W_seqV fun K hK => ?_; (try simp (disch := omega) only [regV_cons, effW_free, opF_box, dead, List.getElem?_cons_succ, List.getElem?_cons_zero, storable, ev_tmp, List.getD_cons_zero, List.all_cons, AV.one, List.all_nil, Bool.and_self, cellsOf, List.length_cons, List.length_nil, Nat.zero_add, Nat.reduceAdd, atK_ap, restV_ap, Eff.app, List.set, Eff.wi, Option.map_some, List.nil_append, opF_alloc, ty47, ne_eq, reduceCtorEq, not_false_eq_true, List.cons_append, regV_nil, sepL, List.not_mem_nil, false_implies, implies_true, true_and]); refine hK _ ?_; clear hK K))
      refine W_seq ?_
      ((refine W_seqV fun K hK => ?_); simp (disch := omega) only [regV_cons, effW_free, opF_fieldAddr, ty31, ev_tmp, List.getD_cons_succ, List.getD_cons_zero, fieldAddrW_ptr, List.length_cons, List.length_nil, Nat.zero_add, Nat.reduceAdd, Nat.reduceLT, ty9, ne_eq, reduceCtorEq, not_false_eq_true, Nat.add_zero, valK_ap, atK_ap, restV_ap, Eff.app, List.set, Eff.wi, Option.map_none, List.nil_append, opF_load, TI.isAgg, Bool.false_eq_true, or_true, objOf, loadW_ptr, loadO_arr, Nat.reduceLeDiff, ofCells, List.drop_zero, List.take_succ_cons, List.take_zero, List.headD_cons, if_false, List.cons_append, opF_binOp, ev_const, cst_str, binW_sneq, hn, regV_nil, sepL, List.not_mem_nil, false_implies, implies_true, true_and])
      (refine hK _ ?_; clear hK K)
      (first | refine W_cond rfl (fun h => by cases h) (fun _ => ?_) | refine W_seq (W_cond rfl (fun h => by cases h) (fun _ => ?_)))
      refine W_skip ?_
      simp only [thenW]
      ((refine W_seqV fun K hK => ?_); simp (disch := omega) only [regV_cons, effW_free, opF_fieldAddr, ty31, ev_tmp, List.getD_cons_succ, List.getD_cons_zero, fieldAddrW_ptr, List.length_cons, List.length_nil, Nat.zero_add, Nat.reduceAdd, Nat.reduceLT, ty23, ne_eq, reduceCtorEq, not_false_eq_true, valK_ap, atK_ap, restV_ap, Eff.app, List.set, Eff.wi, Option.map_none, List.nil_append, opF_load, TI.isAgg, Bool.false_eq_true, or_true, objOf, loadW_ptr, loadO_arr, Nat.reduceLeDiff, ofCells, List.drop_succ_cons, List.drop_zero, List.take_succ_cons, List.take_zero, List.headD_cons, if_false, List.cons_append, opF_call, ev_func, List.map_cons, List.map_nil, callF_fn, List.append_nil, opF_move, opF_extract, true_and])
      (refine ⟨by kernel_rfl, rfl, _, h1, ?_⟩; (try simp (disch := omega) only [tab_nil, extractW_tup, List.length_cons, List.length_nil, Nat.zero_add, Nat.reduceAdd, Nat.reduceLT, List.getD_cons_zero, valK_ap, atK_ap, restV_ap, Eff.app, List.set, Eff.wi, Option.map_none, List.cons_append, List.nil_append, regV_cons, effW_free, opF_extract, ev_tmp, List.getD_cons_succ, opF_alloc, dead, List.getElem?_cons_succ, List.getElem?_cons_zero, ty29, ne_eq, reduceCtorEq, not_false_eq_true, Option.map_some, opF_assign, opF_store, storeF_ptr, storeO_arr, storable, List.all_cons, AV.one, List.all_nil, Bool.and_self, cellsOf, Bool.false_eq_true, false_implies, Nat.reduceLeDiff, overlay, List.take_zero, List.drop_succ_cons, List.drop_nil, List.append_nil, wrK_ap, regV_nil, sepL, List.not_mem_nil, implies_true, true_and]))
      (refine hK _ ?_; clear hK K)
      refine W_seq ?_
      ((refine W_seqV fun K hK => ?_); simp (disch := omega) only [regV_cons, effW_free, opF_move, ev_tmp, List.getD_cons_succ, List.getD_cons_zero, atK_ap, restV_ap, Eff.app, List.set, Eff.wi, Option.map_none, List.nil_append, opF_len, ty23, lenW_sl, List.length_nil, Int.cast_ofNat_Int, valK_ap, List.cons_append, opF_binOp, ty3, ev_const, cst_int, binW_eql, regV_nil, sepL, List.not_mem_nil, false_implies, implies_true, true_and])
      (refine hK _ ?_; clear hK K)
      (first | refine W_cond rfl (fun _ => ?_) (fun h => by cases h) | refine W_seq (W_cond rfl (fun _ => ?_) (fun h => by cases h)))
      ((refine W_seqV fun K hK => ?_); simp (disch := omega) only [regV_cons, effW_free, opF_fieldAddr, ty31, ev_tmp, List.getD_cons_succ, List.getD_cons_zero, fieldAddrW_ptr, List.length_cons, List.length_nil, Nat.zero_add, Nat.reduceAdd, Nat.reduceLT, ty29, ne_eq, reduceCtorEq, not_false_eq_true, valK_ap, atK_ap, restV_ap, Eff.app, List.set, Eff.wi, Option.map_none, List.nil_append, opF_load, TI.isAgg, true_or, objOf, loadW_ptr, loadO_arr, Nat.reduceLeDiff, ofCells, List.drop_succ_cons, List.drop_zero, List.take_succ_cons, List.take_zero, List.headD_cons, if_true, List.cons_append, opF_call, ev_func, List.map_cons, List.map_nil, callF_fn, List.append_nil, opF_assign, regV_nil, sepL, List.not_mem_nil, false_implies, implies_true, true_and])
      (refine ⟨by kernel_rfl, rfl, _, h2, ?_⟩)
      (refine hK _ ?_; clear hK K)
      clear h1 h2
      rcases hsg with rfl | rfl | rfl
      all_goals
        ((refine W_seqV fun K hK => ?_); simp (disch := omega) only [Int.reduceNeg, z2, regV_cons, effW_free, opF_move, ev_tmp, List.getD_cons_succ, List.getD_cons_zero, atK_ap, restV_ap, Eff.app, List.set, Eff.wi, Option.map_none, List.nil_append, opF_binOp, ty3, ev_const, cst_int, binW_gtr, gt_iff_lt, Int.reduceLT, decide_false, valK_ap, List.cons_append, effW_guard, guardOf, List.getElem?_toArray, List.getElem?_cons_succ, List.getElem?_cons_zero, Option.bind_some, effH_ff, binW_eql, z1, effH_tf, opF_pick, cst_bool, pickW_no, pickW_bool, cond_false, ty4, binW_beql, opF_build, ty47, List.map_cons, List.map_nil, buildW_struct, storable, AV.one, List.length_cons, List.length_nil, Nat.zero_add, Nat.reduceAdd, ne_eq, cellsOf, List.forall_mem_cons, Nat.reduceLT, reduceCtorEq, not_false_eq_true, Nat.reduceLeDiff, and_self, List.not_mem_nil, false_implies, implies_true, ty9, ty23, ty29, laid, List.foldl_cons, List.take_succ_cons, List.take_zero, List.drop_succ_cons, List.drop_zero, List.foldl_nil, opF_store, storeF_ptr, storeO_arr, List.all_cons, List.all_nil, Bool.and_self, Bool.false_eq_true, overlay, List.drop_nil, List.append_nil, wrK_ap, Option.map_some, regV_nil, sepL, true_and, Int.lt_irrefl, effH_tt, opF_fieldAddr, ty31, fieldAddrW_ptr, opF_load, TI.isAgg, or_true, objOf, loadW_ptr, loadO_arr, ofCells, List.headD_cons, if_false, opF_unOp, unW_not, cond_true, decide_true, effH_ft, effH_und, pickW_yes])
        (refine hK _ ?_; clear hK K)
        refine W_ret ?_
        simp (disch := omega) only [thenW, retR, resW, resV, List.getD_cons_succ, List.getD_cons_zero, asOne_one]; try simp (disch := omega) only [ty47, ne_eq, reduceCtorEq, not_false_eq_true, TI.isAgg, true_or, Int.reduceNeg, Int.reduceLT, decide_false, loadW_ptr, List.getD_cons_succ, List.getD_cons_zero, loadO_arr, List.length_cons, List.length_nil, Nat.zero_add, Nat.reduceLT, Nat.reduceAdd, Nat.reduceLeDiff, ofCells, List.drop_zero, List.take_succ_cons, List.take_zero, List.headD_cons, if_true, view_agg, views_cons, view_str, view_nils, view_bool, views_nil, true_and, Int.lt_irrefl, decide_true]
      all_goals (unfold Half.cells zeroR; simp [tab, u32s])
    · have hpl : (primeF (p :: l)).length = l.length + 1 := by simp [primeF, scaleF]
      have hc0 := primeC_ne hNF
      have h3 := rsign_ok (qr (primeC (p :: l))) (qr_ok (by omega))
      have h4 := rdiv_ok bound (qr (primeC (p :: l))) hbo (qr_ok (by omega))
      rw [qr_v] at h3 h4
      rw [if_neg hc0] at h4
      change Pure _ _ _ (· = .int .i64 (rs (primeC (p :: l)))) at h3
      dsimp only
      generalize primeF (p :: l) = pl at *
      generalize primeC (p :: l) = c at *
      generalize bound.v / c = bc at *
      obtain ⟨neg, num, den⟩ := bound
      have hz : (((l.length + 1 : Nat) : Int) == 0) = false := by rw [beq_eq_false_iff_ne]; omega
      simp only [RR.av, cL, cF, qr, cQE, cQ] at *
      (refine pureW Try.func9 rfl (rs := [Go.ResultVar.cell 4 47]) rfl (n := 62) rfl ?_; simp only [List.length_cons, List.length_nil, List.replicate, List.cons_append, List.nil_append])
      (repeat (refine W_seqV fun K hK => ?_; (try simp (disch := omega) only [regV_cons, effW_free, opF_box, dead, List.getElem?_cons_succ, List.getElem?_cons_zero, storable, ev_tmp, List.getD_cons_zero, List.all_cons, AV.one, List.all_nil, Bool.and_self, cellsOf, List.length_cons, List.length_nil, Nat.zero_add, Nat.reduceAdd, atK_ap, restV_ap, Eff.app, List.set, Eff.wi, Option.map_some, List.nil_append, opF_alloc, ty47, ne_eq, reduceCtorEq, not_false_eq_true, List.cons_append, regV_nil, sepL, List.not_mem_nil, false_implies, implies_true, true_and]); refine hK _ ?_; clear hK K))
      refine W_seq ?_
      ((refine W_seqV fun K hK => ?_); simp (disch := omega) only [regV_cons, effW_free, opF_fieldAddr, ty31, ev_tmp, List.getD_cons_succ, List.getD_cons_zero, fieldAddrW_ptr, List.length_cons, List.length_nil, Nat.zero_add, Nat.reduceAdd, Nat.reduceLT, ty9, ne_eq, reduceCtorEq, not_false_eq_true, Nat.add_zero, valK_ap, atK_ap, restV_ap, Eff.app, List.set, Eff.wi, Option.map_none, List.nil_append, opF_load, TI.isAgg, Bool.false_eq_true, or_true, objOf, loadW_ptr, loadO_arr, Nat.reduceLeDiff, ofCells, List.drop_zero, List.take_succ_cons, List.take_zero, List.headD_cons, if_false, List.cons_append, opF_binOp, ev_const, cst_str, binW_sneq, hn, regV_nil, sepL, List.not_mem_nil, false_implies, implies_true, true_and])
      (refine hK _ ?_; clear hK K)
      (first | refine W_cond rfl (fun h => by cases h) (fun _ => ?_) | refine W_seq (W_cond rfl (fun h => by cases h) (fun _ => ?_)))
      refine W_skip ?_
      simp only [thenW]
      ((refine W_seqV fun K hK => ?_); simp (disch := omega) only [regV_cons, effW_free, opF_fieldAddr, ty31, ev_tmp, List.getD_cons_succ, List.getD_cons_zero, fieldAddrW_ptr, List.length_cons, List.length_nil, Nat.zero_add, Nat.reduceAdd, Nat.reduceLT, ty23, ne_eq, reduceCtorEq, not_false_eq_true, valK_ap, atK_ap, restV_ap, Eff.app, List.set, Eff.wi, Option.map_none, List.nil_append, opF_load, TI.isAgg, Bool.false_eq_true, or_true, objOf, loadW_ptr, loadO_arr, Nat.reduceLeDiff, ofCells, List.drop_succ_cons, List.drop_zero, List.take_succ_cons, List.take_zero, List.headD_cons, if_false, List.cons_append, opF_call, ev_func, List.map_cons, List.map_nil, callF_fn, List.append_nil, opF_move, opF_extract, true_and])
      (refine ⟨by kernel_rfl, rfl, _, h1, ?_⟩; (try simp (disch := omega) only [extractW_tup, List.length_cons, List.length_nil, Nat.zero_add, Nat.reduceAdd, Nat.reduceLT, List.getD_cons_zero, valK_ap, atK_ap, restV_ap, Eff.app, List.set, Eff.wi, Option.map_none, List.cons_append, List.nil_append, regV_cons, effW_free, opF_extract, ev_tmp, List.getD_cons_succ, opF_alloc, dead, List.getElem?_cons_succ, List.getElem?_cons_zero, ty29, ne_eq, reduceCtorEq, not_false_eq_true, Option.map_some, opF_assign, opF_store, storeF_ptr, storeO_arr, storable, List.all_cons, AV.one, List.all_nil, Bool.and_self, cellsOf, Bool.false_eq_true, false_implies, Nat.reduceLeDiff, overlay, List.take_zero, List.drop_succ_cons, List.drop_nil, List.append_nil, wrK_ap, regV_nil, sepL, List.not_mem_nil, implies_true, true_and]))
      (refine hK _ ?_; clear hK K)
      refine W_seq ?_
      ((refine W_seqV fun K hK => ?_); simp (disch := omega) only [regV_cons, effW_free, opF_move, ev_tmp, List.getD_cons_succ, List.getD_cons_zero, atK_ap, restV_ap, Eff.app, List.set, Eff.wi, Option.map_none, List.nil_append, opF_len, ty23, lenW_sl, tab_length, hpl, valK_ap, List.cons_append, opF_binOp, ty3, ev_const, cst_int, binW_eql, hz, regV_nil, sepL, List.not_mem_nil, false_implies, implies_true, true_and])
      (refine hK _ ?_; clear hK K)
      (first | refine W_cond rfl (fun h => by cases h) (fun _ => ?_) | refine W_seq (W_cond rfl (fun h => by cases h) (fun _ => ?_)))
      refine W_skip ?_
      simp only [thenW]
      ((refine W_seqV fun K hK => ?_); simp (disch := omega) only [regV_cons, effW_free, opF_fieldAddr, ty31, ev_tmp, List.getD_cons_succ, List.getD_cons_zero, fieldAddrW_ptr, List.length_cons, List.length_nil, Nat.zero_add, Nat.reduceAdd, Nat.reduceLT, ty29, ne_eq, reduceCtorEq, not_false_eq_true, valK_ap, atK_ap, restV_ap, Eff.app, List.set, Eff.wi, Option.map_none, List.nil_append, opF_load, TI.isAgg, true_or, objOf, loadW_ptr, loadO_arr, Nat.reduceLeDiff, ofCells, List.drop_succ_cons, List.drop_zero, List.take_succ_cons, List.take_zero, List.headD_cons, if_true, List.cons_append, opF_call, ev_func, List.map_cons, List.map_nil, callF_fn, List.append_nil, opF_move, opF_extract, true_and])
      (refine ⟨by kernel_rfl, rfl, _, h4, ?_⟩; (try simp (disch := omega) only [extractW_tup, List.length_cons, List.length_nil, Nat.zero_add, Nat.reduceAdd, Nat.reduceLT, List.getD_cons_zero, valK_ap, atK_ap, restV_ap, Eff.app, List.set, Eff.wi, Option.map_none, List.cons_append, List.nil_append, regV_cons, effW_free, opF_extract, ev_tmp, List.getD_cons_succ, opF_alloc, dead, List.getElem?_cons_succ, List.getElem?_cons_zero, ty29, ne_eq, reduceCtorEq, not_false_eq_true, Option.map_some, opF_store, storeF_ptr, storeO_arr, storable, List.all_cons, AV.one, List.all_nil, Bool.and_self, cellsOf, Bool.false_eq_true, false_implies, Nat.reduceLeDiff, overlay, List.take_zero, List.drop_succ_cons, List.drop_nil, List.append_nil, wrK_ap, opF_assign, regV_nil, sepL, List.not_mem_nil, implies_true, true_and]))
      (refine hK _ ?_; clear hK K)
      ((refine W_seqD mixed [] (by kernel_rfl) fun K hK => ?_); simp (disch := omega) only [regV_cons, effW_free, opF_move, ev_tmp, List.getD_cons_succ, List.getD_cons_zero, atK_ap, restV_ap, Eff.app, List.set, Eff.wi, Option.map_none, List.nil_append, opF_load, ty29, ne_eq, reduceCtorEq, not_false_eq_true, TI.isAgg, true_or, objOf, loadW_ptr, loadO_arr, List.length_cons, List.length_nil, Nat.zero_add, Nat.reduceLT, Nat.reduceAdd, Nat.reduceLeDiff, ofCells, List.drop_zero, List.take_succ_cons, List.take_zero, List.headD_cons, if_true, valK_ap, List.cons_append, opF_call, ev_func, List.map_cons, List.map_nil, callF_fn, List.append_nil, opF_binOp, ty3, ev_const, cst_int, true_and])
      (refine ⟨by kernel_rfl, rfl, _, h3, ?_⟩; (try simp (disch := omega) only [binW_gtr, gt_iff_lt, valK_ap, atK_ap, restV_ap, Eff.app, List.set, Eff.wi, Option.map_none, List.cons_append, List.nil_append, regV_cons, effW_free, opF_move, ev_tmp, List.getD_cons_succ, List.getD_cons_zero, opF_binOp, ty4, binW_beql, opF_fieldAddr, ty31, fieldAddrW_ptr, List.length_cons, List.length_nil, Nat.zero_add, Nat.reduceAdd, Nat.reduceLT, ne_eq, reduceCtorEq, not_false_eq_true, opF_load, TI.isAgg, Bool.false_eq_true, or_true, objOf, loadW_ptr, loadO_arr, Nat.reduceLeDiff, ofCells, List.drop_succ_cons, List.drop_zero, List.take_succ_cons, List.take_zero, List.headD_cons, if_false, ty29, true_or, if_true, opF_build, ty47, List.map_cons, List.map_nil, buildW_struct, storable, AV.one, cellsOf, List.forall_mem_cons, ty23, and_self, List.all_cons, List.all_nil, Bool.and_self, List.not_mem_nil, false_implies, implies_true, ty9, laid, List.foldl_cons, List.drop_nil, List.append_nil, List.foldl_nil, opF_store, storeF_ptr, storeO_arr, overlay, wrK_ap, Option.map_some, regV_nil, sepL, true_and]))
      (refine hK _ ?_; clear hK K)
      refine W_ret ?_
      simp (disch := omega) only [retR, resW, resV, List.getD_cons_succ, List.getD_cons_zero, asOne_one]; try simp (disch := omega) only [ty47, ne_eq, reduceCtorEq, not_false_eq_true, TI.isAgg, true_or, loadW_ptr, List.getD_cons_succ, List.getD_cons_zero, loadO_arr, List.length_cons, List.length_nil, Nat.zero_add, Nat.reduceLT, Nat.reduceAdd, Nat.reduceLeDiff, ofCells, List.drop_zero, List.take_succ_cons, List.take_zero, List.headD_cons, if_true, view_agg, views_cons, view_str, view_sl, view_bool, views_nil, true_and]
      unfold Half.cells
      rfl
  · (refine pureW Try.func9 rfl (rs := [Go.ResultVar.cell 4 47]) rfl (n := 62) rfl ?_; simp only [List.length_cons, List.length_nil, List.replicate, List.cons_append, List.nil_append])
    (repeat (refine W_seqV fun K hK => ?_; (try simp (disch := omega) only [regV_cons, effW_free, opF_box, dead, List.getElem?_cons_succ, List.getElem?_cons_zero, storable, ev_tmp, List.getD_cons_zero, List.all_cons, AV.one, List.all_nil, Bool.and_self, cellsOf, List.length_cons, List.length_nil, Nat.zero_add, Nat.reduceAdd, atK_ap, restV_ap, Eff.app, List.set, Eff.wi, Option.map_some, List.nil_append, opF_alloc, ty47, ne_eq, reduceCtorEq, not_false_eq_true, List.cons_append, regV_nil, sepL, List.not_mem_nil, false_implies, implies_true, true_and]); refine hK _ ?_; clear hK K))
    refine W_seq ?_
    ((refine W_seqV fun K hK => ?_); simp (disch := omega) only [regV_cons, effW_free, opF_fieldAddr, ty31, ev_tmp, List.getD_cons_succ, List.getD_cons_zero, fieldAddrW_ptr, List.length_cons, List.length_nil, Nat.zero_add, Nat.reduceAdd, Nat.reduceLT, ty9, ne_eq, reduceCtorEq, not_false_eq_true, Nat.add_zero, valK_ap, atK_ap, restV_ap, Eff.app, List.set, Eff.wi, Option.map_none, List.nil_append, opF_load, TI.isAgg, Bool.false_eq_true, or_true, objOf, loadW_ptr, loadO_arr, Nat.reduceLeDiff, ofCells, List.drop_zero, List.take_succ_cons, List.take_zero, List.headD_cons, if_false, List.cons_append, opF_binOp, ev_const, cst_str, binW_sneq, hn, regV_nil, sepL, List.not_mem_nil, false_implies, implies_true, true_and])
    (refine hK _ ?_; clear hK K)
    (first | refine W_cond rfl (fun _ => ?_) (fun h => by cases h) | refine W_seq (W_cond rfl (fun _ => ?_) (fun h => by cases h)))
    ((refine W_seqV fun K hK => ?_); simp (disch := omega) only [regV_cons, effW_free, opF_fieldAddr, ty31, ev_tmp, List.getD_cons_succ, List.getD_cons_zero, fieldAddrW_ptr, List.length_cons, List.length_nil, Nat.zero_add, Nat.reduceAdd, Nat.reduceLT, ty9, ne_eq, reduceCtorEq, not_false_eq_true, Nat.add_zero, valK_ap, atK_ap, restV_ap, Eff.app, List.set, Eff.wi, Option.map_none, List.nil_append, opF_load, TI.isAgg, Bool.false_eq_true, or_true, objOf, loadW_ptr, loadO_arr, Nat.reduceLeDiff, ofCells, List.drop_zero, List.take_succ_cons, List.take_zero, List.headD_cons, if_false, List.cons_append, opF_move, opF_build, ty47, List.map_cons, List.map_nil, buildW_struct, storable, AV.one, cellsOf, List.forall_mem_cons, and_self, ty4, List.not_mem_nil, false_implies, implies_true, ty23, ty29, laid, List.foldl_cons, List.drop_succ_cons, List.foldl_nil, opF_store, storeF_ptr, storeO_arr, List.all_cons, List.all_nil, Bool.and_self, overlay, List.drop_nil, List.append_nil, wrK_ap, Option.map_some, regV_nil, sepL, true_and])
    (refine hK _ ?_; clear hK K)
    refine W_ret ?_
    simp (disch := omega) only [thenW, retR, resW, resV, List.getD_cons_succ, List.getD_cons_zero, asOne_one]; try simp (disch := omega) only [ty47, ne_eq, reduceCtorEq, not_false_eq_true, TI.isAgg, true_or, if_true, loadW_ptr, List.getD_cons_succ, List.getD_cons_zero, loadO_arr, List.length_cons, List.length_nil, Nat.zero_add, Nat.reduceLT, Nat.reduceAdd, Nat.reduceLeDiff, ofCells, List.drop_zero, List.take_succ_cons, List.take_zero, List.headD_cons, view_agg, views_cons, view_str, view_nils, view_bool, views_nil, true_and]
    unfold Half.cells zeroR
    simp [tab, u32s]
end Go.Proofs.Ytjkjapjcmbfkgaa.Vm

/-
  Implied: the clauses of two atoms.
-/
namespace Go.Proofs.Ytjkjapjcmbfkgaa.Vm
open Go Go.RowKit
set_option linter.unusedVariables false
set_option linter.unusedSimpArgs false
set_option pp.deepTerms false
set_option pp.deepTerms.threshold 8

def rowC (c : List Int) : List AV := [.sl (i64s c)]
theorem rowC_all (f : List (List Int)) : AllLen 1 (tab rowC f) := tab_all (k := 1) (fun _ => rfl) f
theorem rowC_one (f : List (List Int)) : AllOne (tab rowC f) := tab_one (fun _ => rfl) f
theorem rowC_pure (f : List (List Int)) : AllPure (tab rowC f) := tab_pure (fun _ => rfl) f
def prs : List (Int × Int) := [(1, 2), (1, -2), (-1, 2), (-1, -2)]
def holds2 (a b : At) (p : Int × Int) : Bool := !together (saysH a (decide (p.1 < 0))) (saysH b (decide (p.2 < 0)))
def relT (a b : At) (n : Nat) : List (List Int) := ((prs.take n).filter (holds2 a b)).map fun p => [p.1, p.2]
theorem relT_len (a b : At) (n : Nat) : (relT a b n).length ≤ 4 := by
  unfold relT
  rw [List.length_map]
  refine Nat.le_trans (List.length_filter_le _ _) ?_
  rw [List.length_take]
  exact Nat.min_le_right _ _
theorem relT_succ (a b : At) {n : Nat} (h : n < 4) : relT a b (n + 1) = relT a b n ++ if holds2 a b (prs.getD n (0, 0)) then [[(prs.getD n (0, 0)).1, (prs.getD n (0, 0)).2]] else [] := by
  have hp : prs[n]? = some (prs.getD n (0, 0)) := getD_some h
  unfold relT
  rw [List.take_add_one, hp, List.filter_append, List.map_append]
  congr 1
  simp only [Option.toList_some, List.filter_cons, List.filter_nil]
  split <;> rfl

theorem one_at {i : Nat} (h : i < 2) : ∃ one : Int, (one = 1 ∨ one = -1) ∧ ([AV.int .i64 1, AV.int .i64 (-1)].drop i).take 1 = [.int .i64 one] ∧ ∀ k, k < 2 → (prs.getD (2 * i + k) (0, 0)).1 = one := by
  obtain rfl | rfl : i = 0 ∨ i = 1 := by omega
  · refine ⟨1, .inl rfl, rfl, fun k hk => ?_⟩
    obtain rfl | rfl : k = 0 ∨ k = 1 := by omega
    · rfl
    · rfl
  · refine ⟨-1, .inr rfl, rfl, fun k hk => ?_⟩
    obtain rfl | rfl : k = 0 ∨ k = 1 := by omega
    · rfl
    · rfl
theorem two_at {i k : Nat} (hi : i < 2) (h : k < 2) : ∃ two : Int, ([AV.int .i64 2, AV.int .i64 (-2)].drop k).take 1 = [.int .i64 two] ∧ (prs.getD (2 * i + k) (0, 0)).2 = two := by
  have hi' : i = 0 ∨ i = 1 := by omega
  have hk' : k = 0 ∨ k = 1 := by omega
  rcases hk' with rfl | rfl
  · refine ⟨2, rfl, ?_⟩
    rcases hi' with rfl | rfl
    · rfl
    · rfl
  · refine ⟨-2, rfl, ?_⟩
    rcases hi' with rfl | rfl
    · rfl
    · rfl

set_option maxRecDepth 20000 in
set_option maxHeartbeats 8000000 in
theorem relate_new (a b : At) (ha : AtOk a) (hb : AtOk b) : New Try.prog 5 [.agg a.cells, .agg b.cells] 40 1 (· = tab rowC (relT a b 4)) := by
  have hsa := fun s => says_ok a s ha
  have hsb := fun s => says_ok b s hb
  have htg := fun s t => itogether_ok (saysH a s) (saysH b t) (saysH_ok ha s) (saysH_ok hb t)
  have hsu := fun n (h : n < 4) => relT_succ a b (n := n) h
  have hle := relT_len a b
  have R0 : relT a b 0 = [] := rfl
  have hold : ∀ p, holds2 a b p = !together (saysH a (decide (p.1 < 0))) (saysH b (decide (p.2 < 0))) := fun _ => rfl
  generalize relT a b = R at *
  generalize holds2 a b = T at *
  (refine new_of_W (T := 40) (k := 1) Try.func5 rfl (rs := [Go.ResultVar.tmp 4]) rfl (nt := 37) rfl ?_; simp only [List.length_cons, List.length_nil, List.replicate, List.cons_append, List.nil_append])
  unfold At.cells at *
  (repeat (refine W_seqV fun K hK => ?_; (try simp (disch := omega) only [regV_cons, effW_free, opF_box, dead, List.getElem?_cons_succ, List.getElem?_cons_zero, storable, ev_tmp, List.getD_cons_zero, List.all_cons, AV.one, List.all_nil, Bool.and_self, cellsOf, List.length_cons, List.length_nil, Nat.zero_add, Nat.reduceAdd, atK_ap, restV_ap, Eff.app, List.set, Eff.wi, Option.map_some, List.nil_append, List.getD_cons_succ, List.cons_append, opF_assign, ev_const, cst_nils, Option.map_none, regV_nil, sepL, List.not_mem_nil, false_implies, implies_true, true_and]); refine hK _ ?_; clear hK K))
  refine W.le ?_ (Le_nil 5 5 40 1 true rfl rfl)
  simp only [List.set]
  have i0 : ((0 : Nat) : Int) = 0 := rfl
  have i1 : ((1 : Nat) : Int) = 1 := rfl
  ((refine W_seq ?_; refine W_seqV fun K hK => ?_); simp (disch := omega) only [Int.reduceNeg, regV_cons, effW_free, opF_build, ty44, List.map_cons, ev_const, cst_int, List.map_nil, buildW_arr, ty3, ne_eq, reduceCtorEq, not_false_eq_true, storable, AV.one, cellsOf, List.length_cons, List.length_nil, Nat.zero_add, Nat.reduceAdd, List.forall_mem_cons, Nat.reduceMul, Nat.reduceLeDiff, and_self, List.not_mem_nil, false_implies, implies_true, laid, List.foldl_cons, List.take_zero, List.nil_append, List.drop_succ_cons, List.drop_zero, List.cons_append, List.take_succ_cons, List.drop_nil, List.append_nil, List.foldl_nil, valK_ap, atK_ap, restV_ap, Eff.app, List.set, Eff.wi, Option.map_none, opF_move, regV_nil, sepL, true_and])
  (refine hK _ ?_; clear hK K)
  refine W_block (W_loop (fun t : {t : Nat // t ≤ 2} =>
      ⟨[.any, .any, .ptr 2 0 0, .ptr 3 0 0, .any, .sref 5 0 (R (2 * t.1)).length, .any, .any, .any, .any, .agg [.int .i64 1, .int .i64 (-1)], .int .i64 (t.1 : Int), .any, .any, .any, .any, .any, .any, .any, .any, .any, .any, .any, .any, .any, .any, .any, .any, .any, .any, .any, .any, .any, .any, .any, .any, .any], [.dead, .dead, .arr 31 6 false [a.cells], .arr 31 6 false [b.cells], .dead, .arr 40 1 true (tab rowC (R (2 * t.1))), .dead, .dead, .dead, .dead, .dead, .dead, .dead, .dead, .dead, .dead, .dead, .dead, .dead, .dead, .dead, .dead, .dead, .dead, .dead, .dead, .dead, .dead, .dead, .dead, .dead, .dead, .dead, .dead, .dead, .dead, .dead]⟩) (fun t => 2 - t.1)
      ⟨0, by omega⟩ (Le_of (by simp [leE, R0]) (by simp [At.cells, R0, tab])) fun t => ?_)
  obtain ⟨i, hi⟩ := t
  dsimp only
  by_cases hlt : i < 2
  · have hltI : (i : Int) < 2 := by omega
    refine W_seq ?_
    ((refine W_regV fun K hK => ?_); simp (disch := omega) only [Int.reduceNeg, regV_cons, effW_free, opF_binOp, ty3, ev_tmp, List.getD_cons_succ, List.getD_cons_zero, ev_const, cst_int, binW_lss, hltI, decide_true, valK_ap, atK_ap, restV_ap, Eff.app, List.set, Eff.wi, Option.map_none, List.nil_append, regV_nil, sepL, List.not_mem_nil, false_implies, implies_true, true_and])
    (refine hK _ ?_; clear hK K)
    (first | refine W_cond rfl (fun _ => ?_) (fun h => by cases h) | refine W_seq (W_cond rfl (fun _ => ?_) (fun h => by cases h)))
    refine W_skip ?_
    simp only [thenW]
    refine W_seq ?_
    refine W_block ?_
    obtain ⟨one, hone1, hone2, hone3⟩ := one_at hlt
    ((refine W_seqV fun K hK => ?_); simp (disch := omega) only [Int.reduceNeg, regV_cons, effW_free, opF_index, ty44, ev_tmp, List.getD_cons_succ, List.getD_cons_zero, indexW_arr, ty3, ne_eq, reduceCtorEq, not_false_eq_true, TI.isAgg, Bool.false_eq_true, or_true, nat_nonneg, Int.cast_ofNat_Int, toNat_natCast, Nat.mul_one, List.length_cons, List.length_nil, Nat.zero_add, Nat.reduceAdd, Nat.reduceLeDiff, ofCells, hone2, List.headD_cons, if_false, valK_ap, atK_ap, restV_ap, Eff.app, List.set, Eff.wi, Option.map_none, List.nil_append, opF_assign, List.cons_append, regV_nil, sepL, List.not_mem_nil, false_implies, implies_true, true_and])
    ((repeat refine And.intro (by omega) ?_); refine hK _ ?_; clear hK K)
    ((refine W_seqV fun K hK => ?_); simp (disch := omega) only [Int.reduceNeg, regV_cons, effW_free, opF_build, ty44, List.map_cons, ev_const, cst_int, List.map_nil, buildW_arr, ty3, ne_eq, reduceCtorEq, not_false_eq_true, storable, AV.one, cellsOf, List.length_cons, List.length_nil, Nat.zero_add, Nat.reduceAdd, List.forall_mem_cons, Nat.reduceMul, Nat.reduceLeDiff, and_self, List.not_mem_nil, false_implies, implies_true, laid, List.foldl_cons, List.take_zero, List.nil_append, List.drop_succ_cons, List.drop_zero, List.cons_append, List.take_succ_cons, List.drop_nil, List.append_nil, List.foldl_nil, valK_ap, atK_ap, restV_ap, Eff.app, List.set, Eff.wi, Option.map_none, opF_move, regV_nil, sepL, true_and])
    (refine hK _ ?_; clear hK K)
    refine W_block (W_loop (fun t : {t : Nat // t ≤ 2} =>
      ⟨[.any, .any, .ptr 2 0 0, .ptr 3 0 0, .any, .sref 5 0 (R (2 * i + t.1)).length, .any, .int .i64 one, .any, .any, .agg [.int .i64 1, .int .i64 (-1)], .int .i64 (i : Int), .any, .any, .agg [.int .i64 2, .int .i64 (-2)], .int .i64 (t.1 : Int), .any, .any, .any, .any, .any, .any, .any, .any, .any, .any, .any, .any, .any, .any, .any, .any, .any, .any, .any, .any, .any], [.dead, .dead, .arr 31 6 false [a.cells], .arr 31 6 false [b.cells], .dead, .arr 40 1 true (tab rowC (R (2 * i + t.1))), .dead, .dead, .dead, .dead, .dead, .dead, .dead, .dead, .dead, .dead, .dead, .dead, .dead, .dead, .dead, .dead, .dead, .dead, .dead, .dead, .dead, .dead, .dead, .dead, .dead, .dead, .dead, .dead, .dead, .dead, .dead]⟩) (fun t => 2 - t.1)
      ⟨0, by omega⟩ (Le_of (by simp [leE]) (by simp)) fun t => ?_)
    obtain ⟨k, hk⟩ := t
    dsimp only
    by_cases hkt : k < 2
    · have hktI : (k : Int) < 2 := by omega
      have hl4 := hle (2 * i + k)
      have hsuc := hsu (2 * i + k) (by omega)
      have ho := hold (prs.getD (2 * i + k) (0, 0))
      rw [hone3 k hkt] at hsuc ho
      obtain ⟨two, htwo, htw2⟩ := two_at hlt hkt
      rw [htw2] at hsuc ho
      have hsa1 := hsa (decide (one < 0))
      have hsb1 := hsb (decide (two < 0))
      have htg1 := htg (decide (one < 0)) (decide (two < 0))
      clear hsa hsb htg hsu hold hone3 htw2
      generalize together _ _ = tg at *
      generalize T (prs.getD (2 * i + k) (0, 0)) = tk at *
      subst ho
      refine W_seq ?_
      ((refine W_regV fun K hK => ?_); simp (disch := omega) only [Int.reduceNeg, regV_cons, effW_free, opF_binOp, ty3, ev_tmp, List.getD_cons_succ, List.getD_cons_zero, ev_const, cst_int, binW_lss, hktI, decide_true, valK_ap, atK_ap, restV_ap, Eff.app, List.set, Eff.wi, Option.map_none, List.nil_append, regV_nil, sepL, List.not_mem_nil, false_implies, implies_true, true_and])
      (refine hK _ ?_; clear hK K)
      (first | refine W_cond rfl (fun _ => ?_) (fun h => by cases h) | refine W_seq (W_cond rfl (fun _ => ?_) (fun h => by cases h)))
      refine W_skip ?_
      simp only [thenW]
      refine W_seq ?_
      refine W_block ?_
      ((refine W_seqV fun K hK => ?_); simp (disch := omega) only [Int.reduceNeg, regV_cons, effW_free, opF_index, ty44, ev_tmp, List.getD_cons_succ, List.getD_cons_zero, indexW_arr, ty3, ne_eq, reduceCtorEq, not_false_eq_true, TI.isAgg, Bool.false_eq_true, or_true, nat_nonneg, Int.cast_ofNat_Int, toNat_natCast, Nat.mul_one, List.length_cons, List.length_nil, Nat.zero_add, Nat.reduceAdd, Nat.reduceLeDiff, ofCells, htwo, List.headD_cons, if_false, valK_ap, atK_ap, restV_ap, Eff.app, List.set, Eff.wi, Option.map_none, List.nil_append, opF_assign, List.cons_append, regV_nil, sepL, List.not_mem_nil, false_implies, implies_true, true_and])
      ((repeat refine And.intro (by omega) ?_); refine hK _ ?_; clear hK K)
      simp only [At.cells]
      ((refine W_seqD mixed [] (by kernel_rfl) fun K hK => ?_); simp (disch := omega) only [Int.reduceNeg, regV_cons, effW_free, opF_load, ty31, ne_eq, reduceCtorEq, not_false_eq_true, TI.isAgg, true_or, ev_tmp, List.getD_cons_succ, List.getD_cons_zero, objOf, loadW_ptr, loadO_arr, List.length_cons, List.length_nil, Nat.zero_add, Nat.reduceLT, Nat.reduceAdd, Nat.reduceLeDiff, ofCells, List.drop_zero, List.take_succ_cons, List.take_zero, List.headD_cons, if_true, valK_ap, atK_ap, restV_ap, Eff.app, List.set, Eff.wi, Option.map_none, List.nil_append, opF_move, List.cons_append, opF_binOp, ty3, ev_const, cst_int, binW_lss, opF_call, ev_func, List.map_cons, List.map_nil, callF_fn, List.append_nil, opF_unOp, true_and])
      (refine ⟨by kernel_rfl, rfl, _, hsa1, ?_⟩)
      (refine ⟨by kernel_rfl, rfl, _, hsb1, ?_⟩)
      (refine ⟨by kernel_rfl, rfl, _, htg1, ?_⟩; (try simp (disch := omega) only [Int.reduceNeg, unW_not, valK_ap, atK_ap, restV_ap, Eff.app, List.set, Eff.wi, Option.map_none, List.cons_append, List.nil_append, regV_nil, sepL, List.not_mem_nil, false_implies, implies_true, true_and]))
      (refine hK _ ?_; clear hK K)
      cases tg
      · simp only [Bool.not_false, if_true] at hsuc
        have hl5 := congrArg List.length hsuc
        simp only [List.length_append, List.length_cons, List.length_nil] at hl5
        (first | refine W_cond rfl (fun _ => ?_) (fun h => by cases h) | refine W_seq (W_cond rfl (fun _ => ?_) (fun h => by cases h)))
        ((refine W_regT 5 fun K hK => ?_); simp (disch := omega) only [List.take_succ_cons, List.take_zero, Int.reduceNeg, Bool.not_false, List.drop_succ_cons, List.drop_zero, regV_cons, effW_free, opF_move, ev_tmp, List.getD_cons_succ, List.getD_cons_zero, atK_ap, restV_ap, Eff.app, List.set, Eff.wi, Option.map_none, List.nil_append, List.cons_append, opF_buildSlice, ty40, List.map_cons, List.map_nil, litD_slice, dead, List.getElem?_cons_succ, List.getElem?_cons_zero, ty3, ne_eq, reduceCtorEq, not_false_eq_true, List.length_cons, List.length_nil, Nat.zero_add, range2, Nat.reduceMul, Nat.reduceLeDiff, storable, AV.one, cellsOf, List.forall_mem_cons, true_and, List.not_mem_nil, false_implies, implies_true, and_true, valK_ap, ty37, range1, regV_nil, sepL, thenO_ap, opsW_free, opW_append, appendW_eq, rowsOf, appR_sref, appO_arr, true_or, tab_length, kills_cons, kill_any, kill_ptr, kill_sref, if_true, kill_int, kill_agg, kills_nil, kill_bool, kill_str, kill_sl, kill_dead, kill_arrf, kill_arr, retK2_ap, St.ret, restO_ap, opW_assign, opsW_nil])
        ((repeat (refine And.intro (by first | omega | (show AV.pures _ = true; rfl) | exact ⟨rfl, rfl⟩ | exact allLen_lit rfl | exact allOne_lit rfl) ?_)); refine hK _ ?_; clear hK K)
        simp only [thenW, blockW]
        ((refine W_regV fun K hK => ?_); simp (disch := omega) only [Int.reduceNeg, regV_cons, effW_free, opF_binOp, ty3, ev_tmp, List.getD_cons_succ, List.getD_cons_zero, ev_const, cst_int, binW_add, wrap_i64_one, valK_ap, atK_ap, restV_ap, Eff.app, List.set, Eff.wi, Option.map_none, List.nil_append, opF_move, List.cons_append, regV_nil, sepL, List.not_mem_nil, false_implies, implies_true, true_and])
        (refine hK _ ?_; clear hK K)
        simp only [thenW, blockW]
        refine ⟨⟨k + 1, by omega⟩, Le_drop (by simp [leE, ← Nat.add_assoc, hl5]) (by simp [leH, ← Nat.add_assoc, hsuc, ← tab_snoc, rowC, At.cells, i64s, tab_take, List.take_length]) rfl rfl, ?_⟩
        dsimp only
        omega
      · simp only [Bool.not_true, Bool.false_eq_true, if_false, List.append_nil] at hsuc
        (first | refine W_cond rfl (fun h => by cases h) (fun _ => ?_) | refine W_seq (W_cond rfl (fun h => by cases h) (fun _ => ?_)))
        refine W_skip ?_
        simp only [thenW, blockW]
        ((refine W_regV fun K hK => ?_); simp (disch := omega) only [Int.reduceNeg, Bool.not_true, regV_cons, effW_free, opF_binOp, ty3, ev_tmp, List.getD_cons_succ, List.getD_cons_zero, ev_const, cst_int, binW_add, wrap_i64_one, valK_ap, atK_ap, restV_ap, Eff.app, List.set, Eff.wi, Option.map_none, List.nil_append, opF_move, List.cons_append, regV_nil, sepL, List.not_mem_nil, false_implies, implies_true, true_and])
        (refine hK _ ?_; clear hK K)
        simp only [thenW, blockW]
        refine ⟨⟨k + 1, by omega⟩, Le_drop (by simp [leE, ← Nat.add_assoc, hsuc]) (by simp [leH, ← Nat.add_assoc, hsuc, At.cells]) rfl rfl, ?_⟩
        dsimp only
        omega
    · obtain rfl : k = 2 := by omega
      refine W_seq ?_
      ((refine W_regV fun K hK => ?_); simp (disch := omega) only [Int.reduceNeg, Int.cast_ofNat_Int, regV_cons, effW_free, opF_binOp, ty3, ev_tmp, List.getD_cons_succ, List.getD_cons_zero, ev_const, cst_int, binW_lss, Int.lt_irrefl, decide_false, valK_ap, atK_ap, restV_ap, Eff.app, List.set, Eff.wi, Option.map_none, List.nil_append, regV_nil, sepL, List.not_mem_nil, false_implies, implies_true, true_and])
      (refine hK _ ?_; clear hK K)
      (first | refine W_cond rfl (fun h => by cases h) (fun _ => ?_) | refine W_seq (W_cond rfl (fun h => by cases h) (fun _ => ?_)))
      refine W_exit ?_
      simp only [thenW, blockW, if_true]
      ((refine W_regV fun K hK => ?_); simp (disch := omega) only [Int.reduceNeg, regV_cons, effW_free, opF_binOp, ty3, ev_tmp, List.getD_cons_succ, List.getD_cons_zero, ev_const, cst_int, binW_add, wrap_i64_one, valK_ap, atK_ap, restV_ap, Eff.app, List.set, Eff.wi, Option.map_none, List.nil_append, opF_move, List.cons_append, regV_nil, sepL, List.not_mem_nil, false_implies, implies_true, true_and])
      (refine hK _ ?_; clear hK K)
      simp only [thenW, blockW]
      refine ⟨⟨i + 1, by omega⟩, Le_drop (by simp [leE, Nat.mul_add]) (by simp [leH, Nat.mul_add]) rfl rfl, ?_⟩
      dsimp only
      omega
  · obtain rfl : i = 2 := by omega
    refine W_seq ?_
    ((refine W_regV fun K hK => ?_); simp (disch := omega) only [Nat.reduceMul, Int.reduceNeg, Int.cast_ofNat_Int, regV_cons, effW_free, opF_binOp, ty3, ev_tmp, List.getD_cons_succ, List.getD_cons_zero, ev_const, cst_int, binW_lss, Int.lt_irrefl, decide_false, valK_ap, atK_ap, restV_ap, Eff.app, List.set, Eff.wi, Option.map_none, List.nil_append, regV_nil, sepL, List.not_mem_nil, false_implies, implies_true, true_and])
    (refine hK _ ?_; clear hK K)
    (first | refine W_cond rfl (fun h => by cases h) (fun _ => ?_) | refine W_seq (W_cond rfl (fun h => by cases h) (fun _ => ?_)))
    refine W_exit ?_
    simp only [thenW, blockW, if_true]
    ((refine W_seqV fun K hK => ?_); simp (disch := omega) only [Int.reduceNeg, regV_cons, effW_free, opF_move, ev_tmp, List.getD_cons_succ, List.getD_cons_zero, atK_ap, restV_ap, Eff.app, List.set, Eff.wi, Option.map_none, List.nil_append, opF_assign, List.cons_append, regV_nil, sepL, List.not_mem_nil, false_implies, implies_true, true_and])
    (refine hK _ ?_; clear hK K)
    refine W_ret ?_
    simp (disch := omega) only [newQ, resW, resV, newK, List.getD_cons_succ, List.getD_cons_zero, asOne_one]
    exact ⟨tab rowC (R 4), by simp, by simp [tab_length], rfl, rfl⟩
end Go.Proofs.Ytjkjapjcmbfkgaa.Vm

/-
  Atoms' truth: plain laws.
-/
namespace Go.Proofs.Ytjkjapjcmbfkgaa.Vm
open Go Go.RowKit
set_option linter.unusedVariables false
set_option linter.unusedSimpArgs false

/-- Values of the variables out of a list; 0 beyond it. -/
def asg (xs : List Rat) (v : Int) : Rat := if 0 ≤ v then xs.getD v.toNat 0 else 0
def nbl : List Rat → Nat
  | [] => 0
  | x :: xs => nb x + nbl xs
theorem nbl_drop (xs : List Rat) {a k : Nat} (h : a ≤ k) : nbl (xs.drop k) ≤ nbl (xs.drop a) := by
  induction k with
  | zero => rw [show a = 0 by omega]; exact Nat.le_refl _
  | succ k ih =>
    by_cases hk : a = k + 1
    · subst hk; exact Nat.le_refl _
    · refine Nat.le_trans ?_ (ih (by omega))
      by_cases hl : k < xs.length
      · rw [List.drop_eq_getElem_cons hl, nbl]; omega
      · rw [List.drop_eq_nil_of_le (show xs.length ≤ k by omega), List.drop_eq_nil_of_le (by omega)]
        exact Nat.le_refl _
theorem nbl_at (xs : List Rat) {a k : Nat} (h : a ≤ k) (hk : k < xs.length) : nb (xs.getD k 0) + nbl (xs.drop (k + 1)) ≤ nbl (xs.drop a) := by
  refine Nat.le_trans ?_ (nbl_drop xs h)
  rw [List.drop_eq_getElem_cons hk, nbl]
  simp [List.getD_eq_getElem?_getD, hk]
/-- How long the values of a normal form's variables are together. -/
def nbx (x : Int → Rat) : List (Int × Rat) → Nat
  | [] => 0
  | p :: l => nb (x p.1) + nbx x l
theorem nbx_le (xs : List Rat) : ∀ (l : List (Int × Rat)) (a : Nat), NF l → (∀ p ∈ l, 0 ≤ p.1 → (a : Int) ≤ p.1) → nbx (asg xs) l ≤ l.length + nbl (xs.drop a)
  | [], a, _, _ => by simp [nbx]
  | p :: l, a, h, ha => by
    simp only [nbx, List.length_cons]
    by_cases hp : 0 ≤ p.1 ∧ p.1.toNat < xs.length
    · have h1 := ha p List.mem_cons_self hp.1
      have h2 := nbl_at xs (a := a) (k := p.1.toNat) (by omega) hp.2
      have h3 := nbx_le xs l (p.1.toNat + 1) h.tail fun q hq _ => by have := h.head q hq; omega
      have h4 : asg xs p.1 = xs.getD p.1.toNat 0 := if_pos hp.1
      rw [h4]
      omega
    · have h4 : asg xs p.1 = 0 := by
        unfold asg
        split
        · rename_i h0
          have : ¬ p.1.toNat < xs.length := fun h => hp ⟨h0, h⟩
          rw [List.getD_eq_getElem?_getD, List.getElem?_eq_none (by omega)]
          rfl
        · rfl
      have h3 := nbx_le xs l a h.tail fun q hq h0 => ha q (List.mem_cons_of_mem _ hq) h0
      rw [h4, nb_zero]
      omega
theorem nb_ev2 (x : Int → Rat) : ∀ l : List (Int × Rat), nb (ev2 x l) ≤ 1 + nbs l + nbx x l
  | [] => by simp [ev2, nb_zero, nbs, nbx]
  | p :: l => by
    have h1 := nb_add (p.2 * x p.1) (ev2 x l)
    have h2 := nb_mul p.2 (x p.1)
    have h3 := nb_ev2 x l
    simp only [ev2, nbs, nbx]
    omega
/-- A form's value is no longer than its numbers and the values together. -/
theorem nb_value (xs : List Rat) (f : List (Int × Rat)) : nb (ev2 (asg xs) f) ≤ 1 + 2 * nbs f + nbl xs := by
  rw [← ev2_norm]
  have h1 := nb_ev2 (asg xs) (normF f)
  have h2 := nbx_le xs (normF f) 0 (NF.norm f) fun p _ h => by simpa using h
  rw [List.drop_zero] at h2
  have h3 := nbs_norm f
  have h4 := nbs_len (normF f)
  omega
theorem nb_asg (xs : List Rat) (v : Int) : nb (asg xs v) ≤ 1 + nbl xs := by
  unfold asg
  split
  · by_cases h : v.toNat < xs.length
    · have := nbl_at xs (a := 0) (k := v.toNat) (by omega) h
      rw [List.drop_zero] at this
      omega
    · rw [List.getD_eq_getElem?_getD, List.getElem?_eq_none (by omega)]
      show nb 0 ≤ _
      rw [nb_zero]; omega
  · rw [nb_zero]; omega

/-! ### signs -/
theorem num_pos {q : Rat} : 0 < q.num ↔ 0 < q := by
  rw [Rat.lt_iff]; simp
theorem num_neg {q : Rat} : q.num < 0 ↔ q < 0 := by
  rw [Rat.lt_iff]; simp
theorem rs_pos {q : Rat} : 0 < rs q ↔ 0 < q := by unfold rs; rw [Int.sign_pos_iff, num_pos]
theorem rs_neg {q : Rat} : rs q < 0 ↔ q < 0 := by unfold rs; rw [Int.sign_neg_iff, num_neg]
theorem rs_zero {q : Rat} : rs q = 0 ↔ q = 0 := by unfold rs; rw [Int.sign_eq_zero_iff_zero, Rat.num_eq_zero]

theorem toList_loop (b : ByteArray) : ∀ (k i : Nat) (r : List UInt8), b.size - i = k → (ByteArray.toList.loop b i r).length = r.length + k := by
  intro k
  induction k with
  | zero =>
    intro i r h
    unfold ByteArray.toList.loop
    rw [if_neg (by omega)]
    simp
  | succ k ih =>
    intro i r h
    unfold ByteArray.toList.loop
    rw [if_pos (by omega), ih (i + 1) _ (by omega)]
    simp
    omega
theorem toList_len (b : ByteArray) : b.toList.length = b.size := by
  have := toList_loop b b.size 0 [] (by omega)
  show (ByteArray.toList.loop b 0 []).length = b.size
  simpa using this
theorem named_size (b : ByteArray) : decide (0 < b.size) = named b := by
  unfold named
  have h1 : (ByteArray.mk #[]).toList = [] := List.eq_nil_of_length_eq_zero (by rw [toList_len]; rfl)
  rw [h1]
  have h2 := toList_len b
  cases hb : b.toList with
  | nil => rw [hb] at h2; simp at h2; simp [← h2]
  | cons x l => rw [hb] at h2; simp at h2; simp [← h2]

/-! ### truth -/
def inN (names : List ByteArray) (n : ByteArray) : Bool := names.any fun m => m.toList == n.toList
/-- What an atom says, so or not. -/
def truth (a : At) (xs : List Rat) (names : List ByteArray) : Bool :=
  if named a.name = true then inN names a.name
  else decide (rs (ev2 (asg xs) (vals a.form) - a.bound.v) < 0) || (rs (ev2 (asg xs) (vals a.form) - a.bound.v) == 0 && !a.strict)
/-- What a literal says, so or not. -/
def Half.so (h : Half) (xs : List Rat) (names : List ByteArray) : Bool :=
  if named h.name = true then inN names h.name == h.truth
  else if h.shape = [] then h.truth
  else if h.down = true then decide (ev2 (asg xs) h.shape < h.at_.v) || (decide (ev2 (asg xs) h.shape = h.at_.v) && !h.strict)
  else decide (h.at_.v < ev2 (asg xs) h.shape) || (decide (ev2 (asg xs) h.shape = h.at_.v) && !h.strict)
theorem named_nil : named (ByteArray.mk #[]) = false := by simp [named]
theorem sub_lt {a b : Rat} : a - b < 0 ↔ a < b := by grind
theorem sub_eq {a b : Rat} : a - b = 0 ↔ a = b := by grind
/-- Scaled by a number above 0, or below. -/
theorem scale_lt {c y b : Rat} (hc : 0 < c) : c * y < b ↔ y < b / c := by
  rw [Rat.lt_div_iff hc, Rat.mul_comm]
theorem scale_eq {c y b : Rat} (hc : c ≠ 0) : c * y = b ↔ y = b / c := by
  constructor
  · rintro rfl; rw [Rat.mul_comm, Rat.mul_div_cancel hc]
  · rintro rfl; rw [Rat.mul_comm, Rat.div_mul_cancel hc]
theorem scale_gt {c y b : Rat} (hc : c < 0) : c * y < b ↔ b / c < y := by
  have h1 : 0 < -c := by grind
  have h2 := scale_lt (c := -c) (y := -y) (b := b) h1
  rw [show -c * -y = c * y by grind] at h2
  rw [h2, Rat.div_def, Rat.div_def, show (-c)⁻¹ = -c⁻¹ by
    refine Rat.inv_eq_of_mul_eq_one ?_
    rw [show -c * -c⁻¹ = c * c⁻¹ by grind]
    exact Rat.mul_inv_cancel c (by grind)]
  grind
theorem primeF_nil {p : Int × Rat} {l : List (Int × Rat)} : primeF (p :: l) ≠ [] := by simp [primeF, scaleF]
theorem ev2_prime (x : Int → Rat) {l : List (Int × Rat)} (h : NF l) : ev2 x l = primeC l * ev2 x (primeF l) := by
  rw [← ev2_scale, primeF_scale h]

theorem says_so (a : At) (sign : Bool) (xs : List Rat) (names : List ByteArray) : (saysH a sign).so xs names = (truth a xs names == sign) := by
  have hNF := NF.norm (vals a.form)
  have hev := ev2_norm (asg xs) (vals a.form)
  unfold saysH truth
  by_cases hn : named a.name = true
  · simp only [hn, if_true, Half.so]
  · simp only [hn, Bool.false_eq_true, if_false]
    cases hl : normF (vals a.form) with
    | nil =>
      rw [hl] at hev
      simp only [Half.so, named_nil, Bool.false_eq_true, if_false, if_true]
      have hv0 : ev2 (asg xs) (vals a.form) = 0 := by rw [← hev]; rfl
      rw [hv0]
      have e1 : rs (0 - a.bound.v) < 0 ↔ 0 < rs a.bound.v := by rw [rs_neg, rs_pos]; grind
      have e2 : rs (0 - a.bound.v) = 0 ↔ rs a.bound.v = 0 := by rw [rs_zero, rs_zero]; grind
      rw [show decide (rs (0 - a.bound.v) < 0) = decide (0 < rs a.bound.v) from decide_eq_decide.2 e1, show (rs (0 - a.bound.v) == 0) = (rs a.bound.v == 0) by rw [Bool.eq_iff_iff, beq_iff_eq, beq_iff_eq]; exact e2]
    | cons p l =>
      rw [hl] at hev hNF
      have hc := primeC_ne hNF
      have hp := ev2_prime (asg xs) hNF
      simp only [Half.so, named_nil, Bool.false_eq_true, if_false, primeF_nil, qr_v]
      rw [← hev, hp]
      generalize primeC (p :: l) = c at *
      generalize ev2 (asg xs) (primeF (p :: l)) = y at *
      generalize a.bound.v = b at *
      have e1 : rs (c * y - b) < 0 ↔ c * y < b := by rw [rs_neg]; exact sub_lt
      have e2 : rs (c * y - b) = 0 ↔ y = b / c := by rw [rs_zero, sub_eq]; exact scale_eq hc
      rw [show decide (rs (c * y - b) < 0) = decide (c * y < b) from decide_eq_decide.2 e1, show (rs (c * y - b) == 0) = decide (y = b / c) by rw [Bool.eq_iff_iff, beq_iff_eq, decide_eq_true_eq]; exact e2]
      by_cases hcp : 0 < c
      · have e3 : decide (0 < rs c) = true := decide_eq_true (rs_pos.2 hcp)
        rw [e3, show decide (c * y < b) = decide (y < b / c) from decide_eq_decide.2 (scale_lt hcp)]
        generalize b / c = d at *
        rcases (show y < d ∨ y = d ∨ d < y by grind) with h | h | h
        · have h2 : ¬ d < y := by grind
          have h3 : ¬ y = d := by grind
          cases sign <;> cases a.strict <;> simp [h, h2, h3]
        · subst h
          have h2 : ¬ y < y := by grind
          cases sign <;> cases a.strict <;> simp [h2]
        · have h2 : ¬ y < d := by grind
          have h3 : ¬ y = d := by grind
          cases sign <;> cases a.strict <;> simp [h, h2, h3]
      · have hcn : c < 0 := by grind
        have e3 : decide (0 < rs c) = false := decide_eq_false (fun h => hcp (rs_pos.1 h))
        rw [e3, show decide (c * y < b) = decide (b / c < y) from decide_eq_decide.2 (scale_gt hcn)]
        generalize b / c = d at *
        rcases (show y < d ∨ y = d ∨ d < y by grind) with h | h | h
        · have h2 : ¬ d < y := by grind
          have h3 : ¬ y = d := by grind
          cases sign <;> cases a.strict <;> simp [h, h2, h3]
        · subst h
          have h2 : ¬ y < y := by grind
          cases sign <;> cases a.strict <;> simp [h2]
        · have h2 : ¬ y < d := by grind
          have h3 : ¬ y = d := by grind
          cases sign <;> cases a.strict <;> simp [h, h2, h3]

/-! ### two at once -/
theorem cmpF_self (f : List (Int × Rat)) : cmpF f f = 0 := by
  have h : subF f f = [] := NF.ext (NF.sub f f) NF.nil fun v => by rw [coef_sub, coef]; grind
  unfold cmpF
  rw [h]
theorem cmpF_zero {f g : List (Int × Rat)} (hf : NF f) (hg : NF g) (h : cmpF f g = 0) : f = g := by
  have h2 := NF.sub f g
  have h3 := coef_sub f g
  unfold cmpF at h
  cases hs : subF f g with
  | nil =>
    refine NF.ext hf hg fun v => ?_
    have := h3 v
    rw [hs] at this
    simp only [coef] at this
    grind
  | cons p l =>
    rw [hs] at h h2
    exact absurd (Rat.num_eq_zero.1 (Int.sign_eq_zero_iff_zero.1 h)) (h2.nz p List.mem_cons_self)
structure Half.fit (h : Half) : Prop where
  nf : NF h.shape
  up : h.shape = [] → h.down = false
theorem says_fit (a : At) (sign : Bool) : (saysH a sign).fit := by
  have hNF := NF.norm (vals a.form)
  unfold saysH
  split
  · exact ⟨NF.nil, fun _ => rfl⟩
  · split
    · exact ⟨NF.nil, fun _ => rfl⟩
    · rename_i p l hl
      rw [hl] at hNF
      exact ⟨hNF.prime, fun h => absurd h primeF_nil⟩
theorem so_alone {h : Half} {xs : List Rat} {names : List ByteArray} (hs : h.so xs names = true) : h.alone = true := by
  unfold Half.alone
  unfold Half.so at hs
  split at hs
  · rename_i h; simp [h]
  · split at hs
    · simp [hs]
    · rename_i h; have := List.length_pos_iff.2 h; simp [this]
/-- Halves that cannot be together are not both so. -/
theorem together_so {a b : Half} {xs : List Rat} {names : List ByteArray} (fa : a.fit) (fb : b.fit) (ha : a.so xs names = true) (hb : b.so xs names = true) : together a b = true := by
  unfold together
  simp only [so_alone ha, so_alone hb, Bool.not_true, Bool.or_self, Bool.false_eq_true, if_false]
  split
  · rename_i hn
    rw [Bool.or_eq_true]
    by_cases he : a.name.toList = b.name.toList
    · right
      have hab : named a.name = named b.name := by unfold named; rw [he]
      rw [hab, Bool.or_self] at hn
      unfold Half.so at ha hb
      rw [if_pos (hab.trans hn)] at ha
      rw [if_pos hn] at hb
      have hi : inN names a.name = inN names b.name := by unfold inN; rw [he]
      rw [hi] at ha
      rw [beq_iff_eq] at ha hb
      rw [← ha, ← hb]
      simp
    · left
      simpa using he
  · rename_i hn
    simp only [Bool.not_eq_true, Bool.or_eq_false_iff] at hn
    split
    · rfl
    · rename_i hc
      simp only [Bool.not_eq_true, Bool.or_eq_false_iff, bne_eq_false_iff_eq, beq_eq_false_iff_ne] at hc
      have hab := cmpF_zero fa.nf fb.nf hc.1
      have hne : a.shape ≠ [] := by
        intro h0
        exact hc.2 ((fa.up h0).trans (fb.up (hab ▸ h0)).symm)
      unfold Half.so at ha hb
      rw [← hab] at hb
      simp only [hn.1, hn.2, Bool.false_eq_true, if_false, hne] at ha hb
      obtain ⟨_, s, _, d, st, r⟩ := a
      obtain ⟨_, s', _, d', st', r'⟩ := b
      dsimp only at *
      generalize ev2 (asg xs) s = y at *
      generalize r.v = p at *
      generalize r'.v = q at *
      have e1 : rs (p - q) < 0 ↔ p < q := by rw [rs_neg]; exact sub_lt
      have e2 : 0 < rs (p - q) ↔ q < p := by rw [rs_pos]; grind
      have e3 : rs (p - q) = 0 ↔ p = q := by rw [rs_zero]; exact sub_eq
      generalize rs (p - q) = t at *
      have e4 : -t < 0 ↔ q < p := by rw [← e2]; omega
      have e5 : -t = 0 ↔ p = q := by rw [← e3]; omega
      cases d <;> cases d' <;> simp at hc ha hb ⊢
      · rcases ha with ha | ha <;> rcases hb with hb | hb
        · exact .inl (e1.2 (by grind))
        · exact .inl (e1.2 (by grind))
        · exact .inl (e1.2 (by grind))
        · exact .inr ⟨⟨e3.2 (by grind), ha.2⟩, hb.2⟩
      · rcases ha with ha | ha <;> rcases hb with hb | hb
        · exact .inl (e2.2 (by grind))
        · exact .inl (e2.2 (by grind))
        · exact .inl (e2.2 (by grind))
        · exact .inr ⟨⟨e3.2 (by grind), ha.2⟩, hb.2⟩
/-- An atom and its opposite cannot be together. -/
theorem together_not (a : At) (s : Bool) : together (saysH a s) (saysH a !s) = false := by
  unfold together
  by_cases hn : named a.name = true
  · unfold saysH
    simp only [hn, if_true, Half.alone, Bool.true_or, Bool.not_true, Bool.or_self, Bool.false_eq_true, if_false]
    cases s <;> simp
  · unfold saysH
    simp only [hn, Bool.false_eq_true, if_false]
    cases normF (vals a.form) with
    | nil =>
      simp only [Half.alone, named_nil, Bool.false_or, List.length_nil]
      generalize (decide (0 < rs a.bound.v) || (rs a.bound.v == 0 && !a.strict)) = t
      cases t <;> cases s <;> rfl
    | cons p l =>
      have h1 : decide (0 < (primeF (p :: l)).length) = true := by simp [primeF, scaleF]
      simp only [Half.alone, named_nil, Bool.false_or, h1, Bool.true_or, Bool.not_true, Bool.or_self, Bool.false_eq_true, if_false, cmpF_self]
      have h2 : (qr (a.bound.v / primeC (p :: l))).v - (qr (a.bound.v / primeC (p :: l))).v = 0 := by grind
      rw [h2]
      have h3 : rs 0 = 0 := rfl
      rw [h3]
      cases s <;> cases a.strict <;> simp
theorem relT_all (a b : At) : relT a b 4 = (prs.filter (holds2 a b)).map fun p => [p.1, p.2] := rfl
theorem relT_two (a : At) : 2 ≤ (relT a a 4).length := by
  have h1 : holds2 a a (1, -2) = true := by
    unfold holds2
    rw [show decide ((-2 : Int) < 0) = !decide ((1 : Int) < 0) from rfl, together_not]; rfl
  have h2 : holds2 a a (-1, 2) = true := by
    unfold holds2
    rw [show decide ((2 : Int) < 0) = !decide ((-1 : Int) < 0) from rfl, together_not]; rfl
  rw [relT_all, List.length_map]
  unfold prs
  simp only [List.filter_cons, h1, h2, if_true, List.filter_nil]
  split <;> split <;> simp
/-- Every clause holds. -/
theorem rel_holds {a b : At} {p : Int × Int} (hp : p ∈ prs) (h : holds2 a b p = true) (xs : List Rat) (names : List ByteArray) :
    ((decide (p.1 = 1)) == truth a xs names) = true ∨ ((decide (p.2 = 2)) == truth b xs names) = true := by
  unfold holds2 at h
  have h1 := says_so a (decide (p.1 < 0)) xs names
  have h2 := says_so b (decide (p.2 < 0)) xs names
  generalize truth a xs names = s at *
  generalize truth b xs names = t at *
  have h3 := @together_so _ _ xs names (says_fit a (decide (p.1 < 0))) (says_fit b (decide (p.2 < 0)))
  generalize together _ _ = w at *
  rw [h1, h2] at h3
  simp only [prs, List.mem_cons, List.not_mem_nil, or_false] at hp
  rcases hp with rfl | rfl | rfl | rfl <;> cases s <;> cases t <;> simp_all
end Go.Proofs.Ytjkjapjcmbfkgaa.Vm

/-
  The reference's natural numbers: Norm, at, Cmp, Of.
-/
namespace Go.Proofs.Ytjkjapjcmbfkgaa.Vm
open Go Go.RowKit
set_option linter.unusedVariables false
set_option linter.unusedSimpArgs false
set_option pp.deepTerms false
set_option pp.deepTerms.threshold 8

set_option maxHeartbeats 2000000 in
theorem fnorm_new0 (l : List Nat) (hl : l.length < 1099511627776) : New Try.prog 45 [cNat l] 79 1 (· = u32s (trim l)) := by
  have hcl := cutLen_le l l.length
  (refine new_of_W (T := 79) (k := 1) Try.func45 rfl (rs := [Go.ResultVar.tmp 2]) rfl (nt := 35) rfl ?_; simp only [List.length_cons, List.length_nil, List.replicate, List.cons_append, List.nil_append])
  unfold cNat
  (repeat (refine W_seqV fun K hK => ?_; (try simp (disch := omega) only [regV_cons, effW_free, opF_assign, ev_const, cst_nils, atK_ap, restV_ap, Eff.app, List.set, Eff.wi, Option.map_none, List.nil_append, regV_nil, sepL, List.not_mem_nil, false_implies, implies_true, true_and, opF_move, ev_tmp, List.getD_cons_zero, opF_len, ty25, List.getD_cons_succ, lenW_sl, u32s_length, valK_ap, List.cons_append]); refine hK _ ?_; clear hK K))
  refine W_join (fun s' => Le [] s' ⟨[.sl (u32s l), .any, .nils, .int .i64 (cutLen l l.length), .any, .any, .any, .any, .any, .any, .any, .any, .any, .any, .any, .any, .any, .any, .any, .any, .any, .any, .any, .any, .any, .any, .any, .any, .any, .any, .any, .any, .any, .any, .any], [.dead, .dead, .dead, .dead, .dead, .dead, .dead, .dead, .dead, .dead, .dead, .dead, .dead, .dead, .dead, .dead, .dead, .dead, .dead, .dead, .dead, .dead, .dead, .dead, .dead, .dead, .dead, .dead, .dead, .dead, .dead, .dead, .dead, .dead, .dead]⟩) ?_ ?_
  · refine W_block (W_loop (fun n : {n : Nat // n ≤ l.length ∧ cutLen l n = cutLen l l.length} => ⟨[.sl (u32s l), .any, .nils, .int .i64 n.1, .any, .any, .any, .any, .any, .any, .any, .any, .any, .any, .any, .any, .any, .any, .any, .any, .any, .any, .any, .any, .any, .any, .any, .any, .any, .any, .any, .any, .any, .any, .any], [.dead, .dead, .dead, .dead, .dead, .dead, .dead, .dead, .dead, .dead, .dead, .dead, .dead, .dead, .dead, .dead, .dead, .dead, .dead, .dead, .dead, .dead, .dead, .dead, .dead, .dead, .dead, .dead, .dead, .dead, .dead, .dead, .dead, .dead, .dead]⟩) (fun n => n.1) ⟨l.length, Nat.le_refl _, rfl⟩ (Le_of (by simp [leE]) rfl) fun n => ?_)
    obtain ⟨n, hn, hc⟩ := n
    refine W_seq ?_
    dsimp only
    rcases Nat.eq_zero_or_pos n with rfl | hpos
    · ((refine W_seqV fun K hK => ?_); simp (disch := omega) only [Int.cast_ofNat_Int, regV_cons, effW_free, opF_move, ev_tmp, List.getD_cons_succ, List.getD_cons_zero, atK_ap, restV_ap, Eff.app, List.set, Eff.wi, Option.map_none, List.nil_append, opF_binOp, ty3, ev_const, cst_int, binW_gtr, gt_iff_lt, Int.lt_irrefl, decide_false, valK_ap, List.cons_append, effW_guard, guardOf, List.getElem?_toArray, List.getElem?_cons_succ, List.getElem?_cons_zero, Option.bind_some, effH_tf, opF_pick, cst_bool, pickW_no, regV_nil, sepL, List.not_mem_nil, false_implies, implies_true, true_and])
      (refine hK _ ?_; clear hK K)
      (first | refine W_cond rfl (fun h => by cases h) (fun _ => ?_) | refine W_seq (W_cond rfl (fun h => by cases h) (fun _ => ?_)))
      refine W_exit ?_
      simp only [thenW, blockW, if_true]
      rw [← hc]
      exact Le_of (by simp [leE, cutLen]) rfl
    · ((refine W_seqV fun K hK => ?_); simp (disch := omega) only [regV_cons, effW_free, opF_move, ev_tmp, List.getD_cons_succ, List.getD_cons_zero, atK_ap, restV_ap, Eff.app, List.set, Eff.wi, Option.map_none, List.nil_append, opF_binOp, ty3, ev_const, cst_int, binW_gtr, gt_iff_lt, Int.natCast_pos, hpos, decide_true, valK_ap, List.cons_append, effW_guard, guardOf, List.getElem?_toArray, List.getElem?_cons_succ, List.getElem?_cons_zero, Option.bind_some, effH_tt, binW_sub, wrap_i64_pred, opF_indexAddr, ty25, objOf, indexAddrW_sl, ty79, ne_eq, reduceCtorEq, not_false_eq_true, nat_nonneg, u32s_length, nat_lt_int, u32s_all, toNat_natCast, u32s_getD, opF_load, TI.isAgg, Bool.false_eq_true, or_true, loadW_ia, Nat.zero_add, List.length_cons, List.length_nil, Nat.reduceLeDiff, ofCells, List.drop_zero, List.take_succ_cons, List.take_zero, List.headD_cons, if_false, binW_eql, opF_pick, cst_bool, pickW_bool, cond_true, regV_nil, sepL, List.not_mem_nil, false_implies, implies_true, true_and])
      ((repeat refine And.intro (by omega) ?_); refine hK _ ?_; clear hK K)
      refine W_cond rfl (fun h => ?_) (fun h => ?_)
      · refine W_skip ?_
        simp only [thenW]
        refine W_block ?_
        ((refine W_regV fun K hK => ?_); simp (disch := omega) only [regV_cons, effW_free, opF_move, ev_tmp, List.getD_cons_succ, List.getD_cons_zero, atK_ap, restV_ap, Eff.app, List.set, Eff.wi, Option.map_none, List.nil_append, opF_binOp, ty3, ev_const, cst_int, binW_sub, wrap_i64_pred, valK_ap, List.cons_append, opF_assign, regV_nil, sepL, List.not_mem_nil, false_implies, implies_true, true_and])
        (refine hK _ ?_; clear hK K)
        simp only [thenW, blockW]
        refine ⟨⟨n - 1, by omega, ?_⟩, Le_of (by simp [leE]) rfl, ?_⟩
        · rw [← hc]
          obtain ⟨m, rfl⟩ : ∃ m, n = m + 1 := ⟨n - 1, by omega⟩
          simp at h
          simp only [cutLen, Nat.add_sub_cancel, List.getD_eq_getElem?_getD, h, if_true]
        · simp; omega
      · refine W_exit ?_
        simp only [thenW, blockW, if_true]
        rw [← hc]
        obtain ⟨m, rfl⟩ : ∃ m, n = m + 1 := ⟨n - 1, by omega⟩
        simp at h
        refine Le_of ?_ rfl
        simp only [leE, cutLen, List.getD_eq_getElem?_getD, h, if_false]
        simp
  intro s' hle
  refine W.le ?_ hle
  clear hle s'
  unfold trim
  generalize cutLen l l.length = n at *
  ((refine W_seqR fun K hK => ?_); simp (disch := omega) only [opsW_free, opW_move, St.ret, List.set, ev_tmp, List.getD_cons_succ, List.getD_cons_zero, restO_ap, opW_makeSlice, ty25, makeW_slice, dead, List.getElem?_cons_succ, List.getElem?_cons_zero, ty79, ne_eq, reduceCtorEq, not_false_eq_true, List.length_cons, List.length_nil, Nat.zero_add, nat_nonneg, Int.cast_ofNat_Int, toNat_natCast, St.seth, u32s_rep, retK2_ap, opW_assign, opsW_nil, true_and])
  ((repeat refine And.intro (by omega) ?_); refine hK _ ?_; clear hK K)
  ((refine W_seq ?_; refine W_seqV fun K hK => ?_); simp (disch := omega) only [regV_cons, effW_free, opF_assign, ev_const, cst_int, atK_ap, restV_ap, Eff.app, List.set, Eff.wi, Option.map_none, List.nil_append, regV_nil, sepL, List.not_mem_nil, false_implies, implies_true, true_and])
  (refine hK _ ?_; clear hK K)
  refine W_block (W_loop (fun t : {t : Nat × List Nat // t.1 ≤ n ∧ t.2.length = n ∧ t.2.take t.1 = l.take t.1} => ⟨[.sl (u32s l), .any, .nils, .int .i64 n, .sref 21 0 n, .int .i64 t.1.1, .any, .any, .any, .any, .any, .any, .any, .any, .any, .any, .any, .any, .any, .any, .any, .any, .any, .any, .any, .any, .any, .any, .any, .any, .any, .any, .any, .any, .any], [.dead, .dead, .dead, .dead, .dead, .dead, .dead, .dead, .dead, .dead, .dead, .dead, .dead, .dead, .dead, .dead, .dead, .dead, .dead, .dead, .dead, .arr 79 1 true (u32s t.1.2), .dead, .dead, .dead, .dead, .dead, .dead, .dead, .dead, .dead, .dead, .dead, .dead, .dead]⟩) (fun t => n - t.1.1) ⟨(0, List.replicate n 0), by simp, by simp, by simp⟩ (Le_of (by simp [leE]) (by simp)) fun t => ?_)
  obtain ⟨⟨i, c⟩, hi, hc, ht⟩ := t
  dsimp only at hi hc ht ⊢
  by_cases hlt : i < n
  · refine W_seq ?_
    ((refine W_seqV fun K hK => ?_); simp (disch := omega) only [regV_cons, effW_free, opF_move, ev_tmp, List.getD_cons_succ, List.getD_cons_zero, atK_ap, restV_ap, Eff.app, List.set, Eff.wi, Option.map_none, List.nil_append, List.cons_append, opF_binOp, ty3, binW_lss, nat_lt_int, hlt, decide_true, valK_ap, regV_nil, sepL, List.not_mem_nil, false_implies, implies_true, true_and])
    (refine hK _ ?_; clear hK K)
    (first | refine W_cond rfl (fun _ => ?_) (fun h => by cases h) | refine W_seq (W_cond rfl (fun _ => ?_) (fun h => by cases h)))
    refine W_skip ?_
    simp only [thenW]
    refine W_seq ?_
    refine W_block ?_
    ((refine W_regV fun K hK => ?_); simp (disch := omega) only [regV_cons, effW_free, opF_move, ev_tmp, List.getD_cons_succ, List.getD_cons_zero, atK_ap, restV_ap, Eff.app, List.set, Eff.wi, Option.map_none, List.nil_append, List.cons_append, opF_indexAddr, ty25, objOf, indexAddrW_sl, ty79, ne_eq, reduceCtorEq, not_false_eq_true, nat_nonneg, u32s_length, nat_lt_int, u32s_all, toNat_natCast, u32s_getD, valK_ap, opF_load, TI.isAgg, Bool.false_eq_true, or_true, loadW_ia, Nat.zero_add, List.length_cons, List.length_nil, Nat.reduceLeDiff, ofCells, List.drop_zero, List.take_succ_cons, List.take_zero, List.headD_cons, if_false, indexAddrW_sref, kOk_arr, opF_store, storeF_ptr, storeO_arr, storable, AV.one, cellsOf, forall_const, overlay, List.drop_succ_cons, List.drop_nil, List.append_nil, u32s_set, wrK_ap, Option.map_some, regV_nil, sepL, List.not_mem_nil, false_implies, implies_true, true_and])
    ((repeat (refine And.intro (by first | omega | (show AV.pures _ = true; rfl)) ?_)); refine hK _ ?_; clear hK K)
    simp only [thenW, blockW]
    ((refine W_regV fun K hK => ?_); simp (disch := omega) only [regV_cons, effW_free, opF_move, ev_tmp, List.getD_cons_succ, List.getD_cons_zero, atK_ap, restV_ap, Eff.app, List.set, Eff.wi, Option.map_none, List.nil_append, opF_binOp, ty3, ev_const, cst_int, binW_add, wrap_i64_one, valK_ap, List.cons_append, opF_assign, regV_nil, sepL, List.not_mem_nil, false_implies, implies_true, true_and])
    (refine hK _ ?_; clear hK K)
    simp only [thenW, blockW]
    refine ⟨⟨(i + 1, c.set i (l.getD i 0)), by dsimp only; omega, by simpa using hc, ?_⟩, Le_of (by simp [leE]) (by simp), by dsimp only; omega⟩
    dsimp only
    rw [take_set_succ (by omega), ht, List.take_succ_eq_append_getElem (by omega)]
    congr 1
    simp [List.getD_eq_getElem?_getD, show i < l.length by omega]
  · obtain rfl : i = n := by omega
    refine W_seq ?_
    ((refine W_seqV fun K hK => ?_); simp (disch := omega) only [regV_cons, effW_free, opF_move, ev_tmp, List.getD_cons_succ, List.getD_cons_zero, atK_ap, restV_ap, Eff.app, List.set, Eff.wi, Option.map_none, List.nil_append, List.cons_append, opF_binOp, ty3, binW_lss, Int.lt_irrefl, decide_false, valK_ap, regV_nil, sepL, List.not_mem_nil, false_implies, implies_true, true_and])
    (refine hK _ ?_; clear hK K)
    (first | refine W_cond rfl (fun h => by cases h) (fun _ => ?_) | refine W_seq (W_cond rfl (fun h => by cases h) (fun _ => ?_)))
    refine W_exit ?_
    simp only [thenW, blockW, if_true]
    ((refine W_seqV fun K hK => ?_); simp (disch := omega) only [regV_cons, effW_free, opF_move, ev_tmp, List.getD_cons_succ, List.getD_cons_zero, atK_ap, restV_ap, Eff.app, List.set, Eff.wi, Option.map_none, List.nil_append, opF_assign, List.cons_append, regV_nil, sepL, List.not_mem_nil, false_implies, implies_true, true_and])
    (refine hK _ ?_; clear hK K)
    refine W_ret ?_
    simp (disch := omega) only [newQ, resW, resV, newK, List.getD_cons_succ, List.getD_cons_zero, asOne_one]
    rw [List.take_of_length_le (by omega)] at ht
    exact ⟨u32s c, by simp, by simp [u32s_length, hc], rfl, by rw [ht]⟩
theorem fnorm_new (l : List Nat) (h : Limbs l) (hl : l.length < 1099511627776) : New Try.prog 45 [cNat l] 79 1 (· = u32s (limbs (val l))) := by
  have := fnorm_new0 l hl
  rwa [trim_eq h] at this
theorem fnorm_ok (l : List Nat) (h : Limbs l) (hl : l.length < 1099511627776) : Pure Try.prog 45 [cNat l] (· = cN (val l)) :=
  (fnorm_new l h hl).pure.mono fun r h => by obtain ⟨rows, rfl, rfl⟩ := h; rfl

set_option maxHeartbeats 1000000 in
theorem at_ok (l : List Nat) (hL : Limbs l) (i : Nat) : Pure Try.prog 72 [cNat l, .int .i64 i] (· = .int .u64 (l.getD i 0)) := by
  (refine pureW Try.func72 rfl (rs := [Go.ResultVar.tmp 4]) rfl (n := 14) rfl ?_; simp only [List.length_cons, List.length_nil, List.replicate, List.cons_append, List.nil_append])
  unfold cNat
  by_cases hlt : i < l.length
  · have hge : decide (l.length ≤ i) = false := decide_eq_false (by omega)
    (repeat (refine W_seqV fun K hK => ?_; (try simp (disch := omega) only [regV_cons, effW_free, opF_assign, ev_const, cst_int, atK_ap, restV_ap, Eff.app, List.set, Eff.wi, Option.map_none, List.nil_append, regV_nil, sepL, List.not_mem_nil, false_implies, implies_true, true_and]); refine hK _ ?_; clear hK K))
    refine W_seq ?_
    ((refine W_seqV fun K hK => ?_); simp (disch := omega) only [regV_cons, effW_free, opF_move, ev_tmp, List.getD_cons_succ, List.getD_cons_zero, atK_ap, restV_ap, Eff.app, List.set, Eff.wi, Option.map_none, List.nil_append, List.cons_append, opF_len, ty25, lenW_sl, u32s_length, valK_ap, opF_binOp, ty3, binW_geq, ge_iff_le, nat_le_int, hge, regV_nil, sepL, List.not_mem_nil, false_implies, implies_true, true_and])
    (refine hK _ ?_; clear hK K)
    (first | refine W_cond rfl (fun h => by cases h) (fun _ => ?_) | refine W_seq (W_cond rfl (fun h => by cases h) (fun _ => ?_)))
    refine W_skip ?_
    simp only [thenW]
    have hx := hL.getD i
    ((refine W_seqV fun K hK => ?_); simp (disch := omega) only [regV_cons, effW_free, opF_move, ev_tmp, List.getD_cons_zero, atK_ap, restV_ap, Eff.app, List.set, Eff.wi, Option.map_none, List.nil_append, List.getD_cons_succ, List.cons_append, opF_indexAddr, ty25, objOf, indexAddrW_sl, ty79, ne_eq, reduceCtorEq, not_false_eq_true, nat_nonneg, u32s_length, nat_lt_int, hlt, u32s_all, toNat_natCast, u32s_getD, valK_ap, opF_load, TI.isAgg, Bool.false_eq_true, or_true, loadW_ia, Nat.zero_add, List.length_cons, List.length_nil, Nat.reduceLeDiff, ofCells, List.drop_zero, List.take_succ_cons, List.take_zero, List.headD_cons, if_false, opF_convert, ty71, convW_int, wrap_u64_nat, opF_assign, regV_nil, sepL, List.not_mem_nil, false_implies, implies_true, true_and])
    (refine hK _ ?_; clear hK K)
    refine W_ret ?_
    simp (disch := omega) only [retR, resW, resV, List.getD_cons_succ, List.getD_cons_zero, asOne_one, view_int]
  · have hge : decide (l.length ≤ i) = true := decide_eq_true (by omega)
    (repeat (refine W_seqV fun K hK => ?_; (try simp (disch := omega) only [regV_cons, effW_free, opF_assign, ev_const, cst_int, atK_ap, restV_ap, Eff.app, List.set, Eff.wi, Option.map_none, List.nil_append, regV_nil, sepL, List.not_mem_nil, false_implies, implies_true, true_and]); refine hK _ ?_; clear hK K))
    refine W_seq ?_
    ((refine W_seqV fun K hK => ?_); simp (disch := omega) only [regV_cons, effW_free, opF_move, ev_tmp, List.getD_cons_succ, List.getD_cons_zero, atK_ap, restV_ap, Eff.app, List.set, Eff.wi, Option.map_none, List.nil_append, List.cons_append, opF_len, ty25, lenW_sl, u32s_length, valK_ap, opF_binOp, ty3, binW_geq, ge_iff_le, nat_le_int, hge, regV_nil, sepL, List.not_mem_nil, false_implies, implies_true, true_and])
    (refine hK _ ?_; clear hK K)
    (first | refine W_cond rfl (fun _ => ?_) (fun h => by cases h) | refine W_seq (W_cond rfl (fun _ => ?_) (fun h => by cases h)))
    ((refine W_seqV fun K hK => ?_); simp (disch := omega) only [regV_cons, effW_free, opF_assign, ev_const, cst_int, atK_ap, restV_ap, Eff.app, List.set, Eff.wi, Option.map_none, List.nil_append, regV_nil, sepL, List.not_mem_nil, false_implies, implies_true, true_and])
    (refine hK _ ?_; clear hK K)
    refine W_ret ?_
    simp (disch := omega) only [thenW, retR, resW, resV, List.getD_cons_succ, List.getD_cons_zero, asOne_one, view_int]
    simp [List.getD_eq_getElem?_getD, List.getElem?_eq_none (show l.length ≤ i by omega)]

theorem cmp_lt {l m : List Nat} (hl : Limbs l) {i : Nat} (h : val l + val (m.take (i + 1)) = val m + val (l.take (i + 1))) (hlt : l.getD i 0 < m.getD i 0) : val l < val m := by
  rw [val_take_succ, val_take_succ] at h
  have h1 := val_lt (hl.take i)
  have h2 : 4294967296 ^ (l.take i).length ≤ 4294967296 ^ i := Nat.pow_le_pow_right (by omega) (by rw [List.length_take]; omega)
  have h3 : 4294967296 ^ i * (l.getD i 0 + 1) ≤ 4294967296 ^ i * m.getD i 0 := Nat.mul_le_mul_left _ hlt
  rw [Nat.mul_add] at h3
  omega
theorem cmp_eq {l m : List Nat} {i : Nat} (h : val l + val (m.take (i + 1)) = val m + val (l.take (i + 1))) (he : l.getD i 0 = m.getD i 0) : val l + val (m.take i) = val m + val (l.take i) := by
  rw [val_take_succ, val_take_succ, he] at h
  omega

set_option maxHeartbeats 4000000 in
theorem fcmp_ok (l m : List Nat) (hl : Limbs l) (hm : Limbs m) (h1 : l.length < 1099511627776) (h2 : m.length < 1099511627776) : Pure Try.prog 52 [cNat l, cNat m] (· = .int .i64 (sgn (val l) (val m))) := by
  obtain ⟨N, hN⟩ : ∃ N, N = max l.length m.length := ⟨_, rfl⟩
  (refine pureW Try.func52 rfl (rs := [Go.ResultVar.tmp 4]) rfl (n := 35) rfl ?_; simp only [List.length_cons, List.length_nil, List.replicate, List.cons_append, List.nil_append])
  unfold cNat
  (repeat (refine W_seqV fun K hK => ?_; (try simp (disch := omega) only [regV_cons, effW_free, opF_assign, ev_const, cst_int, atK_ap, restV_ap, Eff.app, List.set, Eff.wi, Option.map_none, List.nil_append, regV_nil, sepL, List.not_mem_nil, false_implies, implies_true, true_and, opF_move, ev_tmp, List.getD_cons_zero, opF_len, ty25, List.getD_cons_succ, lenW_sl, u32s_length, valK_ap, List.cons_append]); refine hK _ ?_; clear hK K))
  refine W_join (fun s' => Le [] s' ⟨[.sl (u32s l), .sl (u32s m), .any, .any, .int .i64 0, .int .i64 (N : Int), .any, .any, .any, .any, .any, .any, .any, .any, .any, .any, .any, .any, .any, .any, .any, .any, .any, .any, .any, .any, .any, .any, .any, .any, .any, .any, .any, .any, .any], [.dead, .dead, .dead, .dead, .dead, .dead, .dead, .dead, .dead, .dead, .dead, .dead, .dead, .dead, .dead, .dead, .dead, .dead, .dead, .dead, .dead, .dead, .dead, .dead, .dead, .dead, .dead, .dead, .dead, .dead, .dead, .dead, .dead, .dead, .dead]⟩) ?_ ?_
  · by_cases hgt : l.length < m.length
    · ((refine W_seqV fun K hK => ?_); simp (disch := omega) only [regV_cons, effW_free, opF_move, ev_tmp, List.getD_cons_succ, List.getD_cons_zero, atK_ap, restV_ap, Eff.app, List.set, Eff.wi, Option.map_none, List.nil_append, opF_len, ty25, lenW_sl, u32s_length, valK_ap, List.cons_append, opF_binOp, ty3, binW_gtr, gt_iff_lt, nat_lt_int, hgt, decide_true, regV_nil, sepL, List.not_mem_nil, false_implies, implies_true, true_and])
      (refine hK _ ?_; clear hK K)
      (first | refine W_cond rfl (fun _ => ?_) (fun h => by cases h) | refine W_seq (W_cond rfl (fun _ => ?_) (fun h => by cases h)))
      ((refine W_regV fun K hK => ?_); simp (disch := omega) only [regV_cons, effW_free, opF_move, ev_tmp, List.getD_cons_succ, List.getD_cons_zero, atK_ap, restV_ap, Eff.app, List.set, Eff.wi, Option.map_none, List.nil_append, opF_len, ty25, lenW_sl, u32s_length, valK_ap, List.cons_append, opF_assign, regV_nil, sepL, List.not_mem_nil, false_implies, implies_true, true_and])
      (refine hK _ ?_; clear hK K)
      simp only [thenW]
      exact Le_of (by simp [leE]; omega) rfl
    · have hgt' : decide (l.length < m.length) = false := decide_eq_false hgt
      ((refine W_seqV fun K hK => ?_); simp (disch := omega) only [regV_cons, effW_free, opF_move, ev_tmp, List.getD_cons_succ, List.getD_cons_zero, atK_ap, restV_ap, Eff.app, List.set, Eff.wi, Option.map_none, List.nil_append, opF_len, ty25, lenW_sl, u32s_length, valK_ap, List.cons_append, opF_binOp, ty3, binW_gtr, gt_iff_lt, nat_lt_int, hgt', regV_nil, sepL, List.not_mem_nil, false_implies, implies_true, true_and])
      (refine hK _ ?_; clear hK K)
      (first | refine W_cond rfl (fun h => by cases h) (fun _ => ?_) | refine W_seq (W_cond rfl (fun h => by cases h) (fun _ => ?_)))
      refine W_skip ?_
      simp only [thenW]
      exact Le_of (by simp [leE]; omega) rfl
  intro s' hle
  refine W.le ?_ hle
  clear hle s'
  have hwN : IntKind.wrap .i64 ((N : Int) - 1) = (N : Int) - 1 := wrap_i64 (by omega) (by omega)
  ((refine W_seq ?_; refine W_seqV fun K hK => ?_); simp (disch := omega) only [regV_cons, effW_free, opF_move, ev_tmp, List.getD_cons_succ, List.getD_cons_zero, atK_ap, restV_ap, Eff.app, List.set, Eff.wi, Option.map_none, List.nil_append, opF_binOp, ty3, ev_const, cst_int, binW_sub, hwN, valK_ap, List.cons_append, opF_assign, regV_nil, sepL, List.not_mem_nil, false_implies, implies_true, true_and])
  (refine hK _ ?_; clear hK K)
  refine W_block (W_loop (fun t : {t : Nat // t ≤ N ∧ val l + val (m.take t) = val m + val (l.take t)} => ⟨[.sl (u32s l), .sl (u32s m), .any, .any, .int .i64 0, .any, .int .i64 ((t.1 : Int) - 1), .any, .any, .any, .any, .any, .any, .any, .any, .any, .any, .any, .any, .any, .any, .any, .any, .any, .any, .any, .any, .any, .any, .any, .any, .any, .any, .any, .any], [.dead, .dead, .dead, .dead, .dead, .dead, .dead, .dead, .dead, .dead, .dead, .dead, .dead, .dead, .dead, .dead, .dead, .dead, .dead, .dead, .dead, .dead, .dead, .dead, .dead, .dead, .dead, .dead, .dead, .dead, .dead, .dead, .dead, .dead, .dead]⟩) (fun t => t.1) ⟨N, Nat.le_refl _, by rw [List.take_of_length_le (by omega), List.take_of_length_le (by omega)]; omega⟩ (Le_of (by simp [leE]) rfl) fun t => ?_)
  obtain ⟨i, hi, hv⟩ := t
  dsimp only
  rcases i with _ | i
  · have hz : decide (((0 : Nat) : Int) - 1 ≥ 0) = false := by decide
    refine W_seq ?_
    ((refine W_seqV fun K hK => ?_); simp (disch := omega) only [Int.cast_ofNat_Int, Int.reduceSub, Int.reduceNeg, regV_cons, effW_free, opF_move, ev_tmp, List.getD_cons_succ, List.getD_cons_zero, atK_ap, restV_ap, Eff.app, List.set, Eff.wi, Option.map_none, List.nil_append, opF_binOp, ty3, ev_const, cst_int, binW_geq, ge_iff_le, Int.reduceLE, decide_false, valK_ap, List.cons_append, regV_nil, sepL, List.not_mem_nil, false_implies, implies_true, true_and])
    (refine hK _ ?_; clear hK K)
    (first | refine W_cond rfl (fun h => by cases h) (fun _ => ?_) | refine W_seq (W_cond rfl (fun h => by cases h) (fun _ => ?_)))
    refine W_exit ?_
    simp only [thenW, blockW, if_true]
    ((refine W_seqV fun K hK => ?_); simp (disch := omega) only [Int.reduceNeg, regV_cons, effW_free, opF_assign, ev_const, cst_int, atK_ap, restV_ap, Eff.app, List.set, Eff.wi, Option.map_none, List.nil_append, regV_nil, sepL, List.not_mem_nil, false_implies, implies_true, true_and])
    (refine hK _ ?_; clear hK K)
    refine W_ret ?_
    simp (disch := omega) only [retR, resW, resV, List.getD_cons_succ, List.getD_cons_zero, asOne_one, view_int, sgn]
    have he : val l = val m := by simpa [val] using hv
    simp [he]
  · have hj : ((i + 1 : Nat) : Int) - 1 = i := by omega
    have ha := at_ok l hl i
    have hb := at_ok m hm i
    simp only [cNat] at ha hb
    rw [hj]
    refine W_seq ?_
    ((refine W_seqV fun K hK => ?_); simp (disch := omega) only [regV_cons, effW_free, opF_move, ev_tmp, List.getD_cons_succ, List.getD_cons_zero, atK_ap, restV_ap, Eff.app, List.set, Eff.wi, Option.map_none, List.nil_append, opF_binOp, ty3, ev_const, cst_int, binW_geq, ge_iff_le, nat_nonneg, decide_true, valK_ap, List.cons_append, regV_nil, sepL, List.not_mem_nil, false_implies, implies_true, true_and])
    (refine hK _ ?_; clear hK K)
    (first | refine W_cond rfl (fun _ => ?_) (fun h => by cases h) | refine W_seq (W_cond rfl (fun _ => ?_) (fun h => by cases h)))
    refine W_skip ?_
    simp only [thenW]
    refine W_seq (W_block ?_)
    refine W_seq ?_
    ((refine W_seqV fun K hK => ?_); simp (disch := omega) only [regV_cons, effW_free, opF_move, ev_tmp, List.getD_cons_zero, atK_ap, restV_ap, Eff.app, List.set, Eff.wi, Option.map_none, List.nil_append, List.getD_cons_succ, List.cons_append, opF_call, ev_func, List.map_cons, List.map_nil, callF_fn, List.append_nil, opF_binOp, ty71])
    (refine ⟨by kernel_rfl, rfl, _, ha, ?_⟩)
    (refine ⟨by kernel_rfl, rfl, _, hb, ?_⟩; (try simp (disch := omega) only [binW_lss, nat_lt_int, valK_ap, atK_ap, restV_ap, Eff.app, List.set, Eff.wi, Option.map_none, List.cons_append, List.nil_append, regV_nil, sepL, List.not_mem_nil, false_implies, implies_true, true_and]))
    (refine hK _ ?_; clear hK K)
    by_cases hlt : l.getD i 0 < m.getD i 0
    · have hlv := cmp_lt hl hv hlt
      have hz : decide (l.getD i 0 < m.getD i 0) = true := decide_eq_true hlt
      rw [hz]
      (first | refine W_cond rfl (fun _ => ?_) (fun h => by cases h) | refine W_seq (W_cond rfl (fun _ => ?_) (fun h => by cases h)))
      ((refine W_seqV fun K hK => ?_); simp (disch := omega) only [Int.reduceNeg, regV_cons, effW_free, opF_assign, ev_const, cst_int, atK_ap, restV_ap, Eff.app, List.set, Eff.wi, Option.map_none, List.nil_append, regV_nil, sepL, List.not_mem_nil, false_implies, implies_true, true_and])
      (refine hK _ ?_; clear hK K)
      refine W_ret ?_
      simp (disch := omega) only [thenW, blockW, retR, resW, resV, List.getD_cons_succ, List.getD_cons_zero, asOne_one, view_int, sgn]
      simp [sgn, hlv]
    have hz : decide (l.getD i 0 < m.getD i 0) = false := decide_eq_false hlt
    rw [hz]
    (first | refine W_cond rfl (fun h => by cases h) (fun _ => ?_) | refine W_seq (W_cond rfl (fun h => by cases h) (fun _ => ?_)))
    refine W_skip ?_
    simp only [thenW]
    ((refine W_seqV fun K hK => ?_); simp (disch := omega) only [regV_cons, effW_free, opF_move, ev_tmp, List.getD_cons_zero, atK_ap, restV_ap, Eff.app, List.set, Eff.wi, Option.map_none, List.nil_append, List.getD_cons_succ, List.cons_append, opF_call, ev_func, List.map_cons, List.map_nil, callF_fn, List.append_nil, opF_binOp, ty71])
    (refine ⟨by kernel_rfl, rfl, _, ha, ?_⟩)
    (refine ⟨by kernel_rfl, rfl, _, hb, ?_⟩; (try simp (disch := omega) only [binW_gtr, gt_iff_lt, nat_lt_int, valK_ap, atK_ap, restV_ap, Eff.app, List.set, Eff.wi, Option.map_none, List.cons_append, List.nil_append, regV_nil, sepL, List.not_mem_nil, false_implies, implies_true, true_and]))
    (refine hK _ ?_; clear hK K)
    by_cases hgt : m.getD i 0 < l.getD i 0
    · have hlv := cmp_lt hm hv.symm hgt
      have hz : decide (m.getD i 0 < l.getD i 0) = true := decide_eq_true hgt
      rw [hz]
      (first | refine W_cond rfl (fun _ => ?_) (fun h => by cases h) | refine W_seq (W_cond rfl (fun _ => ?_) (fun h => by cases h)))
      ((refine W_seqV fun K hK => ?_); simp (disch := omega) only [regV_cons, effW_free, opF_assign, ev_const, cst_int, atK_ap, restV_ap, Eff.app, List.set, Eff.wi, Option.map_none, List.nil_append, regV_nil, sepL, List.not_mem_nil, false_implies, implies_true, true_and])
      (refine hK _ ?_; clear hK K)
      refine W_ret ?_
      simp (disch := omega) only [blockW, thenW, retR, resW, resV, List.getD_cons_succ, List.getD_cons_zero, asOne_one, view_int, sgn]
      simp [sgn, hlv, Nat.lt_asymm hlv]
    have hz : decide (m.getD i 0 < l.getD i 0) = false := decide_eq_false hgt
    rw [hz]
    (first | refine W_cond rfl (fun h => by cases h) (fun _ => ?_) | refine W_seq (W_cond rfl (fun h => by cases h) (fun _ => ?_)))
    refine W_skip ?_
    simp only [thenW, blockW]
    have hwi : IntKind.wrap .i64 ((i : Int) - 1) = (i : Int) - 1 := wrap_i64 (by omega) (by omega)
    ((refine W_regV fun K hK => ?_); simp (disch := omega) only [regV_cons, effW_free, opF_move, ev_tmp, List.getD_cons_succ, List.getD_cons_zero, atK_ap, restV_ap, Eff.app, List.set, Eff.wi, Option.map_none, List.nil_append, opF_binOp, ty3, ev_const, cst_int, binW_sub, hwi, valK_ap, List.cons_append, opF_assign, regV_nil, sepL, List.not_mem_nil, false_implies, implies_true, true_and])
    (refine hK _ ?_; clear hK K)
    simp only [thenW, blockW]
    exact ⟨⟨i, by omega, cmp_eq hv (by omega)⟩, Le_of (by simp [leE]) rfl, by dsimp only; omega⟩
end Go.Proofs.Ytjkjapjcmbfkgaa.Vm

/-
  The reference's natural numbers: Add, Sub, Mul.
-/
namespace Go.Proofs.Ytjkjapjcmbfkgaa.Vm
open Go Go.RowKit
set_option maxRecDepth 100000
set_option linter.unusedVariables false
set_option linter.unusedSimpArgs false
set_option pp.deepTerms false
set_option pp.deepTerms.threshold 8

theorem add_end {l m : List Nat} {N k v : Nat} (hl : Limbs l) (hm : Limbs m) (h1 : l.length ≤ N) (h2 : m.length ≤ N) (hk : k ≤ 1) (h : v + 4294967296 ^ (N + 1) * k = val l + val m) : k = 0 := by
  rcases Nat.eq_zero_or_pos k with h0 | h0
  · exact h0
  · have e1 : k = 1 := by omega
    subst e1
    have b1 := val_lt hl
    have b2 := val_lt hm
    have b3 : 4294967296 ^ l.length ≤ 4294967296 ^ N := Nat.pow_le_pow_right (by omega) h1
    have b4 : 4294967296 ^ m.length ≤ 4294967296 ^ N := Nat.pow_le_pow_right (by omega) h2
    rw [Nat.pow_succ] at h
    generalize 4294967296 ^ N = P at *
    omega
set_option maxHeartbeats 4000000 in
theorem fadd_ok (l m : List Nat) (hl : Limbs l) (hm : Limbs m) (h1 : l.length < 549755813888) (h2 : m.length < 549755813888) : Pure Try.prog 51 [cNat l, cNat m] (· = cN (val l + val m)) := by
  obtain ⟨N, hN⟩ : ∃ N, N = max l.length m.length := ⟨_, rfl⟩
  (refine pureW Try.func51 rfl (rs := [Go.ResultVar.tmp 4]) rfl (n := 44) rfl ?_; simp only [List.length_cons, List.length_nil, List.replicate, List.cons_append, List.nil_append])
  unfold cNat
  (repeat (refine W_seqV fun K hK => ?_; (try simp (disch := omega) only [regV_cons, effW_free, opF_assign, ev_const, cst_nils, atK_ap, restV_ap, Eff.app, List.set, Eff.wi, Option.map_none, List.nil_append, regV_nil, sepL, List.not_mem_nil, false_implies, implies_true, true_and, opF_move, ev_tmp, List.getD_cons_zero, opF_len, ty25, List.getD_cons_succ, lenW_sl, u32s_length, valK_ap, List.cons_append]); refine hK _ ?_; clear hK K))
  refine W_join (fun s' => Le [] s' ⟨[.sl (u32s l), .sl (u32s m), .any, .any, .any, .int .i64 (N : Int), .any, .any, .any, .any, .any, .any, .any, .any, .any, .any, .any, .any, .any, .any, .any, .any, .any, .any, .any, .any, .any, .any, .any, .any, .any, .any, .any, .any, .any, .any, .any, .any, .any, .any, .any, .any, .any, .any], [.dead, .dead, .dead, .dead, .dead, .dead, .dead, .dead, .dead, .dead, .dead, .dead, .dead, .dead, .dead, .dead, .dead, .dead, .dead, .dead, .dead, .dead, .dead, .dead, .dead, .dead, .dead, .dead, .dead, .dead, .dead, .dead, .dead, .dead, .dead, .dead, .dead, .dead, .dead, .dead, .dead, .dead, .dead, .dead]⟩) ?_ ?_
  · by_cases hgt : l.length < m.length
    · ((refine W_seqV fun K hK => ?_); simp (disch := omega) only [regV_cons, effW_free, opF_move, ev_tmp, List.getD_cons_succ, List.getD_cons_zero, atK_ap, restV_ap, Eff.app, List.set, Eff.wi, Option.map_none, List.nil_append, opF_len, ty25, lenW_sl, u32s_length, valK_ap, List.cons_append, opF_binOp, ty3, binW_gtr, gt_iff_lt, nat_lt_int, hgt, decide_true, regV_nil, sepL, List.not_mem_nil, false_implies, implies_true, true_and])
      (refine hK _ ?_; clear hK K)
      (first | refine W_cond rfl (fun _ => ?_) (fun h => by cases h) | refine W_seq (W_cond rfl (fun _ => ?_) (fun h => by cases h)))
      ((refine W_regV fun K hK => ?_); simp (disch := omega) only [regV_cons, effW_free, opF_move, ev_tmp, List.getD_cons_succ, List.getD_cons_zero, atK_ap, restV_ap, Eff.app, List.set, Eff.wi, Option.map_none, List.nil_append, opF_len, ty25, lenW_sl, u32s_length, valK_ap, List.cons_append, opF_assign, regV_nil, sepL, List.not_mem_nil, false_implies, implies_true, true_and])
      (refine hK _ ?_; clear hK K)
      simp only [thenW]
      exact Le_of (by simp [leE]; omega) rfl
    · have hgt' : decide (l.length < m.length) = false := decide_eq_false hgt
      ((refine W_seqV fun K hK => ?_); simp (disch := omega) only [regV_cons, effW_free, opF_move, ev_tmp, List.getD_cons_succ, List.getD_cons_zero, atK_ap, restV_ap, Eff.app, List.set, Eff.wi, Option.map_none, List.nil_append, opF_len, ty25, lenW_sl, u32s_length, valK_ap, List.cons_append, opF_binOp, ty3, binW_gtr, gt_iff_lt, nat_lt_int, hgt', regV_nil, sepL, List.not_mem_nil, false_implies, implies_true, true_and])
      (refine hK _ ?_; clear hK K)
      (first | refine W_cond rfl (fun h => by cases h) (fun _ => ?_) | refine W_seq (W_cond rfl (fun h => by cases h) (fun _ => ?_)))
      refine W_skip ?_
      simp only [thenW]
      exact Le_of (by simp [leE]; omega) rfl
  intro s' hle
  refine W.le ?_ hle
  clear hle s'
  ((refine W_seqR fun K hK => ?_); simp (disch := omega) only [opsW_free, opW_move, St.ret, List.set, ev_tmp, List.getD_cons_succ, List.getD_cons_zero, restO_ap, opW_binOp, ty3, ev_const, cst_int, binW_add, wrap_i64_one, retK_ap, opW_makeSlice, ty25, makeW_slice, dead, List.getElem?_cons_succ, List.getElem?_cons_zero, ty79, ne_eq, reduceCtorEq, not_false_eq_true, List.length_cons, List.length_nil, Nat.zero_add, nat_nonneg, Int.cast_ofNat_Int, toNat_natCast, St.seth, u32s_rep, retK2_ap, opW_assign, opsW_nil, true_and])
  ((repeat refine And.intro (by omega) ?_); refine hK _ ?_; clear hK K)
  (repeat (refine W_seqV fun K hK => ?_; (try simp (disch := omega) only [regV_cons, effW_free, opF_assign, ev_const, cst_int, atK_ap, restV_ap, Eff.app, List.set, Eff.wi, Option.map_none, List.nil_append, regV_nil, sepL, List.not_mem_nil, false_implies, implies_true, true_and]); refine hK _ ?_; clear hK K))
  refine W_seq ?_
  ((refine W_seqV fun K hK => ?_); simp (disch := omega) only [regV_cons, effW_free, opF_assign, ev_const, cst_int, atK_ap, restV_ap, Eff.app, List.set, Eff.wi, Option.map_none, List.nil_append, regV_nil, sepL, List.not_mem_nil, false_implies, implies_true, true_and])
  (refine hK _ ?_; clear hK K)
  refine W_block (W_loop (fun t : {t : Nat × List Nat × Nat // t.1 ≤ N + 1 ∧ t.2.1.length = N + 1 ∧ Limbs t.2.1 ∧ t.2.2 ≤ 1 ∧ val (t.2.1.take t.1) + 4294967296 ^ t.1 * t.2.2 = val (l.take t.1) + val (m.take t.1)} =>
      ⟨[.sl (u32s l), .sl (u32s m), .any, .any, .any, .int .i64 (N : Int), .sref 20 0 (N + 1), .int .u64 t.1.2.2, .int .i64 t.1.1, .any, .any, .any, .any, .any, .any, .any, .any, .any, .any, .any, .any, .any, .any, .any, .any, .any, .any, .any, .any, .any, .any, .any, .any, .any, .any, .any, .any, .any, .any, .any, .any, .any, .any, .any], [.dead, .dead, .dead, .dead, .dead, .dead, .dead, .dead, .dead, .dead, .dead, .dead, .dead, .dead, .dead, .dead, .dead, .dead, .dead, .dead, .arr 79 1 true (u32s t.1.2.1), .dead, .dead, .dead, .dead, .dead, .dead, .dead, .dead, .dead, .dead, .dead, .dead, .dead, .dead, .dead, .dead, .dead, .dead, .dead, .dead, .dead, .dead, .dead]⟩) (fun t => N + 1 - t.1.1)
    ⟨(0, List.replicate (N + 1) 0, 0), by simp, by simp, Limbs.rep _, by simp, by simp [val]⟩ (Le_of (by simp [leE]) (by simp)) fun t => ?_)
  obtain ⟨⟨i, c, k⟩, h3, h4, h5, h6, h7⟩ := t
  dsimp only at h3 h4 h5 h6 h7 ⊢
  by_cases hlt : i ≤ N
  · have hx := hl.getD i
    have hy := hm.getD i
    have ha := at_ok l hl i
    have hb := at_ok m hm i
    simp only [cNat] at ha hb
    have hi : i < c.length := by omega
    refine W_seq ?_
    ((refine W_seqV fun K hK => ?_); simp (disch := omega) only [regV_cons, effW_free, opF_move, ev_tmp, List.getD_cons_succ, List.getD_cons_zero, atK_ap, restV_ap, Eff.app, List.set, Eff.wi, Option.map_none, List.nil_append, List.cons_append, opF_binOp, ty3, binW_leq, nat_le_int, hlt, decide_true, valK_ap, regV_nil, sepL, List.not_mem_nil, false_implies, implies_true, true_and])
    (refine hK _ ?_; clear hK K)
    (first | refine W_cond rfl (fun _ => ?_) (fun h => by cases h) | refine W_seq (W_cond rfl (fun _ => ?_) (fun h => by cases h)))
    refine W_skip ?_
    simp only [thenW]
    refine W_seq (W_block ?_)
    ((refine W_seqV fun K hK => ?_); simp (disch := omega) only [regV_cons, effW_free, opF_move, ev_tmp, List.getD_cons_zero, atK_ap, restV_ap, Eff.app, List.set, Eff.wi, Option.map_none, List.nil_append, List.getD_cons_succ, List.cons_append, opF_call, ev_func, List.map_cons, List.map_nil, callF_fn, List.append_nil, opF_binOp, ty71])
    (refine ⟨by kernel_rfl, rfl, _, ha, ?_⟩)
    (refine ⟨by kernel_rfl, rfl, _, hb, ?_⟩; (try simp (disch := omega) only [binW_add, wrap_u64_add, valK_ap, atK_ap, restV_ap, Eff.app, List.set, Eff.wi, Option.map_none, List.cons_append, List.nil_append, regV_cons, effW_free, opF_move, ev_tmp, List.getD_cons_succ, List.getD_cons_zero, opF_binOp, ty71, opF_assign, regV_nil, sepL, List.not_mem_nil, false_implies, implies_true, true_and]))
    (refine hK _ ?_; clear hK K)
    ((refine W_seqV fun K hK => ?_); simp (disch := omega) only [regV_cons, effW_free, opF_move, ev_tmp, List.getD_cons_succ, List.getD_cons_zero, atK_ap, restV_ap, Eff.app, List.set, Eff.wi, Option.map_none, List.nil_append, List.cons_append, opF_convert, ty71, ty79, convW_int, wrap_u32_nat, valK_ap, opF_indexAddr, ty25, objOf, indexAddrW_sref, ne_eq, reduceCtorEq, not_false_eq_true, nat_nonneg, nat_lt_int, kOk_arr, toNat_natCast, Nat.zero_add, opF_store, storeF_ptr, storeO_arr, storable, AV.one, cellsOf, List.length_cons, List.length_nil, forall_const, u32s_length, u32s_getD, Nat.reduceLeDiff, overlay, List.take_zero, List.drop_succ_cons, List.drop_nil, List.append_nil, u32s_set, wrK_ap, Option.map_some, regV_nil, sepL, List.not_mem_nil, false_implies, implies_true, true_and])
    ((repeat (refine And.intro (by first | omega | (show AV.pures _ = true; rfl)) ?_)); refine hK _ ?_; clear hK K)
    ((refine W_regV fun K hK => ?_); simp (disch := omega) only [regV_cons, effW_free, opF_move, ev_tmp, List.getD_cons_succ, List.getD_cons_zero, atK_ap, restV_ap, Eff.app, List.set, Eff.wi, Option.map_none, List.nil_append, opF_binOp, ty71, ev_const, cst_int, binW_shr, Int.reduceLE, Int.reduceToNat, min_u64, fdiv_pow, Nat.reducePow, valK_ap, List.cons_append, opF_assign, regV_nil, sepL, List.not_mem_nil, false_implies, implies_true, true_and])
    (refine hK _ ?_; clear hK K)
    simp only [thenW, blockW]
    ((refine W_regV fun K hK => ?_); simp (disch := omega) only [regV_cons, effW_free, opF_move, ev_tmp, List.getD_cons_succ, List.getD_cons_zero, atK_ap, restV_ap, Eff.app, List.set, Eff.wi, Option.map_none, List.nil_append, opF_binOp, ty3, ev_const, cst_int, binW_add, wrap_i64_one, valK_ap, List.cons_append, opF_assign, regV_nil, sepL, List.not_mem_nil, false_implies, implies_true, true_and])
    (refine hK _ ?_; clear hK K)
    simp only [thenW, blockW]
    refine ⟨⟨(i + 1, c.set i ((l.getD i 0 + m.getD i 0 + k) % 4294967296), (l.getD i 0 + m.getD i 0 + k) / 4294967296), by dsimp only; omega, by simpa using h4, h5.set i (by omega), by dsimp only; omega, ?_⟩, Le_of (by simp [leE]) (by simp), by dsimp only; omega⟩
    dsimp only
    rw [val_take_set hi, val_take_succ, val_take_succ, Nat.pow_succ]
    exact add_round h7 (by omega)
  · obtain rfl : i = N + 1 := by omega
    have hlt' : (N + 1 ≤ N) = False := by simp
    rw [List.take_of_length_le (by omega), List.take_of_length_le (by omega), List.take_of_length_le (by omega)] at h7
    have hk : k = 0 := add_end hl hm (by omega) (by omega) h6 h7
    subst hk
    rw [Nat.mul_zero, Nat.add_zero] at h7
    refine W_seq ?_
    ((refine W_seqV fun K hK => ?_); simp (disch := omega) only [Int.cast_ofNat_Int, regV_cons, effW_free, opF_move, ev_tmp, List.getD_cons_succ, List.getD_cons_zero, atK_ap, restV_ap, Eff.app, List.set, Eff.wi, Option.map_none, List.nil_append, List.cons_append, opF_binOp, ty3, binW_leq, nat_le_int, hlt', decide_false, valK_ap, regV_nil, sepL, List.not_mem_nil, false_implies, implies_true, true_and])
    (refine hK _ ?_; clear hK K)
    (first | refine W_cond rfl (fun h => by cases h) (fun _ => ?_) | refine W_seq (W_cond rfl (fun h => by cases h) (fun _ => ?_)))
    refine W_exit ?_
    simp only [thenW, blockW, if_true]
    (refine W.le ?_ (Le_freeze 20 (rows := u32s c) rfl (by simp) (.inl rfl)); simp only [St.freeze, List.map_cons, List.map_nil, List.set, if_true, if_false, Nat.reduceEqDiff, reduceCtorEq, List.drop_zero, u32s_take, u32s_drop, froz_any, froz_und, froz_int, froz_bool, froz_str, froz_nils, froz_sl, froz_ia, froz_nilp, froz_nilif, froz_nilfn, froz_nilmp, froz_gl, froz_sref, froz_ptr, froz_agg, froz_tup, froz_fn, froz_ifc, frozs_nil, frozs_cons, froz_dead, froz_arr])
    rw [List.take_of_length_le (by omega)]
    ((refine W_seqV fun K hK => ?_); simp (disch := omega) only [regV_cons, effW_free, opF_move, ev_tmp, List.getD_cons_succ, List.getD_cons_zero, atK_ap, restV_ap, Eff.app, List.set, Eff.wi, Option.map_none, List.nil_append, opF_call, ev_func, List.map_cons, List.map_nil, callF_fn, List.append_nil, List.cons_append, opF_assign, regV_nil, sepL, List.not_mem_nil, false_implies, implies_true, true_and])
    (refine ⟨by kernel_rfl, rfl, _, fnorm_ok c h5 (by omega), ?_⟩; (try simp (disch := omega) only [cN, cNat]))
    (refine hK _ ?_; clear hK K)
    refine W_ret ?_
    simp (disch := omega) only [retR, resW, resV, List.getD_cons_succ, List.getD_cons_zero, asOne_one, view_sl, cN, cNat]
    rw [h7]

theorem usub64 {x y k : Nat} (hx : x < 4294967296) (hy : y < 4294967296) (hk : k ≤ 1) : IntKind.wrap .u64 (IntKind.wrap .u64 ((x : Int) - (y : Int)) - (k : Int)) = (((x + 18446744073709551616 - y - k) % 18446744073709551616 : Nat) : Int) := by
  unfold IntKind.wrap
  simp [IntKind.bits, IntKind.signed]
  omega
theorem usub_lo {x y k : Nat} (hx : x < 4294967296) (hy : y < 4294967296) (hk : k ≤ 1) : (x + 18446744073709551616 - y - k) % 18446744073709551616 % 4294967296 + y + k = x + 4294967296 * (if x < y + k then 1 else 0) := by
  split <;> omega
theorem usub_hi {x y k : Nat} (hx : x < 4294967296) (hy : y < 4294967296) (hk : k ≤ 1) : (x + 18446744073709551616 - y - k) % 18446744073709551616 / 9223372036854775808 = if x < y + k then 1 else 0 := by
  split <;> omega
theorem val_take_of_lt {m : List Nat} {n : Nat} (h : val m < 4294967296 ^ n) : val (m.take n) = val m := by
  by_cases hn : n ≤ m.length
  · have h1 := val_drop_split m n hn
    generalize 4294967296 ^ n = P at *
    rcases Nat.eq_zero_or_pos (val (m.drop n)) with h0 | h0
    · rw [h0, Nat.mul_zero, Nat.add_zero] at h1
      exact h1.symm
    · have : P * 1 ≤ P * val (m.drop n) := Nat.mul_le_mul_left _ h0
      omega
  · rw [List.take_of_length_le (by omega)]
theorem sub_end {l m c : List Nat} {k : Nat} (hc : Limbs c) (hcl : c.length = l.length) (hk : k ≤ 1) (hle : val m ≤ val l) (h : val c + val m = val l + 4294967296 ^ l.length * k) : k = 0 ∧ val c = val l - val m := by
  have h1 := val_lt hc
  rw [hcl] at h1
  generalize 4294967296 ^ l.length = P at *
  have hk0 : k = 0 := by
    rcases Nat.eq_zero_or_pos k with h0 | h0
    · exact h0
    · have : k = 1 := by omega
      subst this
      omega
  subst hk0
  omega
set_option maxHeartbeats 4000000 in
theorem fsub_ok (l m : List Nat) (hl : Limbs l) (hm : Limbs m) (h1 : l.length < 549755813888) (h2 : m.length < 549755813888) (hle : val m ≤ val l) : Pure Try.prog 53 [cNat l, cNat m] (· = .tup [cN (val l - val m), .int .i64 0]) := by
  have hcmp := fcmp_ok l m hl hm (by omega) (by omega)
  have hs := sgn_ge (a := val l) (b := val m) (by omega)
  simp only [cNat] at hcmp
  (refine pureW Try.func53 rfl (rs := [Go.ResultVar.tmp 4, Go.ResultVar.tmp 5]) rfl (n := 41) rfl ?_; simp only [List.length_cons, List.length_nil, List.replicate, List.cons_append, List.nil_append])
  unfold cNat
  (repeat (refine W_seqV fun K hK => ?_; (try simp (disch := omega) only [regV_cons, effW_free, opF_assign, ev_const, cst_nils, atK_ap, restV_ap, Eff.app, List.set, Eff.wi, Option.map_none, List.nil_append, cst_int, List.cons_append, regV_nil, sepL, List.not_mem_nil, false_implies, implies_true, true_and]); refine hK _ ?_; clear hK K))
  refine W_seq ?_
  ((refine W_seqV fun K hK => ?_); simp (disch := omega) only [regV_cons, effW_free, opF_move, ev_tmp, List.getD_cons_zero, atK_ap, restV_ap, Eff.app, List.set, Eff.wi, Option.map_none, List.nil_append, List.getD_cons_succ, List.cons_append, opF_call, ev_func, List.map_cons, List.map_nil, callF_fn, List.append_nil, opF_binOp, ty3, ev_const, cst_int])
  (refine ⟨by kernel_rfl, rfl, _, hcmp, ?_⟩; (try simp (disch := omega) only [binW_lss, valK_ap, atK_ap, restV_ap, Eff.app, List.set, Eff.wi, Option.map_none, List.cons_append, List.nil_append, regV_nil, sepL, List.not_mem_nil, false_implies, implies_true, true_and]))
  simp (disch := omega) only [hs]
  (refine hK _ ?_; clear hK K)
  (first | refine W_cond rfl (fun h => by cases h) (fun _ => ?_) | refine W_seq (W_cond rfl (fun h => by cases h) (fun _ => ?_)))
  refine W_skip ?_
  simp only [thenW]
  ((refine W_seqR fun K hK => ?_); simp (disch := omega) only [opsW_free, opW_move, St.ret, List.set, ev_tmp, List.getD_cons_zero, restO_ap, opW_len, ty25, List.getD_cons_succ, lenW_sl, u32s_length, retK_ap, opW_makeSlice, makeW_slice, dead, List.getElem?_cons_succ, List.getElem?_cons_zero, ty79, ne_eq, reduceCtorEq, not_false_eq_true, List.length_cons, List.length_nil, Nat.zero_add, nat_nonneg, Int.cast_ofNat_Int, toNat_natCast, St.seth, u32s_rep, retK2_ap, opW_assign, opsW_nil, true_and])
  ((repeat refine And.intro (by omega) ?_); refine hK _ ?_; clear hK K)
  (repeat (refine W_seqV fun K hK => ?_; (try simp (disch := omega) only [regV_cons, effW_free, opF_assign, ev_const, cst_int, atK_ap, restV_ap, Eff.app, List.set, Eff.wi, Option.map_none, List.nil_append, regV_nil, sepL, List.not_mem_nil, false_implies, implies_true, true_and]); refine hK _ ?_; clear hK K))
  refine W_seq ?_
  ((refine W_seqV fun K hK => ?_); simp (disch := omega) only [regV_cons, effW_free, opF_assign, ev_const, cst_int, atK_ap, restV_ap, Eff.app, List.set, Eff.wi, Option.map_none, List.nil_append, regV_nil, sepL, List.not_mem_nil, false_implies, implies_true, true_and])
  (refine hK _ ?_; clear hK K)
  refine W_block (W_loop (fun t : {t : Nat × List Nat × Nat // t.1 ≤ l.length ∧ t.2.1.length = l.length ∧ Limbs t.2.1 ∧ t.2.2 ≤ 1 ∧ val (t.2.1.take t.1) + val (m.take t.1) = val (l.take t.1) + 4294967296 ^ t.1 * t.2.2} =>
      ⟨[.sl (u32s l), .sl (u32s m), .any, .any, .any, .int .i64 0, .sref 16 0 l.length, .int .u64 t.1.2.2, .int .i64 t.1.1, .any, .any, .any, .any, .any, .any, .any, .any, .any, .any, .any, .any, .any, .any, .any, .any, .any, .any, .any, .any, .any, .any, .any, .any, .any, .any, .any, .any, .any, .any, .any, .any], [.dead, .dead, .dead, .dead, .dead, .dead, .dead, .dead, .dead, .dead, .dead, .dead, .dead, .dead, .dead, .dead, .arr 79 1 true (u32s t.1.2.1), .dead, .dead, .dead, .dead, .dead, .dead, .dead, .dead, .dead, .dead, .dead, .dead, .dead, .dead, .dead, .dead, .dead, .dead, .dead, .dead, .dead, .dead, .dead, .dead]⟩) (fun t => l.length - t.1.1)
    ⟨(0, List.replicate l.length 0, 0), by simp, by simp, Limbs.rep _, by simp, by simp [val]⟩ (Le_of (by simp [leE]) (by simp)) fun t => ?_)
  obtain ⟨⟨i, c, k⟩, h3, h4, h5, h6, h7⟩ := t
  dsimp only at h3 h4 h5 h6 h7 ⊢
  by_cases hlt : i < l.length
  · have hx := hl.getD i
    have hy := hm.getD i
    have ha := at_ok l hl i
    have hb := at_ok m hm i
    simp only [cNat] at ha hb
    have hi : i < c.length := by omega
    have hw := usub64 hx hy h6
    have hlo := usub_lo hx hy h6
    have hhi := usub_hi hx hy h6
    refine W_seq ?_
    ((refine W_seqV fun K hK => ?_); simp (disch := omega) only [regV_cons, effW_free, opF_move, ev_tmp, List.getD_cons_succ, List.getD_cons_zero, atK_ap, restV_ap, Eff.app, List.set, Eff.wi, Option.map_none, List.nil_append, List.cons_append, opF_len, ty25, lenW_sl, u32s_length, valK_ap, opF_binOp, ty3, binW_lss, nat_lt_int, hlt, decide_true, regV_nil, sepL, List.not_mem_nil, false_implies, implies_true, true_and])
    (refine hK _ ?_; clear hK K)
    (first | refine W_cond rfl (fun _ => ?_) (fun h => by cases h) | refine W_seq (W_cond rfl (fun _ => ?_) (fun h => by cases h)))
    refine W_skip ?_
    simp only [thenW]
    refine W_seq (W_block ?_)
    ((refine W_seqV fun K hK => ?_); simp (disch := omega) only [regV_cons, effW_free, opF_move, ev_tmp, List.getD_cons_zero, atK_ap, restV_ap, Eff.app, List.set, Eff.wi, Option.map_none, List.nil_append, List.getD_cons_succ, List.cons_append, opF_call, ev_func, List.map_cons, List.map_nil, callF_fn, List.append_nil, opF_binOp, ty71])
    (refine ⟨by kernel_rfl, rfl, _, ha, ?_⟩)
    (refine ⟨by kernel_rfl, rfl, _, hb, ?_⟩; (try simp (disch := omega) only [binW_sub, valK_ap, atK_ap, restV_ap, Eff.app, List.set, Eff.wi, Option.map_none, List.cons_append, List.nil_append, regV_cons, effW_free, opF_move, ev_tmp, List.getD_cons_succ, List.getD_cons_zero, opF_binOp, ty71, opF_assign, regV_nil, sepL, List.not_mem_nil, false_implies, implies_true, true_and]))
    simp (disch := omega) only [hw]
    (refine hK _ ?_; clear hK K)
    generalize (l.getD i 0 + 18446744073709551616 - m.getD i 0 - k) % 18446744073709551616 = d at *
    ((refine W_seqV fun K hK => ?_); simp (disch := omega) only [regV_cons, effW_free, opF_move, ev_tmp, List.getD_cons_succ, List.getD_cons_zero, atK_ap, restV_ap, Eff.app, List.set, Eff.wi, Option.map_none, List.nil_append, List.cons_append, opF_convert, ty71, ty79, convW_int, wrap_u32_nat, valK_ap, opF_indexAddr, ty25, objOf, indexAddrW_sref, ne_eq, reduceCtorEq, not_false_eq_true, nat_nonneg, nat_lt_int, kOk_arr, toNat_natCast, Nat.zero_add, opF_store, storeF_ptr, storeO_arr, storable, AV.one, cellsOf, List.length_cons, List.length_nil, forall_const, u32s_length, u32s_getD, Nat.reduceLeDiff, overlay, List.take_zero, List.drop_succ_cons, List.drop_nil, List.append_nil, u32s_set, wrK_ap, Option.map_some, regV_nil, sepL, List.not_mem_nil, false_implies, implies_true, true_and])
    ((repeat (refine And.intro (by first | omega | (show AV.pures _ = true; rfl)) ?_)); refine hK _ ?_; clear hK K)
    ((refine W_regV fun K hK => ?_); simp (disch := omega) only [regV_cons, effW_free, opF_move, ev_tmp, List.getD_cons_succ, List.getD_cons_zero, atK_ap, restV_ap, Eff.app, List.set, Eff.wi, Option.map_none, List.nil_append, opF_binOp, ty71, ev_const, cst_int, binW_shr, Int.reduceLE, Int.reduceToNat, min_u64, fdiv_pow, Nat.reducePow, hhi, valK_ap, List.cons_append, opF_assign, regV_nil, sepL, List.not_mem_nil, false_implies, implies_true, true_and])
    (refine hK _ ?_; clear hK K)
    simp only [thenW, blockW]
    ((refine W_regV fun K hK => ?_); simp (disch := omega) only [regV_cons, effW_free, opF_move, ev_tmp, List.getD_cons_succ, List.getD_cons_zero, atK_ap, restV_ap, Eff.app, List.set, Eff.wi, Option.map_none, List.nil_append, opF_binOp, ty3, ev_const, cst_int, binW_add, wrap_i64_one, valK_ap, List.cons_append, opF_assign, regV_nil, sepL, List.not_mem_nil, false_implies, implies_true, true_and])
    (refine hK _ ?_; clear hK K)
    simp only [thenW, blockW]
    refine ⟨⟨(i + 1, c.set i (d % 4294967296), if l.getD i 0 < m.getD i 0 + k then 1 else 0), by dsimp only; omega, by simpa using h4, h5.set i (by omega), by dsimp only; split <;> omega, ?_⟩, Le_of (by simp [leE]) (by simp), by dsimp only; omega⟩
    dsimp only
    rw [val_take_set hi, val_take_succ, val_take_succ, Nat.pow_succ]
    exact sub_round h7 hlo
  · obtain rfl : i = l.length := by omega
    have hml : m.length ≤ l.length ∨ l.length < m.length := by omega
    have h8 : val c + val m = val l + 4294967296 ^ l.length * k := by
      rw [List.take_length, List.take_of_length_le (by omega), val_take_of_lt (Nat.lt_of_le_of_lt hle (val_lt hl))] at h7
      exact h7
    obtain ⟨rfl, hv⟩ := sub_end h5 h4 h6 hle h8
    have hlt' : decide (l.length < l.length) = false := decide_eq_false (by omega)
    refine W_seq ?_
    ((refine W_seqV fun K hK => ?_); simp (disch := omega) only [Int.cast_ofNat_Int, regV_cons, effW_free, opF_move, ev_tmp, List.getD_cons_succ, List.getD_cons_zero, atK_ap, restV_ap, Eff.app, List.set, Eff.wi, Option.map_none, List.nil_append, List.cons_append, opF_len, ty25, lenW_sl, u32s_length, valK_ap, opF_binOp, ty3, binW_lss, Int.lt_irrefl, decide_false, regV_nil, sepL, List.not_mem_nil, false_implies, implies_true, true_and])
    (refine hK _ ?_; clear hK K)
    (first | refine W_cond rfl (fun h => by cases h) (fun _ => ?_) | refine W_seq (W_cond rfl (fun h => by cases h) (fun _ => ?_)))
    refine W_exit ?_
    simp only [thenW, blockW, if_true]
    (refine W.le ?_ (Le_freeze 16 (rows := u32s c) rfl (by simp) (.inl rfl)); simp only [St.freeze, List.map_cons, List.map_nil, List.set, if_true, if_false, Nat.reduceEqDiff, reduceCtorEq, List.drop_zero, u32s_take, u32s_drop, froz_any, froz_und, froz_int, froz_bool, froz_str, froz_nils, froz_sl, froz_ia, froz_nilp, froz_nilif, froz_nilfn, froz_nilmp, froz_gl, froz_sref, froz_ptr, froz_agg, froz_tup, froz_fn, froz_ifc, frozs_nil, frozs_cons, froz_dead, froz_arr])
    rw [List.take_of_length_le (by omega)]
    ((refine W_seqV fun K hK => ?_); simp (disch := omega) only [regV_cons, effW_free, opF_move, ev_tmp, List.getD_cons_succ, List.getD_cons_zero, atK_ap, restV_ap, Eff.app, List.set, Eff.wi, Option.map_none, List.nil_append, opF_call, ev_func, List.map_cons, List.map_nil, callF_fn, List.append_nil, List.cons_append, opF_assign, ev_const, cst_int, regV_nil, sepL, List.not_mem_nil, false_implies, implies_true, true_and])
    (refine ⟨by kernel_rfl, rfl, _, fnorm_ok c h5 (by omega), ?_⟩; (try simp (disch := omega) only [cN, cNat]))
    (refine hK _ ?_; clear hK K)
    refine W_ret ?_
    simp (disch := omega) only [retR, resW, resV, List.getD_cons_succ, List.getD_cons_zero, asOne_two, view_tup, views_cons, view_sl, view_int, views_nil, cN, cNat]
    rw [hv]

set_option maxHeartbeats 4000000 in
theorem fmul_ok (l m : List Nat) (hl : Limbs l) (hm : Limbs m) (h1 : l.length < 274877906944) (h2 : m.length < 274877906944) : Pure Try.prog 28 [cNat l, cNat m] (· = cN (val l * val m)) := by
  (refine pureW Try.func28 rfl (rs := [Go.ResultVar.tmp 4]) rfl (n := 68) rfl ?_; simp only [List.length_cons, List.length_nil, List.replicate, List.cons_append, List.nil_append])
  unfold cNat
  (repeat (first | (refine W_seqV fun K hK => ?_; (try simp (disch := omega) only [regV_cons, effW_free, opF_assign, ev_const, cst_nils, atK_ap, restV_ap, Eff.app, List.set, Eff.wi, Option.map_none, List.nil_append, regV_nil, sepL, List.not_mem_nil, false_implies, implies_true, true_and]); refine hK _ ?_; clear hK K) | (refine W_seqR fun K hK => ?_; (try simp (disch := omega) only [opsW_free, opW_move, St.ret, List.set, ev_tmp, List.getD_cons_zero, restO_ap, opW_len, ty25, List.getD_cons_succ, lenW_sl, u32s_length, retK_ap, opW_binOp, ty3, binW_add, wrap_i64_add, opW_makeSlice, makeW_slice, dead, List.getElem?_cons_succ, List.getElem?_cons_zero, ty79, ne_eq, reduceCtorEq, not_false_eq_true, List.length_cons, List.length_nil, Nat.zero_add, nat_nonneg, Int.cast_ofNat_Int, toNat_natCast, St.seth, u32s_rep, retK2_ap, opW_assign, opsW_nil, true_and]); (repeat refine And.intro (by omega) ?_); refine hK _ ?_; clear hK K)))
  ((refine W_seq ?_; refine W_seqR fun K hK => ?_); simp (disch := omega) only [opsW_free, opW_assign, St.ret, List.set, ev_const, cst_int, restO_ap, opsW_nil])
  (refine hK _ ?_; clear hK K)
  refine W_block (W_loop (fun t : {t : Nat × List Nat // t.1 ≤ l.length ∧ t.2.length = l.length + m.length ∧ Limbs t.2 ∧ val (t.2.take (t.1 + m.length)) = val (l.take t.1) * val m} =>
      ⟨((.sl (u32s l)) :: (.sl (u32s m)) :: .any :: .any :: .any :: (.sref 15 0 (l.length + m.length)) :: (.int .i64 t.1.1) :: .any :: .any :: .any :: .any :: .any :: .any :: .any :: .any :: .any :: .any :: .any :: .any :: .any :: .any :: .any :: .any :: .any :: .any :: .any :: .any :: .any :: .any :: .any :: .any :: .any :: .any :: .any :: .any :: .any :: .any :: .any :: .any :: .any :: .any :: .any :: .any :: .any :: .any :: .any :: .any :: .any :: .any :: .any :: .any :: .any :: .any :: .any :: .any :: .any :: .any :: .any :: .any :: .any :: .any :: .any :: .any :: .any :: .any :: .any :: .any :: .any :: []), (.dead :: .dead :: .dead :: .dead :: .dead :: .dead :: .dead :: .dead :: .dead :: .dead :: .dead :: .dead :: .dead :: .dead :: .dead :: (.arr 79 1 true (u32s t.1.2)) :: .dead :: .dead :: .dead :: .dead :: .dead :: .dead :: .dead :: .dead :: .dead :: .dead :: .dead :: .dead :: .dead :: .dead :: .dead :: .dead :: .dead :: .dead :: .dead :: .dead :: .dead :: .dead :: .dead :: .dead :: .dead :: .dead :: .dead :: .dead :: .dead :: .dead :: .dead :: .dead :: .dead :: .dead :: .dead :: .dead :: .dead :: .dead :: .dead :: .dead :: .dead :: .dead :: .dead :: .dead :: .dead :: .dead :: .dead :: .dead :: .dead :: .dead :: .dead :: .dead :: [])⟩) (fun t => l.length - t.1.1)
    ⟨(0, List.replicate (l.length + m.length) 0), by simp, by simp, Limbs.rep _, by simp [val, List.take_replicate, val_zeros]⟩ (Le_of (by simp [leE]) (by simp)) fun t => ?_)
  obtain ⟨⟨i, c0⟩, h3, h4, h5, h7⟩ := t
  dsimp only at h3 h4 h5 h7 ⊢
  by_cases hlt : i < l.length
  · have hx := hl.getD i
    refine W_seq ?_
    ((refine W_seqV fun K hK => ?_); simp (disch := omega) only [regV_cons, effW_free, opF_move, ev_tmp, List.getD_cons_succ, List.getD_cons_zero, atK_ap, restV_ap, Eff.app, List.set, Eff.wi, Option.map_none, List.nil_append, List.cons_append, opF_len, ty25, lenW_sl, u32s_length, valK_ap, opF_binOp, ty3, binW_lss, nat_lt_int, hlt, decide_true, regV_nil, sepL, List.not_mem_nil, false_implies, implies_true, true_and])
    (refine hK _ ?_; clear hK K)
    (first | refine W_cond rfl (fun _ => ?_) (fun h => by cases h) | refine W_seq (W_cond rfl (fun _ => ?_) (fun h => by cases h)))
    refine W_skip ?_
    simp only [thenW]
    refine W_seq (W_block ?_)
    (repeat (refine W_seqV fun K hK => ?_; (try simp (disch := omega) only [regV_cons, effW_free, opF_assign, ev_const, cst_int, atK_ap, restV_ap, Eff.app, List.set, Eff.wi, Option.map_none, List.nil_append, regV_nil, sepL, List.not_mem_nil, false_implies, implies_true, true_and]); refine hK _ ?_; clear hK K))
    refine W_seq ?_
    ((refine W_seqV fun K hK => ?_); simp (disch := omega) only [regV_cons, effW_free, opF_assign, ev_const, cst_int, atK_ap, restV_ap, Eff.app, List.set, Eff.wi, Option.map_none, List.nil_append, regV_nil, sepL, List.not_mem_nil, false_implies, implies_true, true_and])
    (refine hK _ ?_; clear hK K)
    refine W_block (W_loop (fun t : {t : Nat × List Nat × Nat // t.1 ≤ m.length ∧ t.2.1.length = l.length + m.length ∧ Limbs t.2.1 ∧ t.2.2 < 4294967296 ∧ val (t.2.1.take (i + m.length)) + 4294967296 ^ (i + t.1) * t.2.2 = val (c0.take (i + m.length)) + 4294967296 ^ i * l.getD i 0 * val (m.take t.1)} =>
      ⟨((.sl (u32s l)) :: (.sl (u32s m)) :: .any :: .any :: .any :: (.sref 15 0 (l.length + m.length)) :: (.int .i64 i) :: (.int .u64 t.1.2.2) :: (.int .i64 t.1.1) :: .any :: .any :: .any :: .any :: .any :: .any :: .any :: .any :: .any :: .any :: .any :: .any :: .any :: .any :: .any :: .any :: .any :: .any :: .any :: .any :: .any :: .any :: .any :: .any :: .any :: .any :: .any :: .any :: .any :: .any :: .any :: .any :: .any :: .any :: .any :: .any :: .any :: .any :: .any :: .any :: .any :: .any :: .any :: .any :: .any :: .any :: .any :: .any :: .any :: .any :: .any :: .any :: .any :: .any :: .any :: .any :: .any :: .any :: .any :: []), (.dead :: .dead :: .dead :: .dead :: .dead :: .dead :: .dead :: .dead :: .dead :: .dead :: .dead :: .dead :: .dead :: .dead :: .dead :: (.arr 79 1 true (u32s t.1.2.1)) :: .dead :: .dead :: .dead :: .dead :: .dead :: .dead :: .dead :: .dead :: .dead :: .dead :: .dead :: .dead :: .dead :: .dead :: .dead :: .dead :: .dead :: .dead :: .dead :: .dead :: .dead :: .dead :: .dead :: .dead :: .dead :: .dead :: .dead :: .dead :: .dead :: .dead :: .dead :: .dead :: .dead :: .dead :: .dead :: .dead :: .dead :: .dead :: .dead :: .dead :: .dead :: .dead :: .dead :: .dead :: .dead :: .dead :: .dead :: .dead :: .dead :: .dead :: .dead :: .dead :: [])⟩) (fun t => m.length - t.1.1)
      ⟨(0, c0, 0), by simp, h4, h5, by simp, by simp [val]⟩ (Le_of (by simp [leE]) rfl) fun t => ?_)
    obtain ⟨⟨j, c, k⟩, h8, h9, h10, h11, h12⟩ := t
    dsimp only at h8 h9 h10 h11 h12 ⊢
    by_cases hjt : j < m.length
    · have hy := hm.getD j
      have hz := h10.getD (i + j)
      have hxy : l.getD i 0 * m.getD j 0 ≤ 4294967295 * 4294967295 := Nat.mul_le_mul (by omega) (by omega)
      refine W_seq ?_
      ((refine W_seqV fun K hK => ?_); simp (disch := omega) only [regV_cons, effW_free, opF_move, ev_tmp, List.getD_cons_succ, List.getD_cons_zero, atK_ap, restV_ap, Eff.app, List.set, Eff.wi, Option.map_none, List.nil_append, List.cons_append, opF_len, ty25, lenW_sl, u32s_length, valK_ap, opF_binOp, ty3, binW_lss, nat_lt_int, hjt, decide_true, regV_nil, sepL, List.not_mem_nil, false_implies, implies_true, true_and])
      (refine hK _ ?_; clear hK K)
      (first | refine W_cond rfl (fun _ => ?_) (fun h => by cases h) | refine W_seq (W_cond rfl (fun _ => ?_) (fun h => by cases h)))
      refine W_skip ?_
      simp only [thenW]
      refine W_seq (W_block ?_)
      ((refine W_seqD mixed [] (by kernel_rfl) fun K hK => ?_); simp (disch := omega) only [regV_cons, effW_free, opF_move, ev_tmp, List.getD_cons_zero, atK_ap, restV_ap, Eff.app, List.set, Eff.wi, Option.map_none, List.nil_append, List.getD_cons_succ, List.cons_append, opF_indexAddr, ty25, objOf, indexAddrW_sl, ty79, ne_eq, reduceCtorEq, not_false_eq_true, nat_nonneg, u32s_length, nat_lt_int, hlt, u32s_all, toNat_natCast, u32s_getD, valK_ap, opF_load, TI.isAgg, Bool.false_eq_true, or_true, loadW_ia, Nat.zero_add, List.length_cons, List.length_nil, Nat.reduceLeDiff, ofCells, List.drop_zero, List.take_succ_cons, List.take_zero, List.headD_cons, if_false, opF_convert, ty71, convW_int, wrap_u64_nat, opF_binOp, binW_mul, wrap_u64_mul, ty3, binW_add, wrap_i64_add, indexAddrW_sref, kOk_arr, loadW_ptr, loadO_arr, wrap_u64_add, opF_assign, regV_nil, sepL, List.not_mem_nil, false_implies, implies_true, true_and])
      ((repeat refine And.intro (by omega) ?_); refine hK _ ?_; clear hK K)
      ((refine W_seqV fun K hK => ?_); simp (disch := omega) only [regV_cons, effW_free, opF_move, ev_tmp, List.getD_cons_succ, List.getD_cons_zero, atK_ap, restV_ap, Eff.app, List.set, Eff.wi, Option.map_none, List.nil_append, List.cons_append, opF_binOp, ty3, binW_add, wrap_i64_add, valK_ap, opF_convert, ty71, ty79, convW_int, wrap_u32_nat, opF_indexAddr, ty25, objOf, indexAddrW_sref, ne_eq, reduceCtorEq, not_false_eq_true, nat_nonneg, nat_lt_int, kOk_arr, toNat_natCast, Nat.zero_add, opF_store, storeF_ptr, storeO_arr, storable, AV.one, cellsOf, List.length_cons, List.length_nil, forall_const, u32s_length, u32s_getD, Nat.reduceLeDiff, overlay, List.take_zero, List.drop_succ_cons, List.drop_nil, List.append_nil, u32s_set, wrK_ap, Option.map_some, regV_nil, sepL, List.not_mem_nil, false_implies, implies_true, true_and])
      ((repeat (refine And.intro (by first | omega | (show AV.pures _ = true; rfl)) ?_)); refine hK _ ?_; clear hK K)
      ((refine W_regV fun K hK => ?_); simp (disch := omega) only [regV_cons, effW_free, opF_move, ev_tmp, List.getD_cons_succ, List.getD_cons_zero, atK_ap, restV_ap, Eff.app, List.set, Eff.wi, Option.map_none, List.nil_append, opF_binOp, ty71, ev_const, cst_int, binW_shr, Int.reduceLE, Int.reduceToNat, min_u64, fdiv_pow, Nat.reducePow, valK_ap, List.cons_append, opF_assign, regV_nil, sepL, List.not_mem_nil, false_implies, implies_true, true_and])
      (refine hK _ ?_; clear hK K)
      simp only [thenW, blockW]
      ((refine W_regV fun K hK => ?_); simp (disch := omega) only [regV_cons, effW_free, opF_move, ev_tmp, List.getD_cons_succ, List.getD_cons_zero, atK_ap, restV_ap, Eff.app, List.set, Eff.wi, Option.map_none, List.nil_append, opF_binOp, ty3, ev_const, cst_int, binW_add, wrap_i64_one, valK_ap, List.cons_append, opF_assign, regV_nil, sepL, List.not_mem_nil, false_implies, implies_true, true_and])
      (refine hK _ ?_; clear hK K)
      simp only [thenW, blockW]
      refine ⟨⟨(j + 1, c.set (i + j) ((l.getD i 0 * m.getD j 0 + c.getD (i + j) 0 + k) % 4294967296), (l.getD i 0 * m.getD j 0 + c.getD (i + j) 0 + k) / 4294967296), by dsimp only; omega, by simpa using h9, h10.set _ (by omega), by dsimp only; omega, ?_⟩, Le_of (by simp [leE]) (by simp), by dsimp only; omega⟩
      dsimp only
      have hp : i + j < (c.take (i + m.length)).length := by rw [List.length_take]; omega
      have hset := val_set hp ((l.getD i 0 * m.getD j 0 + c.getD (i + j) 0 + k) % 4294967296)
      rw [show (c.take (i + m.length)).getD (i + j) 0 = c.getD (i + j) 0 by simp [List.getD_eq_getElem?_getD, List.getElem?_take, show j < m.length by omega]] at hset
      rw [List.take_set, val_take_succ, ← Nat.add_assoc, Nat.pow_succ]
      exact mul_round h12 hset (by omega) (Nat.pow_add _ _ _)
    · obtain rfl : j = m.length := by omega
      have hjt' : decide (m.length < m.length) = false := decide_eq_false (by omega)
      have hp : i + m.length < c.length := by omega
      rw [List.take_length] at h12
      refine W_seq ?_
      ((refine W_seqV fun K hK => ?_); simp (disch := omega) only [regV_cons, effW_free, opF_move, ev_tmp, List.getD_cons_succ, List.getD_cons_zero, atK_ap, restV_ap, Eff.app, List.set, Eff.wi, Option.map_none, List.nil_append, List.cons_append, opF_len, ty25, lenW_sl, u32s_length, valK_ap, opF_binOp, ty3, binW_lss, Int.lt_irrefl, decide_false, regV_nil, sepL, List.not_mem_nil, false_implies, implies_true, true_and])
      (refine hK _ ?_; clear hK K)
      (first | refine W_cond rfl (fun h => by cases h) (fun _ => ?_) | refine W_seq (W_cond rfl (fun h => by cases h) (fun _ => ?_)))
      refine W_exit ?_
      simp only [thenW, blockW, if_true]
      ((refine W_regV fun K hK => ?_); simp (disch := omega) only [regV_cons, effW_free, opF_move, ev_tmp, List.getD_cons_succ, List.getD_cons_zero, atK_ap, restV_ap, Eff.app, List.set, Eff.wi, Option.map_none, List.nil_append, List.cons_append, opF_len, ty25, lenW_sl, u32s_length, valK_ap, opF_binOp, ty3, binW_add, wrap_i64_add, opF_convert, ty71, ty79, convW_int, wrap_u32_nat, opF_indexAddr, objOf, indexAddrW_sref, ne_eq, reduceCtorEq, not_false_eq_true, nat_nonneg, nat_lt_int, kOk_arr, toNat_natCast, Nat.zero_add, opF_store, storeF_ptr, storeO_arr, storable, AV.one, cellsOf, List.length_cons, List.length_nil, forall_const, u32s_getD, Nat.reduceLeDiff, overlay, List.take_zero, List.drop_succ_cons, List.drop_nil, List.append_nil, u32s_set, wrK_ap, Option.map_some, regV_nil, sepL, List.not_mem_nil, false_implies, implies_true, true_and])
      ((repeat (refine And.intro (by first | omega | (show AV.pures _ = true; rfl)) ?_)); refine hK _ ?_; clear hK K)
      simp only [thenW, blockW]
      ((refine W_regV fun K hK => ?_); simp (disch := omega) only [regV_cons, effW_free, opF_move, ev_tmp, List.getD_cons_succ, List.getD_cons_zero, atK_ap, restV_ap, Eff.app, List.set, Eff.wi, Option.map_none, List.nil_append, opF_binOp, ty3, ev_const, cst_int, binW_add, wrap_i64_one, valK_ap, List.cons_append, opF_assign, regV_nil, sepL, List.not_mem_nil, false_implies, implies_true, true_and])
      (refine hK _ ?_; clear hK K)
      simp only [thenW, blockW]
      refine ⟨⟨(i + 1, c.set (i + m.length) (k % 4294967296)), by dsimp only; omega, by simpa using h9, h10.set _ (by omega), ?_⟩, Le_of (by simp [leE]) (by simp), by dsimp only; omega⟩
      dsimp only
      rw [show i + 1 + m.length = i + m.length + 1 by omega, val_take_set hp, Nat.mod_eq_of_lt h11, h12, h7, val_take_succ, Nat.add_mul]
  · obtain rfl : i = l.length := by omega
    have hlt' : decide (l.length < l.length) = false := decide_eq_false (by omega)
    rw [List.take_length, List.take_of_length_le (by omega)] at h7
    refine W_seq ?_
    ((refine W_seqV fun K hK => ?_); simp (disch := omega) only [regV_cons, effW_free, opF_move, ev_tmp, List.getD_cons_succ, List.getD_cons_zero, atK_ap, restV_ap, Eff.app, List.set, Eff.wi, Option.map_none, List.nil_append, List.cons_append, opF_len, ty25, lenW_sl, u32s_length, valK_ap, opF_binOp, ty3, binW_lss, Int.lt_irrefl, decide_false, regV_nil, sepL, List.not_mem_nil, false_implies, implies_true, true_and])
    (refine hK _ ?_; clear hK K)
    (first | refine W_cond rfl (fun h => by cases h) (fun _ => ?_) | refine W_seq (W_cond rfl (fun h => by cases h) (fun _ => ?_)))
    refine W_exit ?_
    simp only [thenW, blockW, if_true]
    (refine W.le ?_ (Le_freeze 15 (rows := u32s c0) rfl (by simp) (.inl rfl)); simp only [St.freeze, List.map_cons, List.map_nil, List.set, if_true, if_false, Nat.reduceEqDiff, reduceCtorEq, List.drop_zero, u32s_take, u32s_drop, froz_any, froz_und, froz_int, froz_bool, froz_str, froz_nils, froz_sl, froz_ia, froz_nilp, froz_nilif, froz_nilfn, froz_nilmp, froz_gl, froz_sref, froz_ptr, froz_agg, froz_tup, froz_fn, froz_ifc, frozs_nil, frozs_cons, froz_dead, froz_arr])
    rw [List.take_of_length_le (by omega)]
    ((refine W_seqV fun K hK => ?_); simp (disch := omega) only [regV_cons, effW_free, opF_move, ev_tmp, List.getD_cons_succ, List.getD_cons_zero, atK_ap, restV_ap, Eff.app, List.set, Eff.wi, Option.map_none, List.nil_append, opF_call, ev_func, List.map_cons, List.map_nil, callF_fn, List.append_nil, List.cons_append, opF_assign, regV_nil, sepL, List.not_mem_nil, false_implies, implies_true, true_and])
    (refine ⟨by kernel_rfl, rfl, _, fnorm_ok c0 h5 (by omega), ?_⟩; (try simp (disch := omega) only [cN, cNat]))
    (refine hK _ ?_; clear hK K)
    refine W_ret ?_
    simp (disch := omega) only [retR, resW, resV, List.getD_cons_succ, List.getD_cons_zero, asOne_one, view_sl, cN, cNat]
    rw [h7]
end Go.Proofs.Ytjkjapjcmbfkgaa.Vm

/-
  Binary digits of limbs; halving; long division digit by digit in base 2: plain laws.
-/
namespace Go.Proofs.Ytjkjapjcmbfkgaa.Vm
open Go Go.RowKit
set_option linter.unusedVariables false
set_option linter.unusedSimpArgs false

theorem val_div (l : List Nat) (h : Limbs l) (p : Nat) : val l / 4294967296 ^ p = val (l.drop p) := by
  by_cases hp : p ≤ l.length
  · have h1 := val_drop_split l p hp
    have h2 := val_lt (h.take p)
    rw [List.length_take, Nat.min_eq_left hp] at h2
    rw [h1]
    generalize 4294967296 ^ p = P at *
    rw [Nat.add_comm, Nat.mul_add_div (by omega), Nat.div_eq_of_lt h2, Nat.add_zero]
  · rw [List.drop_eq_nil_of_le (by omega)]
    have h2 := val_lt h
    have h3 : 4294967296 ^ l.length ≤ 4294967296 ^ p := Nat.pow_le_pow_right (by omega) (by omega)
    generalize 4294967296 ^ p = P at *
    rw [Nat.div_eq_of_lt (by omega)]
    rfl
theorem val_limb (l : List Nat) (h : Limbs l) (p : Nat) : val l / 4294967296 ^ p % 4294967296 = l.getD p 0 := by
  rw [val_div l h]
  by_cases hp : p < l.length
  · have h1 := h.getD p
    rw [drop_getD hp, val]
    omega
  · rw [List.drop_eq_nil_of_le (by omega), List.getD_eq_getElem?_getD, List.getElem?_eq_none (by omega)]
    rfl
theorem pow_B (p r : Nat) : 2 ^ (32 * p + r) = 4294967296 ^ p * 2 ^ r := by
  rw [Nat.pow_add, Nat.pow_mul]
/-- A digit of a number is one of a limb's. -/
theorem bit_limb (l : List Nat) (h : Limbs l) (p r : Nat) (hr : r < 32) : val l / 2 ^ (32 * p + r) % 2 = l.getD p 0 / 2 ^ r % 2 := by
  rw [pow_B, ← Nat.div_div_eq_div_mul, ← val_limb l h p]
  generalize val l / 4294967296 ^ p = x
  have h1 : (4294967296 : Nat) = 2 ^ r * 2 ^ (32 - r) := by rw [← Nat.pow_add, show r + (32 - r) = 32 by omega]
  have h2 : 2 ^ (32 - r) = 2 * 2 ^ (31 - r) := by rw [show 32 - r = (31 - r) + 1 by omega, Nat.pow_succ, Nat.mul_comm]
  rw [h1, Nat.mod_mul_right_div_self, h2, Nat.mod_mul_right_mod]
def bitV (n i : Nat) : Bool := n / 2 ^ i % 2 == 1
theorem and1 (x : Nat) : x &&& 1 = x % 2 := Nat.and_one_is_mod x
/-- Where a number is a multiple of 2^(32 p + r + 1), its p-th limb is one of 2^(r + 1). -/
theorem limb_mul {q : List Nat} (h : Limbs q) {p r k : Nat} (hr : r < 32) (hv : val q = 2 ^ (32 * p + r + 1) * k) : q.getD p 0 % 2 ^ (r + 1) = 0 := by
  rw [← val_limb q h p, hv, show 32 * p + r + 1 = 32 * p + (r + 1) by omega, pow_B, Nat.mul_assoc, Nat.mul_div_cancel_left _ (Nat.pow_pos (by omega))]
  have h1 : (4294967296 : Nat) = 2 ^ (r + 1) * 2 ^ (31 - r) := by rw [← Nat.pow_add, show r + 1 + (31 - r) = 32 by omega]
  rw [h1, Nat.mod_mul_right_mod, Nat.mul_mod_right]
theorem or_bit {x r : Nat} (h : x % 2 ^ (r + 1) = 0) : (x ||| 2 ^ r) = x + 2 ^ r := by
  obtain ⟨k, rfl⟩ : ∃ k, x = k * 2 ^ (r + 1) := ⟨x / 2 ^ (r + 1), by have := Nat.div_add_mod x (2 ^ (r + 1)); rw [h, Nat.add_zero, Nat.mul_comm] at this; exact this.symm⟩
  exact or_add (a := k) (k := r + 1) (b := 2 ^ r) (by rw [Nat.pow_succ]; have : 0 < 2 ^ r := Nat.pow_pos (by omega); omega)
theorem or_bit_lt {x r : Nat} (hx : x < 4294967296) (hr : r < 32) (h : x % 2 ^ (r + 1) = 0) : x + 2 ^ r < 4294967296 := by
  have h1 : (4294967296 : Nat) = 2 ^ (r + 1) * 2 ^ (31 - r) := by rw [← Nat.pow_add, show r + 1 + (31 - r) = 32 by omega]
  have h3 : x / 2 ^ (r + 1) < 2 ^ (31 - r) := Nat.div_lt_of_lt_mul (by rw [← h1]; exact hx)
  have h4 : x = 2 ^ (r + 1) * (x / 2 ^ (r + 1)) := by have := Nat.div_add_mod x (2 ^ (r + 1)); omega
  have h5 : 2 ^ (r + 1) * (x / 2 ^ (r + 1) + 1) ≤ 2 ^ (r + 1) * 2 ^ (31 - r) := Nat.mul_le_mul_left _ h3
  rw [Nat.mul_add, ← h4, ← h1, Nat.pow_succ] at h5
  have : 0 < 2 ^ r := Nat.pow_pos (by omega)
  omega

/-! ### one digit more -/
theorem div_step {a b i r q : Nat} (hb : 0 < b) (hr : r = a / 2 ^ (i + 1) % b) (hq : q = a / 2 ^ (i + 1) / b * 2 ^ (i + 1)) :
    a / 2 ^ i = b * (2 * (a / 2 ^ (i + 1) / b)) + (2 * r + a / 2 ^ i % 2) ∧ 2 * r + a / 2 ^ i % 2 < 2 * b ∧
    (b ≤ 2 * r + a / 2 ^ i % 2 → (2 * r + a / 2 ^ i % 2) - b = a / 2 ^ i % b ∧ q + 2 ^ i = a / 2 ^ i / b * 2 ^ i) ∧
    (2 * r + a / 2 ^ i % 2 < b → 2 * r + a / 2 ^ i % 2 = a / 2 ^ i % b ∧ q = a / 2 ^ i / b * 2 ^ i) := by
  have e1 : a / 2 ^ (i + 1) = a / 2 ^ i / 2 := by rw [Nat.pow_succ, Nat.div_div_eq_div_mul]
  rw [e1] at hr hq ⊢
  generalize hx : a / 2 ^ i = x at *
  have e2 := Nat.div_add_mod x 2
  have e3 := Nat.div_add_mod (x / 2) b
  have e4 := Nat.mod_lt (x / 2) hb
  generalize hm : x / 2 / b = m at *
  have e5 : x = b * (2 * m) + (2 * r + x % 2) := by
    rw [hr]
    have : b * (2 * m) = 2 * (b * m) := by rw [← Nat.mul_assoc, Nat.mul_comm b 2, Nat.mul_assoc]
    omega
  have hrb : r < b := by omega
  refine ⟨e5, by omega, fun h => ?_, fun h => ?_⟩
  · have e6 : x = b * (2 * m + 1) + (2 * r + x % 2 - b) := by rw [Nat.mul_add, Nat.mul_one]; omega
    have e7 : x / b = 2 * m + 1 := by
      rw [e6, Nat.mul_add_div hb, Nat.div_eq_of_lt (by omega), Nat.add_zero]
    have e8 : x % b = 2 * r + x % 2 - b := by
      conv => lhs; rw [e6]
      rw [Nat.mul_add_mod, Nat.mod_eq_of_lt (by omega)]
    refine ⟨e8.symm, ?_⟩
    rw [e7, hq, Nat.pow_succ, Nat.add_mul, Nat.one_mul]
    rw [show m * (2 ^ i * 2) = 2 * m * 2 ^ i by rw [Nat.mul_comm (2 ^ i) 2, ← Nat.mul_assoc, Nat.mul_comm m 2]]
  · have e7 : x / b = 2 * m := by
      rw [e5, Nat.mul_add_div hb, Nat.div_eq_of_lt h, Nat.add_zero]
    have e8 : x % b = 2 * r + x % 2 := by
      conv => lhs; rw [e5]
      rw [Nat.mul_add_mod, Nat.mod_eq_of_lt h]
    refine ⟨e8.symm, ?_⟩
    rw [e7, hq, Nat.pow_succ]
    rw [show m * (2 ^ i * 2) = 2 * m * 2 ^ i by rw [Nat.mul_comm (2 ^ i) 2, ← Nat.mul_assoc, Nat.mul_comm m 2]]
/-- Doubling, limb by limb. -/
theorem twice_lo {x k : Nat} (hk : k ≤ 1) : (x * 2 ^ 1 % 4294967296 ||| k) = x * 2 % 4294967296 + k := by
  have h1 : x * 2 ^ 1 % 4294967296 = (x % 2147483648) * 2 ^ 1 := by omega
  rw [h1, or_add (by omega)]
theorem twice_round {C L P x k c' k' : Nat} (h : C + P * k = 2 * L + c') (hk : k ≤ 1) (hx : x < 4294967296) (hk' : k' = x / 2147483648) : C + P * (x * 2 % 4294967296 + k) + P * 4294967296 * k' = 2 * (L + P * x) + c' := by
  subst hk'
  have h1 : x * 2 % 4294967296 + 4294967296 * (x / 2147483648) = 2 * x := by omega
  have h2 : P * (x * 2 % 4294967296) + P * 4294967296 * (x / 2147483648) = 2 * (P * x) := by
    rw [Nat.mul_assoc, ← Nat.mul_add, h1, ← Nat.mul_assoc, Nat.mul_comm P 2, Nat.mul_assoc]
  rw [Nat.mul_add, Nat.mul_add]
  omega

/-! ### the greatest common divisor by halves -/
theorem gcd_half_both {a b : Nat} (ha : a % 2 = 0) (hb : b % 2 = 0) : Nat.gcd a b = Nat.gcd (a / 2) (b / 2) * 2 := by
  obtain ⟨x, rfl⟩ : ∃ x, a = 2 * x := ⟨a / 2, by omega⟩
  obtain ⟨y, rfl⟩ : ∃ y, b = 2 * y := ⟨b / 2, by omega⟩
  rw [Nat.gcd_mul_left, Nat.mul_div_cancel_left _ (by omega), Nat.mul_div_cancel_left _ (by omega), Nat.mul_comm]
theorem gcd_half_left {a b : Nat} (ha : a % 2 = 0) (hb : b % 2 = 1) : Nat.gcd (a / 2) b = Nat.gcd a b := by
  obtain ⟨x, rfl⟩ : ∃ x, a = 2 * x := ⟨a / 2, by omega⟩
  rw [Nat.mul_div_cancel_left _ (by omega)]
  have hc : Nat.Coprime 2 b := by
    rw [Nat.coprime_comm, Nat.Coprime]
    have h1 := Nat.gcd_dvd_left b 2
    have h2 := Nat.le_of_dvd (by omega) (Nat.gcd_dvd_right b 2)
    have h3 := Nat.gcd_pos_of_pos_right b (show 0 < 2 by omega)
    rcases (show Nat.gcd b 2 = 1 ∨ Nat.gcd b 2 = 2 by omega) with h | h
    · exact h
    · rw [h] at h1; omega
  exact (hc.gcd_mul_left_cancel x).symm
theorem gcd_half_right {a b : Nat} (ha : a % 2 = 1) (hb : b % 2 = 0) : Nat.gcd a (b / 2) = Nat.gcd a b := by
  rw [Nat.gcd_comm, gcd_half_left hb ha, Nat.gcd_comm]
theorem gcd_less {a b : Nat} (h : a ≤ b) : Nat.gcd a (b - a) = Nat.gcd a b := by
  have := Nat.gcd_add_self_right (m := a) (n := b - a)
  rw [Nat.sub_add_cancel h] at this
  exact this.symm
end Go.Proofs.Ytjkjapjcmbfkgaa.Vm

