/-
  The law ImpliedHolds holds of the given program, for all arguments of bulk at most 1048576: no further conditions.
-/
import Derived.Test.YtjkjapjcmbfkgaaGreatHlds7
import Derived.Orders
import Derived.Below
import Derived.Laws.AppendOwn
import Derived.Laws.MakeOwn
import Derived.Laws.CopyRow
import Derived.Laws.Rows
import Derived.Laws.Cells
import Derived.Tactics
import Derived.Laws.BitsLemmas
import Derived.Test.YtjkjapjcmbfkgaaGreatProg
import Derived.Test.YtjkjapjcmbfkgaaGreatRows
import Derived.WalkKit
import Derived.ProofKit
import Derived.Carry
import Derived.OpenShut
import Derived.JoinedCond

/-
  Values of variables: fulcrumlaw10.valued, fulcrumref08.Keeps, fulcrumref06.Deltas.
-/
namespace Go.Proofs.YtjkjapjcmbfkgaaGreat.Vm
open Go Go.RowKit
set_option maxRecDepth 100000
set_option linter.unusedVariables false
set_option linter.unusedSimpArgs false
theorem sPo {G G' : Prop} (h : G') (e : G = G' := by conv => lhs; simp (disch := omega) only [rowsOf, cNat, cN, St.ret, St.seth, Eff.app, Eff.wi, sepL, guardOf, St.known, objOf, List.set, sliceW, litW, copyW, lenOf, bnd, mxOk, ofCells, TI.isAgg, cellsOf, storable, AV.one, dead, laid, overlay, reduceCtorEq, Int.reduceLE, Int.reduceLT, Int.reduceSub, Int.reduceAdd, Nat.reduceMul, Int.reduceToNat, Nat.reducePow, Int.reduceNeg, Nat.reduceAdd, Nat.reduceLT, Nat.reduceLeDiff, sA, sB, Nat.reduceEqDiff, cQ, cD, tab_length, List.take_length, tab_drop, tab_take, tab_nil, rowD_all, rowD_one, rowD_pure, rowL_all, rowL_one, rowL_pure, rowQ_all, rowQ_one, rowQ_pure, sT]) : G := e.mpr h
theorem sPoX {G G' P : Prop} (p : P) (h : G') (e : P → G = G' := by intro p; conv => lhs; simp (disch := omega) only [rowsOf, cNat, cN, St.ret, St.seth, Eff.app, Eff.wi, sepL, guardOf, St.known, objOf, List.set, sliceW, litW, copyW, lenOf, bnd, mxOk, ofCells, TI.isAgg, cellsOf, storable, AV.one, dead, laid, overlay, reduceCtorEq, Int.reduceLE, Int.reduceLT, Int.reduceSub, Int.reduceAdd, Nat.reduceMul, Int.reduceToNat, Nat.reducePow, Int.reduceNeg, Nat.reduceAdd, Nat.reduceLT, Nat.reduceLeDiff, sA, sB, Nat.reduceEqDiff, cQ, cD, tab_length, List.take_length, tab_drop, tab_take, tab_nil, rowD_all, rowD_one, rowD_pure, rowL_all, rowL_one, rowL_pure, rowQ_all, rowQ_one, rowQ_pure, sT, p]) : G := (e p).mpr h
theorem sPoV {G G' : Prop} (h : G') (e : G = G' := by conv => lhs; simp (disch := omega) only [rowsOf, cNat, cN, St.ret, St.seth, Eff.app, Eff.wi, sepL, guardOf, St.known, objOf, List.set, sliceW, litW, copyW, lenOf, bnd, mxOk, ofCells, TI.isAgg, cellsOf, storable, AV.one, dead, laid, overlay, reduceCtorEq, Int.reduceLE, Int.reduceLT, Int.reduceSub, Int.reduceAdd, Nat.reduceMul, Int.reduceToNat, Nat.reducePow, Int.reduceNeg, Nat.reduceAdd, Nat.reduceLT, Nat.reduceLeDiff, sA, sB, Nat.reduceEqDiff, cQ, cD, tab_length, List.take_length, tab_drop, tab_take, tab_nil, rowD_all, rowD_one, rowD_pure, rowL_all, rowL_one, rowL_pure, rowQ_all, rowQ_one, rowQ_pure, sT, view_sref, viewRef, view_agg, views_cons, views_nil, view_bool, view_int, view_sl, view_nils, view_str, view_tup, view_nilif]) : G := e.mpr h
theorem aPo {G G' : Prop} (h : G') (f : Wr G' → G := by intro h; (repeat (first | (refine W_seqV fun K hK => ?_; (try (refine sPo ?_; try exact True.intro)); (repeat refine aI ?_); refine hK _ ?_; clear hK K) | (refine W_seqR fun K hK => ?_; (try (refine sPo ?_; try exact True.intro)); (repeat refine aI ?_); refine hK _ ?_; clear hK K) | (refine W_seqD mixed [] (by kernel_rfl) fun K hK => ?_; (try (refine sPo ?_; try exact True.intro)); (repeat refine aI ?_); refine hK _ ?_; clear hK K))); exact h.out) : G := f ⟨h⟩
def rowD (d : DD) : List AV := d.cells
theorem rowD_all (f : List DD) : AllLen 6 (tab rowD f) := tab_all (k := 6) (fun _ => rfl) f
theorem rowD_one (f : List DD) : AllOne (tab rowD f) := tab_one (fun _ => rfl) f
theorem rowD_pure (f : List DD) : AllPure (tab rowD f) := tab_pure (fun _ => rfl) f
instance : Inhabited DD := ⟨zeroD0⟩
def valD (ds : List DD) (v : Int) : DD := if 0 ≤ v ∧ v < (ds.length : Int) then ds.getD v.toNat default else zeroD0

theorem valued_ok (ds : List DD) (v : Int) : Pure Tryz.prog 46 [.sl (tab rowD ds), .int .i64 v] (· = .agg (valD ds v).cells) := by
  unfold valD
  by_cases h0 : 0 ≤ v
  · have h1 : ¬ v < 0 := by omega
    by_cases h2 : v < (ds.length : Int)
    · have h3 : ¬ (ds.length : Int) ≤ v := by omega
      rw [if_pos ⟨h0, h2⟩]
      have hXi : (tab rowD ds).getD v.toNat [] = rowD (ds.getD v.toNat default) := tab_getD (by omega)
      generalize ds.getD v.toNat default = l at *
      simp only [rowD, DD.cells] at hXi
      (refine pureW Tryz.func46 rfl (rs := [Go.ResultVar.cell 4 46]) rfl (n := 18) rfl ?_; simp only [List.length_cons, List.length_nil, List.replicate, List.cons_append, List.nil_append])
      (refine aPo ?_)
      refine W_seq ?_
      ((first | refine W_seqV ?_ | refine W_seq (W_seqV ?_) | refine W_regV ?_); intro K hK; (refine sPoX (And.intro h1 h3) ?_; try exact True.intro))
      ((repeat refine aI ?_); refine hK _ ?_; clear hK K)
      (first | refine W_cond rfl (fun h => by cases h) (fun _ => ?_) | refine W_seq (W_cond rfl (fun h => by cases h) (fun _ => ?_)))
      refine W_skip ?_
      simp only [thenW]
      ((first | refine W_seqV ?_ | refine W_seq (W_seqV ?_) | refine W_regV ?_); intro K hK; (refine sPoX (And.intro h0 (And.intro h2 hXi)) ?_; try exact True.intro))
      ((repeat refine aI ?_); refine hK _ ?_; clear hK K)
      refine W_ret ?_
      (refine qG ?_; try exact True.intro); try (refine sPoV ?_; try exact True.intro)
      rfl
    · have h3 : (ds.length : Int) ≤ v := by omega
      rw [if_neg (fun h => h2 h.2)]
      (refine pureW Tryz.func46 rfl (rs := [Go.ResultVar.cell 4 46]) rfl (n := 18) rfl ?_; simp only [List.length_cons, List.length_nil, List.replicate, List.cons_append, List.nil_append])
      (refine aPo ?_)
      refine W_seq ?_
      ((first | refine W_seqV ?_ | refine W_seq (W_seqV ?_) | refine W_regV ?_); intro K hK; (refine sPoX (And.intro h1 h3) ?_; try exact True.intro))
      ((repeat refine aI ?_); refine hK _ ?_; clear hK K)
      (first | refine W_cond rfl (fun _ => ?_) (fun h => by cases h) | refine W_seq (W_cond rfl (fun _ => ?_) (fun h => by cases h)))
      ((first | refine W_seqV ?_ | refine W_seq (W_seqV ?_) | refine W_regV ?_); intro K hK; (refine sPo ?_; try exact True.intro))
      ((repeat refine aI ?_); refine hK _ ?_; clear hK K)
      refine W_ret ?_
      (refine qG ?_; try exact True.intro); try (refine sPoV ?_; try exact True.intro)
      rfl
  · have h1 : v < 0 := by omega
    rw [if_neg (fun h => h0 h.1)]
    (refine pureW Tryz.func46 rfl (rs := [Go.ResultVar.cell 4 46]) rfl (n := 18) rfl ?_; simp only [List.length_cons, List.length_nil, List.replicate, List.cons_append, List.nil_append])
    (refine aPo ?_)
    refine W_seq ?_
    ((first | refine W_seqV ?_ | refine W_seq (W_seqV ?_) | refine W_regV ?_); intro K hK; (refine sPoX h1 ?_; try exact True.intro))
    ((repeat refine aI ?_); refine hK _ ?_; clear hK K)
    (first | refine W_cond rfl (fun _ => ?_) (fun h => by cases h) | refine W_seq (W_cond rfl (fun _ => ?_) (fun h => by cases h)))
    ((first | refine W_seqV ?_ | refine W_seq (W_seqV ?_) | refine W_regV ?_); intro K hK; (refine sPo ?_; try exact True.intro))
    ((repeat refine aI ?_); refine hK _ ?_; clear hK K)
    refine W_ret ?_
    (refine qG ?_; try exact True.intro); try (refine sPoV ?_; try exact True.intro)
    rfl
def keepsB (l : LL) (x : DD) : Bool := if (l.lower.has && decide (dsg (dsub x.v l.lower.at_.v) < 0)) = true then false else (!l.upper.has || decide (dsg (dsub x.v l.upper.at_.v) ≤ 0))
theorem keeps_ok (l : LL) (x : DD) (hx : x.ok) (h1 : l.lower.at_.ok) (h2 : l.upper.at_.ok) (s1 : nb2 x.v + nb2 l.lower.at_.v < 17179869184) (s2 : nb2 x.v + nb2 l.upper.at_.v < 17179869184) :
    Pure Tryz.prog 45 [.agg l.cells, .agg x.cells] (· = .bool (keepsB l x)) := by
  have c1 := f5cmp_ok x l.lower.at_ hx h1 (by have := nb2_sub x.v l.lower.at_.v; omega)
  have c2 := f5cmp_ok x l.upper.at_ hx h2 (by have := nb2_sub x.v l.upper.at_.v; omega)
  unfold keepsB
  clear s1 s2 h1 h2
  generalize dsg (dsub x.v l.lower.at_.v) = d1 at *
  generalize dsg (dsub x.v l.upper.at_.v) = d2 at *
  obtain ⟨⟨x1, x2, x3⟩, ⟨x4, x5, x6⟩⟩ := x
  obtain ⟨⟨y0, ⟨⟨y1, y2, y3⟩, ⟨y4, y5, y6⟩⟩, y7⟩, ⟨z0, ⟨⟨z1, z2, z3⟩, ⟨z4, z5, z6⟩⟩, z7⟩⟩ := l
  simp only [LL.cells, DD.cells, DD.av] at *
  cases y0
  · rw [Bool.false_and, if_neg (by simp)]
    cases z0
    · (refine pureW Tryz.func45 rfl (rs := [Go.ResultVar.tmp 4]) rfl (n := 28) rfl ?_; simp only [List.length_cons, List.length_nil, List.replicate, List.cons_append, List.nil_append])
      (refine aPo ?_)
      refine W_seq ?_
      ((first | refine W_seqV ?_ | refine W_seq (W_seqV ?_) | refine W_regV ?_); intro K hK; (refine sPo ?_; try exact True.intro))
      ((repeat refine aI ?_); refine hK _ ?_; clear hK K)
      (first | refine W_cond rfl (fun h => by cases h) (fun _ => ?_) | refine W_seq (W_cond rfl (fun h => by cases h) (fun _ => ?_)))
      refine W_skip ?_
      simp only [thenW]
      ((first | refine W_seqV ?_ | refine W_seq (W_seqV ?_) | refine W_regV ?_); intro K hK; (refine sPo ?_; try exact True.intro))
      ((repeat refine aI ?_); refine hK _ ?_; clear hK K)
      refine W_ret ?_
      (refine qG ?_; try exact True.intro); try (refine sPoV ?_; try exact True.intro)
      simp
    · (refine pureW Tryz.func45 rfl (rs := [Go.ResultVar.tmp 4]) rfl (n := 28) rfl ?_; simp only [List.length_cons, List.length_nil, List.replicate, List.cons_append, List.nil_append])
      (refine aPo ?_)
      refine W_seq ?_
      ((first | refine W_seqV ?_ | refine W_seq (W_seqV ?_) | refine W_regV ?_); intro K hK; (refine sPo ?_; try exact True.intro))
      ((repeat refine aI ?_); refine hK _ ?_; clear hK K)
      (first | refine W_cond rfl (fun h => by cases h) (fun _ => ?_) | refine W_seq (W_cond rfl (fun h => by cases h) (fun _ => ?_)))
      refine W_skip ?_
      simp only [thenW]
      ((first | refine W_seqV ?_ | refine W_seq (W_seqV ?_) | refine W_regV ?_); intro K hK; (refine sPo ?_; try exact True.intro))
      ((repeat refine aI ?_); refine ⟨by kernel_rfl, rfl, _, c2, ?_⟩; (try (refine sPo ?_; try exact True.intro)); (repeat refine aI ?_))
      ((repeat refine aI ?_); refine hK _ ?_; clear hK K)
      refine W_ret ?_
      (refine qG ?_; try exact True.intro); try (refine sPoV ?_; try exact True.intro)
      simp
  · rw [Bool.true_and]
    by_cases hd : d1 < 0
    · rw [if_pos (by simpa using hd)]
      (refine pureW Tryz.func45 rfl (rs := [Go.ResultVar.tmp 4]) rfl (n := 28) rfl ?_; simp only [List.length_cons, List.length_nil, List.replicate, List.cons_append, List.nil_append])
      (refine aPo ?_)
      refine W_seq ?_
      ((first | refine W_seqV ?_ | refine W_seq (W_seqV ?_) | refine W_regV ?_); intro K hK; (refine sPo ?_; try exact True.intro))
      ((repeat refine aI ?_); refine ⟨by kernel_rfl, rfl, _, c1, ?_⟩; (try (refine sPo ?_; try exact True.intro)); (repeat refine aI ?_))
      (refine sPoX hd ?_; try exact True.intro)
      ((repeat refine aI ?_); refine hK _ ?_; clear hK K)
      (first | refine W_cond rfl (fun _ => ?_) (fun h => by cases h) | refine W_seq (W_cond rfl (fun _ => ?_) (fun h => by cases h)))
      ((first | refine W_seqV ?_ | refine W_seq (W_seqV ?_) | refine W_regV ?_); intro K hK; (refine sPo ?_; try exact True.intro))
      ((repeat refine aI ?_); refine hK _ ?_; clear hK K)
      refine W_ret ?_
      (refine qG ?_; try exact True.intro); try (refine sPoV ?_; try exact True.intro)
    · rw [if_neg (by simpa using hd)]
      cases z0
      · (refine pureW Tryz.func45 rfl (rs := [Go.ResultVar.tmp 4]) rfl (n := 28) rfl ?_; simp only [List.length_cons, List.length_nil, List.replicate, List.cons_append, List.nil_append])
        (refine aPo ?_)
        refine W_seq ?_
        ((first | refine W_seqV ?_ | refine W_seq (W_seqV ?_) | refine W_regV ?_); intro K hK; (refine sPo ?_; try exact True.intro))
        ((repeat refine aI ?_); refine ⟨by kernel_rfl, rfl, _, c1, ?_⟩; (try (refine sPo ?_; try exact True.intro)); (repeat refine aI ?_))
        (refine sPoX hd ?_; try exact True.intro)
        ((repeat refine aI ?_); refine hK _ ?_; clear hK K)
        (first | refine W_cond rfl (fun h => by cases h) (fun _ => ?_) | refine W_seq (W_cond rfl (fun h => by cases h) (fun _ => ?_)))
        refine W_skip ?_
        simp only [thenW]
        ((first | refine W_seqV ?_ | refine W_seq (W_seqV ?_) | refine W_regV ?_); intro K hK; (refine sPo ?_; try exact True.intro))
        ((repeat refine aI ?_); refine hK _ ?_; clear hK K)
        refine W_ret ?_
        (refine qG ?_; try exact True.intro); try (refine sPoV ?_; try exact True.intro)
        simp
      · (refine pureW Tryz.func45 rfl (rs := [Go.ResultVar.tmp 4]) rfl (n := 28) rfl ?_; simp only [List.length_cons, List.length_nil, List.replicate, List.cons_append, List.nil_append])
        (refine aPo ?_)
        refine W_seq ?_
        ((first | refine W_seqV ?_ | refine W_seq (W_seqV ?_) | refine W_regV ?_); intro K hK; (refine sPo ?_; try exact True.intro))
        ((repeat refine aI ?_); refine ⟨by kernel_rfl, rfl, _, c1, ?_⟩; (try (refine sPo ?_; try exact True.intro)); (repeat refine aI ?_))
        (refine sPoX hd ?_; try exact True.intro)
        ((repeat refine aI ?_); refine hK _ ?_; clear hK K)
        (first | refine W_cond rfl (fun h => by cases h) (fun _ => ?_) | refine W_seq (W_cond rfl (fun h => by cases h) (fun _ => ?_)))
        refine W_skip ?_
        simp only [thenW]
        ((first | refine W_seqV ?_ | refine W_seq (W_seqV ?_) | refine W_regV ?_); intro K hK; (refine sPo ?_; try exact True.intro))
        ((repeat refine aI ?_); refine ⟨by kernel_rfl, rfl, _, c2, ?_⟩; (try (refine sPo ?_; try exact True.intro)); (repeat refine aI ?_))
        ((repeat refine aI ?_); refine hK _ ?_; clear hK K)
        refine W_ret ?_
        (refine qG ?_; try exact True.intro); try (refine sPoV ?_; try exact True.intro)
        simp
structure DsOk (ds : List DD) : Prop where
  ok : ∀ d ∈ ds, d.ok
  sa : nbl (ds.map fun d => d.a.v) ≤ 67108864
  sb : nbl (ds.map fun d => d.b.v) ≤ 67108864
/-- A form's value, of pairs. -/
def evd (ds : List DD) (f : List (Int × Rat)) : Rat × Rat := (ev2 (asg (ds.map fun d => d.a.v)) f, ev2 (asg (ds.map fun d => d.b.v)) f)
theorem ev2_snoc (x : Int → Rat) (f : List (Int × Rat)) {i : Nat} (h : i < f.length) : ev2 x (f.take (i + 1)) = ev2 x (f.take i) + (f.getD i default).2 * x (f.getD i default).1 := by
  rw [List.take_succ_eq_append_getElem h, ev2_append]
  simp only [ev2]
  have : f.getD i default = f[i] := by simp [List.getD_eq_getElem?_getD, h]
  rw [this]
  grind
theorem nbs_pre (f : List (Int × Rat)) (i : Nat) : nbs (f.take i) ≤ nbs f := by
  induction f generalizing i with
  | nil => simp
  | cons p f ih =>
    cases i with
    | zero => simp [nbs]
    | succ i => have := ih i; simp only [List.take_succ_cons, nbs]; omega
theorem asg_val (g : DD → Rat) (hg : g zeroD0 = 0) (ds : List DD) (v : Int) : asg (ds.map g) v = g (valD ds v) := by
  unfold asg valD
  by_cases h0 : 0 ≤ v
  · rw [if_pos h0]
    by_cases h1 : v < (ds.length : Int)
    · rw [if_pos ⟨h0, h1⟩]
      have h3 : v.toNat < ds.length := by omega
      simp [List.getD_eq_getElem?_getD, h3]
    · rw [if_neg (fun h => h1 h.2), List.getD_eq_getElem?_getD, List.getElem?_eq_none (by rw [List.length_map]; omega), hg]; rfl
  · rw [if_neg h0, if_neg (fun h => h0 h.1), hg]
theorem evd_step (ds : List DD) (f : List (Int × Rat)) {i : Nat} (h : i < f.length) : evd ds (f.take (i + 1)) = dadd (evd ds (f.take i)) (dscale (f.getD i default).2 (valD ds (f.getD i default).1).v) := by
  unfold evd
  rw [ev2_snoc _ _ h, ev2_snoc _ _ h, asg_val (fun d => d.a.v) zeroR_v, asg_val (fun d => d.b.v) zeroR_v]
  rfl
theorem valD_ok {ds : List DD} (h : DsOk ds) (v : Int) : (valD ds v).ok ∧ nb2 (valD ds v).v ≤ 67108865 := by
  have h1 := nb_asg (ds.map fun d => d.a.v) v
  have h2 := nb_asg (ds.map fun d => d.b.v) v
  rw [asg_val (fun d => d.a.v) zeroR_v] at h1
  rw [asg_val (fun d => d.b.v) zeroR_v] at h2
  refine ⟨?_, nb2_le (by have := h.sa; show nb (valD ds v).a.v ≤ _; omega) (by have := h.sb; show nb (valD ds v).b.v ≤ _; omega)⟩
  unfold valD
  split
  · rename_i hv
    have h3 : v.toNat < ds.length := by omega
    exact h.ok _ (by simp [List.getD_eq_getElem?_getD, h3])
  · exact ⟨zeroR_ok, zeroR_ok⟩
theorem evd_nb {ds : List DD} (h : DsOk ds) (f : List (Int × Rat)) (hs : nbs f ≤ 67108866) (i : Nat) : nb2 (evd ds (f.take i)) ≤ 201326597 := by
  have h1 := nb_value (ds.map fun d => d.a.v) (f.take i)
  have h2 := nb_value (ds.map fun d => d.b.v) (f.take i)
  have h3 := nbs_pre f i
  have h4 := h.sa
  have h5 := h.sb
  exact nb2_le (by show nb (ev2 _ _) ≤ _; omega) (by show nb (ev2 _ _) ≤ _; omega)
set_option maxHeartbeats 8000000 in
theorem deltas_ok (ds : List DD) (e : List (Int × Rat)) (h : DsOk ds) (hs : nbs e ≤ 67108866) : Pure Tryz.prog 44 [.sl (tab rowQ e), .sl (tab rowD ds)] (· = cD (evd ds e)) := by
  have hz := f6zero_ok
  have hof := f5of_ok (qr 0) (qr_ok (by rw [nb_zero]; omega))
  rw [qr_v] at hof
  have hel := nbs_len e
  have hmem : ∀ p ∈ e, nb p.2 ≤ nbs e := fun p hp => Nat.le_trans (nbv_mem hp) (nbv_le_nbs _ _)
  have hE0 : evd ds (e.take 0) = (0, 0) := rfl
  have hEl : evd ds (e.take e.length) = evd ds e := by rw [List.take_length]
  have hst := fun i hi => @evd_step ds e i hi
  have hnv := evd_nb h e hs
  have hvo := valD_ok h
  rw [← hEl]
  generalize hEA : (fun i => evd ds (e.take i)) = EA at *
  have hEA' : ∀ i, evd ds (e.take i) = EA i := fun i => congrFun hEA i
  simp only [hEA'] at *
  clear hEA hEA' hEl h
  simp only [RR.av, qr, cD, cQ] at hof hz
  (refine pureW Tryz.func44 rfl (rs := [Go.ResultVar.cell 4 46]) rfl (n := 48) rfl ?_; simp only [List.length_cons, List.length_nil, List.replicate, List.cons_append, List.nil_append])
  (refine aPo ?_)
  refine W_seq ?_
  ((first | refine W_seqV ?_ | refine W_seq (W_seqV ?_) | refine W_regV ?_); intro K hK; (refine sPo ?_; try exact True.intro))
  ((repeat refine aI ?_); refine ⟨by kernel_rfl, rfl, _, hz, ?_⟩; (try (refine sPo ?_; try exact True.intro)); (repeat refine aI ?_))
  ((repeat refine aI ?_); refine ⟨by kernel_rfl, rfl, _, hof, ?_⟩; (try (refine sPo ?_; try exact True.intro)); (repeat refine aI ?_))
  ((repeat refine aI ?_); refine hK _ ?_; clear hK K)
  simp only [cD, thenW]
  refine W_seq ?_
  refine W_seq ?_
  ((first | refine W_seqV ?_ | refine W_seq (W_seqV ?_) | refine W_regV ?_); intro K hK; (refine sPo ?_; try exact True.intro))
  ((repeat refine aI ?_); refine hK _ ?_; clear hK K)
  refine W_block (W_loop (fun t : {t : Nat // t ≤ e.length} =>
      ⟨[.sl (tab rowQ e), .sl (tab rowD ds), .any, .any, .ptr 4 0 0, .ptr 5 0 0, .int .i64 t.1, .any, .any, .any, .any, .any, .any, .any, .any, .any, .any, .any, .any, .any, .any, .any, .any, .any, .any, .any, .any, .any, .any, .any, .any, .any, .any, .any, .any, .any, .any, .any, .any, .any, .any, .any, .any, .any, .any, .any, .any, .any], [.dead, .dead, .dead, .dead, .arr 46 6 false [[.bool false, .nils, .nils, .bool false, .nils, .nils]], .arr 46 6 false [[.bool (decide ((EA t.1).1.num < 0)), .sl (u32s (limbs (EA t.1).1.num.natAbs)), .sl (u32s (limbs (EA t.1).1.den)), .bool (decide ((EA t.1).2.num < 0)), .sl (u32s (limbs (EA t.1).2.num.natAbs)), .sl (u32s (limbs (EA t.1).2.den))]], .dead, .dead, .dead, .dead, .dead, .dead, .dead, .dead, .dead, .dead, .dead, .dead, .dead, .dead, .dead, .dead, .dead, .dead, .dead, .dead, .dead, .dead, .dead, .dead, .dead, .dead, .dead, .dead, .dead, .dead, .dead, .dead, .dead, .dead, .dead, .dead, .dead, .dead, .dead, .dead, .dead, .dead]⟩) (fun t => e.length - t.1)
      ⟨0, by omega⟩ (Le_of (by simp [leE]) (by simp [hE0])) fun t => ?_)
  obtain ⟨i, hi⟩ := t
  dsimp only
  by_cases hlt : i < e.length
  · have hXi : (tab rowQ e).getD i [] = rowQ (e.getD i default) := tab_getD hlt
    have hsi := hst i hlt
    have hni := hnv i
    have hem := hmem (e.getD i default) (by simp [List.getD_eq_getElem?_getD, hlt])
    generalize e.getD i default = m at *
    obtain ⟨v, c⟩ := m
    dsimp only at *
    obtain ⟨hv1, hv2⟩ := hvo v
    simp only [rowQ] at hXi
    refine W_seq ?_
    ((first | refine W_seqV ?_ | refine W_seq (W_seqV ?_) | refine W_regV ?_); intro K hK; (refine sPoX hlt ?_; try exact True.intro))
    ((repeat refine aI ?_); refine hK _ ?_; clear hK K)
    (first | refine W_cond rfl (fun _ => ?_) (fun h => by cases h) | refine W_seq (W_cond rfl (fun _ => ?_) (fun h => by cases h)))
    refine W_skip ?_
    simp only [thenW]
    refine W_seq ?_
    refine W_block ?_
    by_cases hv0 : 0 ≤ v
    · by_cases hv3 : v < (ds.length : Int)
      · have hYi : (tab rowD ds).getD v.toNat [] = rowD (ds.getD v.toNat default) := tab_getD (by omega)
        have hvd : valD ds v = ds.getD v.toNat default := if_pos ⟨hv0, hv3⟩
        rw [hvd] at hsi hv1 hv2
        generalize ds.getD v.toNat default = y at *
        have hsc := f5scale_ok (qr c) y (qr_ok (by omega)) hv1
        rw [qr_v] at hsc
        have hsn := nb2_scale c y.v
        have had := f5add_ok (dq (EA i)) (dq (dscale c y.v)) (dq_ok (by omega)) (dq_ok (by omega))
        rw [dq_v, dq_v, ← hsi, dq_av, dq_av] at had
        generalize dscale c y.v = dm at *
        simp only [rowD, DD.cells] at hYi
        simp only [RR.av, qr, cD, DD.av, DD.cells] at hsc had
        ((first | refine W_seqV ?_ | refine W_seq (W_seqV ?_) | refine W_regV ?_); intro K hK; (refine sPoX (And.intro hlt (And.intro hXi (And.intro hv0 hv3))) ?_; try exact True.intro))
        ((repeat refine aI ?_); refine hK _ ?_; clear hK K)
        (first | refine W_cond rfl (fun _ => ?_) (fun h => by cases h) | refine W_seq (W_cond rfl (fun _ => ?_) (fun h => by cases h)))
        ((first | refine W_seqD mixed [] (by kernel_rfl) ?_ | refine W_seq (W_seqD mixed [] (by kernel_rfl) ?_) | refine W_regD mixed [] (by kernel_rfl) ?_); intro K hK; (refine sPoX (And.intro hXi (And.intro hYi (And.intro hlt (And.intro hv0 hv3)))) ?_; try exact True.intro))
        ((repeat refine aI ?_); refine ⟨by kernel_rfl, rfl, _, hsc, ?_⟩; (try (refine sPo ?_; try exact True.intro)); (repeat refine aI ?_))
        ((repeat refine aI ?_); refine ⟨by kernel_rfl, rfl, _, had, ?_⟩; (try (refine sPo ?_; try exact True.intro)); (repeat refine aI ?_))
        ((repeat refine aI ?_); refine hK _ ?_; clear hK K)
        simp only [blockW, thenW]
        ((first | refine W_seqV ?_ | refine W_seq (W_seqV ?_) | refine W_regV ?_); intro K hK; (refine sPo ?_; try exact True.intro))
        ((repeat refine aI ?_); refine hK _ ?_; clear hK K)
        simp only [blockW, thenW]
        refine ⟨⟨i + 1, by omega⟩, Le_drop (by simp [leE]) (by simp [leH]) rfl rfl, ?_⟩
        dsimp only
        omega
      · have hvd : valD ds v = zeroD0 := if_neg fun h => hv3 h.2
        have hnx : EA (i + 1) = EA i := by
          rw [hsi, hvd, zeroD0_v]; simp [dadd, dscale, Rat.mul_zero, Rat.add_zero]
        ((first | refine W_seqV ?_ | refine W_seq (W_seqV ?_) | refine W_regV ?_); intro K hK; (refine sPoX (And.intro hlt (And.intro hXi (And.intro hv0 hv3))) ?_; try exact True.intro))
        ((repeat refine aI ?_); refine hK _ ?_; clear hK K)
        (first | refine W_cond rfl (fun h => by cases h) (fun _ => ?_) | refine W_seq (W_cond rfl (fun h => by cases h) (fun _ => ?_)))
        refine W_skip ?_
        simp only [blockW, thenW]
        ((first | refine W_seqV ?_ | refine W_seq (W_seqV ?_) | refine W_regV ?_); intro K hK; (refine sPo ?_; try exact True.intro))
        ((repeat refine aI ?_); refine hK _ ?_; clear hK K)
        simp only [blockW, thenW]
        refine ⟨⟨i + 1, by omega⟩, Le_drop (by simp [leE]) (by simp [leH, hnx]) rfl rfl, ?_⟩
        dsimp only
        omega
    · have hvd : valD ds v = zeroD0 := if_neg fun h => hv0 h.1
      have hnx : EA (i + 1) = EA i := by
        rw [hsi, hvd, zeroD0_v]; simp [dadd, dscale, Rat.mul_zero, Rat.add_zero]
      ((first | refine W_seqV ?_ | refine W_seq (W_seqV ?_) | refine W_regV ?_); intro K hK; (refine sPoX (And.intro hlt (And.intro hXi hv0)) ?_; try exact True.intro))
      ((repeat refine aI ?_); refine hK _ ?_; clear hK K)
      (first | refine W_cond rfl (fun h => by cases h) (fun _ => ?_) | refine W_seq (W_cond rfl (fun h => by cases h) (fun _ => ?_)))
      refine W_skip ?_
      simp only [blockW, thenW]
      ((first | refine W_seqV ?_ | refine W_seq (W_seqV ?_) | refine W_regV ?_); intro K hK; (refine sPo ?_; try exact True.intro))
      ((repeat refine aI ?_); refine hK _ ?_; clear hK K)
      simp only [blockW, thenW]
      refine ⟨⟨i + 1, by omega⟩, Le_drop (by simp [leE]) (by simp [leH, hnx]) rfl rfl, ?_⟩
      dsimp only
      omega
  · obtain rfl : i = e.length := by omega
    refine W_seq ?_
    ((first | refine W_seqV ?_ | refine W_seq (W_seqV ?_) | refine W_regV ?_); intro K hK; (refine sPo ?_; try exact True.intro))
    ((repeat refine aI ?_); refine hK _ ?_; clear hK K)
    (first | refine W_cond rfl (fun h => by cases h) (fun _ => ?_) | refine W_seq (W_cond rfl (fun h => by cases h) (fun _ => ?_)))
    refine W_exit ?_
    simp only [thenW, blockW, if_true]
    ((first | refine W_seqV ?_ | refine W_seq (W_seqV ?_) | refine W_regV ?_); intro K hK; (refine sPo ?_; try exact True.intro))
    ((repeat refine aI ?_); refine hK _ ?_; clear hK K)
    refine W_ret ?_
    (refine qG ?_; try exact True.intro); try (refine sPoV ?_; try exact True.intro)
end Go.Proofs.YtjkjapjcmbfkgaaGreat.Vm

/-
  Values that keep a row and its variables' bounds keep what the row implies.
-/
namespace Go.Proofs.YtjkjapjcmbfkgaaGreat.Vm
open Go Go.RowKit
set_option maxRecDepth 100000
set_option linter.unusedVariables false
set_option linter.unusedSimpArgs false
/-- A pair at most 0. -/
def dle (x : Rat × Rat) : Prop := x.1 < 0 ∨ (x.1 = 0 ∧ x.2 ≤ 0)
theorem dsg_le {x : Rat × Rat} : dsg x ≤ 0 ↔ dle x := by
  have h1 := @rs_neg x.1
  have h2 := @rs_zero x.1
  have h3 := @rs_pos x.1
  have k1 := @rs_neg x.2
  have k2 := @rs_zero x.2
  have k3 := @rs_pos x.2
  unfold dsg dle lexI
  split
  · rename_i h
    have h4 : x.1 ≠ 0 := fun hz => h (h2.2 hz)
    constructor
    · intro hl
      exact .inl (h1.1 (by omega))
    · rintro (hl | ⟨hz, _⟩)
      · have := h1.2 hl; omega
      · exact absurd hz h4
  · rename_i h
    have h4 : x.1 = 0 := h2.1 (Decidable.not_not.1 h)
    constructor
    · intro hl
      refine .inr ⟨h4, ?_⟩
      by_cases hp : 0 < x.2
      · have := k3.2 hp; omega
      · exact Rat.not_lt.1 hp
    · rintro (hl | ⟨_, hl⟩)
      · rw [h4] at hl; exact absurd hl (by decide)
      · by_cases hp : 0 < rs x.2
        · have := k3.1 hp; exact absurd hl (Rat.not_le.2 this)
        · omega
theorem rs_dneg (q : Rat) : rs (-q) = -(rs q) := by simp [rs, Rat.neg_num]
theorem dsg_neg (x : Rat × Rat) : dsg (dneg x) = -(dsg x) := by
  unfold dsg dneg lexI
  simp only [rs_dneg]
  split <;> split <;> omega
theorem dsg_ge {x : Rat × Rat} : 0 ≤ dsg x ↔ dle (dneg x) := by
  rw [← dsg_le, dsg_neg]; omega
theorem dsg_zero {x : Rat × Rat} (h : dsg x = 0) : x = (0, 0) := by
  unfold dsg lexI at h
  split at h
  · rename_i hn; exact absurd h hn
  · rename_i hn
    exact Prod.ext (rs_zero.1 (Decidable.not_not.1 hn)) (rs_zero.1 h)
theorem dle_add {x y : Rat × Rat} (hx : dle x) (hy : dle y) : dle (dadd x y) := by
  unfold dle dadd at *
  dsimp only
  grind
theorem dle_scale {c : Rat} {x : Rat × Rat} (hc : 0 ≤ c) (hx : dle x) : dle (dscale c x) := by
  unfold dle dscale at *
  dsimp only
  by_cases h0 : c = 0
  · subst h0
    refine .inr ⟨Rat.zero_mul _, ?_⟩
    rw [Rat.zero_mul]
    exact Rat.le_refl
  · have hp : 0 < c := by grind
    rcases hx with hx | ⟨hx, hy⟩
    · have h1 := Rat.mul_pos hp (show 0 < -x.1 by grind)
      exact .inl (by grind)
    · have h1 := Rat.mul_nonneg hc (show 0 ≤ -x.2 by grind)
      exact .inr ⟨by rw [hx, Rat.mul_zero], by grind⟩
theorem dle_zero : dle (0, 0) := .inr ⟨rfl, by decide +kernel⟩
def sumG {α : Type} (g : α → Rat × Rat) : List α → Rat × Rat
  | [] => (0, 0)
  | m :: l => dadd (g m) (sumG g l)
theorem dadd_assoc (x y z : Rat × Rat) : dadd (dadd x y) z = dadd x (dadd y z) := by simp [dadd, Rat.add_assoc]
theorem dadd_zero (x : Rat × Rat) : dadd x (0, 0) = x := by simp [dadd, Rat.add_zero]
theorem zero_dadd (x : Rat × Rat) : dadd (0, 0) x = x := by simp [dadd, Rat.zero_add]
theorem foldl_sumG {α : Type} (g : α → Rat × Rat) : ∀ (l : List α) (s : Rat × Rat), l.foldl (fun s m => dadd s (g m)) s = dadd s (sumG g l)
  | [], s => (dadd_zero s).symm
  | m :: l, s => by rw [List.foldl_cons, foldl_sumG g l, sumG, dadd_assoc]
theorem sumA_eq (u : Bool) (ls : List LL) (l : List (Int × Rat)) : sumA u ls l = sumG (fun m => dscale m.2 (bndM u ls m).at_.v) l := by
  unfold sumA
  rw [foldl_sumG, zero_dadd]
theorem evd_eq (ds : List DD) : ∀ l : List (Int × Rat), evd ds l = sumG (fun m => dscale m.2 (valD ds m.1).v) l
  | [] => rfl
  | m :: l => by
    rw [sumG, ← evd_eq ds l]
    unfold evd
    simp only [ev2, asg_val (fun d => d.a.v) zeroR_v, asg_val (fun d => d.b.v) zeroR_v]
    rfl
theorem dle_sum {α : Type} (s : Rat) (g h : α → Rat × Rat) : ∀ l : List α, (∀ m ∈ l, dle (dscale s (dsub (g m) (h m)))) → dle (dscale s (dsub (sumG g l) (sumG h l)))
  | [], _ => by
    have : dscale s (dsub (sumG g []) (sumG h [])) = (0, 0) := by simp [sumG, dscale, dsub, Rat.mul_zero, Rat.sub_self]
    rw [this]
    exact dle_zero
  | m :: l, hl => by
    have h1 := dle_sum s g h l fun m hm => hl m (List.mem_cons_of_mem _ hm)
    have h2 := dle_add (hl m List.mem_cons_self) h1
    have : dscale s (dsub (sumG g (m :: l)) (sumG h (m :: l))) = dadd (dscale s (dsub (g m) (h m))) (dscale s (dsub (sumG g l) (sumG h l))) := by
      simp only [sumG, dscale, dsub, dadd]
      refine Prod.ext ?_ ?_ <;> dsimp only <;> grind
    rw [this]
    exact h2
theorem ev2_erase (x : Int → Rat) : ∀ (e : List (Int × Rat)) (k : Nat), k < e.length → ev2 x e = (e.getD k default).2 * x (e.getD k default).1 + ev2 x (e.eraseIdx k)
  | [], k, h => by simp at h
  | p :: e, 0, _ => by simp [ev2]
  | p :: e, k + 1, h => by
    have := ev2_erase x e k (by simpa using h)
    simp only [List.eraseIdx_cons_succ, ev2, List.getD_cons_succ]
    rw [this]
    grind
theorem value_solved {ds : List DD} {e : List (Int × Rat)} {k : Nat} (hk : k < e.length) (h0 : (e.getD k default).2 ≠ 0) (hz : evd ds e = (0, 0)) : (valD ds (e.getD k default).1).v = evd ds (solved e k) := by
  have h1 : ev2 (asg (ds.map fun d => d.a.v)) e = 0 := congrArg Prod.fst hz
  have h2 : ev2 (asg (ds.map fun d => d.b.v)) e = 0 := congrArg Prod.snd hz
  rw [ev2_erase _ e k hk, asg_val (fun d => d.a.v) zeroR_v] at h1
  rw [ev2_erase _ e k hk, asg_val (fun d => d.b.v) zeroR_v] at h2
  unfold evd solved
  rw [ev2_scale, ev2_scale]
  generalize e.getD k default = p at *
  refine Prod.ext ?_ ?_
  · show (valD ds p.1).a.v = _
    dsimp only
    grind
  · show (valD ds p.1).b.v = _
    dsimp only
    grind
theorem keeps_up {l : LL} {x : DD} (h : keepsB l x = true) (hu : l.upper.has = true) : dle (dsub x.v l.upper.at_.v) := by
  unfold keepsB at h
  split at h
  · cases h
  · rw [hu] at h
    exact dsg_le.1 (by simpa using h)
theorem keeps_lo {l : LL} {x : DD} (h : keepsB l x = true) (hu : l.lower.has = true) : dle (dneg (dsub x.v l.lower.at_.v)) := by
  unfold keepsB at h
  split at h
  · cases h
  · rename_i hn
    rw [hu] at hn
    exact dsg_ge.1 (by simp at hn; omega)
def sgnU (u : Bool) : Rat := if u = true then 1 else -1
theorem term_le {u : Bool} {ls : List LL} {ds : List DD} {m : Int × Rat} (hk : keepsB (limOf ls m.1) (valD ds m.1) = true) (hh : (bndM u ls m).has = true) :
    dle (dscale (sgnU u) (dsub (dscale m.2 (valD ds m.1).v) (dscale m.2 (bndM u ls m).at_.v))) := by
  obtain ⟨v, c⟩ := m
  dsimp only at *
  generalize valD ds v = x at *
  have hb : bndM u ls (v, c) = if (decide (0 < rs c) == u) = true then (limOf ls v).upper else (limOf ls v).lower := rfl
  generalize limOf ls v = l at *
  by_cases hq : (decide (0 < rs c) == u) = true
  · rw [if_pos hq] at hb
    rw [hb] at hh ⊢
    have h1 := keeps_up hk hh
    have hs : 0 ≤ sgnU u * c := by
      cases u
      · have : ¬ 0 < rs c := by simpa using hq
        rw [rs_pos] at this
        simp only [sgnU]
        grind
      · have : 0 < rs c := by simpa using hq
        rw [rs_pos] at this
        simp only [sgnU]
        grind
    have h2 := dle_scale hs h1
    have h3 : dscale (sgnU u) (dsub (dscale c x.v) (dscale c l.upper.at_.v)) = dscale (sgnU u * c) (dsub x.v l.upper.at_.v) := by
      simp only [dscale, dsub]
      refine Prod.ext ?_ ?_ <;> dsimp only <;> grind
    rw [h3]
    exact h2
  · rw [if_neg hq] at hb
    rw [hb] at hh ⊢
    have h1 := keeps_lo hk hh
    have hs : 0 ≤ -(sgnU u * c) := by
      cases u
      · have : 0 < rs c := by simpa using hq
        rw [rs_pos] at this
        simp only [sgnU]
        grind
      · have : ¬ 0 < rs c := by simpa using hq
        rw [rs_pos] at this
        simp only [sgnU]
        grind
    have h2 := dle_scale hs h1
    have h3 : dscale (sgnU u) (dsub (dscale c x.v) (dscale c l.lower.at_.v)) = dscale (-(sgnU u * c)) (dneg (dsub x.v l.lower.at_.v)) := by
      simp only [dscale, dsub, dneg]
      refine Prod.ext ?_ ?_ <;> dsimp only <;> grind
    rw [h3]
    exact h2
theorem solved_mem {e : List (Int × Rat)} {k : Nat} {m : Int × Rat} (h : m ∈ solved e k) : ∃ p ∈ e, p.1 = m.1 := by
  unfold solved scaleF at h
  rw [List.mem_map] at h
  obtain ⟨p, hp, rfl⟩ := h
  exact ⟨p, List.mem_of_mem_eraseIdx hp, rfl⟩
/-- What is implied holds of values that keep the row and the bounds. -/
theorem holds_plain {ls : List LL} {ds : List DD} {e : List (Int × Rat)} {u : Bool} {k : Nat} {x : II} (hN : NF e) (hk : k < e.length) (hi : impR u ls e k = some x) (hz : evd ds e = (0, 0))
    (hkp : ∀ p ∈ e, keepsB (limOf ls p.1) (valD ds p.1) = true) :
    (x.upper = true → ¬ 0 < dsg (dsub (valD ds x.var).v x.at_.v)) ∧ (x.upper = false → ¬ dsg (dsub (valD ds x.var).v x.at_.v) < 0) := by
  unfold impR at hi
  split at hi
  case isFalse => cases hi
  rename_i hall
  obtain rfl := Option.some.inj hi
  dsimp only
  have h0 := hN.nz (e.getD k default) (by simp [List.getD_eq_getElem?_getD, hk])
  rw [value_solved hk h0 hz, evd_eq, dq_v, sumA_eq]
  have hd := dle_sum (sgnU u) (fun m => dscale m.2 (valD ds m.1).v) (fun m => dscale m.2 (bndM u ls m).at_.v) (solved e k) fun m hm => by
    obtain ⟨p, hp, hpm⟩ := solved_mem hm
    have := hkp p hp
    rw [hpm] at this
    exact term_le this (List.all_eq_true.1 hall _ hm)
  generalize dsub _ _ = y at *
  refine ⟨fun hu => ?_, fun hu => ?_⟩
  · subst hu
    have h3 : dscale (sgnU true) y = y := by simp [dscale, sgnU, Rat.one_mul]
    rw [h3] at hd
    have := dsg_le.2 hd
    omega
  · subst hu
    have h3 : dscale (sgnU false) y = dneg y := by
      simp only [dscale, sgnU, dneg]
      refine Prod.ext ?_ ?_ <;> dsimp only <;> grind
    rw [h3] at hd
    have := dsg_ge.2 hd
    omega
theorem follows_self {x : II} : follows x x = true := by
  have h1 : alikeB x.by_ x.by_ = true := alike_yes rfl fun i hi => by simp [sameAt, rs_self]
  simp [follows, h1, dsg_self]
theorem check_own {L : List II} {k : Nat} (hk : k < L.length) : checkB (L.getD k default) L = true := check_yes hk follows_self
end Go.Proofs.YtjkjapjcmbfkgaaGreat.Vm

/-
  fulcrumlaw10.ImpliedHolds.
-/
namespace Go.Proofs.YtjkjapjcmbfkgaaGreat.Vm
open Go Go.RowKit
set_option maxRecDepth 100000
set_option linter.unusedVariables false
set_option linter.unusedSimpArgs false
theorem sPq {G G' : Prop} (h : G') (e : G = G' := by conv => lhs; simp (disch := omega) only [rowsOf, cNat, cN, St.ret, St.seth, Eff.app, Eff.wi, sepL, guardOf, St.known, objOf, List.set, sliceW, litW, copyW, lenOf, bnd, mxOk, ofCells, TI.isAgg, cellsOf, storable, AV.one, dead, laid, overlay, reduceCtorEq, Int.reduceLE, Int.reduceLT, Int.reduceSub, Int.reduceAdd, Nat.reduceMul, Int.reduceToNat, Nat.reducePow, Int.reduceNeg, Nat.reduceAdd, Nat.reduceLT, Nat.reduceLeDiff, sA, sB, Nat.reduceEqDiff, beq_self_eq_true, Int.reduceBEq, cQ, cD, tab_length, List.take_length, tab_drop, tab_take, tab_nil, rowI_all, rowI_one, rowI_pure, rowL_all, rowL_one, rowL_pure, rowM_all, rowM_one, rowM_pure, rowQ_all, rowQ_one, rowQ_pure, rowD_all, rowD_one, rowD_pure, sT]) : G := e.mpr h
theorem sPqX {G G' P : Prop} (p : P) (h : G') (e : P → G = G' := by intro p; conv => lhs; simp (disch := omega) only [rowsOf, cNat, cN, St.ret, St.seth, Eff.app, Eff.wi, sepL, guardOf, St.known, objOf, List.set, sliceW, litW, copyW, lenOf, bnd, mxOk, ofCells, TI.isAgg, cellsOf, storable, AV.one, dead, laid, overlay, reduceCtorEq, Int.reduceLE, Int.reduceLT, Int.reduceSub, Int.reduceAdd, Nat.reduceMul, Int.reduceToNat, Nat.reducePow, Int.reduceNeg, Nat.reduceAdd, Nat.reduceLT, Nat.reduceLeDiff, sA, sB, Nat.reduceEqDiff, beq_self_eq_true, Int.reduceBEq, cQ, cD, tab_length, List.take_length, tab_drop, tab_take, tab_nil, rowI_all, rowI_one, rowI_pure, rowL_all, rowL_one, rowL_pure, rowM_all, rowM_one, rowM_pure, rowQ_all, rowQ_one, rowQ_pure, rowD_all, rowD_one, rowD_pure, sT, p]) : G := (e p).mpr h
theorem sPqV {G G' : Prop} (h : G') (e : G = G' := by conv => lhs; simp (disch := omega) only [rowsOf, cNat, cN, St.ret, St.seth, Eff.app, Eff.wi, sepL, guardOf, St.known, objOf, List.set, sliceW, litW, copyW, lenOf, bnd, mxOk, ofCells, TI.isAgg, cellsOf, storable, AV.one, dead, laid, overlay, reduceCtorEq, Int.reduceLE, Int.reduceLT, Int.reduceSub, Int.reduceAdd, Nat.reduceMul, Int.reduceToNat, Nat.reducePow, Int.reduceNeg, Nat.reduceAdd, Nat.reduceLT, Nat.reduceLeDiff, sA, sB, Nat.reduceEqDiff, beq_self_eq_true, Int.reduceBEq, cQ, cD, tab_length, List.take_length, tab_drop, tab_take, tab_nil, rowI_all, rowI_one, rowI_pure, rowL_all, rowL_one, rowL_pure, rowM_all, rowM_one, rowM_pure, rowQ_all, rowQ_one, rowQ_pure, rowD_all, rowD_one, rowD_pure, sT, view_sref, viewRef, view_agg, views_cons, views_nil, view_bool, view_int, view_sl, view_nils, view_str, view_tup, view_nilif]) : G := e.mpr h
theorem aPq {G G' : Prop} (h : G') (f : Wr G' → G := by intro h; (repeat (first | (refine W_seqV fun K hK => ?_; (try (refine sPq ?_; try exact True.intro)); (repeat refine aI ?_); refine hK _ ?_; clear hK K) | (refine W_seqR fun K hK => ?_; (try (refine sPq ?_; try exact True.intro)); (repeat refine aI ?_); refine hK _ ?_; clear hK K) | (refine W_seqD mixed [] (by kernel_rfl) fun K hK => ?_; (try (refine sPq ?_; try exact True.intro)); (repeat refine aI ?_); refine hK _ ?_; clear hK K))); exact h.out) : G := f ⟨h⟩

set_option maxHeartbeats 16000000 in
theorem holds_law (r : Rw) (ls : List LL) (ds : List DD) (h : RwOk r) (hL : LsOk ls) (hD : DsOk ds) : Pure Tryz.prog 8 [.agg r.cells, .sl (tab rowL ls), .sl (tab rowD ds)] (· = .bool true) := by
  have h1 := irow_ok r ls h hL
  have h2 := f10eqn_ok r h
  have haw := awake_ok
  have hN := eqn_nf r
  have hb := eqn_nbs h
  have hro := rows_ok hL hN (by omega) (eqnF r).length (Nat.le_refl _)
  have hrl := rowsTo_len ls (eqnF r) (eqnF r).length
  have hel := nbs_len (eqnF r)
  have hdl := deltas_ok ds (eqnF r) hD hb
  have hm : ∀ k, k < (rowsTo ls (eqnF r) (eqnF r).length).length → ∃ u kk, kk < (eqnF r).length ∧ impR u ls (eqnF r) kk = some ((rowsTo ls (eqnF r) (eqnF r).length).getD k default) := fun k hk =>
    rowsTo_mem (by simp [List.getD_eq_getElem?_getD, hk])
  have hchk : ∀ k, k < (rowsTo ls (eqnF r) (eqnF r).length).length → Pure Tryz.prog 41 [.agg ((rowsTo ls (eqnF r) (eqnF r).length).getD k default).cells, .agg r.cells, .sl (tab rowL ls)] (· = .bool true) := fun k hk => by
    have := icheck_ok ((rowsTo ls (eqnF r) (eqnF r).length).getD k default) r ls (hro _ (by simp [List.getD_eq_getElem?_getD, hk])) h hL
    rwa [check_own hk] at this
  have hds := evd_nb hD (eqnF r) hb (eqnF r).length
  rw [List.take_length] at hds
  generalize eqnF r = e at *
  generalize rowsTo ls e e.length = L at *
  have hsg := f5sign_ok (dq (evd ds e)) (dq_ok (by omega))
  rw [dq_v, dq_av] at hsg
  have hlim := fun v => f10limit_ok ls v
  have hval := fun v => valued_ok ds v
  have hvo := valD_ok hD
  have hlo := lim_ok hL
  have hK0 : ((dsg (evd ds e) == 0) && (e.take 0).all fun p => keepsB (limOf ls p.1) (valD ds p.1)) = (dsg (evd ds e) == 0) := by simp
  have hKs : ∀ i, i < e.length → ((dsg (evd ds e) == 0) && (e.take (i + 1)).all fun p => keepsB (limOf ls p.1) (valD ds p.1)) = (((dsg (evd ds e) == 0) && (e.take i).all fun p => keepsB (limOf ls p.1) (valD ds p.1)) && keepsB (limOf ls (e.getD i default).1) (valD ds (e.getD i default).1)) := fun i hi => by
    have hg : e.getD i default = e[i] := by simp [List.getD_eq_getElem?_getD, hi]
    rw [List.take_succ_eq_append_getElem hi, List.all_append, ← Bool.and_assoc, hg]
    simp only [List.all_cons, List.all_nil, Bool.and_true]
  have hKe : ((dsg (evd ds e) == 0) && (e.take e.length).all fun p => keepsB (limOf ls p.1) (valD ds p.1)) = true → evd ds e = (0, 0) ∧ ∀ p ∈ e, keepsB (limOf ls p.1) (valD ds p.1) = true := fun hk => by
    rw [List.take_length, Bool.and_eq_true, List.all_eq_true] at hk
    exact ⟨dsg_zero (by simpa using hk.1), hk.2⟩
  generalize hK : (fun i => ((dsg (evd ds e) == 0) && (e.take i).all fun p => keepsB (limOf ls p.1) (valD ds p.1))) = K at *
  have hK' : ∀ i, ((dsg (evd ds e) == 0) && (e.take i).all fun p => keepsB (limOf ls p.1) (valD ds p.1)) = K i := fun i => congrFun hK i
  simp only [hK'] at *
  clear hK hK'
  have hlaw : K e.length = true → ∀ k, k < L.length → ((L.getD k default).upper = true → ¬ 0 < dsg (dsub (valD ds (L.getD k default).var).v (L.getD k default).at_.v)) ∧ ((L.getD k default).upper = false → ¬ dsg (dsub (valD ds (L.getD k default).var).v (L.getD k default).at_.v) < 0) := fun hk k hkl => by
    obtain ⟨hz, hkp⟩ := hKe hk
    obtain ⟨u, kk, hkk, hi⟩ := hm k hkl
    exact holds_plain hN hkk hi hz hkp
  clear hKe hm
  generalize evd ds e = ev at *
  simp only [cD] at hsg hdl
  obtain ⟨b, f⟩ := r
  simp only [Rw.cells] at *
  (refine pureW Tryz.func8 rfl (rs := [Go.ResultVar.tmp 6]) rfl (n := 96) rfl ?_; simp only [List.length_cons, List.length_nil, List.replicate, List.cons_append, List.nil_append])
  (refine aPq ?_)
  refine W_seq ?_
  ((first | refine W_seqV ?_ | refine W_seq (W_seqV ?_) | refine W_regV ?_); intro K hK; (refine sPq ?_; try exact True.intro))
  ((repeat refine aI ?_); refine ⟨by kernel_rfl, rfl, _, h2, ?_⟩; (try (refine sPq ?_; try exact True.intro)); (repeat refine aI ?_))
  ((repeat refine aI ?_); refine hK _ ?_; clear hK K)
  simp only [thenW]
  refine W_seq ?_
  ((first | refine W_seqV ?_ | refine W_seq (W_seqV ?_) | refine W_regV ?_); intro K hK; (refine sPq ?_; try exact True.intro))
  ((repeat refine aI ?_); refine ⟨by kernel_rfl, rfl, _, hdl, ?_⟩; (try (refine sPq ?_; try exact True.intro)); (repeat refine aI ?_))
  ((repeat refine aI ?_); refine ⟨by kernel_rfl, rfl, _, hsg, ?_⟩; (try (refine sPq ?_; try exact True.intro)); (repeat refine aI ?_))
  ((repeat refine aI ?_); refine hK _ ?_; clear hK K)
  simp only [thenW]
  refine W_seq ?_
  refine W_seq ?_
  ((first | refine W_seqV ?_ | refine W_seq (W_seqV ?_) | refine W_regV ?_); intro K hK; (refine sPq ?_; try exact True.intro))
  ((repeat refine aI ?_); refine hK _ ?_; clear hK K)
  refine W_block (W_loop (fun t : {t : Nat // t ≤ e.length} =>
      ⟨(.any :: (.sl (tab rowL ls)) :: (.sl (tab rowD ds)) :: (.ptr 3 0 0) :: .any :: .any :: (.bool false) :: (.sl (tab rowQ e)) :: (.bool (K t.1)) :: (.int .i64 t.1) :: .any :: .any :: .any :: .any :: .any :: .any :: .any :: .any :: .any :: .any :: .any :: .any :: .any :: .any :: .any :: .any :: .any :: .any :: .any :: .any :: .any :: .any :: .any :: .any :: .any :: .any :: .any :: .any :: .any :: .any :: .any :: .any :: .any :: .any :: .any :: .any :: .any :: .any :: .any :: .any :: .any :: .any :: .any :: .any :: .any :: .any :: .any :: .any :: .any :: .any :: .any :: .any :: .any :: .any :: .any :: .any :: .any :: .any :: .any :: .any :: .any :: .any :: .any :: .any :: .any :: .any :: .any :: .any :: .any :: .any :: .any :: .any :: .any :: .any :: .any :: .any :: .any :: .any :: .any :: .any :: .any :: .any :: .any :: .any :: .any :: .any :: []), (.dead :: .dead :: .dead :: (.arr 39 2 false [[.int .i64 b, .sl (tab rowM f)]]) :: .dead :: .dead :: .dead :: .dead :: .dead :: .dead :: .dead :: .dead :: .dead :: .dead :: .dead :: .dead :: .dead :: .dead :: .dead :: .dead :: .dead :: .dead :: .dead :: .dead :: .dead :: .dead :: .dead :: .dead :: .dead :: .dead :: .dead :: .dead :: .dead :: .dead :: .dead :: .dead :: .dead :: .dead :: .dead :: .dead :: .dead :: .dead :: .dead :: .dead :: .dead :: .dead :: .dead :: .dead :: .dead :: .dead :: .dead :: .dead :: .dead :: .dead :: .dead :: .dead :: .dead :: .dead :: .dead :: .dead :: .dead :: .dead :: .dead :: .dead :: .dead :: .dead :: .dead :: .dead :: .dead :: .dead :: .dead :: .dead :: .dead :: .dead :: .dead :: .dead :: .dead :: .dead :: .dead :: .dead :: .dead :: .dead :: .dead :: .dead :: .dead :: .dead :: .dead :: .dead :: .dead :: .dead :: .dead :: .dead :: .dead :: .dead :: .dead :: .dead :: [])⟩) (fun t => e.length - t.1)
      ⟨0, by omega⟩ (Le_of (by simp [leE, hK0]) (by simp)) fun t => ?_)
  obtain ⟨i, hi⟩ := t
  dsimp only
  by_cases hlt : i < e.length
  · have hXi : (tab rowQ e).getD i [] = rowQ (e.getD i default) := tab_getD hlt
    have hKi := hKs i hlt
    generalize e.getD i default = p at *
    obtain ⟨v, c⟩ := p
    dsimp only at *
    simp only [rowQ] at hXi
    have hlv := hlim v
    have hvv := hval v
    obtain ⟨ho1, ho2⟩ := hvo v
    obtain ⟨hl1, hl2, hl3⟩ := hlo v
    unfold lw at hl3
    have hkv := keeps_ok (limOf ls v) (valD ds v) ho1 hl1 hl2 (by omega) (by omega)
    generalize valD ds v = vd at *
    generalize limOf ls v = lv at *
    generalize keepsB lv vd = kb at *
    refine W_seq ?_
    ((first | refine W_seqV ?_ | refine W_seq (W_seqV ?_) | refine W_regV ?_); intro K hK; (refine sPqX hlt ?_; try exact True.intro))
    ((repeat refine aI ?_); refine hK _ ?_; clear hK K)
    (first | refine W_cond rfl (fun _ => ?_) (fun h => by cases h) | refine W_seq (W_cond rfl (fun _ => ?_) (fun h => by cases h)))
    refine W_skip ?_
    simp only [thenW]
    refine W_seq ?_
    refine W_block ?_
    refine W_seq ?_
    ((first | refine W_seqV ?_ | refine W_seq (W_seqV ?_) | refine W_regV ?_); intro K hK; (refine sPqX (And.intro hXi hlt) ?_; try exact True.intro))
    ((repeat refine aI ?_); refine hK _ ?_; clear hK K)
    simp only [thenW]
    generalize K i = ki at *
    cases ki
    · ((first | refine W_seqV ?_ | refine W_seq (W_seqV ?_) | refine W_regV ?_); intro K hK; (refine sPq ?_; try exact True.intro))
      ((repeat refine aI ?_); refine hK _ ?_; clear hK K)
      simp only [blockW, thenW]
      ((first | refine W_seqV ?_ | refine W_seq (W_seqV ?_) | refine W_regV ?_); intro K hK; (refine sPq ?_; try exact True.intro))
      ((repeat refine aI ?_); refine hK _ ?_; clear hK K)
      simp only [blockW, thenW]
      refine ⟨⟨i + 1, by omega⟩, Le_drop (by simp [leE, hKi]) (by simp [leH]) rfl rfl, ?_⟩
      dsimp only
      omega
    · ((first | refine W_seqV ?_ | refine W_seq (W_seqV ?_) | refine W_regV ?_); intro K hK; (refine sPq ?_; try exact True.intro))
      ((repeat refine aI ?_); refine ⟨by kernel_rfl, rfl, _, hlv, ?_⟩; (try (refine sPq ?_; try exact True.intro)); (repeat refine aI ?_))
      ((repeat refine aI ?_); refine ⟨by kernel_rfl, rfl, _, hvv, ?_⟩; (try (refine sPq ?_; try exact True.intro)); (repeat refine aI ?_))
      ((repeat refine aI ?_); refine ⟨by kernel_rfl, rfl, _, hkv, ?_⟩; (try (refine sPq ?_; try exact True.intro)); (repeat refine aI ?_))
      ((repeat refine aI ?_); refine hK _ ?_; clear hK K)
      simp only [blockW, thenW]
      ((first | refine W_seqV ?_ | refine W_seq (W_seqV ?_) | refine W_regV ?_); intro K hK; (refine sPq ?_; try exact True.intro))
      ((repeat refine aI ?_); refine hK _ ?_; clear hK K)
      simp only [blockW, thenW]
      refine ⟨⟨i + 1, by omega⟩, Le_drop (by simp [leE, hKi]) (by simp [leH]) rfl rfl, ?_⟩
      dsimp only
      omega
  · obtain rfl : i = e.length := by omega
    generalize K e.length = kb at *
    refine W_seq ?_
    ((first | refine W_seqV ?_ | refine W_seq (W_seqV ?_) | refine W_regV ?_); intro K hK; (refine sPq ?_; try exact True.intro))
    ((repeat refine aI ?_); refine hK _ ?_; clear hK K)
    (first | refine W_cond rfl (fun h => by cases h) (fun _ => ?_) | refine W_seq (W_cond rfl (fun h => by cases h) (fun _ => ?_)))
    refine W_exit ?_
    simp only [thenW, blockW, if_true]
    refine W_seq ?_
    ((first | refine W_seqV ?_ | refine W_seq (W_seqV ?_) | refine W_regV ?_); intro K hK; (refine sPq ?_; try exact True.intro))
    ((repeat refine aI ?_); refine ⟨by kernel_rfl, rfl, _, h1, ?_⟩; (try (refine sPq ?_; try exact True.intro)); (repeat refine aI ?_))
    ((repeat refine aI ?_); refine hK _ ?_; clear hK K)
    simp only [thenW]
    refine W_seq ?_
    refine W_seq ?_
    ((first | refine W_seqV ?_ | refine W_seq (W_seqV ?_) | refine W_regV ?_); intro K hK; (refine sPq ?_; try exact True.intro))
    ((repeat refine aI ?_); refine hK _ ?_; clear hK K)
    refine W_block (W_loop (fun t : {t : Nat // t ≤ L.length} =>
        ⟨(.any :: (.sl (tab rowL ls)) :: (.sl (tab rowD ds)) :: (.ptr 3 0 0) :: .any :: .any :: (.bool false) :: .any :: (.bool kb) :: .any :: .any :: (.sl (tab rowI L)) :: (.int .i64 t.1) :: .any :: .any :: .any :: .any :: .any :: .any :: .any :: .any :: .any :: .any :: .any :: .any :: .any :: .any :: .any :: .any :: .any :: .any :: .any :: .any :: .any :: .any :: .any :: .any :: .any :: .any :: .any :: .any :: .any :: .any :: .any :: .any :: .any :: .any :: .any :: .any :: .any :: .any :: .any :: .any :: .any :: .any :: .any :: .any :: .any :: .any :: .any :: .any :: .any :: .any :: .any :: .any :: .any :: .any :: .any :: .any :: .any :: .any :: .any :: .any :: .any :: .any :: .any :: .any :: .any :: .any :: .any :: .any :: .any :: .any :: .any :: .any :: .any :: .any :: .any :: .any :: .any :: .any :: .any :: .any :: .any :: .any :: .any :: []), (.dead :: .dead :: .dead :: (.arr 39 2 false [[.int .i64 b, .sl (tab rowM f)]]) :: .dead :: .dead :: .dead :: .dead :: .dead :: .dead :: .dead :: .dead :: .dead :: .dead :: .dead :: .dead :: .dead :: .dead :: .dead :: .dead :: .dead :: .dead :: .dead :: .dead :: .dead :: .dead :: .dead :: .dead :: .dead :: .dead :: .dead :: .dead :: .dead :: .dead :: .dead :: .dead :: .dead :: .dead :: .dead :: .dead :: .dead :: .dead :: .dead :: .dead :: .dead :: .dead :: .dead :: .dead :: .dead :: .dead :: .dead :: .dead :: .dead :: .dead :: .dead :: .dead :: .dead :: .dead :: .dead :: .dead :: .dead :: .dead :: .dead :: .dead :: .dead :: .dead :: .dead :: .dead :: .dead :: .dead :: .dead :: .dead :: .dead :: .dead :: .dead :: .dead :: .dead :: .dead :: .dead :: .dead :: .dead :: .dead :: .dead :: .dead :: .dead :: .dead :: .dead :: .dead :: .dead :: .dead :: .dead :: .dead :: .dead :: .dead :: .dead :: .dead :: [])⟩) (fun t => L.length - t.1)
        ⟨0, by omega⟩ (Le_drop (by simp [leE]) (by simp [leH]) rfl rfl) fun t => ?_)
    obtain ⟨k, hk⟩ := t
    dsimp only
    by_cases hlk : k < L.length
    · have hLk : (tab rowI L).getD k [] = (L.getD k default).cells := tab_getD hlk
      have hck := hchk k hlk
      have hxo := hro (L.getD k default) (by simp [List.getD_eq_getElem?_getD, hlk])
      have hlw : kb = true → _ := fun hk => hlaw hk k hlk
      generalize L.getD k default = x at *
      have hvv := hval x.var
      obtain ⟨ho1, ho2⟩ := hvo x.var
      have hcm := f5cmp_ok (valD ds x.var) x.at_ ho1 hxo.at_ (by have := nb2_sub (valD ds x.var).v x.at_.v; have := hxo.nb; omega)
      generalize dsg (dsub (valD ds x.var).v x.at_.v) = d at *
      generalize valD ds x.var = vd at *
      obtain ⟨v, u, ⟨⟨n, x1, y⟩, ⟨m, z, w⟩⟩, by_⟩ := x
      obtain ⟨⟨n', x1', y'⟩, ⟨m', z', w'⟩⟩ := vd
      simp only [II.cells, DD.av, DD.cells] at *
      refine W_seq ?_
      ((first | refine W_seqV ?_ | refine W_seq (W_seqV ?_) | refine W_regV ?_); intro K hK; (refine sPqX hlk ?_; try exact True.intro))
      ((repeat refine aI ?_); refine hK _ ?_; clear hK K)
      (first | refine W_cond rfl (fun _ => ?_) (fun h => by cases h) | refine W_seq (W_cond rfl (fun _ => ?_) (fun h => by cases h)))
      refine W_skip ?_
      simp only [thenW]
      refine W_seq ?_
      refine W_block ?_
      refine W_seq ?_
      ((first | refine W_seqD mixed [] (by kernel_rfl) ?_ | refine W_seq (W_seqD mixed [] (by kernel_rfl) ?_) | refine W_regD mixed [] (by kernel_rfl) ?_); intro K hK; (refine sPqX (And.intro hLk hlk) ?_; try exact True.intro))
      ((repeat refine aI ?_); refine ⟨by kernel_rfl, rfl, _, hck, ?_⟩; (try (refine sPq ?_; try exact True.intro)); (repeat refine aI ?_))
      ((repeat refine aI ?_); refine hK _ ?_; clear hK K)
      (first | refine W_cond rfl (fun h => by cases h) (fun _ => ?_) | refine W_seq (W_cond rfl (fun h => by cases h) (fun _ => ?_)))
      refine W_skip ?_
      simp only [thenW]
      refine W_seq ?_
      refine W_seq ?_
      ((first | refine W_seqV ?_ | refine W_seq (W_seqV ?_) | refine W_regV ?_); intro K hK; (refine sPq ?_; try exact True.intro))
      ((repeat refine aI ?_); refine hK _ ?_; clear hK K)
      simp only [thenW]
      cases kb
      · (first | refine W_cond rfl (fun _ => ?_) (fun h => by cases h) | refine W_seq (W_cond rfl (fun _ => ?_) (fun h => by cases h)))
        refine W_exit ?_
        simp only [thenW, blockW, if_true]
        ((first | refine W_seqV ?_ | refine W_seq (W_seqV ?_) | refine W_regV ?_); intro K hK; (refine sPq ?_; try exact True.intro))
        ((repeat refine aI ?_); refine hK _ ?_; clear hK K)
        simp only [blockW, thenW]
        refine ⟨⟨k + 1, by omega⟩, Le_drop (by simp [leE]) (by simp [leH]) rfl rfl, ?_⟩
        dsimp only
        omega
      · obtain ⟨hu1, hu2⟩ := hlw rfl
        (first | refine W_cond rfl (fun h => by cases h) (fun _ => ?_) | refine W_seq (W_cond rfl (fun h => by cases h) (fun _ => ?_)))
        refine W_skip ?_
        simp only [thenW]
        refine W_seq ?_
        ((first | refine W_seqD mixed [] (by kernel_rfl) ?_ | refine W_seq (W_seqD mixed [] (by kernel_rfl) ?_) | refine W_regD mixed [] (by kernel_rfl) ?_); intro K hK; (refine sPqX (And.intro hLk hlk) ?_; try exact True.intro))
        ((repeat refine aI ?_); refine ⟨by kernel_rfl, rfl, _, hvv, ?_⟩; (try (refine sPq ?_; try exact True.intro)); (repeat refine aI ?_))
        ((repeat refine aI ?_); refine ⟨by kernel_rfl, rfl, _, hcm, ?_⟩; (try (refine sPq ?_; try exact True.intro)); (repeat refine aI ?_))
        ((repeat refine aI ?_); refine hK _ ?_; clear hK K)
        simp only [thenW]
        refine W_seq ?_
        cases u
        · have hd := hu2 rfl
          ((first | refine W_seqV ?_ | refine W_seq (W_seqV ?_) | refine W_regV ?_); intro K hK; (refine sPqX (And.intro hLk (And.intro hlk hd)) ?_; try exact True.intro))
          ((repeat refine aI ?_); refine hK _ ?_; clear hK K)
          simp only [thenW]
          (first | refine W_cond rfl (fun h => by cases h) (fun _ => ?_) | refine W_seq (W_cond rfl (fun h => by cases h) (fun _ => ?_)))
          refine W_skip ?_
          simp only [blockW, thenW]
          ((first | refine W_seqV ?_ | refine W_seq (W_seqV ?_) | refine W_regV ?_); intro K hK; (refine sPq ?_; try exact True.intro))
          ((repeat refine aI ?_); refine hK _ ?_; clear hK K)
          simp only [blockW, thenW]
          refine ⟨⟨k + 1, by omega⟩, Le_drop (by simp [leE]) (by simp [leH]) rfl rfl, ?_⟩
          dsimp only
          omega
        · have hd := hu1 rfl
          ((first | refine W_seqV ?_ | refine W_seq (W_seqV ?_) | refine W_regV ?_); intro K hK; (refine sPqX (And.intro hLk (And.intro hlk hd)) ?_; try exact True.intro))
          ((repeat refine aI ?_); refine hK _ ?_; clear hK K)
          simp only [thenW]
          (first | refine W_cond rfl (fun h => by cases h) (fun _ => ?_) | refine W_seq (W_cond rfl (fun h => by cases h) (fun _ => ?_)))
          refine W_skip ?_
          simp only [blockW, thenW]
          ((first | refine W_seqV ?_ | refine W_seq (W_seqV ?_) | refine W_regV ?_); intro K hK; (refine sPq ?_; try exact True.intro))
          ((repeat refine aI ?_); refine hK _ ?_; clear hK K)
          simp only [blockW, thenW]
          refine ⟨⟨k + 1, by omega⟩, Le_drop (by simp [leE]) (by simp [leH]) rfl rfl, ?_⟩
          dsimp only
          omega
    · obtain rfl : k = L.length := by omega
      refine W_seq ?_
      ((first | refine W_seqV ?_ | refine W_seq (W_seqV ?_) | refine W_regV ?_); intro K hK; (refine sPq ?_; try exact True.intro))
      ((repeat refine aI ?_); refine hK _ ?_; clear hK K)
      (first | refine W_cond rfl (fun h => by cases h) (fun _ => ?_) | refine W_seq (W_cond rfl (fun h => by cases h) (fun _ => ?_)))
      refine W_exit ?_
      simp only [thenW, blockW, if_true]
      refine W_seq ?_
      ((first | refine W_seqV ?_ | refine W_seq (W_seqV ?_) | refine W_regV ?_); intro K hK; (refine sPq ?_; try exact True.intro))
      ((repeat refine aI ?_); refine ⟨by kernel_rfl, rfl, _, haw, ?_⟩; (try (refine sPq ?_; try exact True.intro)); (repeat refine aI ?_))
      ((repeat refine aI ?_); refine hK _ ?_; clear hK K)
      simp only [thenW]
      refine W_ret ?_
      (refine qG ?_; try exact True.intro); try (refine sPqV ?_; try exact True.intro)
end Go.Proofs.YtjkjapjcmbfkgaaGreat.Vm

/-
  Arguments read as plain data: opened into abstract values.
-/
namespace Go.Proofs.YtjkjapjcmbfkgaaGreat.Vm
open Go Go.RowKit
set_option linter.unusedVariables false
set_option linter.unusedSimpArgs false

section
variable {H : Type} {encH : TypeId × Value → H} {P : Program} {w : World}
/-- Cells that read as data of a type stand for a value of α; its weight is at most the reading's bulk. -/
def Opens (encH : TypeId × Value → H) (P : Program) (w : World) (t : TypeId) {α : Type} (e : α → List AV) (good : α → Prop) (wt : α → Nat) : Prop :=
  ∀ (fuel : Nat) (cs : List Value) (x : DataW H × List MemPlace), DataW.trod encH P w 0 (fun _ => true) true fuel t cs = some x → ∃ a, Rps w (fun _ => False) noPl (e a) cs ∧ good a ∧ wt a ≤ Rows.uptoBulk x.1

theorem Opens.bool {t : TypeId} (ht : P.underlying t = some .bool) : Opens encH P w t (fun b : Bool => [.bool b]) (fun _ => True) (fun _ => 1) := by
  intro fuel cs x h
  obtain ⟨b, rfl, rfl⟩ := DataW.trod_bool ht h
  exact ⟨b, ⟨_, _, rfl, rfl, rfl⟩, trivial, by simp [Rows.uptoBulk]⟩
theorem Opens.i64 {t : TypeId} (ht : P.underlying t = some (.int .i64)) : Opens encH P w t (fun n : Int => [.int .i64 n]) (fun n => -9223372036854775808 ≤ n ∧ n ≤ 9223372036854775807) (fun _ => 1) := by
  intro fuel cs x h
  obtain ⟨n, rfl, rfl, hw⟩ := DataW.trod_int ht h
  exact ⟨n, ⟨_, _, rfl, rfl, rfl⟩, bounds_i64 hw, by simp [Rows.uptoBulk]⟩
theorem Opens.u32 {t : TypeId} (ht : P.underlying t = some (.int .u32)) : Opens encH P w t (fun n : Nat => [.int .u32 (n : Int)]) (fun n => n < 4294967296) (fun _ => 1) := by
  intro fuel cs x h
  obtain ⟨n, rfl, rfl, hw⟩ := DataW.trod_int ht h
  obtain ⟨h1, h2⟩ := bounds_u32 hw
  refine ⟨n.toNat, ⟨_, _, rfl, ?_, rfl⟩, by omega, by simp [Rows.uptoBulk]⟩
  show Value.int .u32 n = _
  rw [Int.toNat_of_nonneg h1]
theorem Opens.str {t : TypeId} (ht : P.underlying t = some .string) : Opens encH P w t (fun s : ByteArray => [.str s]) (fun _ => True) (fun s => s.size + 1) := by
  intro fuel cs x h
  obtain ⟨s, rfl, rfl, hs⟩ := DataW.trod_string ht h
  refine ⟨s, ⟨_, _, rfl, rfl, rfl⟩, trivial, ?_⟩
  simp only [Rows.uptoBulk]
  have : s.data.toList.length = s.size := by rw [Array.length_toList]; rfl
  omega
theorem Opens.map {t : TypeId} {α β : Type} {e : α → List AV} {good : α → Prop} {wt : α → Nat} (h : Opens encH P w t e good wt) {e' : β → List AV} {good' : β → Prop} {wt' : β → Nat} (f : α → β)
    (he : ∀ a, e' (f a) = e a) (hg : ∀ a, good a → good' (f a)) (hw : ∀ a, wt' (f a) ≤ wt a) : Opens encH P w t e' good' wt' := by
  intro fuel cs x hx
  obtain ⟨a, h1, h2, h3⟩ := h fuel cs x hx
  exact ⟨f a, by rw [he]; exact h1, hg a h2, Nat.le_trans (hw a) h3⟩
theorem Opens.two {t : TypeId} {f0 f1 : Field} (ht : P.underlying t = some (.struct #[f0, f1])) (o0 : f0.offset = 0) (o1 : f1.offset = P.cellsOf f0.type) (hl : P.cellsOf t = P.cellsOf f0.type + P.cellsOf f1.type)
    {α β : Type} {e0 : α → List AV} {g0 : α → Prop} {w0 : α → Nat} {e1 : β → List AV} {g1 : β → Prop} {w1 : β → Nat} (h0 : Opens encH P w f0.type e0 g0 w0) (h1 : Opens encH P w f1.type e1 g1 w1) :
    Opens encH P w t (fun p : α × β => e0 p.1 ++ e1 p.2) (fun p => g0 p.1 ∧ g1 p.2) (fun p => w0 p.1 + w1 p.2 + 1) := by
  intro fuel cs x h
  obtain ⟨xs, n, _, rfl, hlen, hxs, hf⟩ := DataW.trod_struct ht h
  match xs, hxs with
  | [y0, y1], _ =>
    obtain ⟨a, r0, q0, b0⟩ := h0 _ _ _ (hf 0 f0 rfl)
    obtain ⟨b, r1, q1, b1⟩ := h1 _ _ _ (hf 1 f1 rfl)
    refine ⟨(a, b), ?_, ⟨q0, q1⟩, ?_⟩
    · have := r0.append r1
      rw [o0, o1, List.drop_zero, List.take_of_length_le (l := cs.drop _) (by rw [List.length_drop]; omega), List.take_append_drop] at this
      exact this
    · simp only [List.map_cons, List.map_nil, Rows.uptoBulk, Rows.uptoBulkAll]
      omega
def sumW {α : Type} (wt : α → Nat) : List α → Nat
  | [] => 0
  | x :: l => wt x + sumW wt l
theorem sumW_snoc {α : Type} (wt : α → Nat) (l : List α) (x : α) : sumW wt (l ++ [x]) = sumW wt l + wt x := by
  induction l with
  | nil => simp [sumW]
  | cons y l ih => simp only [List.cons_append, sumW, ih]; omega
theorem bulk_append (l r : List (DataW H)) : Rows.uptoBulkAll (l ++ r) = Rows.uptoBulkAll l + Rows.uptoBulkAll r := by
  induction l with
  | nil => simp [Rows.uptoBulkAll]
  | cons x l ih => simp only [List.cons_append, Rows.uptoBulkAll, ih]; omega
theorem Opens.slice {t e : TypeId} (ht : P.underlying t = some (.slice e)) (hpos : 0 < P.cellsOf e) {α : Type} {enc : α → List AV} {good : α → Prop} {wt : α → Nat} (he : Opens encH P w e enc good wt) :
    Opens encH P w t (fun l : List α => [.sl (tab enc l)]) (fun l => ∀ x ∈ l, good x) (fun l => sumW wt l + 1) := by
  intro fuel cs x h
  rcases DataW.trod_slice ht h with ⟨rfl, rfl⟩ | ⟨a, len, cap, elems, rest, n, _, rfl, rfl, hb, hlc, hcm, hlen, hel, _, _⟩
  · exact ⟨[], ⟨_, _, rfl, ⟨none, 0, rfl, Nat.le_refl _, by decide, .inl rfl⟩, rfl⟩, by simp, by simp [Rows.uptoBulk, sumW]⟩
  · obtain ⟨b, o, spot⟩ := a
    have step : ∀ m, m ≤ len → ∃ (l : List α) (vss : List (List Value)), l.length = m ∧ vss.flatten.length = m * P.cellsOf e ∧ RpR w (fun _ => False) noPl (tab enc l) vss ∧ (∀ x ∈ l, good x) ∧ sumW wt l ≤ Rows.uptoBulkAll ((elems.take m).map (·.1)) ∧
        (0 < m → spot = none ∧ b < w.heap.size) ∧ CellsAt w b o vss.flatten := by
      intro m
      induction m with
      | zero => exact fun _ => ⟨[], [], rfl, by simp, rfl, by simp, by simp [sumW, Rows.uptoBulkAll], by omega, fun j u hj => by simp at hj⟩
      | succ m ih =>
        intro hm
        obtain ⟨l, vss, h1, h2, h3, h4, h5, h6, h7⟩ := ih (by omega)
        have hi := hel m (by omega)
        have hg : elems[m]? = some (elems[m]'(by omega)) := by simp
        rw [hg] at hi
        obtain ⟨cs', hc, hd⟩ := Option.bind_eq_some_iff.1 hi
        obtain ⟨_, hcl, hcell⟩ := World.cells?_some hc
        obtain ⟨y, hy1, hy2, hy3⟩ := he _ _ _ hd
        obtain ⟨c0, hc0⟩ : ∃ c0, cs'[0]? = some c0 := ⟨cs'[0]'(by omega), by simp⟩
        have g0 : w.cell? (((⟨b, o, spot⟩ : Addr).add (m * P.cellsOf e)).add 0) = some c0 := by rw [hcell 0 hpos, hc0]
        have hsp : spot = none ∧ b < w.heap.size := by
          have hs : spot = none := by
            cases m with
            | zero => have := World.cell?_spot g0; simpa [Addr.add] using this
            | succ m => exact (h6 (by omega)).1
          refine ⟨hs, ?_⟩
          have : ((⟨b, o, spot⟩ : Addr).add (m * P.cellsOf e)).add 0 = ⟨b, o + m * P.cellsOf e, none⟩ := by rw [hs, WideShapes.add_plain, WideShapes.add_plain]; rfl
          rw [this] at g0
          unfold World.cell? at g0
          split at g0
          · rename_i heq
            exact (Array.getElem?_eq_some_iff.1 heq).1
          · cases g0
        obtain ⟨hs, hbs⟩ := hsp
        subst hs
        refine ⟨l ++ [y], vss ++ [cs'], by simp [h1], ?_, ?_, ?_, ?_, fun _ => ⟨rfl, hbs⟩, ?_⟩
        · rw [List.flatten_append, List.length_append, h2, Nat.succ_mul]
          simp [hcl]
        · rw [← tab_snoc]
          exact h3.append ⟨_, _, rfl, hy1, rfl⟩
        · intro x hx
          rcases List.mem_append.1 hx with hx | hx
          · exact h4 x hx
          · rw [List.mem_singleton] at hx; subst hx; exact hy2
        · rw [sumW_snoc, List.take_add_one, hg, List.map_append, bulk_append]
          simp only [Option.toList_some, List.map_cons, List.map_nil, Rows.uptoBulkAll]
          omega
        · intro j u hj
          rw [List.flatten_append] at hj
          by_cases hjl : j < vss.flatten.length
          · rw [List.getElem?_append_left hjl] at hj
            exact h7 j u hj
          · rw [List.getElem?_append_right (by omega)] at hj
            simp only [List.flatten_cons, List.flatten_nil, List.append_nil] at hj
            have hlt : j - vss.flatten.length < cs'.length := (List.getElem?_eq_some_iff.1 hj).1
            have := hcell (j - vss.flatten.length) (by omega)
            rw [WideShapes.add_plain, WideShapes.add_plain, hj] at this
            rw [← this]
            congr 2
            omega
    obtain ⟨l, vss, h1, h2, h3, h4, h5, h6, h7⟩ := step len (Nat.le_refl _)
    have htl : (tab enc l).length = len := by rw [tab_length, h1]
    refine ⟨l, ⟨_, _, rfl, ⟨some ⟨b, o, spot⟩, cap, by rw [htl], by rw [htl]; exact hlc, hcm, ?_⟩, rfl⟩, h4, ?_⟩
    · by_cases h0 : 0 < len
      · obtain ⟨rfl, hbs⟩ := h6 h0
        exact .inr ⟨b, o, vss, rfl, fun h => h, hbs, h7, h3⟩
      · left
        have : l = [] := List.eq_nil_of_length_eq_zero (by omega)
        rw [this]; rfl
    · rw [List.take_of_length_le (by omega)] at h5
      simp only [Rows.uptoBulk]
      omega
end
end Go.Proofs.YtjkjapjcmbfkgaaGreat.Vm

/-
  Arguments of the program's own types opened: numbers, forms, atoms.
-/
namespace Go.Proofs.YtjkjapjcmbfkgaaGreat.Vm
open Go Go.RowKit
set_option linter.unusedVariables false
set_option linter.unusedSimpArgs false

section
variable {H : Type} {encH : TypeId × Value → H} {w : World}
theorem sumW_one (l : List Nat) : sumW (fun _ => 1) l = l.length := by
  induction l with
  | nil => rfl
  | cons x l ih => simp only [sumW, ih, List.length_cons]; omega
theorem opens_nat : Opens encH Tryz.prog w 25 (fun l : List Nat => [.sl (u32s l)]) Limbs (fun l => l.length + 1) :=
  (Opens.slice Tryz.underlying25 (by show 0 < Tryz.prog.cellsOf 114; rw [show Tryz.prog.cellsOf 114 = 1 by kernel_rfl]; decide) (Opens.u32 Tryz.underlying114)).map id (fun _ => rfl) (fun _ h => h) (fun l => by show l.length + 1 ≤ sumW (fun _ => 1) l + 1; rw [sumW_one]; exact Nat.le_refl _)
theorem opens_int : Opens encH Tryz.prog w 27 (fun p : Bool × List Nat => [.bool p.1, .sl (u32s p.2)]) (fun p => Limbs p.2) (fun p => p.2.length + 3) :=
  (Opens.two Tryz.underlying27 rfl (by kernel_rfl) (by kernel_rfl) (Opens.bool Tryz.underlying4) opens_nat).map id (fun _ => rfl) (fun _ h => h.2) (fun l => by simp only [id]; omega)
def RR.good (r : RR) : Prop := Limbs r.num ∧ Limbs r.den
def RR.wt (r : RR) : Nat := r.num.length + r.den.length + 5
theorem RR.bits_wt (r : RR) : r.bits ≤ 32 * r.wt := by unfold RR.bits RR.wt; omega
theorem opens_rat : Opens encH Tryz.prog w 29 rowR RR.good RR.wt :=
  (Opens.two Tryz.underlying29 rfl (by kernel_rfl) (by kernel_rfl) opens_int opens_nat).map (fun p => (⟨p.1.1, p.1.2, p.2⟩ : RR)) (fun _ => rfl) (fun _ h => h) (fun l => by simp only [RR.wt]; omega)
def mono_wt (p : Int × RR) : Nat := p.2.wt + 2
theorem opens_mono : Opens encH Tryz.prog w 54 rowM (fun p : Int × RR => (-9223372036854775808 ≤ p.1 ∧ p.1 ≤ 9223372036854775807) ∧ p.2.good) mono_wt :=
  (Opens.two Tryz.underlying54 rfl (by kernel_rfl) (by kernel_rfl) (Opens.i64 Tryz.underlying3) opens_rat).map id (fun _ => rfl) (fun _ h => h) (fun l => by simp only [id, mono_wt]; omega)
def form_good (f : List (Int × RR)) : Prop := ∀ p ∈ f, (-9223372036854775808 ≤ p.1 ∧ p.1 ≤ 9223372036854775807) ∧ p.2.good
def form_wt (f : List (Int × RR)) : Nat := sumW mono_wt f + 1
theorem opens_form : Opens encH Tryz.prog w 23 (fun f => [cF f]) form_good form_wt :=
  Opens.slice Tryz.underlying23 (by show 0 < Tryz.prog.cellsOf 54; rw [show Tryz.prog.cellsOf 54 = 4 by kernel_rfl]; decide) opens_mono
def At.good (a : At) : Prop := form_good a.form ∧ a.bound.good
def At.wt (a : At) : Nat := a.name.size + form_wt a.form + a.bound.wt + 3
end

/-! ### what little bulk means -/

theorem RR.good.ok {r : RR} (h : r.good) (hb : r.wt ≤ 1048576) : r.ok := ⟨h.1, h.2, by unfold RR.wt at hb; omega, by unfold RR.wt at hb; omega⟩
theorem RR.good.nb {r : RR} (h : r.good) : nb r.v ≤ 32 * r.wt := Nat.le_trans (nb_v r h.1 h.2) r.bits_wt
theorem form_nbs : ∀ {f : List (Int × RR)}, form_good f → nbs (vals f) ≤ 32 * sumW mono_wt f
  | [], _ => by simp [vals, nbs]
  | p :: f, h => by
    have h1 := (h p List.mem_cons_self).2.nb
    have h2 := form_nbs (f := f) fun q hq => h q (List.mem_cons_of_mem _ hq)
    simp only [vals, List.map_cons, nbs, sumW, mono_wt] at *
    omega
theorem sumW_mem {α : Type} {wt : α → Nat} {l : List α} {x : α} (h : x ∈ l) : wt x ≤ sumW wt l := by
  induction l with
  | nil => cases h
  | cons y l ih =>
    simp only [sumW]
    rcases List.mem_cons.1 h with rfl | h
    · omega
    · have := ih h; omega
theorem form_ok {f : List (Int × RR)} (h : form_good f) (hb : form_wt f ≤ 1048576) : FOk f 67108864 ∧ nbs (vals f) ≤ 67108864 := by
  have h1 := form_nbs h
  unfold form_wt at hb
  refine ⟨⟨fun p hp => (h p hp).2.ok ?_, (Sz.of _).mono (by omega)⟩, by omega⟩
  have := sumW_mem (wt := mono_wt) hp
  unfold mono_wt at this hb
  omega
theorem At.good.ok {a : At} (h : a.good) (hb : a.wt ≤ 1048576) : AtOk a := by
  unfold At.wt at hb
  obtain ⟨h1, h2⟩ := form_ok h.1 (by omega)
  refine ⟨h1, h2, h.2.ok (by omega), ?_⟩
  have := h.2.nb
  omega
end Go.Proofs.YtjkjapjcmbfkgaaGreat.Vm

/-
  Parameters opened.
-/
namespace Go.Proofs.YtjkjapjcmbfkgaaGreat.Vm
open Go Go.RowKit
set_option linter.unusedVariables false
set_option linter.unusedSimpArgs false
section
variable {H : Type} {encH : TypeId × Value → H} {P : Program} {w : World}
theorem rps_some {α : Type} {t : TypeId} {e : α → List AV} {good : α → Prop} {wt : α → Nat} (h : Opens encH P w t e good wt) {v : Value} {d : DataW H} {p : List MemPlace} (hd : DataW.Trod encH P w 0 (fun _ => true) true t v d p) :
    ∃ a, Rps w (fun _ => False) noPl (e a) v.cells.toList ∧ good a ∧ wt a ≤ Rows.uptoBulk d := by
  obtain ⟨fuel, hf⟩ := hd
  exact h fuel _ _ hf
theorem par_struct {α : Type} {t : TypeId} {fs : Array Field} (ht : P.underlying t = some (.struct fs)) {e : α → List AV} {good : α → Prop} {wt : α → Nat} (h : Opens encH P w t e good wt) {base : Nat} {v : Value} (hok : Value.okWide P w .any base t v) {d : DataW H} {p : List MemPlace} (hd : DataW.Trod encH P w 0 (fun _ => true) true t v d p) :
    ∃ a, Rp w (fun _ => False) noPl (.agg (e a)) v ∧ good a ∧ wt a ≤ Rows.uptoBulk d := by
  unfold Value.okWide at hok
  rw [ht] at hok
  obtain ⟨cs, rfl, _, _⟩ := hok
  obtain ⟨a, h1, h2, h3⟩ := rps_some h hd
  exact ⟨a, ⟨cs.toList, by simp, h1⟩, h2, h3⟩
theorem par_slice {α : Type} {t el : TypeId} (ht : P.underlying t = some (.slice el)) {e : α → AV} {good : α → Prop} {wt : α → Nat} (h : Opens encH P w t (fun a => [e a]) good wt) {base : Nat} {v : Value} (hok : Value.okWide P w .any base t v) {d : DataW H} {p : List MemPlace} (hd : DataW.Trod encH P w 0 (fun _ => true) true t v d p) :
    ∃ a, Rp w (fun _ => False) noPl (e a) v ∧ good a ∧ wt a ≤ Rows.uptoBulk d := by
  unfold Value.okWide at hok
  rw [ht] at hok
  unfold Cell.okWide at hok
  rw [ht] at hok
  obtain ⟨a, h1, h2, h3⟩ := rps_some h hd
  obtain ⟨u, us, e1, e2, e3⟩ := h1
  have e4 : us = [] := e3
  subst e4
  cases v <;> simp only [Value.cells] at e1 <;> first
    | (simp only [Cell.ok, ht] at hok; done)
    | (have e5 := (List.cons.inj e1).1; subst e5; exact ⟨a, e2, h2, h3⟩)
end
end Go.Proofs.YtjkjapjcmbfkgaaGreat.Vm

/-
  Arguments of the program's own types opened: rows, limits.
-/
namespace Go.Proofs.YtjkjapjcmbfkgaaGreat.Vm
open Go Go.RowKit
set_option maxRecDepth 100000
set_option linter.unusedVariables false
set_option linter.unusedSimpArgs false
section
variable {H : Type} {encH : TypeId × Value → H} {P : Program} {w : World}
theorem Opens.three {t : TypeId} {f0 f1 f2 : Field} (ht : P.underlying t = some (.struct #[f0, f1, f2])) (o0 : f0.offset = 0) (o1 : f1.offset = P.cellsOf f0.type) (o2 : f2.offset = P.cellsOf f0.type + P.cellsOf f1.type) (hl : P.cellsOf t = P.cellsOf f0.type + P.cellsOf f1.type + P.cellsOf f2.type)
    {α β γ : Type} {e0 : α → List AV} {g0 : α → Prop} {w0 : α → Nat} {e1 : β → List AV} {g1 : β → Prop} {w1 : β → Nat} {e2 : γ → List AV} {g2 : γ → Prop} {w2 : γ → Nat}
    (h0 : Opens encH P w f0.type e0 g0 w0) (h1 : Opens encH P w f1.type e1 g1 w1) (h2 : Opens encH P w f2.type e2 g2 w2) :
    Opens encH P w t (fun p : α × β × γ => e0 p.1 ++ (e1 p.2.1 ++ e2 p.2.2)) (fun p => g0 p.1 ∧ g1 p.2.1 ∧ g2 p.2.2) (fun p => w0 p.1 + w1 p.2.1 + w2 p.2.2 + 1) := by
  intro fuel cs x h
  obtain ⟨xs, n, _, rfl, hlen, hxs, hf⟩ := DataW.trod_struct ht h
  match xs, hxs with
  | [y0, y1, y2], _ =>
    obtain ⟨a, r0, q0, b0⟩ := h0 _ _ _ (hf 0 f0 rfl)
    obtain ⟨b, r1, q1, b1⟩ := h1 _ _ _ (hf 1 f1 rfl)
    obtain ⟨c, r2, q2, b2⟩ := h2 _ _ _ (hf 2 f2 rfl)
    refine ⟨(a, b, c), ?_, ⟨q0, q1, q2⟩, ?_⟩
    · have := r0.append (r1.append r2)
      rw [o0, o1, o2, List.drop_zero] at this
      rw [List.take_of_length_le (l := cs.drop (P.cellsOf f0.type + P.cellsOf f1.type)) (by rw [List.length_drop]; omega)] at this
      rw [← List.drop_drop, List.take_append_drop, List.take_append_drop] at this
      exact this
    · simp only [List.map_cons, List.map_nil, Rows.uptoBulk, Rows.uptoBulkAll]
      omega
end
section
variable {H : Type} {encH : TypeId × Value → H} {w : World}
def DD.good (d : DD) : Prop := d.a.good ∧ d.b.good
def DD.wt (d : DD) : Nat := d.a.wt + d.b.wt
theorem opens_delta : Opens encH Tryz.prog w 46 DD.cells DD.good DD.wt :=
  (Opens.two Tryz.underlying46 (by kernel_rfl) (by kernel_rfl) (by kernel_rfl) opens_rat opens_rat).map (fun p => (⟨p.1, p.2⟩ : DD)) (fun p => rfl) (fun _ h => h) (fun p => by simp only [DD.wt]; omega)
def BB.good (b : BB) : Prop := b.at_.good
def BB.wt (b : BB) : Nat := b.at_.wt
theorem opens_bound : Opens encH Tryz.prog w 60 BB.cells BB.good BB.wt :=
  (Opens.three Tryz.underlying60 (by kernel_rfl) (by kernel_rfl) (by kernel_rfl) (by kernel_rfl) (Opens.bool Tryz.underlying4) opens_delta (Opens.i64 Tryz.underlying3)).map (fun p => (⟨p.1, p.2.1, p.2.2⟩ : BB)) (fun p => rfl) (fun _ h => h.2.1) (fun p => by simp only [BB.wt]; omega)
def LL.good (l : LL) : Prop := l.lower.good ∧ l.upper.good
def LL.wt (l : LL) : Nat := l.lower.wt + l.upper.wt
theorem opens_limit : Opens encH Tryz.prog w 62 rowL LL.good LL.wt :=
  (Opens.two Tryz.underlying62 (by kernel_rfl) (by kernel_rfl) (by kernel_rfl) opens_bound opens_bound).map (fun p => (⟨p.1, p.2⟩ : LL)) (fun p => rfl) (fun _ h => h) (fun p => by simp only [LL.wt]; omega)
theorem opens_limits : Opens encH Tryz.prog w 40 (fun l : List LL => [.sl (tab rowL l)]) (fun l => ∀ x ∈ l, x.good) (fun l => sumW LL.wt l + 1) :=
  Opens.slice Tryz.underlying40 (by show 0 < Tryz.prog.cellsOf 62; rw [show Tryz.prog.cellsOf 62 = 16 by kernel_rfl]; decide) opens_limit
def Rw.good (r : Rw) : Prop := form_good r.form
def Rw.wt (r : Rw) : Nat := form_wt r.form
theorem opens_row : Opens encH Tryz.prog w 39 Rw.cells Rw.good Rw.wt :=
  (Opens.two Tryz.underlying39 (by kernel_rfl) (by kernel_rfl) (by kernel_rfl) (Opens.i64 Tryz.underlying3) opens_form).map (fun p => (⟨p.1, p.2⟩ : Rw)) (fun p => rfl) (fun _ h => h.2) (fun p => by simp only [Rw.wt]; omega)
end
theorem Rw.good.ok {r : Rw} (h : r.good) (hb : r.wt ≤ 1048576) : RwOk r := ⟨(form_ok h hb).1, (form_ok h hb).2⟩
theorem DD.good.ok {d : DD} (h : d.good) (hb : d.wt ≤ 1048576) : d.ok := ⟨h.1.ok (by unfold DD.wt at hb; omega), h.2.ok (by unfold DD.wt at hb; omega)⟩
theorem DD.good.nb {d : DD} (h : d.good) : nb2 d.v ≤ 32 * d.wt := by
  unfold DD.wt
  exact nb2_le (Nat.le_trans h.1.nb (by omega)) (Nat.le_trans h.2.nb (by omega))
theorem lws_le : ∀ {ls : List LL}, (∀ x ∈ ls, x.good) → lws ls ≤ 32 * sumW LL.wt ls
  | [], _ => Nat.le_refl _
  | l :: ls, h => by
    have h1 := lws_le (ls := ls) fun x hx => h x (List.mem_cons_of_mem _ hx)
    have h2 := (h l List.mem_cons_self).1.nb
    have h3 := (h l List.mem_cons_self).2.nb
    unfold lws at *
    simp only [List.map_cons, sumN, sumW, lw, LL.wt, BB.wt] at *
    omega
theorem limits_ok {ls : List LL} (h : ∀ x ∈ ls, x.good) (hb : sumW LL.wt ls ≤ 1048576) : LsOk ls := by
  refine ⟨fun l hl => ?_, by have := lws_le h; omega⟩
  have hw : l.lower.at_.wt + l.upper.at_.wt ≤ sumW LL.wt ls := sumW_mem (wt := LL.wt) hl
  exact ⟨(h l hl).1.ok (by omega), (h l hl).2.ok (by omega)⟩
end Go.Proofs.YtjkjapjcmbfkgaaGreat.Vm

/-
  Arguments opened: pairs in a list.
-/
namespace Go.Proofs.YtjkjapjcmbfkgaaGreat.Vm
open Go Go.RowKit
set_option maxRecDepth 100000
set_option linter.unusedVariables false
set_option linter.unusedSimpArgs false
section
variable {H : Type} {encH : TypeId × Value → H} {w : World}
theorem opens_deltas : Opens encH Tryz.prog w 84 (fun l : List DD => [.sl (tab rowD l)]) (fun l => ∀ x ∈ l, x.good) (fun l => sumW DD.wt l + 1) :=
  Opens.slice (enc := rowD) Tryz.underlying84 (by show 0 < Tryz.prog.cellsOf 46; rw [show Tryz.prog.cellsOf 46 = 6 by kernel_rfl]; decide) opens_delta
end
theorem nbl_ds (g : DD → Rat) (hg : ∀ d : DD, d.good → nb (g d) ≤ 32 * d.wt) : ∀ {ds : List DD}, (∀ x ∈ ds, x.good) → nbl (ds.map g) ≤ 32 * sumW DD.wt ds
  | [], _ => Nat.le_refl _
  | d :: ds, h => by
    have h1 := nbl_ds g hg (ds := ds) fun x hx => h x (List.mem_cons_of_mem _ hx)
    have h2 := hg d (h d List.mem_cons_self)
    simp only [List.map_cons, nbl, sumW] at *
    omega
theorem deltas_good {ds : List DD} (h : ∀ x ∈ ds, x.good) (hb : sumW DD.wt ds ≤ 1048576) : DsOk ds := by
  refine ⟨fun d hd => ?_, ?_, ?_⟩
  · have hw : d.wt ≤ sumW DD.wt ds := sumW_mem (wt := DD.wt) hd
    exact (h d hd).ok (by omega)
  · have := nbl_ds (fun d => d.a.v) (fun d hd => Nat.le_trans (nb2_1 d.v) hd.nb) h
    omega
  · have := nbl_ds (fun d => d.b.v) (fun d hd => Nat.le_trans (nb2_2 d.v) hd.nb) h
    omega
end Go.Proofs.YtjkjapjcmbfkgaaGreat.Vm

/-
  ImpliedHolds, the statement.
-/
namespace Go.Proofs.YtjkjapjcmbfkgaaGreat.Vm
open Go Go.RowKit Go.ChangeShapes Go.WideShapes Go.ChangeAt
set_option maxRecDepth 100000
set_option linter.unusedVariables false
set_option linter.unusedSimpArgs false

namespace impliedHolds_
theorem own : ownKnob Tryz.prog.godebug = none := by kernel_rfl
theorem laidOut : laidOutB Tryz.prog = true := by kernel_rfl
theorem contract (H : Type) (encH : TypeId × Value → H) (W : World) (base : Nat) (args : Array Value) (ds gs : List (DataW H)) (before : List MemPlace)
    (hval : ∀ (j : Nat) t v, Tryz.f8.params[j]? = some t → args[j]? = some v → Value.okWide Tryz.prog W .any base t v)
    (hW : DataW.Whole encH Tryz.prog Tryz.f8.params.toList Rows.impliedHoldsSpec.vars false W args.toList ds gs before) (hk : Rows.uptoSmall H (ds ++ gs) = true) :
    Calls Tryz.prog 8 args W fun e W' => ∃ v, e = .returned v ∧ Rows.impliedHoldsSpec.post encH Tryz.prog Tryz.f8 false true false false W args v W' := by
  have hW' := hW
  obtain ⟨p, q, hA0, hV, rfl, hfz, hnd⟩ := hW
  have hA : DataW.TrodAll encH Tryz.prog W 0 (fun _ => true) true Tryz.f8.params.toList args.toList ds p := hA0
  rw [Tryz.params8] at hA hval
  obtain ⟨v0, v1, v2, d0, d1, d2, p0, p1, p2, rfl, rfl, rfl, h0, h1, h2⟩ := trodAll_three hA
  obtain ⟨rfl, rfl⟩ := trodVars_none hV
  simp only [List.append_nil] at hW' hk
  have hlt : ∀ x ∈ p0 ++ p1 ++ p2, x.block < W.heap.size := fun x hx => hW'.lt x (by simpa using hx)
  obtain ⟨a0, r0, g0, b0⟩ := par_struct Tryz.underlying39 opens_row (hval 0 39 v0 rfl rfl) h0
  obtain ⟨a1, r1, g1, b1⟩ := par_slice Tryz.underlying40 opens_limits (hval 1 40 v1 rfl rfl) h1
  obtain ⟨a2, r2, g2, b2⟩ := par_slice Tryz.underlying84 opens_deltas (hval 2 84 v2 rfl rfl) h2
  have hbulk : Rows.uptoBulkAll [d0, d1, d2] ≤ 1048576 := of_decide_eq_true hk
  simp only [Rows.uptoBulkAll] at hbulk
  have hlaw := holds_law a0 a1 a2 (g0.ok (by omega)) (limits_ok g1 (by omega)) (deltas_good g2 (by omega))
  refine (hlaw W [v0, v1, v2] (fun _ => False) (fun _ h => h.elim) ⟨_, _, rfl, r0, _, _, rfl, r1, _, _, rfl, r2, rfl⟩).mono fun e W' he => ?_
  obtain ⟨v, r, rfl, rfl, hbel, hrp⟩ := he
  have hv : v = .bool true := hrp
  subst hv
  exact ⟨_, rfl, ⟨_, _, _, [], _, [], hW', trodAll_mk1 (shut_bool Tryz.underlying4 _), trodAll_mk3 (Below.trod laidOut (by kernel_rfl) (of_decide_eq_true (by kernel_rfl)) h0 hbel (fun x hx => hlt x (by simp [hx]))) (Below.trod laidOut (by kernel_rfl) (of_decide_eq_true (by kernel_rfl)) h1 hbel (fun x hx => hlt x (by simp [hx]))) (Below.trod laidOut (by kernel_rfl) (of_decide_eq_true (by kernel_rfl)) h2 hbel (fun x hx => hlt x (by simp [hx]))), rfl, hbel.frame _, fun h => by cases h⟩⟩
theorem lifted (os : Os) (started : os.Started) (H : Type) (enc : TypeId × Value → H) (F : Stop.Interp) :
    ReturnsInHanded {} Tryz.checked os 8 .any ((Rows.OpenSpec.upto Rows.impliedHoldsSpec).pre6 enc Tryz.prog Tryz.f8 Rows.impliedHoldsUptoRow.domain false) (((Rows.OpenSpec.upto Rows.impliedHoldsSpec).at F).post enc Tryz.prog Tryz.f8 false true false false) := by
  refine returnsInHanded_of_cond (C := Tryz.checked) (s := Rows.OpenSpec.upto Rows.impliedHoldsSpec) (k := Rows.uptoSmall) rfl own started (by kernel_rfl) Tryz.func8
    (OpenSpec.witness (enc := enc) (C := Tryz.checked) (s := Rows.OpenSpec.upto Rows.impliedHoldsSpec) (k := Rows.uptoSmall) rfl false ⟨#[], #[.agg #[.int .i64 0, .slice none 0 0], .slice none 0 0, .slice none 0 0], []⟩ 8 (by kernel_rfl) (by kernel_rfl) (by kernel_rfl)
      (x := ([.agg [.lit (.int .i64 0), .nil], .nil, .nil], [], [])) (by kernel_rfl) rfl (by kernel_rfl)) ?_
  intro W base args ds gs before hval hW _ hk _
  exact contract H enc W base args ds gs before hval hW hk
end impliedHolds_

theorem impliedHolds_holds : Rows.ImpliedHoldsUptoSaid :=
  OpenClaim.holds_of_cond 8 Tryz.f8 rfl rfl rfl rfl rfl rfl rfl ⟨rfl, rfl, rfl, rfl, rfl⟩ rfl rfl rfl rfl rfl (by kernel_rfl) Tryz.func8 (by kernel_rfl)
    (of_decide_eq_true (by kernel_rfl)) (by unfold Func.isWrapper; first | (rw [if_pos (by decide +kernel)]; kernel_rfl) | (rw [if_neg (by decide +kernel)]; exact ⟨rfl, rfl⟩))
    (fun os started H enc _ F => impliedHolds_.lifted os started H enc F)
end Go.Proofs.YtjkjapjcmbfkgaaGreat.Vm

