/-
  Part 7 of 8 of a proof.
-/
import Derived.Test.YtjkjapjcmbfkgaaGreatAtoms6
import Derived.Orders
import Derived.Below
import Derived.Laws.AppendOwn
import Derived.Laws.MakeOwn
import Derived.Laws.CopyRow
import Derived.Laws.Rows
import Derived.Laws.Cells
import Derived.Tactics
import Derived.Laws.BitsLemmas
import Derived.Test.YtjkjapjcmbfkgaaGreatProg

/-
  Implied: the clauses of two atoms.
-/
namespace Go.Proofs.YtjkjapjcmbfkgaaGreat.Vm
open Go Go.RowKit
set_option maxRecDepth 100000
set_option linter.unusedVariables false
set_option linter.unusedSimpArgs false
theorem sIc {G G' : Prop} (h : G') (e : G = G' := by conv => lhs; simp (disch := omega) only [rowsOf, cNat, cN, St.ret, St.seth, Eff.app, Eff.wi, sepL, guardOf, St.known, objOf, List.set, sliceW, litW, copyW, lenOf, bnd, mxOk, ofCells, TI.isAgg, cellsOf, storable, AV.one, dead, laid, overlay, reduceCtorEq, Int.reduceLE, Int.reduceLT, Int.reduceSub, Int.reduceAdd, Nat.reduceMul, Int.reduceToNat, Nat.reducePow, Int.reduceNeg, Nat.reduceAdd, Nat.reduceLT, Nat.reduceLeDiff, sA, sB, i64s_length, tab_length, List.take_length, List.length_append, tab_nil, sT]) : G := e.mpr h
theorem sIcX {G G' P : Prop} (p : P) (h : G') (e : P → G = G' := by intro p; conv => lhs; simp (disch := omega) only [rowsOf, cNat, cN, St.ret, St.seth, Eff.app, Eff.wi, sepL, guardOf, St.known, objOf, List.set, sliceW, litW, copyW, lenOf, bnd, mxOk, ofCells, TI.isAgg, cellsOf, storable, AV.one, dead, laid, overlay, reduceCtorEq, Int.reduceLE, Int.reduceLT, Int.reduceSub, Int.reduceAdd, Nat.reduceMul, Int.reduceToNat, Nat.reducePow, Int.reduceNeg, Nat.reduceAdd, Nat.reduceLT, Nat.reduceLeDiff, sA, sB, i64s_length, tab_length, List.take_length, List.length_append, tab_nil, sT, p]) : G := (e p).mpr h
theorem aIc {G G' : Prop} (h : G') (f : Wr G' → G := by intro h; (repeat (first | (refine W_seqV fun K hK => ?_; (try (refine sIc ?_; try exact True.intro)); (repeat refine aI ?_); refine hK _ ?_; clear hK K) | (refine W_seqR fun K hK => ?_; (try (refine sIc ?_; try exact True.intro)); (repeat refine aI ?_); refine hK _ ?_; clear hK K) | (refine W_seqD mixed [] (by kernel_rfl) fun K hK => ?_; (try (refine sIc ?_; try exact True.intro)); (repeat refine aI ?_); refine hK _ ?_; clear hK K))); exact h.out) : G := f ⟨h⟩

def rowC (c : List Int) : List AV := [.sl (i64s c)]
theorem rowC_all (f : List (List Int)) : AllLen 1 (tab rowC f) := tab_all (k := 1) (fun _ => rfl) f
theorem rowC_one (f : List (List Int)) : AllOne (tab rowC f) := tab_one (fun _ => rfl) f
theorem rowC_pure (f : List (List Int)) : AllPure (tab rowC f) := tab_pure (fun _ => rfl) f
def prs : List (Int × Int) := [(1, 2), (1, -2), (-1, 2), (-1, -2)]
def holds2 (a b : At) (p : Int × Int) : Bool := !together (saysH a (decide (p.1 < 0))) (saysH b (decide (p.2 < 0)))
def relT (a b : At) (n : Nat) : List (List Int) := ((prs.take n).filter (holds2 a b)).map fun p => [p.1, p.2]
theorem relT_len (a b : At) (n : Nat) : (relT a b n).length ≤ 4 := by
  unfold relT
  rw [List.length_map]
  refine Nat.le_trans (List.length_filter_le _ _) ?_
  rw [List.length_take]
  exact Nat.min_le_right _ _
theorem relT_succ (a b : At) {n : Nat} (h : n < 4) : relT a b (n + 1) = relT a b n ++ if holds2 a b (prs.getD n (0, 0)) then [[(prs.getD n (0, 0)).1, (prs.getD n (0, 0)).2]] else [] := by
  have hp : prs[n]? = some (prs.getD n (0, 0)) := getD_some h
  unfold relT
  rw [List.take_add_one, hp, List.filter_append, List.map_append]
  congr 1
  simp only [Option.toList_some, List.filter_cons, List.filter_nil]
  split <;> rfl

theorem one_at {i : Nat} (h : i < 2) : ∃ one : Int, (one = 1 ∨ one = -1) ∧ ([AV.int .i64 1, AV.int .i64 (-1)].drop i).take 1 = [.int .i64 one] ∧ ∀ k, k < 2 → (prs.getD (2 * i + k) (0, 0)).1 = one := by
  obtain rfl | rfl : i = 0 ∨ i = 1 := by omega
  · refine ⟨1, .inl rfl, rfl, fun k hk => ?_⟩
    obtain rfl | rfl : k = 0 ∨ k = 1 := by omega
    · rfl
    · rfl
  · refine ⟨-1, .inr rfl, rfl, fun k hk => ?_⟩
    obtain rfl | rfl : k = 0 ∨ k = 1 := by omega
    · rfl
    · rfl
theorem two_at {i k : Nat} (hi : i < 2) (h : k < 2) : ∃ two : Int, ([AV.int .i64 2, AV.int .i64 (-2)].drop k).take 1 = [.int .i64 two] ∧ (prs.getD (2 * i + k) (0, 0)).2 = two := by
  have hi' : i = 0 ∨ i = 1 := by omega
  have hk' : k = 0 ∨ k = 1 := by omega
  rcases hk' with rfl | rfl
  · refine ⟨2, rfl, ?_⟩
    rcases hi' with rfl | rfl
    · rfl
    · rfl
  · refine ⟨-2, rfl, ?_⟩
    rcases hi' with rfl | rfl
    · rfl
    · rfl

set_option maxHeartbeats 8000000 in
theorem relate_new (a b : At) (ha : AtOk a) (hb : AtOk b) : New Tryz.prog 10 [.agg a.cells, .agg b.cells] 91 1 (· = tab rowC (relT a b 4)) := by
  have hsa := fun s => says_ok a s ha
  have hsb := fun s => says_ok b s hb
  have htg := fun s t => itogether_ok (saysH a s) (saysH b t) (saysH_ok ha s) (saysH_ok hb t)
  have hsu := fun n (h : n < 4) => relT_succ a b (n := n) h
  have hle := relT_len a b
  have R0 : relT a b 0 = [] := rfl
  have hold : ∀ p, holds2 a b p = !together (saysH a (decide (p.1 < 0))) (saysH b (decide (p.2 < 0))) := fun _ => rfl
  generalize relT a b = R at *
  generalize holds2 a b = T at *
  (refine new_of_W (T := 91) (k := 1) Tryz.func10 rfl (rs := [Go.ResultVar.tmp 4]) rfl (nt := 37) rfl ?_; simp only [List.length_cons, List.length_nil, List.replicate, List.cons_append, List.nil_append])
  unfold At.cells at *
  (refine aIc ?_)
  refine W.le ?_ (Le_nil 5 5 91 1 true rfl rfl)
  simp only [List.set]
  have i0 : ((0 : Nat) : Int) = 0 := rfl
  have i1 : ((1 : Nat) : Int) = 1 := rfl
  ((first | refine W_seqV ?_ | refine W_seq (W_seqV ?_) | refine W_regV ?_); intro K hK; (refine sIc ?_; try exact True.intro))
  ((repeat refine aI ?_); refine hK _ ?_; clear hK K)
  refine W_block (W_loop (fun t : {t : Nat // t ≤ 2} =>
      ⟨[.any, .any, .ptr 2 0 0, .ptr 3 0 0, .any, .sref 5 0 (R (2 * t.1)).length, .any, .any, .any, .any, .agg [.int .i64 1, .int .i64 (-1)], .int .i64 (t.1 : Int), .any, .any, .any, .any, .any, .any, .any, .any, .any, .any, .any, .any, .any, .any, .any, .any, .any, .any, .any, .any, .any, .any, .any, .any, .any], [.dead, .dead, .arr 31 6 false [a.cells], .arr 31 6 false [b.cells], .dead, .arr 91 1 true (tab rowC (R (2 * t.1))), .dead, .dead, .dead, .dead, .dead, .dead, .dead, .dead, .dead, .dead, .dead, .dead, .dead, .dead, .dead, .dead, .dead, .dead, .dead, .dead, .dead, .dead, .dead, .dead, .dead, .dead, .dead, .dead, .dead, .dead, .dead]⟩) (fun t => 2 - t.1)
      ⟨0, by omega⟩ (Le_of (by simp [leE, R0]) (by simp [At.cells, R0, tab])) fun t => ?_)
  obtain ⟨i, hi⟩ := t
  dsimp only
  by_cases hlt : i < 2
  · have hltI : (i : Int) < 2 := by omega
    refine W_seq ?_
    ((first | refine W_seqV ?_ | refine W_seq (W_seqV ?_) | refine W_regV ?_); intro K hK; (refine sIcX hltI ?_; try exact True.intro))
    ((repeat refine aI ?_); refine hK _ ?_; clear hK K)
    (first | refine W_cond rfl (fun _ => ?_) (fun h => by cases h) | refine W_seq (W_cond rfl (fun _ => ?_) (fun h => by cases h)))
    refine W_skip ?_
    simp only [thenW]
    refine W_seq ?_
    refine W_block ?_
    obtain ⟨one, hone1, hone2, hone3⟩ := one_at hlt
    ((first | refine W_seqV ?_ | refine W_seq (W_seqV ?_) | refine W_regV ?_); intro K hK; simp (disch := omega) only [rowsOf, cNat, cN, St.ret, St.seth, Eff.app, Eff.wi, sepL, guardOf, St.known, objOf, List.set, sliceW, litW, copyW, lenOf, bnd, mxOk, ofCells, TI.isAgg, cellsOf, storable, AV.one, dead, laid, overlay, reduceCtorEq, Int.reduceLE, Int.reduceLT, Int.reduceSub, Int.reduceAdd, Nat.reduceMul, Int.reduceToNat, Nat.reducePow, Int.reduceNeg, Nat.reduceAdd, Nat.reduceLT, Nat.reduceLeDiff, sA, sB, i64s_length, tab_length, List.take_length, List.length_append, tab_nil, sT, hone2, Nat.mul_one])
    ((repeat refine aI ?_); refine hK _ ?_; clear hK K)
    ((first | refine W_seqV ?_ | refine W_seq (W_seqV ?_) | refine W_regV ?_); intro K hK; (refine sIc ?_; try exact True.intro))
    ((repeat refine aI ?_); refine hK _ ?_; clear hK K)
    refine W_block (W_loop (fun t : {t : Nat // t ≤ 2} =>
      ⟨[.any, .any, .ptr 2 0 0, .ptr 3 0 0, .any, .sref 5 0 (R (2 * i + t.1)).length, .any, .int .i64 one, .any, .any, .agg [.int .i64 1, .int .i64 (-1)], .int .i64 (i : Int), .any, .any, .agg [.int .i64 2, .int .i64 (-2)], .int .i64 (t.1 : Int), .any, .any, .any, .any, .any, .any, .any, .any, .any, .any, .any, .any, .any, .any, .any, .any, .any, .any, .any, .any, .any], [.dead, .dead, .arr 31 6 false [a.cells], .arr 31 6 false [b.cells], .dead, .arr 91 1 true (tab rowC (R (2 * i + t.1))), .dead, .dead, .dead, .dead, .dead, .dead, .dead, .dead, .dead, .dead, .dead, .dead, .dead, .dead, .dead, .dead, .dead, .dead, .dead, .dead, .dead, .dead, .dead, .dead, .dead, .dead, .dead, .dead, .dead, .dead, .dead]⟩) (fun t => 2 - t.1)
      ⟨0, by omega⟩ (Le_of (by simp [leE]) (by simp)) fun t => ?_)
    obtain ⟨k, hk⟩ := t
    dsimp only
    by_cases hkt : k < 2
    · have hktI : (k : Int) < 2 := by omega
      have hl4 := hle (2 * i + k)
      have hsuc := hsu (2 * i + k) (by omega)
      have ho := hold (prs.getD (2 * i + k) (0, 0))
      rw [hone3 k hkt] at hsuc ho
      obtain ⟨two, htwo, htw2⟩ := two_at hlt hkt
      rw [htw2] at hsuc ho
      have hsa1 := hsa (decide (one < 0))
      have hsb1 := hsb (decide (two < 0))
      have htg1 := htg (decide (one < 0)) (decide (two < 0))
      clear hsa hsb htg hsu hold hone3 htw2
      generalize together _ _ = tg at *
      generalize T (prs.getD (2 * i + k) (0, 0)) = tk at *
      subst ho
      refine W_seq ?_
      ((first | refine W_seqV ?_ | refine W_seq (W_seqV ?_) | refine W_regV ?_); intro K hK; (refine sIcX hktI ?_; try exact True.intro))
      ((repeat refine aI ?_); refine hK _ ?_; clear hK K)
      (first | refine W_cond rfl (fun _ => ?_) (fun h => by cases h) | refine W_seq (W_cond rfl (fun _ => ?_) (fun h => by cases h)))
      refine W_skip ?_
      simp only [thenW]
      refine W_seq ?_
      refine W_block ?_
      ((first | refine W_seqV ?_ | refine W_seq (W_seqV ?_) | refine W_regV ?_); intro K hK; simp (disch := omega) only [rowsOf, cNat, cN, St.ret, St.seth, Eff.app, Eff.wi, sepL, guardOf, St.known, objOf, List.set, sliceW, litW, copyW, lenOf, bnd, mxOk, ofCells, TI.isAgg, cellsOf, storable, AV.one, dead, laid, overlay, reduceCtorEq, Int.reduceLE, Int.reduceLT, Int.reduceSub, Int.reduceAdd, Nat.reduceMul, Int.reduceToNat, Nat.reducePow, Int.reduceNeg, Nat.reduceAdd, Nat.reduceLT, Nat.reduceLeDiff, sA, sB, i64s_length, tab_length, List.take_length, List.length_append, tab_nil, sT, htwo, Nat.mul_one])
      ((repeat refine aI ?_); refine hK _ ?_; clear hK K)
      simp only [At.cells]
      ((first | refine W_seqD mixed [] (by kernel_rfl) ?_ | refine W_seq (W_seqD mixed [] (by kernel_rfl) ?_) | refine W_regD mixed [] (by kernel_rfl) ?_); intro K hK; (refine sIc ?_; try exact True.intro))
      ((repeat refine aI ?_); refine ⟨by kernel_rfl, rfl, _, hsa1, ?_⟩; (try (refine sIc ?_; try exact True.intro)); (repeat refine aI ?_))
      ((repeat refine aI ?_); refine ⟨by kernel_rfl, rfl, _, hsb1, ?_⟩; (try (refine sIc ?_; try exact True.intro)); (repeat refine aI ?_))
      ((repeat refine aI ?_); refine ⟨by kernel_rfl, rfl, _, htg1, ?_⟩; (try (refine sIc ?_; try exact True.intro)); (repeat refine aI ?_))
      ((repeat refine aI ?_); refine hK _ ?_; clear hK K)
      cases tg
      · simp only [Bool.not_false, if_true] at hsuc
        have hl5 := congrArg List.length hsuc
        simp only [List.length_append, List.length_cons, List.length_nil] at hl5
        (first | refine W_cond rfl (fun _ => ?_) (fun h => by cases h) | refine W_seq (W_cond rfl (fun _ => ?_) (fun h => by cases h)))
        ((first | refine W_seqT 5 fun K hK => ?_ | (refine W_seq ?_; refine W_seqT 5 fun K hK => ?_) | refine W_regT 5 fun K hK => ?_); (refine sIc ?_; try exact True.intro))
        ((repeat refine aI ?_); refine hK _ ?_; clear hK K)
        simp only [thenW, blockW]
        ((first | refine W_seqV ?_ | refine W_seq (W_seqV ?_) | refine W_regV ?_); intro K hK; (refine sIc ?_; try exact True.intro))
        ((repeat refine aI ?_); refine hK _ ?_; clear hK K)
        simp only [thenW, blockW]
        refine ⟨⟨k + 1, by omega⟩, Le_drop (by simp [leE, ← Nat.add_assoc, hl5]) (by simp [leH, ← Nat.add_assoc, hsuc, ← tab_snoc, rowC, At.cells, i64s, tab_take, List.take_length]) rfl rfl, ?_⟩
        dsimp only
        omega
      · simp only [Bool.not_true, Bool.false_eq_true, if_false, List.append_nil] at hsuc
        (first | refine W_cond rfl (fun h => by cases h) (fun _ => ?_) | refine W_seq (W_cond rfl (fun h => by cases h) (fun _ => ?_)))
        refine W_skip ?_
        simp only [thenW, blockW]
        ((first | refine W_seqV ?_ | refine W_seq (W_seqV ?_) | refine W_regV ?_); intro K hK; (refine sIc ?_; try exact True.intro))
        ((repeat refine aI ?_); refine hK _ ?_; clear hK K)
        simp only [thenW, blockW]
        refine ⟨⟨k + 1, by omega⟩, Le_drop (by simp [leE, ← Nat.add_assoc, hsuc]) (by simp [leH, ← Nat.add_assoc, hsuc, At.cells]) rfl rfl, ?_⟩
        dsimp only
        omega
    · obtain rfl : k = 2 := by omega
      refine W_seq ?_
      ((first | refine W_seqV ?_ | refine W_seq (W_seqV ?_) | refine W_regV ?_); intro K hK; (refine sIc ?_; try exact True.intro))
      ((repeat refine aI ?_); refine hK _ ?_; clear hK K)
      (first | refine W_cond rfl (fun h => by cases h) (fun _ => ?_) | refine W_seq (W_cond rfl (fun h => by cases h) (fun _ => ?_)))
      refine W_exit ?_
      simp only [thenW, blockW, if_true]
      ((first | refine W_seqV ?_ | refine W_seq (W_seqV ?_) | refine W_regV ?_); intro K hK; (refine sIc ?_; try exact True.intro))
      ((repeat refine aI ?_); refine hK _ ?_; clear hK K)
      simp only [thenW, blockW]
      refine ⟨⟨i + 1, by omega⟩, Le_drop (by simp [leE, Nat.mul_add]) (by simp [leH, Nat.mul_add]) rfl rfl, ?_⟩
      dsimp only
      omega
  · obtain rfl : i = 2 := by omega
    refine W_seq ?_
    ((first | refine W_seqV ?_ | refine W_seq (W_seqV ?_) | refine W_regV ?_); intro K hK; (refine sIc ?_; try exact True.intro))
    ((repeat refine aI ?_); refine hK _ ?_; clear hK K)
    (first | refine W_cond rfl (fun h => by cases h) (fun _ => ?_) | refine W_seq (W_cond rfl (fun h => by cases h) (fun _ => ?_)))
    refine W_exit ?_
    simp only [thenW, blockW, if_true]
    ((first | refine W_seqV ?_ | refine W_seq (W_seqV ?_) | refine W_regV ?_); intro K hK; (refine sIc ?_; try exact True.intro))
    ((repeat refine aI ?_); refine hK _ ?_; clear hK K)
    refine W_ret ?_
    (refine qG ?_; try exact True.intro)
    exact ⟨tab rowC (R 4), by simp, by simp [tab_length], rfl, rfl⟩
end Go.Proofs.YtjkjapjcmbfkgaaGreat.Vm

/-
  Atoms' truth: plain laws.
-/
namespace Go.Proofs.YtjkjapjcmbfkgaaGreat.Vm
open Go Go.RowKit
set_option maxRecDepth 100000
set_option linter.unusedVariables false
set_option linter.unusedSimpArgs false

/-- Values of the variables out of a list; 0 beyond it. -/
def asg (xs : List Rat) (v : Int) : Rat := if 0 ≤ v then xs.getD v.toNat 0 else 0
def nbl : List Rat → Nat
  | [] => 0
  | x :: xs => nb x + nbl xs
/-- How long the values of a normal form's variables are together. -/
def nbx (x : Int → Rat) : List (Int × Rat) → Nat
  | [] => 0
  | p :: l => nb (x p.1) + nbx x l
theorem toList_loop (b : ByteArray) : ∀ (k i : Nat) (r : List UInt8), b.size - i = k → (ByteArray.toList.loop b i r).length = r.length + k := by
  intro k
  induction k with
  | zero =>
    intro i r h
    unfold ByteArray.toList.loop
    rw [if_neg (by omega)]
    simp
  | succ k ih =>
    intro i r h
    unfold ByteArray.toList.loop
    rw [if_pos (by omega), ih (i + 1) _ (by omega)]
    simp
    omega
theorem toList_len (b : ByteArray) : b.toList.length = b.size := by
  have := toList_loop b b.size 0 [] (by omega)
  show (ByteArray.toList.loop b 0 []).length = b.size
  simpa using this
theorem named_size (b : ByteArray) : decide (0 < b.size) = named b := by
  unfold named
  have h1 : (ByteArray.mk #[]).toList = [] := List.eq_nil_of_length_eq_zero (by rw [toList_len]; rfl)
  rw [h1]
  have h2 := toList_len b
  cases hb : b.toList with
  | nil => rw [hb] at h2; simp at h2; simp [← h2]
  | cons x l => rw [hb] at h2; simp at h2; simp [← h2]

/-! ### truth -/
def inN (names : List ByteArray) (n : ByteArray) : Bool := names.any fun m => m.toList == n.toList
/-- What an atom says, so or not. -/
def truth (a : At) (xs : List Rat) (names : List ByteArray) : Bool :=
  if named a.name = true then inN names a.name
  else decide (rs (ev2 (asg xs) (vals a.form) - a.bound.v) < 0) || (rs (ev2 (asg xs) (vals a.form) - a.bound.v) == 0 && !a.strict)
/-- What a literal says, so or not. -/
def Half.so (h : Half) (xs : List Rat) (names : List ByteArray) : Bool :=
  if named h.name = true then inN names h.name == h.truth
  else if h.shape = [] then h.truth
  else if h.down = true then decide (ev2 (asg xs) h.shape < h.at_.v) || (decide (ev2 (asg xs) h.shape = h.at_.v) && !h.strict)
  else decide (h.at_.v < ev2 (asg xs) h.shape) || (decide (ev2 (asg xs) h.shape = h.at_.v) && !h.strict)
theorem named_nil : named (ByteArray.mk #[]) = false := by simp [named]
theorem primeF_nil {p : Int × Rat} {l : List (Int × Rat)} : primeF (p :: l) ≠ [] := by simp [primeF, scaleF]
/-! ### two at once -/
theorem cmpF_self (f : List (Int × Rat)) : cmpF f f = 0 := by
  have h : subF f f = [] := NF.ext (NF.sub f f) NF.nil fun v => by rw [coef_sub, coef]; grind
  unfold cmpF
  rw [h]
theorem cmpF_zero {f g : List (Int × Rat)} (hf : NF f) (hg : NF g) (h : cmpF f g = 0) : f = g := by
  have h2 := NF.sub f g
  have h3 := coef_sub f g
  unfold cmpF at h
  cases hs : subF f g with
  | nil =>
    refine NF.ext hf hg fun v => ?_
    have := h3 v
    rw [hs] at this
    simp only [coef] at this
    grind
  | cons p l =>
    rw [hs] at h h2
    exact absurd (Rat.num_eq_zero.1 (Int.sign_eq_zero_iff_zero.1 h)) (h2.nz p List.mem_cons_self)
structure Half.fit (h : Half) : Prop where
  nf : NF h.shape
  up : h.shape = [] → h.down = false
theorem relT_all (a b : At) : relT a b 4 = (prs.filter (holds2 a b)).map fun p => [p.1, p.2] := rfl
end Go.Proofs.YtjkjapjcmbfkgaaGreat.Vm

/-
  The reference's rationals: Of, Inv, Div, Abs.
-/
namespace Go.Proofs.YtjkjapjcmbfkgaaGreat.Vm
open Go Go.RowKit
set_option maxRecDepth 100000
set_option linter.unusedVariables false
set_option linter.unusedSimpArgs false
theorem sJf {G G' : Prop} (h : G') (e : G = G' := by conv => lhs; simp (disch := omega) only [rowsOf, cNat, cN, St.ret, St.seth, Eff.app, Eff.wi, sepL, guardOf, St.known, objOf, List.set, sliceW, litW, copyW, lenOf, bnd, mxOk, ofCells, TI.isAgg, cellsOf, storable, AV.one, dead, laid, overlay, reduceCtorEq, Int.reduceLE, Int.reduceLT, Int.reduceSub, Int.reduceAdd, Nat.reduceMul, Int.reduceToNat, Nat.reducePow, Int.reduceNeg, Nat.reduceAdd, Nat.reduceLT, Nat.reduceLeDiff, sA, sB, cI, cZ, cQ, noQ, sT]) : G := e.mpr h
theorem sJfX {G G' P : Prop} (p : P) (h : G') (e : P → G = G' := by intro p; conv => lhs; simp (disch := omega) only [rowsOf, cNat, cN, St.ret, St.seth, Eff.app, Eff.wi, sepL, guardOf, St.known, objOf, List.set, sliceW, litW, copyW, lenOf, bnd, mxOk, ofCells, TI.isAgg, cellsOf, storable, AV.one, dead, laid, overlay, reduceCtorEq, Int.reduceLE, Int.reduceLT, Int.reduceSub, Int.reduceAdd, Nat.reduceMul, Int.reduceToNat, Nat.reducePow, Int.reduceNeg, Nat.reduceAdd, Nat.reduceLT, Nat.reduceLeDiff, sA, sB, cI, cZ, cQ, noQ, sT, p]) : G := (e p).mpr h
theorem sJfV {G G' : Prop} (h : G') (e : G = G' := by conv => lhs; simp (disch := omega) only [rowsOf, cNat, cN, St.ret, St.seth, Eff.app, Eff.wi, sepL, guardOf, St.known, objOf, List.set, sliceW, litW, copyW, lenOf, bnd, mxOk, ofCells, TI.isAgg, cellsOf, storable, AV.one, dead, laid, overlay, reduceCtorEq, Int.reduceLE, Int.reduceLT, Int.reduceSub, Int.reduceAdd, Nat.reduceMul, Int.reduceToNat, Nat.reducePow, Int.reduceNeg, Nat.reduceAdd, Nat.reduceLT, Nat.reduceLeDiff, sA, sB, cI, cZ, cQ, noQ, sT, view_sref, viewRef, view_agg, views_cons, views_nil, view_bool, view_int, view_sl, view_nils, view_str, view_tup, view_nilif]) : G := e.mpr h
theorem aJf {G G' : Prop} (h : G') (f : Wr G' → G := by intro h; (repeat (first | (refine W_seqV fun K hK => ?_; (try (refine sJf ?_; try exact True.intro)); (repeat refine aI ?_); refine hK _ ?_; clear hK K) | (refine W_seqR fun K hK => ?_; (try (refine sJf ?_; try exact True.intro)); (repeat refine aI ?_); refine hK _ ?_; clear hK K) | (refine W_seqD mixed [] (by kernel_rfl) fun K hK => ?_; (try (refine sJf ?_; try exact True.intro)); (repeat refine aI ?_); refine hK _ ?_; clear hK K))); exact h.out) : G := f ⟨h⟩

theorem divInt_signs (x y : Int) (hy : y ≠ 0) : Rat.divInt x y = mkRat (iv (decide (x < 0) != decide (y < 0)) (limbs x.natAbs)) y.natAbs := by
  rcases Int.lt_or_gt_of_ne hy with h | h
  · have h1 : y = -(y.natAbs : Int) := by omega
    have h2 : (decide (x < 0) != decide (y < 0)) = decide (0 ≤ x) := by
      by_cases h0 : x < 0
      · simp [h0, h]
      · simp [h0, h]; omega
    rw [h2]
    rw [show Rat.divInt x y = Rat.divInt x (-(y.natAbs : Int)) by rw [← h1]]
    rw [Rat.divInt_neg', Rat.divInt_ofNat]
    congr 1
    unfold iv
    rw [val_limbs]
    split <;> rename_i h0 <;> simp only [decide_eq_true_eq] at h0 <;> omega
  · have h1 : y = (y.natAbs : Int) := by omega
    have h2 : (decide (x < 0) != decide (y < 0)) = decide (x < 0) := by
      have : ¬ y < 0 := by omega
      simp [this]
    rw [h2]
    rw [show Rat.divInt x y = Rat.divInt x (y.natAbs : Int) by rw [← h1]]
    rw [Rat.divInt_ofNat]
    congr 1
    unfold iv
    rw [val_limbs]
    split <;> rename_i h0 <;> simp only [decide_eq_true_eq] at h0 <;> omega
theorem nat_z {n : Nat} (h : n ≠ 0) : ((((limbs n).length : Nat) : Int) == 0) = false := by
  rw [beq_eq_false_iff_ne]
  have : decide (0 < (limbs n).length) = true := (pos_len n).trans (by simp [h])
  have := of_decide_eq_true this
  omega
theorem f3of_ok (x y : Int) (hx : (limbs x.natAbs).length < 137438953472) (hy : (limbs y.natAbs).length < 137438953472) :
    Pure Tryz.prog 113 [cZ x, cZ y] (· = if y = 0 then noQ else .tup [cQ (Rat.divInt x y), .int .i64 0]) := by
  have h1 := f2norm_ok (decide (x < 0)) (limbs x.natAbs) (limbs_limbs _) (by omega)
  have h2 := f2norm_ok (decide (y < 0)) (limbs y.natAbs) (limbs_limbs _) (by omega)
  rw [iv_cZ] at h1 h2
  by_cases h0 : y = 0
  · subst h0
    rw [if_pos rfl]
    have hz : limbs (Int.natAbs 0) = [] := limbs_zero
    simp only [cI, cZ, hz] at h1 h2 ⊢
    have hz0 : ((0 : Int) == 0) = true := rfl
    have hn0 : decide ((0 : Int) < 0) = false := rfl
    rw [hn0] at h2 ⊢
    (refine pureW Tryz.func113 rfl (rs := [Go.ResultVar.cell 4 29, Go.ResultVar.tmp 5]) rfl (n := 29) rfl ?_; simp only [List.length_cons, List.length_nil, List.replicate, List.cons_append, List.nil_append])
    (refine aJf ?_)
    ((first | refine W_seqV ?_ | refine W_seq (W_seqV ?_) | refine W_regV ?_); intro K hK; (refine sJf ?_; try exact True.intro))
    ((repeat refine aI ?_); refine ⟨by kernel_rfl, rfl, _, h1, ?_⟩; (try (refine sJf ?_; try exact True.intro)); (repeat refine aI ?_))
    ((repeat refine aI ?_); refine hK _ ?_; clear hK K)
    ((first | refine W_seqV ?_ | refine W_seq (W_seqV ?_) | refine W_regV ?_); intro K hK; (refine sJf ?_; try exact True.intro))
    ((repeat refine aI ?_); refine ⟨by kernel_rfl, rfl, _, h2, ?_⟩; (try (refine sJf ?_; try exact True.intro)); (repeat refine aI ?_))
    ((repeat refine aI ?_); refine hK _ ?_; clear hK K)
    refine W_seq ?_
    ((first | refine W_seqV ?_ | refine W_seq (W_seqV ?_) | refine W_regV ?_); intro K hK; (refine sJfX hz0 ?_; try exact True.intro))
    ((repeat refine aI ?_); refine hK _ ?_; clear hK K)
    (first | refine W_cond rfl (fun _ => ?_) (fun h => by cases h) | refine W_seq (W_cond rfl (fun _ => ?_) (fun h => by cases h)))
    ((first | refine W_seqV ?_ | refine W_seq (W_seqV ?_) | refine W_regV ?_); intro K hK; (refine sJf ?_; try exact True.intro))
    ((repeat refine aI ?_); refine hK _ ?_; clear hK K)
    refine W_ret ?_
    (refine qG ?_; try exact True.intro); try (refine sJfV ?_; try exact True.intro)
  · rw [if_neg h0, divInt_signs x y h0]
    have hy0 := nat_z (show y.natAbs ≠ 0 by omega)
    have hn := f3norm_ok0 (decide (x < 0) != decide (y < 0)) (limbs x.natAbs) (limbs y.natAbs) (limbs_limbs _) (limbs_limbs _) hx hy
    rw [val_limbs] at hn
    have hbx : ∀ a b : Bool, (a != b) = (!(a == b)) := fun a b => rfl
    generalize mkRat (iv (decide (x < 0) != decide (y < 0)) (limbs x.natAbs)) y.natAbs = q at *
    rw [hbx] at hn
    simp only [cI, cZ, cQ] at *
    generalize decide (x < 0) = a at *
    generalize decide (y < 0) = b at *
    (refine pureW Tryz.func113 rfl (rs := [Go.ResultVar.cell 4 29, Go.ResultVar.tmp 5]) rfl (n := 29) rfl ?_; simp only [List.length_cons, List.length_nil, List.replicate, List.cons_append, List.nil_append])
    (refine aJf ?_)
    ((first | refine W_seqV ?_ | refine W_seq (W_seqV ?_) | refine W_regV ?_); intro K hK; (refine sJf ?_; try exact True.intro))
    ((repeat refine aI ?_); refine ⟨by kernel_rfl, rfl, _, h1, ?_⟩; (try (refine sJf ?_; try exact True.intro)); (repeat refine aI ?_))
    ((repeat refine aI ?_); refine hK _ ?_; clear hK K)
    ((first | refine W_seqV ?_ | refine W_seq (W_seqV ?_) | refine W_regV ?_); intro K hK; (refine sJf ?_; try exact True.intro))
    ((repeat refine aI ?_); refine ⟨by kernel_rfl, rfl, _, h2, ?_⟩; (try (refine sJf ?_; try exact True.intro)); (repeat refine aI ?_))
    ((repeat refine aI ?_); refine hK _ ?_; clear hK K)
    refine W_seq ?_
    ((first | refine W_seqV ?_ | refine W_seq (W_seqV ?_) | refine W_regV ?_); intro K hK; (refine sJfX hy0 ?_; try exact True.intro))
    ((repeat refine aI ?_); refine hK _ ?_; clear hK K)
    (first | refine W_cond rfl (fun h => by cases h) (fun _ => ?_) | refine W_seq (W_cond rfl (fun h => by cases h) (fun _ => ?_)))
    refine W_skip ?_
    simp only [thenW]
    ((first | refine W_seqV ?_ | refine W_seq (W_seqV ?_) | refine W_regV ?_); intro K hK; (refine sJf ?_; try exact True.intro))
    ((repeat refine aI ?_); refine ⟨by kernel_rfl, rfl, _, hn, ?_⟩; (try (refine sJf ?_; try exact True.intro)); (repeat refine aI ?_))
    ((repeat refine aI ?_); refine hK _ ?_; clear hK K)
    refine W_ret ?_
    (refine qG ?_; try exact True.intro); try (refine sJfV ?_; try exact True.intro)
theorem f3inv_ok (r : RR) (hr : r.ok) : Pure Tryz.prog 63 [r.av] (· = if r.v = 0 then noQ else cQE (r.v)⁻¹) := by
  have hn := f3norm_ok r hr
  have ho := v_ok hr
  have hp := positive_ok (limbs r.v.den)
  have hf := f3of_ok (r.v.den : Int) r.v.num (by rw [Int.natAbs_natCast]; exact Nat.lt_trans ho.dl (by decide)) (Nat.lt_trans ho.nl (by decide))
  rw [← Rat.inv_def] at hf
  have hd : decide ((r.v.den : Int) < 0) = false := by simp
  simp only [Rat.num_eq_zero] at hf
  obtain ⟨neg, n, d⟩ := r
  simp only [RR.av] at hn ⊢
  generalize RR.v _ = q at *
  simp only [cZ, cI, hd, Int.natAbs_natCast] at hf
  simp only [cQ, cNat, cI] at hn hp
  have hff : Pure Tryz.prog 113 [.agg [.bool false, .sl (u32s (limbs q.den))], .agg [.bool (decide (q.num < 0)), .sl (u32s (limbs q.num.natAbs))]] (· = if q = 0 then noQ else cQE q⁻¹) := hf
  by_cases h0 : q = 0
  · rw [if_pos h0] at hff ⊢
    simp only [noQ] at hff
    (refine pureW Tryz.func63 rfl (rs := [Go.ResultVar.cell 2 29, Go.ResultVar.tmp 3]) rfl (n := 14) rfl ?_; simp only [List.length_cons, List.length_nil, List.replicate, List.cons_append, List.nil_append])
    (refine aJf ?_)
    ((first | refine W_seqV ?_ | refine W_seq (W_seqV ?_) | refine W_regV ?_); intro K hK; (refine sJf ?_; try exact True.intro))
    ((repeat refine aI ?_); refine ⟨by kernel_rfl, rfl, _, hn, ?_⟩; (try (refine sJf ?_; try exact True.intro)); (repeat refine aI ?_))
    ((repeat refine aI ?_); refine hK _ ?_; clear hK K)
    ((first | refine W_seqD mixed [] (by kernel_rfl) ?_ | refine W_seq (W_seqD mixed [] (by kernel_rfl) ?_) | refine W_regD mixed [] (by kernel_rfl) ?_); intro K hK; (refine sJf ?_; try exact True.intro))
    ((repeat refine aI ?_); refine ⟨by kernel_rfl, rfl, _, hp, ?_⟩; (try (refine sJf ?_; try exact True.intro)); (repeat refine aI ?_))
    ((repeat refine aI ?_); refine ⟨by kernel_rfl, rfl, _, hff, ?_⟩; (try (refine sJf ?_; try exact True.intro)); (repeat refine aI ?_))
    ((repeat refine aI ?_); refine hK _ ?_; clear hK K)
    refine W_ret ?_
    (refine qG ?_; try exact True.intro); try (refine sJfV ?_; try exact True.intro)
  · rw [if_neg h0] at hff ⊢
    simp only [cQE, cQ] at hff ⊢
    (refine pureW Tryz.func63 rfl (rs := [Go.ResultVar.cell 2 29, Go.ResultVar.tmp 3]) rfl (n := 14) rfl ?_; simp only [List.length_cons, List.length_nil, List.replicate, List.cons_append, List.nil_append])
    (refine aJf ?_)
    ((first | refine W_seqV ?_ | refine W_seq (W_seqV ?_) | refine W_regV ?_); intro K hK; (refine sJf ?_; try exact True.intro))
    ((repeat refine aI ?_); refine ⟨by kernel_rfl, rfl, _, hn, ?_⟩; (try (refine sJf ?_; try exact True.intro)); (repeat refine aI ?_))
    ((repeat refine aI ?_); refine hK _ ?_; clear hK K)
    ((first | refine W_seqD mixed [] (by kernel_rfl) ?_ | refine W_seq (W_seqD mixed [] (by kernel_rfl) ?_) | refine W_regD mixed [] (by kernel_rfl) ?_); intro K hK; (refine sJf ?_; try exact True.intro))
    ((repeat refine aI ?_); refine ⟨by kernel_rfl, rfl, _, hp, ?_⟩; (try (refine sJf ?_; try exact True.intro)); (repeat refine aI ?_))
    ((repeat refine aI ?_); refine ⟨by kernel_rfl, rfl, _, hff, ?_⟩; (try (refine sJf ?_; try exact True.intro)); (repeat refine aI ?_))
    ((repeat refine aI ?_); refine hK _ ?_; clear hK K)
    refine W_ret ?_
    (refine qG ?_; try exact True.intro); try (refine sJfV ?_; try exact True.intro)
def absQ (q : Rat) : Rat := if q < 0 then -q else q
end Go.Proofs.YtjkjapjcmbfkgaaGreat.Vm

/-
  Numbers with deltas: the program's, the reference's.
-/
namespace Go.Proofs.YtjkjapjcmbfkgaaGreat.Vm
open Go Go.RowKit
set_option maxRecDepth 100000
set_option linter.unusedVariables false
set_option linter.unusedSimpArgs false
theorem sDa {G G' : Prop} (h : G') (e : G = G' := by conv => lhs; simp (disch := omega) only [rowsOf, cNat, cN, St.ret, St.seth, Eff.app, Eff.wi, sepL, guardOf, St.known, objOf, List.set, sliceW, litW, copyW, lenOf, bnd, mxOk, ofCells, TI.isAgg, cellsOf, storable, AV.one, dead, laid, overlay, reduceCtorEq, Int.reduceLE, Int.reduceLT, Int.reduceSub, Int.reduceAdd, Nat.reduceMul, Int.reduceToNat, Nat.reducePow, Int.reduceNeg, Nat.reduceAdd, Nat.reduceLT, Nat.reduceLeDiff, sA, sB, cQ, sT]) : G := e.mpr h
theorem sDaX {G G' P : Prop} (p : P) (h : G') (e : P → G = G' := by intro p; conv => lhs; simp (disch := omega) only [rowsOf, cNat, cN, St.ret, St.seth, Eff.app, Eff.wi, sepL, guardOf, St.known, objOf, List.set, sliceW, litW, copyW, lenOf, bnd, mxOk, ofCells, TI.isAgg, cellsOf, storable, AV.one, dead, laid, overlay, reduceCtorEq, Int.reduceLE, Int.reduceLT, Int.reduceSub, Int.reduceAdd, Nat.reduceMul, Int.reduceToNat, Nat.reducePow, Int.reduceNeg, Nat.reduceAdd, Nat.reduceLT, Nat.reduceLeDiff, sA, sB, cQ, sT, p]) : G := (e p).mpr h
theorem sDaV {G G' : Prop} (h : G') (e : G = G' := by conv => lhs; simp (disch := omega) only [rowsOf, cNat, cN, St.ret, St.seth, Eff.app, Eff.wi, sepL, guardOf, St.known, objOf, List.set, sliceW, litW, copyW, lenOf, bnd, mxOk, ofCells, TI.isAgg, cellsOf, storable, AV.one, dead, laid, overlay, reduceCtorEq, Int.reduceLE, Int.reduceLT, Int.reduceSub, Int.reduceAdd, Nat.reduceMul, Int.reduceToNat, Nat.reducePow, Int.reduceNeg, Nat.reduceAdd, Nat.reduceLT, Nat.reduceLeDiff, sA, sB, cQ, sT, view_sref, viewRef, view_agg, views_cons, views_nil, view_bool, view_int, view_sl, view_nils, view_str, view_tup, view_nilif]) : G := e.mpr h
theorem aDa {G G' : Prop} (h : G') (f : Wr G' → G := by intro h; (repeat (first | (refine W_seqV fun K hK => ?_; (try (refine sDa ?_; try exact True.intro)); (repeat refine aI ?_); refine hK _ ?_; clear hK K) | (refine W_seqR fun K hK => ?_; (try (refine sDa ?_; try exact True.intro)); (repeat refine aI ?_); refine hK _ ?_; clear hK K) | (refine W_seqD mixed [] (by kernel_rfl) fun K hK => ?_; (try (refine sDa ?_; try exact True.intro)); (repeat refine aI ?_); refine hK _ ?_; clear hK K))); exact h.out) : G := f ⟨h⟩

structure DD where
  a : RR
  b : RR
def DD.cells (d : DD) : List AV := [.bool d.a.neg, .sl (u32s d.a.num), .sl (u32s d.a.den), .bool d.b.neg, .sl (u32s d.b.num), .sl (u32s d.b.den)]
def DD.av (d : DD) : AV := .agg d.cells
def DD.v (d : DD) : Rat × Rat := (d.a.v, d.b.v)
def DD.ok (d : DD) : Prop := d.a.ok ∧ d.b.ok
def dq (x : Rat × Rat) : DD := ⟨qr x.1, qr x.2⟩
def cD (x : Rat × Rat) : AV := .agg [.bool (decide (x.1.num < 0)), .sl (u32s (limbs x.1.num.natAbs)), .sl (u32s (limbs x.1.den)), .bool (decide (x.2.num < 0)), .sl (u32s (limbs x.2.num.natAbs)), .sl (u32s (limbs x.2.den))]
theorem dq_av (x : Rat × Rat) : (dq x).av = cD x := rfl
theorem dq_v (x : Rat × Rat) : (dq x).v = x := by simp [dq, DD.v, qr_v]
def nb2 (x : Rat × Rat) : Nat := max (nb x.1) (nb x.2)
theorem nb2_1 (x : Rat × Rat) : nb x.1 ≤ nb2 x := Nat.le_max_left _ _
theorem nb2_2 (x : Rat × Rat) : nb x.2 ≤ nb2 x := Nat.le_max_right _ _
theorem nb2_le {x : Rat × Rat} {k : Nat} (h1 : nb x.1 ≤ k) (h2 : nb x.2 ≤ k) : nb2 x ≤ k := Nat.max_le.2 ⟨h1, h2⟩
theorem dq_ok {x : Rat × Rat} (h : nb2 x < 17179869184) : (dq x).ok := ⟨qr_ok (by have := nb2_1 x; omega), qr_ok (by have := nb2_2 x; omega)⟩
/-- Numbers with deltas, added, taken away, so many times. -/
def dadd (x y : Rat × Rat) : Rat × Rat := (x.1 + y.1, x.2 + y.2)
def dsub (x y : Rat × Rat) : Rat × Rat := (x.1 - y.1, x.2 - y.2)
def dneg (x : Rat × Rat) : Rat × Rat := (-x.1, -x.2)
def dscale (c : Rat) (x : Rat × Rat) : Rat × Rat := (c * x.1, c * x.2)
def lexI (a b : Int) : Int := if a ≠ 0 then a else b
def dsg (x : Rat × Rat) : Int := lexI (rs x.1) (rs x.2)
theorem nb2_sub (x y : Rat × Rat) : nb2 (dsub x y) ≤ nb2 x + nb2 y := nb2_le (Nat.le_trans (nb_sub _ _) (Nat.add_le_add (nb2_1 _) (nb2_1 _))) (Nat.le_trans (nb_sub _ _) (Nat.add_le_add (nb2_2 _) (nb2_2 _)))
theorem f5sub_ok (d e : DD) (hd : d.ok) (he : e.ok) : Pure Tryz.prog 67 [d.av, e.av] (· = cD (dsub d.v e.v)) := by
  have h1 := f3sub_ok d.a e.a hd.1 he.1
  have h2 := f3sub_ok d.b e.b hd.2 he.2
  obtain ⟨⟨n, x, y⟩, ⟨m, z, w⟩⟩ := d
  obtain ⟨⟨n', x', y'⟩, ⟨m', z', w'⟩⟩ := e
  simp only [DD.av, DD.cells, DD.v, dsub, RR.av] at *
  generalize RR.v _ - RR.v _ = p at *
  generalize RR.v _ - RR.v _ = q at *
  simp only [cD, cQ] at *
  (refine pureW Tryz.func67 rfl (rs := [Go.ResultVar.cell 4 46]) rfl (n := 16) rfl ?_; simp only [List.length_cons, List.length_nil, List.replicate, List.cons_append, List.nil_append])
  (refine aDa ?_)
  ((first | refine W_seqD mixed [] (by kernel_rfl) ?_ | refine W_seq (W_seqD mixed [] (by kernel_rfl) ?_) | refine W_regD mixed [] (by kernel_rfl) ?_); intro K hK; (refine sDa ?_; try exact True.intro))
  ((repeat refine aI ?_); refine ⟨by kernel_rfl, rfl, _, h1, ?_⟩; (try (refine sDa ?_; try exact True.intro)); (repeat refine aI ?_))
  ((repeat refine aI ?_); refine ⟨by kernel_rfl, rfl, _, h2, ?_⟩; (try (refine sDa ?_; try exact True.intro)); (repeat refine aI ?_))
  ((repeat refine aI ?_); refine hK _ ?_; clear hK K)
  refine W_ret ?_
  (refine qG ?_; try exact True.intro); try (refine sDaV ?_; try exact True.intro)
theorem ne_z {z : Int} (h : z ≠ 0) : (z != 0) = true := by simp [h]
theorem f5sign_ok (d : DD) (h : d.ok) : Pure Tryz.prog 43 [d.av] (· = .int .i64 (dsg d.v)) := by
  have h1 := f3sign_ok d.a h.1
  have h2 := f3sign_ok d.b h.2
  obtain ⟨⟨n, x, y⟩, ⟨m, z, w⟩⟩ := d
  simp only [DD.av, DD.cells, DD.v, dsg, RR.av] at *
  generalize rs (RR.v _) = p at *
  generalize rs (RR.v _) = q at *
  unfold lexI
  by_cases h0 : p = 0
  · subst h0
    have hz : ((0 : Int) != 0) = false := rfl
    rw [if_neg (by simp)]
    (refine pureW Tryz.func43 rfl (rs := [Go.ResultVar.tmp 2]) rfl (n := 13) rfl ?_; simp only [List.length_cons, List.length_nil, List.replicate, List.cons_append, List.nil_append])
    (refine aDa ?_)
    ((first | refine W_seqV ?_ | refine W_seq (W_seqV ?_) | refine W_regV ?_); intro K hK; (refine sDa ?_; try exact True.intro))
    ((repeat refine aI ?_); refine ⟨by kernel_rfl, rfl, _, h1, ?_⟩; (try (refine sDa ?_; try exact True.intro)); (repeat refine aI ?_))
    ((repeat refine aI ?_); refine hK _ ?_; clear hK K)
    refine W_seq ?_
    ((first | refine W_seqV ?_ | refine W_seq (W_seqV ?_) | refine W_regV ?_); intro K hK; (refine sDaX hz ?_; try exact True.intro))
    ((repeat refine aI ?_); refine hK _ ?_; clear hK K)
    (first | refine W_cond rfl (fun h => by cases h) (fun _ => ?_) | refine W_seq (W_cond rfl (fun h => by cases h) (fun _ => ?_)))
    refine W_skip ?_
    simp only [thenW]
    ((first | refine W_seqV ?_ | refine W_seq (W_seqV ?_) | refine W_regV ?_); intro K hK; (refine sDa ?_; try exact True.intro))
    ((repeat refine aI ?_); refine ⟨by kernel_rfl, rfl, _, h2, ?_⟩; (try (refine sDa ?_; try exact True.intro)); (repeat refine aI ?_))
    ((repeat refine aI ?_); refine hK _ ?_; clear hK K)
    refine W_ret ?_
    (refine qG ?_; try exact True.intro); try (refine sDaV ?_; try exact True.intro)
  · have hz := ne_z h0
    rw [if_pos h0]
    (refine pureW Tryz.func43 rfl (rs := [Go.ResultVar.tmp 2]) rfl (n := 13) rfl ?_; simp only [List.length_cons, List.length_nil, List.replicate, List.cons_append, List.nil_append])
    (refine aDa ?_)
    ((first | refine W_seqV ?_ | refine W_seq (W_seqV ?_) | refine W_regV ?_); intro K hK; (refine sDa ?_; try exact True.intro))
    ((repeat refine aI ?_); refine ⟨by kernel_rfl, rfl, _, h1, ?_⟩; (try (refine sDa ?_; try exact True.intro)); (repeat refine aI ?_))
    ((repeat refine aI ?_); refine hK _ ?_; clear hK K)
    refine W_seq ?_
    ((first | refine W_seqV ?_ | refine W_seq (W_seqV ?_) | refine W_regV ?_); intro K hK; (refine sDaX hz ?_; try exact True.intro))
    ((repeat refine aI ?_); refine hK _ ?_; clear hK K)
    (first | refine W_cond rfl (fun _ => ?_) (fun h => by cases h) | refine W_seq (W_cond rfl (fun _ => ?_) (fun h => by cases h)))
    ((first | refine W_seqV ?_ | refine W_seq (W_seqV ?_) | refine W_regV ?_); intro K hK; (refine sDa ?_; try exact True.intro))
    ((repeat refine aI ?_); refine hK _ ?_; clear hK K)
    refine W_ret ?_
    (refine qG ?_; try exact True.intro); try (refine sDaV ?_; try exact True.intro)
theorem f5cmp_ok (d e : DD) (hd : d.ok) (he : e.ok) (hs : nb2 (dsub d.v e.v) < 17179869184) : Pure Tryz.prog 27 [d.av, e.av] (· = .int .i64 (dsg (dsub d.v e.v))) := by
  have h1 := f5sub_ok d e hd he
  have h2 := f5sign_ok (dq (dsub d.v e.v)) (dq_ok hs)
  rw [dq_av, dq_v] at h2
  generalize dsub d.v e.v = p at *
  obtain ⟨⟨n, x, y⟩, ⟨m, z, w⟩⟩ := d
  obtain ⟨⟨n', x', y'⟩, ⟨m', z', w'⟩⟩ := e
  simp only [DD.av, DD.cells, cD] at *
  (refine pureW Tryz.func27 rfl (rs := [Go.ResultVar.tmp 4]) rfl (n := 9) rfl ?_; simp only [List.length_cons, List.length_nil, List.replicate, List.cons_append, List.nil_append])
  (refine aDa ?_)
  ((first | refine W_seqV ?_ | refine W_seq (W_seqV ?_) | refine W_regV ?_); intro K hK; (refine sDa ?_; try exact True.intro))
  ((repeat refine aI ?_); refine ⟨by kernel_rfl, rfl, _, h1, ?_⟩; (try (refine sDa ?_; try exact True.intro)); (repeat refine aI ?_))
  ((repeat refine aI ?_); refine ⟨by kernel_rfl, rfl, _, h2, ?_⟩; (try (refine sDa ?_; try exact True.intro)); (repeat refine aI ?_))
  ((repeat refine aI ?_); refine hK _ ?_; clear hK K)
  refine W_ret ?_
  (refine qG ?_; try exact True.intro); try (refine sDaV ?_; try exact True.intro)
end Go.Proofs.YtjkjapjcmbfkgaaGreat.Vm

/-
  A form's shape in the reference's way: the plain laws.
-/
namespace Go.Proofs.YtjkjapjcmbfkgaaGreat.Vm
open Go Go.RowKit
set_option linter.unusedVariables false
set_option linter.unusedSimpArgs false

def gfold {α : Type} (f : α → Nat) (l : List α) : Nat := l.foldl (fun t p => Nat.gcd t (f p)) 0
theorem dvd_foldl_gcd {α : Type} (f : α → Nat) (x : Nat) : ∀ (l : List α) (t : Nat), x ∣ l.foldl (fun t p => Nat.gcd t (f p)) t ↔ x ∣ t ∧ ∀ p ∈ l, x ∣ f p
  | [], t => by simp
  | p :: l, t => by
    simp only [List.foldl_cons, dvd_foldl_gcd f x l, Nat.dvd_gcd_iff, List.mem_cons]
    grind
theorem dvd_gfold {α : Type} {f : α → Nat} {l : List α} {x : Nat} : x ∣ gfold f l ↔ ∀ p ∈ l, x ∣ f p := by
  rw [gfold, dvd_foldl_gcd]; simp
theorem gfold_take {α : Type} [Inhabited α] {f : α → Nat} {l : List α} {i : Nat} (h : i < l.length) : gfold f (l.take (i + 1)) = Nat.gcd (gfold f (l.take i)) (f (l.getD i default)) := by
  unfold gfold
  rw [take_succ_foldl _ _ h]
theorem foldl_gcd_lt' {α : Type} {f : α → Nat} {k : Nat} : ∀ (l : List α) (t : Nat), t < 2 ^ k → (∀ p ∈ l, f p < 2 ^ k) → l.foldl (fun t p => Nat.gcd t (f p)) t < 2 ^ k
  | [], t, ht, _ => ht
  | p :: l, t, ht, h => by
    refine foldl_gcd_lt' l _ ?_ fun q hq => h q (List.mem_cons_of_mem _ hq)
    have hp := h p List.mem_cons_self
    rcases Nat.eq_zero_or_pos (f p) with h0 | h0
    · dsimp only; rw [h0, Nat.gcd_zero_right]; exact ht
    · exact Nat.lt_of_le_of_lt (Nat.le_of_dvd h0 (Nat.gcd_dvd_right _ _)) hp
theorem gfold_lt {α : Type} {f : α → Nat} {k : Nat} {l : List α} (h : ∀ p ∈ l, f p < 2 ^ k) : gfold f l < 2 ^ k := foldl_gcd_lt' l 0 (Nat.two_pow_pos k) h
theorem foldl_lcm_dvd (x : Nat) : ∀ (l : List (Int × Rat)) (t : Nat), l.foldl (fun t p => Nat.lcm t p.2.den) t ∣ x ↔ t ∣ x ∧ ∀ p ∈ l, p.2.den ∣ x
  | [], t => by simp
  | p :: l, t => by
    simp only [List.foldl_cons, foldl_lcm_dvd x l, List.mem_cons]
    have : Nat.lcm t p.2.den ∣ x ↔ t ∣ x ∧ p.2.den ∣ x := ⟨fun h => ⟨Nat.dvd_trans (Nat.dvd_lcm_left _ _) h, Nat.dvd_trans (Nat.dvd_lcm_right _ _) h⟩, fun h => Nat.lcm_dvd h.1 h.2⟩
    rw [this]
    grind
theorem botF_dvd {l : List (Int × Rat)} {x : Nat} : botF l ∣ x ↔ ∀ p ∈ l, p.2.den ∣ x := by rw [botF, foldl_lcm_dvd]; simp
theorem den_botF {l : List (Int × Rat)} {p : Int × Rat} (h : p ∈ l) : p.2.den ∣ botF l := botF_dvd.1 (Nat.dvd_refl _) p h
def wholeN (L : Nat) (p : Int × Rat) : Nat := p.2.num.natAbs * (L / p.2.den)
theorem topW (l : List (Int × Rat)) : gfold (wholeN (botF l)) l = topF l := by
  have hL := botF_pos l
  have hd : ∀ p ∈ l, p.2.den * (botF l / p.2.den) = botF l := fun p hp => Nat.mul_div_cancel' (den_botF hp)
  change _ = gfold (fun p : Int × Rat => p.2.num.natAbs) l
  refine Nat.dvd_antisymm ?_ (dvd_gfold.2 fun p hp => Nat.dvd_trans (dvd_gfold.1 (Nat.dvd_refl _) p hp) (Nat.dvd_mul_right _ _))
  have hD : ∀ p ∈ l, gfold (wholeN (botF l)) l ∣ wholeN (botF l) p := dvd_gfold.1 (Nat.dvd_refl _)
  generalize gfold (wholeN (botF l)) l = D at *
  have hg : Nat.gcd D (botF l) = 1 := by
    have hgd := Nat.gcd_dvd_left D (botF l)
    have hgL := Nat.gcd_dvd_right D (botF l)
    have hpos : 0 < Nat.gcd D (botF l) := Nat.gcd_pos_of_pos_right _ hL
    generalize Nat.gcd D (botF l) = g at *
    have h1 : ∀ p ∈ l, p.2.den ∣ botF l / g := fun p hp => by
      have e := hd p hp
      have hred : Nat.Coprime p.2.num.natAbs p.2.den := p.2.reduced
      have hDp := Nat.dvd_trans hgd (hD p hp)
      unfold wholeN at hDp
      -- den * g divides num * L and den * L
      have a1 : p.2.den * g ∣ p.2.num.natAbs * botF l := by
        obtain ⟨k, hk⟩ := hDp
        refine ⟨k, ?_⟩
        rw [← e, Nat.mul_assoc p.2.den g k, ← hk]
        rw [Nat.mul_left_comm]
      have a2 : p.2.den * g ∣ p.2.den * botF l := Nat.mul_dvd_mul_left _ hgL
      have a3 : p.2.den * g ∣ Nat.gcd (p.2.num.natAbs * botF l) (p.2.den * botF l) := Nat.dvd_gcd a1 a2
      rw [Nat.gcd_mul_right, hred, Nat.one_mul] at a3
      obtain ⟨k, hk⟩ := a3
      refine ⟨k, ?_⟩
      rw [hk, Nat.mul_comm p.2.den g, Nat.mul_assoc, Nat.mul_div_cancel_left _ hpos]
    have h2 := botF_dvd.2 h1
    have h3 := Nat.le_of_dvd (Nat.div_pos (Nat.le_of_dvd hL hgL) hpos) h2
    have h4 := Nat.mul_div_cancel' hgL
    rcases Nat.lt_or_ge 1 g with h5 | h5
    · have : 2 * (botF l / g) ≤ g * (botF l / g) := Nat.mul_le_mul_right _ h5
      omega
    · omega
  refine dvd_gfold.2 fun p hp => ?_
  have h1 := hD p hp
  have h2 : Nat.Coprime D (botF l / p.2.den) := Nat.Coprime.coprime_dvd_right ⟨p.2.den, by rw [Nat.mul_comm]; exact (hd p hp).symm⟩ hg
  exact h2.dvd_of_dvd_mul_right h1
theorem mul_den' (q : Rat) : q * (q.den : Rat) = (q.num : Rat) := by
  have h1 : q = mkRat q.num q.den := (Rat.mkRat_self q).symm
  have h2 : (q.den : Rat) = mkRat (q.den : Int) 1 := by rw [Rat.mkRat_one]; rfl
  have h3 : q * mkRat (q.den : Int) 1 = mkRat q.num q.den * mkRat (q.den : Int) 1 := by rw [← h1]
  rw [h2, h3, Rat.mkRat_mul_mkRat, Nat.mul_one]
  have h4 : mkRat (q.num * (q.den : Int)) q.den = mkRat (q.num * (q.den:Int)) (1 * q.den) := by rw [Nat.one_mul]
  rw [h4, Rat.mkRat_mul_right (by exact q.den_nz), Rat.mkRat_one]
theorem whole_num (q : Rat) {L : Nat} (h : q.den ∣ L) : (q * (L : Rat)).num.natAbs = q.num.natAbs * (L / q.den) := by
  obtain ⟨k, rfl⟩ := h
  have hd := q.den_pos
  have h1 : q * ((q.den * k : Nat) : Rat) = ((q.num * (k : Int) : Int) : Rat) := by
    have h2 : q * (q.den : Rat) = (q.num : Rat) := mul_den' q
    rw [Rat.natCast_mul, ← Rat.mul_assoc, h2, Rat.intCast_mul]
    rfl
  rw [h1, Rat.num_intCast, Int.natAbs_mul, Int.natAbs_natCast, Nat.mul_div_cancel_left _ hd]
end Go.Proofs.YtjkjapjcmbfkgaaGreat.Vm

/-
  The reference's forms: Prime.
-/
namespace Go.Proofs.YtjkjapjcmbfkgaaGreat.Vm
open Go Go.RowKit
set_option maxRecDepth 100000
set_option linter.unusedVariables false
set_option linter.unusedSimpArgs false
theorem sJg {G G' : Prop} (h : G') (e : G = G' := by conv => lhs; simp (disch := omega) only [rowsOf, cNat, cN, St.ret, St.seth, Eff.app, Eff.wi, sepL, guardOf, St.known, objOf, List.set, sliceW, litW, copyW, lenOf, bnd, mxOk, ofCells, TI.isAgg, cellsOf, storable, AV.one, dead, laid, overlay, reduceCtorEq, Int.reduceLE, Int.reduceLT, Int.reduceSub, Int.reduceAdd, Nat.reduceMul, Int.reduceToNat, Nat.reducePow, Int.reduceNeg, Nat.reduceAdd, Nat.reduceLT, Nat.reduceLeDiff, sA, sB, cQ, rowQ, tab_length, List.take_length, List.length_append, rowQ_all, rowQ_one, rowQ_pure, sT]) : G := e.mpr h
theorem sJgX {G G' P : Prop} (p : P) (h : G') (e : P → G = G' := by intro p; conv => lhs; simp (disch := omega) only [rowsOf, cNat, cN, St.ret, St.seth, Eff.app, Eff.wi, sepL, guardOf, St.known, objOf, List.set, sliceW, litW, copyW, lenOf, bnd, mxOk, ofCells, TI.isAgg, cellsOf, storable, AV.one, dead, laid, overlay, reduceCtorEq, Int.reduceLE, Int.reduceLT, Int.reduceSub, Int.reduceAdd, Nat.reduceMul, Int.reduceToNat, Nat.reducePow, Int.reduceNeg, Nat.reduceAdd, Nat.reduceLT, Nat.reduceLeDiff, sA, sB, cQ, rowQ, tab_length, List.take_length, List.length_append, rowQ_all, rowQ_one, rowQ_pure, sT, p]) : G := (e p).mpr h
theorem sJgV {G G' : Prop} (h : G') (e : G = G' := by conv => lhs; simp (disch := omega) only [rowsOf, cNat, cN, St.ret, St.seth, Eff.app, Eff.wi, sepL, guardOf, St.known, objOf, List.set, sliceW, litW, copyW, lenOf, bnd, mxOk, ofCells, TI.isAgg, cellsOf, storable, AV.one, dead, laid, overlay, reduceCtorEq, Int.reduceLE, Int.reduceLT, Int.reduceSub, Int.reduceAdd, Nat.reduceMul, Int.reduceToNat, Nat.reducePow, Int.reduceNeg, Nat.reduceAdd, Nat.reduceLT, Nat.reduceLeDiff, sA, sB, cQ, rowQ, tab_length, List.take_length, List.length_append, rowQ_all, rowQ_one, rowQ_pure, sT, view_sref, viewRef, view_agg, views_cons, views_nil, view_bool, view_int, view_sl, view_nils, view_str, view_tup, view_nilif]) : G := e.mpr h
theorem aJg {G G' : Prop} (h : G') (f : Wr G' → G := by intro h; (repeat (first | (refine W_seqV fun K hK => ?_; (try (refine sJg ?_; try exact True.intro)); (repeat refine aI ?_); refine hK _ ?_; clear hK K) | (refine W_seqR fun K hK => ?_; (try (refine sJg ?_; try exact True.intro)); (repeat refine aI ?_); refine hK _ ?_; clear hK K) | (refine W_seqD mixed [] (by kernel_rfl) fun K hK => ?_; (try (refine sJg ?_; try exact True.intro)); (repeat refine aI ?_); refine hK _ ?_; clear hK K))); exact h.out) : G := f ⟨h⟩

theorem nat_rat (n : Nat) : (⟨false, limbs n, [1]⟩ : RR).v = (n : Rat) := by
  simp only [RR.v, iv, val_limbs]
  rw [show val [1] = 1 from rfl]
  simp [Rat.mkRat_one]
  rfl
theorem one_limbs : Limbs [1] := fun x hx => by simp at hx; omega
theorem nb_nat (n : Nat) {k : Nat} (h : n < 2 ^ k) : nb (n : Rat) ≤ k + 1 := by
  refine nb_le ?_
  have h1 : H (n : Rat) = n + 1 := by simp [H]
  rw [h1, Nat.pow_succ]
  have := Nat.two_pow_pos k
  omega
theorem f6prime_ok (f : List (Int × RR)) {B : Nat} (hf : PF f B) (hB : B ≤ 4294967296) (hn : nbs (normF (vals f)) < 4294967000) :
    Pure Tryz.prog 129 [cF f] (· = .tup [cL (primeF (normF (vals f))), cQ (primeC (normF (vals f)))]) := by
  have h1 := f6norm_ok f hf (by omega)
  have hw := f3whole_ok 1 (by decide) (by decide)
  have hNF := NF.norm (vals f)
  generalize normF (vals f) = l at *
  have hbl := nbs_len l
  have hmem : ∀ p ∈ l, nb p.2 ≤ nbs l := fun p hp => Nat.le_trans (nbv_mem hp) (nbv_le_nbs _ _)
  have hb2 : ∀ i, botF (l.take i) < 2 ^ (nbs l + 1) := fun i => by
    refine Nat.lt_of_le_of_lt (botF_le _) (Nat.pow_lt_pow_right (by omega) ?_)
    have : nbs (l.take i) + nbs (l.drop i) = nbs l := by rw [← nbs_append, List.take_append_drop]
    omega
  have hbt : ∀ i, (limbs (botF (l.take i))).length ≤ nbs l + 1 := fun i => len_bits (hb2 i)
  have hL2 : botF l < 2 ^ (nbs l + 1) := by have := hb2 l.length; rwa [List.take_length] at this
  have hden : ∀ p ∈ l, (limbs p.2.den).length ≤ nbs l := fun p hp => Nat.le_trans (len_den p.2) (hmem p hp)
  have htop : gfold (wholeN (botF l)) l = topF l := topW l
  have hwn : ∀ p ∈ l, wholeN (botF l) p < 2 ^ (2 * nbs l + 2) := fun p hp => by
    have h1 : p.2.num.natAbs < 2 ^ nbs l := Nat.lt_of_lt_of_le (Nat.lt_of_le_of_lt (by simp [H]) (H_lt p.2)) (Nat.pow_le_pow_right (by omega) (hmem p hp))
    have h2 : botF l / p.2.den < 2 ^ (nbs l + 1) := Nat.lt_of_le_of_lt (Nat.div_le_self _ _) hL2
    unfold wholeN
    have h3 := Nat.mul_lt_mul'' h1 h2
    rw [← Nat.pow_add] at h3
    exact Nat.lt_of_lt_of_le h3 (Nat.pow_le_pow_right (by omega) (by omega))
  have hgl : ∀ i, (limbs (gfold (wholeN (botF l)) (l.take i))).length ≤ 2 * nbs l + 2 := fun i => len_bits (gfold_lt fun p hp => hwn p (List.mem_of_mem_take hp))
  have hst : ∀ i, i < l.length → gfold (wholeN (botF l)) (l.take (i + 1)) = Nat.gcd (gfold (wholeN (botF l)) (l.take i)) ((l.getD i default).2 * ((botF l : Nat) : Rat)).num.natAbs := fun i hi => by
    rw [gfold_take hi, whole_num _ (den_botF (by simp [List.getD_eq_getElem?_getD, hi]))]; rfl
  rcases l with _ | ⟨p0, l0⟩
  · (refine pureW Tryz.func129 rfl (rs := [Go.ResultVar.tmp 2, Go.ResultVar.cell 3 29]) rfl (n := 77) rfl ?_; simp only [List.length_cons, List.length_nil, List.replicate, List.cons_append, List.nil_append])
    simp only [cF, cL] at h1 ⊢
    have hq1 : (((1 : Int)) : Rat) = 1 := rfl
    rw [hq1] at hw
    have hC : primeC [] = 1 := rfl
    rw [hC]
    have hPF : primeF [] = [] := rfl
    rw [hPF]
    generalize (1 : Rat) = q at *
    simp only [cQ] at hw
    (refine aJg ?_)
    ((first | refine W_seqV ?_ | refine W_seq (W_seqV ?_) | refine W_regV ?_); intro K hK; (refine sJg ?_; try exact True.intro))
    ((repeat refine aI ?_); refine ⟨by kernel_rfl, rfl, _, h1, ?_⟩; (try (refine sJg ?_; try exact True.intro)); (repeat refine aI ?_))
    ((repeat refine aI ?_); refine hK _ ?_; clear hK K)
    refine W_seq ?_
    ((first | refine W_seqV ?_ | refine W_seq (W_seqV ?_) | refine W_regV ?_); intro K hK; (refine sJg ?_; try exact True.intro))
    ((repeat refine aI ?_); refine hK _ ?_; clear hK K)
    (first | refine W_cond rfl (fun _ => ?_) (fun h => by cases h) | refine W_seq (W_cond rfl (fun _ => ?_) (fun h => by cases h)))
    ((first | refine W_seqV ?_ | refine W_seq (W_seqV ?_) | refine W_regV ?_); intro K hK; (refine sJg ?_; try exact True.intro))
    ((repeat refine aI ?_); refine ⟨by kernel_rfl, rfl, _, hw, ?_⟩; (try (refine sJg ?_; try exact True.intro)); (repeat refine aI ?_))
    ((repeat refine aI ?_); refine hK _ ?_; clear hK K)
    refine W_ret ?_
    (refine qG ?_; try exact True.intro); try (refine sJgV ?_; try exact True.intro)
    rfl
  · generalize hle : p0 :: l0 = l at *
    have hlp : 0 < l.length := by rw [← hle]; simp
    have hz : ((l.length : Int) == 0) = false := by rw [beq_eq_false_iff_ne]; omega
    (refine pureW Tryz.func129 rfl (rs := [Go.ResultVar.tmp 2, Go.ResultVar.cell 3 29]) rfl (n := 77) rfl ?_; simp only [List.length_cons, List.length_nil, List.replicate, List.cons_append, List.nil_append])
    simp only [cF, cL] at h1 ⊢
    (refine aJg ?_)
    ((first | refine W_seqV ?_ | refine W_seq (W_seqV ?_) | refine W_regV ?_); intro K hK; (refine sJg ?_; try exact True.intro))
    ((repeat refine aI ?_); refine ⟨by kernel_rfl, rfl, _, h1, ?_⟩; (try (refine sJg ?_; try exact True.intro)); (repeat refine aI ?_))
    ((repeat refine aI ?_); refine hK _ ?_; clear hK K)
    refine W_seq ?_
    ((first | refine W_seqV ?_ | refine W_seq (W_seqV ?_) | refine W_regV ?_); intro K hK; (refine sJgX hz ?_; try exact True.intro))
    ((repeat refine aI ?_); refine hK _ ?_; clear hK K)
    (first | refine W_cond rfl (fun h => by cases h) (fun _ => ?_) | refine W_seq (W_cond rfl (fun h => by cases h) (fun _ => ?_)))
    refine W_skip ?_
    simp only [thenW]
    (refine aJg ?_)
    refine W_seq ?_
    ((first | refine W_seqV ?_ | refine W_seq (W_seqV ?_) | refine W_regV ?_); intro K hK; (refine sJg ?_; try exact True.intro))
    ((repeat refine aI ?_); refine hK _ ?_; clear hK K)
    refine W_block (W_loop (fun t : {t : Nat // t ≤ l.length} =>
      ⟨(.any :: .any :: .nils :: (.ptr 3 0 0) :: (.sl (tab rowQ l)) :: (.sl (u32s (limbs (botF (l.take t.1))))) :: (.int .i64 t.1) :: .any :: .any :: .any :: .any :: .any :: .any :: .any :: .any :: .any :: .any :: .any :: .any :: .any :: .any :: .any :: .any :: .any :: .any :: .any :: .any :: .any :: .any :: .any :: .any :: .any :: .any :: .any :: .any :: .any :: .any :: .any :: .any :: .any :: .any :: .any :: .any :: .any :: .any :: .any :: .any :: .any :: .any :: .any :: .any :: .any :: .any :: .any :: .any :: .any :: .any :: .any :: .any :: .any :: .any :: .any :: .any :: .any :: .any :: .any :: .any :: .any :: .any :: .any :: .any :: .any :: .any :: .any :: .any :: .any :: .any :: []), (.dead :: .dead :: .dead :: (.arr 29 3 false [[.bool false, .nils, .nils]]) :: .dead :: .dead :: .dead :: .dead :: .dead :: .dead :: .dead :: .dead :: .dead :: .dead :: .dead :: .dead :: .dead :: .dead :: .dead :: .dead :: .dead :: .dead :: .dead :: .dead :: .dead :: .dead :: .dead :: .dead :: .dead :: .dead :: .dead :: .dead :: .dead :: .dead :: .dead :: .dead :: .dead :: .dead :: .dead :: .dead :: .dead :: .dead :: .dead :: .dead :: .dead :: .dead :: .dead :: .dead :: .dead :: .dead :: .dead :: .dead :: .dead :: .dead :: .dead :: .dead :: .dead :: .dead :: .dead :: .dead :: .dead :: .dead :: .dead :: .dead :: .dead :: .dead :: .dead :: .dead :: .dead :: .dead :: .dead :: .dead :: .dead :: .dead :: .dead :: .dead :: .dead :: [])⟩) (fun t => l.length - t.1)
      ⟨0, by omega⟩ (Le_of (by simp [leE, botF, limbs_1, u32s]) rfl) fun t => ?_)
    clear h1
    obtain ⟨i, hi⟩ := t
    dsimp only
    by_cases hlt : i < l.length
    · have hmi : l.getD i default ∈ l := by simp [List.getD_eq_getElem?_getD, hlt]
      have hb1 := hbt i
      have hb3 := hbt (i + 1)
      have hd1 := hden _ hmi
      have hdz := (l.getD i default).2.den_nz
      have e2 := botF_take hlt
      rw [e2] at hb3
      have hlc := f2lcm_ok (botF (l.take i)) (l.getD i default).2.den hdz (by omega) (by omega) (by omega)
      rw [← e2] at hlc
      have hXi : (tab rowQ l).getD i [] = rowQ (l.getD i default) := tab_getD hlt
      generalize l.getD i default = p at *
      simp only [rowQ] at hXi
      simp only [cI, cN, cNat] at hlc
      refine W_seq ?_
      ((first | refine W_seqV ?_ | refine W_seq (W_seqV ?_) | refine W_regV ?_); intro K hK; (refine sJgX hlt ?_; try exact True.intro))
      ((repeat refine aI ?_); refine hK _ ?_; clear hK K)
      (first | refine W_cond rfl (fun _ => ?_) (fun h => by cases h) | refine W_seq (W_cond rfl (fun _ => ?_) (fun h => by cases h)))
      refine W_skip ?_
      simp only [thenW]
      refine W_seq ?_
      refine W_block ?_
      ((first | refine W_seqV ?_ | refine W_seq (W_seqV ?_) | refine W_regV ?_); intro K hK; (refine sJgX (And.intro hXi hlt) ?_; try exact True.intro))
      ((repeat refine aI ?_); refine ⟨by kernel_rfl, rfl, _, hlc, ?_⟩; (try (refine sJg ?_; try exact True.intro)); (repeat refine aI ?_))
      ((repeat refine aI ?_); refine hK _ ?_; clear hK K)
      simp only [blockW, thenW]
      ((first | refine W_seqV ?_ | refine W_seq (W_seqV ?_) | refine W_regV ?_); intro K hK; (refine sJg ?_; try exact True.intro))
      ((repeat refine aI ?_); refine hK _ ?_; clear hK K)
      try simp only [blockW, thenW]
      refine ⟨⟨i + 1, by omega⟩, Le_drop (by simp [leE, cN, cNat]) (by simp [leH]) rfl rfl, ?_⟩
      dsimp only
      omega
    · obtain rfl : i = l.length := by omega
      refine W_seq ?_
      ((first | refine W_seqV ?_ | refine W_seq (W_seqV ?_) | refine W_regV ?_); intro K hK; (refine sJg ?_; try exact True.intro))
      ((repeat refine aI ?_); refine hK _ ?_; clear hK K)
      (first | refine W_cond rfl (fun h => by cases h) (fun _ => ?_) | refine W_seq (W_cond rfl (fun h => by cases h) (fun _ => ?_)))
      refine W_exit ?_
      simp only [thenW, blockW, if_true]
      try rw [List.take_length]
      clear hbt
      have hLl : (limbs (botF l)).length ≤ nbs l + 1 := len_bits hL2
      generalize hL : botF l = L at *
      have hmul := fun (p : Int × Rat) (hp : p ∈ l) => f3mul_ok (qr p.2) ⟨false, limbs L, [1]⟩ (qr_ok (by have := hmem p hp; omega)) ⟨limbs_limbs _, one_limbs, by dsimp only; omega, by simp⟩
      simp only [nat_rat, qr_v] at hmul
      have hml : ∀ p ∈ l, (limbs (p.2 * (L : Rat)).num.natAbs).length ≤ 2 * nbs l + 2 := fun p hp => by
        have h1 := len_num (p.2 * (L : Rat))
        have h2 := nb_mul p.2 (L : Rat)
        have h3 := nb_nat L hL2
        have h4 := hmem p hp
        omega
      (refine aJg ?_)
      refine W.le ?_ (Le_nilsl 7 rfl)
      simp only [List.set]
      refine W_seq ?_
      ((first | refine W_seqV ?_ | refine W_seq (W_seqV ?_) | refine W_regV ?_); intro K hK; (refine sJg ?_; try exact True.intro))
      ((repeat refine aI ?_); refine hK _ ?_; clear hK K)
      refine W_block (W_loop (fun t : {t : Nat // t ≤ l.length} =>
      ⟨(.any :: .any :: .nils :: (.ptr 3 0 0) :: (.sl (tab rowQ l)) :: (.sl (u32s (limbs L))) :: .any :: (.sl (u32s (limbs (gfold (wholeN L) (l.take t.1))))) :: (.int .i64 t.1) :: .any :: .any :: .any :: .any :: .any :: .any :: .any :: .any :: .any :: .any :: .any :: .any :: .any :: .any :: .any :: .any :: .any :: .any :: .any :: .any :: .any :: .any :: .any :: .any :: .any :: .any :: .any :: .any :: .any :: .any :: .any :: .any :: .any :: .any :: .any :: .any :: .any :: .any :: .any :: .any :: .any :: .any :: .any :: .any :: .any :: .any :: .any :: .any :: .any :: .any :: .any :: .any :: .any :: .any :: .any :: .any :: .any :: .any :: .any :: .any :: .any :: .any :: .any :: .any :: .any :: .any :: .any :: .any :: []), (.dead :: .dead :: .dead :: (.arr 29 3 false [[.bool false, .nils, .nils]]) :: .dead :: .dead :: .dead :: .dead :: .dead :: .dead :: .dead :: .dead :: .dead :: .dead :: .dead :: .dead :: .dead :: .dead :: .dead :: .dead :: .dead :: .dead :: .dead :: .dead :: .dead :: .dead :: .dead :: .dead :: .dead :: .dead :: .dead :: .dead :: .dead :: .dead :: .dead :: .dead :: .dead :: .dead :: .dead :: .dead :: .dead :: .dead :: .dead :: .dead :: .dead :: .dead :: .dead :: .dead :: .dead :: .dead :: .dead :: .dead :: .dead :: .dead :: .dead :: .dead :: .dead :: .dead :: .dead :: .dead :: .dead :: .dead :: .dead :: .dead :: .dead :: .dead :: .dead :: .dead :: .dead :: .dead :: .dead :: .dead :: .dead :: .dead :: .dead :: .dead :: .dead :: [])⟩) (fun t => l.length - t.1)
      ⟨0, by omega⟩ (Le_of (by simp [leE, gfold, limbs_zero, u32s]) rfl) fun t => ?_)
      obtain ⟨i, hi⟩ := t
      dsimp only
      by_cases hlt : i < l.length
      · have hmi : l.getD i default ∈ l := by simp [List.getD_eq_getElem?_getD, hlt]
        have e1 := hst i hlt
        have hg1 := hgl i
        have hm1 := hml _ hmi
        have hmu := hmul _ hmi
        have hgc := fgcd_v (gfold (wholeN L) (l.take i)) ((l.getD i default).2 * (L : Rat)).num.natAbs (by omega) (by omega)
        rw [← e1] at hgc
        have hXi : (tab rowQ l).getD i [] = rowQ (l.getD i default) := tab_getD hlt
        clear e1 hm1
        generalize (l.getD i default).2 * (L : Rat) = w at *
        generalize l.getD i default = p at *
        simp only [rowQ] at hXi
        simp only [cN, cNat] at hgc
        have h11 : u32s [1] = [[.int .u32 1]] := rfl
        simp only [RR.av, qr, cQ, h11] at hmu
        refine W_seq ?_
        ((first | refine W_seqV ?_ | refine W_seq (W_seqV ?_) | refine W_regV ?_); intro K hK; (refine sJgX hlt ?_; try exact True.intro))
        ((repeat refine aI ?_); refine hK _ ?_; clear hK K)
        (first | refine W_cond rfl (fun _ => ?_) (fun h => by cases h) | refine W_seq (W_cond rfl (fun _ => ?_) (fun h => by cases h)))
        refine W_skip ?_
        simp only [thenW]
        refine W_seq ?_
        refine W_block ?_
        ((first | refine W_seqV ?_ | refine W_seq (W_seqV ?_) | refine W_regV ?_); intro K hK; (refine sJgX (And.intro hXi hlt) ?_; try exact True.intro))
        ((repeat refine aI ?_); refine ⟨by kernel_rfl, rfl, _, hmu, ?_⟩; (try (refine sJg ?_; try exact True.intro)); (repeat refine aI ?_))
        ((repeat refine aI ?_); refine hK _ ?_; clear hK K)
        ((first | refine W_seqV ?_ | refine W_seq (W_seqV ?_) | refine W_regV ?_); intro K hK; (refine sJg ?_; try exact True.intro))
        ((repeat refine aI ?_); refine ⟨by kernel_rfl, rfl, _, hgc, ?_⟩; (try (refine sJg ?_; try exact True.intro)); (repeat refine aI ?_))
        ((repeat refine aI ?_); refine hK _ ?_; clear hK K)
        simp only [blockW, thenW]
        ((first | refine W_seqV ?_ | refine W_seq (W_seqV ?_) | refine W_regV ?_); intro K hK; (refine sJg ?_; try exact True.intro))
        ((repeat refine aI ?_); refine hK _ ?_; clear hK K)
        try simp only [blockW, thenW]
        refine ⟨⟨i + 1, by omega⟩, Le_drop (by simp [leE, cN, cNat]) (by simp [leH]) rfl rfl, ?_⟩
        dsimp only
        omega
      · obtain rfl : i = l.length := by omega
        refine W_seq ?_
        ((first | refine W_seqV ?_ | refine W_seq (W_seqV ?_) | refine W_regV ?_); intro K hK; (refine sJg ?_; try exact True.intro))
        ((repeat refine aI ?_); refine hK _ ?_; clear hK K)
        (first | refine W_cond rfl (fun h => by cases h) (fun _ => ?_) | refine W_seq (W_cond rfl (fun h => by cases h) (fun _ => ?_)))
        refine W_exit ?_
        simp only [thenW, blockW, if_true]
        rw [htop]
        have hm0 : p0 ∈ l := by rw [← hle]; exact List.mem_cons_self
        have hsg := f3sign_ok (qr p0.2) (qr_ok (by have := hmem p0 hm0; omega))
        rw [qr_v] at hsg
        have hC : primeC l = mkRat (iv (decide (rs p0.2 < 0)) (limbs (topF l))) (val (limbs L)) := by rw [← hL, val_limbs, ← hle]; rfl
        have htl := hgl l.length
        rw [List.take_length, htop] at htl
        have hnm := f3norm_ok0 (decide (rs p0.2 < 0)) (limbs (topF l)) (limbs L) (limbs_limbs _) (limbs_limbs _) (by omega) (by omega)
        rw [← hC] at hnm
        have hc0 := primeC_ne hNF
        have hnc := nb_primeC (l := l) (B := nbs l + 1) (fun p hp => Nat.le_succ_of_le (hmem p hp)) (by omega) (by omega)
        have hinv := f3inv_ok (qr (primeC l)) (qr_ok (by omega))
        rw [qr_v, if_neg hc0] at hinv
        have hic : (primeC l)⁻¹ ≠ 0 := fun h => hc0 (by have := Rat.inv_inv (primeC l); rw [h, Rat.inv_zero] at this; exact this.symm)
        have hsc := f6scale_ok (qr (primeC l)⁻¹) (rf l) (B := nbs l + 1) (qr_ok (by rw [nb_inv]; omega)) (PF.rf_nf hNF (fun v => by
            by_cases h0 : coef l v = 0
            · rw [h0, nb_zero]; omega
            · obtain ⟨p, hp, rfl⟩ := NF.mem_of_coef h0
              rw [hNF.coef_zero hp]; exact hmem p hp) (by omega) (by omega)) (fun p hp => by
            simp only [rf, List.mem_map] at hp
            obtain ⟨q, hq, rfl⟩ := hp
            have := hmem q hq
            simp only [qr_v, nb_inv]
            omega) (by rw [qr_v, nb_inv]; omega)
        rw [qr_v, vals_rf, norm_scale, if_neg hic, norm_self hNF, cF_rf] at hsc
        change Pure _ _ _ (· = cL (primeF l)) at hsc
        have hXi : (tab rowQ l).getD 0 [] = rowQ p0 := by rw [← hle]; rfl
        generalize primeC l = c at *
        generalize primeF l = pl at *
        simp only [RR.av, qr, rowQ, cQE, cQ, cL] at hsg hnm hinv hsc hXi
        ((first | refine W_seqV ?_ | refine W_seq (W_seqV ?_) | refine W_regV ?_); intro K hK; (refine sJgX (And.intro hXi hlp) ?_; try exact True.intro))
        ((repeat refine aI ?_); refine ⟨by kernel_rfl, rfl, _, hsg, ?_⟩; (try (refine sJg ?_; try exact True.intro)); (repeat refine aI ?_))
        ((repeat refine aI ?_); refine ⟨by kernel_rfl, rfl, _, hnm, ?_⟩; (try (refine sJg ?_; try exact True.intro)); (repeat refine aI ?_))
        ((repeat refine aI ?_); refine hK _ ?_; clear hK K)
        ((first | refine W_seqV ?_ | refine W_seq (W_seqV ?_) | refine W_regV ?_); intro K hK; (refine sJg ?_; try exact True.intro))
        ((repeat refine aI ?_); refine ⟨by kernel_rfl, rfl, _, hinv, ?_⟩; (try (refine sJg ?_; try exact True.intro)); (repeat refine aI ?_))
        ((repeat refine aI ?_); refine hK _ ?_; clear hK K)
        ((first | refine W_seqD mixed [] (by kernel_rfl) ?_ | refine W_seq (W_seqD mixed [] (by kernel_rfl) ?_) | refine W_regD mixed [] (by kernel_rfl) ?_); intro K hK; (refine sJg ?_; try exact True.intro))
        ((repeat refine aI ?_); refine ⟨by kernel_rfl, rfl, _, hsc, ?_⟩; (try (refine sJg ?_; try exact True.intro)); (repeat refine aI ?_))
        ((repeat refine aI ?_); refine hK _ ?_; clear hK K)
        refine W_ret ?_
        (refine qG ?_; try exact True.intro); try (refine sJgV ?_; try exact True.intro)
end Go.Proofs.YtjkjapjcmbfkgaaGreat.Vm

/-
  The reference's halves of atoms: Says.
-/
namespace Go.Proofs.YtjkjapjcmbfkgaaGreat.Vm
open Go Go.RowKit
set_option maxRecDepth 100000
set_option linter.unusedVariables false
set_option linter.unusedSimpArgs false
theorem sQa {G G' : Prop} (h : G') (e : G = G' := by conv => lhs; simp (disch := omega) only [rowsOf, cNat, cN, St.ret, St.seth, Eff.app, Eff.wi, sepL, guardOf, St.known, objOf, List.set, sliceW, litW, copyW, lenOf, bnd, mxOk, ofCells, TI.isAgg, cellsOf, storable, AV.one, dead, laid, overlay, reduceCtorEq, Int.reduceLE, Int.reduceLT, Int.reduceSub, Int.reduceAdd, Nat.reduceMul, Int.reduceToNat, Nat.reducePow, Int.reduceNeg, Nat.reduceAdd, Nat.reduceLT, Nat.reduceLeDiff, sA, sB, cQ, rowM, tab_length, tab_getD_zero, List.take_length, List.length_append, tab_drop, tab_take, tab_append, tab_nil, rowM_all, rowM_one, rowM_pure, rowQ_all, rowQ_one, rowQ_pure, sT]) : G := e.mpr h
theorem sQaX {G G' P : Prop} (p : P) (h : G') (e : P → G = G' := by intro p; conv => lhs; simp (disch := omega) only [rowsOf, cNat, cN, St.ret, St.seth, Eff.app, Eff.wi, sepL, guardOf, St.known, objOf, List.set, sliceW, litW, copyW, lenOf, bnd, mxOk, ofCells, TI.isAgg, cellsOf, storable, AV.one, dead, laid, overlay, reduceCtorEq, Int.reduceLE, Int.reduceLT, Int.reduceSub, Int.reduceAdd, Nat.reduceMul, Int.reduceToNat, Nat.reducePow, Int.reduceNeg, Nat.reduceAdd, Nat.reduceLT, Nat.reduceLeDiff, sA, sB, cQ, rowM, tab_length, tab_getD_zero, List.take_length, List.length_append, tab_drop, tab_take, tab_append, tab_nil, rowM_all, rowM_one, rowM_pure, rowQ_all, rowQ_one, rowQ_pure, sT, p]) : G := (e p).mpr h
theorem sQaV {G G' : Prop} (h : G') (e : G = G' := by conv => lhs; simp (disch := omega) only [rowsOf, cNat, cN, St.ret, St.seth, Eff.app, Eff.wi, sepL, guardOf, St.known, objOf, List.set, sliceW, litW, copyW, lenOf, bnd, mxOk, ofCells, TI.isAgg, cellsOf, storable, AV.one, dead, laid, overlay, reduceCtorEq, Int.reduceLE, Int.reduceLT, Int.reduceSub, Int.reduceAdd, Nat.reduceMul, Int.reduceToNat, Nat.reducePow, Int.reduceNeg, Nat.reduceAdd, Nat.reduceLT, Nat.reduceLeDiff, sA, sB, cQ, rowM, tab_length, tab_getD_zero, List.take_length, List.length_append, tab_drop, tab_take, tab_append, tab_nil, rowM_all, rowM_one, rowM_pure, rowQ_all, rowQ_one, rowQ_pure, sT, view_sref, viewRef, view_agg, views_cons, views_nil, view_bool, view_int, view_sl, view_nils, view_str, view_tup, view_nilif]) : G := e.mpr h
theorem aQa {G G' : Prop} (h : G') (f : Wr G' → G := by intro h; (repeat (first | (refine W_seqV fun K hK => ?_; (try (refine sQa ?_; try exact True.intro)); (repeat refine aI ?_); refine hK _ ?_; clear hK K) | (refine W_seqR fun K hK => ?_; (try (refine sQa ?_; try exact True.intro)); (repeat refine aI ?_); refine hK _ ?_; clear hK K) | (refine W_seqD mixed [] (by kernel_rfl) fun K hK => ?_; (try (refine sQa ?_; try exact True.intro)); (repeat refine aI ?_); refine hK _ ?_; clear hK K))); exact h.out) : G := f ⟨h⟩

structure RH where
  kind : Int
  name : ByteArray
  shape : List (Int × Rat)
  upper : Bool
  at_ : DD
def RH.cells (h : RH) : List AV := [.int .i64 h.kind, .str h.name, .sl (tab rowQ h.shape), .bool h.upper, .bool h.at_.a.neg, .sl (u32s h.at_.a.num), .sl (u32s h.at_.a.den), .bool h.at_.b.neg, .sl (u32s h.at_.b.num), .sl (u32s h.at_.b.den)]
def zeroD : DD := ⟨zeroR, zeroR⟩
def stB (s : Bool) : Rat := if s then -1 else 0
def noname : ByteArray := ByteArray.mk #[]
def saysR (a : At) : RH :=
  if named a.name = true then ⟨2, a.name, [], true, zeroD⟩
  else match normF (vals a.form) with
    | [] => if 0 ≤ dsg (a.bound.v, stB a.strict) then ⟨1, noname, [], false, zeroD⟩ else ⟨0, noname, [], false, zeroD⟩
    | p :: l => if 0 < rs (primeC (p :: l)) then ⟨3, noname, primeF (p :: l), true, dq ((primeC (p :: l))⁻¹ * a.bound.v, stB a.strict)⟩
      else ⟨3, noname, primeF (p :: l), false, dq ((primeC (p :: l))⁻¹ * a.bound.v, -(stB a.strict))⟩
theorem nb_stB (s : Bool) : nb (stB s) ≤ 2 := by
  cases s
  · simp [stB, nb_zero]
  · simp [stB, nb_m1]
theorem f10says_ok (a : At) (ha : AtOk a) : Pure Tryz.prog 85 [.agg a.cells] (· = .agg (saysR a).cells) := by
  have h1 := f6prime_ok a.form (ha.form.pf (by omega)) (by omega) (by have := nbs_norm (vals a.form); have := ha.nbs; omega)
  have h2 := f3norm_ok a.bound ha.bound
  have w0 := f3whole_ok 0 (by omega) (by omega)
  have w1 := f3whole_ok (-1) (by omega) (by omega)
  have wb : ∀ s, Pure Tryz.prog 19 [.int .i64 (if s = true then -1 else 0)] (· = cQ (stB s)) := fun s => by
    cases s
    · exact w0
    · exact w1
  obtain ⟨hs, hnc⟩ := says_facts ha
  have hNF := NF.norm (vals a.form)
  have hsg := f5sign_ok (dq (a.bound.v, stB a.strict)) (dq_ok (Nat.lt_of_le_of_lt (nb2_le (k := 67108864) ha.nb (Nat.le_trans (nb_stB _) (by omega))) (by omega)))
  rw [dq_av, dq_v] at hsg
  have hmu : ∀ c : Rat, nb c ≤ 67108866 → Pure Tryz.prog 64 [cQ c⁻¹, cQ a.bound.v] (· = cQ (c⁻¹ * a.bound.v)) := fun c hc => by
    have := f3mul_ok (qr c⁻¹) (qr a.bound.v) (qr_ok (by rw [nb_inv]; omega)) (qr_ok (by have := ha.nb; omega))
    rwa [qr_v, qr_v, qr_av, qr_av] at this
  have hng := f3neg_ok (qr (stB a.strict)) (qr_ok (by have := nb_stB a.strict; omega))
  rw [qr_v, qr_av] at hng
  unfold saysR
  generalize normF (vals a.form) = l at *
  clear ha
  obtain ⟨name, form, bound, strict⟩ := a
  unfold At.cells
  dsimp only at *
  have hns := named_size name
  have hpw := wb false
  have hp1 := wb true
  have hst0 : stB false = 0 := rfl
  have hst1 : stB true = -1 := rfl
  clear w0 w1
  generalize hnm : named name = nm at *
  cases nm
  · simp only [Bool.false_eq_true, if_false]
    obtain ⟨neg, num, den⟩ := bound
    simp only [RR.av, cF, cL] at h1 h2
    have hpw0 := hpw
    have hp10 := hp1
    simp only [Bool.false_eq_true, if_false, if_true, hst0, hst1] at hpw hp1
    generalize RR.v _ = bv at *
    generalize hbq : stB strict = bq at *
    simp only [cQ] at h1 h2 hpw hp1
    (refine pureW Tryz.func85 rfl (rs := [Go.ResultVar.cell 2 127]) rfl (n := 65) rfl ?_; simp only [List.length_cons, List.length_nil, List.replicate, List.cons_append, List.nil_append])
    (refine aQa ?_)
    refine W_seq ?_
    ((first | refine W_seqV ?_ | refine W_seq (W_seqV ?_) | refine W_regV ?_); intro K hK; (refine sQaX hns ?_; try exact True.intro))
    ((repeat refine aI ?_); refine hK _ ?_; clear hK K)
    (first | refine W_cond rfl (fun h => by cases h) (fun _ => ?_) | refine W_seq (W_cond rfl (fun h => by cases h) (fun _ => ?_)))
    refine W_skip ?_
    simp only [thenW]
    ((first | refine W_seqV ?_ | refine W_seq (W_seqV ?_) | refine W_regV ?_); intro K hK; (refine sQa ?_; try exact True.intro))
    ((repeat refine aI ?_); refine ⟨by kernel_rfl, rfl, _, h2, ?_⟩; (try (refine sQa ?_; try exact True.intro)); (repeat refine aI ?_))
    ((repeat refine aI ?_); refine ⟨by kernel_rfl, rfl, _, hpw, ?_⟩; (try (refine sQa ?_; try exact True.intro)); (repeat refine aI ?_))
    ((repeat refine aI ?_); refine hK _ ?_; clear hK K)
    refine W_join (fun s' => Le [] s' ⟨(.any :: (.ptr 1 0 0) :: (.ptr 2 0 0) :: (.ptr 3 0 0) :: .any :: .any :: .any :: .any :: .any :: .any :: .any :: .any :: .any :: .any :: .any :: .any :: .any :: .any :: .any :: .any :: .any :: .any :: .any :: .any :: .any :: .any :: .any :: .any :: .any :: .any :: .any :: .any :: .any :: .any :: .any :: .any :: .any :: .any :: .any :: .any :: .any :: .any :: .any :: .any :: .any :: .any :: .any :: .any :: .any :: .any :: .any :: .any :: .any :: .any :: .any :: .any :: .any :: .any :: .any :: .any :: .any :: .any :: .any :: .any :: .any :: []), (.dead :: (.arr 31 6 false [[.str name, .sl (tab rowM form), .bool neg, .sl (u32s num), .sl (u32s den), .bool strict]]) :: (.arr 127 10 false [[.int .i64 0, .str noname, .nils, .bool false, .bool false, .nils, .nils, .bool false, .nils, .nils]]) :: (.arr 46 6 false [[.bool (decide (bv.num < 0)), .sl (u32s (limbs bv.num.natAbs)), .sl (u32s (limbs bv.den)), .bool (decide (bq.num < 0)), .sl (u32s (limbs bq.num.natAbs)), .sl (u32s (limbs bq.den))]]) :: .dead :: .dead :: .dead :: .dead :: .dead :: .dead :: .dead :: .dead :: .dead :: .dead :: .dead :: .dead :: .dead :: .dead :: .dead :: .dead :: .dead :: .dead :: .dead :: .dead :: .dead :: .dead :: .dead :: .dead :: .dead :: .dead :: .dead :: .dead :: .dead :: .dead :: .dead :: .dead :: .dead :: .dead :: .dead :: .dead :: .dead :: .dead :: .dead :: .dead :: .dead :: .dead :: .dead :: .dead :: .dead :: .dead :: .dead :: .dead :: .dead :: .dead :: .dead :: .dead :: .dead :: .dead :: .dead :: .dead :: .dead :: .dead :: .dead :: .dead :: .dead :: [])⟩) ?_ ?_
    · cases strict
      · subst hbq
        refine W_seq ?_
        ((first | refine W_seqV ?_ | refine W_seq (W_seqV ?_) | refine W_regV ?_); intro K hK; (refine sQa ?_; try exact True.intro))
        ((repeat refine aI ?_); refine hK _ ?_; clear hK K)
        (first | refine W_cond rfl (fun h => by cases h) (fun _ => ?_) | refine W_seq (W_cond rfl (fun h => by cases h) (fun _ => ?_)))
        refine W_skip ?_
        simp only [thenW]
        exact Le_drop (by simp [leE]) (by simp [leH, noname, stB]) rfl rfl
      · subst hbq
        refine W_seq ?_
        ((first | refine W_seqV ?_ | refine W_seq (W_seqV ?_) | refine W_regV ?_); intro K hK; (refine sQa ?_; try exact True.intro))
        ((repeat refine aI ?_); refine hK _ ?_; clear hK K)
        (first | refine W_cond rfl (fun _ => ?_) (fun h => by cases h) | refine W_seq (W_cond rfl (fun _ => ?_) (fun h => by cases h)))
        ((first | refine W_seqV ?_ | refine W_seq (W_seqV ?_) | refine W_regV ?_); intro K hK; (refine sQa ?_; try exact True.intro))
        ((repeat refine aI ?_); refine ⟨by kernel_rfl, rfl, _, hp1, ?_⟩; (try (refine sQa ?_; try exact True.intro)); (repeat refine aI ?_))
        ((repeat refine aI ?_); refine hK _ ?_; clear hK K)
        simp only [thenW]
        exact Le_drop (by simp [leE]) (by simp [leH, noname, stB]) rfl rfl
    intro s' hle
    refine W.le ?_ hle
    clear hle s' h2 hpw hp1
    rcases l with _ | ⟨p, l⟩
    · have hg0 : (0 : Int) ≤ dsg (bv, bq) ∨ ¬ (0 : Int) ≤ dsg (bv, bq) := Decidable.em _
      simp only [cL, cD, primeF, scaleF, List.map_nil] at h1 hsg
      ((first | refine W_seqV ?_ | refine W_seq (W_seqV ?_) | refine W_regV ?_); intro K hK; (refine sQa ?_; try exact True.intro))
      ((repeat refine aI ?_); refine ⟨by kernel_rfl, rfl, _, h1, ?_⟩; (try (refine sQa ?_; try exact True.intro)); (repeat refine aI ?_))
      ((repeat refine aI ?_); refine hK _ ?_; clear hK K)
      refine W_seq ?_
      ((first | refine W_seqV ?_ | refine W_seq (W_seqV ?_) | refine W_regV ?_); intro K hK; (refine sQa ?_; try exact True.intro))
      ((repeat refine aI ?_); refine hK _ ?_; clear hK K)
      (first | refine W_cond rfl (fun _ => ?_) (fun h => by cases h) | refine W_seq (W_cond rfl (fun _ => ?_) (fun h => by cases h)))
      generalize dsg (bv, bq) = d at *
      rcases hg0 with hg | hg
      · simp only [if_pos hg]
        refine W_seq ?_
        have hgb := decide_eq_true hg
        ((first | refine W_seqV ?_ | refine W_seq (W_seqV ?_) | refine W_regV ?_); intro K hK; (refine sQa ?_; try exact True.intro))
        ((repeat refine aI ?_); refine ⟨by kernel_rfl, rfl, _, hsg, ?_⟩; (try (refine sQa ?_; try exact True.intro)); (repeat refine aI ?_))
        rw [hgb]
        ((repeat refine aI ?_); refine hK _ ?_; clear hK K)
        (first | refine W_cond rfl (fun _ => ?_) (fun h => by cases h) | refine W_seq (W_cond rfl (fun _ => ?_) (fun h => by cases h)))
        ((first | refine W_seqV ?_ | refine W_seq (W_seqV ?_) | refine W_regV ?_); intro K hK; (refine sQa ?_; try exact True.intro))
        ((repeat refine aI ?_); refine hK _ ?_; clear hK K)
        refine W_ret ?_
        (refine qG ?_; try exact True.intro); try (refine sQaV ?_; try exact True.intro)
        simp [RH.cells, zeroD, zeroR, tab, u32s, noname]
      · simp only [if_neg hg]
        refine W_seq ?_
        have hgb := decide_eq_false hg
        ((first | refine W_seqV ?_ | refine W_seq (W_seqV ?_) | refine W_regV ?_); intro K hK; (refine sQa ?_; try exact True.intro))
        ((repeat refine aI ?_); refine ⟨by kernel_rfl, rfl, _, hsg, ?_⟩; (try (refine sQa ?_; try exact True.intro)); (repeat refine aI ?_))
        rw [hgb]
        ((repeat refine aI ?_); refine hK _ ?_; clear hK K)
        (first | refine W_cond rfl (fun h => by cases h) (fun _ => ?_) | refine W_seq (W_cond rfl (fun h => by cases h) (fun _ => ?_)))
        refine W_skip ?_
        simp only [thenW]
        ((first | refine W_seqV ?_ | refine W_seq (W_seqV ?_) | refine W_regV ?_); intro K hK; (refine sQa ?_; try exact True.intro))
        ((repeat refine aI ?_); refine hK _ ?_; clear hK K)
        refine W_ret ?_
        (refine qG ?_; try exact True.intro); try (refine sQaV ?_; try exact True.intro)
        simp [RH.cells, zeroD, zeroR, tab, u32s, noname]
    · have hpl : (primeF (p :: l)).length = l.length + 1 := by simp [primeF, scaleF]
      have hc0 := primeC_ne hNF
      have h3 := f3sign_ok (qr (primeC (p :: l))) (qr_ok (by omega))
      have h4 := f3inv_ok (qr (primeC (p :: l))) (qr_ok (by omega))
      rw [qr_v, if_neg hc0] at h4
      rw [qr_v] at h3
      have h5 := hmu (primeC (p :: l)) (by omega)
      have hg0 : (0 : Int) < rs (primeC (p :: l)) ∨ ¬ (0 : Int) < rs (primeC (p :: l)) := Decidable.em _
      dsimp only
      clear hmu hs hnc hsg
      generalize primeF (p :: l) = pl at *
      generalize primeC (p :: l) = c at *
      generalize c⁻¹ * bv = m at *
      generalize c⁻¹ = ci at *
      generalize hbn : -bq = bn at *
      generalize rs c = sc at *
      have hz : (((l.length + 1 : Nat) : Int) == 0) = false := by rw [beq_eq_false_iff_ne]; omega
      simp only [RR.av, cL, cF, qr, cQE, cQ] at h1 h3 h4 h5 hng
      ((first | refine W_seqV ?_ | refine W_seq (W_seqV ?_) | refine W_regV ?_); intro K hK; (refine sQa ?_; try exact True.intro))
      ((repeat refine aI ?_); refine ⟨by kernel_rfl, rfl, _, h1, ?_⟩; (try (refine sQa ?_; try exact True.intro)); (repeat refine aI ?_))
      ((repeat refine aI ?_); refine hK _ ?_; clear hK K)
      refine W_seq ?_
      ((first | refine W_seqV ?_ | refine W_seq (W_seqV ?_) | refine W_regV ?_); intro K hK; (refine sQaX (And.intro hpl hz) ?_; try exact True.intro))
      ((repeat refine aI ?_); refine hK _ ?_; clear hK K)
      (first | refine W_cond rfl (fun h => by cases h) (fun _ => ?_) | refine W_seq (W_cond rfl (fun h => by cases h) (fun _ => ?_)))
      refine W_skip ?_
      simp only [thenW]
      ((first | refine W_seqV ?_ | refine W_seq (W_seqV ?_) | refine W_regV ?_); intro K hK; (refine sQa ?_; try exact True.intro))
      ((repeat refine aI ?_); refine ⟨by kernel_rfl, rfl, _, h4, ?_⟩; (try (refine sQa ?_; try exact True.intro)); (repeat refine aI ?_))
      ((repeat refine aI ?_); refine hK _ ?_; clear hK K)
      rcases hg0 with hg | hg
      · simp only [if_pos hg]
        refine W_seq ?_
        have hgb := decide_eq_true hg
        ((first | refine W_seqV ?_ | refine W_seq (W_seqV ?_) | refine W_regV ?_); intro K hK; (refine sQa ?_; try exact True.intro))
        ((repeat refine aI ?_); refine ⟨by kernel_rfl, rfl, _, h3, ?_⟩; (try (refine sQa ?_; try exact True.intro)); (repeat refine aI ?_))
        rw [hgb]
        ((repeat refine aI ?_); refine hK _ ?_; clear hK K)
        (first | refine W_cond rfl (fun _ => ?_) (fun h => by cases h) | refine W_seq (W_cond rfl (fun _ => ?_) (fun h => by cases h)))
        ((first | refine W_seqD mixed [] (by kernel_rfl) ?_ | refine W_seq (W_seqD mixed [] (by kernel_rfl) ?_) | refine W_regD mixed [] (by kernel_rfl) ?_); intro K hK; (refine sQa ?_; try exact True.intro))
        ((repeat refine aI ?_); refine ⟨by kernel_rfl, rfl, _, h5, ?_⟩; (try (refine sQa ?_; try exact True.intro)); (repeat refine aI ?_))
        ((repeat refine aI ?_); refine hK _ ?_; clear hK K)
        refine W_ret ?_
        (refine qG ?_; try exact True.intro); try (refine sQaV ?_; try exact True.intro)
        simp [RH.cells, dq, qr, noname]
      · simp only [if_neg hg]
        refine W_seq ?_
        have hgb := decide_eq_false hg
        ((first | refine W_seqV ?_ | refine W_seq (W_seqV ?_) | refine W_regV ?_); intro K hK; (refine sQa ?_; try exact True.intro))
        ((repeat refine aI ?_); refine ⟨by kernel_rfl, rfl, _, h3, ?_⟩; (try (refine sQa ?_; try exact True.intro)); (repeat refine aI ?_))
        rw [hgb]
        ((repeat refine aI ?_); refine hK _ ?_; clear hK K)
        (first | refine W_cond rfl (fun h => by cases h) (fun _ => ?_) | refine W_seq (W_cond rfl (fun h => by cases h) (fun _ => ?_)))
        refine W_skip ?_
        simp only [thenW]
        ((first | refine W_seqD mixed [] (by kernel_rfl) ?_ | refine W_seq (W_seqD mixed [] (by kernel_rfl) ?_) | refine W_regD mixed [] (by kernel_rfl) ?_); intro K hK; (refine sQa ?_; try exact True.intro))
        ((repeat refine aI ?_); refine ⟨by kernel_rfl, rfl, _, h5, ?_⟩; (try (refine sQa ?_; try exact True.intro)); (repeat refine aI ?_))
        ((repeat refine aI ?_); refine ⟨by kernel_rfl, rfl, _, hng, ?_⟩; (try (refine sQa ?_; try exact True.intro)); (repeat refine aI ?_))
        ((repeat refine aI ?_); refine hK _ ?_; clear hK K)
        refine W_ret ?_
        (refine qG ?_; try exact True.intro); try (refine sQaV ?_; try exact True.intro)
        simp [RH.cells, dq, qr, noname]
  · simp only [if_true]
    (refine pureW Tryz.func85 rfl (rs := [Go.ResultVar.cell 2 127]) rfl (n := 65) rfl ?_; simp only [List.length_cons, List.length_nil, List.replicate, List.cons_append, List.nil_append])
    (refine aQa ?_)
    refine W_seq ?_
    ((first | refine W_seqV ?_ | refine W_seq (W_seqV ?_) | refine W_regV ?_); intro K hK; (refine sQaX hns ?_; try exact True.intro))
    ((repeat refine aI ?_); refine hK _ ?_; clear hK K)
    (first | refine W_cond rfl (fun _ => ?_) (fun h => by cases h) | refine W_seq (W_cond rfl (fun _ => ?_) (fun h => by cases h)))
    ((first | refine W_seqV ?_ | refine W_seq (W_seqV ?_) | refine W_regV ?_); intro K hK; (refine sQa ?_; try exact True.intro))
    ((repeat refine aI ?_); refine hK _ ?_; clear hK K)
    refine W_ret ?_
    (refine qG ?_; try exact True.intro); try (refine sQaV ?_; try exact True.intro)
    simp [RH.cells, zeroD, zeroR, tab, u32s]
end Go.Proofs.YtjkjapjcmbfkgaaGreat.Vm

/-
  The reference's halves of atoms: opposite, apart.
-/
namespace Go.Proofs.YtjkjapjcmbfkgaaGreat.Vm
open Go Go.RowKit
set_option maxRecDepth 100000
set_option linter.unusedVariables false
set_option linter.unusedSimpArgs false
theorem sQb {G G' : Prop} (h : G') (e : G = G' := by conv => lhs; simp (disch := omega) only [rowsOf, cNat, cN, St.ret, St.seth, Eff.app, Eff.wi, sepL, guardOf, St.known, objOf, List.set, sliceW, litW, copyW, lenOf, bnd, mxOk, ofCells, TI.isAgg, cellsOf, storable, AV.one, dead, laid, overlay, reduceCtorEq, Int.reduceLE, Int.reduceLT, Int.reduceSub, Int.reduceAdd, Nat.reduceMul, Int.reduceToNat, Nat.reducePow, Int.reduceNeg, Nat.reduceAdd, Nat.reduceLT, Nat.reduceLeDiff, sA, sB, cQ, rowQ, tab_length, List.take_length, List.length_append, tab_drop, tab_take, tab_append, tab_nil, rowQ_all, rowQ_one, rowQ_pure, sT]) : G := e.mpr h
theorem sQbV {G G' : Prop} (h : G') (e : G = G' := by conv => lhs; simp (disch := omega) only [rowsOf, cNat, cN, St.ret, St.seth, Eff.app, Eff.wi, sepL, guardOf, St.known, objOf, List.set, sliceW, litW, copyW, lenOf, bnd, mxOk, ofCells, TI.isAgg, cellsOf, storable, AV.one, dead, laid, overlay, reduceCtorEq, Int.reduceLE, Int.reduceLT, Int.reduceSub, Int.reduceAdd, Nat.reduceMul, Int.reduceToNat, Nat.reducePow, Int.reduceNeg, Nat.reduceAdd, Nat.reduceLT, Nat.reduceLeDiff, sA, sB, cQ, rowQ, tab_length, List.take_length, List.length_append, tab_drop, tab_take, tab_append, tab_nil, rowQ_all, rowQ_one, rowQ_pure, sT, view_sref, viewRef, view_agg, views_cons, views_nil, view_bool, view_int, view_sl, view_nils, view_str, view_tup, view_nilif]) : G := e.mpr h

structure RHok (h : RH) : Prop where
  shape : Sz h.shape 268435456
  at_ : h.at_.ok
  nb : nb2 h.at_.v ≤ 268435456
  kind : h.kind = 0 ∨ h.kind = 1 ∨ h.kind = 2 ∨ h.kind = 3
def oppR (h : RH) : RH :=
  if h.kind = 0 ∨ h.kind = 1 then ⟨1 - h.kind, h.name, h.shape, h.upper, h.at_⟩
  else if h.kind = 2 then ⟨2, h.name, h.shape, !h.upper, h.at_⟩
  else ⟨3, h.name, h.shape, !h.upper, ⟨h.at_.a, qr (if h.upper then h.at_.b.v + 1 else h.at_.b.v - 1)⟩⟩
theorem f10opp_ok (h : RH) (hh : RHok h) : Pure Tryz.prog 86 [.agg h.cells] (· = .agg (oppR h).cells) := by
  have w1 := f3whole_ok 1 (by omega) (by omega)
  have h1e : ((1 : Int) : Rat) = 1 := rfl
  rw [h1e] at w1
  have hn1 : nb (1 : Rat) = 2 := nb_one
  have ha := f3add_ok h.at_.b (qr 1) hh.at_.2 (qr_ok (by omega))
  have hs := f3sub_ok h.at_.b (qr 1) hh.at_.2 (qr_ok (by omega))
  rw [qr_v] at ha hs
  have hk := hh.kind
  clear hh
  obtain ⟨kind, name, shape, upper, ⟨⟨n, x, y⟩, ⟨m, z, w⟩⟩⟩ := h
  unfold oppR RH.cells
  simp only [RR.av, qr] at *
  generalize RR.v _ = b at *
  generalize b + 1 = bp at *
  generalize b - 1 = bm at *
  generalize (1 : Rat) = one at *
  simp only [cQ] at *
  have z00 : ((0 : Int) == 0) = true := rfl
  have z10 : ((1 : Int) == 0) = false := rfl
  have z11 : ((1 : Int) == 1) = true := rfl
  have z20 : ((2 : Int) == 0) = false := rfl
  have z21 : ((2 : Int) == 1) = false := rfl
  have z22 : ((2 : Int) == 2) = true := rfl
  have z30 : ((3 : Int) == 0) = false := rfl
  have z31 : ((3 : Int) == 1) = false := rfl
  have z32 : ((3 : Int) == 2) = false := rfl
  have z33 : ((3 : Int) == 3) = true := rfl
  have y0 : IntKind.i64.wrap (1 - 0) = 1 := rfl
  have y1 : IntKind.i64.wrap (1 - 1) = 0 := rfl
  have y2 : IntKind.i64.wrap 1 = 1 := rfl
  have y3 : IntKind.i64.wrap 0 = 0 := rfl
  rcases hk with rfl | rfl | rfl | rfl
  · (refine pureW Tryz.func86 rfl (rs := [Go.ResultVar.cell 2 127]) rfl (n := 49) rfl ?_; simp only [List.length_cons, List.length_nil, List.replicate, List.cons_append, List.nil_append])
    (repeat' (first | (exfalso; simp at h; done) | refine W_block ?_ | (refine W_seqV fun K hK => ?_; (try (refine sQb ?_; try exact True.intro)); (repeat refine aI ?_); refine hK _ ?_; clear hK K) | (refine W_seqR fun K hK => ?_; (try (refine sQb ?_; try exact True.intro)); (repeat refine aI ?_); refine hK _ ?_; clear hK K) | (refine W_seqD mixed [] (by kernel_rfl) fun K hK => ?_; (try (refine sQb ?_; try exact True.intro)); (repeat refine aI ?_); refine hK _ ?_; clear hK K) | (refine W_regV fun K hK => ?_; (try (refine sQb ?_; try exact True.intro)); (repeat refine aI ?_); refine hK _ ?_; clear hK K) | (refine W_regR fun K hK => ?_; (try (refine sQb ?_; try exact True.intro)); (repeat refine aI ?_); refine hK _ ?_; clear hK K) | (refine W_regD mixed [] (by kernel_rfl) fun K hK => ?_; (try (refine sQb ?_; try exact True.intro)); (repeat refine aI ?_); refine hK _ ?_; clear hK K) | refine W_skip ?_ | (refine W_ret ?_; (refine qG ?_; try exact True.intro)) | (refine W_exit ?_; simp only [thenW, blockW, if_true, reduceCtorEq, if_false, Nat.reduceEqDiff]) | (refine W_cond rfl (fun h => ?_) (fun h => ?_) <;> (try simp only [cond_true, cond_false, ne_eq, cB] at h)) | refine W_seq ?_))
    (try (refine sQbV ?_; try exact True.intro))
    simp [y2]
  · (refine pureW Tryz.func86 rfl (rs := [Go.ResultVar.cell 2 127]) rfl (n := 49) rfl ?_; simp only [List.length_cons, List.length_nil, List.replicate, List.cons_append, List.nil_append])
    (repeat' (first | (exfalso; simp at h; done) | refine W_block ?_ | (refine W_seqV fun K hK => ?_; (try (refine sQb ?_; try exact True.intro)); (repeat refine aI ?_); refine hK _ ?_; clear hK K) | (refine W_seqR fun K hK => ?_; (try (refine sQb ?_; try exact True.intro)); (repeat refine aI ?_); refine hK _ ?_; clear hK K) | (refine W_seqD mixed [] (by kernel_rfl) fun K hK => ?_; (try (refine sQb ?_; try exact True.intro)); (repeat refine aI ?_); refine hK _ ?_; clear hK K) | (refine W_regV fun K hK => ?_; (try (refine sQb ?_; try exact True.intro)); (repeat refine aI ?_); refine hK _ ?_; clear hK K) | (refine W_regR fun K hK => ?_; (try (refine sQb ?_; try exact True.intro)); (repeat refine aI ?_); refine hK _ ?_; clear hK K) | (refine W_regD mixed [] (by kernel_rfl) fun K hK => ?_; (try (refine sQb ?_; try exact True.intro)); (repeat refine aI ?_); refine hK _ ?_; clear hK K) | refine W_skip ?_ | (refine W_ret ?_; (refine qG ?_; try exact True.intro)) | (refine W_exit ?_; simp only [thenW, blockW, if_true, reduceCtorEq, if_false, Nat.reduceEqDiff]) | (refine W_cond rfl (fun h => ?_) (fun h => ?_) <;> (try simp only [cond_true, cond_false, ne_eq, cB] at h)) | refine W_seq ?_))
    (try (refine sQbV ?_; try exact True.intro))
    simp [y3]
  · (refine pureW Tryz.func86 rfl (rs := [Go.ResultVar.cell 2 127]) rfl (n := 49) rfl ?_; simp only [List.length_cons, List.length_nil, List.replicate, List.cons_append, List.nil_append])
    (repeat' (first | (exfalso; simp at h; done) | refine W_block ?_ | (refine W_seqV fun K hK => ?_; (try (refine sQb ?_; try exact True.intro)); (repeat refine aI ?_); refine hK _ ?_; clear hK K) | (refine W_seqR fun K hK => ?_; (try (refine sQb ?_; try exact True.intro)); (repeat refine aI ?_); refine hK _ ?_; clear hK K) | (refine W_seqD mixed [] (by kernel_rfl) fun K hK => ?_; (try (refine sQb ?_; try exact True.intro)); (repeat refine aI ?_); refine hK _ ?_; clear hK K) | (refine W_regV fun K hK => ?_; (try (refine sQb ?_; try exact True.intro)); (repeat refine aI ?_); refine hK _ ?_; clear hK K) | (refine W_regR fun K hK => ?_; (try (refine sQb ?_; try exact True.intro)); (repeat refine aI ?_); refine hK _ ?_; clear hK K) | (refine W_regD mixed [] (by kernel_rfl) fun K hK => ?_; (try (refine sQb ?_; try exact True.intro)); (repeat refine aI ?_); refine hK _ ?_; clear hK K) | refine W_skip ?_ | (refine W_ret ?_; (refine qG ?_; try exact True.intro)) | (refine W_exit ?_; simp only [thenW, blockW, if_true, reduceCtorEq, if_false, Nat.reduceEqDiff]) | (refine W_cond rfl (fun h => ?_) (fun h => ?_) <;> (try simp only [cond_true, cond_false, ne_eq, cB] at h)) | refine W_seq ?_))
    (try (refine sQbV ?_; try exact True.intro))
    simp
  · simp only [Int.reduceEq, or_self, if_false]
    cases upper
    · simp only [Bool.false_eq_true, if_false]
      (refine pureW Tryz.func86 rfl (rs := [Go.ResultVar.cell 2 127]) rfl (n := 49) rfl ?_; simp only [List.length_cons, List.length_nil, List.replicate, List.cons_append, List.nil_append])
      (repeat' (first | (exfalso; simp at h; done) | refine W_block ?_ | (refine W_seqV fun K hK => ?_; (try (refine sQb ?_; try exact True.intro)); (repeat refine aI ?_); refine hK _ ?_; clear hK K) | (refine W_seqR fun K hK => ?_; (try (refine sQb ?_; try exact True.intro)); (repeat refine aI ?_); refine hK _ ?_; clear hK K) | (refine W_seqD mixed [] (by kernel_rfl) fun K hK => ?_; (try (refine sQb ?_; try exact True.intro)); (repeat refine aI ?_); refine hK _ ?_; clear hK K) | (refine W_regV fun K hK => ?_; (try (refine sQb ?_; try exact True.intro)); (repeat refine aI ?_); refine hK _ ?_; clear hK K) | (refine W_regR fun K hK => ?_; (try (refine sQb ?_; try exact True.intro)); (repeat refine aI ?_); refine hK _ ?_; clear hK K) | (refine W_regD mixed [] (by kernel_rfl) fun K hK => ?_; (try (refine sQb ?_; try exact True.intro)); (repeat refine aI ?_); refine hK _ ?_; clear hK K) | refine W_skip ?_ | (refine W_ret ?_; (refine qG ?_; try exact True.intro)) | (refine W_exit ?_; simp only [thenW, blockW, if_true, reduceCtorEq, if_false, Nat.reduceEqDiff]) | (refine W_cond rfl (fun h => ?_) (fun h => ?_) <;> (try simp only [cond_true, cond_false, ne_eq, cB] at h)) | refine W_seq ?_))
      ((first | refine W_seqV ?_ | refine W_seq (W_seqV ?_) | refine W_regV ?_); intro K hK; (refine sQb ?_; try exact True.intro))
      ((repeat refine aI ?_); refine ⟨by kernel_rfl, rfl, _, w1, ?_⟩; (try (refine sQb ?_; try exact True.intro)); (repeat refine aI ?_))
      ((repeat refine aI ?_); refine hK _ ?_; clear hK K)
      (repeat' (first | (exfalso; simp at h; done) | refine W_block ?_ | (refine W_seqV fun K hK => ?_; (try (refine sQb ?_; try exact True.intro)); (repeat refine aI ?_); refine hK _ ?_; clear hK K) | (refine W_seqR fun K hK => ?_; (try (refine sQb ?_; try exact True.intro)); (repeat refine aI ?_); refine hK _ ?_; clear hK K) | (refine W_seqD mixed [] (by kernel_rfl) fun K hK => ?_; (try (refine sQb ?_; try exact True.intro)); (repeat refine aI ?_); refine hK _ ?_; clear hK K) | (refine W_regV fun K hK => ?_; (try (refine sQb ?_; try exact True.intro)); (repeat refine aI ?_); refine hK _ ?_; clear hK K) | (refine W_regR fun K hK => ?_; (try (refine sQb ?_; try exact True.intro)); (repeat refine aI ?_); refine hK _ ?_; clear hK K) | (refine W_regD mixed [] (by kernel_rfl) fun K hK => ?_; (try (refine sQb ?_; try exact True.intro)); (repeat refine aI ?_); refine hK _ ?_; clear hK K) | refine W_skip ?_ | (refine W_ret ?_; (refine qG ?_; try exact True.intro)) | (refine W_exit ?_; simp only [thenW, blockW, if_true, reduceCtorEq, if_false, Nat.reduceEqDiff]) | (refine W_cond rfl (fun h => ?_) (fun h => ?_) <;> (try simp only [cond_true, cond_false, ne_eq, cB] at h)) | refine W_seq ?_))
      ((first | refine W_seqD mixed [] (by kernel_rfl) ?_ | refine W_seq (W_seqD mixed [] (by kernel_rfl) ?_) | refine W_regD mixed [] (by kernel_rfl) ?_); intro K hK; (refine sQb ?_; try exact True.intro))
      ((repeat refine aI ?_); refine ⟨by kernel_rfl, rfl, _, hs, ?_⟩; (try (refine sQb ?_; try exact True.intro)); (repeat refine aI ?_))
      ((repeat refine aI ?_); refine hK _ ?_; clear hK K)
      (repeat' (first | (exfalso; simp at h; done) | refine W_block ?_ | (refine W_seqV fun K hK => ?_; (try (refine sQb ?_; try exact True.intro)); (repeat refine aI ?_); refine hK _ ?_; clear hK K) | (refine W_seqR fun K hK => ?_; (try (refine sQb ?_; try exact True.intro)); (repeat refine aI ?_); refine hK _ ?_; clear hK K) | (refine W_seqD mixed [] (by kernel_rfl) fun K hK => ?_; (try (refine sQb ?_; try exact True.intro)); (repeat refine aI ?_); refine hK _ ?_; clear hK K) | (refine W_regV fun K hK => ?_; (try (refine sQb ?_; try exact True.intro)); (repeat refine aI ?_); refine hK _ ?_; clear hK K) | (refine W_regR fun K hK => ?_; (try (refine sQb ?_; try exact True.intro)); (repeat refine aI ?_); refine hK _ ?_; clear hK K) | (refine W_regD mixed [] (by kernel_rfl) fun K hK => ?_; (try (refine sQb ?_; try exact True.intro)); (repeat refine aI ?_); refine hK _ ?_; clear hK K) | refine W_skip ?_ | (refine W_ret ?_; (refine qG ?_; try exact True.intro)) | (refine W_exit ?_; simp only [thenW, blockW, if_true, reduceCtorEq, if_false, Nat.reduceEqDiff]) | (refine W_cond rfl (fun h => ?_) (fun h => ?_) <;> (try simp only [cond_true, cond_false, ne_eq, cB] at h)) | refine W_seq ?_))
      (try (refine sQbV ?_; try exact True.intro))
    · simp only [if_true]
      (refine pureW Tryz.func86 rfl (rs := [Go.ResultVar.cell 2 127]) rfl (n := 49) rfl ?_; simp only [List.length_cons, List.length_nil, List.replicate, List.cons_append, List.nil_append])
      (repeat' (first | (exfalso; simp at h; done) | refine W_block ?_ | (refine W_seqV fun K hK => ?_; (try (refine sQb ?_; try exact True.intro)); (repeat refine aI ?_); refine hK _ ?_; clear hK K) | (refine W_seqR fun K hK => ?_; (try (refine sQb ?_; try exact True.intro)); (repeat refine aI ?_); refine hK _ ?_; clear hK K) | (refine W_seqD mixed [] (by kernel_rfl) fun K hK => ?_; (try (refine sQb ?_; try exact True.intro)); (repeat refine aI ?_); refine hK _ ?_; clear hK K) | (refine W_regV fun K hK => ?_; (try (refine sQb ?_; try exact True.intro)); (repeat refine aI ?_); refine hK _ ?_; clear hK K) | (refine W_regR fun K hK => ?_; (try (refine sQb ?_; try exact True.intro)); (repeat refine aI ?_); refine hK _ ?_; clear hK K) | (refine W_regD mixed [] (by kernel_rfl) fun K hK => ?_; (try (refine sQb ?_; try exact True.intro)); (repeat refine aI ?_); refine hK _ ?_; clear hK K) | refine W_skip ?_ | (refine W_ret ?_; (refine qG ?_; try exact True.intro)) | (refine W_exit ?_; simp only [thenW, blockW, if_true, reduceCtorEq, if_false, Nat.reduceEqDiff]) | (refine W_cond rfl (fun h => ?_) (fun h => ?_) <;> (try simp only [cond_true, cond_false, ne_eq, cB] at h)) | refine W_seq ?_))
      ((first | refine W_seqV ?_ | refine W_seq (W_seqV ?_) | refine W_regV ?_); intro K hK; (refine sQb ?_; try exact True.intro))
      ((repeat refine aI ?_); refine ⟨by kernel_rfl, rfl, _, w1, ?_⟩; (try (refine sQb ?_; try exact True.intro)); (repeat refine aI ?_))
      ((repeat refine aI ?_); refine hK _ ?_; clear hK K)
      (repeat' (first | (exfalso; simp at h; done) | refine W_block ?_ | (refine W_seqV fun K hK => ?_; (try (refine sQb ?_; try exact True.intro)); (repeat refine aI ?_); refine hK _ ?_; clear hK K) | (refine W_seqR fun K hK => ?_; (try (refine sQb ?_; try exact True.intro)); (repeat refine aI ?_); refine hK _ ?_; clear hK K) | (refine W_seqD mixed [] (by kernel_rfl) fun K hK => ?_; (try (refine sQb ?_; try exact True.intro)); (repeat refine aI ?_); refine hK _ ?_; clear hK K) | (refine W_regV fun K hK => ?_; (try (refine sQb ?_; try exact True.intro)); (repeat refine aI ?_); refine hK _ ?_; clear hK K) | (refine W_regR fun K hK => ?_; (try (refine sQb ?_; try exact True.intro)); (repeat refine aI ?_); refine hK _ ?_; clear hK K) | (refine W_regD mixed [] (by kernel_rfl) fun K hK => ?_; (try (refine sQb ?_; try exact True.intro)); (repeat refine aI ?_); refine hK _ ?_; clear hK K) | refine W_skip ?_ | (refine W_ret ?_; (refine qG ?_; try exact True.intro)) | (refine W_exit ?_; simp only [thenW, blockW, if_true, reduceCtorEq, if_false, Nat.reduceEqDiff]) | (refine W_cond rfl (fun h => ?_) (fun h => ?_) <;> (try simp only [cond_true, cond_false, ne_eq, cB] at h)) | refine W_seq ?_))
      ((first | refine W_seqD mixed [] (by kernel_rfl) ?_ | refine W_seq (W_seqD mixed [] (by kernel_rfl) ?_) | refine W_regD mixed [] (by kernel_rfl) ?_); intro K hK; (refine sQb ?_; try exact True.intro))
      ((repeat refine aI ?_); refine ⟨by kernel_rfl, rfl, _, ha, ?_⟩; (try (refine sQb ?_; try exact True.intro)); (repeat refine aI ?_))
      ((repeat refine aI ?_); refine hK _ ?_; clear hK K)
      (repeat' (first | (exfalso; simp at h; done) | refine W_block ?_ | (refine W_seqV fun K hK => ?_; (try (refine sQb ?_; try exact True.intro)); (repeat refine aI ?_); refine hK _ ?_; clear hK K) | (refine W_seqR fun K hK => ?_; (try (refine sQb ?_; try exact True.intro)); (repeat refine aI ?_); refine hK _ ?_; clear hK K) | (refine W_seqD mixed [] (by kernel_rfl) fun K hK => ?_; (try (refine sQb ?_; try exact True.intro)); (repeat refine aI ?_); refine hK _ ?_; clear hK K) | (refine W_regV fun K hK => ?_; (try (refine sQb ?_; try exact True.intro)); (repeat refine aI ?_); refine hK _ ?_; clear hK K) | (refine W_regR fun K hK => ?_; (try (refine sQb ?_; try exact True.intro)); (repeat refine aI ?_); refine hK _ ?_; clear hK K) | (refine W_regD mixed [] (by kernel_rfl) fun K hK => ?_; (try (refine sQb ?_; try exact True.intro)); (repeat refine aI ?_); refine hK _ ?_; clear hK K) | refine W_skip ?_ | (refine W_ret ?_; (refine qG ?_; try exact True.intro)) | (refine W_exit ?_; simp only [thenW, blockW, if_true, reduceCtorEq, if_false, Nat.reduceEqDiff]) | (refine W_cond rfl (fun h => ?_) (fun h => ?_) <;> (try simp only [cond_true, cond_false, ne_eq, cB] at h)) | refine W_seq ?_))
      (try (refine sQbV ?_; try exact True.intro))

end Go.Proofs.YtjkjapjcmbfkgaaGreat.Vm

/-
  The reference's halves of atoms: apart.
-/
namespace Go.Proofs.YtjkjapjcmbfkgaaGreat.Vm
open Go Go.RowKit
set_option maxRecDepth 100000
set_option linter.unusedVariables false
set_option linter.unusedSimpArgs false
theorem sQc {G G' : Prop} (h : G') (e : G = G' := by conv => lhs; simp (disch := omega) only [rowsOf, cNat, cN, St.ret, St.seth, Eff.app, Eff.wi, sepL, guardOf, St.known, objOf, List.set, sliceW, litW, copyW, lenOf, bnd, mxOk, ofCells, TI.isAgg, cellsOf, storable, AV.one, dead, laid, overlay, reduceCtorEq, Int.reduceLE, Int.reduceLT, Int.reduceSub, Int.reduceAdd, Nat.reduceMul, Int.reduceToNat, Nat.reducePow, Int.reduceNeg, Nat.reduceAdd, Nat.reduceLT, Nat.reduceLeDiff, sA, sB, cQ, rowQ, tab_length, List.take_length, List.length_append, tab_drop, tab_take, tab_append, tab_nil, rowQ_all, rowQ_one, rowQ_pure, Int.reduceBEq, Int.reduceBNe, btt, btf, bft, bff, Bool.not_true, Bool.not_false, sT]) : G := e.mpr h
theorem sQcV {G G' : Prop} (h : G') (e : G = G' := by conv => lhs; simp (disch := omega) only [rowsOf, cNat, cN, St.ret, St.seth, Eff.app, Eff.wi, sepL, guardOf, St.known, objOf, List.set, sliceW, litW, copyW, lenOf, bnd, mxOk, ofCells, TI.isAgg, cellsOf, storable, AV.one, dead, laid, overlay, reduceCtorEq, Int.reduceLE, Int.reduceLT, Int.reduceSub, Int.reduceAdd, Nat.reduceMul, Int.reduceToNat, Nat.reducePow, Int.reduceNeg, Nat.reduceAdd, Nat.reduceLT, Nat.reduceLeDiff, sA, sB, cQ, rowQ, tab_length, List.take_length, List.length_append, tab_drop, tab_take, tab_append, tab_nil, rowQ_all, rowQ_one, rowQ_pure, Int.reduceBEq, Int.reduceBNe, btt, btf, bft, bff, Bool.not_true, Bool.not_false, sT, view_sref, viewRef, view_agg, views_cons, views_nil, view_bool, view_int, view_sl, view_nils, view_str, view_tup, view_nilif]) : G := e.mpr h
theorem btt : (true == true) = true := rfl
theorem btf : (true == false) = false := rfl
theorem bft : (false == true) = false := rfl
theorem bff : (false == false) = true := rfl

def apartR (x y : RH) : Bool :=
  if x.kind = 0 ∨ y.kind = 0 then true
  else if x.kind ≠ y.kind ∨ x.kind = 1 ∨ (x.upper == y.upper) = true then false
  else if x.kind = 2 then x.name.toList == y.name.toList
  else if cmpF x.shape y.shape ≠ 0 then false
  else if x.upper = true then decide (0 < dsg (dsub y.at_.v x.at_.v))
  else decide (0 < dsg (dsub x.at_.v y.at_.v))
set_option maxHeartbeats 8000000 in
theorem f10apart_ok (g h : RH) (hg : RHok g) (hh : RHok h) : Pure Tryz.prog 87 [.agg g.cells, .agg h.cells] (· = .bool (apartR g h)) := by
  have hc := f6cmp_ok (rf g.shape) (rf h.shape) ((FOk.rf hg.shape (by omega)).pf (by omega)) ((FOk.rf hh.shape (by omega)).pf (by omega)) (by
    intro p hp
    simp only [rf, List.mem_map] at hp
    obtain ⟨q, hq, rfl⟩ := hp
    have := hh.shape.mem hq
    simp only [qr_v]
    omega) (by have := hg.shape.l; have := hh.shape.l; simp only [rf, List.length_map]; omega) (by omega)
  rw [vals_rf, vals_rf, cF_rf, cF_rf] at hc
  have h1 := f5cmp_ok h.at_ g.at_ hh.at_ hg.at_ (by have := nb2_sub h.at_.v g.at_.v; have := hg.nb; have := hh.nb; omega)
  have h2 := f5cmp_ok g.at_ h.at_ hg.at_ hh.at_ (by have := nb2_sub g.at_.v h.at_.v; have := hg.nb; have := hh.nb; omega)
  have hk := hg.kind
  have hk' := hh.kind
  clear hg hh
  unfold apartR
  obtain ⟨kind, name, shape, upper, ⟨⟨n, x, y⟩, ⟨m, z, w⟩⟩⟩ := g
  obtain ⟨kind', name', shape', upper', ⟨⟨n', x', y'⟩, ⟨m', z', w'⟩⟩⟩ := h
  unfold RH.cells
  dsimp only at *
  generalize dsg (dsub (DD.v ⟨⟨n, x, y⟩, _⟩) _) = d1 at *
  generalize dsg (dsub _ _) = d2 at *
  generalize cmpF shape shape' = cm at *
  simp only [DD.av, DD.cells, cL] at *
  have e1 : (0 : Int) ≠ 1 := by omega
  rcases hk with rfl | rfl | rfl | rfl <;> rcases hk' with rfl | rfl | rfl | rfl
  case inr.inr.inl.inr.inr.inl =>
    cases upper <;> cases upper'
    all_goals
      (refine pureW Tryz.func87 rfl (rs := [Go.ResultVar.tmp 4]) rfl (n := 58) rfl ?_; simp only [List.length_cons, List.length_nil, List.replicate, List.cons_append, List.nil_append])
      (repeat' (first | (exfalso; simp at h; done) | refine W_block ?_ | (refine W_seqV fun K hK => ?_; (try (refine sQc ?_; try exact True.intro)); (repeat refine aI ?_); refine hK _ ?_; clear hK K) | (refine W_seqR fun K hK => ?_; (try (refine sQc ?_; try exact True.intro)); (repeat refine aI ?_); refine hK _ ?_; clear hK K) | (refine W_seqD mixed [] (by kernel_rfl) fun K hK => ?_; (try (refine sQc ?_; try exact True.intro)); (repeat refine aI ?_); refine hK _ ?_; clear hK K) | (refine W_regV fun K hK => ?_; (try (refine sQc ?_; try exact True.intro)); (repeat refine aI ?_); refine hK _ ?_; clear hK K) | (refine W_regR fun K hK => ?_; (try (refine sQc ?_; try exact True.intro)); (repeat refine aI ?_); refine hK _ ?_; clear hK K) | (refine W_regD mixed [] (by kernel_rfl) fun K hK => ?_; (try (refine sQc ?_; try exact True.intro)); (repeat refine aI ?_); refine hK _ ?_; clear hK K) | refine W_skip ?_ | (refine W_ret ?_; (refine qG ?_; try exact True.intro)) | (refine W_exit ?_; simp only [thenW, blockW, if_true, reduceCtorEq, if_false, Nat.reduceEqDiff]) | (refine W_cond rfl (fun h => ?_) (fun h => ?_) <;> (try simp only [cond_true, cond_false, ne_eq, cB] at h)) | refine W_seq ?_))
    all_goals (try (refine sQcV ?_; try exact True.intro))
    all_goals simp
  case inr.inr.inr.inr.inr.inr =>
    have hcm : (cm != 0) = decide (cm ≠ 0) := by by_cases h : cm = 0 <;> simp [h]
    by_cases h0 : cm = 0
    · have hcb : (cm != 0) = false := hcm.trans (by simp [h0])
      cases upper <;> cases upper'
      · (refine pureW Tryz.func87 rfl (rs := [Go.ResultVar.tmp 4]) rfl (n := 58) rfl ?_; simp only [List.length_cons, List.length_nil, List.replicate, List.cons_append, List.nil_append])
        (repeat' (first | (exfalso; simp at h; done) | refine W_block ?_ | (refine W_seqV fun K hK => ?_; (try (refine sQc ?_; try exact True.intro)); (repeat refine aI ?_); refine hK _ ?_; clear hK K) | (refine W_seqR fun K hK => ?_; (try (refine sQc ?_; try exact True.intro)); (repeat refine aI ?_); refine hK _ ?_; clear hK K) | (refine W_seqD mixed [] (by kernel_rfl) fun K hK => ?_; (try (refine sQc ?_; try exact True.intro)); (repeat refine aI ?_); refine hK _ ?_; clear hK K) | (refine W_regV fun K hK => ?_; (try (refine sQc ?_; try exact True.intro)); (repeat refine aI ?_); refine hK _ ?_; clear hK K) | (refine W_regR fun K hK => ?_; (try (refine sQc ?_; try exact True.intro)); (repeat refine aI ?_); refine hK _ ?_; clear hK K) | (refine W_regD mixed [] (by kernel_rfl) fun K hK => ?_; (try (refine sQc ?_; try exact True.intro)); (repeat refine aI ?_); refine hK _ ?_; clear hK K) | refine W_skip ?_ | (refine W_ret ?_; (refine qG ?_; try exact True.intro)) | (refine W_exit ?_; simp only [thenW, blockW, if_true, reduceCtorEq, if_false, Nat.reduceEqDiff]) | (refine W_cond rfl (fun h => ?_) (fun h => ?_) <;> (try simp only [cond_true, cond_false, ne_eq, cB] at h)) | refine W_seq ?_))
        (try (refine sQcV ?_; try exact True.intro))
        simp
      · (refine pureW Tryz.func87 rfl (rs := [Go.ResultVar.tmp 4]) rfl (n := 58) rfl ?_; simp only [List.length_cons, List.length_nil, List.replicate, List.cons_append, List.nil_append])
        (repeat' (first | (exfalso; simp at h; done) | refine W_block ?_ | (refine W_seqV fun K hK => ?_; (try (refine sQc ?_; try exact True.intro)); (repeat refine aI ?_); refine hK _ ?_; clear hK K) | (refine W_seqR fun K hK => ?_; (try (refine sQc ?_; try exact True.intro)); (repeat refine aI ?_); refine hK _ ?_; clear hK K) | (refine W_seqD mixed [] (by kernel_rfl) fun K hK => ?_; (try (refine sQc ?_; try exact True.intro)); (repeat refine aI ?_); refine hK _ ?_; clear hK K) | (refine W_regV fun K hK => ?_; (try (refine sQc ?_; try exact True.intro)); (repeat refine aI ?_); refine hK _ ?_; clear hK K) | (refine W_regR fun K hK => ?_; (try (refine sQc ?_; try exact True.intro)); (repeat refine aI ?_); refine hK _ ?_; clear hK K) | (refine W_regD mixed [] (by kernel_rfl) fun K hK => ?_; (try (refine sQc ?_; try exact True.intro)); (repeat refine aI ?_); refine hK _ ?_; clear hK K) | refine W_skip ?_ | (refine W_ret ?_; (refine qG ?_; try exact True.intro)) | (refine W_exit ?_; simp only [thenW, blockW, if_true, reduceCtorEq, if_false, Nat.reduceEqDiff]) | (refine W_cond rfl (fun h => ?_) (fun h => ?_) <;> (try simp only [cond_true, cond_false, ne_eq, cB] at h)) | refine W_seq ?_))
        ((first | refine W_seqV ?_ | refine W_seq (W_seqV ?_) | refine W_regV ?_); intro K hK; (refine sQc ?_; try exact True.intro))
        ((repeat refine aI ?_); refine ⟨by kernel_rfl, rfl, _, hc, ?_⟩; (try (refine sQc ?_; try exact True.intro)); (repeat refine aI ?_))
        rw [hcb]
        ((repeat refine aI ?_); refine hK _ ?_; clear hK K)
        (repeat' (first | (exfalso; simp at h; done) | refine W_block ?_ | (refine W_seqV fun K hK => ?_; (try (refine sQc ?_; try exact True.intro)); (repeat refine aI ?_); refine hK _ ?_; clear hK K) | (refine W_seqR fun K hK => ?_; (try (refine sQc ?_; try exact True.intro)); (repeat refine aI ?_); refine hK _ ?_; clear hK K) | (refine W_seqD mixed [] (by kernel_rfl) fun K hK => ?_; (try (refine sQc ?_; try exact True.intro)); (repeat refine aI ?_); refine hK _ ?_; clear hK K) | (refine W_regV fun K hK => ?_; (try (refine sQc ?_; try exact True.intro)); (repeat refine aI ?_); refine hK _ ?_; clear hK K) | (refine W_regR fun K hK => ?_; (try (refine sQc ?_; try exact True.intro)); (repeat refine aI ?_); refine hK _ ?_; clear hK K) | (refine W_regD mixed [] (by kernel_rfl) fun K hK => ?_; (try (refine sQc ?_; try exact True.intro)); (repeat refine aI ?_); refine hK _ ?_; clear hK K) | refine W_skip ?_ | (refine W_ret ?_; (refine qG ?_; try exact True.intro)) | (refine W_exit ?_; simp only [thenW, blockW, if_true, reduceCtorEq, if_false, Nat.reduceEqDiff]) | (refine W_cond rfl (fun h => ?_) (fun h => ?_) <;> (try simp only [cond_true, cond_false, ne_eq, cB] at h)) | refine W_seq ?_))
        ((first | refine W_seqV ?_ | refine W_seq (W_seqV ?_) | refine W_regV ?_); intro K hK; (refine sQc ?_; try exact True.intro))
        ((repeat refine aI ?_); refine ⟨by kernel_rfl, rfl, _, h2, ?_⟩; (try (refine sQc ?_; try exact True.intro)); (repeat refine aI ?_))
        ((repeat refine aI ?_); refine hK _ ?_; clear hK K)
        (repeat' (first | (exfalso; simp at h; done) | refine W_block ?_ | (refine W_seqV fun K hK => ?_; (try (refine sQc ?_; try exact True.intro)); (repeat refine aI ?_); refine hK _ ?_; clear hK K) | (refine W_seqR fun K hK => ?_; (try (refine sQc ?_; try exact True.intro)); (repeat refine aI ?_); refine hK _ ?_; clear hK K) | (refine W_seqD mixed [] (by kernel_rfl) fun K hK => ?_; (try (refine sQc ?_; try exact True.intro)); (repeat refine aI ?_); refine hK _ ?_; clear hK K) | (refine W_regV fun K hK => ?_; (try (refine sQc ?_; try exact True.intro)); (repeat refine aI ?_); refine hK _ ?_; clear hK K) | (refine W_regR fun K hK => ?_; (try (refine sQc ?_; try exact True.intro)); (repeat refine aI ?_); refine hK _ ?_; clear hK K) | (refine W_regD mixed [] (by kernel_rfl) fun K hK => ?_; (try (refine sQc ?_; try exact True.intro)); (repeat refine aI ?_); refine hK _ ?_; clear hK K) | refine W_skip ?_ | (refine W_ret ?_; (refine qG ?_; try exact True.intro)) | (refine W_exit ?_; simp only [thenW, blockW, if_true, reduceCtorEq, if_false, Nat.reduceEqDiff]) | (refine W_cond rfl (fun h => ?_) (fun h => ?_) <;> (try simp only [cond_true, cond_false, ne_eq, cB] at h)) | refine W_seq ?_))
        (try (refine sQcV ?_; try exact True.intro))
        simp [h0]
      · (refine pureW Tryz.func87 rfl (rs := [Go.ResultVar.tmp 4]) rfl (n := 58) rfl ?_; simp only [List.length_cons, List.length_nil, List.replicate, List.cons_append, List.nil_append])
        (repeat' (first | (exfalso; simp at h; done) | refine W_block ?_ | (refine W_seqV fun K hK => ?_; (try (refine sQc ?_; try exact True.intro)); (repeat refine aI ?_); refine hK _ ?_; clear hK K) | (refine W_seqR fun K hK => ?_; (try (refine sQc ?_; try exact True.intro)); (repeat refine aI ?_); refine hK _ ?_; clear hK K) | (refine W_seqD mixed [] (by kernel_rfl) fun K hK => ?_; (try (refine sQc ?_; try exact True.intro)); (repeat refine aI ?_); refine hK _ ?_; clear hK K) | (refine W_regV fun K hK => ?_; (try (refine sQc ?_; try exact True.intro)); (repeat refine aI ?_); refine hK _ ?_; clear hK K) | (refine W_regR fun K hK => ?_; (try (refine sQc ?_; try exact True.intro)); (repeat refine aI ?_); refine hK _ ?_; clear hK K) | (refine W_regD mixed [] (by kernel_rfl) fun K hK => ?_; (try (refine sQc ?_; try exact True.intro)); (repeat refine aI ?_); refine hK _ ?_; clear hK K) | refine W_skip ?_ | (refine W_ret ?_; (refine qG ?_; try exact True.intro)) | (refine W_exit ?_; simp only [thenW, blockW, if_true, reduceCtorEq, if_false, Nat.reduceEqDiff]) | (refine W_cond rfl (fun h => ?_) (fun h => ?_) <;> (try simp only [cond_true, cond_false, ne_eq, cB] at h)) | refine W_seq ?_))
        ((first | refine W_seqV ?_ | refine W_seq (W_seqV ?_) | refine W_regV ?_); intro K hK; (refine sQc ?_; try exact True.intro))
        ((repeat refine aI ?_); refine ⟨by kernel_rfl, rfl, _, hc, ?_⟩; (try (refine sQc ?_; try exact True.intro)); (repeat refine aI ?_))
        rw [hcb]
        ((repeat refine aI ?_); refine hK _ ?_; clear hK K)
        (repeat' (first | (exfalso; simp at h; done) | refine W_block ?_ | (refine W_seqV fun K hK => ?_; (try (refine sQc ?_; try exact True.intro)); (repeat refine aI ?_); refine hK _ ?_; clear hK K) | (refine W_seqR fun K hK => ?_; (try (refine sQc ?_; try exact True.intro)); (repeat refine aI ?_); refine hK _ ?_; clear hK K) | (refine W_seqD mixed [] (by kernel_rfl) fun K hK => ?_; (try (refine sQc ?_; try exact True.intro)); (repeat refine aI ?_); refine hK _ ?_; clear hK K) | (refine W_regV fun K hK => ?_; (try (refine sQc ?_; try exact True.intro)); (repeat refine aI ?_); refine hK _ ?_; clear hK K) | (refine W_regR fun K hK => ?_; (try (refine sQc ?_; try exact True.intro)); (repeat refine aI ?_); refine hK _ ?_; clear hK K) | (refine W_regD mixed [] (by kernel_rfl) fun K hK => ?_; (try (refine sQc ?_; try exact True.intro)); (repeat refine aI ?_); refine hK _ ?_; clear hK K) | refine W_skip ?_ | (refine W_ret ?_; (refine qG ?_; try exact True.intro)) | (refine W_exit ?_; simp only [thenW, blockW, if_true, reduceCtorEq, if_false, Nat.reduceEqDiff]) | (refine W_cond rfl (fun h => ?_) (fun h => ?_) <;> (try simp only [cond_true, cond_false, ne_eq, cB] at h)) | refine W_seq ?_))
        ((first | refine W_seqV ?_ | refine W_seq (W_seqV ?_) | refine W_regV ?_); intro K hK; (refine sQc ?_; try exact True.intro))
        ((repeat refine aI ?_); refine ⟨by kernel_rfl, rfl, _, h1, ?_⟩; (try (refine sQc ?_; try exact True.intro)); (repeat refine aI ?_))
        ((repeat refine aI ?_); refine hK _ ?_; clear hK K)
        (repeat' (first | (exfalso; simp at h; done) | refine W_block ?_ | (refine W_seqV fun K hK => ?_; (try (refine sQc ?_; try exact True.intro)); (repeat refine aI ?_); refine hK _ ?_; clear hK K) | (refine W_seqR fun K hK => ?_; (try (refine sQc ?_; try exact True.intro)); (repeat refine aI ?_); refine hK _ ?_; clear hK K) | (refine W_seqD mixed [] (by kernel_rfl) fun K hK => ?_; (try (refine sQc ?_; try exact True.intro)); (repeat refine aI ?_); refine hK _ ?_; clear hK K) | (refine W_regV fun K hK => ?_; (try (refine sQc ?_; try exact True.intro)); (repeat refine aI ?_); refine hK _ ?_; clear hK K) | (refine W_regR fun K hK => ?_; (try (refine sQc ?_; try exact True.intro)); (repeat refine aI ?_); refine hK _ ?_; clear hK K) | (refine W_regD mixed [] (by kernel_rfl) fun K hK => ?_; (try (refine sQc ?_; try exact True.intro)); (repeat refine aI ?_); refine hK _ ?_; clear hK K) | refine W_skip ?_ | (refine W_ret ?_; (refine qG ?_; try exact True.intro)) | (refine W_exit ?_; simp only [thenW, blockW, if_true, reduceCtorEq, if_false, Nat.reduceEqDiff]) | (refine W_cond rfl (fun h => ?_) (fun h => ?_) <;> (try simp only [cond_true, cond_false, ne_eq, cB] at h)) | refine W_seq ?_))
        (try (refine sQcV ?_; try exact True.intro))
        simp [h0]
      · (refine pureW Tryz.func87 rfl (rs := [Go.ResultVar.tmp 4]) rfl (n := 58) rfl ?_; simp only [List.length_cons, List.length_nil, List.replicate, List.cons_append, List.nil_append])
        (repeat' (first | (exfalso; simp at h; done) | refine W_block ?_ | (refine W_seqV fun K hK => ?_; (try (refine sQc ?_; try exact True.intro)); (repeat refine aI ?_); refine hK _ ?_; clear hK K) | (refine W_seqR fun K hK => ?_; (try (refine sQc ?_; try exact True.intro)); (repeat refine aI ?_); refine hK _ ?_; clear hK K) | (refine W_seqD mixed [] (by kernel_rfl) fun K hK => ?_; (try (refine sQc ?_; try exact True.intro)); (repeat refine aI ?_); refine hK _ ?_; clear hK K) | (refine W_regV fun K hK => ?_; (try (refine sQc ?_; try exact True.intro)); (repeat refine aI ?_); refine hK _ ?_; clear hK K) | (refine W_regR fun K hK => ?_; (try (refine sQc ?_; try exact True.intro)); (repeat refine aI ?_); refine hK _ ?_; clear hK K) | (refine W_regD mixed [] (by kernel_rfl) fun K hK => ?_; (try (refine sQc ?_; try exact True.intro)); (repeat refine aI ?_); refine hK _ ?_; clear hK K) | refine W_skip ?_ | (refine W_ret ?_; (refine qG ?_; try exact True.intro)) | (refine W_exit ?_; simp only [thenW, blockW, if_true, reduceCtorEq, if_false, Nat.reduceEqDiff]) | (refine W_cond rfl (fun h => ?_) (fun h => ?_) <;> (try simp only [cond_true, cond_false, ne_eq, cB] at h)) | refine W_seq ?_))
        (try (refine sQcV ?_; try exact True.intro))
        simp
    · have hcb : (cm != 0) = true := hcm.trans (by simp [h0])
      cases upper <;> cases upper'
      · (refine pureW Tryz.func87 rfl (rs := [Go.ResultVar.tmp 4]) rfl (n := 58) rfl ?_; simp only [List.length_cons, List.length_nil, List.replicate, List.cons_append, List.nil_append])
        (repeat' (first | (exfalso; simp at h; done) | refine W_block ?_ | (refine W_seqV fun K hK => ?_; (try (refine sQc ?_; try exact True.intro)); (repeat refine aI ?_); refine hK _ ?_; clear hK K) | (refine W_seqR fun K hK => ?_; (try (refine sQc ?_; try exact True.intro)); (repeat refine aI ?_); refine hK _ ?_; clear hK K) | (refine W_seqD mixed [] (by kernel_rfl) fun K hK => ?_; (try (refine sQc ?_; try exact True.intro)); (repeat refine aI ?_); refine hK _ ?_; clear hK K) | (refine W_regV fun K hK => ?_; (try (refine sQc ?_; try exact True.intro)); (repeat refine aI ?_); refine hK _ ?_; clear hK K) | (refine W_regR fun K hK => ?_; (try (refine sQc ?_; try exact True.intro)); (repeat refine aI ?_); refine hK _ ?_; clear hK K) | (refine W_regD mixed [] (by kernel_rfl) fun K hK => ?_; (try (refine sQc ?_; try exact True.intro)); (repeat refine aI ?_); refine hK _ ?_; clear hK K) | refine W_skip ?_ | (refine W_ret ?_; (refine qG ?_; try exact True.intro)) | (refine W_exit ?_; simp only [thenW, blockW, if_true, reduceCtorEq, if_false, Nat.reduceEqDiff]) | (refine W_cond rfl (fun h => ?_) (fun h => ?_) <;> (try simp only [cond_true, cond_false, ne_eq, cB] at h)) | refine W_seq ?_))
        (try (refine sQcV ?_; try exact True.intro))
        simp
      · (refine pureW Tryz.func87 rfl (rs := [Go.ResultVar.tmp 4]) rfl (n := 58) rfl ?_; simp only [List.length_cons, List.length_nil, List.replicate, List.cons_append, List.nil_append])
        (repeat' (first | (exfalso; simp at h; done) | refine W_block ?_ | (refine W_seqV fun K hK => ?_; (try (refine sQc ?_; try exact True.intro)); (repeat refine aI ?_); refine hK _ ?_; clear hK K) | (refine W_seqR fun K hK => ?_; (try (refine sQc ?_; try exact True.intro)); (repeat refine aI ?_); refine hK _ ?_; clear hK K) | (refine W_seqD mixed [] (by kernel_rfl) fun K hK => ?_; (try (refine sQc ?_; try exact True.intro)); (repeat refine aI ?_); refine hK _ ?_; clear hK K) | (refine W_regV fun K hK => ?_; (try (refine sQc ?_; try exact True.intro)); (repeat refine aI ?_); refine hK _ ?_; clear hK K) | (refine W_regR fun K hK => ?_; (try (refine sQc ?_; try exact True.intro)); (repeat refine aI ?_); refine hK _ ?_; clear hK K) | (refine W_regD mixed [] (by kernel_rfl) fun K hK => ?_; (try (refine sQc ?_; try exact True.intro)); (repeat refine aI ?_); refine hK _ ?_; clear hK K) | refine W_skip ?_ | (refine W_ret ?_; (refine qG ?_; try exact True.intro)) | (refine W_exit ?_; simp only [thenW, blockW, if_true, reduceCtorEq, if_false, Nat.reduceEqDiff]) | (refine W_cond rfl (fun h => ?_) (fun h => ?_) <;> (try simp only [cond_true, cond_false, ne_eq, cB] at h)) | refine W_seq ?_))
        ((first | refine W_seqV ?_ | refine W_seq (W_seqV ?_) | refine W_regV ?_); intro K hK; (refine sQc ?_; try exact True.intro))
        ((repeat refine aI ?_); refine ⟨by kernel_rfl, rfl, _, hc, ?_⟩; (try (refine sQc ?_; try exact True.intro)); (repeat refine aI ?_))
        rw [hcb]
        ((repeat refine aI ?_); refine hK _ ?_; clear hK K)
        (repeat' (first | (exfalso; simp at h; done) | refine W_block ?_ | (refine W_seqV fun K hK => ?_; (try (refine sQc ?_; try exact True.intro)); (repeat refine aI ?_); refine hK _ ?_; clear hK K) | (refine W_seqR fun K hK => ?_; (try (refine sQc ?_; try exact True.intro)); (repeat refine aI ?_); refine hK _ ?_; clear hK K) | (refine W_seqD mixed [] (by kernel_rfl) fun K hK => ?_; (try (refine sQc ?_; try exact True.intro)); (repeat refine aI ?_); refine hK _ ?_; clear hK K) | (refine W_regV fun K hK => ?_; (try (refine sQc ?_; try exact True.intro)); (repeat refine aI ?_); refine hK _ ?_; clear hK K) | (refine W_regR fun K hK => ?_; (try (refine sQc ?_; try exact True.intro)); (repeat refine aI ?_); refine hK _ ?_; clear hK K) | (refine W_regD mixed [] (by kernel_rfl) fun K hK => ?_; (try (refine sQc ?_; try exact True.intro)); (repeat refine aI ?_); refine hK _ ?_; clear hK K) | refine W_skip ?_ | (refine W_ret ?_; (refine qG ?_; try exact True.intro)) | (refine W_exit ?_; simp only [thenW, blockW, if_true, reduceCtorEq, if_false, Nat.reduceEqDiff]) | (refine W_cond rfl (fun h => ?_) (fun h => ?_) <;> (try simp only [cond_true, cond_false, ne_eq, cB] at h)) | refine W_seq ?_))
        (try (refine sQcV ?_; try exact True.intro))
        simp [h0]
      · (refine pureW Tryz.func87 rfl (rs := [Go.ResultVar.tmp 4]) rfl (n := 58) rfl ?_; simp only [List.length_cons, List.length_nil, List.replicate, List.cons_append, List.nil_append])
        (repeat' (first | (exfalso; simp at h; done) | refine W_block ?_ | (refine W_seqV fun K hK => ?_; (try (refine sQc ?_; try exact True.intro)); (repeat refine aI ?_); refine hK _ ?_; clear hK K) | (refine W_seqR fun K hK => ?_; (try (refine sQc ?_; try exact True.intro)); (repeat refine aI ?_); refine hK _ ?_; clear hK K) | (refine W_seqD mixed [] (by kernel_rfl) fun K hK => ?_; (try (refine sQc ?_; try exact True.intro)); (repeat refine aI ?_); refine hK _ ?_; clear hK K) | (refine W_regV fun K hK => ?_; (try (refine sQc ?_; try exact True.intro)); (repeat refine aI ?_); refine hK _ ?_; clear hK K) | (refine W_regR fun K hK => ?_; (try (refine sQc ?_; try exact True.intro)); (repeat refine aI ?_); refine hK _ ?_; clear hK K) | (refine W_regD mixed [] (by kernel_rfl) fun K hK => ?_; (try (refine sQc ?_; try exact True.intro)); (repeat refine aI ?_); refine hK _ ?_; clear hK K) | refine W_skip ?_ | (refine W_ret ?_; (refine qG ?_; try exact True.intro)) | (refine W_exit ?_; simp only [thenW, blockW, if_true, reduceCtorEq, if_false, Nat.reduceEqDiff]) | (refine W_cond rfl (fun h => ?_) (fun h => ?_) <;> (try simp only [cond_true, cond_false, ne_eq, cB] at h)) | refine W_seq ?_))
        ((first | refine W_seqV ?_ | refine W_seq (W_seqV ?_) | refine W_regV ?_); intro K hK; (refine sQc ?_; try exact True.intro))
        ((repeat refine aI ?_); refine ⟨by kernel_rfl, rfl, _, hc, ?_⟩; (try (refine sQc ?_; try exact True.intro)); (repeat refine aI ?_))
        rw [hcb]
        ((repeat refine aI ?_); refine hK _ ?_; clear hK K)
        (repeat' (first | (exfalso; simp at h; done) | refine W_block ?_ | (refine W_seqV fun K hK => ?_; (try (refine sQc ?_; try exact True.intro)); (repeat refine aI ?_); refine hK _ ?_; clear hK K) | (refine W_seqR fun K hK => ?_; (try (refine sQc ?_; try exact True.intro)); (repeat refine aI ?_); refine hK _ ?_; clear hK K) | (refine W_seqD mixed [] (by kernel_rfl) fun K hK => ?_; (try (refine sQc ?_; try exact True.intro)); (repeat refine aI ?_); refine hK _ ?_; clear hK K) | (refine W_regV fun K hK => ?_; (try (refine sQc ?_; try exact True.intro)); (repeat refine aI ?_); refine hK _ ?_; clear hK K) | (refine W_regR fun K hK => ?_; (try (refine sQc ?_; try exact True.intro)); (repeat refine aI ?_); refine hK _ ?_; clear hK K) | (refine W_regD mixed [] (by kernel_rfl) fun K hK => ?_; (try (refine sQc ?_; try exact True.intro)); (repeat refine aI ?_); refine hK _ ?_; clear hK K) | refine W_skip ?_ | (refine W_ret ?_; (refine qG ?_; try exact True.intro)) | (refine W_exit ?_; simp only [thenW, blockW, if_true, reduceCtorEq, if_false, Nat.reduceEqDiff]) | (refine W_cond rfl (fun h => ?_) (fun h => ?_) <;> (try simp only [cond_true, cond_false, ne_eq, cB] at h)) | refine W_seq ?_))
        (try (refine sQcV ?_; try exact True.intro))
        simp [h0]
      · (refine pureW Tryz.func87 rfl (rs := [Go.ResultVar.tmp 4]) rfl (n := 58) rfl ?_; simp only [List.length_cons, List.length_nil, List.replicate, List.cons_append, List.nil_append])
        (repeat' (first | (exfalso; simp at h; done) | refine W_block ?_ | (refine W_seqV fun K hK => ?_; (try (refine sQc ?_; try exact True.intro)); (repeat refine aI ?_); refine hK _ ?_; clear hK K) | (refine W_seqR fun K hK => ?_; (try (refine sQc ?_; try exact True.intro)); (repeat refine aI ?_); refine hK _ ?_; clear hK K) | (refine W_seqD mixed [] (by kernel_rfl) fun K hK => ?_; (try (refine sQc ?_; try exact True.intro)); (repeat refine aI ?_); refine hK _ ?_; clear hK K) | (refine W_regV fun K hK => ?_; (try (refine sQc ?_; try exact True.intro)); (repeat refine aI ?_); refine hK _ ?_; clear hK K) | (refine W_regR fun K hK => ?_; (try (refine sQc ?_; try exact True.intro)); (repeat refine aI ?_); refine hK _ ?_; clear hK K) | (refine W_regD mixed [] (by kernel_rfl) fun K hK => ?_; (try (refine sQc ?_; try exact True.intro)); (repeat refine aI ?_); refine hK _ ?_; clear hK K) | refine W_skip ?_ | (refine W_ret ?_; (refine qG ?_; try exact True.intro)) | (refine W_exit ?_; simp only [thenW, blockW, if_true, reduceCtorEq, if_false, Nat.reduceEqDiff]) | (refine W_cond rfl (fun h => ?_) (fun h => ?_) <;> (try simp only [cond_true, cond_false, ne_eq, cB] at h)) | refine W_seq ?_))
        (try (refine sQcV ?_; try exact True.intro))
        simp
  all_goals
    (refine pureW Tryz.func87 rfl (rs := [Go.ResultVar.tmp 4]) rfl (n := 58) rfl ?_; simp only [List.length_cons, List.length_nil, List.replicate, List.cons_append, List.nil_append])
    (repeat' (first | (exfalso; simp at h; done) | refine W_block ?_ | (refine W_seqV fun K hK => ?_; (try (refine sQc ?_; try exact True.intro)); (repeat refine aI ?_); refine hK _ ?_; clear hK K) | (refine W_seqR fun K hK => ?_; (try (refine sQc ?_; try exact True.intro)); (repeat refine aI ?_); refine hK _ ?_; clear hK K) | (refine W_seqD mixed [] (by kernel_rfl) fun K hK => ?_; (try (refine sQc ?_; try exact True.intro)); (repeat refine aI ?_); refine hK _ ?_; clear hK K) | (refine W_regV fun K hK => ?_; (try (refine sQc ?_; try exact True.intro)); (repeat refine aI ?_); refine hK _ ?_; clear hK K) | (refine W_regR fun K hK => ?_; (try (refine sQc ?_; try exact True.intro)); (repeat refine aI ?_); refine hK _ ?_; clear hK K) | (refine W_regD mixed [] (by kernel_rfl) fun K hK => ?_; (try (refine sQc ?_; try exact True.intro)); (repeat refine aI ?_); refine hK _ ?_; clear hK K) | refine W_skip ?_ | (refine W_ret ?_; (refine qG ?_; try exact True.intro)) | (refine W_exit ?_; simp only [thenW, blockW, if_true, reduceCtorEq, if_false, Nat.reduceEqDiff]) | (refine W_cond rfl (fun h => ?_) (fun h => ?_) <;> (try simp only [cond_true, cond_false, ne_eq, cB] at h)) | refine W_seq ?_))
  all_goals (try (refine sQcV ?_; try exact True.intro))
  all_goals simp
end Go.Proofs.YtjkjapjcmbfkgaaGreat.Vm

/-
  The reference's clauses of two atoms: between, Relate.
-/
namespace Go.Proofs.YtjkjapjcmbfkgaaGreat.Vm
open Go Go.RowKit
set_option maxRecDepth 100000
set_option linter.unusedVariables false
set_option linter.unusedSimpArgs false
theorem sQd {G G' : Prop} (h : G') (e : G = G' := by conv => lhs; simp (disch := omega) only [rowsOf, cNat, cN, St.ret, St.seth, Eff.app, Eff.wi, sepL, guardOf, St.known, objOf, List.set, sliceW, litW, copyW, lenOf, bnd, mxOk, ofCells, TI.isAgg, cellsOf, storable, AV.one, dead, laid, overlay, reduceCtorEq, Int.reduceLE, Int.reduceLT, Int.reduceSub, Int.reduceAdd, Nat.reduceMul, Int.reduceToNat, Nat.reducePow, Int.reduceNeg, Nat.reduceAdd, Nat.reduceLT, Nat.reduceLeDiff, sA, sB, cQ, rowQ, i64s_length, i64s_all, i64s_one, i64s_pure, tab_length, List.take_length, List.length_append, tab_drop, tab_take, tab_append, tab_nil, rowC_all, rowC_one, rowC_pure, rowQ_all, rowQ_one, rowQ_pure, sT]) : G := e.mpr h
theorem sQdX {G G' P : Prop} (p : P) (h : G') (e : P → G = G' := by intro p; conv => lhs; simp (disch := omega) only [rowsOf, cNat, cN, St.ret, St.seth, Eff.app, Eff.wi, sepL, guardOf, St.known, objOf, List.set, sliceW, litW, copyW, lenOf, bnd, mxOk, ofCells, TI.isAgg, cellsOf, storable, AV.one, dead, laid, overlay, reduceCtorEq, Int.reduceLE, Int.reduceLT, Int.reduceSub, Int.reduceAdd, Nat.reduceMul, Int.reduceToNat, Nat.reducePow, Int.reduceNeg, Nat.reduceAdd, Nat.reduceLT, Nat.reduceLeDiff, sA, sB, cQ, rowQ, i64s_length, i64s_all, i64s_one, i64s_pure, tab_length, List.take_length, List.length_append, tab_drop, tab_take, tab_append, tab_nil, rowC_all, rowC_one, rowC_pure, rowQ_all, rowQ_one, rowQ_pure, sT, p]) : G := (e p).mpr h
theorem sQdV {G G' : Prop} (h : G') (e : G = G' := by conv => lhs; simp (disch := omega) only [rowsOf, cNat, cN, St.ret, St.seth, Eff.app, Eff.wi, sepL, guardOf, St.known, objOf, List.set, sliceW, litW, copyW, lenOf, bnd, mxOk, ofCells, TI.isAgg, cellsOf, storable, AV.one, dead, laid, overlay, reduceCtorEq, Int.reduceLE, Int.reduceLT, Int.reduceSub, Int.reduceAdd, Nat.reduceMul, Int.reduceToNat, Nat.reducePow, Int.reduceNeg, Nat.reduceAdd, Nat.reduceLT, Nat.reduceLeDiff, sA, sB, cQ, rowQ, i64s_length, i64s_all, i64s_one, i64s_pure, tab_length, List.take_length, List.length_append, tab_drop, tab_take, tab_append, tab_nil, rowC_all, rowC_one, rowC_pure, rowQ_all, rowQ_one, rowQ_pure, sT, view_sref, viewRef, view_agg, views_cons, views_nil, view_bool, view_int, view_sl, view_nils, view_str, view_tup, view_nilif]) : G := e.mpr h
theorem aQd {G G' : Prop} (h : G') (f : Wr G' → G := by intro h; (repeat (first | (refine W_seqV fun K hK => ?_; (try (refine sQd ?_; try exact True.intro)); (repeat refine aI ?_); refine hK _ ?_; clear hK K) | (refine W_seqR fun K hK => ?_; (try (refine sQd ?_; try exact True.intro)); (repeat refine aI ?_); refine hK _ ?_; clear hK K) | (refine W_seqD mixed [] (by kernel_rfl) fun K hK => ?_; (try (refine sQd ?_; try exact True.intro)); (repeat refine aI ?_); refine hK _ ?_; clear hK K))); exact h.out) : G := f ⟨h⟩

theorem saysR_ok {a : At} (ha : AtOk a) : RHok (saysR a) := by
  obtain ⟨hs, hnc⟩ := says_facts ha
  have hNF := NF.norm (vals a.form)
  have hnb := ha.nb
  have hb2 : ∀ s, nb (stB s) ≤ 2 := nb_stB
  have hz : nb2 zeroD.v ≤ 268435456 := by
    have : zeroD.v = (0, 0) := by simp only [zeroD, DD.v, zeroR_v]
    rw [this, nb2]; simp [nb_zero]
  have he : Sz [] 268435456 := ⟨fun v => by simp [nbv], by simp⟩
  unfold saysR
  split
  · exact ⟨he, ⟨zeroR_ok, zeroR_ok⟩, hz, .inr (.inr (.inl rfl))⟩
  · split
    · split
      · exact ⟨he, ⟨zeroR_ok, zeroR_ok⟩, hz, .inr (.inl rfl)⟩
      · exact ⟨he, ⟨zeroR_ok, zeroR_ok⟩, hz, .inl rfl⟩
    · rename_i p l hl
      rw [hl] at hs hnc hNF
      have hm : nb ((primeC (p :: l))⁻¹ * a.bound.v) ≤ 134217730 := by
        have := nb_mul (primeC (p :: l))⁻¹ a.bound.v
        rw [nb_inv] at this
        omega
      have hsz : Sz (primeF (p :: l)) 268435456 := by
        have h1 := Sz.scale hNF hs (primeC (p :: l))⁻¹
        rw [nb_inv] at h1
        exact h1.mono (by omega)
      have hq : ∀ b : Rat, nb b ≤ 2 → (dq ((primeC (p :: l))⁻¹ * a.bound.v, b)).ok ∧ nb2 (dq ((primeC (p :: l))⁻¹ * a.bound.v, b)).v ≤ 268435456 := fun b hb => by
        have h2 : nb2 ((primeC (p :: l))⁻¹ * a.bound.v, b) ≤ 134217730 := nb2_le hm (by dsimp only; omega)
        exact ⟨dq_ok (by omega), by rw [dq_v]; omega⟩
      split
      · exact ⟨hsz, (hq _ (hb2 _)).1, (hq _ (hb2 _)).2, .inr (.inr (.inr rfl))⟩
      · exact ⟨hsz, (hq _ (by rw [nb_neg]; exact hb2 _)).1, (hq _ (by rw [nb_neg]; exact hb2 _)).2, .inr (.inr (.inr rfl))⟩
/-- What is kept by the opposite of a half that an atom says. -/
theorem oppR_ok {h : RH} (hh : RHok h) (hb : nb h.at_.b.v ≤ 2) : RHok (oppR h) := by
  unfold oppR
  split
  · rename_i hk
    exact ⟨hh.shape, hh.at_, hh.nb, by dsimp only; omega⟩
  · split
    · exact ⟨hh.shape, hh.at_, hh.nb, by dsimp only; omega⟩
    · have h1 : nb (if h.upper = true then h.at_.b.v + 1 else h.at_.b.v - 1) ≤ 4 := by
        have e1 := nb_add h.at_.b.v 1
        have e2 := nb_sub h.at_.b.v 1
        rw [nb_one] at e1 e2
        split <;> omega
      refine ⟨hh.shape, ⟨hh.at_.1, qr_ok (by omega)⟩, ?_, by dsimp only; omega⟩
      refine nb2_le (Nat.le_trans (nb2_1 h.at_.v) hh.nb) ?_
      show nb (qr _).v ≤ _
      rw [qr_v]
      omega
theorem saysR_b {a : At} : nb (saysR a).at_.b.v ≤ 2 := by
  have hz : nb zeroR.v ≤ 2 := by rw [zeroR_v, nb_zero]; omega
  unfold saysR
  split
  · exact hz
  · split
    · split <;> exact hz
    · split
      · show nb (qr _).v ≤ _; rw [qr_v]; exact nb_stB _
      · show nb (qr _).v ≤ _; rw [qr_v, nb_neg]; exact nb_stB _

/-- The clauses of two atoms, the first n of four. -/
def relR (a b : At) (i k : Int) (n : Nat) : List (List Int) :=
  (if apartR (oppR (saysR a)) (oppR (saysR b)) = true ∧ 0 < n then [[i, k]] else []) ++ (if apartR (oppR (saysR a)) (saysR b) = true ∧ 1 < n then [[i, -k]] else []) ++
  (if apartR (saysR a) (oppR (saysR b)) = true ∧ 2 < n then [[-i, k]] else []) ++ (if apartR (saysR a) (saysR b) = true ∧ 3 < n then [[-i, -k]] else [])
theorem relR_succ (a b : At) (i k : Int) : relR a b i k 0 = [] ∧ (relR a b i k 1 = relR a b i k 0 ++ if apartR (oppR (saysR a)) (oppR (saysR b)) = true then [[i, k]] else []) ∧
    (relR a b i k 2 = relR a b i k 1 ++ if apartR (oppR (saysR a)) (saysR b) = true then [[i, -k]] else []) ∧
    (relR a b i k 3 = relR a b i k 2 ++ if apartR (saysR a) (oppR (saysR b)) = true then [[-i, k]] else []) ∧
    (relR a b i k 4 = relR a b i k 3 ++ if apartR (saysR a) (saysR b) = true then [[-i, -k]] else []) := by
  unfold relR
  simp
theorem relR_len (a b : At) (i k : Int) (n : Nat) : (relR a b i k n).length ≤ 4 := by
  have h : ∀ (c : Prop) [Decidable c] (x : List Int), (if c then [x] else []).length ≤ 1 := fun c _ x => by split <;> simp
  have h1 := h (apartR (oppR (saysR a)) (oppR (saysR b)) = true ∧ 0 < n) [i, k]
  have h2 := h (apartR (oppR (saysR a)) (saysR b) = true ∧ 1 < n) [i, -k]
  have h3 := h (apartR (saysR a) (oppR (saysR b)) = true ∧ 2 < n) [-i, k]
  have h4 := h (apartR (saysR a) (saysR b) = true ∧ 3 < n) [-i, -k]
  unfold relR
  simp only [List.length_append]
  omega
set_option maxHeartbeats 4000000 in
theorem f10between_ok (a b : At) (i k : Int) (ha : AtOk a) (hb : AtOk b) (hi : 0 ≤ i ∧ i < 4611686018427387904) (hk : 0 ≤ k ∧ k < 4611686018427387904) :
    Pure Tryz.prog 49 [.agg a.cells, .agg b.cells, .int .i64 i, .int .i64 k] (· = .sl (tab rowC (relR a b i k 4))) := by
  have hsa := f10says_ok a ha
  have hsb := f10says_ok b hb
  have oa := f10opp_ok _ (saysR_ok ha)
  have ob := f10opp_ok _ (saysR_ok hb)
  have ra := saysR_ok ha
  have rb := saysR_ok hb
  have na := oppR_ok ra saysR_b
  have nbb := oppR_ok rb saysR_b
  have a1 := f10apart_ok _ _ na nbb
  have a2 := f10apart_ok _ _ na rb
  have a3 := f10apart_ok _ _ ra nbb
  have a4 := f10apart_ok _ _ ra rb
  obtain ⟨R0, R1, R2, R3, R4⟩ := relR_succ a b i k
  have hle := relR_len a b i k
  clear ra rb na nbb ha hb
  have wi : IntKind.i64.wrap (0 - i) = -i := by rw [wrap_i64 (by omega) (by omega)]; omega
  have wk : IntKind.i64.wrap (0 - k) = -k := by rw [wrap_i64 (by omega) (by omega)]; omega
  generalize relR a b i k = R at *
  generalize apartR (oppR (saysR a)) (oppR (saysR b)) = p1 at *
  generalize apartR (oppR (saysR a)) (saysR b) = p2 at *
  generalize apartR (saysR a) (oppR (saysR b)) = p3 at *
  generalize apartR (saysR a) (saysR b) = p4 at *
  generalize oppR (saysR a) = nx at *
  generalize oppR (saysR b) = ny at *
  generalize saysR a = x at *
  generalize saysR b = y at *
  obtain ⟨an, af, ⟨abn, abm, abd⟩, ast⟩ := a
  obtain ⟨bn, bf, ⟨bbn, bbm, bbd⟩, bst⟩ := b
  obtain ⟨k1, n1, s1, u1, ⟨⟨b1, x1, y1⟩, ⟨c1, z1, w1⟩⟩⟩ := x
  obtain ⟨k2, n2, s2, u2, ⟨⟨b2, x2, y2⟩, ⟨c2, z2, w2⟩⟩⟩ := y
  obtain ⟨k3, n3, s3, u3, ⟨⟨b3, x3, y3⟩, ⟨c3, z3, w3⟩⟩⟩ := nx
  obtain ⟨k4, n4, s4, u4, ⟨⟨b4, x4, y4⟩, ⟨c4, z4, w4⟩⟩⟩ := ny
  unfold RH.cells At.cells at *
  dsimp only at *
  (refine pureW Tryz.func49 rfl (rs := [Go.ResultVar.tmp 8]) rfl (n := 63) rfl ?_; simp only [List.length_cons, List.length_nil, List.replicate, List.cons_append, List.nil_append])
  (refine aQd ?_)
  ((first | refine W_seqV ?_ | refine W_seq (W_seqV ?_) | refine W_regV ?_); intro K hK; (refine sQd ?_; try exact True.intro))
  ((repeat refine aI ?_); refine ⟨by kernel_rfl, rfl, _, hsa, ?_⟩; (try (refine sQd ?_; try exact True.intro)); (repeat refine aI ?_))
  ((repeat refine aI ?_); refine hK _ ?_; clear hK K)
  ((first | refine W_seqV ?_ | refine W_seq (W_seqV ?_) | refine W_regV ?_); intro K hK; (refine sQd ?_; try exact True.intro))
  ((repeat refine aI ?_); refine ⟨by kernel_rfl, rfl, _, hsb, ?_⟩; (try (refine sQd ?_; try exact True.intro)); (repeat refine aI ?_))
  ((repeat refine aI ?_); refine hK _ ?_; clear hK K)
  ((first | refine W_seqV ?_ | refine W_seq (W_seqV ?_) | refine W_regV ?_); intro K hK; (refine sQd ?_; try exact True.intro))
  ((repeat refine aI ?_); refine ⟨by kernel_rfl, rfl, _, oa, ?_⟩; (try (refine sQd ?_; try exact True.intro)); (repeat refine aI ?_))
  ((repeat refine aI ?_); refine hK _ ?_; clear hK K)
  ((first | refine W_seqV ?_ | refine W_seq (W_seqV ?_) | refine W_regV ?_); intro K hK; (refine sQd ?_; try exact True.intro))
  ((repeat refine aI ?_); refine ⟨by kernel_rfl, rfl, _, ob, ?_⟩; (try (refine sQd ?_; try exact True.intro)); (repeat refine aI ?_))
  ((repeat refine aI ?_); refine hK _ ?_; clear hK K)
  (refine aQd ?_)
  refine W.le ?_ (Le_nil 13 13 91 1 true rfl rfl)
  simp only [List.set]
  refine W_join (fun s' => Le [] s' ⟨(.any :: .any :: (.int .i64 i) :: (.int .i64 k) :: .any :: .any :: .any :: .any :: .any :: (.ptr 9 0 0) :: (.ptr 10 0 0) :: (.ptr 11 0 0) :: (.ptr 12 0 0) :: (.sref 13 0 (R 1).length) :: .any :: .any :: .any :: .any :: .any :: .any :: .any :: .any :: .any :: .any :: .any :: .any :: .any :: .any :: .any :: .any :: .any :: .any :: .any :: .any :: .any :: .any :: .any :: .any :: .any :: .any :: .any :: .any :: .any :: .any :: .any :: .any :: .any :: .any :: .any :: .any :: .any :: .any :: .any :: .any :: .any :: .any :: .any :: .any :: .any :: .any :: .any :: .any :: .any :: []), (.dead :: .dead :: .dead :: .dead :: .dead :: .dead :: .dead :: .dead :: .dead :: (.arr 127 10 false [[.int .i64 k1, .str n1, .sl (tab rowQ s1), .bool u1, .bool b1, .sl (u32s x1), .sl (u32s y1), .bool c1, .sl (u32s z1), .sl (u32s w1)]]) :: (.arr 127 10 false [[.int .i64 k2, .str n2, .sl (tab rowQ s2), .bool u2, .bool b2, .sl (u32s x2), .sl (u32s y2), .bool c2, .sl (u32s z2), .sl (u32s w2)]]) :: (.arr 127 10 false [[.int .i64 k3, .str n3, .sl (tab rowQ s3), .bool u3, .bool b3, .sl (u32s x3), .sl (u32s y3), .bool c3, .sl (u32s z3), .sl (u32s w3)]]) :: (.arr 127 10 false [[.int .i64 k4, .str n4, .sl (tab rowQ s4), .bool u4, .bool b4, .sl (u32s x4), .sl (u32s y4), .bool c4, .sl (u32s z4), .sl (u32s w4)]]) :: (.arr 91 1 true (tab rowC (R 1))) :: .dead :: .dead :: .dead :: .dead :: .dead :: .dead :: .dead :: .dead :: .dead :: .dead :: .dead :: .dead :: .dead :: .dead :: .dead :: .dead :: .dead :: .dead :: .dead :: .dead :: .dead :: .dead :: .dead :: .dead :: .dead :: .dead :: .dead :: .dead :: .dead :: .dead :: .dead :: .dead :: .dead :: .dead :: .dead :: .dead :: .dead :: .dead :: .dead :: .dead :: .dead :: .dead :: .dead :: .dead :: .dead :: .dead :: .dead :: .dead :: .dead :: [])⟩) ?_ ?_
  · refine W_seq ?_
    have hlm := hle 0
    ((first | refine W_seqV ?_ | refine W_seq (W_seqV ?_) | refine W_regV ?_); intro K hK; (refine sQd ?_; try exact True.intro))
    ((repeat refine aI ?_); refine ⟨by kernel_rfl, rfl, _, a1, ?_⟩; (try (refine sQd ?_; try exact True.intro)); (repeat refine aI ?_))
    ((repeat refine aI ?_); refine hK _ ?_; clear hK K)
    cases p1
    · simp only [Bool.false_eq_true, if_false, List.append_nil] at R1
      (first | refine W_cond rfl (fun h => by cases h) (fun _ => ?_) | refine W_seq (W_cond rfl (fun h => by cases h) (fun _ => ?_)))
      refine W_skip ?_
      simp only [thenW]
      exact Le_drop (by simp [leE, R1, R0]) (by simp [leH, R1, tab, R0]) rfl rfl
    · simp only [if_true] at R1
      have hl5 := congrArg List.length R1
      simp only [List.length_append, List.length_cons, List.length_nil] at hl5
      (first | refine W_cond rfl (fun _ => ?_) (fun h => by cases h) | refine W_seq (W_cond rfl (fun _ => ?_) (fun h => by cases h)))
      ((first | refine W_seqT 5 fun K hK => ?_ | (refine W_seq ?_; refine W_seqT 5 fun K hK => ?_) | refine W_regT 5 fun K hK => ?_); (refine sQd ?_; try exact True.intro))
      ((repeat refine aI ?_); refine hK _ ?_; clear hK K)
      simp only [thenW]
      exact Le_drop (by simp [leE, hl5, R0]) (by simp [leH, R1, ← tab_snoc, rowC, i64s, tab_take, List.take_length, R0, tab]) rfl rfl
  intro s' hle1
  refine W.le ?_ hle1
  clear hle1 s'
  refine W_join (fun s' => Le [] s' ⟨(.any :: .any :: (.int .i64 i) :: (.int .i64 k) :: .any :: .any :: .any :: .any :: .any :: (.ptr 9 0 0) :: (.ptr 10 0 0) :: (.ptr 11 0 0) :: (.ptr 12 0 0) :: (.sref 13 0 (R 2).length) :: .any :: .any :: .any :: .any :: .any :: .any :: .any :: .any :: .any :: .any :: .any :: .any :: .any :: .any :: .any :: .any :: .any :: .any :: .any :: .any :: .any :: .any :: .any :: .any :: .any :: .any :: .any :: .any :: .any :: .any :: .any :: .any :: .any :: .any :: .any :: .any :: .any :: .any :: .any :: .any :: .any :: .any :: .any :: .any :: .any :: .any :: .any :: .any :: .any :: []), (.dead :: .dead :: .dead :: .dead :: .dead :: .dead :: .dead :: .dead :: .dead :: (.arr 127 10 false [[.int .i64 k1, .str n1, .sl (tab rowQ s1), .bool u1, .bool b1, .sl (u32s x1), .sl (u32s y1), .bool c1, .sl (u32s z1), .sl (u32s w1)]]) :: (.arr 127 10 false [[.int .i64 k2, .str n2, .sl (tab rowQ s2), .bool u2, .bool b2, .sl (u32s x2), .sl (u32s y2), .bool c2, .sl (u32s z2), .sl (u32s w2)]]) :: (.arr 127 10 false [[.int .i64 k3, .str n3, .sl (tab rowQ s3), .bool u3, .bool b3, .sl (u32s x3), .sl (u32s y3), .bool c3, .sl (u32s z3), .sl (u32s w3)]]) :: (.arr 127 10 false [[.int .i64 k4, .str n4, .sl (tab rowQ s4), .bool u4, .bool b4, .sl (u32s x4), .sl (u32s y4), .bool c4, .sl (u32s z4), .sl (u32s w4)]]) :: (.arr 91 1 true (tab rowC (R 2))) :: .dead :: .dead :: .dead :: .dead :: .dead :: .dead :: .dead :: .dead :: .dead :: .dead :: .dead :: .dead :: .dead :: .dead :: .dead :: .dead :: .dead :: .dead :: .dead :: .dead :: .dead :: .dead :: .dead :: .dead :: .dead :: .dead :: .dead :: .dead :: .dead :: .dead :: .dead :: .dead :: .dead :: .dead :: .dead :: .dead :: .dead :: .dead :: .dead :: .dead :: .dead :: .dead :: .dead :: .dead :: .dead :: .dead :: .dead :: .dead :: .dead :: [])⟩) ?_ ?_
  · refine W_seq ?_
    have hlm := hle 1
    ((first | refine W_seqV ?_ | refine W_seq (W_seqV ?_) | refine W_regV ?_); intro K hK; (refine sQd ?_; try exact True.intro))
    ((repeat refine aI ?_); refine ⟨by kernel_rfl, rfl, _, a2, ?_⟩; (try (refine sQd ?_; try exact True.intro)); (repeat refine aI ?_))
    ((repeat refine aI ?_); refine hK _ ?_; clear hK K)
    cases p2
    · simp only [Bool.false_eq_true, if_false, List.append_nil] at R2
      (first | refine W_cond rfl (fun h => by cases h) (fun _ => ?_) | refine W_seq (W_cond rfl (fun h => by cases h) (fun _ => ?_)))
      refine W_skip ?_
      simp only [thenW]
      exact Le_drop (by simp [leE, R2]) (by simp [leH, R2, tab]) rfl rfl
    · simp only [if_true] at R2
      have hl5 := congrArg List.length R2
      simp only [List.length_append, List.length_cons, List.length_nil] at hl5
      (first | refine W_cond rfl (fun _ => ?_) (fun h => by cases h) | refine W_seq (W_cond rfl (fun _ => ?_) (fun h => by cases h)))
      ((first | refine W_seqT 6 fun K hK => ?_ | (refine W_seq ?_; refine W_seqT 6 fun K hK => ?_) | refine W_regT 6 fun K hK => ?_); (refine sQdX wk ?_; try exact True.intro))
      ((repeat refine aI ?_); refine hK _ ?_; clear hK K)
      simp only [thenW]
      exact Le_drop (by simp [leE, hl5]) (by simp [leH, R2, ← tab_snoc, rowC, i64s, tab_take, List.take_length]) rfl rfl
  intro s' hle2
  refine W.le ?_ hle2
  clear hle2 s'
  refine W_join (fun s' => Le [] s' ⟨(.any :: .any :: (.int .i64 i) :: (.int .i64 k) :: .any :: .any :: .any :: .any :: .any :: (.ptr 9 0 0) :: (.ptr 10 0 0) :: (.ptr 11 0 0) :: (.ptr 12 0 0) :: (.sref 13 0 (R 3).length) :: .any :: .any :: .any :: .any :: .any :: .any :: .any :: .any :: .any :: .any :: .any :: .any :: .any :: .any :: .any :: .any :: .any :: .any :: .any :: .any :: .any :: .any :: .any :: .any :: .any :: .any :: .any :: .any :: .any :: .any :: .any :: .any :: .any :: .any :: .any :: .any :: .any :: .any :: .any :: .any :: .any :: .any :: .any :: .any :: .any :: .any :: .any :: .any :: .any :: []), (.dead :: .dead :: .dead :: .dead :: .dead :: .dead :: .dead :: .dead :: .dead :: (.arr 127 10 false [[.int .i64 k1, .str n1, .sl (tab rowQ s1), .bool u1, .bool b1, .sl (u32s x1), .sl (u32s y1), .bool c1, .sl (u32s z1), .sl (u32s w1)]]) :: (.arr 127 10 false [[.int .i64 k2, .str n2, .sl (tab rowQ s2), .bool u2, .bool b2, .sl (u32s x2), .sl (u32s y2), .bool c2, .sl (u32s z2), .sl (u32s w2)]]) :: (.arr 127 10 false [[.int .i64 k3, .str n3, .sl (tab rowQ s3), .bool u3, .bool b3, .sl (u32s x3), .sl (u32s y3), .bool c3, .sl (u32s z3), .sl (u32s w3)]]) :: (.arr 127 10 false [[.int .i64 k4, .str n4, .sl (tab rowQ s4), .bool u4, .bool b4, .sl (u32s x4), .sl (u32s y4), .bool c4, .sl (u32s z4), .sl (u32s w4)]]) :: (.arr 91 1 true (tab rowC (R 3))) :: .dead :: .dead :: .dead :: .dead :: .dead :: .dead :: .dead :: .dead :: .dead :: .dead :: .dead :: .dead :: .dead :: .dead :: .dead :: .dead :: .dead :: .dead :: .dead :: .dead :: .dead :: .dead :: .dead :: .dead :: .dead :: .dead :: .dead :: .dead :: .dead :: .dead :: .dead :: .dead :: .dead :: .dead :: .dead :: .dead :: .dead :: .dead :: .dead :: .dead :: .dead :: .dead :: .dead :: .dead :: .dead :: .dead :: .dead :: .dead :: .dead :: [])⟩) ?_ ?_
  · refine W_seq ?_
    have hlm := hle 2
    ((first | refine W_seqV ?_ | refine W_seq (W_seqV ?_) | refine W_regV ?_); intro K hK; (refine sQd ?_; try exact True.intro))
    ((repeat refine aI ?_); refine ⟨by kernel_rfl, rfl, _, a3, ?_⟩; (try (refine sQd ?_; try exact True.intro)); (repeat refine aI ?_))
    ((repeat refine aI ?_); refine hK _ ?_; clear hK K)
    cases p3
    · simp only [Bool.false_eq_true, if_false, List.append_nil] at R3
      (first | refine W_cond rfl (fun h => by cases h) (fun _ => ?_) | refine W_seq (W_cond rfl (fun h => by cases h) (fun _ => ?_)))
      refine W_skip ?_
      simp only [thenW]
      exact Le_drop (by simp [leE, R3]) (by simp [leH, R3, tab]) rfl rfl
    · simp only [if_true] at R3
      have hl5 := congrArg List.length R3
      simp only [List.length_append, List.length_cons, List.length_nil] at hl5
      (first | refine W_cond rfl (fun _ => ?_) (fun h => by cases h) | refine W_seq (W_cond rfl (fun _ => ?_) (fun h => by cases h)))
      ((first | refine W_seqT 6 fun K hK => ?_ | (refine W_seq ?_; refine W_seqT 6 fun K hK => ?_) | refine W_regT 6 fun K hK => ?_); (refine sQdX wi ?_; try exact True.intro))
      ((repeat refine aI ?_); refine hK _ ?_; clear hK K)
      simp only [thenW]
      exact Le_drop (by simp [leE, hl5]) (by simp [leH, R3, ← tab_snoc, rowC, i64s, tab_take, List.take_length]) rfl rfl
  intro s' hle3
  refine W.le ?_ hle3
  clear hle3 s'
  refine W_join (fun s' => Le [] s' ⟨(.any :: .any :: (.int .i64 i) :: (.int .i64 k) :: .any :: .any :: .any :: .any :: .any :: (.ptr 9 0 0) :: (.ptr 10 0 0) :: (.ptr 11 0 0) :: (.ptr 12 0 0) :: (.sref 13 0 (R 4).length) :: .any :: .any :: .any :: .any :: .any :: .any :: .any :: .any :: .any :: .any :: .any :: .any :: .any :: .any :: .any :: .any :: .any :: .any :: .any :: .any :: .any :: .any :: .any :: .any :: .any :: .any :: .any :: .any :: .any :: .any :: .any :: .any :: .any :: .any :: .any :: .any :: .any :: .any :: .any :: .any :: .any :: .any :: .any :: .any :: .any :: .any :: .any :: .any :: .any :: []), (.dead :: .dead :: .dead :: .dead :: .dead :: .dead :: .dead :: .dead :: .dead :: (.arr 127 10 false [[.int .i64 k1, .str n1, .sl (tab rowQ s1), .bool u1, .bool b1, .sl (u32s x1), .sl (u32s y1), .bool c1, .sl (u32s z1), .sl (u32s w1)]]) :: (.arr 127 10 false [[.int .i64 k2, .str n2, .sl (tab rowQ s2), .bool u2, .bool b2, .sl (u32s x2), .sl (u32s y2), .bool c2, .sl (u32s z2), .sl (u32s w2)]]) :: (.arr 127 10 false [[.int .i64 k3, .str n3, .sl (tab rowQ s3), .bool u3, .bool b3, .sl (u32s x3), .sl (u32s y3), .bool c3, .sl (u32s z3), .sl (u32s w3)]]) :: (.arr 127 10 false [[.int .i64 k4, .str n4, .sl (tab rowQ s4), .bool u4, .bool b4, .sl (u32s x4), .sl (u32s y4), .bool c4, .sl (u32s z4), .sl (u32s w4)]]) :: (.arr 91 1 true (tab rowC (R 4))) :: .dead :: .dead :: .dead :: .dead :: .dead :: .dead :: .dead :: .dead :: .dead :: .dead :: .dead :: .dead :: .dead :: .dead :: .dead :: .dead :: .dead :: .dead :: .dead :: .dead :: .dead :: .dead :: .dead :: .dead :: .dead :: .dead :: .dead :: .dead :: .dead :: .dead :: .dead :: .dead :: .dead :: .dead :: .dead :: .dead :: .dead :: .dead :: .dead :: .dead :: .dead :: .dead :: .dead :: .dead :: .dead :: .dead :: .dead :: .dead :: .dead :: [])⟩) ?_ ?_
  · refine W_seq ?_
    have hlm := hle 3
    ((first | refine W_seqV ?_ | refine W_seq (W_seqV ?_) | refine W_regV ?_); intro K hK; (refine sQd ?_; try exact True.intro))
    ((repeat refine aI ?_); refine ⟨by kernel_rfl, rfl, _, a4, ?_⟩; (try (refine sQd ?_; try exact True.intro)); (repeat refine aI ?_))
    ((repeat refine aI ?_); refine hK _ ?_; clear hK K)
    cases p4
    · simp only [Bool.false_eq_true, if_false, List.append_nil] at R4
      (first | refine W_cond rfl (fun h => by cases h) (fun _ => ?_) | refine W_seq (W_cond rfl (fun h => by cases h) (fun _ => ?_)))
      refine W_skip ?_
      simp only [thenW]
      exact Le_drop (by simp [leE, R4]) (by simp [leH, R4, tab]) rfl rfl
    · simp only [if_true] at R4
      have hl5 := congrArg List.length R4
      simp only [List.length_append, List.length_cons, List.length_nil] at hl5
      (first | refine W_cond rfl (fun _ => ?_) (fun h => by cases h) | refine W_seq (W_cond rfl (fun _ => ?_) (fun h => by cases h)))
      ((first | refine W_seqT 7 fun K hK => ?_ | (refine W_seq ?_; refine W_seqT 7 fun K hK => ?_) | refine W_regT 7 fun K hK => ?_); (refine sQdX (And.intro wi wk) ?_; try exact True.intro))
      ((repeat refine aI ?_); refine hK _ ?_; clear hK K)
      simp only [thenW]
      exact Le_drop (by simp [leE, hl5]) (by simp [leH, R4, ← tab_snoc, rowC, i64s, tab_take, List.take_length]) rfl rfl
  intro s' hle4
  refine W.le ?_ hle4
  clear hle4 s'
  ((first | refine W_seqV ?_ | refine W_seq (W_seqV ?_) | refine W_regV ?_); intro K hK; (refine sQd ?_; try exact True.intro))
  ((repeat refine aI ?_); refine hK _ ?_; clear hK K)
  refine W_ret ?_
  (refine qG ?_; try exact True.intro); try (refine sQdV ?_; try exact True.intro)
end Go.Proofs.YtjkjapjcmbfkgaaGreat.Vm

/-
  Two atoms' clauses: the program's are the reference's. The plain law.
-/
namespace Go.Proofs.YtjkjapjcmbfkgaaGreat.Vm
open Go Go.RowKit
set_option linter.unusedVariables false
set_option linter.unusedSimpArgs false

def hx (a : At) (s : Bool) : RH := if s then saysR a else oppR (saysR a)
def b2r (b : Bool) : Rat := if b then 1 else 0
/-- What a half of an atom is, in the program's words and in the reference's. -/
inductive Way (a : At) (s : Bool) : Prop where
  | n (hn : named a.name = true) (h1 : saysH a s = ⟨a.name, [], s, false, false, zeroR⟩) (h2 : hx a s = ⟨2, a.name, [], s, zeroD⟩)
  | e (t : Bool) (h1 : saysH a s = ⟨ByteArray.mk #[], [], t, false, false, zeroR⟩) (k : (hx a s).kind = if t then 1 else 0)
  | f (P : List (Int × Rat)) (d st : Bool) (v : Rat) (hP : P ≠ []) (hN : NF P) (h1 : saysH a s = ⟨ByteArray.mk #[], P, false, d, st, qr v⟩) (k : (hx a s).kind = 3) (hs : (hx a s).shape = P) (hu : (hx a s).upper = d) (hv : (hx a s).at_.v = (v, if d then -(b2r st) else b2r st))
theorem lexI_pos {a b : Int} : 0 ≤ lexI a b ↔ 0 < a ∨ (a = 0 ∧ 0 ≤ b) := by
  unfold lexI; split <;> omega
theorem rs_one : rs 1 = 1 := rfl
theorem rs_m1 : rs (-1) = -1 := rfl
theorem rs_z : rs 0 = 0 := rfl
theorem says_way (a : At) (s : Bool) : Way a s := by
  by_cases hn : named a.name = true
  · refine .n hn ?_ ?_
    · simp only [saysH, if_pos hn]
    · cases s
      · simp [hx, saysR, if_pos hn, oppR]
      · simp [hx, saysR, if_pos hn]
  · rcases hl : normF (vals a.form) with _ | ⟨p, l⟩
    · refine .e ((decide (0 < rs a.bound.v) || (rs a.bound.v == 0 && !a.strict)) == s) ?_ ?_
      · simp only [saysH, if_neg hn, hl]
      · have hT : (0 ≤ dsg (a.bound.v, stB a.strict)) ↔ (decide (0 < rs a.bound.v) || (rs a.bound.v == 0 && !a.strict)) = true := by
          unfold dsg
          rw [lexI_pos]
          cases hst : a.strict
          · simp [stB, rs_z]
          · simp [stB, rs_m1]
        simp only [hx, saysR, if_neg hn, hl]
        generalize (decide (0 < rs a.bound.v) || (rs a.bound.v == 0 && !a.strict)) = T at *
        cases T
        · have h0 : ¬ (0 ≤ dsg (a.bound.v, stB a.strict)) := fun h => by have := hT.1 h; cases this
          cases s <;> simp [if_neg h0, oppR]
        · have h0 : 0 ≤ dsg (a.bound.v, stB a.strict) := hT.2 rfl
          cases s <;> simp [if_pos h0, oppR]
    · have hNF : NF (p :: l) := by rw [← hl]; exact NF.norm _
      have hcd : (primeC (p :: l))⁻¹ * a.bound.v = a.bound.v / primeC (p :: l) := by rw [Rat.div_def, Rat.mul_comm]
      have hP : primeF (p :: l) ≠ [] := primeF_nil
      have hPN := NF.prime hNF
      have hd : ∀ b, (dq ((primeC (p :: l))⁻¹ * a.bound.v, b)).v = (a.bound.v / primeC (p :: l), b) := fun b => by rw [dq_v, hcd]
      have hs0 : ∀ b, (dq ((primeC (p :: l))⁻¹ * a.bound.v, b)).a.v = a.bound.v / primeC (p :: l) := fun b => by
        have := hd b; exact congrArg Prod.fst this
      have hs1 : ∀ b, (dq ((primeC (p :: l))⁻¹ * a.bound.v, b)).b.v = b := fun b => by
        have := hd b; exact congrArg Prod.snd this
      refine .f (primeF (p :: l)) (decide (0 < rs (primeC (p :: l))) == s) (a.strict == s) (a.bound.v / primeC (p :: l)) hP hPN ?_ ?_ ?_ ?_ ?_
      · simp only [saysH, if_neg hn, hl]
      all_goals
        simp only [hx, saysR, if_neg hn, hl]
        by_cases hc : 0 < rs (primeC (p :: l))
        · cases s <;> cases hst : a.strict <;> simp [if_pos hc, oppR, hd, hs0, hs1, stB, DD.v, qr_v, b2r, hc] <;> (try grind)
        · cases s <;> cases hst : a.strict <;> simp [if_neg hc, oppR, hd, hs0, hs1, stB, DD.v, qr_v, b2r, hc] <;> (try grind)

theorem lexI_gt {a b : Int} : 0 < lexI a b ↔ 0 < a ∨ (a = 0 ∧ 0 < b) := by
  unfold lexI; split <;> omega
theorem cmpF_nil {P : List (Int × Rat)} (hN : NF P) (hP : P ≠ []) : cmpF [] P ≠ 0 ∧ cmpF P [] ≠ 0 :=
  ⟨fun h => hP (cmpF_zero NF.nil hN h).symm, fun h => hP (cmpF_zero hN NF.nil h)⟩
theorem rs_neg' (q : Rat) : rs (-q) = -(rs q) := by simp [rs, Rat.neg_num]
theorem rs_sub_comm (a b : Rat) : rs (a - b) = -(rs (b - a)) := by rw [← rs_neg']; congr 1; grind
theorem rs_two : rs 2 = 1 := rfl
theorem b2r_gt (s u : Bool) : 0 < rs (b2r s - -b2r u) ↔ (s || u) = true := by
  cases s <;> cases u <;> simp only [b2r, Bool.false_eq_true, if_false, if_true, Bool.or_false, Bool.or_true, iff_true, iff_false]
  · rw [show (0 : Rat) - -0 = 0 by grind, rs_z]; omega
  · rw [show (0 : Rat) - -1 = 1 by grind, rs_one]; omega
  · rw [show (1 : Rat) - -0 = 1 by grind, rs_one]; omega
  · rw [show (1 : Rat) - -1 = 2 by grind, rs_two]; omega
theorem side_eq (k m : Int) (s u : Bool) (hm : 0 < m ↔ (s || u) = true) : decide (0 < lexI k m) = !(decide (k < 0) || (k == 0 && !s && !u)) := by
  have h : decide (0 < lexI k m) = decide (0 < k ∨ (k = 0 ∧ 0 < m)) := by rw [decide_eq_decide]; exact lexI_gt
  rw [h]
  rcases Int.lt_trichotomy k 0 with h0 | h0 | h0
  · have h1 : ¬ 0 < k := by omega
    have h2 : ¬ k = 0 := by omega
    simp [h0, h1, h2]
  · subst h0
    cases s <;> cases u <;> simp at hm <;> simp <;> omega
  · have h1 : ¬ k < 0 := by omega
    have h2 : ¬ k = 0 := by omega
    simp [h0, h1, h2]
theorem apart_ff {P Q : List (Int × Rat)} {d e st su : Bool} {v w : Rat} {x y : RH} (kx : x.kind = 3) (ky : y.kind = 3) (sx : x.shape = P) (sy : y.shape = Q) (ux : x.upper = d) (uy : y.upper = e)
    (vx : x.at_.v = (v, if d then -(b2r st) else b2r st)) (vy : y.at_.v = (w, if e then -(b2r su) else b2r su)) :
    apartR x y = !together ⟨ByteArray.mk #[], P, false, d, st, qr v⟩ ⟨ByteArray.mk #[], Q, false, e, su, qr w⟩ ∨ P = [] ∨ Q = [] := by
  rcases P with _ | ⟨p, P⟩
  · exact .inr (.inl rfl)
  rcases Q with _ | ⟨q, Q⟩
  · exact .inr (.inr rfl)
  refine .inl ?_
  unfold apartR together
  simp only [kx, ky, sx, sy, ux, uy, vx, vy, Half.alone, named_nil, qr_v]
  by_cases hc : cmpF (p :: P) (q :: Q) = 0
  · have hr := rs_sub_comm v w
    have hb : (cmpF (p :: P) (q :: Q) != 0) = false := by simp [hc]
    have m1 := side_eq (rs (w - v)) (rs (b2r su - -b2r st)) st su ((b2r_gt su st).trans (by rw [Bool.or_comm]))
    have m2 := side_eq (rs (v - w)) (rs (b2r st - -b2r su)) st su (b2r_gt st su)
    cases d <;> cases e
    · simp [hc, hb]
    · simp only [hc, hb, dsub, dsg]; simp
      rw [m2]; simp
    · simp only [hc, hb, dsub, dsg]; simp
      rw [m1, hr, Int.neg_neg]
      simp
    · simp [hc, hb]
  · have hb : (cmpF (p :: P) (q :: Q) != 0) = true := by simp [hc]
    cases d <;> cases e <;> simp [hc, hb]
theorem bool_eq_comm' {x y : List UInt8} : (x == y) = (y == x) := by
  rw [Bool.eq_iff_iff, beq_iff_eq, beq_iff_eq]
  exact eq_comm
theorem together_apart (a b : At) (s t : Bool) : apartR (hx a s) (hx b t) = !together (saysH a s) (saysH b t) := by
  rcases says_way a s with ⟨hn, h1, h2⟩ | ⟨τ, h1, k1⟩ | ⟨P, d, st, v, hP, hN, h1, k1, s1, u1, v1⟩ <;>
  rcases says_way b t with ⟨hn', h1', h2'⟩ | ⟨τ', h1', k1'⟩ | ⟨P', d', st', v', hP', hN', h1', k1', s1', u1', v1'⟩
  · -- both named
    rw [h1, h1', h2, h2']
    simp only [apartR, together, Half.alone, hn, hn']
    cases s <;> cases t <;> simp
  · rw [h1, h1', h2]
    simp only [apartR, together, Half.alone, hn, named_nil, k1']
    have hne : (a.name.toList == (ByteArray.mk #[]).toList) = false := by simpa [named] using hn
    cases τ' <;> simp [hne]
  · rw [h1, h1', h2]
    simp only [apartR, together, Half.alone, hn, named_nil, k1']
    have hne : (a.name.toList == (ByteArray.mk #[]).toList) = false := by simpa [named] using hn
    have hl : 0 < P'.length := List.length_pos_iff.2 hP'
    simp [hne, hl]
  · rw [h1, h1', h2']
    simp only [apartR, together, Half.alone, hn', named_nil, k1]
    have hne : ((ByteArray.mk #[]).toList == b.name.toList) = false := by rw [← bool_eq_comm']; simpa [named] using hn'
    cases τ <;> simp [hne]
  · rw [h1, h1']
    simp only [apartR, together, Half.alone, named_nil, k1, k1', cmpF_self]
    cases τ <;> cases τ' <;> simp
  · rw [h1, h1']
    have hl : 0 < P'.length := List.length_pos_iff.2 hP'
    have hc := (cmpF_nil hN' hP').1
    simp only [apartR, together, Half.alone, named_nil, k1, k1']
    cases τ <;> simp [hl, hc]
  · rw [h1, h1', h2']
    simp only [apartR, together, Half.alone, hn', named_nil, k1]
    have hne : ((ByteArray.mk #[]).toList == b.name.toList) = false := by rw [← bool_eq_comm']; simpa [named] using hn'
    have hl : 0 < P.length := List.length_pos_iff.2 hP
    simp [hne, hl]
  · rw [h1, h1']
    have hl : 0 < P.length := List.length_pos_iff.2 hP
    have hc := (cmpF_nil hN hP).2
    simp only [apartR, together, Half.alone, named_nil, k1, k1']
    cases τ' <;> simp [hl, hc]
  · rcases apart_ff k1 k1' s1 s1' u1 u1' v1 v1' with h | h | h
    · rw [h1, h1']; exact h
    · exact absurd h hP
    · exact absurd h hP'

def scC (i k : Int) (c : List Int) : List Int := [c.getD 0 0 * i, (c.getD 1 0).tdiv 2 * k]
theorem rel_scale (a b : At) (i k : Int) : relR a b i k 4 = (relT a b 4).map (scC i k) := by
  have h : ∀ p : Int × Int, holds2 a b p = apartR (hx a (decide (p.1 < 0))) (hx b (decide (p.2 < 0))) := fun p => (together_apart _ _ _ _).symm
  rw [relT_all]
  have h1 := h (1, 2)
  have h2 := h (1, -2)
  have h3 := h (-1, 2)
  have h4 := h (-1, -2)
  simp only [hx, Int.reduceLT, decide_false, decide_true, if_true, Bool.false_eq_true, if_false, Int.reduceNeg] at h1 h2 h3 h4
  unfold relR
  rw [← h1, ← h2, ← h3, ← h4]
  simp only [prs]
  generalize holds2 a b = T
  cases e1 : T (1, 2) <;> cases e2 : T (1, -2) <;> cases e3 : T (-1, 2) <;> cases e4 : T (-1, -2) <;>
    simp [List.filter, e1, e2, e3, e4, scC, show Int.tdiv 2 2 = 1 from rfl, show Int.tdiv (-2) 2 = -1 from rfl]
theorem relT_mem {a b : At} {c : List Int} (h : c ∈ relT a b 4) : ∃ x y : Int, c = [x, y] ∧ (x = 1 ∨ x = -1) ∧ (y = 2 ∨ y = -2) := by
  rw [relT_all, List.mem_map] at h
  obtain ⟨p, hp, rfl⟩ := h
  have := (List.mem_filter.1 hp).1
  simp only [prs, List.mem_cons, List.not_mem_nil, or_false] at this
  refine ⟨p.1, p.2, rfl, ?_, ?_⟩ <;> rcases this with h | h | h | h <;> rw [h] <;> simp
theorem rel_same (a b : At) : relR a b 1 2 4 = relT a b 4 := by
  rw [rel_scale]
  have : ∀ c ∈ relT a b 4, scC 1 2 c = c := fun c hc => by
    obtain ⟨x, y, rfl, hx, hy⟩ := relT_mem hc
    rcases hy with rfl | rfl <;> simp [scC] <;> rfl
  exact (List.map_congr_left this).trans (List.map_id _)

instance : Inhabited At := ⟨⟨ByteArray.mk #[], [], ⟨false, [], []⟩, false⟩⟩
/-- A table's clauses: those of one atom with those behind it up to one, of all atoms before one. -/
def lemRow (l : List At) (i : Nat) : Nat → List (List Int)
  | 0 => []
  | n + 1 => lemRow l i n ++ relR (l.getD i default) (l.getD (i + 1 + n) default) (i + 1 : Nat) (i + 1 + n + 1 : Nat) 4
def lemAll (l : List At) : Nat → List (List Int)
  | 0 => []
  | i + 1 => lemAll l i ++ lemRow l i (l.length - (i + 1))
theorem lemRow_len (l : List At) (i : Nat) : ∀ n, (lemRow l i n).length ≤ 4 * n
  | 0 => Nat.le_refl _
  | n + 1 => by
    have h1 := lemRow_len l i n
    have h2 := relR_len (l.getD i default) (l.getD (i + 1 + n) default) (i + 1 : Nat) (i + 1 + n + 1 : Nat) 4
    simp only [lemRow, List.length_append]
    omega
theorem lemAll_len (l : List At) : ∀ i, (lemAll l i).length ≤ i * (4 * l.length)
  | 0 => by simp [lemAll]
  | i + 1 => by
    have h1 := lemAll_len l i
    have h2 := lemRow_len l i (l.length - (i + 1))
    simp only [lemAll, List.length_append, Nat.add_mul, Nat.one_mul]
    omega
end Go.Proofs.YtjkjapjcmbfkgaaGreat.Vm

/-
  A table's clauses in the reference: Relate, Lemmas.
-/
namespace Go.Proofs.YtjkjapjcmbfkgaaGreat.Vm
open Go Go.RowKit
set_option maxRecDepth 100000
set_option linter.unusedVariables false
set_option linter.unusedSimpArgs false
theorem sQe {G G' : Prop} (h : G') (e : G = G' := by conv => lhs; simp (disch := omega) only [rowsOf, cNat, cN, St.ret, St.seth, Eff.app, Eff.wi, sepL, guardOf, St.known, objOf, List.set, sliceW, litW, copyW, lenOf, bnd, mxOk, ofCells, TI.isAgg, cellsOf, storable, AV.one, dead, laid, overlay, reduceCtorEq, Int.reduceLE, Int.reduceLT, Int.reduceSub, Int.reduceAdd, Nat.reduceMul, Int.reduceToNat, Nat.reducePow, Int.reduceNeg, Nat.reduceAdd, Nat.reduceLT, Nat.reduceLeDiff, sA, sB, i64s_length, i64s_all, i64s_one, i64s_pure, tab_length, List.take_length, List.length_append, tab_drop, tab_take, tab_append, tab_nil, rowC_all, rowC_one, rowC_pure, rowA_all, rowA_one, rowA_pure, sT]) : G := e.mpr h
theorem sQeX {G G' P : Prop} (p : P) (h : G') (e : P → G = G' := by intro p; conv => lhs; simp (disch := omega) only [rowsOf, cNat, cN, St.ret, St.seth, Eff.app, Eff.wi, sepL, guardOf, St.known, objOf, List.set, sliceW, litW, copyW, lenOf, bnd, mxOk, ofCells, TI.isAgg, cellsOf, storable, AV.one, dead, laid, overlay, reduceCtorEq, Int.reduceLE, Int.reduceLT, Int.reduceSub, Int.reduceAdd, Nat.reduceMul, Int.reduceToNat, Nat.reducePow, Int.reduceNeg, Nat.reduceAdd, Nat.reduceLT, Nat.reduceLeDiff, sA, sB, i64s_length, i64s_all, i64s_one, i64s_pure, tab_length, List.take_length, List.length_append, tab_drop, tab_take, tab_append, tab_nil, rowC_all, rowC_one, rowC_pure, rowA_all, rowA_one, rowA_pure, sT, p]) : G := (e p).mpr h
theorem sQeV {G G' : Prop} (h : G') (e : G = G' := by conv => lhs; simp (disch := omega) only [rowsOf, cNat, cN, St.ret, St.seth, Eff.app, Eff.wi, sepL, guardOf, St.known, objOf, List.set, sliceW, litW, copyW, lenOf, bnd, mxOk, ofCells, TI.isAgg, cellsOf, storable, AV.one, dead, laid, overlay, reduceCtorEq, Int.reduceLE, Int.reduceLT, Int.reduceSub, Int.reduceAdd, Nat.reduceMul, Int.reduceToNat, Nat.reducePow, Int.reduceNeg, Nat.reduceAdd, Nat.reduceLT, Nat.reduceLeDiff, sA, sB, i64s_length, i64s_all, i64s_one, i64s_pure, tab_length, List.take_length, List.length_append, tab_drop, tab_take, tab_append, tab_nil, rowC_all, rowC_one, rowC_pure, rowA_all, rowA_one, rowA_pure, sT, view_sref, viewRef, view_agg, views_cons, views_nil, view_bool, view_int, view_sl, view_nils, view_str, view_tup, view_nilif]) : G := e.mpr h
theorem aQe {G G' : Prop} (h : G') (f : Wr G' → G := by intro h; (repeat (first | (refine W_seqV fun K hK => ?_; (try (refine sQe ?_; try exact True.intro)); (repeat refine aI ?_); refine hK _ ?_; clear hK K) | (refine W_seqR fun K hK => ?_; (try (refine sQe ?_; try exact True.intro)); (repeat refine aI ?_); refine hK _ ?_; clear hK K) | (refine W_seqD mixed [] (by kernel_rfl) fun K hK => ?_; (try (refine sQe ?_; try exact True.intro)); (repeat refine aI ?_); refine hK _ ?_; clear hK K))); exact h.out) : G := f ⟨h⟩
def rowA (a : At) : List AV := a.cells
theorem rowA_all (f : List At) : AllLen 6 (tab rowA f) := tab_all (k := 6) (fun _ => rfl) f
theorem rowA_one (f : List At) : AllOne (tab rowA f) := tab_one (fun _ => rfl) f
theorem rowA_pure (f : List At) : AllPure (tab rowA f) := tab_pure (fun _ => rfl) f

theorem f10relate_ok (a b : At) (ha : AtOk a) (hb : AtOk b) : Pure Tryz.prog 11 [.agg a.cells, .agg b.cells] (· = .sl (tab rowC (relT a b 4))) := by
  have h1 := f10between_ok a b 1 2 ha hb (by omega) (by omega)
  rw [rel_same] at h1
  obtain ⟨an, af, ⟨abn, abm, abd⟩, ast⟩ := a
  obtain ⟨bn, bf, ⟨bbn, bbm, bbd⟩, bst⟩ := b
  generalize relT _ _ 4 = R at *
  unfold At.cells at *
  dsimp only at *
  (refine pureW Tryz.func11 rfl (rs := [Go.ResultVar.tmp 4]) rfl (n := 8) rfl ?_; simp only [List.length_cons, List.length_nil, List.replicate, List.cons_append, List.nil_append])
  (refine aQe ?_)
  ((first | refine W_seqV ?_ | refine W_seq (W_seqV ?_) | refine W_regV ?_); intro K hK; (refine sQe ?_; try exact True.intro))
  ((repeat refine aI ?_); refine ⟨by kernel_rfl, rfl, _, h1, ?_⟩; (try (refine sQe ?_; try exact True.intro)); (repeat refine aI ?_))
  ((repeat refine aI ?_); refine hK _ ?_; clear hK K)
  refine W_ret ?_
  (refine qG ?_; try exact True.intro); try (refine sQeV ?_; try exact True.intro)
set_option maxHeartbeats 4000000 in
theorem f10lemmas_ok (l : List At) (hl : ∀ a ∈ l, AtOk a) (hn : l.length ≤ 1048576) : Pure Tryz.prog 13 [.sl (tab rowA l)] (· = .sl (tab rowC (lemAll l l.length))) := by
  have hbt := fun (i k : Nat) (h1 : i < l.length) (h2 : k < l.length) => f10between_ok (l.getD i default) (l.getD k default) (i + 1 : Nat) (k + 1 : Nat)
    (hl _ (by simp [List.getD_eq_getElem?_getD, h1])) (hl _ (by simp [List.getD_eq_getElem?_getD, h2])) (by omega) (by omega)
  have hr := fun i n => lemRow_len l i n
  have ha := fun i (h : i ≤ l.length) => Nat.le_trans (lemAll_len l i) (Nat.mul_le_mul (Nat.le_trans h hn) (Nat.mul_le_mul_left 4 hn))
  have r0 : ∀ i, lemRow l i 0 = [] := fun _ => rfl
  have r1 : ∀ i n, lemRow l i (n + 1) = lemRow l i n ++ relR (l.getD i default) (l.getD (i + 1 + n) default) (i + 1 : Nat) (i + 1 + n + 1 : Nat) 4 := fun _ _ => rfl
  have a0 : lemAll l 0 = [] := rfl
  have a1 : ∀ i, lemAll l (i + 1) = lemAll l i ++ lemRow l i (l.length - (i + 1)) := fun _ => rfl
  have hrl := fun i k => relR_len (l.getD i default) (l.getD k default) (i + 1 : Nat) (k + 1 : Nat) 4
  generalize lemRow l = LR at *
  generalize lemAll l = LA at *
  (refine pureW Tryz.func13 rfl (rs := [Go.ResultVar.tmp 2]) rfl (n := 36) rfl ?_; simp only [List.length_cons, List.length_nil, List.replicate, List.cons_append, List.nil_append])
  (refine aQe ?_)
  refine W.le ?_ (Le_nil 3 3 91 1 true rfl rfl)
  simp only [List.set]
  refine W_seq ?_
  ((first | refine W_seqV ?_ | refine W_seq (W_seqV ?_) | refine W_regV ?_); intro K hK; (refine sQe ?_; try exact True.intro))
  ((repeat refine aI ?_); refine hK _ ?_; clear hK K)
  refine W_block (W_loop (fun t : {t : Nat // t ≤ l.length} =>
      ⟨[.sl (tab rowA l), .any, .any, .sref 3 0 (LA t.1).length, .int .i64 t.1, .any, .any, .any, .any, .any, .any, .any, .any, .any, .any, .any, .any, .any, .any, .any, .any, .any, .any, .any, .any, .any, .any, .any, .any, .any, .any, .any, .any, .any, .any, .any], [.dead, .dead, .dead, .arr 91 1 true (tab rowC (LA t.1)), .dead, .dead, .dead, .dead, .dead, .dead, .dead, .dead, .dead, .dead, .dead, .dead, .dead, .dead, .dead, .dead, .dead, .dead, .dead, .dead, .dead, .dead, .dead, .dead, .dead, .dead, .dead, .dead, .dead, .dead, .dead, .dead]⟩) (fun t => l.length - t.1)
      ⟨0, by omega⟩ (Le_of (by simp [leE, a0]) (by simp [a0, tab])) fun t => ?_)
  obtain ⟨i, hi⟩ := t
  dsimp only
  by_cases hlt : i < l.length
  · have hai := ha i hi
    have hai1 := a1 i
    have hXi : (tab rowA l).getD i [] = (l.getD i default).cells := tab_getD hlt
    refine W_seq ?_
    ((first | refine W_seqV ?_ | refine W_seq (W_seqV ?_) | refine W_regV ?_); intro K hK; (refine sQeX hlt ?_; try exact True.intro))
    ((repeat refine aI ?_); refine hK _ ?_; clear hK K)
    (first | refine W_cond rfl (fun _ => ?_) (fun h => by cases h) | refine W_seq (W_cond rfl (fun _ => ?_) (fun h => by cases h)))
    refine W_skip ?_
    simp only [thenW]
    refine W_seq ?_
    refine W_block ?_
    ((first | refine W_seqV ?_ | refine W_seq (W_seqV ?_) | refine W_regV ?_); intro K hK; (refine sQe ?_; try exact True.intro))
    ((repeat refine aI ?_); refine hK _ ?_; clear hK K)
    refine W_block (W_loop (fun t : {t : Nat // i + 1 + t ≤ l.length} =>
      ⟨[.sl (tab rowA l), .any, .any, .sref 3 0 (LA i ++ LR i t.1).length, .int .i64 i, .int .i64 (i + 1 + t.1 : Nat), .any, .any, .any, .any, .any, .any, .any, .any, .any, .any, .any, .any, .any, .any, .any, .any, .any, .any, .any, .any, .any, .any, .any, .any, .any, .any, .any, .any, .any, .any], [.dead, .dead, .dead, .arr 91 1 true (tab rowC (LA i ++ LR i t.1)), .dead, .dead, .dead, .dead, .dead, .dead, .dead, .dead, .dead, .dead, .dead, .dead, .dead, .dead, .dead, .dead, .dead, .dead, .dead, .dead, .dead, .dead, .dead, .dead, .dead, .dead, .dead, .dead, .dead, .dead, .dead, .dead]⟩) (fun t => l.length - t.1)
      ⟨0, by omega⟩ (Le_of (by simp [leE, r0]) (by simp [r0])) fun t => ?_)
    obtain ⟨n, hn'⟩ := t
    dsimp only
    by_cases hkt : i + 1 + n < l.length
    · have hXk : (tab rowA l).getD (i + 1 + n) [] = (l.getD (i + 1 + n) default).cells := tab_getD hkt
      have hb := hbt i (i + 1 + n) hlt hkt
      have hr1 := r1 i n
      have hrn := hr i n
      have hrr := hrl i (i + 1 + n)
      have hla : (LA i ++ LR i n).length ≤ 1048576 * (4 * 1048576) + 4 * n := by simp only [List.length_append]; omega
      have hnew : LA i ++ LR i (n + 1) = (LA i ++ LR i n) ++ relR (l.getD i default) (l.getD (i + 1 + n) default) (i + 1 : Nat) (i + 1 + n + 1 : Nat) 4 := by rw [r1, List.append_assoc]
      generalize LA i ++ LR i n = o at *
      generalize relR _ _ _ _ 4 = R at *
      generalize l.getD i default = a at *
      generalize l.getD (i + 1 + n) default = b at *
      have hk1 : i + 1 + (n + 1) = i + 1 + n + 1 := by omega
      generalize hk : i + 1 + n = k at *
      have w1 : IntKind.i64.wrap ((i : Int) + 1) = ((i + 1 : Nat) : Int) := by rw [wrap_i64 (by omega) (by omega)]; omega
      have w2 : IntKind.i64.wrap ((k : Int) + 1) = ((k + 1 : Nat) : Int) := by rw [wrap_i64 (by omega) (by omega)]; omega
      obtain ⟨an, af, ⟨abn, abm, abd⟩, ast⟩ := a
      obtain ⟨bn, bf, ⟨bbn, bbm, bbd⟩, bst⟩ := b
      simp only [At.cells] at hXi hXk hb
      refine W_seq ?_
      ((first | refine W_seqV ?_ | refine W_seq (W_seqV ?_) | refine W_regV ?_); intro K hK; (refine sQeX hkt ?_; try exact True.intro))
      ((repeat refine aI ?_); refine hK _ ?_; clear hK K)
      (first | refine W_cond rfl (fun _ => ?_) (fun h => by cases h) | refine W_seq (W_cond rfl (fun _ => ?_) (fun h => by cases h)))
      refine W_skip ?_
      simp only [thenW]
      refine W_seq ?_
      refine W_block ?_
      ((first | refine W_seqS mixed 14 [] (by kernel_rfl) ?_ | refine W_seq (W_seqS mixed 14 [] (by kernel_rfl) ?_) | refine W_regS mixed 14 [] (by kernel_rfl) ?_); intro K hK; (refine sQeX (And.intro hXi (And.intro hXk (And.intro hlt (And.intro hkt (And.intro w1 w2))))) ?_; try exact True.intro))
      ((repeat refine aI ?_); refine ⟨by kernel_rfl, rfl, _, hb, ?_⟩; (try (refine sQe ?_; try exact True.intro)); (repeat refine aI ?_))
      ((repeat refine aI ?_); refine hK _ ?_; clear hK K)
      simp only [blockW, thenW]
      ((first | refine W_seqV ?_ | refine W_seq (W_seqV ?_) | refine W_regV ?_); intro K hK; (refine sQe ?_; try exact True.intro))
      ((repeat refine aI ?_); refine hK _ ?_; clear hK K)
      simp only [blockW, thenW]
      refine ⟨⟨n + 1, by omega⟩, Le_drop (by simp [leE, hk1, hnew]) (by simp [leH, hnew, ← tab_append, List.take_of_length_le, tab_length]) rfl rfl, ?_⟩
      dsimp only
      omega
    · obtain rfl : n = l.length - (i + 1) := by omega
      have hk1 : i + 1 + (l.length - (i + 1)) = l.length := by omega
      rw [← a1 i, hk1]
      refine W_seq ?_
      ((first | refine W_seqV ?_ | refine W_seq (W_seqV ?_) | refine W_regV ?_); intro K hK; (refine sQe ?_; try exact True.intro))
      ((repeat refine aI ?_); refine hK _ ?_; clear hK K)
      (first | refine W_cond rfl (fun h => by cases h) (fun _ => ?_) | refine W_seq (W_cond rfl (fun h => by cases h) (fun _ => ?_)))
      refine W_exit ?_
      simp only [thenW, blockW, if_true]
      ((first | refine W_seqV ?_ | refine W_seq (W_seqV ?_) | refine W_regV ?_); intro K hK; (refine sQe ?_; try exact True.intro))
      ((repeat refine aI ?_); refine hK _ ?_; clear hK K)
      simp only [blockW, thenW]
      refine ⟨⟨i + 1, by omega⟩, Le_drop (by simp [leE]) (by simp [leH]) rfl rfl, ?_⟩
      dsimp only
      omega
  · obtain rfl : i = l.length := by omega
    refine W_seq ?_
    ((first | refine W_seqV ?_ | refine W_seq (W_seqV ?_) | refine W_regV ?_); intro K hK; (refine sQe ?_; try exact True.intro))
    ((repeat refine aI ?_); refine hK _ ?_; clear hK K)
    (first | refine W_cond rfl (fun h => by cases h) (fun _ => ?_) | refine W_seq (W_cond rfl (fun h => by cases h) (fun _ => ?_)))
    refine W_exit ?_
    simp only [thenW, blockW, if_true]
    ((first | refine W_seqV ?_ | refine W_seq (W_seqV ?_) | refine W_regV ?_); intro K hK; (refine sQe ?_; try exact True.intro))
    ((repeat refine aI ?_); refine hK _ ?_; clear hK K)
    refine W_ret ?_
    (refine qG ?_; try exact True.intro); try (refine sQeV ?_; try exact True.intro)
end Go.Proofs.YtjkjapjcmbfkgaaGreat.Vm

