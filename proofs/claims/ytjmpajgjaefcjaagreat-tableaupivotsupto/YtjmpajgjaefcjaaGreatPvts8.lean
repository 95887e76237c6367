/-
  The law TableauPivots holds of the given program, for all arguments of bulk at most 1048576: no further conditions.
-/
import Derived.Test.YtjmpajgjaefcjaaGreatPvts7
import Derived.Orders
import Derived.Below
import Derived.Laws.AppendOwn
import Derived.Laws.MakeOwn
import Derived.Laws.CopyRow
import Derived.Laws.Rows
import Derived.Laws.Cells
import Derived.Tactics
import Derived.Laws.BitsLemmas
import Derived.Maps.Range
import Derived.Carry
import Derived.Sort.Row
import Derived.Sort.Grow
import Derived.Test.YtjmpajgjaefcjaaGreatProg
import Derived.Shelf.Sort.Plain
import Derived.Shelf.Slices.In.SortNone
import Derived.Ground.NamesProg
import Derived.Test.YtjmpajgjaefcjaaGreatRows
import Derived.WalkKit
import Derived.ProofKit
import Derived.OpenShut
import Derived.JoinedCond

namespace Go.Proofs.YtjmpajgjaefcjaaGreat.Vm
open Go Go.RowKit
set_option maxRecDepth 100000
set_option linter.unusedVariables false
set_option linter.unusedSimpArgs false
theorem sUb {G G' : Prop} (h : G') (e : G = G' := by conv => lhs;simp (disch := omega) only [rowsOf,cNat,cN,St.ret,St.seth,Eff.app,Eff.wi,sepL,guardOf,St.known,objOf,List.set,sliceW,litW,copyW,lenOf,bnd,mxOk,ofCells,TI.isAgg,cellsOf,storable,AV.one,dead,laid,overlay,reduceCtorEq,Int.reduceLE,Int.reduceLT,Int.reduceSub,Int.reduceAdd,Nat.reduceMul,Int.reduceToNat,Nat.reducePow,Int.reduceNeg,Nat.reduceAdd,Nat.reduceLT,Nat.reduceLeDiff,sA,sB,Nat.reduceEqDiff,cQ,rowQ,rowU,rowT,rowM,i64s_getD,i64s_length,i64s_all,i64s_take,i64s_drop,i64s_set,i64s_one,i64s_pure,i64s_append,tab_length,tab_drop,tab_take,tab_append,tab_nil,rowT_all,rowT_one,rowT_pure,rowU_all,rowU_one,rowU_pure,rowQ_all,rowQ_one,rowQ_pure,rowM_all,rowM_one,rowM_pure,List.take_length,List.length_append,sT]) : G := e.mpr h
theorem sUbX {G G' P : Prop} (p : P) (h : G') (e : P → G = G' := by intro p;conv => lhs;simp (disch := omega) only [rowsOf,cNat,cN,St.ret,St.seth,Eff.app,Eff.wi,sepL,guardOf,St.known,objOf,List.set,sliceW,litW,copyW,lenOf,bnd,mxOk,ofCells,TI.isAgg,cellsOf,storable,AV.one,dead,laid,overlay,reduceCtorEq,Int.reduceLE,Int.reduceLT,Int.reduceSub,Int.reduceAdd,Nat.reduceMul,Int.reduceToNat,Nat.reducePow,Int.reduceNeg,Nat.reduceAdd,Nat.reduceLT,Nat.reduceLeDiff,sA,sB,Nat.reduceEqDiff,cQ,rowQ,rowU,rowT,rowM,i64s_getD,i64s_length,i64s_all,i64s_take,i64s_drop,i64s_set,i64s_one,i64s_pure,i64s_append,tab_length,tab_drop,tab_take,tab_append,tab_nil,rowT_all,rowT_one,rowT_pure,rowU_all,rowU_one,rowU_pure,rowQ_all,rowQ_one,rowQ_pure,rowM_all,rowM_one,rowM_pure,List.take_length,List.length_append,sT,p]) : G := (e p).mpr h
theorem aUb {G G' : Prop} (h : G') (f : Wr G' → G := by intro h;(repeat (first|(refine W_seqV fun K hK => ?_;(try (refine sUb ?_;try exact True.intro));(repeat refine aI ?_);refine hK _ ?_;clear hK K)|(refine W_seqR fun K hK => ?_;(try (refine sUb ?_;try exact True.intro));(repeat refine aI ?_);refine hK _ ?_;clear hK K)|(refine W_seqD mixed [] (by kernel_rfl) fun K hK => ?_;(try (refine sUb ?_;try exact True.intro));(repeat refine aI ?_);refine hK _ ?_;clear hK K)));exact h.out) : G := f ⟨h⟩
def rowOk (n : Int) (M : TM) (j : Nat) : Prop := inR n (M.getD j default).1 = true ∧ idxM M (M.getD j default).1 = some j ∧ knownB n (M.getD j default).2 = true
theorem GT.rok {n : Int} {M : TM} (h : GT n M) {j : Nat} (hj : j < M.length) : rowOk n M j := by
 have hm := getD_mem (l := M) hj
 refine ⟨inR_iff.2 (h.range _ (List.mem_map.2 ⟨_,hm,rfl⟩)),idx_nodup h.nodup hj,?_⟩
 unfold knownB
 rw [List.all_eq_true]
 exact fun p hp => inR_iff.2 (h.free _ hm p hp).1
theorem GT.of {n : Int} {M : TM} (h0 : 0 ≤ n) (h1 : n ≤ 65536) (h : ∀ j,j < M.length → rowOk n M j) (hf : ∀ j,j < M.length → ∀ p ∈ (M.getD j default).2,idxM M p.1 = none) : GT n M := by
 refine ⟨h0,h1,?_,fun b hb => ?_,fun r hr p hp => ?_⟩
 ·rw [List.Nodup,List.pairwise_iff_getElem]
  intro i j hi hj hij he
  have hi' : i < M.length := by rwa [keys_len] at hi
  have hj' : j < M.length := by rwa [keys_len] at hj
  have e1 := (h i hi').2.1
  have e2 := (h j hj').2.1
  have : (M.getD i default).1 = (M.getD j default).1 := by
   simp only [keys,List.getElem_map] at he
   simp [List.getD_eq_getElem?_getD,hi',hj',he]
  rw [this,e2] at e1
  cases e1
  omega
 ·obtain ⟨r,hr,rfl⟩ := List.mem_map.1 hb
  obtain ⟨j,hj,rfl⟩ := mem_getD hr
  exact inR_iff.1 (h j hj).1
 ·obtain ⟨j,hj,rfl⟩ := mem_getD hr
  have h2 := (h j hj).2.2
  unfold knownB at h2
  refine ⟨inR_iff.1 (List.all_eq_true.1 h2 p hp),(idx_none (hf j hj p hp)).1⟩
theorem rowI_some {M : TM} {v : Int} {k : Nat} (h : idxM M v = some k) : rowI M v = (k : Int) := by unfold rowI;rw [h]
theorem rowI_none {M : TM} {v : Int} (h : idxM M v = none) : rowI M v = -1 := by unfold rowI;rw [h]
theorem TOk.pf {t : TR} (h : TOk t) {r : Int × List (Int × RR)} (hr : r ∈ t) : PF r.2 68157441 := ((h.form hr).pf (by omega)).mono (by omega)
set_option maxHeartbeats 4000000 in
theorem r7check_ok (n : Int) (t : TR) (hT : TOk t) : Pure Tryz.prog 31 [cT n t] (· = .int .i64 (if goodB n (nrmT t) then 0 else 70)) := by
 have hml := nrmT_len t
 have hlen := hT.len
 have hgT : GT n (nrmT t) → goodB n (nrmT t) = true := gt_iff.2
 have hgF : ¬ GT n (nrmT t) → goodB n (nrmT t) = false := fun h => by
  rw [Bool.eq_false_iff]
  exact fun h' => h (gt_iff.1 h')
 have hnd := fun i (hi : i < t.length) => nrmT_getD hi
 have his := fun v => r7is_ok n t v
 have hro := fun v => r7row_ok n t v (by omega)
 have hkn : ∀ i,i < t.length → Pure Tryz.prog 70 [cT n t,cF (t.getD i default).2] (· = .bool (knownB n (normF (vals (t.getD i default).2)))) := fun i hi => r7knows_ok n t _ (hT.pf (getD_mem hi)) (by omega)
 have hva : ∀ i,i < t.length → Pure Tryz.prog 75 [cF (t.getD i default).2] (· = .sl (i64s (keys (normF (vals (t.getD i default).2))))) := fun i hi => r6vars_ok _ (hT.pf (getD_mem hi)) (by omega)
 have hrok := fun (h : GT n (nrmT t)) j hj => h.rok (j := j) hj
 have hof := fun h0 h1 => GT.of (n := n) (M := nrmT t) h0 h1
 have hfree : GT n (nrmT t) → ∀ i,i < (nrmT t).length → ∀ v ∈ keys ((nrmT t).getD i default).2,idxM (nrmT t) v = none := fun h i hi v hv => by
  obtain ⟨p,hp,rfl⟩ := List.mem_map.1 hv
  have := (h.free _ (getD_mem hi) p hp).2
  cases hx : idxM (nrmT t) p.1 with
  | none => rfl
  | some j => exact absurd (idx_some hx).2.2.2 this
 have hvl : ∀ i,i < t.length → (keys ((nrmT t).getD i default).2).length < 1099511627776 := fun i hi => by
  have := (hT.mok.sz _ (getD_mem (show i < (nrmT t).length by omega))).l
  rw [keys_len]
  omega
 clear hT
 unfold cT at *
 generalize goodB n (nrmT t) = gb at *
 generalize nrmT t = M at *
 by_cases h1 : n < 0
 ·rw [hgF fun h => by have := h.lo;omega]
  simp only [Bool.false_eq_true,if_false]
  (refine pureW Tryz.func31 rfl (rs := [Go.ResultVar.tmp 2]) rfl (n := 81) rfl ?_;simp only [List.length_cons,List.length_nil,List.replicate,List.cons_append,List.nil_append])
  (refine aUb ?_)
  ((refine W_seq (W_seqV ?_));intro K hK;(refine sUbX h1 ?_))
  (refine hK _ ?_;clear hK K)
  (repeat' (first | (exfalso;simp at h;done) | (refine W_seqV fun K hK => ?_;(try (refine sUb ?_));refine hK _ ?_;clear hK K) | (refine W_ret ?_;(refine qG ?_;try exact True.intro)) | (refine W_cond rfl (fun h => ?_) (fun h => ?_) <;> (try simp only [cond_true,cond_false,ne_eq,cB] at h))))
 by_cases h2 : 65536 < n
 ·rw [hgF fun h => by have := h.hi;omega]
  simp only [Bool.false_eq_true,if_false]
  (refine pureW Tryz.func31 rfl (rs := [Go.ResultVar.tmp 2]) rfl (n := 81) rfl ?_;simp only [List.length_cons,List.length_nil,List.replicate,List.cons_append,List.nil_append])
  (refine aUb ?_)
  ((refine W_seq (W_seqV ?_));intro K hK;(refine sUbX (And.intro h1 h2) ?_))
  (refine hK _ ?_;clear hK K)
  (repeat' (first | (exfalso;simp at h;done) | (refine W_seqV fun K hK => ?_;(try (refine sUb ?_));refine hK _ ?_;clear hK K) | (refine W_ret ?_;(refine qG ?_;try exact True.intro)) | (refine W_cond rfl (fun h => ?_) (fun h => ?_) <;> (try simp only [cond_true,cond_false,ne_eq,cB] at h))))
 (refine pureW Tryz.func31 rfl (rs := [Go.ResultVar.tmp 2]) rfl (n := 81) rfl ?_;simp only [List.length_cons,List.length_nil,List.replicate,List.cons_append,List.nil_append])
 (refine aUb ?_)
 ((refine W_seq (W_seqV ?_));intro K hK;(refine sUbX (And.intro h1 h2) ?_))
 (refine hK _ ?_;clear hK K)
 (refine W_cf rfl ?_)
 refine W_skip ?_
 simp only [thenW]
 refine W_seq ?_
 ((refine W_seqV ?_);intro K hK;(refine sUb ?_))
 (refine hK _ ?_;clear hK K)
 refine W_block (W_loop (fun s : {i : Nat // i ≤ t.length ∧ ∀ j,j < i → rowOk n M j} =>
   ⟨(.any::(.ptr 1 0 0)::.any::(.int .i64 s.1)::.any::.any::.any::.any::.any::.any::.any::.any::.any::.any::.any::.any::.any::.any::.any::.any::.any::.any::.any::.any::.any::.any::.any::.any::.any::.any::.any::.any::.any::.any::.any::.any::.any::.any::.any::.any::.any::.any::.any::.any::.any::.any::.any::.any::.any::.any::.any::.any::.any::.any::.any::.any::.any::.any::.any::.any::.any::.any::.any::.any::.any::.any::.any::.any::.any::.any::.any::.any::.any::.any::.any::.any::.any::.any::.any::.any::.any::[]),(.dead::(.arr 24 2 false [[.int .i64 n,.sl (tab rowT t)]])::.dead::.dead::.dead::.dead::.dead::.dead::.dead::.dead::.dead::.dead::.dead::.dead::.dead::.dead::.dead::.dead::.dead::.dead::.dead::.dead::.dead::.dead::.dead::.dead::.dead::.dead::.dead::.dead::.dead::.dead::.dead::.dead::.dead::.dead::.dead::.dead::.dead::.dead::.dead::.dead::.dead::.dead::.dead::.dead::.dead::.dead::.dead::.dead::.dead::.dead::.dead::.dead::.dead::.dead::.dead::.dead::.dead::.dead::.dead::.dead::.dead::.dead::.dead::.dead::.dead::.dead::.dead::.dead::.dead::.dead::.dead::.dead::.dead::.dead::.dead::.dead::.dead::.dead::.dead::[])⟩) (fun s => t.length - s.1)
   ⟨0,by omega,by omega⟩ (Le_drop (by simp [leE]) (by simp [leH]) rfl rfl) fun s => ?_)
 obtain ⟨i,hi,hpre⟩ := s
 dsimp only
 by_cases hlt : i < t.length
 ·have hti : (tab rowT t).getD i [] = rowT (t.getD i default) := tab_getD hlt
  have hbad : ¬ rowOk n M i → gb = false := fun h => hgF fun h' => h (hrok h' i (by omega))
  have hpr : rowOk n M i → ∀ j,j < i + 1 → rowOk n M j := fun h j hj => by
   by_cases hji : j = i
   ·subst hji;exact h
   ·exact hpre j (by omega)
  have hdef : rowOk n M i = (inR n (M.getD i default).1 = true ∧ idxM M (M.getD i default).1 = some i ∧ knownB n (M.getD i default).2 = true) := rfl
  have hexi : ∃ k,idxM M (M.getD i default).1 = some k := by
   obtain ⟨k,hk,_⟩ := look_idx (M := M) (b := (M.getD i default).1) (List.mem_map.2 ⟨_,getD_mem (by omega),rfl⟩)
   exact ⟨k,hk⟩
  have hki := hkn i hlt
  rw [hnd i hlt] at hdef hexi
  generalize t.getD i default = r at *
  obtain ⟨b,f⟩ := r
  simp only [rowT] at hti
  dsimp only at *
  have hib := his b
  have hrb := hro b
  obtain ⟨k,hk⟩ := hexi
  rw [rowI_some hk] at hrb
  rw [hk] at hdef
  refine W_seq ?_
  ((refine W_seqV ?_);intro K hK;(refine sUbX hlt ?_))
  (refine hK _ ?_;clear hK K)
  (refine W_ct rfl ?_)
  refine W_skip ?_
  simp only [thenW]
  refine W_seq ?_
  refine W_block ?_
  simp only [cF] at *
  generalize inR n b = ib at *
  generalize knownB n (normF (vals f)) = kb at *
  cases ib
  ·rw [hbad (by rw [hdef];simp)]
   simp only [Bool.false_eq_true,if_false]
   ((refine W_seqD mixed [] (by kernel_rfl) ?_);intro K hK;(refine sUbX (And.intro hti hlt) ?_))
   (refine ⟨by kernel_rfl,_,.pure rfl (hib),?_⟩;(try (refine sUb ?_)))
   (refine hK _ ?_;clear hK K)
   (repeat' (first | (exfalso;simp at h;done) | (refine W_seqV fun K hK => ?_;(try (refine sUb ?_));refine hK _ ?_;clear hK K) | (refine W_ret ?_;(refine qG ?_;try exact True.intro)) | (refine W_cond rfl (fun h => ?_) (fun h => ?_) <;> (try simp only [cond_true,cond_false,ne_eq,cB] at h))))
  by_cases hki2 : k = i
  ·have hnb : ((k : Int) != (i : Int)) = false := by simp [hki2]
   cases kb
   ·rw [hbad (by rw [hdef];simp)]
    simp only [Bool.false_eq_true,if_false]
    ((refine W_seqD mixed [] (by kernel_rfl) ?_);intro K hK;(refine sUbX (And.intro hti hlt) ?_))
    (refine ⟨by kernel_rfl,_,.pure rfl (hib),?_⟩;(try (refine sUb ?_));(repeat refine aI ?_))
    (refine sUbX (And.intro hti hlt) ?_;try exact True.intro)
    (refine ⟨by kernel_rfl,_,.pure rfl (hrb),?_⟩;(try (refine sUb ?_)))
    rw [hnb]
    (refine sUbX (And.intro hti hlt) ?_;try exact True.intro)
    (refine ⟨by kernel_rfl,_,.pure rfl (hki),?_⟩;(try (refine sUb ?_)))
    (refine hK _ ?_;clear hK K)
    (repeat' (first | (exfalso;simp at h;done) | (refine W_seqV fun K hK => ?_;(try (refine sUb ?_));refine hK _ ?_;clear hK K) | (refine W_ret ?_;(refine qG ?_;try exact True.intro)) | (refine W_cond rfl (fun h => ?_) (fun h => ?_) <;> (try simp only [cond_true,cond_false,ne_eq,cB] at h))))
   ·((refine W_seqD mixed [] (by kernel_rfl) ?_);intro K hK;(refine sUbX (And.intro hti hlt) ?_))
    (refine ⟨by kernel_rfl,_,.pure rfl (hib),?_⟩;(try (refine sUb ?_));(repeat refine aI ?_))
    (refine sUbX (And.intro hti hlt) ?_;try exact True.intro)
    (refine ⟨by kernel_rfl,_,.pure rfl (hrb),?_⟩;(try (refine sUb ?_)))
    rw [hnb]
    (refine sUbX (And.intro hti hlt) ?_;try exact True.intro)
    (refine ⟨by kernel_rfl,_,.pure rfl (hki),?_⟩;(try (refine sUb ?_)))
    (refine hK _ ?_;clear hK K)
    (refine W_cf rfl ?_)
    refine W_skip ?_
    simp only [thenW,blockW]
    ((refine W_regV ?_);intro K hK;(refine sUb ?_))
    (refine hK _ ?_;clear hK K)
    simp only [blockW,thenW]
    refine ⟨⟨i + 1,by omega,hpr (by rw [hdef];simp [hki2])⟩,Le_drop (by simp [leE]) (by simp [leH]) rfl rfl,?_⟩
    dsimp only
    omega
  ·have hnb : ((k : Int) != (i : Int)) = true := by simp;omega
   rw [hbad (by rw [hdef];simp;intro h;exact absurd h hki2)]
   simp only [Bool.false_eq_true,if_false]
   ((refine W_seqD mixed [] (by kernel_rfl) ?_);intro K hK;(refine sUbX (And.intro hti hlt) ?_))
   (refine ⟨by kernel_rfl,_,.pure rfl (hib),?_⟩;(try (refine sUb ?_));(repeat refine aI ?_))
   (refine sUbX (And.intro hti hlt) ?_;try exact True.intro)
   (refine ⟨by kernel_rfl,_,.pure rfl (hrb),?_⟩;(try (refine sUb ?_)))
   rw [hnb]
   (refine sUbX (And.intro hti hlt) ?_;try exact True.intro)
   (refine hK _ ?_;clear hK K)
   (repeat' (first | (exfalso;simp at h;done) | (refine W_seqV fun K hK => ?_;(try (refine sUb ?_));refine hK _ ?_;clear hK K) | (refine W_ret ?_;(refine qG ?_;try exact True.intro)) | (refine W_cond rfl (fun h => ?_) (fun h => ?_) <;> (try simp only [cond_true,cond_false,ne_eq,cB] at h))))
 ·obtain rfl : i = t.length := by omega
  refine W_seq ?_
  ((refine W_seqV ?_);intro K hK;(refine sUb ?_))
  (refine hK _ ?_;clear hK K)
  (refine W_cf rfl ?_)
  refine W_exit ?_
  simp only [thenW,blockW,if_true]
  refine W_seq ?_
  ((refine W_seqV ?_);intro K hK;(refine sUb ?_))
  (refine hK _ ?_;clear hK K)
  refine W_block (W_loop (fun s : {i : Nat // i ≤ t.length ∧ ∀ j,j < i → ∀ v ∈ keys (M.getD j default).2,idxM M v = none} =>
   ⟨(.any::(.ptr 1 0 0)::.any::.any::(.int .i64 s.1)::.any::.any::.any::.any::.any::.any::.any::.any::.any::.any::.any::.any::.any::.any::.any::.any::.any::.any::.any::.any::.any::.any::.any::.any::.any::.any::.any::.any::.any::.any::.any::.any::.any::.any::.any::.any::.any::.any::.any::.any::.any::.any::.any::.any::.any::.any::.any::.any::.any::.any::.any::.any::.any::.any::.any::.any::.any::.any::.any::.any::.any::.any::.any::.any::.any::.any::.any::.any::.any::.any::.any::.any::.any::.any::.any::.any::[]),(.dead::(.arr 24 2 false [[.int .i64 n,.sl (tab rowT t)]])::.dead::.dead::.dead::.dead::.dead::.dead::.dead::.dead::.dead::.dead::.dead::.dead::.dead::.dead::.dead::.dead::.dead::.dead::.dead::.dead::.dead::.dead::.dead::.dead::.dead::.dead::.dead::.dead::.dead::.dead::.dead::.dead::.dead::.dead::.dead::.dead::.dead::.dead::.dead::.dead::.dead::.dead::.dead::.dead::.dead::.dead::.dead::.dead::.dead::.dead::.dead::.dead::.dead::.dead::.dead::.dead::.dead::.dead::.dead::.dead::.dead::.dead::.dead::.dead::.dead::.dead::.dead::.dead::.dead::.dead::.dead::.dead::.dead::.dead::.dead::.dead::.dead::.dead::.dead::[])⟩) (fun s => t.length - s.1)
   ⟨0,by omega,by omega⟩ (Le_drop (by simp [leE]) (by simp [leH]) rfl rfl) fun s => ?_)
  obtain ⟨i,hi,hpr2⟩ := s
  dsimp only
  by_cases hlt : i < t.length
  ·have hti : (tab rowT t).getD i [] = rowT (t.getD i default) := tab_getD hlt
   have hnx : (∀ v ∈ keys (M.getD i default).2,idxM M v = none) → ∀ j,j < i + 1 → ∀ v ∈ keys (M.getD j default).2,idxM M v = none := fun h j hj => by
    by_cases hji : j = i
    ·subst hji;exact h
    ·exact hpr2 j (by omega)
   have hbad : ∀ v ∈ keys (M.getD i default).2,idxM M v ≠ none → gb = false := fun v hv h => hgF fun h' => h (hfree h' i (by omega) v hv)
   have hvi := hva i hlt
   have hvll := hvl i hlt
   rw [hnd i hlt] at hnx hbad hvll
   generalize t.getD i default = r at *
   obtain ⟨b,f⟩ := r
   simp only [rowT] at hti
   dsimp only at *
   simp only [cF] at *
   generalize keys (normF (vals f)) = V at *
   refine W_seq ?_
   ((refine W_seqV ?_);intro K hK;(refine sUbX hlt ?_))
   (refine hK _ ?_;clear hK K)
   (refine W_ct rfl ?_)
   refine W_skip ?_
   simp only [thenW]
   refine W_seq ?_
   refine W_block ?_
   ((refine W_seqV ?_);intro K hK;(refine sUbX (And.intro hti hlt) ?_))
   (refine ⟨by kernel_rfl,_,.pure rfl (hvi),?_⟩;(try (refine sUb ?_)))
   (refine hK _ ?_;clear hK K)
   refine W_seq ?_
   ((refine W_regV ?_);intro K hK;(refine sUb ?_))
   (refine hK _ ?_;clear hK K)
   refine W_block (W_loop (fun s : {k : Nat // k ≤ V.length ∧ ∀ j,j < k → idxM M (V.getD j 0) = none} =>
    ⟨(.any::(.ptr 1 0 0)::.any::.any::(.int .i64 i)::(.sl (i64s V))::(.int .i64 s.1)::.any::.any::.any::.any::.any::.any::.any::.any::.any::.any::.any::.any::.any::.any::.any::.any::.any::.any::.any::.any::.any::.any::.any::.any::.any::.any::.any::.any::.any::.any::.any::.any::.any::.any::.any::.any::.any::.any::.any::.any::.any::.any::.any::.any::.any::.any::.any::.any::.any::.any::.any::.any::.any::.any::.any::.any::.any::.any::.any::.any::.any::.any::.any::.any::.any::.any::.any::.any::.any::.any::.any::.any::.any::.any::[]),(.dead::(.arr 24 2 false [[.int .i64 n,.sl (tab rowT t)]])::.dead::.dead::.dead::.dead::.dead::.dead::.dead::.dead::.dead::.dead::.dead::.dead::.dead::.dead::.dead::.dead::.dead::.dead::.dead::.dead::.dead::.dead::.dead::.dead::.dead::.dead::.dead::.dead::.dead::.dead::.dead::.dead::.dead::.dead::.dead::.dead::.dead::.dead::.dead::.dead::.dead::.dead::.dead::.dead::.dead::.dead::.dead::.dead::.dead::.dead::.dead::.dead::.dead::.dead::.dead::.dead::.dead::.dead::.dead::.dead::.dead::.dead::.dead::.dead::.dead::.dead::.dead::.dead::.dead::.dead::.dead::.dead::.dead::.dead::.dead::.dead::.dead::.dead::.dead::[])⟩) (fun s => V.length - s.1)
    ⟨0,by omega,by omega⟩ (Le_drop (by simp [leE]) (by simp [leH]) rfl rfl) fun s => ?_)
   obtain ⟨k,hk,hpr3⟩ := s
   dsimp only
   by_cases hlk : k < V.length
   ·have hvm : V.getD k 0 ∈ V := by simp [List.getD_eq_getElem?_getD,hlk]
    have hbk := hbad _ hvm
    have hnk : idxM M (V.getD k 0) = none → ∀ j,j < k + 1 → idxM M (V.getD j 0) = none := fun h j hj => by
     by_cases hji : j = k
     ·subst hji;exact h
     ·exact hpr3 j (by omega)
    generalize hv : V.getD k 0 = v at *
    have hrv := hro v
    refine W_seq ?_
    ((refine W_seqV ?_);intro K hK;(refine sUbX hlk ?_))
    (refine hK _ ?_;clear hK K)
    (refine W_ct rfl ?_)
    refine W_skip ?_
    simp only [thenW]
    refine W_seq ?_
    refine W_block ?_
    cases hx : idxM M v with
    | some j =>
     rw [hbk (by rw [hx];simp)]
     rw [rowI_some hx] at hrv
     simp only [Bool.false_eq_true,if_false]
     ((refine W_seqD mixed [] (by kernel_rfl) ?_);intro K hK;(refine sUbX (And.intro hv hlk) ?_))
     (refine ⟨by kernel_rfl,_,.pure rfl (hrv),?_⟩;(try (refine sUb ?_)))
     (refine hK _ ?_;clear hK K)
     (repeat' (first | (exfalso;simp at h;done) | (refine W_seqV fun K hK => ?_;(try (refine sUb ?_));refine hK _ ?_;clear hK K) | (refine W_ret ?_;(refine qG ?_;try exact True.intro)) | (refine W_cond rfl (fun h => ?_) (fun h => ?_) <;> (try simp only [cond_true,cond_false,ne_eq,cB] at h))))
    | none =>
     rw [rowI_none hx] at hrv
     ((refine W_seqD mixed [] (by kernel_rfl) ?_);intro K hK;(refine sUbX (And.intro hv hlk) ?_))
     (refine ⟨by kernel_rfl,_,.pure rfl (hrv),?_⟩;(try (refine sUb ?_)))
     (refine hK _ ?_;clear hK K)
     (refine W_cf rfl ?_)
     refine W_skip ?_
     simp only [thenW,blockW]
     ((refine W_regV ?_);intro K hK;(refine sUb ?_))
     (refine hK _ ?_;clear hK K)
     simp only [blockW,thenW]
     refine ⟨⟨k + 1,by omega,hnk hx⟩,Le_drop (by simp [leE]) (by simp [leH]) rfl rfl,?_⟩
     dsimp only
     omega
   ·obtain rfl : k = V.length := by omega
    refine W_seq ?_
    ((refine W_seqV ?_);intro K hK;(refine sUb ?_))
    (refine hK _ ?_;clear hK K)
    (refine W_cf rfl ?_)
    refine W_exit ?_
    simp only [thenW,blockW,if_true]
    ((refine W_regV ?_);intro K hK;(refine sUb ?_))
    (refine hK _ ?_;clear hK K)
    simp only [thenW,blockW]
    refine ⟨⟨i + 1,by omega,hnx fun v hv => ?_⟩,Le_drop (by simp [leE]) (by simp [leH]) rfl rfl,?_⟩
    ·obtain ⟨j,hj,rfl⟩ := List.getElem_of_mem hv
     have := hpr3 j hj
     rwa [show V.getD j 0 = V[j] by simp [List.getD_eq_getElem?_getD,hj]] at this
    ·dsimp only
     omega
  ·obtain rfl : i = t.length := by omega
   have hG : GT n M := hof (by omega) (by omega) (fun j hj => hpre j (by omega)) fun j hj p hp => hpr2 j (by omega) p.1 (List.mem_map.2 ⟨p,hp,rfl⟩)
   rw [hgT hG]
   refine W_seq ?_
   ((refine W_seqV ?_);intro K hK;(refine sUb ?_))
   (refine hK _ ?_;clear hK K)
   (refine W_cf rfl ?_)
   refine W_exit ?_
   simp only [thenW,blockW,if_true]
   (repeat' (first | (refine W_seqV fun K hK => ?_;(try (refine sUb ?_));refine hK _ ?_;clear hK K) | (refine W_ret ?_;(refine qG ?_;try exact True.intro))))
end Go.Proofs.YtjmpajgjaefcjaaGreat.Vm
namespace Go.Proofs.YtjmpajgjaefcjaaGreat.Vm
open Go Go.RowKit
set_option linter.unusedVariables false
set_option linter.unusedSimpArgs false
def NewSV (base : Nat) (w : World) (F : Nat → Prop) (T : TypeId) (k : Nat) (pre : List AV) (rows : List (List AV)) (v : Value) : Prop :=
 ∃ vs x,v = .agg (vs ++ [x]).toArray ∧ Rps w F noPl pre vs ∧ NewA base w F T k rows x
def NewS (P : Program) (g : FuncId) (args : List AV) (T : TypeId) (k : Nat) (pre : List AV) (R : List (List AV) → Prop) : Prop :=
 pre.all AV.flat = true ∧ ∀ (w : World) (vals : List Value) (F : Nat → Prop),(∀ k,F k → k < w.heap.size) → Rps w F noPl args vals →
  Calls P g vals.toArray w fun e w' => ∃ v rows,e = .returned v ∧ R rows ∧ Below w.heap.size w w' ∧ NewSV w.heap.size w' F T k pre rows v
theorem flats_any {w w' : World} {A A' : Nat → Prop} {ρ ρ' : Pl} : ∀ (l : List AV) {vs : List Value},l.all AV.flat = true → Rps w A ρ l vs → Rps w' A' ρ' l vs
 | [],_,_,h => by simpa only [Rps] using h
 | x::l,vs,hf,h => by
  simp only [List.all_cons,Bool.and_eq_true] at hf
  simp only [Rps] at h ⊢
  obtain ⟨v,us,h1,h2,h3⟩ := h
  exact ⟨v,us,h1,flat_any x hf.1 h2,flats_any l hf.2 h3⟩
def newSK (T : TypeId) (k : Nat) (pre : List AV) (R : List (List AV) → Prop) (hp : List Ob) : AV → Prop
 | .agg cells => ∃ x,cells = pre ++ [x] ∧ newK T k R hp x
 | _ => False
def newSQ (P : Program) (rs : List ResultVar) (T : TypeId) (k : Nat) (pre : List AV) (R : List (List AV) → Prop) : Exit → St → Prop
 | .normal,s => resW P s rs fun xs => newSK T k pre R s.hp (asOne xs)
 | .ret,s => resW P s rs fun xs => newSK T k pre R s.hp (asOne xs)
 | _,_ => False
theorem newK_A {fr : Fr} {ρ : Pl} {s : St} {a : Act} {w : World} (hr : Rep fr ρ s a w) (hpins : fr.pins = []) {T : TypeId} {k : Nat} {R : List (List AV) → Prop} {x : AV} {v : Value} (h1 : newK T k R s.hp x) (h3 : Rp w (Av fr.F ρ) ρ x v) :
  ∃ rows,R rows ∧ NewA fr.base w fr.F T k rows v := by
 cases x with
 | nils =>
  simp only [Rp] at h3
  exact ⟨[],h1,.inl ⟨h3,rfl⟩⟩
 | sref i off n =>
  obtain ⟨rows,rfl,rfl,hi,hR⟩ := h1
  have ho := hr.heap i
  rw [show s.hp.getD i .dead = .arr T k true rows by simp [List.getD_eq_getElem?_getD,hi]] at ho
  simp only [Rp] at h3
  rcases h3 with ⟨g1,g2,g3,g4⟩ | ⟨b,s',cap,len,x,g1,g2,g3,g4⟩
  ·exact ⟨rows,hR,.inl ⟨g4,List.eq_nil_of_length_eq_zero g3⟩⟩
  ·rw [g1] at ho
   obtain ⟨e1,e2,vss,rest,e3,e4,e5⟩ := ho
   subst e1
   have hx0 := g4 (.inr trivial)
   rw [Nat.zero_mul] at hx0
   subst hx0
   refine ⟨rows,hR,.inr ⟨b,cap,?_,by rw [g3,Nat.sub_zero],vss,rest,e3,?_,e5⟩⟩
   ·rcases hr.mine i _ b g1 rfl with h4 | h4
    ·exact h4
    ·exact absurd h4.1 (by simp [hpins])
   ·exact RpR.later (ρ := noPl) _ ⟨Nat.le_refl _,fun c _ hc => by
     rcases hc with hc | rfl
     ·exact .inl hc
     ·exact .inr ⟨i,_,g1,rfl⟩,fun _ _ _ => rfl,fun _ _ h => h⟩ e4
 | _ => exact h1.elim
theorem newS_of_W {P : Program} {g : FuncId} {fn : Func} {c : Code} {args : List AV} {T : TypeId} {k : Nat} {pre : List AV} {R : List (List AV) → Prop} (hf : P.funcs[g]? = some fn) (hb : fn.body = some c) {rs : List ResultVar} (hrs : fn.results.toList = rs) {nt : Nat} (hn : fn.ntmps = nt) (hpre : pre.all AV.flat = true)
  (h : W P [] c (newSQ P rs T k pre R) ⟨args ++ List.replicate (nt - args.length) .und,List.replicate nt .dead⟩) : NewS P g args T k pre R := by
 subst hrs;subst hn
 refine ⟨hpre,fun w vals F hF hv => ?_⟩
 have hlen := hv.length
 refine calls_of_wp hf hb ?_
 let fr : Fr := ⟨w.heap.size,w,F,fun _ => False,[],noPl,fun _ _ h => h⟩
 have hA : Av F noPl = F := by
  funext k
  simp [Av,noPl]
 have hrep : Rep fr noPl ⟨args ++ List.replicate (fn.ntmps - args.length) .und,List.replicate fn.ntmps .dead⟩ { tmps := vals.toArray ++ Array.replicate (fn.ntmps - vals.toArray.size) undef,defers := [] } w := by
  refine { keep := ⟨rfl,rfl,rfl,Nat.le_refl _,fun _ _ _ => rfl⟩,base := Nat.le_refl _,defers := rfl,heap := fun i => ?_,inj := (fun i j p q b hi => by cases hi),mine := (fun i p b hi => by cases hi),fF := hF,pin := (fun i hi => by cases hi),env := ?_ }
  ·show HRo _ _ _ ((List.replicate fn.ntmps Ob.dead).getD i .dead) _
   rw [show (List.replicate fn.ntmps Ob.dead).getD i .dead = .dead by
    rw [List.getD_eq_getElem?_getD,List.getElem?_replicate];split <;> rfl]
   rfl
  ·show Rps w (Av F noPl) noPl _ _
   rw [hA]
   have h1 : (vals.toArray ++ Array.replicate (fn.ntmps - vals.toArray.size) undef).toList = vals ++ List.replicate (fn.ntmps - args.length) undef := by
    simp [hlen]
   rw [h1]
   refine hv.append (Rps.mk (by simp) fun i x v hx hv => ?_)
   rw [List.getElem?_replicate] at hx hv
   split at hx
   ·rename_i hi;rw [if_pos hi] at hv;cases hx;cases hv;simp only [Rp]
   ·cases hx
 refine Code.wp_mono (fun e a' w' he => ?_) (h fr noPl _ w rfl hrep)
 obtain ⟨s,ρ,hq,hr⟩ := he
 have fin : resW P s fn.results.toList (fun xs => newSK T k pre R s.hp (asOne xs)) → a'.defers = [] ∧ ∃ v,(results fn a'.tmps).run P w' = .ok v w' ∧ ∃ v2 rows,Ending.returned v = .returned v2 ∧ R rows ∧ Below w.heap.size w w' ∧ NewSV w.heap.size w' F T k pre rows v2 := by
  intro hk
  obtain ⟨xs,v,h1,h2,h3⟩ := results_sound hr fn hk
  have hbel : Below w.heap.size w w' := ⟨hr.keep.os,hr.keep.tape,hr.keep.output,hr.keep.size,fun k hk => hr.keep.block k hk (fun h => h)⟩
  refine ⟨hr.defers,v,h2,?_⟩
  cases hx : asOne xs with
  | agg cells =>
   rw [hx] at h1 h3
   obtain ⟨x,rfl,hkx⟩ := h1
   simp only [Rp] at h3
   obtain ⟨vs0,rfl,h4⟩ := h3
   obtain ⟨vs,us,rfl,h5,h6⟩ := h4.of_append
   simp only [Rps] at h6
   obtain ⟨y,_,rfl,h7,rfl⟩ := h6
   obtain ⟨rows,hR,hN⟩ := newK_A hr rfl hkx h7
   exact ⟨_,rows,rfl,hR,hbel,vs,y,rfl,flats_any _ hpre h5,hN⟩
  | _ => rw [hx] at h1;exact h1.elim
 cases e with
 | normal => exact fin hq
 | ret => exact fin hq
 | _ => exact hq.elim
theorem NewS.pure {P : Program} {g : FuncId} {args : List AV} {T : TypeId} {k : Nat} {pre : List AV} {R : List (List AV) → Prop} (h : NewS P g args T k pre R) : Pure P g args (fun r => ∃ rows,R rows ∧ r = .agg (pre ++ [.sl rows])) := by
 intro w vals F hF hv
 refine (h.2 w vals F hF hv).mono fun e w' he => ?_
 obtain ⟨v,rows,h1,h2,h3,vs,x,rfl,h5,h4⟩ := he
 refine ⟨_,_,h1,⟨rows,h2,rfl⟩,h3,?_⟩
 simp only [Rp]
 refine ⟨_,rfl,h5.append ?_⟩
 simp only [Rps,Rp]
 refine ⟨_,_,rfl,?_,rfl⟩
 rcases h4 with ⟨rfl,rfl⟩ | ⟨b,cap,hb,rfl,vss,rest,e1,e2,e3,e4,e5,e6⟩
 ·exact ⟨none,0,by simp,by simp,by simp [maxLen],.inl rfl⟩
 ·refine ⟨_,cap,rfl,e5,e6,.inr ⟨b,0,vss,rfl,fun hFb => ?_,(Array.getElem?_eq_some_iff.1 e1).1,?_,RpR.later (ρ := noPl) _ ⟨Nat.le_refl _,fun c _ hc => .inl hc,fun _ _ _ => rfl,fun _ _ h => h⟩ e2⟩⟩
  ·have := hF b hFb
   omega
  ·intro j u hj
   have h5 := (List.getElem?_eq_some_iff.1 hj).1
   simp only [World.cell?,Nat.zero_add]
   rw [e1]
   simp [List.getElem?_append_left h5,hj]
end Go.Proofs.YtjmpajgjaefcjaaGreat.Vm
/-
  The reference's tableaus: the rows by rising variables.
-/
namespace Go.Proofs.YtjmpajgjaefcjaaGreat.Vm
open Go Go.RowKit
set_option maxRecDepth 100000
set_option linter.unusedVariables false
set_option linter.unusedSimpArgs false
theorem sUc {G G' : Prop} (h : G') (e : G = G' := by conv => lhs; simp (disch := omega) only [rowsOf, cNat, cN, St.ret, St.seth, Eff.app, Eff.wi, sepL, guardOf, St.known, objOf, List.set, sliceW, litW, copyW, lenOf, bnd, mxOk, ofCells, TI.isAgg, cellsOf, storable, AV.one, dead, laid, overlay, reduceCtorEq, Int.reduceLE, Int.reduceLT, Int.reduceSub, Int.reduceAdd, Nat.reduceMul, Int.reduceToNat, Nat.reducePow, Int.reduceNeg, Nat.reduceAdd, Nat.reduceLT, Nat.reduceLeDiff, sA, sB, Nat.reduceEqDiff, cQ, rowQ, rowU, rowT, rowM, i64s_getD, i64s_length, i64s_all, tab_length, tab_drop, tab_take, tab_append, tab_nil, rowT_all, rowT_one, rowT_pure, rowU_all, rowU_one, rowU_pure, rowQ_all, rowQ_one, rowQ_pure, rowM_all, rowM_one, rowM_pure, List.take_length, List.length_append, sT]) : G := e.mpr h
theorem sUcX {G G' P : Prop} (p : P) (h : G') (e : P → G = G' := by intro p; conv => lhs; simp (disch := omega) only [rowsOf, cNat, cN, St.ret, St.seth, Eff.app, Eff.wi, sepL, guardOf, St.known, objOf, List.set, sliceW, litW, copyW, lenOf, bnd, mxOk, ofCells, TI.isAgg, cellsOf, storable, AV.one, dead, laid, overlay, reduceCtorEq, Int.reduceLE, Int.reduceLT, Int.reduceSub, Int.reduceAdd, Nat.reduceMul, Int.reduceToNat, Nat.reducePow, Int.reduceNeg, Nat.reduceAdd, Nat.reduceLT, Nat.reduceLeDiff, sA, sB, Nat.reduceEqDiff, cQ, rowQ, rowU, rowT, rowM, i64s_getD, i64s_length, i64s_all, tab_length, tab_drop, tab_take, tab_append, tab_nil, rowT_all, rowT_one, rowT_pure, rowU_all, rowU_one, rowU_pure, rowQ_all, rowQ_one, rowQ_pure, rowM_all, rowM_one, rowM_pure, List.take_length, List.length_append, sT, p]) : G := (e p).mpr h
theorem aUc {G G' : Prop} (h : G') (f : Wr G' → G := by intro h; (repeat (first | (refine W_seqV fun K hK => ?_; (try (refine sUc ?_; try exact True.intro)); (repeat refine aI ?_); refine hK _ ?_; clear hK K) | (refine W_seqR fun K hK => ?_; (try (refine sUc ?_; try exact True.intro)); (repeat refine aI ?_); refine hK _ ?_; clear hK K) | (refine W_seqD mixed [] (by kernel_rfl) fun K hK => ?_; (try (refine sUc ?_; try exact True.intro)); (repeat refine aI ?_); refine hK _ ?_; clear hK K))); exact h.out) : G := f ⟨h⟩

def lastK (l : List Int) (k : Nat) : Int := if k = 0 then -1 else l.getD (k - 1) 0
theorem lastK_succ (l : List Int) (k : Nat) : lastK l (k + 1) = l.getD k 0 := by simp [lastK]
theorem next_least {l : List Int} (hl : l.Pairwise (· < ·)) (h0 : ∀ x ∈ l, 0 ≤ x) {k : Nat} (hk : k < l.length) : lastK l k < l.getD k 0 ∧ ∀ x ∈ l, lastK l k < x → l.getD k 0 ≤ x := by
  rw [List.pairwise_iff_getElem] at hl
  have hg : ∀ i (h : i < l.length), l.getD i 0 = l[i] := fun i h => by simp [List.getD_eq_getElem?_getD, h]
  unfold lastK
  rw [hg k hk]
  constructor
  · split
    · have := h0 l[k] (List.getElem_mem hk); omega
    · rw [hg (k - 1) (by omega)]
      exact hl (k - 1) k (by omega) hk (by omega)
  · intro x hx hlt
    obtain ⟨j, hj, rfl⟩ := List.getElem_of_mem hx
    by_cases hjk : j < k
    · exfalso
      rw [if_neg (by omega), hg (k - 1) (by omega)] at hlt
      by_cases h1 : j = k - 1
      · subst h1; omega
      · have := hl j (k - 1) hj (by omega) (by omega)
        omega
    · by_cases h1 : j = k
      · subst h1; omega
      · have := hl k j hk hj (by omega)
        omega
/-- The least of the first i that is above last: where it stands. -/
def Least (M : TM) (last : Int) (i : Nat) (a : Int) : Prop := (a = -1 ∧ ∀ j, j < i → (M.getD j default).1 ≤ last) ∨ ∃ m : Nat, a = (m : Int) ∧ m < i ∧ last < (M.getD m default).1 ∧ ∀ j, j < i → last < (M.getD j default).1 → (M.getD m default).1 ≤ (M.getD j default).1
set_option maxHeartbeats 4000000 in
theorem r7sorted_gen (n : Int) (t : TR) (hlen : t.length ≤ 68157440) (hpf : ∀ r ∈ t, PF r.2 8589934592) (hnod : (keys (nrmT t)).Nodup) (hpos : ∀ b ∈ keys (nrmT t), 0 ≤ b) : NewS Tryz.prog 64 [cT n t] 84 2 [.int .i64 n] (· = tab rowU (sortM (nrmT t))) := by
  have hml := nrmT_len t
  have hnd := fun i (hi : i < t.length) => nrmT_getD hi
  have hno : ∀ i, i < t.length → Pure Tryz.prog 86 [cF (t.getD i default).2] (· = cL (normF (vals (t.getD i default).2))) := fun i hi => f6norm_ok _ (hpf _ (getD_mem hi)) (by omega)
  have hll : (sortK (keys (nrmT t))).length = t.length := by rw [sortK_len, keys_len, hml]
  have hlast := fun k (hk : k < (sortK (keys (nrmT t))).length) => next_least (sortK_lt hnod) (fun x hx => hpos x (mem_sortK.1 hx)) hk
  have hkm : ∀ k, k < (sortK (keys (nrmT t))).length → ∃ j, j < (nrmT t).length ∧ ((nrmT t).getD j default).1 = (sortK (keys (nrmT t))).getD k 0 := fun k hk => by
    have : (sortK (keys (nrmT t))).getD k 0 ∈ keys (nrmT t) := mem_sortK.1 (by simp [List.getD_eq_getElem?_getD, hk])
    obtain ⟨j, _, h2, h3, _⟩ := look_idx this
    exact ⟨j, h2, h3⟩
  have hmk : ∀ m, m < (nrmT t).length → ((nrmT t).getD m default).1 ∈ sortK (keys (nrmT t)) := fun m hm => mem_sortK.2 (List.mem_map.2 ⟨_, getD_mem hm, rfl⟩)
  have hst : ∀ k m, k < (sortK (keys (nrmT t))).length → m < (nrmT t).length → ((nrmT t).getD m default).1 = (sortK (keys (nrmT t))).getD k 0 → (sortM (nrmT t)).take (k + 1) = (sortM (nrmT t)).take k ++ [(nrmT t).getD m default] := fun k m hk hm he => by
    rw [take_snoc (by rw [sortM_len, hml, ← hll]; exact hk), sortM_getD hk, ← he]
    have := idx_nodup hnod hm
    rw [(idx_some this).2.2.1]
    rfl
  have h0 : (sortM (nrmT t)).take 0 = [] := rfl
  have hall : (sortM (nrmT t)).take t.length = sortM (nrmT t) := by rw [← hml, ← sortM_len, List.take_length]
  have hln : ∀ i, i ≤ t.length → ((sortM (nrmT t)).take i).length = i := fun i hi => by rw [List.length_take, sortM_len]; omega
  clear hpf hnod hpos
  unfold cT at *
  rw [← hall]
  clear hall
  generalize hE : (fun i => (sortM (nrmT t)).take i) = E at *
  have hE' : ∀ i, (sortM (nrmT t)).take i = E i := fun i => congrFun hE i
  simp only [hE'] at *
  clear hE hE'
  generalize sortK (keys (nrmT t)) = l at *
  generalize nrmT t = M at *
  (refine newS_of_W (T := 84) (k := 2) (pre := [.int .i64 n]) Tryz.func64 rfl (rs := [Go.ResultVar.cell 2 24]) rfl (nt := 73) rfl rfl ?_; simp only [List.length_cons, List.length_nil, List.replicate, List.cons_append, List.nil_append])
  (refine aUc ?_)
  refine W.le ?_ (Le_nilO 3 0 1 70 84 2 true rfl rfl rfl rfl)
  simp only [List.set]
  refine W_seq ?_
  refine W_block (W_loop (fun s : {k : Nat // k ≤ t.length} =>
      ⟨(.any :: (.ptr 1 0 0) :: (.ptr 2 0 0) :: (.ptr 3 0 0) :: (.int .i64 (lastK l s.1)) :: .any :: .any :: .any :: .any :: .any :: .any :: .any :: .any :: .any :: .any :: .any :: .any :: .any :: .any :: .any :: .any :: .any :: .any :: .any :: .any :: .any :: .any :: .any :: .any :: .any :: .any :: .any :: .any :: .any :: .any :: .any :: .any :: .any :: .any :: .any :: .any :: .any :: .any :: .any :: .any :: .any :: .any :: .any :: .any :: .any :: .any :: .any :: .any :: .any :: .any :: .any :: .any :: .any :: .any :: .any :: .any :: .any :: .any :: .any :: .any :: .any :: .any :: .any :: .any :: .any :: .any :: .any :: .any :: []),
       (.dead :: (.arr 24 2 false [[.int .i64 n, .sl (tab rowT t)]]) :: (.arr 24 2 false [[.int .i64 0, .nils]]) :: (.arr 24 2 false [[.int .i64 n, .sref 70 0 s.1]]) :: .dead :: .dead :: .dead :: .dead :: .dead :: .dead :: .dead :: .dead :: .dead :: .dead :: .dead :: .dead :: .dead :: .dead :: .dead :: .dead :: .dead :: .dead :: .dead :: .dead :: .dead :: .dead :: .dead :: .dead :: .dead :: .dead :: .dead :: .dead :: .dead :: .dead :: .dead :: .dead :: .dead :: .dead :: .dead :: .dead :: .dead :: .dead :: .dead :: .dead :: .dead :: .dead :: .dead :: .dead :: .dead :: .dead :: .dead :: .dead :: .dead :: .dead :: .dead :: .dead :: .dead :: .dead :: .dead :: .dead :: .dead :: .dead :: .dead :: .dead :: .dead :: .dead :: .dead :: .dead :: .dead :: .dead :: (.arr 84 2 true (tab rowU (E s.1))) :: .dead :: .dead :: [])⟩) (fun s => t.length - s.1)
      ⟨0, by omega⟩ (Le_drop (by simp [leE, lastK]) (by simp [leH, h0, tab]) rfl rfl) fun s => ?_)
  obtain ⟨k, hk⟩ := s
  dsimp only
  by_cases hlt : k < t.length
  · obtain ⟨hgt, hleast⟩ := hlast k (by omega)
    have hstk := hst k
    have hlk := hln k (by omega)
    obtain ⟨j0, hj0, hj1⟩ := hkm k (by omega)
    have hls := lastK_succ l k
    generalize hlv : l.getD k 0 = v at *
    generalize hla : lastK l k = last at *
    generalize hE1 : E (k + 1) = o' at *
    generalize E k = o at *
    refine W_seq ?_
    ((refine W_seqV ?_); intro K hK; (refine sUcX hlt ?_))
    (refine hK _ ?_; clear hK K)
    (refine W_cond rfl (fun _ => ?_) (fun h => by cases h))
    refine W_skip ?_
    simp only [thenW]
    refine W_block ?_
    (refine aUc ?_)
    refine W_seq ?_
    ((refine W_seqV ?_); intro K hK; (refine sUc ?_))
    (refine hK _ ?_; clear hK K)
    refine W_block (W_loop (fun s : {p : Nat × Int // p.1 ≤ t.length ∧ Least M last p.1 p.2} =>
      ⟨(.any :: (.ptr 1 0 0) :: (.ptr 2 0 0) :: (.ptr 3 0 0) :: (.int .i64 last) :: (.int .i64 s.1.2) :: (.int .i64 s.1.1) :: .any :: .any :: .any :: .any :: .any :: .any :: .any :: .any :: .any :: .any :: .any :: .any :: .any :: .any :: .any :: .any :: .any :: .any :: .any :: .any :: .any :: .any :: .any :: .any :: .any :: .any :: .any :: .any :: .any :: .any :: .any :: .any :: .any :: .any :: .any :: .any :: .any :: .any :: .any :: .any :: .any :: .any :: .any :: .any :: .any :: .any :: .any :: .any :: .any :: .any :: .any :: .any :: .any :: .any :: .any :: .any :: .any :: .any :: .any :: .any :: .any :: .any :: .any :: .any :: .any :: .any :: []),
       (.dead :: (.arr 24 2 false [[.int .i64 n, .sl (tab rowT t)]]) :: (.arr 24 2 false [[.int .i64 0, .nils]]) :: (.arr 24 2 false [[.int .i64 n, .sref 70 0 k]]) :: .dead :: .dead :: .dead :: .dead :: .dead :: .dead :: .dead :: .dead :: .dead :: .dead :: .dead :: .dead :: .dead :: .dead :: .dead :: .dead :: .dead :: .dead :: .dead :: .dead :: .dead :: .dead :: .dead :: .dead :: .dead :: .dead :: .dead :: .dead :: .dead :: .dead :: .dead :: .dead :: .dead :: .dead :: .dead :: .dead :: .dead :: .dead :: .dead :: .dead :: .dead :: .dead :: .dead :: .dead :: .dead :: .dead :: .dead :: .dead :: .dead :: .dead :: .dead :: .dead :: .dead :: .dead :: .dead :: .dead :: .dead :: .dead :: .dead :: .dead :: .dead :: .dead :: .dead :: .dead :: .dead :: .dead :: (.arr 84 2 true (tab rowU o)) :: .dead :: .dead :: [])⟩) (fun s => t.length - s.1.1)
      ⟨(0, -1), by omega, .inl ⟨rfl, by omega⟩⟩ (Le_drop (by simp [leE]) (by simp [leH]) rfl rfl) fun s => ?_)
    obtain ⟨⟨i, a⟩, hi, ha⟩ := s
    dsimp only at *
    by_cases hil : i < t.length
    · have hti : (tab rowT t).getD i [] = rowT (t.getD i default) := tab_getD hil
      have hMi : (M.getD i default).1 = (t.getD i default).1 := by rw [hnd i hil]
      have hno1 : (M.getD i default).1 ≤ last → Least M last i a → Least M last (i + 1) a := fun h1 h2 => by
        rcases h2 with ⟨h3, h4⟩ | ⟨m, h3, h4, h5, h6⟩
        · exact .inl ⟨h3, fun j hj => by
            by_cases hji : j = i
            · subst hji; exact h1
            · exact h4 j (by omega)⟩
        · exact .inr ⟨m, h3, by omega, h5, fun j hj hl => by
            by_cases hji : j = i
            · subst hji; omega
            · exact h6 j (by omega) hl⟩
      have hnew : last < (M.getD i default).1 → (∀ j, j < i → last < (M.getD j default).1 → (M.getD i default).1 ≤ (M.getD j default).1) → Least M last (i + 1) (i : Int) := fun h1 h2 =>
        .inr ⟨i, rfl, by omega, h1, fun j hj hl => by
          by_cases hji : j = i
          · subst hji; exact Int.le_refl _
          · exact h2 j (by omega) hl⟩
      have hold : ∀ m : Nat, m < i → last < (M.getD m default).1 → (∀ j, j < i → last < (M.getD j default).1 → (M.getD m default).1 ≤ (M.getD j default).1) → (M.getD m default).1 ≤ (M.getD i default).1 → Least M last (i + 1) (m : Int) := fun m h1 h2 h3 h4 =>
        .inr ⟨m, rfl, by omega, h2, fun j hj hl => by
          by_cases hji : j = i
          · subst hji; exact h4
          · exact h3 j (by omega) hl⟩
      rw [hMi] at hno1 hnew hold
      generalize t.getD i default = r at *
      obtain ⟨b, f⟩ := r
      simp only [rowT] at hti
      dsimp only at *
      refine W_seq ?_
      ((refine W_seqV ?_); intro K hK; (refine sUcX hil ?_))
      (refine hK _ ?_; clear hK K)
      (refine W_cond rfl (fun _ => ?_) (fun h => by cases h))
      refine W_skip ?_
      simp only [thenW]
      refine W_seq ?_
      refine W_block ?_
      refine W_seq ?_
      by_cases c1 : last < b
      · rcases ha with ⟨rfl, hle⟩ | ⟨m, rfl, hm, hmgt, hmle⟩
        · ((refine W_regD mixed [] (by kernel_rfl) ?_); intro K hK; (refine sUcX (And.intro hti (And.intro hil c1)) ?_))
          (refine hK _ ?_; clear hK K)
          simp only [thenW]
          (refine W_cond rfl (fun _ => ?_) (fun h => by cases h))
          ((refine W_regV ?_); intro K hK; (refine sUc ?_))
          (refine hK _ ?_; clear hK K)
          simp only [thenW, blockW]
          ((refine W_regV ?_); intro K hK; (refine sUc ?_))
          (refine hK _ ?_; clear hK K)
          simp only [blockW, thenW]
          refine ⟨⟨(i + 1, (i : Int)), by dsimp only; omega, hnew c1 fun j hj hl => by have := hle j hj; omega⟩, Le_drop (by simp [leE]) (by simp [leH]) rfl rfl, ?_⟩
          dsimp only
          omega
        · have hXm : (tab rowT t).getD m [] = rowT (t.getD m default) := tab_getD (by omega)
          have hMm : (M.getD m default).1 = (t.getD m default).1 := by rw [hnd m (by omega)]
          have hm0 : ¬ ((m : Int) < 0) := by omega
          have hmt : m < t.length := by omega
          have hold2 := hold m hm hmgt hmle
          rw [hMm] at hold2 hmgt hmle
          generalize t.getD m default = r2 at *
          obtain ⟨b2, f2⟩ := r2
          simp only [rowT] at hXm
          dsimp only at *
          by_cases c2 : b < b2
          · ((refine W_regD mixed [] (by kernel_rfl) ?_); intro K hK; (refine sUcX (And.intro hti (And.intro hil (And.intro c1 (And.intro hXm (And.intro hmt (And.intro hm0 c2)))))) ?_))
            (refine hK _ ?_; clear hK K)
            simp only [thenW]
            (refine W_cond rfl (fun _ => ?_) (fun h => by cases h))
            ((refine W_regV ?_); intro K hK; (refine sUc ?_))
            (refine hK _ ?_; clear hK K)
            simp only [thenW, blockW]
            ((refine W_regV ?_); intro K hK; (refine sUc ?_))
            (refine hK _ ?_; clear hK K)
            simp only [blockW, thenW]
            refine ⟨⟨(i + 1, (i : Int)), by dsimp only; omega, hnew c1 fun j hj hl => by have := hmle j hj hl; omega⟩, Le_drop (by simp [leE]) (by simp [leH]) rfl rfl, ?_⟩
            dsimp only
            omega
          · ((refine W_regD mixed [] (by kernel_rfl) ?_); intro K hK; (refine sUcX (And.intro hti (And.intro hil (And.intro c1 (And.intro hXm (And.intro hmt (And.intro hm0 c2)))))) ?_))
            (refine hK _ ?_; clear hK K)
            simp only [thenW]
            (refine W_cond rfl (fun h => by cases h) (fun _ => ?_))
            refine W_skip ?_
            simp only [thenW, blockW]
            ((refine W_regV ?_); intro K hK; (refine sUc ?_))
            (refine hK _ ?_; clear hK K)
            simp only [blockW, thenW]
            refine ⟨⟨(i + 1, (m : Int)), by dsimp only; omega, hold2 (by omega)⟩, Le_drop (by simp [leE]) (by simp [leH]) rfl rfl, ?_⟩
            dsimp only
            omega
      · ((refine W_regD mixed [] (by kernel_rfl) ?_); intro K hK; (refine sUcX (And.intro hti (And.intro hil c1)) ?_))
        (refine hK _ ?_; clear hK K)
        simp only [thenW]
        (refine W_cond rfl (fun h => by cases h) (fun _ => ?_))
        refine W_skip ?_
        simp only [thenW, blockW]
        ((refine W_regV ?_); intro K hK; (refine sUc ?_))
        (refine hK _ ?_; clear hK K)
        simp only [blockW, thenW]
        refine ⟨⟨(i + 1, a), by dsimp only; omega, hno1 (by omega) ha⟩, Le_drop (by simp [leE]) (by simp [leH]) rfl rfl, ?_⟩
        dsimp only
        omega
    · obtain rfl : i = t.length := by omega
      obtain ⟨m, rfl, hm, hmgt, hmle⟩ : ∃ m : Nat, a = (m : Int) ∧ m < t.length ∧ last < (M.getD m default).1 ∧ ∀ j, j < t.length → last < (M.getD j default).1 → (M.getD m default).1 ≤ (M.getD j default).1 := by
        rcases ha with ⟨_, h⟩ | h
        · have := h j0 (by omega)
          omega
        · exact h
      have hmv : (M.getD m default).1 = v := by
        have e1 := hmle j0 (by omega) (by omega)
        have e2 := hleast _ (hmk m (by omega)) hmgt
        omega
      have hst2 := hstk m (by omega) (by omega) hmv
      have hXm : (tab rowT t).getD m [] = rowT (t.getD m default) := tab_getD hm
      have hnom := hno m hm
      rw [hnd m hm] at hst2 hmv
      generalize t.getD m default = r2 at *
      obtain ⟨b2, f2⟩ := r2
      simp only [rowT] at hXm
      dsimp only at *
      simp only [cF, cL] at hnom
      subst hmv
      refine W_seq ?_
      ((refine W_seqV ?_); intro K hK; (refine sUc ?_))
      (refine hK _ ?_; clear hK K)
      (refine W_cond rfl (fun h => by cases h) (fun _ => ?_))
      refine W_exit ?_
      simp only [thenW, blockW, if_true]
      ((refine W_seqV ?_); intro K hK; (refine sUcX (And.intro hXm hm) ?_))
      (refine hK _ ?_; clear hK K)
      ((refine W_regS mixed 12 [] (by kernel_rfl) ?_); intro K hK; (refine sUcX (And.intro hXm hm) ?_))
      (refine ⟨by kernel_rfl, _, .pure rfl (hnom), ?_⟩; (try (refine sUc ?_)); (repeat refine aI ?_))
      (refine hK _ ?_; clear hK K)
      simp only [thenW, blockW]
      refine ⟨⟨k + 1, by omega⟩, Le_drop (by simp [leE, hls]) (by simp [leH, hE1, hst2, ← tab_snoc, rowU, tab_take, List.take_of_length_le, hlk]) rfl rfl, ?_⟩
      dsimp only
      omega
  · obtain rfl : k = t.length := by omega
    refine W_seq ?_
    ((refine W_seqV ?_); intro K hK; (refine sUc ?_))
    (refine hK _ ?_; clear hK K)
    (refine W_cond rfl (fun h => by cases h) (fun _ => ?_))
    refine W_exit ?_
    simp only [thenW, blockW, if_true]
    have hlk := hln t.length (Nat.le_refl _)
    generalize E t.length = o at *
    (refine aUc ?_)
    refine W_ret ?_
    (simp only [thenW, blockW, newSQ, resW, resV, asOne_one, List.getD_cons_zero, List.getD_cons_succ, newSK])
    (refine sUc ?_; try exact True.intro)
    skip
    exact ⟨_, rfl, _, rfl, by rw [tab_length, hlk], rfl, rfl⟩
theorem r7sorted_new (n : Int) (t : TR) (hT : TOk t) (hnod : (keys (nrmT t)).Nodup) (hpos : ∀ b ∈ keys (nrmT t), 0 ≤ b) : NewS Tryz.prog 64 [cT n t] 84 2 [.int .i64 n] (· = tab rowU (sortM (nrmT t))) :=
  r7sorted_gen n t hT.len (fun r hr => (hT.pf hr).mono (by omega)) hnod hpos
theorem r7sorted_ok (n : Int) (t : TR) (hT : TOk t) (hnod : (keys (nrmT t)).Nodup) (hpos : ∀ b ∈ keys (nrmT t), 0 ≤ b) : Pure Tryz.prog 64 [cT n t] (· = cU n (sortM (nrmT t))) :=
  (r7sorted_new n t hT hnod hpos).pure.mono fun r ⟨rows, h1, h2⟩ => by
    subst h1
    exact h2
end Go.Proofs.YtjmpajgjaefcjaaGreat.Vm

namespace Go.Proofs.YtjmpajgjaefcjaaGreat.Vm
open Go Go.RowKit
set_option maxRecDepth 100000
set_option linter.unusedVariables false
set_option linter.unusedSimpArgs false
theorem TOk.sorted {t : TR} (h : TOk t) {n : Int} (hg : goodB n (nrmT t) = true) : Pure Tryz.prog 64 [cT n t] (· = cU n (sortM (nrmT t))) :=
 r7sorted_ok n t h (gt_iff.1 hg).nodup fun b hb => ((gt_iff.1 hg).range b hb).1
theorem inR_in {n v : Int} (h : ¬ v < 0) (h2 : ¬ n ≤ v) : inR n v = true := inR_iff.2 (by omega)
theorem nat_ltI (j : Nat) : decide ((j : Int) < 0) = false := by simp
theorem nat_geI (j : Nat) : decide (0 ≤ (j : Int)) = true := by simp
def belowK (l : List Int) : Nat → Nat
 | 0 => 0
 | v + 1 => if (v : Int) ∈ l then belowK l v + 1 else belowK l v
theorem sVc {G G' : Prop} (h : G') (e : G = G' := by conv => lhs;simp (disch := omega) only [rowsOf,cNat,cN,St.ret,St.seth,Eff.app,Eff.wi,sepL,guardOf,St.known,objOf,List.set,sliceW,litW,copyW,lenOf,bnd,mxOk,ofCells,TI.isAgg,cellsOf,storable,AV.one,dead,laid,overlay,reduceCtorEq,Int.reduceLE,Int.reduceLT,Int.reduceSub,Int.reduceAdd,Nat.reduceMul,Int.reduceToNat,Nat.reducePow,Int.reduceNeg,Nat.reduceAdd,Nat.reduceLT,Nat.reduceLeDiff,sA,sB,Nat.reduceEqDiff,cQ,rowQ,rowU,rowT,rowM,i64s_getD,i64s_length,i64s_all,i64s_take,i64s_drop,i64s_set,i64s_one,i64s_pure,i64s_append,tab_length,tab_drop,tab_take,tab_append,tab_nil,rowT_all,rowT_one,rowT_pure,rowU_all,rowU_one,rowU_pure,rowQ_all,rowQ_one,rowQ_pure,rowM_all,rowM_one,rowM_pure,List.take_length,List.length_append,sT]) : G := e.mpr h
theorem sVcX {G G' P : Prop} (p : P) (h : G') (e : P → G = G' := by intro p;conv => lhs;simp (disch := omega) only [rowsOf,cNat,cN,St.ret,St.seth,Eff.app,Eff.wi,sepL,guardOf,St.known,objOf,List.set,sliceW,litW,copyW,lenOf,bnd,mxOk,ofCells,TI.isAgg,cellsOf,storable,AV.one,dead,laid,overlay,reduceCtorEq,Int.reduceLE,Int.reduceLT,Int.reduceSub,Int.reduceAdd,Nat.reduceMul,Int.reduceToNat,Nat.reducePow,Int.reduceNeg,Nat.reduceAdd,Nat.reduceLT,Nat.reduceLeDiff,sA,sB,Nat.reduceEqDiff,cQ,rowQ,rowU,rowT,rowM,i64s_getD,i64s_length,i64s_all,i64s_take,i64s_drop,i64s_set,i64s_one,i64s_pure,i64s_append,tab_length,tab_drop,tab_take,tab_append,tab_nil,rowT_all,rowT_one,rowT_pure,rowU_all,rowU_one,rowU_pure,rowQ_all,rowQ_one,rowQ_pure,rowM_all,rowM_one,rowM_pure,List.take_length,List.length_append,sT,p]) : G := (e p).mpr h
theorem sVcV {G G' : Prop} (h : G') (e : G = G' := by conv => lhs;simp (disch := omega) only [rowsOf,cNat,cN,St.ret,St.seth,Eff.app,Eff.wi,sepL,guardOf,St.known,objOf,List.set,sliceW,litW,copyW,lenOf,bnd,mxOk,ofCells,TI.isAgg,cellsOf,storable,AV.one,dead,laid,overlay,reduceCtorEq,Int.reduceLE,Int.reduceLT,Int.reduceSub,Int.reduceAdd,Nat.reduceMul,Int.reduceToNat,Nat.reducePow,Int.reduceNeg,Nat.reduceAdd,Nat.reduceLT,Nat.reduceLeDiff,sA,sB,Nat.reduceEqDiff,cQ,rowQ,rowU,rowT,rowM,i64s_getD,i64s_length,i64s_all,i64s_take,i64s_drop,i64s_set,i64s_one,i64s_pure,i64s_append,tab_length,tab_drop,tab_take,tab_append,tab_nil,rowT_all,rowT_one,rowT_pure,rowU_all,rowU_one,rowU_pure,rowQ_all,rowQ_one,rowQ_pure,rowM_all,rowM_one,rowM_pure,List.take_length,List.length_append,sT,view_sref,viewRef,view_agg,views_cons,views_nil,view_bool,view_int,view_sl,view_nils,view_str,view_tup,view_nilif]) : G := e.mpr h
theorem aVc {G G' : Prop} (h : G') (f : Wr G' → G := by intro h;(repeat (first|(refine W_seqV fun K hK => ?_;(try (refine sVc ?_;try exact True.intro));(repeat refine aI ?_);refine hK _ ?_;clear hK K)|(refine W_seqR fun K hK => ?_;(try (refine sVc ?_;try exact True.intro));(repeat refine aI ?_);refine hK _ ?_;clear hK K)|(refine W_seqD mixed [] (by kernel_rfl) fun K hK => ?_;(try (refine sVc ?_;try exact True.intro));(repeat refine aI ?_);refine hK _ ?_;clear hK K)));exact h.out) : G := f ⟨h⟩
def delM (l : List (Int × RR)) (v : Int) : List (Int × RR) := l.filter fun p => !(p.1 == v)
theorem delM_take {l : List (Int × RR)} {v : Int} {i : Nat} (h : i < l.length) : delM (l.take (i + 1)) v = delM (l.take i) v ++ if (l.getD i default).1 = v then [] else [l.getD i default] := by
 unfold delM
 rw [List.take_succ_eq_append_getElem h,List.filter_append]
 have : l.getD i default = l[i] := by simp [List.getD_eq_getElem?_getD,h]
 rw [this]
 congr 1
 by_cases hv : l[i].1 = v
 ·simp [hv]
 ·simp [hv]
theorem vals_delM (l : List (Int × RR)) (v : Int) : vals (delM l v) = delF (vals l) v := by
 unfold vals delM delF
 rw [List.filter_map]
 rfl
theorem delM_len (l : List (Int × RR)) (v : Int) : (delM l v).length ≤ l.length := List.length_filter_le _ _
theorem FOk.del {f : List (Int × RR)} {B : Nat} (h : FOk f B) (v : Int) : FOk (delM f v) B :=
 ⟨fun p hp => h.ok p (List.mem_filter.1 hp).1,by rw [vals_delM];exact delF_sz h.sz v⟩
theorem froz_arrF {i : Nat} {rows rs : List (List AV)} {T : TypeId} {k : Nat} : Ob.froz i rows (.arr T k false rs) = .arr T k false (rs.map (AV.frozs i rows)) := rfl
def solvA (f : List (Int × RR)) (r : RR) (v : Int) : AV := if coef (vals f) v = 0 then .tup [.agg [.sl [],.bool false,.sl [],.sl []],.int .i64 61] else
 .tup [.agg (affQ (normF (scaleF (-(coef (vals f) v)⁻¹) (delF (vals f) v))) (-(coef (vals f) v)⁻¹ * r.v)),.int .i64 0]
theorem r6solve_ok (f : List (Int × RR)) (r : RR) (v : Int) {B : Nat} (hf : FOk f B) (hB : B < 1073741824) (hr : r.ok) :
  Pure Tryz.prog 96 [.agg (affM f r),.int .i64 v] (· = solvA f r v) := by
 have b0 := f6coef_ok f v (hf.pf (by omega)) (by omega)
 have hnc : nb (coef (vals f) v) ≤ 1 + B := (hf.pf (by omega)).coef v
 have b1 := f3inv_ok (qr (coef (vals f) v)) (qr_ok (by omega))
 rw [qr_v] at b1
 have b2 := f3neg_ok (qr (coef (vals f) v)⁻¹) (qr_ok (by rw [nb_inv];omega))
 rw [qr_v] at b2
 have hnn : nb (-(coef (vals f) v)⁻¹) ≤ 1 + B := by rw [nb_neg,nb_inv];exact hnc
 have hd := hf.del v
 have b3 := f6scale_ok (qr (-(coef (vals f) v)⁻¹)) (delM f v) (qr_ok (by omega)) (hd.pf (by omega)) (fun p hp => by
  have := hd.sz.mem (p := (p.1,p.2.v)) (List.mem_map.2 ⟨p,hp,rfl⟩)
  rw [qr_v]
  simp only at this
  omega) (by rw [qr_v];omega)
 rw [qr_v,vals_delM] at b3
 have b4 := f3mul_ok (qr (-(coef (vals f) v)⁻¹)) r (qr_ok (by omega)) hr
 rw [qr_v] at b4
 have hl : f.length < 1099511627776 := by have := hf.sz.l;rw [vals_length] at this;omega
 have hdl : ∀ i,(delM (f.take i) v).length ≤ f.length := fun i => by
  have := delM_len (f.take i) v
  rw [List.length_take] at this
  omega
 have hst := fun i (h : i < f.length) => delM_take (v := v) h
 have h0 : delM (f.take 0) v = [] := rfl
 have hall : delM (f.take f.length) v = delM f v := by rw [List.take_length]
 rw [← hall] at b3
 unfold solvA affM affQ
 generalize delF (vals f) v = D at *
 generalize coef (vals f) v = q at *
 generalize hE : (fun i => delM (f.take i) v) = E at *
 have hE' : ∀ i,delM (f.take i) v = E i := fun i => congrFun hE i
 simp only [hE'] at *
 clear hE hE'
 simp only [qr_av] at b1 b2 b3 b4
 by_cases hq : q = 0
 ·subst hq
  simp only [if_true] at b1 ⊢
  simp only [noQ,cQ,cF,cL,RR.av] at *
  (refine pureW Tryz.func96 rfl (rs := [Go.ResultVar.cell 4 121,Go.ResultVar.tmp 5]) rfl (n := 55) rfl ?_;simp only [List.length_cons,List.length_nil,List.replicate,List.cons_append,List.nil_append])
  (refine aVc ?_)
  ((refine W_seqV ?_);intro K hK;(refine sVc ?_))
  (refine ⟨by kernel_rfl,_,.pure rfl (b0),?_⟩;(try (refine sVc ?_)))
  (refine ⟨by kernel_rfl,_,.pure rfl (b1),?_⟩;(try (refine sVc ?_)))
  (refine hK _ ?_;clear hK K)
  (repeat' (first | (exfalso;simp at h;done) | (refine W_seqV fun K hK => ?_;(try (refine sVc ?_));refine hK _ ?_;clear hK K) | (refine W_ret ?_;(refine qG ?_)) | (refine W_cond rfl (fun h => ?_) (fun h => ?_) <;> (try simp only [cond_true,cond_false,ne_eq,cB] at h)) | refine W_seq ?_))
  (try (refine sVcV ?_;try exact True.intro))
 ·rw [if_neg hq] at b1 ⊢
  generalize -q⁻¹ = c at *
  generalize q⁻¹ = j at *
  generalize normF (scaleF c D) = G at *
  generalize c * r.v = m at *
  simp only [cQE,cQ,cF,cL,RR.av] at *
  (refine pureW Tryz.func96 rfl (rs := [Go.ResultVar.cell 4 121,Go.ResultVar.tmp 5]) rfl (n := 55) rfl ?_;simp only [List.length_cons,List.length_nil,List.replicate,List.cons_append,List.nil_append])
  (refine aVc ?_)
  ((refine W_seqV ?_);intro K hK;(refine sVc ?_))
  (refine ⟨by kernel_rfl,_,.pure rfl (b0),?_⟩;(try (refine sVc ?_)))
  (refine ⟨by kernel_rfl,_,.pure rfl (b1),?_⟩;(try (refine sVc ?_)))
  (refine hK _ ?_;clear hK K)
  (repeat' (first | (exfalso;simp at h;done) | (refine W_seqV fun K hK => ?_;(try (refine sVc ?_));refine hK _ ?_;clear hK K) | refine W_skip ?_ | (refine W_cond rfl (fun h => ?_) (fun h => ?_) <;> (try simp only [cond_true,cond_false,ne_eq,cB] at h)) | refine W_seq ?_))
  ((refine W_regV ?_);intro K hK;(refine sVc ?_))
  (refine ⟨by kernel_rfl,_,.pure rfl (b2),?_⟩;(try (refine sVc ?_)))
  (refine hK _ ?_;clear hK K)
  ((refine W_seqV ?_);intro K hK;(refine sVc ?_))
  (refine hK _ ?_;clear hK K)
  refine W.le ?_ (Le_nil 9 9 55 4 true rfl rfl)
  simp only [List.set]
  refine W_seq ?_
  ((refine W_seqV ?_);intro K hK;(refine sVc ?_))
  (refine hK _ ?_;clear hK K)
  refine W_block (W_loop (fun s : {i : Nat // i ≤ f.length} =>
   ⟨[.any,.int .i64 v,.ptr 2 0 0,.any,.ptr 4 0 0,.any,.any,.any,.ptr 8 0 0,.sref 9 0 (E s.1).length,.int .i64 s.1,.any,.any,.any,.any,.any,.any,.any,.any,.any,.any,.any,.any,.any,.any,.any,.any,.any,.any,.any,.any,.any,.any,.any,.any,.any,.any,.any,.any,.any,.any,.any,.any,.any,.any,.any,.any,.any,.any,.any,.any,.any,.any,.any,.any],[.dead,.dead,.arr 121 4 false [[.sl (tab rowM f),.bool r.neg,.sl (u32s r.num),.sl (u32s r.den)]],.dead,.arr 121 4 false [[.nils,.bool false,.nils,.nils]],.dead,.dead,.dead,.arr 53 3 false [[.bool (decide (c.num < 0)),.sl (u32s (limbs c.num.natAbs)),.sl (u32s (limbs c.den))]],.arr 55 4 true (tab rowM (E s.1)),.dead,.dead,.dead,.dead,.dead,.dead,.dead,.dead,.dead,.dead,.dead,.dead,.dead,.dead,.dead,.dead,.dead,.dead,.dead,.dead,.dead,.dead,.dead,.dead,.dead,.dead,.dead,.dead,.dead,.dead,.dead,.dead,.dead,.dead,.dead,.dead,.dead,.dead,.dead,.dead,.dead,.dead,.dead,.dead,.dead]⟩) (fun s => f.length - s.1)
   ⟨0,by omega⟩ (Le_drop (by simp [leE,h0]) (by simp [leH,h0,tab]) rfl rfl) fun s => ?_)
  obtain ⟨i,hi⟩ := s
  dsimp only
  by_cases hlt : i < f.length
  ·have hfi : (tab rowM f).getD i [] = rowM (f.getD i default) := tab_getD hlt
   have hsi := hst i hlt
   have hdi := hdl i
   generalize f.getD i default = p at *
   generalize hE1 : E (i + 1) = o' at *
   generalize E i = o at *
   obtain ⟨w,neg,nn,dd⟩ := p
   simp only [rowM] at hfi
   dsimp only at *
   refine W_seq ?_
   ((refine W_seqV ?_);intro K hK;(refine sVcX hlt ?_))
   (refine hK _ ?_;clear hK K)
   (refine W_ct rfl ?_)
   refine W_skip ?_
   simp only [thenW]
   refine W_seq ?_
   refine W_block ?_
   refine W_seq ?_
   by_cases hw : w = v
   ·have hwb : (w != v) = false := by simp [hw]
    rw [if_pos hw,List.append_nil] at hsi
    ((refine W_regV ?_);intro K hK;(refine sVcX (And.intro hlt (And.intro hfi hwb)) ?_))
    (refine hK _ ?_;clear hK K)
    simp only [thenW]
    (refine W_cf rfl ?_)
    refine W_skip ?_
    simp only [thenW,blockW]
    ((refine W_regV ?_);intro K hK;(refine sVc ?_))
    (refine hK _ ?_;clear hK K)
    simp only [blockW,thenW]
    refine ⟨⟨i + 1,by omega⟩,Le_drop (by simp [leE,hE1,hsi]) (by simp [leH,hE1,hsi]) rfl rfl,?_⟩
    dsimp only
    omega
   ·have hwb : (w != v) = true := by simp [hw]
    rw [if_neg hw] at hsi
    ((refine W_regV ?_);intro K hK;(refine sVcX (And.intro hlt (And.intro hfi hwb)) ?_))
    (refine hK _ ?_;clear hK K)
    simp only [thenW]
    (refine W_ct rfl ?_)
    refine W_regR fun K hK => ?_
    (refine sVcX (And.intro hfi hlt) ?_;try exact True.intro)
    (repeat refine aI ?_)
    refine hK _ ?_
    clear hK K
    simp only [thenW,blockW]
    ((refine W_regV ?_);intro K hK;(refine sVc ?_))
    (refine hK _ ?_;clear hK K)
    simp only [blockW,thenW]
    refine ⟨⟨i + 1,by omega⟩,Le_drop (by simp [leE,hE1,hsi]) (by simp [leH,hE1,hsi,← tab_snoc,rowM,tab_take,List.take_of_length_le]) rfl rfl,?_⟩
    dsimp only
    omega
  ·obtain rfl : i = f.length := by omega
   have hdi := hdl f.length
   generalize E f.length = o at *
   refine W_seq ?_
   ((refine W_seqV ?_);intro K hK;(refine sVc ?_))
   (refine hK _ ?_;clear hK K)
   (refine W_cf rfl ?_)
   refine W_exit ?_
   simp only [thenW,blockW,if_true]
   (refine W.le ?_ (Le_freeze 9 (rows := tab rowM o) rfl (by simp) (.inl rfl));simp only [St.freeze,List.map_cons,List.map_nil,List.set,if_true,if_false,Nat.reduceEqDiff,reduceCtorEq,List.drop_zero,u32s_take,u32s_drop,froz_any,froz_und,froz_int,froz_bool,froz_str,froz_nils,froz_sl,froz_ia,froz_nilp,froz_nilif,froz_nilfn,froz_nilmp,froz_gl,froz_sref,froz_ptr,froz_agg,froz_tup,froz_fn,froz_ifc,frozs_nil,frozs_cons,froz_dead,froz_arr,froz_mp,froz_it,froz_md,froz_map,froz_iter])
   simp only [froz_arrF,List.map_cons,List.map_nil,frozs_cons,frozs_nil,froz_bool,froz_sl,froz_nils,froz_int]
   ((refine W_seqD mixed [] (by kernel_rfl) ?_);intro K hK;(refine sVcX hdi ?_))
   (refine ⟨by kernel_rfl,_,.pure rfl (b3),?_⟩;(try (refine sVc ?_)))
   (refine ⟨by kernel_rfl,_,.pure rfl (b4),?_⟩;(try (refine sVc ?_)))
   (refine hK _ ?_;clear hK K)
   (repeat' (refine W_ret ?_;(refine qG ?_)))
   (try (refine sVcV ?_;try exact True.intro))
def subsA (f : List (Int × RR)) (r : RR) (v : Int) (g : List (Int × RR)) (s : RR) : AV := .agg (affQ (normF (delF (vals f) v ++ normF (scaleF (coef (vals f) v) (vals g)))) (r.v + coef (vals f) v * s.v))
theorem r6subst_ok (f : List (Int × RR)) (r : RR) (v : Int) (g : List (Int × RR)) (s : RR) {B C : Nat} (hf : FOk f B) (hg : FOk g C) (hr : r.ok) (hs : s.ok) (hB : B < 1073741824) (hC : C < 1073741824) (hgn : NF (vals g)) (hz : nb s.v < 1073741824) :
  Pure Tryz.prog 97 [.agg (affM f r),.int .i64 v,.agg (affM g s)] (· = subsA f r v g s) := by
 have b0 := f6coef_ok f v (hf.pf (by omega)) (by omega)
 have hnc : nb (coef (vals f) v) ≤ 1 + B := (hf.pf (by omega)).coef v
 have hd := hf.del v
 have b1 := f6scale_ok (qr (coef (vals f) v)) g (qr_ok (by omega)) (hg.pf (by omega)) (fun p hp => by
  have := hg.sz.mem (p := (p.1,p.2.v)) (List.mem_map.2 ⟨p,hp,rfl⟩)
  rw [qr_v]
  simp only at this
  omega) (by rw [qr_v];omega)
 rw [qr_v] at b1
 have hgs : Sz (normF (scaleF (coef (vals f) v) (vals g))) (1 + B + C) := ((hg.sz.scale hgn (coef (vals f) v)).norm).mono (by omega)
 have hgf := FOk.rf hgs (by omega)
 have hdl0 : (delM f v).length ≤ B := by have := hd.sz.l;rwa [vals_length] at this
 have hgl0 : (rf (normF (scaleF (coef (vals f) v) (vals g)))).length ≤ 1 + B + C := by have := hgf.sz.l;rwa [vals_length] at this
 have b2 := f6add_ok (delM f v) (rf (normF (scaleF (coef (vals f) v) (vals g)))) (hd.pf (by omega)) (hgf.pf (by omega)) (by omega) (by omega)
 rw [vals_rf,cF_rf,vals_delM] at b2
 have b3 := f3mul_ok (qr (coef (vals f) v)) s (qr_ok (by omega)) hs
 rw [qr_v] at b3
 have hnm := nb_mul (coef (vals f) v) s.v
 have b4 := f3add_ok r (qr (coef (vals f) v * s.v)) hr (qr_ok (by omega))
 rw [qr_v] at b4
 have hl : f.length < 1099511627776 := by have := hf.sz.l;rw [vals_length] at this;omega
 have hdl : ∀ i,(delM (f.take i) v).length ≤ f.length := fun i => by
  have := delM_len (f.take i) v
  rw [List.length_take] at this
  omega
 have hst := fun i (h : i < f.length) => delM_take (v := v) h
 have h0 : delM (f.take 0) v = [] := rfl
 have hall : delM (f.take f.length) v = delM f v := by rw [List.take_length]
 rw [← hall] at b2
 clear hgs hgf hd hf hdl0 hgl0
 unfold subsA affM affQ
 generalize delF (vals f) v = D at *
 generalize coef (vals f) v = c at *
 generalize normF (scaleF c (vals g)) = X at *
 generalize normF (D ++ X) = G at *
 generalize c * s.v = m at *
 generalize r.v + m = a at *
 generalize hE : (fun i => delM (f.take i) v) = E at *
 have hE' : ∀ i,delM (f.take i) v = E i := fun i => congrFun hE i
 simp only [hE'] at *
 clear hE hE'
 simp only [qr_av] at b1 b2 b3 b4
 simp only [cQ,cF,cL,RR.av] at *
 (refine pureW Tryz.func97 rfl (rs := [Go.ResultVar.cell 6 121]) rfl (n := 51) rfl ?_;simp only [List.length_cons,List.length_nil,List.replicate,List.cons_append,List.nil_append])
 (refine aVc ?_)
 ((refine W_seqV ?_);intro K hK;(refine sVc ?_))
 (refine ⟨by kernel_rfl,_,.pure rfl (b0),?_⟩;(try (refine sVc ?_)))
 (refine hK _ ?_;clear hK K)
 ((refine W_seqV ?_);intro K hK;(refine sVc ?_))
 (refine hK _ ?_;clear hK K)
 refine W.le ?_ (Le_nil 8 8 55 4 true rfl rfl)
 simp only [List.set]
 refine W_seq ?_
 ((refine W_seqV ?_);intro K hK;(refine sVc ?_))
 (refine hK _ ?_;clear hK K)
 refine W_block (W_loop (fun z : {i : Nat // i ≤ f.length} =>
  ⟨[.any,.int .i64 v,.any,.ptr 3 0 0,.any,.ptr 5 0 0,.ptr 6 0 0,.ptr 7 0 0,.sref 8 0 (E z.1).length,.int .i64 z.1,.any,.any,.any,.any,.any,.any,.any,.any,.any,.any,.any,.any,.any,.any,.any,.any,.any,.any,.any,.any,.any,.any,.any,.any,.any,.any,.any,.any,.any,.any,.any,.any,.any,.any,.any,.any,.any,.any,.any,.any,.any],[.dead,.dead,.dead,.arr 121 4 false [[.sl (tab rowM f),.bool r.neg,.sl (u32s r.num),.sl (u32s r.den)]],.dead,.arr 121 4 false [[.sl (tab rowM g),.bool s.neg,.sl (u32s s.num),.sl (u32s s.den)]],.arr 121 4 false [[.nils,.bool false,.nils,.nils]],.arr 53 3 false [[.bool (decide (c.num < 0)),.sl (u32s (limbs c.num.natAbs)),.sl (u32s (limbs c.den))]],.arr 55 4 true (tab rowM (E z.1)),.dead,.dead,.dead,.dead,.dead,.dead,.dead,.dead,.dead,.dead,.dead,.dead,.dead,.dead,.dead,.dead,.dead,.dead,.dead,.dead,.dead,.dead,.dead,.dead,.dead,.dead,.dead,.dead,.dead,.dead,.dead,.dead,.dead,.dead,.dead,.dead,.dead,.dead,.dead,.dead,.dead,.dead]⟩) (fun z => f.length - z.1)
  ⟨0,by omega⟩ (Le_drop (by simp [leE,h0]) (by simp [leH,h0,tab]) rfl rfl) fun z => ?_)
 obtain ⟨i,hi⟩ := z
 dsimp only
 by_cases hlt : i < f.length
 ·have hfi : (tab rowM f).getD i [] = rowM (f.getD i default) := tab_getD hlt
  have hsi := hst i hlt
  have hdi := hdl i
  generalize f.getD i default = p at *
  generalize hE1 : E (i + 1) = o' at *
  generalize E i = o at *
  obtain ⟨w,neg,nn,dd⟩ := p
  simp only [rowM] at hfi
  dsimp only at *
  refine W_seq ?_
  ((refine W_seqV ?_);intro K hK;(refine sVcX hlt ?_))
  (refine hK _ ?_;clear hK K)
  (refine W_ct rfl ?_)
  refine W_skip ?_
  simp only [thenW]
  refine W_seq ?_
  refine W_block ?_
  refine W_seq ?_
  by_cases hw : w = v
  ·have hwb : (w != v) = false := by simp [hw]
   rw [if_pos hw,List.append_nil] at hsi
   ((refine W_regV ?_);intro K hK;(refine sVcX (And.intro hlt (And.intro hfi hwb)) ?_))
   (refine hK _ ?_;clear hK K)
   simp only [thenW]
   (refine W_cf rfl ?_)
   refine W_skip ?_
   simp only [thenW,blockW]
   ((refine W_regV ?_);intro K hK;(refine sVc ?_))
   (refine hK _ ?_;clear hK K)
   simp only [blockW,thenW]
   refine ⟨⟨i + 1,by omega⟩,Le_drop (by simp [leE,hE1,hsi]) (by simp [leH,hE1,hsi]) rfl rfl,?_⟩
   dsimp only
   omega
  ·have hwb : (w != v) = true := by simp [hw]
   rw [if_neg hw] at hsi
   ((refine W_regV ?_);intro K hK;(refine sVcX (And.intro hlt (And.intro hfi hwb)) ?_))
   (refine hK _ ?_;clear hK K)
   simp only [thenW]
   (refine W_ct rfl ?_)
   refine W_regR fun K hK => ?_
   (refine sVcX (And.intro hfi hlt) ?_;try exact True.intro)
   (repeat refine aI ?_)
   refine hK _ ?_
   clear hK K
   simp only [thenW,blockW]
   ((refine W_regV ?_);intro K hK;(refine sVc ?_))
   (refine hK _ ?_;clear hK K)
   simp only [blockW,thenW]
   refine ⟨⟨i + 1,by omega⟩,Le_drop (by simp [leE,hE1,hsi]) (by simp [leH,hE1,hsi,← tab_snoc,rowM,tab_take,List.take_of_length_le]) rfl rfl,?_⟩
   dsimp only
   omega
 ·obtain rfl : i = f.length := by omega
  have hdi := hdl f.length
  generalize E f.length = o at *
  refine W_seq ?_
  ((refine W_seqV ?_);intro K hK;(refine sVc ?_))
  (refine hK _ ?_;clear hK K)
  (refine W_cf rfl ?_)
  refine W_exit ?_
  simp only [thenW,blockW,if_true]
  (refine W.le ?_ (Le_freeze 8 (rows := tab rowM o) rfl (by simp) (.inl rfl));simp only [St.freeze,List.map_cons,List.map_nil,List.set,if_true,if_false,Nat.reduceEqDiff,reduceCtorEq,List.drop_zero,u32s_take,u32s_drop,froz_any,froz_und,froz_int,froz_bool,froz_str,froz_nils,froz_sl,froz_ia,froz_nilp,froz_nilif,froz_nilfn,froz_nilmp,froz_gl,froz_sref,froz_ptr,froz_agg,froz_tup,froz_fn,froz_ifc,frozs_nil,frozs_cons,froz_dead,froz_arr,froz_mp,froz_it,froz_md,froz_map,froz_iter])
  simp only [froz_arrF,List.map_cons,List.map_nil,frozs_cons,frozs_nil,froz_bool,froz_sl,froz_nils,froz_int]
  ((refine W_seqD mixed [] (by kernel_rfl) ?_);intro K hK;(refine sVcX hdi ?_))
  (refine ⟨by kernel_rfl,_,.pure rfl (b1),?_⟩;(try (refine sVc ?_)))
  (refine ⟨by kernel_rfl,_,.pure rfl (b2),?_⟩;(try (refine sVc ?_)))
  (refine ⟨by kernel_rfl,_,.pure rfl (b3),?_⟩;(try (refine sVc ?_)))
  (refine ⟨by kernel_rfl,_,.pure rfl (b4),?_⟩;(try (refine sVc ?_)))
  (refine hK _ ?_;clear hK K)
  (repeat' (refine W_ret ?_;(refine qG ?_)))
  (try (refine sVcV ?_;try exact True.intro))
theorem FormOk.pf {f : List (Int × RR)} (h : FormOk f) : PF f 68157441 := by
 have := h.sz
 exact (h.fok.pf (by omega)).mono (by omega)
theorem sortK_snoc {l : List Int} (hn : l.Nodup) {n : Int} (h : ∀ x ∈ l,x < n) : sortK (l ++ [n]) = sortK l ++ [n] := by
 refine sorted_ext ((sortK_perm _).trans ((sortK_perm l).symm.append_right [n])) (sortK_le _) ?_
 rw [List.pairwise_append]
 refine ⟨sortK_le l,by simp,fun a ha b hb => ?_⟩
 simp at hb
 subst hb
 have := h a (mem_sortK.1 ha)
 omega
theorem look_snoc {M : TM} {n b : Int} {g : List (Int × Rat)} (hb : b ∈ keys M) : lookM (M ++ [(n,g)]) b = lookM M b := by
 obtain ⟨j,h1,h2,h3,h4,h5⟩ := look_idx hb
 rw [h4]
 unfold lookM at h4 ⊢
 rw [List.find?_append]
 cases hf : M.find? fun r => r.1 == b with
 | none => rw [hf] at h4;cases h4
 | some r => rw [hf] at h4;simpa using h4
theorem sortM_snoc {M : TM} (hn : (keys M).Nodup) {n : Int} (h : ∀ x ∈ keys M,x < n) (g : List (Int × Rat)) : sortM (M ++ [(n,g)]) = sortM M ++ [(n,g)] := by
 unfold sortM
 rw [keys_append,show keys [(n,g)] = [n] from rfl,sortK_snoc hn h,List.map_append]
 congr 1
 ·refine List.map_congr_left fun b hb => ?_
  rw [look_snoc (mem_sortK.1 hb)]
 ·have hnn : n ∉ keys M := fun hm => by have := h n hm;omega
  have hnd : (keys (M ++ [(n,g)])).Nodup := by
   rw [keys_append,List.nodup_append]
   refine ⟨hn,by simp [keys],?_⟩
   rintro a ha b hb rfl
   simp [keys] at hb
   subst hb
   exact hnn ha
  simp only [List.map_cons,List.map_nil]
  rw [look_of hnd (g := g) (by simp)]
  rfl
theorem sUf {G G' : Prop} (h : G') (e : G = G' := by conv => lhs;simp (disch := omega) only [rowsOf,cNat,cN,St.ret,St.seth,Eff.app,Eff.wi,sepL,guardOf,St.known,objOf,List.set,sliceW,litW,copyW,lenOf,bnd,mxOk,ofCells,TI.isAgg,cellsOf,storable,AV.one,dead,laid,overlay,reduceCtorEq,Int.reduceLE,Int.reduceLT,Int.reduceSub,Int.reduceAdd,Nat.reduceMul,Int.reduceToNat,Nat.reducePow,Int.reduceNeg,Nat.reduceAdd,Nat.reduceLT,Nat.reduceLeDiff,sA,sB,Nat.reduceEqDiff,cQ,rowQ,rowU,rowT,rowM,i64s_getD,i64s_length,i64s_all,tab_length,tab_drop,tab_take,tab_append,tab_nil,rowT_all,rowT_one,rowT_pure,rowU_all,rowU_one,rowU_pure,rowQ_all,rowQ_one,rowQ_pure,rowM_all,rowM_one,rowM_pure,List.take_length,List.length_append,sT]) : G := e.mpr h
theorem sUfX {G G' P : Prop} (p : P) (h : G') (e : P → G = G' := by intro p;conv => lhs;simp (disch := omega) only [rowsOf,cNat,cN,St.ret,St.seth,Eff.app,Eff.wi,sepL,guardOf,St.known,objOf,List.set,sliceW,litW,copyW,lenOf,bnd,mxOk,ofCells,TI.isAgg,cellsOf,storable,AV.one,dead,laid,overlay,reduceCtorEq,Int.reduceLE,Int.reduceLT,Int.reduceSub,Int.reduceAdd,Nat.reduceMul,Int.reduceToNat,Nat.reducePow,Int.reduceNeg,Nat.reduceAdd,Nat.reduceLT,Nat.reduceLeDiff,sA,sB,Nat.reduceEqDiff,cQ,rowQ,rowU,rowT,rowM,i64s_getD,i64s_length,i64s_all,tab_length,tab_drop,tab_take,tab_append,tab_nil,rowT_all,rowT_one,rowT_pure,rowU_all,rowU_one,rowU_pure,rowQ_all,rowQ_one,rowQ_pure,rowM_all,rowM_one,rowM_pure,List.take_length,List.length_append,sT,p]) : G := (e p).mpr h
theorem sUfV {G G' : Prop} (h : G') (e : G = G' := by conv => lhs;simp (disch := omega) only [rowsOf,cNat,cN,St.ret,St.seth,Eff.app,Eff.wi,sepL,guardOf,St.known,objOf,List.set,sliceW,litW,copyW,lenOf,bnd,mxOk,ofCells,TI.isAgg,cellsOf,storable,AV.one,dead,laid,overlay,reduceCtorEq,Int.reduceLE,Int.reduceLT,Int.reduceSub,Int.reduceAdd,Nat.reduceMul,Int.reduceToNat,Nat.reducePow,Int.reduceNeg,Nat.reduceAdd,Nat.reduceLT,Nat.reduceLeDiff,sA,sB,Nat.reduceEqDiff,cQ,rowQ,rowU,rowT,rowM,i64s_getD,i64s_length,i64s_all,tab_length,tab_drop,tab_take,tab_append,tab_nil,rowT_all,rowT_one,rowT_pure,rowU_all,rowU_one,rowU_pure,rowQ_all,rowQ_one,rowQ_pure,rowM_all,rowM_one,rowM_pure,List.take_length,List.length_append,sT,view_sref,viewRef,view_agg,views_cons,views_nil,view_bool,view_int,view_sl,view_nils,view_str,view_tup,view_nilif]) : G := e.mpr h
theorem aUf {G G' : Prop} (h : G') (f : Wr G' → G := by intro h;(repeat (first|(refine W_seqV fun K hK => ?_;(try (refine sUf ?_;try exact True.intro));(repeat refine aI ?_);refine hK _ ?_;clear hK K)|(refine W_seqR fun K hK => ?_;(try (refine sUf ?_;try exact True.intro));(repeat refine aI ?_);refine hK _ ?_;clear hK K)|(refine W_seqD mixed [] (by kernel_rfl) fun K hK => ?_;(try (refine sUf ?_;try exact True.intro));(repeat refine aI ?_);refine hK _ ?_;clear hK K)));exact h.out) : G := f ⟨h⟩
theorem len_neI (n : Nat) : ((n : Int) != (n : Int)) = false := by simp
theorem int_neI (n : Int) : (n != n) = false := by simp
theorem bool_eqI (b : Bool) : (b == b) = true := by simp
theorem f1same_ok (l : List Nat) (h : l.length < 1099511627776) : Pure Tryz.prog 114 [.sl (u32s l),.sl (u32s l)] (· = .bool true) := by
 have hz := len_neI l.length
 (refine pureW Tryz.func114 rfl (rs := [Go.ResultVar.tmp 4]) rfl (n := 26) rfl ?_;simp only [List.length_cons,List.length_nil,List.replicate,List.cons_append,List.nil_append])
 (refine aUf ?_)
 refine W_seq ?_
 ((refine W_seqV ?_);intro K hK;(refine sUfX hz ?_))
 (refine hK _ ?_;clear hK K)
 (refine W_cf rfl ?_)
 refine W_skip ?_
 simp only [thenW]
 refine W_seq ?_
 ((refine W_seqV ?_);intro K hK;(refine sUf ?_))
 (refine hK _ ?_;clear hK K)
 refine W_block (W_loop (fun t : {t : Nat // t ≤ l.length} =>
   ⟨[.sl (u32s l),.sl (u32s l),.any,.any,.any,.int .i64 t.1,.any,.any,.any,.any,.any,.any,.any,.any,.any,.any,.any,.any,.any,.any,.any,.any,.any,.any,.any,.any],[.dead,.dead,.dead,.dead,.dead,.dead,.dead,.dead,.dead,.dead,.dead,.dead,.dead,.dead,.dead,.dead,.dead,.dead,.dead,.dead,.dead,.dead,.dead,.dead,.dead,.dead]⟩) (fun t => l.length - t.1)
   ⟨0,by omega⟩ (Le_of (by simp [leE]) (by simp)) fun t => ?_)
 obtain ⟨i,hi⟩ := t
 dsimp only
 by_cases hlt : i < l.length
 ·generalize hx : l.getD i 0 = x
  have hzx := len_neI x
  refine W_seq ?_
  ((refine W_seqV ?_);intro K hK;(refine sUfX hlt ?_))
  (refine hK _ ?_;clear hK K)
  (refine W_ct rfl ?_)
  refine W_skip ?_
  simp only [thenW]
  refine W_seq ?_
  refine W_block ?_
  ((refine W_seqD mixed [] (by kernel_rfl) ?_);intro K hK;(refine sUfX (And.intro hlt (And.intro hx hzx)) ?_))
  (refine hK _ ?_;clear hK K)
  (refine W_cf rfl ?_)
  refine W_skip ?_
  simp only [blockW,thenW]
  ((refine W_regV ?_);intro K hK;(refine sUf ?_))
  (refine hK _ ?_;clear hK K)
  simp only [blockW,thenW]
  refine ⟨⟨i + 1,by omega⟩,Le_drop (by simp [leE]) (by simp [leH]) rfl rfl,?_⟩
  dsimp only
  omega
 ·obtain rfl : i = l.length := by omega
  refine W_seq ?_
  ((refine W_seqV ?_);intro K hK;(refine sUf ?_))
  (refine hK _ ?_;clear hK K)
  (refine W_cf rfl ?_)
  refine W_exit ?_
  simp only [thenW,blockW,if_true]
  (repeat' (first | (refine W_seqV fun K hK => ?_;(try (refine sUf ?_));refine hK _ ?_;clear hK K) | (refine W_ret ?_;(refine qG ?_;try exact True.intro))))
theorem f3same_ok (r : RR) (h : r.ok) : Pure Tryz.prog 72 [r.av,r.av] (· = .bool true) := by
 have h1 := f1same_ok r.num (by have := h.nl;omega)
 have h2 := f1same_ok r.den (by have := h.dl;omega)
 have hb := bool_eqI r.neg
 obtain ⟨neg,n,d⟩ := r
 simp only [RR.av] at *
 (refine pureW Tryz.func72 rfl (rs := [Go.ResultVar.tmp 4]) rfl (n := 28) rfl ?_;simp only [List.length_cons,List.length_nil,List.replicate,List.cons_append,List.nil_append])
 (refine aUf ?_)
 ((refine W_seqV ?_);intro K hK;(refine sUfX hb ?_))
 (refine ⟨by kernel_rfl,_,.pure rfl (h1),?_⟩;(try (refine sUf ?_)))
 (refine ⟨by kernel_rfl,_,.pure rfl (h2),?_⟩;(try (refine sUf ?_)))
 (refine hK _ ?_;clear hK K)
 refine W_ret ?_
 (refine qG ?_;try exact True.intro);try (refine sUfV ?_;try exact True.intro)
theorem r7sameForm_ok (f : List (Int × RR)) (h : ∀ p ∈ f,p.2.ok) (hl : f.length < 1099511627776) : Pure Tryz.prog 27 [cF f,cF f] (· = .bool true) := by
 have hz := len_neI f.length
 have hs : ∀ i,i < f.length → Pure Tryz.prog 72 [(f.getD i default).2.av,(f.getD i default).2.av] (· = .bool true) := fun i hi => f3same_ok _ (h _ (getD_mem hi))
 simp only [cF,RR.av] at *
 (refine pureW Tryz.func27 rfl (rs := [Go.ResultVar.tmp 4]) rfl (n := 42) rfl ?_;simp only [List.length_cons,List.length_nil,List.replicate,List.cons_append,List.nil_append])
 (refine aUf ?_)
 ((refine W_seq (W_seqV ?_));intro K hK;(refine sUfX hz ?_))
 (refine hK _ ?_;clear hK K)
 (refine W_cf rfl ?_)
 refine W_skip ?_
 simp only [thenW]
 refine W_seq ?_
 ((refine W_seqV ?_);intro K hK;(refine sUf ?_))
 (refine hK _ ?_;clear hK K)
 refine W_block (W_loop (fun t : {t : Nat // t ≤ f.length} =>
   ⟨[.sl (tab rowM f),.sl (tab rowM f),.any,.any,.any,.int .i64 t.1,.any,.any,.any,.any,.any,.any,.any,.any,.any,.any,.any,.any,.any,.any,.any,.any,.any,.any,.any,.any,.any,.any,.any,.any,.any,.any,.any,.any,.any,.any,.any,.any,.any,.any,.any,.any],[.dead,.dead,.dead,.dead,.dead,.dead,.dead,.dead,.dead,.dead,.dead,.dead,.dead,.dead,.dead,.dead,.dead,.dead,.dead,.dead,.dead,.dead,.dead,.dead,.dead,.dead,.dead,.dead,.dead,.dead,.dead,.dead,.dead,.dead,.dead,.dead,.dead,.dead,.dead,.dead,.dead,.dead]⟩) (fun t => f.length - t.1)
   ⟨0,by omega⟩ (Le_of (by simp [leE]) (by simp)) fun t => ?_)
 obtain ⟨i,hi⟩ := t
 dsimp only
 by_cases hlt : i < f.length
 ·have hfi : (tab rowM f).getD i [] = rowM (f.getD i default) := tab_getD hlt
  have hsi := hs i hlt
  generalize f.getD i default = p at *
  obtain ⟨v,neg,n,d⟩ := p
  simp only [rowM] at hfi
  dsimp only at *
  have hzx := int_neI v
  refine W_seq ?_
  ((refine W_seqV ?_);intro K hK;(refine sUfX hlt ?_))
  (refine hK _ ?_;clear hK K)
  (refine W_ct rfl ?_)
  refine W_skip ?_
  simp only [thenW]
  refine W_seq ?_
  refine W_block ?_
  ((refine W_seqD mixed [] (by kernel_rfl) ?_);intro K hK;(refine sUfX (And.intro hlt (And.intro hfi hzx)) ?_))
  (refine ⟨by kernel_rfl,_,.pure rfl (hsi),?_⟩;(try (refine sUf ?_)))
  (refine hK _ ?_;clear hK K)
  (refine W_cf rfl ?_)
  refine W_skip ?_
  simp only [blockW,thenW]
  ((refine W_regV ?_);intro K hK;(refine sUf ?_))
  (refine hK _ ?_;clear hK K)
  simp only [blockW,thenW]
  refine ⟨⟨i + 1,by omega⟩,Le_drop (by simp [leE]) (by simp [leH]) rfl rfl,?_⟩
  dsimp only
  omega
 ·obtain rfl : i = f.length := by omega
  refine W_seq ?_
  ((refine W_seqV ?_);intro K hK;(refine sUf ?_))
  (refine hK _ ?_;clear hK K)
  (refine W_cf rfl ?_)
  refine W_exit ?_
  simp only [thenW,blockW,if_true]
  (repeat' (first | (refine W_seqV fun K hK => ?_;(try (refine sUf ?_));refine hK _ ?_;clear hK K) | (refine W_ret ?_;(refine qG ?_;try exact True.intro))))
structure TS (t : TR) : Prop where
 ok : ∀ r ∈ t,∀ p ∈ r.2,p.2.ok
 fl : ∀ r ∈ t,r.2.length < 1099511627776
 len : t.length < 1099511627776
theorem TOk.ts {t : TR} (h : TOk t) : TS t := ⟨h.ok,fun r hr => by have := nbs_len (vals r.2);have := h.nbs hr;rw [vals_length] at *;omega,by have := h.len;omega⟩
theorem r7alike_ok (n : Int) (t : TR) (h : TS t) : Pure Tryz.prog 65 [cT n t,cT n t] (· = .bool true) := by
 have hz := len_neI t.length
 have hzn := int_neI n
 have hlen := h.len
 have hs : ∀ i,i < t.length → Pure Tryz.prog 27 [cF (t.getD i default).2,cF (t.getD i default).2] (· = .bool true) := fun i hi => r7sameForm_ok _ (h.ok _ (getD_mem hi)) (h.fl _ (getD_mem hi))
 simp only [cF,cT] at *
 (refine pureW Tryz.func65 rfl (rs := [Go.ResultVar.tmp 4]) rfl (n := 56) rfl ?_;simp only [List.length_cons,List.length_nil,List.replicate,List.cons_append,List.nil_append])
 (refine aUf ?_)
 ((refine W_seq (W_seqV ?_));intro K hK;(refine sUfX (And.intro hz hzn) ?_))
 (refine hK _ ?_;clear hK K)
 (refine W_cf rfl ?_)
 refine W_skip ?_
 simp only [thenW]
 refine W_seq ?_
 ((refine W_seqV ?_);intro K hK;(refine sUf ?_))
 (refine hK _ ?_;clear hK K)
 refine W_block (W_loop (fun s : {i : Nat // i ≤ t.length} =>
   ⟨[.any,.any,.ptr 2 0 0,.ptr 3 0 0,.any,.int .i64 s.1,.any,.any,.any,.any,.any,.any,.any,.any,.any,.any,.any,.any,.any,.any,.any,.any,.any,.any,.any,.any,.any,.any,.any,.any,.any,.any,.any,.any,.any,.any,.any,.any,.any,.any,.any,.any,.any,.any,.any,.any,.any,.any,.any,.any,.any,.any,.any,.any,.any,.any],[.dead,.dead,.arr 24 2 false [[.int .i64 n,.sl (tab rowT t)]],.arr 24 2 false [[.int .i64 n,.sl (tab rowT t)]],.dead,.dead,.dead,.dead,.dead,.dead,.dead,.dead,.dead,.dead,.dead,.dead,.dead,.dead,.dead,.dead,.dead,.dead,.dead,.dead,.dead,.dead,.dead,.dead,.dead,.dead,.dead,.dead,.dead,.dead,.dead,.dead,.dead,.dead,.dead,.dead,.dead,.dead,.dead,.dead,.dead,.dead,.dead,.dead,.dead,.dead,.dead,.dead,.dead,.dead,.dead,.dead]⟩) (fun s => t.length - s.1)
   ⟨0,by omega⟩ (Le_drop (by simp [leE]) (by simp [leH]) rfl rfl) fun s => ?_)
 obtain ⟨i,hi⟩ := s
 dsimp only
 by_cases hlt : i < t.length
 ·have hti : (tab rowT t).getD i [] = rowT (t.getD i default) := tab_getD hlt
  have hsi := hs i hlt
  generalize t.getD i default = r at *
  obtain ⟨b,f⟩ := r
  simp only [rowT] at hti
  dsimp only at *
  have hzx := int_neI b
  refine W_seq ?_
  ((refine W_seqV ?_);intro K hK;(refine sUfX hlt ?_))
  (refine hK _ ?_;clear hK K)
  (refine W_ct rfl ?_)
  refine W_skip ?_
  simp only [thenW]
  refine W_seq ?_
  refine W_block ?_
  ((refine W_seqD mixed [] (by kernel_rfl) ?_);intro K hK;(refine sUfX (And.intro hlt (And.intro hti hzx)) ?_))
  (refine ⟨by kernel_rfl,_,.pure rfl (hsi),?_⟩;(try (refine sUf ?_)))
  (refine hK _ ?_;clear hK K)
  (refine W_cf rfl ?_)
  refine W_skip ?_
  simp only [blockW,thenW]
  ((refine W_regV ?_);intro K hK;(refine sUf ?_))
  (refine hK _ ?_;clear hK K)
  simp only [blockW,thenW]
  refine ⟨⟨i + 1,by omega⟩,Le_drop (by simp [leE]) (by simp [leH]) rfl rfl,?_⟩
  dsimp only
  omega
 ·obtain rfl : i = t.length := by omega
  refine W_seq ?_
  ((refine W_seqV ?_);intro K hK;(refine sUf ?_))
  (refine hK _ ?_;clear hK K)
  (refine W_cf rfl ?_)
  refine W_exit ?_
  simp only [thenW,blockW,if_true]
  (repeat' (first | (refine W_seqV fun K hK => ?_;(try (refine sUf ?_));refine hK _ ?_;clear hK K) | (refine W_ret ?_;(refine qG ?_;try exact True.intro))))
theorem lalike_ok (n : Int) (t : TR) (h : TS t) : Pure Tryz.prog 20 [cT n t,cT n t] (· = .bool true) := by
 have a := r7alike_ok n t h
 unfold cT at *
 (refine pureW Tryz.func20 rfl (rs := [Go.ResultVar.tmp 4]) rfl (n := 8) rfl ?_;simp only [List.length_cons,List.length_nil,List.replicate,List.cons_append,List.nil_append])
 (refine aUf ?_)
 ((refine W_seqV ?_);intro K hK;(refine sUf ?_))
 (refine ⟨by kernel_rfl,_,.pure rfl (a),?_⟩;(try (refine sUf ?_)))
 (refine hK _ ?_;clear hK K)
 refine W_ret ?_
 (refine qG ?_;try exact True.intro);try (refine sUfV ?_;try exact True.intro)
def rfT (M : TM) : TR := M.map fun r => (r.1,rf r.2)
theorem cU_rf (n : Int) (M : TM) : cT n (rfT M) = cU n M := by
 unfold cT cU rfT
 congr 4
 unfold tab
 rw [List.map_map]
 refine List.map_congr_left fun r _ => ?_
 simp only [Function.comp,rowT,rowU]
 rw [tab_rf]
theorem nrm_rf {M : TM} (h : ∀ r ∈ M,NF r.2) : nrmT (rfT M) = M := by
 unfold nrmT rfT
 rw [List.map_map]
 refine (List.map_congr_left fun r hr => ?_).trans (List.map_id M)
 simp only [Function.comp,vals_rf]
 rw [norm_self (h r hr)]
 rfl
theorem MOk.ts {M : TM} {B : Nat} (h : MOk M B) (hB : B < 17179869184) : TS (rfT M) := by
 refine ⟨fun r hr p hp => ?_,fun r hr => ?_,by simp only [rfT,List.length_map];exact h.len⟩
 ·obtain ⟨q,hq,rfl⟩ := List.mem_map.1 hr
  obtain ⟨x,hx,rfl⟩ := List.mem_map.1 hp
  have := (h.sz q hq).mem hx
  exact qr_ok (by omega)
 ·obtain ⟨q,hq,rfl⟩ := List.mem_map.1 hr
  have := (h.sz q hq).l
  simp only [rf,List.length_map]
  omega
theorem mnat_ok (l : List Nat) (h : l.length < 1099511627776) : Pure Tryz.prog 111 [.sl (u32s l)] (· = .sl (u32s l)) := by
 (refine pureW Tryz.func111 rfl (rs := [Go.ResultVar.tmp 2]) rfl (n := 19) rfl ?_;simp only [List.length_cons,List.length_nil,List.replicate,List.cons_append,List.nil_append])
 (refine aUf ?_)
 refine W.le ?_ (Le_nil 3 3 128 1 true rfl rfl)
 simp only [List.set]
 refine W_seq ?_
 ((refine W_seqV ?_);intro K hK;(refine sUf ?_))
 (refine hK _ ?_;clear hK K)
 refine W_block (W_loop (fun t : {t : Nat // t ≤ l.length} =>
   ⟨[.sl (u32s l),.any,.any,.sref 3 0 t.1,.int .i64 t.1,.any,.any,.any,.any,.any,.any,.any,.any,.any,.any,.any,.any,.any,.any],[.dead,.dead,.dead,.arr 128 1 true (u32s (l.take t.1)),.dead,.dead,.dead,.dead,.dead,.dead,.dead,.dead,.dead,.dead,.dead,.dead,.dead,.dead,.dead]⟩) (fun t => l.length - t.1)
   ⟨0,by omega⟩ (Le_drop (by simp [leE]) (by simp [leH,u32s]) rfl rfl) fun t => ?_)
 obtain ⟨i,hi⟩ := t
 dsimp only
 have htl : (l.take i).length = i := by rw [List.length_take];omega
 by_cases hlt : i < l.length
 ·have hst : l.take (i + 1) = l.take i ++ [l.getD i 0] := by
   rw [List.take_succ_eq_append_getElem hlt]
   simp [List.getD_eq_getElem?_getD,hlt]
  generalize hx : l.getD i 0 = x at *
  generalize hP : l.take i = P at *
  refine W_seq ?_
  ((refine W_seqV ?_);intro K hK;(refine sUfX hlt ?_))
  (refine hK _ ?_;clear hK K)
  (refine W_ct rfl ?_)
  refine W_skip ?_
  simp only [thenW]
  refine W_seq ?_
  refine W_block ?_
  refine W_regR fun K hK => ?_
  (refine sUfX (And.intro hx (And.intro hlt htl)) ?_;try exact True.intro)
  (repeat refine aI ?_)
  refine hK _ ?_
  clear hK K
  simp only [blockW,thenW]
  ((refine W_regV ?_);intro K hK;(refine sUf ?_))
  (refine hK _ ?_;clear hK K)
  simp only [blockW,thenW]
  refine ⟨⟨i + 1,by omega⟩,Le_drop (by simp [leE]) (by simp [leH,hst,u32s,List.take_of_length_le,htl]) rfl rfl,?_⟩
  dsimp only
  omega
 ·obtain rfl : i = l.length := by omega
  rw [List.take_length]
  refine W_seq ?_
  ((refine W_seqV ?_);intro K hK;(refine sUf ?_))
  (refine hK _ ?_;clear hK K)
  (refine W_cf rfl ?_)
  refine W_exit ?_
  simp only [thenW,blockW,if_true]
  (refine W.le ?_ (Le_freeze 3 (rows := u32s l) rfl (by simp) (.inl rfl));simp only [St.freeze,List.map_cons,List.map_nil,List.set,if_true,if_false,Nat.reduceEqDiff,reduceCtorEq,List.drop_zero,u32s_take,u32s_drop,froz_any,froz_und,froz_int,froz_bool,froz_str,froz_nils,froz_sl,froz_ia,froz_nilp,froz_nilif,froz_nilfn,froz_nilmp,froz_gl,froz_sref,froz_ptr,froz_agg,froz_tup,froz_fn,froz_ifc,frozs_nil,frozs_cons,froz_dead,froz_arr,froz_mp,froz_it,froz_md,froz_map,froz_iter])
  (repeat' (first | (refine W_seqV fun K hK => ?_;(try (refine sUf ?_));refine hK _ ?_;clear hK K) | (refine W_ret ?_;(refine qG ?_;try exact True.intro))))
theorem mint_ok (neg : Bool) (l : List Nat) (h : l.length < 1099511627776) : Pure Tryz.prog 110 [.agg [.bool neg,.sl (u32s l)]] (· = .agg [.bool neg,.sl (u32s l)]) := by
 have a := mnat_ok l h
 (refine pureW Tryz.func110 rfl (rs := [Go.ResultVar.cell 2 51]) rfl (n := 9) rfl ?_;simp only [List.length_cons,List.length_nil,List.replicate,List.cons_append,List.nil_append])
 (refine aUf ?_)
 ((refine W_seqS mixed 6 [] (by kernel_rfl) ?_);intro K hK;(refine sUf ?_))
 (refine ⟨by kernel_rfl,_,.pure rfl (a),?_⟩;(try (refine sUf ?_)))
 (refine hK _ ?_;clear hK K)
 refine W_ret ?_
 (refine qG ?_;try exact True.intro);try (refine sUfV ?_;try exact True.intro)
theorem mrat_ok (r : RR) (h : r.ok) : Pure Tryz.prog 68 [r.av] (· = r.av) := by
 have a1 := mint_ok r.neg r.num (by have := h.nl;omega)
 have a2 := mnat_ok r.den (by have := h.dl;omega)
 obtain ⟨neg,n,d⟩ := r
 simp only [RR.av] at *
 (refine pureW Tryz.func68 rfl (rs := [Go.ResultVar.cell 2 53]) rfl (n := 10) rfl ?_;simp only [List.length_cons,List.length_nil,List.replicate,List.cons_append,List.nil_append])
 (refine aUf ?_)
 ((refine W_seqS mixed 7 [] (by kernel_rfl) ?_);intro K hK;(refine sUf ?_))
 (refine ⟨by kernel_rfl,_,.pure rfl (a1),?_⟩;(try (refine sUf ?_)))
 (refine ⟨by kernel_rfl,_,.pure rfl (a2),?_⟩;(try (refine sUf ?_)))
 (refine hK _ ?_;clear hK K)
 refine W_ret ?_
 (refine qG ?_;try exact True.intro);try (refine sUfV ?_;try exact True.intro)
theorem mform_ok (f : List (Int × RR)) (h : ∀ p ∈ f,p.2.ok) (hl : f.length < 1099511627776) : Pure Tryz.prog 22 [cF f] (· = cF f) := by
 have hs : ∀ i,i < f.length → Pure Tryz.prog 68 [(f.getD i default).2.av] (· = (f.getD i default).2.av) := fun i hi => mrat_ok _ (h _ (getD_mem hi))
 have hst : ∀ i,i < f.length → f.take (i + 1) = f.take i ++ [f.getD i default] := fun i hi => take_snoc hi
 simp only [cF,RR.av] at *
 (refine pureW Tryz.func22 rfl (rs := [Go.ResultVar.tmp 2]) rfl (n := 27) rfl ?_;simp only [List.length_cons,List.length_nil,List.replicate,List.cons_append,List.nil_append])
 (refine aUf ?_)
 refine W.le ?_ (Le_nil 3 3 55 4 true rfl rfl)
 simp only [List.set]
 refine W_seq ?_
 ((refine W_seqV ?_);intro K hK;(refine sUf ?_))
 (refine hK _ ?_;clear hK K)
 refine W_block (W_loop (fun t : {t : Nat // t ≤ f.length} =>
   ⟨[.sl (tab rowM f),.any,.any,.sref 3 0 t.1,.int .i64 t.1,.any,.any,.any,.any,.any,.any,.any,.any,.any,.any,.any,.any,.any,.any,.any,.any,.any,.any,.any,.any,.any,.any],[.dead,.dead,.dead,.arr 55 4 true (tab rowM (f.take t.1)),.dead,.dead,.dead,.dead,.dead,.dead,.dead,.dead,.dead,.dead,.dead,.dead,.dead,.dead,.dead,.dead,.dead,.dead,.dead,.dead,.dead,.dead,.dead]⟩) (fun t => f.length - t.1)
   ⟨0,by omega⟩ (Le_drop (by simp [leE]) (by simp [leH,tab]) rfl rfl) fun t => ?_)
 obtain ⟨i,hi⟩ := t
 dsimp only
 have htl : (f.take i).length = i := by rw [List.length_take];omega
 by_cases hlt : i < f.length
 ·have hfi : (tab rowM f).getD i [] = rowM (f.getD i default) := tab_getD hlt
  have hsi := hs i hlt
  have hsti := hst i hlt
  generalize f.getD i default = p at *
  obtain ⟨v,neg,n,d⟩ := p
  simp only [rowM] at hfi
  dsimp only at *
  generalize f.take i = P at *
  refine W_seq ?_
  ((refine W_seqV ?_);intro K hK;(refine sUfX hlt ?_))
  (refine hK _ ?_;clear hK K)
  (refine W_ct rfl ?_)
  refine W_skip ?_
  simp only [thenW]
  refine W_seq ?_
  refine W_block ?_
  ((refine W_regS mixed 14 [] (by kernel_rfl) ?_);intro K hK;(refine sUfX (And.intro hlt hfi) ?_))
  (refine ⟨by kernel_rfl,_,.pure rfl (hsi),?_⟩;(try (refine sUf ?_));(repeat refine aI ?_))
  (refine hK _ ?_;clear hK K)
  simp only [blockW,thenW]
  ((refine W_regV ?_);intro K hK;(refine sUf ?_))
  (refine hK _ ?_;clear hK K)
  simp only [blockW,thenW]
  refine ⟨⟨i + 1,by omega⟩,Le_drop (by simp [leE]) (by simp [leH,hsti,← tab_snoc,rowM,tab_take,List.take_of_length_le,htl]) rfl rfl,?_⟩
  dsimp only
  omega
 ·obtain rfl : i = f.length := by omega
  rw [List.take_length]
  refine W_seq ?_
  ((refine W_seqV ?_);intro K hK;(refine sUf ?_))
  (refine hK _ ?_;clear hK K)
  (refine W_cf rfl ?_)
  refine W_exit ?_
  simp only [thenW,blockW,if_true]
  (refine W.le ?_ (Le_freeze 3 (rows := tab rowM f) rfl (by simp) (.inl rfl));simp only [St.freeze,List.map_cons,List.map_nil,List.set,if_true,if_false,Nat.reduceEqDiff,reduceCtorEq,List.drop_zero,u32s_take,u32s_drop,froz_any,froz_und,froz_int,froz_bool,froz_str,froz_nils,froz_sl,froz_ia,froz_nilp,froz_nilif,froz_nilfn,froz_nilmp,froz_gl,froz_sref,froz_ptr,froz_agg,froz_tup,froz_fn,froz_ifc,frozs_nil,frozs_cons,froz_dead,froz_arr,froz_mp,froz_it,froz_md,froz_map,froz_iter])
  (repeat' (first | (refine W_seqV fun K hK => ?_;(try (refine sUf ?_));refine hK _ ?_;clear hK K) | (refine W_ret ?_;(refine qG ?_;try exact True.intro))))
theorem ltwin_ok (n : Int) (t : TR) (h : TS t) : Pure Tryz.prog 18 [cT n t] (· = cT n t) := by
 have hlen := h.len
 have hs : ∀ i,i < t.length → Pure Tryz.prog 22 [cF (t.getD i default).2] (· = cF (t.getD i default).2) := fun i hi => mform_ok _ (h.ok _ (getD_mem hi)) (h.fl _ (getD_mem hi))
 have hst : ∀ i,i < t.length → t.take (i + 1) = t.take i ++ [t.getD i default] := fun i hi => take_snoc hi
 simp only [cF,cT] at *
 (refine pureW Tryz.func18 rfl (rs := [Go.ResultVar.cell 2 24]) rfl (n := 35) rfl ?_;simp only [List.length_cons,List.length_nil,List.replicate,List.cons_append,List.nil_append])
 (refine aUf ?_)
 refine W.le ?_ (Le_nilO 3 0 1 32 84 2 true rfl rfl rfl rfl)
 simp only [List.set]
 refine W_seq ?_
 ((refine W_seqV ?_);intro K hK;(refine sUf ?_))
 (refine hK _ ?_;clear hK K)
 refine W_block (W_loop (fun s : {i : Nat // i ≤ t.length} =>
   ⟨[.any,.ptr 1 0 0,.ptr 2 0 0,.ptr 3 0 0,.int .i64 s.1,.any,.any,.any,.any,.any,.any,.any,.any,.any,.any,.any,.any,.any,.any,.any,.any,.any,.any,.any,.any,.any,.any,.any,.any,.any,.any,.any,.any,.any,.any],[.dead,.arr 24 2 false [[.int .i64 n,.sl (tab rowT t)]],.arr 24 2 false [[.int .i64 0,.nils]],.arr 24 2 false [[.int .i64 n,.sref 32 0 s.1]],.dead,.dead,.dead,.dead,.dead,.dead,.dead,.dead,.dead,.dead,.dead,.dead,.dead,.dead,.dead,.dead,.dead,.dead,.dead,.dead,.dead,.dead,.dead,.dead,.dead,.dead,.dead,.dead,.arr 84 2 true (tab rowT (t.take s.1)),.dead,.dead]⟩) (fun s => t.length - s.1)
   ⟨0,by omega⟩ (Le_drop (by simp [leE]) (by simp [leH,tab]) rfl rfl) fun s => ?_)
 obtain ⟨i,hi⟩ := s
 dsimp only
 have htl : (t.take i).length = i := by rw [List.length_take];omega
 by_cases hlt : i < t.length
 ·have hti : (tab rowT t).getD i [] = rowT (t.getD i default) := tab_getD hlt
  have hsi := hs i hlt
  have hsti := hst i hlt
  generalize t.getD i default = r at *
  obtain ⟨b,f⟩ := r
  simp only [rowT] at hti
  dsimp only at *
  generalize t.take i = P at *
  refine W_seq ?_
  ((refine W_seqV ?_);intro K hK;(refine sUfX hlt ?_))
  (refine hK _ ?_;clear hK K)
  (refine W_ct rfl ?_)
  refine W_skip ?_
  simp only [thenW]
  refine W_seq ?_
  refine W_block ?_
  ((refine W_regS mixed 17 [] (by kernel_rfl) ?_);intro K hK;(refine sUfX (And.intro hlt hti) ?_))
  (refine ⟨by kernel_rfl,_,.pure rfl (hsi),?_⟩;(try (refine sUf ?_));(repeat refine aI ?_))
  (refine hK _ ?_;clear hK K)
  simp only [blockW,thenW]
  ((refine W_regV ?_);intro K hK;(refine sUf ?_))
  (refine hK _ ?_;clear hK K)
  simp only [blockW,thenW]
  refine ⟨⟨i + 1,by omega⟩,Le_drop (by simp [leE]) (by simp [leH,hsti,← tab_snoc,rowT,tab_take,List.take_of_length_le,htl]) rfl rfl,?_⟩
  dsimp only
  omega
 ·obtain rfl : i = t.length := by omega
  rw [List.take_length]
  refine W_seq ?_
  ((refine W_seqV ?_);intro K hK;(refine sUf ?_))
  (refine hK _ ?_;clear hK K)
  (refine W_cf rfl ?_)
  refine W_exit ?_
  simp only [thenW,blockW,if_true]
  (repeat' (first | (refine W_seqV fun K hK => ?_;(try (refine sUf ?_));refine hK _ ?_;clear hK K) | (refine W_ret ?_;(refine qG ?_))))
  (try (refine sUfV ?_;try exact True.intro))
end Go.Proofs.YtjmpajgjaefcjaaGreat.Vm
/-
  The reference's pivots.
-/
namespace Go.Proofs.YtjmpajgjaefcjaaGreat.Vm
open Go Go.RowKit
set_option maxRecDepth 100000
set_option linter.unusedVariables false
set_option linter.unusedSimpArgs false
theorem sVd {G G' : Prop} (h : G') (e : G = G' := by conv => lhs; simp (disch := omega) only [rowsOf, cNat, cN, St.ret, St.seth, Eff.app, Eff.wi, sepL, guardOf, St.known, objOf, List.set, sliceW, litW, copyW, lenOf, bnd, mxOk, ofCells, TI.isAgg, cellsOf, storable, AV.one, dead, laid, overlay, reduceCtorEq, Int.reduceLE, Int.reduceLT, Int.reduceSub, Int.reduceAdd, Nat.reduceMul, Int.reduceToNat, Nat.reducePow, Int.reduceNeg, Nat.reduceAdd, Nat.reduceLT, Nat.reduceLeDiff, sA, sB, Nat.reduceEqDiff, cQ, rowQ, rowU, rowT, rowM, i64s_getD, i64s_length, i64s_all, i64s_take, i64s_drop, i64s_set, i64s_one, i64s_pure, i64s_append, tab_length, tab_drop, tab_take, tab_append, tab_nil, rowT_all, rowT_one, rowT_pure, rowU_all, rowU_one, rowU_pure, rowQ_all, rowQ_one, rowQ_pure, rowM_all, rowM_one, rowM_pure, List.take_length, List.length_append, sT]) : G := e.mpr h
theorem sVdX {G G' P : Prop} (p : P) (h : G') (e : P → G = G' := by intro p; conv => lhs; simp (disch := omega) only [rowsOf, cNat, cN, St.ret, St.seth, Eff.app, Eff.wi, sepL, guardOf, St.known, objOf, List.set, sliceW, litW, copyW, lenOf, bnd, mxOk, ofCells, TI.isAgg, cellsOf, storable, AV.one, dead, laid, overlay, reduceCtorEq, Int.reduceLE, Int.reduceLT, Int.reduceSub, Int.reduceAdd, Nat.reduceMul, Int.reduceToNat, Nat.reducePow, Int.reduceNeg, Nat.reduceAdd, Nat.reduceLT, Nat.reduceLeDiff, sA, sB, Nat.reduceEqDiff, cQ, rowQ, rowU, rowT, rowM, i64s_getD, i64s_length, i64s_all, i64s_take, i64s_drop, i64s_set, i64s_one, i64s_pure, i64s_append, tab_length, tab_drop, tab_take, tab_append, tab_nil, rowT_all, rowT_one, rowT_pure, rowU_all, rowU_one, rowU_pure, rowQ_all, rowQ_one, rowQ_pure, rowM_all, rowM_one, rowM_pure, List.take_length, List.length_append, sT, p]) : G := (e p).mpr h
theorem sVdV {G G' : Prop} (h : G') (e : G = G' := by conv => lhs; simp (disch := omega) only [rowsOf, cNat, cN, St.ret, St.seth, Eff.app, Eff.wi, sepL, guardOf, St.known, objOf, List.set, sliceW, litW, copyW, lenOf, bnd, mxOk, ofCells, TI.isAgg, cellsOf, storable, AV.one, dead, laid, overlay, reduceCtorEq, Int.reduceLE, Int.reduceLT, Int.reduceSub, Int.reduceAdd, Nat.reduceMul, Int.reduceToNat, Nat.reducePow, Int.reduceNeg, Nat.reduceAdd, Nat.reduceLT, Nat.reduceLeDiff, sA, sB, Nat.reduceEqDiff, cQ, rowQ, rowU, rowT, rowM, i64s_getD, i64s_length, i64s_all, i64s_take, i64s_drop, i64s_set, i64s_one, i64s_pure, i64s_append, tab_length, tab_drop, tab_take, tab_append, tab_nil, rowT_all, rowT_one, rowT_pure, rowU_all, rowU_one, rowU_pure, rowQ_all, rowQ_one, rowQ_pure, rowM_all, rowM_one, rowM_pure, List.take_length, List.length_append, sT, view_sref, viewRef, view_agg, views_cons, views_nil, view_bool, view_int, view_sl, view_nils, view_str, view_tup, view_nilif]) : G := e.mpr h
theorem aVd {G G' : Prop} (h : G') (f : Wr G' → G := by intro h; (repeat (first | (refine W_seqV fun K hK => ?_; (try (refine sVd ?_; try exact True.intro)); (repeat refine aI ?_); refine hK _ ?_; clear hK K) | (refine W_seqR fun K hK => ?_; (try (refine sVd ?_; try exact True.intro)); (repeat refine aI ?_); refine hK _ ?_; clear hK K) | (refine W_seqD mixed [] (by kernel_rfl) fun K hK => ?_; (try (refine sVd ?_; try exact True.intro)); (repeat refine aI ?_); refine hK _ ?_; clear hK K))); exact h.out) : G := f ⟨h⟩

def pivF (M : TM) (k : Nat) (o : Int) (g : List (Int × Rat)) (i : Nat) : Int × List (Int × Rat) := if i = k then (o, g) else ((M.getD i default).1, putF (M.getD i default).2 o g)
theorem pivR_eq {M : TM} {k : Nat} (hk : k < M.length) (o : Int) (g : List (Int × Rat)) : pivR M k o g = (List.range M.length).map (pivF M k o g) := by
  unfold pivR
  refine List.ext_getElem (by simp; omega) fun i h1 h2 => ?_
  have hi : i < M.length := by simpa using h2
  rw [List.getElem_map (f := pivF M k o g), List.getElem_range]
  unfold pivF
  rw [List.getElem_append]
  split
  · rename_i h
    rw [List.length_map, List.length_take] at h
    rw [if_neg (by omega)]
    simp [List.getD_eq_getElem?_getD, hi]
  · rename_i h
    rw [List.length_map, List.length_take] at h
    rw [List.getElem_cons]
    split
    · rename_i h'
      rw [List.length_map, List.length_take] at h'
      rw [if_pos (by omega)]
    · rename_i h'
      rw [List.length_map, List.length_take] at h'
      rw [if_neg (by omega)]
      simp only [List.getElem_map, List.getElem_drop, List.length_map, List.length_take, List.getD_eq_getElem?_getD]
      have e : k + 1 + (i - min k M.length - 1) = i := by omega
      simp only [e]
      rw [List.getElem?_eq_getElem hi]
      rfl
theorem put_subst (f g : List (Int × Rat)) (v : Int) : normF (delF f v ++ normF (scaleF (coef f v) g)) = putF (normF f) v g := by
  refine NF.ext (NF.norm _) (NF.put _ _ _) fun x => ?_
  rw [coef_norm, coef_append, coef_norm, coef_put, coef_del, coef_norm, coef_norm, coef_scale]
theorem sorted_ok (n : Int) (N : TM) (hl : N.length ≤ 68157440) (hnf : ∀ r ∈ N, NF r.2) (hsz : ∀ r ∈ N, Sz r.2 4294967296) (hnod : (keys N).Nodup) (hpos : ∀ b ∈ keys N, 0 ≤ b) :
    Pure Tryz.prog 64 [cU n N] (· = cU n (sortM N)) := by
  have hn := nrm_rf hnf
  have h := r7sorted_gen n (rfT N) (by simp [rfT]; exact hl) (fun r hr => by
    obtain ⟨q, hq, rfl⟩ := List.mem_map.1 hr
    exact ((FOk.rf (hsz q hq) (by omega)).pf (by omega)).mono (by omega)) (by rw [hn]; exact hnod) (by rw [hn]; exact hpos)
  rw [hn, cU_rf] at h
  exact h.pure.mono fun r ⟨rows, h1, h2⟩ => by
    subst h1
    exact h2
theorem affM_rf' (g : List (Int × Rat)) (q : Rat) : affM (rf g) (qr q) = affQ g q := by
  have h := cF_rf g
  simp only [cF, cL, AV.sl.injEq] at h
  unfold affM affQ
  rw [h]
  rfl
theorem solv_norm (b : Int) (f : List (Int × Rat)) (o : Int) : solvF b (normF f) o = solvF b f o := by
  unfold solvF
  rw [whole_norm]
set_option maxHeartbeats 8000000 in
theorem r7pivot_ok (n : Int) (t : TR) (b o : Int) (hT : TOk t) : Pure Tryz.prog 49 [cT n t, .int .i64 b, .int .i64 o] (· = pivV n t b o) := by
  have hlen := hT.len
  have a1 := r7check_ok n t hT
  have ab := r7is_ok n t b
  have ao := r7is_ok n t o
  have cb := r7row_ok n t b (by omega)
  have co := r7row_ok n t o (by omega)
  have hM := hT.mok
  have hml := nrmT_len t
  have hgt : goodB n (nrmT t) = true → GT n (nrmT t) := gt_iff.1
  have hraw : ∀ i, i < t.length → ∃ v f, (tab rowT t).getD i [] = [.int .i64 v, .sl (tab rowM f)] ∧ (nrmT t).getD i default = (v, normF (vals f)) ∧ FOk f 68157440 := fun i hi =>
    ⟨(t.getD i default).1, (t.getD i default).2, tab_getD hi, nrmT_getD hi, hT.form (getD_mem hi)⟩
  clear hT
  unfold pivV
  unfold cT cU at *
  generalize goodB n (nrmT t) = gb at *
  generalize nrmT t = M at *
  have hz : tab rowU [] = [] := rfl
  rw [hz]
  cases gb
  · simp only [Bool.false_eq_true, if_false] at a1 ⊢
    (refine pureW Tryz.func49 rfl (rs := [Go.ResultVar.cell 6 24, Go.ResultVar.tmp 7]) rfl (n := 114) rfl ?_; simp only [List.length_cons, List.length_nil, List.replicate, List.cons_append, List.nil_append])
    (refine aVd ?_)
    ((refine W_seq (W_seqV ?_)); intro K hK; (refine sVd ?_))
    (refine ⟨by kernel_rfl, _, .pure rfl (a1), ?_⟩; (try (refine sVd ?_)))
    (refine hK _ ?_; clear hK K)
    (repeat' (first | (exfalso; simp at h; done) | (refine W_seqV fun K hK => ?_; (try (refine sVd ?_)); refine hK _ ?_; clear hK K) | (refine W_ret ?_; (refine qG ?_)) | (refine W_cond rfl (fun h => ?_) (fun h => ?_) <;> (try simp only [cond_true, cond_false, ne_eq, cB] at h))))
    (try (refine sVdV ?_; try exact True.intro))
  simp only [if_true] at a1 ⊢
  have hgt := hgt rfl
  by_cases hb : inR n b = true
  rotate_left
  · have hb' : b < 0 ∨ n ≤ b ∨ o < 0 ∨ n ≤ o := by
      by_cases h1 : b < 0
      · exact .inl h1
      · by_cases h2 : n ≤ b
        · exact .inr (.inl h2)
        · exact absurd (inR_in h1 h2) hb
    rw [if_pos hb']
    rw [Bool.not_eq_true] at hb
    rw [hb] at ab
    (refine pureW Tryz.func49 rfl (rs := [Go.ResultVar.cell 6 24, Go.ResultVar.tmp 7]) rfl (n := 114) rfl ?_; simp only [List.length_cons, List.length_nil, List.replicate, List.cons_append, List.nil_append])
    (refine aVd ?_)
    ((refine W_seq (W_seqV ?_)); intro K hK; (refine sVd ?_))
    (refine ⟨by kernel_rfl, _, .pure rfl (a1), ?_⟩; (try (refine sVd ?_)))
    (refine hK _ ?_; clear hK K)
    (repeat' (first | (exfalso; simp at h; done) | (refine W_seqV fun K hK => ?_; (try (refine sVd ?_)); refine hK _ ?_; clear hK K) | refine W_skip ?_ | (refine W_cond rfl (fun h => ?_) (fun h => ?_) <;> (try simp only [cond_true, cond_false, ne_eq, cB] at h)) | refine W_seq ?_))
    ((refine W_regV ?_); intro K hK; (refine sVd ?_))
    (refine ⟨by kernel_rfl, _, .pure rfl (ab), ?_⟩; (try (refine sVd ?_)))
    (refine hK _ ?_; clear hK K)
    (repeat' (first | (exfalso; simp at h; done) | (refine W_seqV fun K hK => ?_; (try (refine sVd ?_)); refine hK _ ?_; clear hK K) | (refine W_ret ?_; (refine qG ?_)) | (refine W_cond rfl (fun h => ?_) (fun h => ?_) <;> (try simp only [cond_true, cond_false, ne_eq, cB] at h))))
    (try (refine sVdV ?_; try exact True.intro))
  by_cases ho : inR n o = true
  rotate_left
  · have hb' : b < 0 ∨ n ≤ b ∨ o < 0 ∨ n ≤ o := by
      by_cases h1 : o < 0
      · exact .inr (.inr (.inl h1))
      · by_cases h2 : n ≤ o
        · exact .inr (.inr (.inr h2))
        · exact absurd (inR_in h1 h2) ho
    rw [if_pos hb']
    rw [Bool.not_eq_true] at ho
    rw [hb] at ab
    rw [ho] at ao
    (refine pureW Tryz.func49 rfl (rs := [Go.ResultVar.cell 6 24, Go.ResultVar.tmp 7]) rfl (n := 114) rfl ?_; simp only [List.length_cons, List.length_nil, List.replicate, List.cons_append, List.nil_append])
    (refine aVd ?_)
    ((refine W_seq (W_seqV ?_)); intro K hK; (refine sVd ?_))
    (refine ⟨by kernel_rfl, _, .pure rfl (a1), ?_⟩; (try (refine sVd ?_)))
    (refine hK _ ?_; clear hK K)
    (repeat' (first | (exfalso; simp at h; done) | (refine W_seqV fun K hK => ?_; (try (refine sVd ?_)); refine hK _ ?_; clear hK K) | refine W_skip ?_ | (refine W_cond rfl (fun h => ?_) (fun h => ?_) <;> (try simp only [cond_true, cond_false, ne_eq, cB] at h)) | refine W_seq ?_))
    ((refine W_regV ?_); intro K hK; (refine sVd ?_))
    (refine ⟨by kernel_rfl, _, .pure rfl (ab), ?_⟩; (try (refine sVd ?_)))
    (refine ⟨by kernel_rfl, _, .pure rfl (ao), ?_⟩; (try (refine sVd ?_)))
    (refine hK _ ?_; clear hK K)
    (repeat' (first | (exfalso; simp at h; done) | (refine W_seqV fun K hK => ?_; (try (refine sVd ?_)); refine hK _ ?_; clear hK K) | (refine W_ret ?_; (refine qG ?_)) | (refine W_cond rfl (fun h => ?_) (fun h => ?_) <;> (try simp only [cond_true, cond_false, ne_eq, cB] at h))))
    (try (refine sVdV ?_; try exact True.intro))
  rw [hb] at ab
  rw [ho] at ao
  have hbo := inR_iff.1 hb
  have hoo := inR_iff.1 ho
  rw [if_neg (by omega)]
  cases hib : idxM M b with
  | none =>
    dsimp only
    rw [rowI_none hib] at cb
    (refine pureW Tryz.func49 rfl (rs := [Go.ResultVar.cell 6 24, Go.ResultVar.tmp 7]) rfl (n := 114) rfl ?_; simp only [List.length_cons, List.length_nil, List.replicate, List.cons_append, List.nil_append])
    (refine aVd ?_)
    ((refine W_seq (W_seqV ?_)); intro K hK; (refine sVd ?_))
    (refine ⟨by kernel_rfl, _, .pure rfl (a1), ?_⟩; (try (refine sVd ?_)))
    (refine hK _ ?_; clear hK K)
    (repeat' (first | (exfalso; simp at h; done) | (refine W_seqV fun K hK => ?_; (try (refine sVd ?_)); refine hK _ ?_; clear hK K) | refine W_skip ?_ | (refine W_cond rfl (fun h => ?_) (fun h => ?_) <;> (try simp only [cond_true, cond_false, ne_eq, cB] at h)) | refine W_seq ?_))
    ((refine W_regV ?_); intro K hK; (refine sVd ?_))
    (refine ⟨by kernel_rfl, _, .pure rfl (ab), ?_⟩; (try (refine sVd ?_)))
    (refine ⟨by kernel_rfl, _, .pure rfl (ao), ?_⟩; (try (refine sVd ?_)))
    (refine hK _ ?_; clear hK K)
    (repeat' (first | (exfalso; simp at h; done) | refine W_skip ?_ | (refine W_cond rfl (fun h => ?_) (fun h => ?_) <;> (try simp only [cond_true, cond_false, ne_eq, cB] at h)) | refine W_seq ?_))
    ((refine W_regV ?_); intro K hK; (refine sVd ?_))
    (refine ⟨by kernel_rfl, _, .pure rfl (cb), ?_⟩; (try (refine sVd ?_)))
    (refine hK _ ?_; clear hK K)
    ((refine W_seq (W_seqV ?_)); intro K hK; (refine sVd ?_))
    (refine hK _ ?_; clear hK K)
    (repeat' (first | (exfalso; simp at h; done) | (refine W_seqV fun K hK => ?_; (try (refine sVd ?_)); refine hK _ ?_; clear hK K) | (refine W_ret ?_; (refine qG ?_)) | (refine W_cond rfl (fun h => ?_) (fun h => ?_) <;> (try simp only [cond_true, cond_false, ne_eq, cB] at h))))
    (try (refine sVdV ?_; try exact True.intro))
  | some k =>
    dsimp only
    obtain ⟨hk1, hk2, _, hk4⟩ := idx_some hib
    rw [rowI_some hib] at cb
    have hjk := nat_ltI k
    by_cases hom : o ∈ keys M
    · rw [if_pos hom]
      obtain ⟨j, hj1, _⟩ := look_idx hom
      rw [rowI_some hj1] at co
      have hjn := nat_geI j
      (refine pureW Tryz.func49 rfl (rs := [Go.ResultVar.cell 6 24, Go.ResultVar.tmp 7]) rfl (n := 114) rfl ?_; simp only [List.length_cons, List.length_nil, List.replicate, List.cons_append, List.nil_append])
      (refine aVd ?_)
      ((refine W_seq (W_seqV ?_)); intro K hK; (refine sVd ?_))
      (refine ⟨by kernel_rfl, _, .pure rfl (a1), ?_⟩; (try (refine sVd ?_)))
      (refine hK _ ?_; clear hK K)
      (repeat' (first | (exfalso; simp at h; done) | (refine W_seqV fun K hK => ?_; (try (refine sVd ?_)); refine hK _ ?_; clear hK K) | refine W_skip ?_ | (refine W_cond rfl (fun h => ?_) (fun h => ?_) <;> (try simp only [cond_true, cond_false, ne_eq, cB] at h)) | refine W_seq ?_))
      ((refine W_regV ?_); intro K hK; (refine sVd ?_))
      (refine ⟨by kernel_rfl, _, .pure rfl (ab), ?_⟩; (try (refine sVd ?_)))
      (refine ⟨by kernel_rfl, _, .pure rfl (ao), ?_⟩; (try (refine sVd ?_)))
      (refine hK _ ?_; clear hK K)
      (repeat' (first | (exfalso; simp at h; done) | refine W_skip ?_ | (refine W_cond rfl (fun h => ?_) (fun h => ?_) <;> (try simp only [cond_true, cond_false, ne_eq, cB] at h)) | refine W_seq ?_))
      ((refine W_regV ?_); intro K hK; (refine sVd ?_))
      (refine ⟨by kernel_rfl, _, .pure rfl (cb), ?_⟩; (try (refine sVd ?_)))
      (refine hK _ ?_; clear hK K)
      ((refine W_seq (W_seqV ?_)); intro K hK; (refine sVdX (And.intro hjk hjn) ?_))
      (refine ⟨by kernel_rfl, _, .pure rfl (co), ?_⟩; (try (refine sVd ?_)))
      (refine sVdX hjn ?_; try exact True.intro)
      (refine hK _ ?_; clear hK K)
      (repeat' (first | (exfalso; simp at h; done) | (refine W_seqV fun K hK => ?_; (try (refine sVd ?_)); refine hK _ ?_; clear hK K) | (refine W_ret ?_; (refine qG ?_)) | (refine W_cond rfl (fun h => ?_) (fun h => ?_) <;> (try simp only [cond_true, cond_false, ne_eq, cB] at h))))
      (try (refine sVdV ?_; try exact True.intro))
    · rw [if_neg hom]
      have hio : idxM M o = none := by
        cases h : idxM M o with
        | none => rfl
        | some j => exact absurd (idx_some h).2.2.2 hom
      rw [rowI_none hio] at co
      obtain ⟨zz, hzz⟩ : ∃ zz : Rat, zz = 0 := ⟨0, rfl⟩
      obtain ⟨vk, f, hXk, hMk, hff⟩ := hraw k (by omega)
      have hw := f3whole_ok 1 (by omega) (by omega)
      have h1e : ((1 : Int) : Rat) = 1 := rfl
      rw [h1e] at hw
      have hsub := f6sub_ok f (rf [(b, 1)]) (hff.pf (by omega)) ((unit_fok b).pf (by omega)) (fun p hp => by simp [rf] at hp; subst hp; rw [qr_v, nb_one]; omega) (by have := hff.sz.l; rw [vals_length] at this; simp [rf]; omega) (by omega)
      rw [vals_rf, cF_rf] at hsub
      change Pure _ _ _ (· = cL (wholeF b (vals f))) at hsub
      have hwf := FOk.rf (hff.sz.whole b) (by omega)
      have hsol := r6solve_ok (rf (wholeF b (vals f))) zeroR o hwf (by omega) zeroR_ok
      have hgs := hff.sz.solv b o
      rw [hMk]
      dsimp only
      rw [whole_norm, solv_norm]
      have hsol0 : coef (wholeF b (vals f)) o = 0 → Pure Tryz.prog 96 [.agg (affM (rf (wholeF b (vals f))) zeroR), .int .i64 o] (· = .tup [.agg [.sl [], .bool false, .sl [], .sl []], .int .i64 61]) := fun h => hsol.mono fun r hr => by
        rw [hr]
        unfold solvA
        rw [vals_rf, if_pos h]
      have hsol1 : coef (wholeF b (vals f)) o ≠ 0 → Pure Tryz.prog 96 [.agg (affM (rf (wholeF b (vals f))) zeroR), .int .i64 o] (· = .tup [.agg (affQ (solvF b (vals f) o) zz), .int .i64 0]) := fun h => hsol.mono fun r hr => by
        rw [hr]
        unfold solvA
        rw [vals_rf, if_neg h, zeroR_v, Rat.mul_zero, hzz]
        have h2 := norm_self (solv_nf h)
        unfold solvF at h2 ⊢
        rw [h2]
      clear hsol
      have hgn := fun h => solv_nf (b := b) (f := vals f) (o := o) h
      generalize solvF b (vals f) o = g at *
      have hput : NF g → ∀ i, i < t.length → ∃ v f', (tab rowT t).getD i [] = [.int .i64 v, .sl (tab rowM f')] ∧ (M.getD i default).1 = v ∧
          Pure Tryz.prog 97 [.agg (affM f' zeroR), .int .i64 o, .agg (affQ g zz)] (· = .agg (affQ (putF (M.getD i default).2 o g) zz)) := fun hg i hi => by
        obtain ⟨v, f', h1, h2, h3⟩ := hraw i hi
        refine ⟨v, f', h1, by rw [h2], ?_⟩
        have h4 := r6subst_ok f' zeroR o (rf g) (qr zz) h3 (FOk.rf hgs (by omega)) zeroR_ok (qr_ok (by rw [hzz, nb_zero]; omega)) (by omega) (by omega) (by rw [vals_rf]; exact hg) (by rw [qr_v, hzz, nb_zero]; omega)
        unfold subsA at h4
        rw [affM_rf', vals_rf, put_subst, zeroR_v, qr_v, hzz, Rat.mul_zero, Rat.add_zero] at h4
        rw [h2, hzz]
        exact h4
      have hso : NF g → Pure Tryz.prog 64 [cU n (pivR M k o g)] (· = cU n (sortM (pivP M k o g))) := fun hg => by
        have hpp := piv_perm M k o g
        have hpn := pivP_nodup hgt.nodup hom (at_ := k) (g := g)
        have hkp : (keys (pivP M k o g)).Perm (keys (pivR M k o g)) := hpp.map _
        rw [sortM_of hpp hpn]
        have hmem : ∀ r ∈ pivR M k o g, ∃ i, i < M.length ∧ r = pivF M k o g i := fun r hr => by
          rw [pivR_eq hk1] at hr
          obtain ⟨i, hi, rfl⟩ := List.mem_map.1 hr
          exact ⟨i, List.mem_range.1 hi, rfl⟩
        refine sorted_ok n _ (by rw [pivR_eq hk1]; simp; omega) (fun r hr => ?_) (fun r hr => ?_) (hkp.nodup_iff.1 hpn) (fun x hx => ?_)
        · obtain ⟨i, hi, rfl⟩ := hmem r hr
          unfold pivF
          split
          · exact hg
          · exact NF.put _ _ _
        · obtain ⟨i, hi, rfl⟩ := hmem r hr
          unfold pivF
          split
          · exact hgs.mono (by omega)
          · have h1 := hM.sz _ (getD_mem hi)
            have h2 := nb_coef (M.getD i default).2 o
            have h3 := h1.b o
            exact (Sz.put h1 hgs o).mono (by omega)
        · have h1 := hkp.mem_iff.2 hx
          rw [keys_pivP] at h1
          rcases List.mem_append.1 h1 with h2 | h2
          · exact (hgt.range x (List.mem_of_mem_eraseIdx h2)).1
          · simp at h2; omega
      have hR := pivR_eq hk1 o g
      have hst : ∀ i, (List.range (i + 1)).map (pivF M k o g) = (List.range i).map (pivF M k o g) ++ [pivF M k o g i] := fun i => by rw [List.range_succ, List.map_append]; rfl
      have h0 : (List.range 0).map (pivF M k o g) = [] := rfl
      have hln : ∀ i, ((List.range i).map (pivF M k o g)).length = i := fun i => by simp
      have hpa : pivF M k o g k = (o, g) := if_pos rfl
      have hpb : ∀ i, i ≠ k → pivF M k o g i = ((M.getD i default).1, putF (M.getD i default).2 o g) := fun i h => if_neg h
      rw [hR, hml] at hso
      unfold cU at hso
      clear hR
      generalize hS : sortM (pivP M k o g) = S at *
      generalize hF : pivF M k o g = F at *
      generalize hE : (fun i => (List.range i).map F) = E at *
      have hE' : ∀ i, (List.range i).map F = E i := fun i => congrFun hE i
      simp only [hE'] at *
      clear hE hE'
      generalize wholeF b (vals f) = wf at *
      have hwF := cF_rf wf
      generalize coef wf o = q at *
      have ht : tab rowQ [(b, (1 : Rat))] = [[.int .i64 b, .bool (decide ((1 : Rat).num < 0)), .sl (u32s (limbs (1 : Rat).num.natAbs)), .sl (u32s (limbs (1 : Rat).den))]] := rfl
      simp only [affM, zeroR] at hsol0 hsol1
      simp only [cF, cL, cQ, AV.sl.injEq] at hw hsub hwF
      rw [ht] at hsub
      rw [hwF] at hsol0 hsol1
      have hu0 : u32s [] = [] := rfl
      rw [hu0] at hsol0 hsol1
      have hk1' : k < t.length := by omega
      by_cases hq : q = 0
      · rw [if_pos hq]
        have hsol0' := hsol0 hq
        (refine pureW Tryz.func49 rfl (rs := [Go.ResultVar.cell 6 24, Go.ResultVar.tmp 7]) rfl (n := 114) rfl ?_; simp only [List.length_cons, List.length_nil, List.replicate, List.cons_append, List.nil_append])
        (refine aVd ?_)
        ((refine W_seq (W_seqV ?_)); intro K hK; (refine sVd ?_))
        (refine ⟨by kernel_rfl, _, .pure rfl (a1), ?_⟩; (try (refine sVd ?_)))
        (refine hK _ ?_; clear hK K)
        (repeat' (first | (exfalso; simp at h; done) | (refine W_seqV fun K hK => ?_; (try (refine sVd ?_)); refine hK _ ?_; clear hK K) | refine W_skip ?_ | (refine W_cond rfl (fun h => ?_) (fun h => ?_) <;> (try simp only [cond_true, cond_false, ne_eq, cB] at h)) | refine W_seq ?_))
        ((refine W_regV ?_); intro K hK; (refine sVd ?_))
        (refine ⟨by kernel_rfl, _, .pure rfl (ab), ?_⟩; (try (refine sVd ?_)))
        (refine ⟨by kernel_rfl, _, .pure rfl (ao), ?_⟩; (try (refine sVd ?_)))
        (refine hK _ ?_; clear hK K)
        (repeat' (first | (exfalso; simp at h; done) | refine W_skip ?_ | (refine W_cond rfl (fun h => ?_) (fun h => ?_) <;> (try simp only [cond_true, cond_false, ne_eq, cB] at h)) | refine W_seq ?_))
        ((refine W_regV ?_); intro K hK; (refine sVd ?_))
        (refine ⟨by kernel_rfl, _, .pure rfl (cb), ?_⟩; (try (refine sVd ?_)))
        (refine hK _ ?_; clear hK K)
        ((refine W_seq (W_seqV ?_)); intro K hK; (refine sVdX hjk ?_))
        (refine ⟨by kernel_rfl, _, .pure rfl (co), ?_⟩; (try (refine sVd ?_)))
        (refine hK _ ?_; clear hK K)
        (repeat' (first | (exfalso; simp at h; done) | refine W_skip ?_ | (refine W_cond rfl (fun h => ?_) (fun h => ?_) <;> (try simp only [cond_true, cond_false, ne_eq, cB] at h)) | refine W_seq ?_))
        ((refine W_regD mixed [(1, 12), (3, 12), (5, 12), (9, 12)] (by kernel_rfl) ?_); intro K hK; (refine sVdX (And.intro hXk hk1') ?_))
        (refine ⟨by kernel_rfl, _, .pure rfl (hw), ?_⟩; (try (refine sVd ?_)); (repeat refine aI ?_))
        (refine sVdX (And.intro hXk hk1') ?_; try exact True.intro)
        (refine ⟨by kernel_rfl, _, .pure rfl (hsub), ?_⟩; (try (refine sVd ?_)); (repeat refine aI ?_))
        (refine hK _ ?_; clear hK K)
        ((refine W_seqV ?_); intro K hK; (refine sVd ?_))
        (refine ⟨by kernel_rfl, _, .pure rfl (hsol0'), ?_⟩; (try (refine sVd ?_)))
        (refine hK _ ?_; clear hK K)
        (repeat' (first | (exfalso; simp at h; done) | (refine W_seqV fun K hK => ?_; (try (refine sVd ?_)); refine hK _ ?_; clear hK K) | (refine W_ret ?_; (refine qG ?_)) | (refine W_cond rfl (fun h => ?_) (fun h => ?_) <;> (try simp only [cond_true, cond_false, ne_eq, cB] at h)) | refine W_seq ?_))
        (try (refine sVdV ?_; try exact True.intro))
      · rw [if_neg hq]
        have hsol1' := hsol1 hq
        have hgn' := hgn hq
        have hput' := hput hgn'
        have hso' := hso hgn'
        clear hsol0 hsol1 hgn hput hso
        unfold affQ at hsol1'
        (refine pureW Tryz.func49 rfl (rs := [Go.ResultVar.cell 6 24, Go.ResultVar.tmp 7]) rfl (n := 114) rfl ?_; simp only [List.length_cons, List.length_nil, List.replicate, List.cons_append, List.nil_append])
        (refine aVd ?_)
        ((refine W_seq (W_seqV ?_)); intro K hK; (refine sVd ?_))
        (refine ⟨by kernel_rfl, _, .pure rfl (a1), ?_⟩; (try (refine sVd ?_)))
        (refine hK _ ?_; clear hK K)
        (repeat' (first | (exfalso; simp at h; done) | (refine W_seqV fun K hK => ?_; (try (refine sVd ?_)); refine hK _ ?_; clear hK K) | refine W_skip ?_ | (refine W_cond rfl (fun h => ?_) (fun h => ?_) <;> (try simp only [cond_true, cond_false, ne_eq, cB] at h)) | refine W_seq ?_))
        ((refine W_regV ?_); intro K hK; (refine sVd ?_))
        (refine ⟨by kernel_rfl, _, .pure rfl (ab), ?_⟩; (try (refine sVd ?_)))
        (refine ⟨by kernel_rfl, _, .pure rfl (ao), ?_⟩; (try (refine sVd ?_)))
        (refine hK _ ?_; clear hK K)
        (repeat' (first | (exfalso; simp at h; done) | refine W_skip ?_ | (refine W_cond rfl (fun h => ?_) (fun h => ?_) <;> (try simp only [cond_true, cond_false, ne_eq, cB] at h)) | refine W_seq ?_))
        ((refine W_regV ?_); intro K hK; (refine sVd ?_))
        (refine ⟨by kernel_rfl, _, .pure rfl (cb), ?_⟩; (try (refine sVd ?_)))
        (refine hK _ ?_; clear hK K)
        ((refine W_seq (W_seqV ?_)); intro K hK; (refine sVdX hjk ?_))
        (refine ⟨by kernel_rfl, _, .pure rfl (co), ?_⟩; (try (refine sVd ?_)))
        (refine hK _ ?_; clear hK K)
        (repeat' (first | (exfalso; simp at h; done) | refine W_skip ?_ | (refine W_cond rfl (fun h => ?_) (fun h => ?_) <;> (try simp only [cond_true, cond_false, ne_eq, cB] at h)) | refine W_seq ?_))
        ((refine W_regD mixed [(1, 12), (3, 12), (5, 12), (9, 12)] (by kernel_rfl) ?_); intro K hK; (refine sVdX (And.intro hXk hk1') ?_))
        (refine ⟨by kernel_rfl, _, .pure rfl (hw), ?_⟩; (try (refine sVd ?_)); (repeat refine aI ?_))
        (refine sVdX (And.intro hXk hk1') ?_; try exact True.intro)
        (refine ⟨by kernel_rfl, _, .pure rfl (hsub), ?_⟩; (try (refine sVd ?_)); (repeat refine aI ?_))
        (refine hK _ ?_; clear hK K)
        ((refine W_seqV ?_); intro K hK; (refine sVd ?_))
        (refine ⟨by kernel_rfl, _, .pure rfl (hsol1'), ?_⟩; (try (refine sVd ?_)))
        (refine hK _ ?_; clear hK K)
        (repeat' (first | (exfalso; simp at h; done) | refine W_block ?_ | (refine W_seqV fun K hK => ?_; (try (refine sVd ?_)); refine hK _ ?_; clear hK K) | refine W_skip ?_ | (refine W_cond rfl (fun h => ?_) (fun h => ?_) <;> (try simp only [cond_true, cond_false, ne_eq, cB] at h)) | refine W_seq ?_))
        refine W.le ?_ (Le_nilO 13 0 1 110 84 2 true rfl rfl rfl rfl)
        simp only [List.set]
        refine W_loop (fun z : {i : Nat // i ≤ t.length} =>
          ⟨(.any :: .any :: (.int .i64 o) :: (.ptr 3 0 0) :: .any :: .any :: (.ptr 6 0 0) :: .any :: .any :: (.int .i64 k) :: .any :: (.ptr 11 0 0) :: .any :: (.ptr 13 0 0) :: (.int .i64 z.1) :: .any :: .any :: .any :: .any :: .any :: .any :: .any :: .any :: .any :: .any :: .any :: .any :: .any :: .any :: .any :: .any :: .any :: .any :: .any :: .any :: .any :: .any :: .any :: .any :: .any :: .any :: .any :: .any :: .any :: .any :: .any :: .any :: .any :: .any :: .any :: .any :: .any :: .any :: .any :: .any :: .any :: .any :: .any :: .any :: .any :: .any :: .any :: .any :: .any :: .any :: .any :: .any :: .any :: .any :: .any :: .any :: .any :: .any :: .any :: .any :: .any :: .any :: .any :: .any :: .any :: .any :: .any :: .any :: .any :: .any :: .any :: .any :: .any :: .any :: .any :: .any :: .any :: .any :: .any :: .any :: .any :: .any :: .any :: .any :: .any :: .any :: .any :: .any :: .any :: .any :: .any :: .any :: .any :: .any :: .any :: .any :: .any :: .any :: .any :: []),
           (.dead :: .dead :: .dead :: (.arr 24 2 false [[.int .i64 n, .sl (tab rowT t)]]) :: .dead :: .dead :: (.arr 24 2 false [[.int .i64 0, .nils]]) :: .dead :: .dead :: .dead :: .dead :: (.arr 121 4 false [[.sl (tab rowQ g), .bool (decide (zz.num < 0)), .sl (u32s (limbs zz.num.natAbs)), .sl (u32s (limbs zz.den))]]) :: .dead :: (.arr 24 2 false [[.int .i64 n, .sref 110 0 z.1]]) :: .dead :: .dead :: .dead :: .dead :: .dead :: .dead :: .dead :: .dead :: .dead :: .dead :: .dead :: .dead :: .dead :: .dead :: .dead :: .dead :: .dead :: .dead :: .dead :: .dead :: .dead :: .dead :: .dead :: .dead :: .dead :: .dead :: .dead :: .dead :: .dead :: .dead :: .dead :: .dead :: .dead :: .dead :: .dead :: .dead :: .dead :: .dead :: .dead :: .dead :: .dead :: .dead :: .dead :: .dead :: .dead :: .dead :: .dead :: .dead :: .dead :: .dead :: .dead :: .dead :: .dead :: .dead :: .dead :: .dead :: .dead :: .dead :: .dead :: .dead :: .dead :: .dead :: .dead :: .dead :: .dead :: .dead :: .dead :: .dead :: .dead :: .dead :: .dead :: .dead :: .dead :: .dead :: .dead :: .dead :: .dead :: .dead :: .dead :: .dead :: .dead :: .dead :: .dead :: .dead :: .dead :: .dead :: .dead :: .dead :: .dead :: .dead :: .dead :: .dead :: .dead :: .dead :: .dead :: .dead :: (.arr 84 2 true (tab rowU (E z.1))) :: .dead :: .dead :: .dead :: [])⟩) (fun z => t.length - z.1)
          ⟨0, by omega⟩ (Le_drop (by simp [leE]) (by simp [leH, h0, tab]) rfl rfl) fun z => ?_
        obtain ⟨i, hi⟩ := z
        dsimp only
        by_cases hlt : i < t.length
        · obtain ⟨v, f', hti, hMv, hsb⟩ := hput' i hlt
          have hsi := hst i
          have hli := hln i
          have hpi := hpb i
          generalize putF (M.getD i default).2 o g = pf at *
          generalize hE1 : E (i + 1) = o' at *
          generalize E i = oo at *
          simp only [affM, affQ, zeroR, hu0] at hsb
          refine W_seq ?_
          ((refine W_seqV ?_); intro K hK; (refine sVdX hlt ?_))
          (refine hK _ ?_; clear hK K)
          (refine W_cond rfl (fun _ => ?_) (fun h => by cases h))
          refine W_skip ?_
          simp only [thenW]
          refine W_seq ?_
          refine W_block ?_
          refine W_seq ?_
          by_cases hik : i = k
          · have hkk : ((i : Int) == (k : Int)) = true := by simp [hik]
            rw [hik, hpa] at hsi
            ((refine W_seqV ?_); intro K hK; (refine sVdX hkk ?_))
            (refine hK _ ?_; clear hK K)
            (refine W_cond rfl (fun _ => ?_) (fun h => by cases h))
            refine W_seqR fun K hK => ?_
            (refine sVdX hkk ?_; try exact True.intro)
            (repeat refine aI ?_)
            refine hK _ ?_
            clear hK K
            refine W_exit ?_
            simp only [thenW, blockW, if_true]
            ((refine W_regV ?_); intro K hK; (refine sVd ?_))
            (refine hK _ ?_; clear hK K)
            simp only [blockW, thenW]
            refine ⟨⟨i + 1, by omega⟩, Le_drop (by simp [leE]) (by simp [leH, hE1, hsi, ← tab_snoc, rowU, tab_take, List.take_of_length_le, hli]) rfl rfl, ?_⟩
            dsimp only
            omega
          · have hkk : ((i : Int) == (k : Int)) = false := beq_eq_false_iff_ne.2 fun h => hik (by omega)
            rw [hpi hik, hMv] at hsi
            ((refine W_seqV ?_); intro K hK; (refine sVdX hkk ?_))
            (refine hK _ ?_; clear hK K)
            (refine W_cond rfl (fun h => by cases h) (fun _ => ?_))
            refine W_skip ?_
            simp only [thenW]
            ((refine W_seqD mixed [(1, 10), (3, 10), (5, 10), (8, 10)] (by kernel_rfl) ?_); intro K hK; (refine sVdX (And.intro hti hlt) ?_))
            (refine ⟨by kernel_rfl, _, .pure rfl (hsb), ?_⟩; (try (refine sVd ?_)); (repeat refine aI ?_))
            (refine hK _ ?_; clear hK K)
            ((refine W_regS mixed 12 [] (by kernel_rfl) ?_); intro K hK; (refine sVdX (And.intro hti hlt) ?_))
            ((repeat refine aI ?_); refine hK _ ?_; clear hK K)
            simp only [thenW, blockW]
            ((refine W_regV ?_); intro K hK; (refine sVd ?_))
            (refine hK _ ?_; clear hK K)
            simp only [blockW, thenW]
            refine ⟨⟨i + 1, by omega⟩, Le_drop (by simp [leE]) (by simp [leH, hE1, hsi, ← tab_snoc, rowU, tab_take, List.take_of_length_le, hli]) rfl rfl, ?_⟩
            dsimp only
            omega
        · obtain rfl : i = t.length := by omega
          have hli := hln t.length
          generalize E t.length = oo at *
          refine W_seq ?_
          ((refine W_seqV ?_); intro K hK; (refine sVd ?_))
          (refine hK _ ?_; clear hK K)
          (refine W_cond rfl (fun h => by cases h) (fun _ => ?_))
          refine W_exit ?_
          simp only [thenW, blockW, if_true]
          rw [← hli]
          (refine W.le ?_ (Le_freeze 110 (rows := tab rowU oo) rfl (by simp) (.inl rfl)); simp only [St.freeze, List.map_cons, List.map_nil, List.set, if_true, if_false, Nat.reduceEqDiff, reduceCtorEq, List.drop_zero, u32s_take, u32s_drop, froz_any, froz_und, froz_int, froz_bool, froz_str, froz_nils, froz_sl, froz_ia, froz_nilp, froz_nilif, froz_nilfn, froz_nilmp, froz_gl, froz_sref, froz_ptr, froz_agg, froz_tup, froz_fn, froz_ifc, frozs_nil, frozs_cons, froz_dead, froz_arr, froz_mp, froz_it, froz_md, froz_map, froz_iter])
          simp only [froz_arrF, List.map_cons, List.map_nil, frozs_cons, frozs_nil, froz_bool, froz_sl, froz_nils, froz_int, froz_sref, if_true, List.drop_zero]
          rw [List.take_of_length_le (by simp [tab_length])]
          ((refine W_seqV ?_); intro K hK; (refine sVd ?_))
          (refine ⟨by kernel_rfl, _, .pure rfl (hso'), ?_⟩; (try (refine sVd ?_)))
          (refine hK _ ?_; clear hK K)
          (repeat' (refine W_ret ?_; (refine qG ?_)))
          (try (refine sVdV ?_; try exact True.intro))
end Go.Proofs.YtjmpajgjaefcjaaGreat.Vm

namespace Go.Proofs.YtjmpajgjaefcjaaGreat.Vm
open Go Go.RowKit
set_option maxRecDepth 100000
set_option linter.unusedVariables false
set_option linter.unusedSimpArgs false
theorem sUg {G G' : Prop} (h : G') (e : G = G' := by conv => lhs;simp (disch := omega) only [rowsOf,cNat,cN,St.ret,St.seth,Eff.app,Eff.wi,sepL,guardOf,St.known,objOf,List.set,sliceW,litW,copyW,lenOf,bnd,mxOk,ofCells,TI.isAgg,cellsOf,storable,AV.one,dead,laid,overlay,reduceCtorEq,Int.reduceLE,Int.reduceLT,Int.reduceSub,Int.reduceAdd,Nat.reduceMul,Int.reduceToNat,Nat.reducePow,Int.reduceNeg,Nat.reduceAdd,Nat.reduceLT,Nat.reduceLeDiff,sA,sB,Nat.reduceEqDiff,beq_self_eq_true,Int.reduceBEq,Int.reduceBNe,cQ,rowQ,rowU,rowT,rowM,i64s_getD,i64s_length,i64s_all,tab_length,tab_drop,tab_take,tab_append,tab_nil,rowT_all,rowT_one,rowT_pure,rowU_all,rowU_one,rowU_pure,rowQ_all,rowQ_one,rowQ_pure,rowM_all,rowM_one,rowM_pure,List.take_length,List.length_append,sT]) : G := e.mpr h
theorem sUgV {G G' : Prop} (h : G') (e : G = G' := by conv => lhs;simp (disch := omega) only [rowsOf,cNat,cN,St.ret,St.seth,Eff.app,Eff.wi,sepL,guardOf,St.known,objOf,List.set,sliceW,litW,copyW,lenOf,bnd,mxOk,ofCells,TI.isAgg,cellsOf,storable,AV.one,dead,laid,overlay,reduceCtorEq,Int.reduceLE,Int.reduceLT,Int.reduceSub,Int.reduceAdd,Nat.reduceMul,Int.reduceToNat,Nat.reducePow,Int.reduceNeg,Nat.reduceAdd,Nat.reduceLT,Nat.reduceLeDiff,sA,sB,Nat.reduceEqDiff,beq_self_eq_true,Int.reduceBEq,Int.reduceBNe,cQ,rowQ,rowU,rowT,rowM,i64s_getD,i64s_length,i64s_all,tab_length,tab_drop,tab_take,tab_append,tab_nil,rowT_all,rowT_one,rowT_pure,rowU_all,rowU_one,rowU_pure,rowQ_all,rowQ_one,rowQ_pure,rowM_all,rowM_one,rowM_pure,List.take_length,List.length_append,sT,view_sref,viewRef,view_agg,views_cons,views_nil,view_bool,view_int,view_sl,view_nils,view_str,view_tup,view_nilif]) : G := e.mpr h
theorem aUg {G G' : Prop} (h : G') (f : Wr G' → G := by intro h;(repeat (first|(refine W_seqV fun K hK => ?_;(try (refine sUg ?_;try exact True.intro));(repeat refine aI ?_);refine hK _ ?_;clear hK K)|(refine W_seqR fun K hK => ?_;(try (refine sUg ?_;try exact True.intro));(repeat refine aI ?_);refine hK _ ?_;clear hK K)|(refine W_seqD mixed [] (by kernel_rfl) fun K hK => ?_;(try (refine sUg ?_;try exact True.intro));(repeat refine aI ?_);refine hK _ ?_;clear hK K)));exact h.out) : G := f ⟨h⟩
theorem lmono_ok (v c : Int) (h1 : -9223372036854775808 ≤ c) (h2 : c < 9223372036854775808) : Pure Tryz.prog 69 [.int .i64 v,.int .i64 c] (· = .agg (rowQ (v,(c : Rat)))) := by
 have a := f3whole_ok c h1 h2
 simp only [rowQ,cQ] at *
 (refine pureW Tryz.func69 rfl (rs := [Go.ResultVar.cell 4 55]) rfl (n := 9) rfl ?_;simp only [List.length_cons,List.length_nil,List.replicate,List.cons_append,List.nil_append])
 (refine aUg ?_)
 ((refine W_seqV ?_);intro K hK;(refine sUg ?_))
 (refine ⟨by kernel_rfl,_,.pure rfl (a),?_⟩;(try (refine sUg ?_)))
 (refine hK _ ?_;clear hK K)
 refine W_ret ?_
 (refine qG ?_;try exact True.intro);try (refine sUgV ?_;try exact True.intro)
theorem norm01 : normF [(1,(1 : Rat)),(0,1)] = [(0,1),(1,1)] := by
 refine NF.ext (NF.norm _) (NF.cons (NF.cons NF.nil (by decide) (by simp)) (by decide) (by simp)) fun v => ?_
 rw [coef_norm]
 simp only [coef]
 grind
theorem expr_nil (f : List (Int × Rat)) : exprT [] f = normF f := by
 unfold exprT exprP
 have : ∀ (l : List Int) (h : List (Int × Rat)),l.foldl (fun h v => match lookM [] v with | some g => putF h v g | none => h) h = h := by
  intro l
  induction l with
  | nil => intro h;rfl
  | cons x l ih => intro h;rw [List.foldl_cons];exact ih h
 exact this _ _
theorem lives_ok : Pure Tryz.prog 24 [] (· = .bool true) := by
 have a1 := tnew_ok 2
 have e1 : newR 2 = .tup [.agg [.int .i64 2,.sl []],.int .i64 0] := rfl
 rw [e1] at a1
 have m11 := lmono_ok 1 1 (by omega) (by omega)
 have m01 := lmono_ok 0 1 (by omega) (by omega)
 have h1e : ((1 : Int) : Rat) = 1 := rfl
 rw [h1e] at m11 m01
 have hfo : FormOk (rf [(1,(1 : Rat)),(0,1)]) := by
  refine ⟨fun p hp => ?_,?_⟩
  ·obtain ⟨q,hq,rfl⟩ := List.mem_map.1 hp
   refine qr_ok ?_
   simp only [List.mem_cons,List.mem_nil_iff,or_false] at hq
   rcases hq with rfl | rfl <;> simp only [nb_one] <;> omega
  ·rw [vals_rf]
   simp only [nbs,nb_one]
   omega
 have hto : TOk [] := ⟨by simp,by simp [tb]⟩
 have a2 := tdefine_ok 2 [] (rf [(1,(1 : Rat)),(0,1)]) hto hfo
 have hg : goodB 2 [] = true := by decide
 have hn : nrmT [] = [] := rfl
 have e2 : defV 2 [] (rf [(1,(1 : Rat)),(0,1)]) = .tup [cU 3 [(2,[(0,1),(1,1)])],.int .i64 2,.int .i64 0] := by
  unfold defV
  rw [hn,hg,vals_rf,expr_nil,norm01]
  have hk : knownB 2 [(0,(1 : Rat)),(1,1)] = true := by simp [knownB,inR]
  rw [hk]
  simp only [if_true]
  rw [if_neg (by omega),sortM_snoc (by simp [keys]) (by simp [keys]),show sortM [] = [] by simp [sortM,sortK,keys]]
  rfl
 rw [e2] at a2
 have hts : TS (rfT [(2,[(0,(1 : Rat)),(1,1)])]) := by
  refine MOk.ts (B := 100) ⟨fun r hr => ?_,fun r hr => ?_,by simp⟩ (by omega)
  ·simp at hr;subst hr
   exact NF.cons (NF.cons NF.nil (by decide) (by simp)) (by decide) (by simp)
  ·simp at hr;subst hr
   refine (Sz.of _).mono ?_
   simp only [nbs,nb_one]
   omega
 have a3 := lalike_ok 3 _ hts
 rw [cU_rf] at a3
 have ht0 : tab rowT [] = [] := rfl
 have ht1 : tab rowM (rf [(1,(1 : Rat)),(0,1)]) = [rowQ (1,1),rowQ (0,1)] := by rw [tab_rf];rfl
 have ht2 : tab rowU [(2,[(0,(1 : Rat)),(1,1)])] = [[.int .i64 2,.sl [rowQ (0,1),rowQ (1,1)]]] := rfl
 have q1 : rowQ (1,(1 : Rat)) = [.int .i64 1,.bool (decide ((1 : Rat).num < 0)),.sl (u32s (limbs (1 : Rat).num.natAbs)),.sl (u32s (limbs (1 : Rat).den))] := rfl
 have q0 : rowQ (0,(1 : Rat)) = [.int .i64 0,.bool (decide ((1 : Rat).num < 0)),.sl (u32s (limbs (1 : Rat).num.natAbs)),.sl (u32s (limbs (1 : Rat).den))] := rfl
 simp only [cT,cU,cF,ht0,ht1,ht2] at a2 a3
 rw [q1,q0] at a2 a3
 rw [q1] at m11
 rw [q0] at m01
 clear e1 e2 hfo hto hg hn hts ht0 ht1 ht2 q1 q0 h1e
 generalize (1 : Rat) = one at *
 (refine pureW Tryz.func24 rfl (rs := [Go.ResultVar.tmp 0]) rfl (n := 35) rfl ?_;simp only [List.length_cons,List.length_nil,List.replicate,List.cons_append,List.nil_append])
 (refine aUg ?_)
 ((refine W_seqV ?_);intro K hK;(refine sUg ?_))
 (refine ⟨by kernel_rfl,_,.pure rfl (a1),?_⟩;(try (refine sUg ?_)))
 (refine hK _ ?_;clear hK K)
 (repeat' (first | (exfalso;simp at h;done) | (refine W_seqV fun K hK => ?_;(try (refine sUg ?_));refine hK _ ?_;clear hK K) | refine W_skip ?_ | (refine W_cond rfl (fun h => ?_) (fun h => ?_) <;> (try simp only [cond_true,cond_false,ne_eq,cB] at h)) | refine W_seq ?_))
 ((refine W_regD mixed [] (by kernel_rfl) ?_);intro K hK;(refine sUg ?_))
 (refine ⟨by kernel_rfl,_,.pure rfl (m11),?_⟩;(try (refine sUg ?_)))
 (refine ⟨by kernel_rfl,_,.pure rfl (m01),?_⟩;(try (refine sUg ?_));(repeat refine aI ?_))
 (refine ⟨by kernel_rfl,_,.pure rfl (a2),?_⟩;(try (refine sUg ?_)))
 (refine hK _ ?_;clear hK K)
 ((refine W_seqD mixed [] (by kernel_rfl) ?_);intro K hK;(refine sUg ?_))
 (refine ⟨by kernel_rfl,_,.pure rfl (m01),?_⟩;(try (refine sUg ?_)))
 (refine ⟨by kernel_rfl,_,.pure rfl (m11),?_⟩;(try (refine sUg ?_));(repeat refine aI ?_))
 (refine ⟨by kernel_rfl,_,.pure rfl (a3),?_⟩;(try (refine sUg ?_)))
 (refine hK _ ?_;clear hK K)
 (repeat' (refine W_ret ?_;(refine qG ?_;try exact True.intro)))
theorem MOk.expr {t : TR} (hT : TOk t) {n : Int} (hg : goodB n (nrmT t) = true) {f : List (Int × RR)} (hf : FormOk f) (hk : knownB n (normF (vals f)) = true) : NF (exprT (nrmT t) (vals f)) ∧ Sz (exprT (nrmT t) (vals f)) 536870912 := by
 have hp := exprP_pre (gt_iff.1 hg) hk (keys (normF (vals f))).length
 rw [List.take_length] at hp
 have := hf.sz
 have := hT.tb
 exact ⟨hp.1,hp.2.mono (by omega)⟩
theorem FormOk.len {f : List (Int × RR)} (h : FormOk f) : f.length ≤ 68157440 := by have := nbs_len (vals f);have := h.sz;rw [vals_length] at *;omega
theorem sVe {G G' : Prop} (h : G') (e : G = G' := by conv => lhs;simp (disch := omega) only [rowsOf,cNat,cN,St.ret,St.seth,Eff.app,Eff.wi,sepL,guardOf,St.known,objOf,List.set,sliceW,litW,copyW,lenOf,bnd,mxOk,ofCells,TI.isAgg,cellsOf,storable,AV.one,dead,laid,overlay,reduceCtorEq,Int.reduceLE,Int.reduceLT,Int.reduceSub,Int.reduceAdd,Nat.reduceMul,Int.reduceToNat,Nat.reducePow,Int.reduceNeg,Nat.reduceAdd,Nat.reduceLT,Nat.reduceLeDiff,sA,sB,Nat.reduceEqDiff,beq_self_eq_true,Int.reduceBEq,Int.reduceBNe,cQ,rowQ,rowU,rowT,rowM,i64s_getD,i64s_length,i64s_all,tab_length,tab_drop,tab_take,tab_append,tab_nil,rowT_all,rowT_one,rowT_pure,rowU_all,rowU_one,rowU_pure,rowQ_all,rowQ_one,rowQ_pure,rowM_all,rowM_one,rowM_pure,List.take_length,List.length_append,sT]) : G := e.mpr h
theorem sVeV {G G' : Prop} (h : G') (e : G = G' := by conv => lhs;simp (disch := omega) only [rowsOf,cNat,cN,St.ret,St.seth,Eff.app,Eff.wi,sepL,guardOf,St.known,objOf,List.set,sliceW,litW,copyW,lenOf,bnd,mxOk,ofCells,TI.isAgg,cellsOf,storable,AV.one,dead,laid,overlay,reduceCtorEq,Int.reduceLE,Int.reduceLT,Int.reduceSub,Int.reduceAdd,Nat.reduceMul,Int.reduceToNat,Nat.reducePow,Int.reduceNeg,Nat.reduceAdd,Nat.reduceLT,Nat.reduceLeDiff,sA,sB,Nat.reduceEqDiff,beq_self_eq_true,Int.reduceBEq,Int.reduceBNe,cQ,rowQ,rowU,rowT,rowM,i64s_getD,i64s_length,i64s_all,tab_length,tab_drop,tab_take,tab_append,tab_nil,rowT_all,rowT_one,rowT_pure,rowU_all,rowU_one,rowU_pure,rowQ_all,rowQ_one,rowQ_pure,rowM_all,rowM_one,rowM_pure,List.take_length,List.length_append,sT,view_sref,viewRef,view_agg,views_cons,views_nil,view_bool,view_int,view_sl,view_nils,view_str,view_tup,view_nilif]) : G := e.mpr h
theorem aVe {G G' : Prop} (h : G') (f : Wr G' → G := by intro h;(repeat (first|(refine W_seqV fun K hK => ?_;(try (refine sVe ?_;try exact True.intro));(repeat refine aI ?_);refine hK _ ?_;clear hK K)|(refine W_seqR fun K hK => ?_;(try (refine sVe ?_;try exact True.intro));(repeat refine aI ?_);refine hK _ ?_;clear hK K)|(refine W_seqD mixed [] (by kernel_rfl) fun K hK => ?_;(try (refine sVe ?_;try exact True.intro));(repeat refine aI ?_);refine hK _ ?_;clear hK K)));exact h.out) : G := f ⟨h⟩
theorem piv_mok {M : TM} (hM : MOk M 68157440) (hl : M.length ≤ 68157440) {g : List (Int × Rat)} (hg : NF g) (hgs : Sz g 1073741824) {k : Nat} {o : Int} (hn : (keys (pivP M k o g)).Nodup) : MOk (sortM (pivP M k o g)) 4294967296 := by
 have hp := sortM_perm hn
 have hr : ∀ r ∈ pivP M k o g,NF r.2 ∧ Sz r.2 4294967296 := fun r hr => by
  unfold pivP at hr
  rcases List.mem_append.1 hr with h | h
  ·obtain ⟨q,hq,rfl⟩ := List.mem_map.1 h
   have hq' := List.mem_of_mem_eraseIdx hq
   have h1 := hM.sz q hq'
   have h2 := nb_coef q.2 o
   have h3 := h1.b o
   exact ⟨NF.put _ _ _,(Sz.put h1 hgs o).mono (by omega)⟩
  ·simp at h
   subst h
   exact ⟨hg,hgs.mono (by omega)⟩
 refine ⟨fun r h => (hr r (hp.mem_iff.1 h)).1,fun r h => (hr r (hp.mem_iff.1 h)).2,?_⟩
 rw [sortM_len]
 unfold pivP
 rw [List.length_append,List.length_map]
 have := List.length_eraseIdx_le M k
 simp
 omega
theorem piv_form {n : Int} {t : TR} (hT : TOk t) (b o : Int) : ∃ m u e,TS u ∧ pivV n t b o = .tup [cT m u,.int .i64 e] := by
 have hz : ∀ e : Int,∃ m u e',TS u ∧ AV.tup [cU 0 [],.int .i64 e] = .tup [cT m u,.int .i64 e'] := fun e => ⟨0,[],e,⟨by simp,by simp,by simp⟩,rfl⟩
 unfold pivV
 split
 ·rename_i hg
  split
  ·exact hz 61
  ·split
   ·exact hz 71
   ·rename_i k hk
    split
    ·exact hz 71
    ·rename_i ho
     split
     ·exact hz 72
     ·rename_i hq
      obtain ⟨h1,_⟩ := idx_some hk
      have hM := hT.mok
      have hs := hM.sz _ (getD_mem h1)
      have hgs := hs.solv b o
      have hgn := solv_nf hq
      have hnd := pivP_nodup (gt_iff.1 hg).nodup ho (at_ := k) (g := solvF b ((nrmT t).getD k default).2 o)
      have hm := piv_mok hM (by rw [nrmT_len];exact hT.len) hgn (hgs.mono (by omega)) hnd
      rw [← cU_rf n]
      exact ⟨_,_,_,hm.ts (by omega),rfl⟩
 ·exact hz 70
theorem pivots_law (n : Int) (t : TR) (b o : Int) (hT : TOk t) : Pure Tryz.prog 9 [cT n t,.int .i64 b,.int .i64 o] (· = .bool true) := by
 have a1 := ltwin_ok n t hT.ts
 have b1 := tpivot_ok n t b o hT
 have b2 := r7pivot_ok n t b o hT
 have hl := lives_ok
 obtain ⟨m,u,e,hu,he⟩ := piv_form (n := n) hT b o
 rw [he] at b1 b2
 have c1 := lalike_ok m u hu
 simp only [cT] at *
 (refine pureW Tryz.func9 rfl (rs := [Go.ResultVar.tmp 6]) rfl (n := 37) rfl ?_;simp only [List.length_cons,List.length_nil,List.replicate,List.cons_append,List.nil_append])
 (refine aVe ?_)
 ((refine W_seqV ?_);intro K hK;(refine sVe ?_))
 (refine ⟨by kernel_rfl,_,.pure rfl (a1),?_⟩;(try (refine sVe ?_)))
 (refine ⟨by kernel_rfl,_,.pure rfl (b1),?_⟩;(try (refine sVe ?_)))
 (refine hK _ ?_;clear hK K)
 ((refine W_seqV ?_);intro K hK;(refine sVe ?_))
 (refine ⟨by kernel_rfl,_,.pure rfl (b2),?_⟩;(try (refine sVe ?_)))
 (refine hK _ ?_;clear hK K)
 ((refine W_seqV ?_);intro K hK;(refine sVe ?_))
 (refine ⟨by kernel_rfl,_,.pure rfl (c1),?_⟩;(try (refine sVe ?_)))
 (refine ⟨by kernel_rfl,_,.pure rfl (hl),?_⟩;(try (refine sVe ?_)))
 (refine hK _ ?_;clear hK K)
 refine W_ret ?_
 (refine qG ?_;try exact True.intro);try (refine sVeV ?_;try exact True.intro)
end Go.Proofs.YtjmpajgjaefcjaaGreat.Vm
namespace Go.Proofs.YtjmpajgjaefcjaaGreat.Vm
open Go Go.RowKit
set_option linter.unusedVariables false
set_option linter.unusedSimpArgs false
section
variable {H : Type} {encH : TypeId × Value → H} {P : Program} {w : World}
def Opens (encH : TypeId × Value → H) (P : Program) (w : World) (t : TypeId) {α : Type} (e : α → List AV) (good : α → Prop) (wt : α → Nat) : Prop :=
 ∀ (fuel : Nat) (cs : List Value) (x : DataW H × List MemPlace),DataW.trod encH P w 0 (fun _ => true) true fuel t cs = some x → ∃ a,Rps w (fun _ => False) noPl (e a) cs ∧ good a ∧ wt a ≤ Rows.uptoBulk x.1
theorem Opens.bool {t : TypeId} (ht : P.underlying t = some .bool) : Opens encH P w t (fun b : Bool => [.bool b]) (fun _ => True) (fun _ => 1) := by
 intro fuel cs x h
 obtain ⟨b,rfl,rfl⟩ := DataW.trod_bool ht h
 exact ⟨b,⟨_,_,rfl,rfl,rfl⟩,trivial,by simp [Rows.uptoBulk]⟩
theorem Opens.i64 {t : TypeId} (ht : P.underlying t = some (.int .i64)) : Opens encH P w t (fun n : Int => [.int .i64 n]) (fun n => -9223372036854775808 ≤ n ∧ n ≤ 9223372036854775807) (fun _ => 1) := by
 intro fuel cs x h
 obtain ⟨n,rfl,rfl,hw⟩ := DataW.trod_int ht h
 exact ⟨n,⟨_,_,rfl,rfl,rfl⟩,bounds_i64 hw,by simp [Rows.uptoBulk]⟩
theorem Opens.u32 {t : TypeId} (ht : P.underlying t = some (.int .u32)) : Opens encH P w t (fun n : Nat => [.int .u32 (n : Int)]) (fun n => n < 4294967296) (fun _ => 1) := by
 intro fuel cs x h
 obtain ⟨n,rfl,rfl,hw⟩ := DataW.trod_int ht h
 obtain ⟨h1,h2⟩ := bounds_u32 hw
 refine ⟨n.toNat,⟨_,_,rfl,?_,rfl⟩,by omega,by simp [Rows.uptoBulk]⟩
 show Value.int .u32 n = _
 rw [Int.toNat_of_nonneg h1]
theorem Opens.str {t : TypeId} (ht : P.underlying t = some .string) : Opens encH P w t (fun s : ByteArray => [.str s]) (fun _ => True) (fun s => s.size + 1) := by
 intro fuel cs x h
 obtain ⟨s,rfl,rfl,hs⟩ := DataW.trod_string ht h
 refine ⟨s,⟨_,_,rfl,rfl,rfl⟩,trivial,?_⟩
 simp only [Rows.uptoBulk]
 have : s.data.toList.length = s.size := by rw [Array.length_toList];rfl
 omega
theorem Opens.map {t : TypeId} {α β : Type} {e : α → List AV} {good : α → Prop} {wt : α → Nat} (h : Opens encH P w t e good wt) {e' : β → List AV} {good' : β → Prop} {wt' : β → Nat} (f : α → β)
  (he : ∀ a,e' (f a) = e a) (hg : ∀ a,good a → good' (f a)) (hw : ∀ a,wt' (f a) ≤ wt a) : Opens encH P w t e' good' wt' := by
 intro fuel cs x hx
 obtain ⟨a,h1,h2,h3⟩ := h fuel cs x hx
 exact ⟨f a,by rw [he];exact h1,hg a h2,Nat.le_trans (hw a) h3⟩
theorem Opens.two {t : TypeId} {f0 f1 : Field} (ht : P.underlying t = some (.struct #[f0,f1])) (o0 : f0.offset = 0) (o1 : f1.offset = P.cellsOf f0.type) (hl : P.cellsOf t = P.cellsOf f0.type + P.cellsOf f1.type)
  {α β : Type} {e0 : α → List AV} {g0 : α → Prop} {w0 : α → Nat} {e1 : β → List AV} {g1 : β → Prop} {w1 : β → Nat} (h0 : Opens encH P w f0.type e0 g0 w0) (h1 : Opens encH P w f1.type e1 g1 w1) :
  Opens encH P w t (fun p : α × β => e0 p.1 ++ e1 p.2) (fun p => g0 p.1 ∧ g1 p.2) (fun p => w0 p.1 + w1 p.2 + 1) := by
 intro fuel cs x h
 obtain ⟨xs,n,_,rfl,hlen,hxs,hf⟩ := DataW.trod_struct ht h
 match xs,hxs with
 | [y0,y1],_ =>
  obtain ⟨a,r0,q0,b0⟩ := h0 _ _ _ (hf 0 f0 rfl)
  obtain ⟨b,r1,q1,b1⟩ := h1 _ _ _ (hf 1 f1 rfl)
  refine ⟨(a,b),?_,⟨q0,q1⟩,?_⟩
  ·have := r0.append r1
   rw [o0,o1,List.drop_zero,List.take_of_length_le (l := cs.drop _) (by rw [List.length_drop];omega),List.take_append_drop] at this
   exact this
  ·simp only [List.map_cons,List.map_nil,Rows.uptoBulk,Rows.uptoBulkAll]
   omega
def sumW {α : Type} (wt : α → Nat) : List α → Nat
 | [] => 0
 | x::l => wt x + sumW wt l
theorem sumW_snoc {α : Type} (wt : α → Nat) (l : List α) (x : α) : sumW wt (l ++ [x]) = sumW wt l + wt x := by
 induction l with
 | nil => simp [sumW]
 | cons y l ih => simp only [List.cons_append,sumW,ih];omega
theorem bulk_append (l r : List (DataW H)) : Rows.uptoBulkAll (l ++ r) = Rows.uptoBulkAll l + Rows.uptoBulkAll r := by
 induction l with
 | nil => simp [Rows.uptoBulkAll]
 | cons x l ih => simp only [List.cons_append,Rows.uptoBulkAll,ih];omega
theorem Opens.slice {t e : TypeId} (ht : P.underlying t = some (.slice e)) (hpos : 0 < P.cellsOf e) {α : Type} {enc : α → List AV} {good : α → Prop} {wt : α → Nat} (he : Opens encH P w e enc good wt) :
  Opens encH P w t (fun l : List α => [.sl (tab enc l)]) (fun l => ∀ x ∈ l,good x) (fun l => sumW wt l + 1) := by
 intro fuel cs x h
 rcases DataW.trod_slice ht h with ⟨rfl,rfl⟩ | ⟨a,len,cap,elems,rest,n,_,rfl,rfl,hb,hlc,hcm,hlen,hel,_,_⟩
 ·exact ⟨[],⟨_,_,rfl,⟨none,0,rfl,Nat.le_refl _,by decide,.inl rfl⟩,rfl⟩,by simp,by simp [Rows.uptoBulk,sumW]⟩
 ·obtain ⟨b,o,spot⟩ := a
  have step : ∀ m,m ≤ len → ∃ (l : List α) (vss : List (List Value)),l.length = m ∧ vss.flatten.length = m * P.cellsOf e ∧ RpR w (fun _ => False) noPl (tab enc l) vss ∧ (∀ x ∈ l,good x) ∧ sumW wt l ≤ Rows.uptoBulkAll ((elems.take m).map (·.1)) ∧
    (0 < m → spot = none ∧ b < w.heap.size) ∧ CellsAt w b o vss.flatten := by
   intro m
   induction m with
   | zero => exact fun _ => ⟨[],[],rfl,by simp,rfl,by simp,by simp [sumW,Rows.uptoBulkAll],by omega,fun j u hj => by simp at hj⟩
   | succ m ih =>
    intro hm
    obtain ⟨l,vss,h1,h2,h3,h4,h5,h6,h7⟩ := ih (by omega)
    have hi := hel m (by omega)
    have hg : elems[m]? = some (elems[m]'(by omega)) := by simp
    rw [hg] at hi
    obtain ⟨cs',hc,hd⟩ := Option.bind_eq_some_iff.1 hi
    obtain ⟨_,hcl,hcell⟩ := World.cells?_some hc
    obtain ⟨y,hy1,hy2,hy3⟩ := he _ _ _ hd
    obtain ⟨c0,hc0⟩ : ∃ c0,cs'[0]? = some c0 := ⟨cs'[0]'(by omega),by simp⟩
    have g0 : w.cell? (((⟨b,o,spot⟩ : Addr).add (m * P.cellsOf e)).add 0) = some c0 := by rw [hcell 0 hpos,hc0]
    have hsp : spot = none ∧ b < w.heap.size := by
     have hs : spot = none := by
      cases m with
      | zero => have := World.cell?_spot g0;simpa [Addr.add] using this
      | succ m => exact (h6 (by omega)).1
     refine ⟨hs,?_⟩
     have : ((⟨b,o,spot⟩ : Addr).add (m * P.cellsOf e)).add 0 = ⟨b,o + m * P.cellsOf e,none⟩ := by rw [hs,WideShapes.add_plain,WideShapes.add_plain];rfl
     rw [this] at g0
     unfold World.cell? at g0
     split at g0
     ·rename_i heq
      exact (Array.getElem?_eq_some_iff.1 heq).1
     ·cases g0
    obtain ⟨hs,hbs⟩ := hsp
    subst hs
    refine ⟨l ++ [y],vss ++ [cs'],by simp [h1],?_,?_,?_,?_,fun _ => ⟨rfl,hbs⟩,?_⟩
    ·rw [List.flatten_append,List.length_append,h2,Nat.succ_mul]
     simp [hcl]
    ·rw [← tab_snoc]
     exact h3.append ⟨_,_,rfl,hy1,rfl⟩
    ·intro x hx
     rcases List.mem_append.1 hx with hx | hx
     ·exact h4 x hx
     ·rw [List.mem_singleton] at hx;subst hx;exact hy2
    ·rw [sumW_snoc,List.take_add_one,hg,List.map_append,bulk_append]
     simp only [Option.toList_some,List.map_cons,List.map_nil,Rows.uptoBulkAll]
     omega
    ·intro j u hj
     rw [List.flatten_append] at hj
     by_cases hjl : j < vss.flatten.length
     ·rw [List.getElem?_append_left hjl] at hj
      exact h7 j u hj
     ·rw [List.getElem?_append_right (by omega)] at hj
      simp only [List.flatten_cons,List.flatten_nil,List.append_nil] at hj
      have hlt : j - vss.flatten.length < cs'.length := (List.getElem?_eq_some_iff.1 hj).1
      have := hcell (j - vss.flatten.length) (by omega)
      rw [WideShapes.add_plain,WideShapes.add_plain,hj] at this
      rw [← this]
      congr 2
      omega
  obtain ⟨l,vss,h1,h2,h3,h4,h5,h6,h7⟩ := step len (Nat.le_refl _)
  have htl : (tab enc l).length = len := by rw [tab_length,h1]
  refine ⟨l,⟨_,_,rfl,⟨some ⟨b,o,spot⟩,cap,by rw [htl],by rw [htl];exact hlc,hcm,?_⟩,rfl⟩,h4,?_⟩
  ·by_cases h0 : 0 < len
   ·obtain ⟨rfl,hbs⟩ := h6 h0
    exact .inr ⟨b,o,vss,rfl,fun h => h,hbs,h7,h3⟩
   ·left
    have : l = [] := List.eq_nil_of_length_eq_zero (by omega)
    rw [this];rfl
  ·rw [List.take_of_length_le (by omega)] at h5
   simp only [Rows.uptoBulk]
   omega
end
section
variable {H : Type} {encH : TypeId × Value → H} {w : World}
theorem sumW_one (l : List Nat) : sumW (fun _ => 1) l = l.length := by
 induction l with
 | nil => rfl
 | cons x l ih => simp only [sumW,ih,List.length_cons];omega
theorem opens_nat : Opens encH Tryz.prog w 49 (fun l : List Nat => [.sl (u32s l)]) Limbs (fun l => l.length + 1) :=
 (Opens.slice Tryz.underlying49 (by show 0 < Tryz.prog.cellsOf 128;rw [show Tryz.prog.cellsOf 128 = 1 by kernel_rfl];decide) (Opens.u32 Tryz.underlying128)).map id (fun _ => rfl) (fun _ h => h) (fun l => by show l.length + 1 ≤ sumW (fun _ => 1) l + 1;rw [sumW_one];exact Nat.le_refl _)
theorem opens_int : Opens encH Tryz.prog w 51 (fun p : Bool × List Nat => [.bool p.1,.sl (u32s p.2)]) (fun p => Limbs p.2) (fun p => p.2.length + 3) :=
 (Opens.two Tryz.underlying51 rfl (by kernel_rfl) (by kernel_rfl) (Opens.bool Tryz.underlying4) opens_nat).map id (fun _ => rfl) (fun _ h => h.2) (fun l => by simp only [id];omega)
def RR.good (r : RR) : Prop := Limbs r.num ∧ Limbs r.den
def RR.wt (r : RR) : Nat := r.num.length + r.den.length + 5
theorem RR.bits_wt (r : RR) : r.bits ≤ 32 * r.wt := by unfold RR.bits RR.wt;omega
theorem opens_rat : Opens encH Tryz.prog w 53 rowR RR.good RR.wt :=
 (Opens.two Tryz.underlying53 rfl (by kernel_rfl) (by kernel_rfl) opens_int opens_nat).map (fun p => (⟨p.1.1,p.1.2,p.2⟩ : RR)) (fun _ => rfl) (fun _ h => h) (fun l => by simp only [RR.wt];omega)
def mono_wt (p : Int × RR) : Nat := p.2.wt + 2
theorem opens_mono : Opens encH Tryz.prog w 55 rowM (fun p : Int × RR => (-9223372036854775808 ≤ p.1 ∧ p.1 ≤ 9223372036854775807) ∧ p.2.good) mono_wt :=
 (Opens.two Tryz.underlying55 rfl (by kernel_rfl) (by kernel_rfl) (Opens.i64 Tryz.underlying3) opens_rat).map id (fun _ => rfl) (fun _ h => h) (fun l => by simp only [id,mono_wt];omega)
def form_good (f : List (Int × RR)) : Prop := ∀ p ∈ f,(-9223372036854775808 ≤ p.1 ∧ p.1 ≤ 9223372036854775807) ∧ p.2.good
def form_wt (f : List (Int × RR)) : Nat := sumW mono_wt f + 1
theorem opens_form : Opens encH Tryz.prog w 26 (fun f => [cF f]) form_good form_wt :=
 Opens.slice Tryz.underlying26 (by show 0 < Tryz.prog.cellsOf 55;rw [show Tryz.prog.cellsOf 55 = 4 by kernel_rfl];decide) opens_mono
def At.good (a : At) : Prop := form_good a.form ∧ a.bound.good
def At.wt (a : At) : Nat := a.name.size + form_wt a.form + a.bound.wt + 3
end
theorem RR.good.ok {r : RR} (h : r.good) (hb : r.wt ≤ 1048576) : r.ok := ⟨h.1,h.2,by unfold RR.wt at hb;omega,by unfold RR.wt at hb;omega⟩
theorem RR.good.nb {r : RR} (h : r.good) : nb r.v ≤ 32 * r.wt := Nat.le_trans (nb_v r h.1 h.2) r.bits_wt
theorem form_nbs : ∀ {f : List (Int × RR)},form_good f → nbs (vals f) ≤ 32 * sumW mono_wt f
 | [],_ => by simp [vals,nbs]
 | p::f,h => by
  have h1 := (h p List.mem_cons_self).2.nb
  have h2 := form_nbs (f := f) fun q hq => h q (List.mem_cons_of_mem _ hq)
  simp only [vals,List.map_cons,nbs,sumW,mono_wt] at *
  omega
theorem sumW_mem {α : Type} {wt : α → Nat} {l : List α} {x : α} (h : x ∈ l) : wt x ≤ sumW wt l := by
 induction l with
 | nil => cases h
 | cons y l ih =>
  simp only [sumW]
  rcases List.mem_cons.1 h with rfl | h
  ·omega
  ·have := ih h;omega
theorem form_ok {f : List (Int × RR)} (h : form_good f) (hb : form_wt f ≤ 1048576) : FOk f 67108864 ∧ nbs (vals f) ≤ 67108864 := by
 have h1 := form_nbs h
 unfold form_wt at hb
 refine ⟨⟨fun p hp => (h p hp).2.ok ?_,(Sz.of _).mono (by omega)⟩,by omega⟩
 have := sumW_mem (wt := mono_wt) hp
 unfold mono_wt at this hb
 omega
theorem At.good.ok {a : At} (h : a.good) (hb : a.wt ≤ 1048576) : AtOk a := by
 unfold At.wt at hb
 obtain ⟨h1,h2⟩ := form_ok h.1 (by omega)
 refine ⟨h1,h2,h.2.ok (by omega),?_⟩
 have := h.2.nb
 omega
section
variable {H : Type} {encH : TypeId × Value → H} {P : Program} {w : World}
theorem rps_some {α : Type} {t : TypeId} {e : α → List AV} {good : α → Prop} {wt : α → Nat} (h : Opens encH P w t e good wt) {v : Value} {d : DataW H} {p : List MemPlace} (hd : DataW.Trod encH P w 0 (fun _ => true) true t v d p) :
  ∃ a,Rps w (fun _ => False) noPl (e a) v.cells.toList ∧ good a ∧ wt a ≤ Rows.uptoBulk d := by
 obtain ⟨fuel,hf⟩ := hd
 exact h fuel _ _ hf
theorem par_struct {α : Type} {t : TypeId} {fs : Array Field} (ht : P.underlying t = some (.struct fs)) {e : α → List AV} {good : α → Prop} {wt : α → Nat} (h : Opens encH P w t e good wt) {base : Nat} {v : Value} (hok : Value.okWide P w .any base t v) {d : DataW H} {p : List MemPlace} (hd : DataW.Trod encH P w 0 (fun _ => true) true t v d p) :
  ∃ a,Rp w (fun _ => False) noPl (.agg (e a)) v ∧ good a ∧ wt a ≤ Rows.uptoBulk d := by
 unfold Value.okWide at hok
 rw [ht] at hok
 obtain ⟨cs,rfl,_,_⟩ := hok
 obtain ⟨a,h1,h2,h3⟩ := rps_some h hd
 exact ⟨a,⟨cs.toList,by simp,h1⟩,h2,h3⟩
theorem par_int {α : Type} {t : TypeId} {k : IntKind} (ht : P.underlying t = some (.int k)) {e : α → AV} {good : α → Prop} {wt : α → Nat} (h : Opens encH P w t (fun a => [e a]) good wt) {base : Nat} {v : Value} (hok : Value.okWide P w .any base t v) {d : DataW H} {p : List MemPlace} (hd : DataW.Trod encH P w 0 (fun _ => true) true t v d p) :
  ∃ a,Rp w (fun _ => False) noPl (e a) v ∧ good a ∧ wt a ≤ Rows.uptoBulk d := by
 unfold Value.okWide at hok
 rw [ht] at hok
 unfold Cell.okWide at hok
 rw [ht] at hok
 obtain ⟨a,h1,h2,h3⟩ := rps_some h hd
 obtain ⟨u,us,e1,e2,e3⟩ := h1
 have e4 : us = [] := e3
 subst e4
 cases v <;> simp only [Value.cells] at e1 <;> first
  | (simp only [Cell.ok,ht] at hok;done)
  | (have e5 := (List.cons.inj e1).1;subst e5;exact ⟨a,e2,h2,h3⟩)
end
end Go.Proofs.YtjmpajgjaefcjaaGreat.Vm
namespace Go.Proofs.YtjmpajgjaefcjaaGreat.Vm
open Go Go.RowKit
set_option maxRecDepth 100000
set_option linter.unusedVariables false
set_option linter.unusedSimpArgs false
section
variable {H : Type} {encH : TypeId × Value → H} {w : World}
def row_good (r : Int × List (Int × RR)) : Prop := form_good r.2
def row_wt (r : Int × List (Int × RR)) : Nat := form_wt r.2
theorem opens_rowT : Opens encH Tryz.prog w 84 rowT row_good row_wt :=
 (Opens.two Tryz.underlying84 (by kernel_rfl) (by kernel_rfl) (by kernel_rfl) (Opens.i64 Tryz.underlying3) opens_form).map id (fun p => rfl) (fun _ h => h.2) (fun p => by simp only [id,row_wt];omega)
def tab_good (p : Int × TR) : Prop := ∀ r ∈ p.2,row_good r
def tab_wt (p : Int × TR) : Nat := sumW row_wt p.2 + 1
theorem opens_rowsT : Opens encH Tryz.prog w 22 (fun t : TR => [.sl (tab rowT t)]) (fun t => ∀ r ∈ t,row_good r) (fun t => sumW row_wt t + 1) :=
 Opens.slice Tryz.underlying22 (by show 0 < Tryz.prog.cellsOf 84;rw [show Tryz.prog.cellsOf 84 = 2 by kernel_rfl];decide) opens_rowT
def cellsT (p : Int × TR) : List AV := [.int .i64 p.1,.sl (tab rowT p.2)]
theorem opens_tab : Opens encH Tryz.prog w 24 cellsT tab_good tab_wt :=
 (Opens.two Tryz.underlying24 (by kernel_rfl) (by kernel_rfl) (by kernel_rfl) (Opens.i64 Tryz.underlying3) opens_rowsT).map id (fun p => rfl) (fun _ h => h.2) (fun p => by simp only [id,tab_wt];omega)
end
theorem tab_tb : ∀ {t : TR},(∀ r ∈ t,row_good r) → tb (t.map fun r => (r.1,vals r.2)) ≤ 33 * sumW row_wt t
 | [],_ => Nat.le_refl _
 | r::t,h => by
  have h1 := tab_tb (t := t) fun x hx => h x (List.mem_cons_of_mem _ hx)
  have h2 := form_nbs (h r List.mem_cons_self)
  simp only [List.map_cons,tb,sumW,row_wt,form_wt] at *
  omega
theorem tab_ok {p : Int × TR} (h : tab_good p) (hb : tab_wt p ≤ 1048576) : TOk p.2 := by
 unfold tab_wt at hb
 refine ⟨fun r hr q hq => (form_ok (h r hr) ?_).1.1 q hq,?_⟩
 ·have := sumW_mem (wt := row_wt) hr
  have e : form_wt r.2 = row_wt r := rfl
  omega
 ·have := tab_tb h
  omega
end Go.Proofs.YtjmpajgjaefcjaaGreat.Vm
namespace Go.Proofs.YtjmpajgjaefcjaaGreat.Vm
open Go Go.RowKit Go.ChangeShapes Go.WideShapes Go.ChangeAt
set_option maxRecDepth 100000
set_option linter.unusedVariables false
def joinedRest (P : Program) (fn : Func) (s : ChangeSpec) (c : OpenClaim) : Bool :=
 (c.wf (OpenSpec.ofChange s)) && (fn.params.all (P.readableRec ·)) && (namedTie P c.named s.vars) && ((c.stops == [])) && ((c.knobs == [])) && ((c.maps == (fn.params.toList ++ s.plain.varTypes P).any (P.mapsRec ·))) && ((c.ifaces == (fn.params.toList ++ s.plain.varTypes P).any (P.ifacesRec ·))) && ((c.mapsOut == P.mapsAmong fn.resultTypes.toList)) && ((c.loops == (fn.params.toList ++ s.plain.varTypes P).any (P.loopsFrom ·))) && ((c.wideKeys == (fn.params.toList ++ s.plain.varTypes P ++ fn.resultTypes.toList).any (P.wideKeysFrom ·))) && (s.vars.all (P.varReadable ·)) && (fn.resultTypes.all (fun t => P.readableRec t && decide (t < P.types.size))) && ((c.ifacesOut == fn.resultTypes.toList.any (P.ifacesRec ·))) && ((c.loopsOut == fn.resultTypes.toList.any (P.loopsFrom ·))) && (c.shortTexts.isNone) && ((c.kinds == (if c.domain.isEmpty then [] else fn.params.toList.map fun t => match P.underlying t with|some (.int k) => some k|_ => none))) && ((c.pinned == c.pinnedBy)) && ((c.veiled == (fn.params.toList ++ s.plain.varTypes P ++ fn.resultTypes.toList).any (P.veiledRec ·))) && (c.veiledFits P fn.params.toList (fn.params.toList ++ s.plain.varTypes P ++ fn.resultTypes.toList))
theorem joined_of {P : Program} {f : FuncId} {fn : Func} {s : ChangeSpec} {c : OpenClaim} (h1 : (laidOutB P) = true) (h2 : (mapsRowed P) = true) (h6 : ((P.stops == [])) = true) (h8 : ((P.stopKnobs == [])) = true) (h24 : (P.stopsHeard) = true) (h25 : (P.mayEnter) = true) (h9 : ((c.inPlace == P.inPlace f)) = true) (h10 : ((c.unfollowed == P.unfollowed f)) = true) (h11 : ((c.recurses == P.recurses f)) = true) (h12 : ((c.named == P.varsNamed f)) = true) (h22 : ((c.plainKeys == P.plainKeys)) = true) (h26 : ((c.lifted == P.liftsFinal)) = true) (h27 : ((P.make == some c.make)) = true)
  (h : joinedRest P fn s c = true) : joinedFacts P f fn s c = true := by
 unfold joinedRest at h
 unfold joinedFacts
 simp only [Bool.and_eq_true] at h ⊢
 obtain ⟨⟨⟨⟨⟨⟨⟨⟨⟨⟨⟨⟨⟨⟨⟨⟨⟨⟨r0,r3⟩,r4⟩,r5⟩,r7⟩,r13⟩,r14⟩,r15⟩,r16⟩,r17⟩,r18⟩,r19⟩,r20⟩,r21⟩,r23⟩,r28⟩,r29⟩,r30⟩,r31⟩ := h
 exact ⟨⟨⟨⟨⟨⟨⟨⟨⟨⟨⟨⟨⟨⟨⟨⟨⟨⟨⟨⟨⟨⟨⟨⟨⟨⟨⟨⟨⟨⟨⟨r0,h1⟩,h2⟩,r3⟩,r4⟩,r5⟩,h6⟩,r7⟩,h8⟩,h9⟩,h10⟩,h11⟩,h12⟩,r13⟩,r14⟩,r15⟩,r16⟩,r17⟩,r18⟩,r19⟩,r20⟩,r21⟩,h22⟩,r23⟩,h24⟩,h25⟩,h26⟩,h27⟩,r28⟩,r29⟩,r30⟩,r31⟩
def plainClaim : OpenClaim := { program := "", sum := "", func := "", spec := "" }
theorem pf_laid : laidOutB Tryz.prog = true := by kernel_rfl
theorem pf_maps : mapsRowed Tryz.prog = true := by kernel_rfl
theorem pf_stops : (Tryz.prog.stops == []) = true := by kernel_rfl
theorem pf_knobs : (Tryz.prog.stopKnobs == []) = true := by kernel_rfl
theorem pf_heard : Tryz.prog.stopsHeard = true := by kernel_rfl
theorem pf_enter : Tryz.prog.mayEnter = true := by kernel_rfl
theorem pf_keys : (plainClaim.plainKeys == Tryz.prog.plainKeys) = true := by kernel_rfl
theorem pf_lifts : (plainClaim.lifted == Tryz.prog.liftsFinal) = true := by kernel_rfl
theorem pf_make : (Tryz.prog.make == some plainClaim.make) = true := by kernel_rfl
theorem pf_own : ownKnob Tryz.prog.godebug = none := by kernel_rfl
end Go.Proofs.YtjmpajgjaefcjaaGreat.Vm
namespace Go.Proofs.YtjmpajgjaefcjaaGreat.Vm
open Go Go.RowKit Go.ChangeShapes Go.WideShapes Go.ChangeAt
set_option maxRecDepth 100000
set_option linter.unusedVariables false
set_option linter.unusedSimpArgs false
namespace tableauPivots_
theorem own : ownKnob Tryz.prog.godebug = none := pf_own
theorem laidOut : laidOutB Tryz.prog = true := pf_laid
theorem pf_place : (Rows.tableauPivotsUptoRow.inPlace == Tryz.prog.inPlace 9) = true := by kernel_rfl
theorem pf_foll : (Rows.tableauPivotsUptoRow.unfollowed == Tryz.prog.unfollowed 9) = true := by kernel_rfl
theorem pf_rec : (Rows.tableauPivotsUptoRow.recurses == Tryz.prog.recurses 9) = true := by kernel_rfl
theorem pf_nam : (Rows.tableauPivotsUptoRow.named == Tryz.prog.varsNamed 9) = true := by kernel_rfl
theorem pf_rest : joinedRest Tryz.prog Tryz.f9 (Rows.OpenSpec.upto Rows.tableauPivotsSpec).bare Rows.tableauPivotsUptoRow = true := by kernel_rfl
theorem facts : joinedFacts Tryz.prog 9 Tryz.f9 (Rows.OpenSpec.upto Rows.tableauPivotsSpec).bare Rows.tableauPivotsUptoRow = true := joined_of pf_laid pf_maps pf_stops pf_knobs pf_heard pf_enter pf_place pf_foll pf_rec pf_nam pf_keys pf_lifts pf_make pf_rest
theorem contract (H : Type) (encH : TypeId × Value → H) (W : World) (base : Nat) (args : Array Value) (ds gs : List (DataW H)) (before : List MemPlace)
  (hval : ∀ (j : Nat) t v,Tryz.f9.params[j]? = some t → args[j]? = some v → Value.okWide Tryz.prog W .any base t v)
  (hW : DataW.Whole encH Tryz.prog Tryz.f9.params.toList Rows.tableauPivotsSpec.vars false W args.toList ds gs before) (hk : Rows.uptoSmall H (ds ++ gs) = true) :
  Calls Tryz.prog 9 args W fun e W' => ∃ v,e = .returned v ∧ Rows.tableauPivotsSpec.post encH Tryz.prog Tryz.f9 false true false false W args v W' := by
 have hW' := hW
 obtain ⟨p,q,hA0,hV,rfl,hfz,hnd⟩ := hW
 have hA : DataW.TrodAll encH Tryz.prog W 0 (fun _ => true) true Tryz.f9.params.toList args.toList ds p := hA0
 rw [Tryz.params9] at hA hval
 obtain ⟨v0,v1,v2,d0,d1,d2,p0,p1,p2,rfl,rfl,rfl,h0,h1,h2⟩ := trodAll_three hA
 obtain ⟨rfl,rfl⟩ := trodVars_none hV
 simp only [List.append_nil] at hW' hk
 have hlt : ∀ x ∈ p0 ++ p1 ++ p2,x.block < W.heap.size := fun x hx => hW'.lt x (by simpa using hx)
 obtain ⟨a0,r0,g0,b0⟩ := par_struct Tryz.underlying24 opens_tab (hval 0 24 v0 rfl rfl) h0
 obtain ⟨a1,r1,g1,b1⟩ := par_int Tryz.underlying3 (Opens.i64 Tryz.underlying3) (hval 1 3 v1 rfl rfl) h1
 obtain ⟨a2,r2,g2,b2⟩ := par_int Tryz.underlying3 (Opens.i64 Tryz.underlying3) (hval 2 3 v2 rfl rfl) h2
 have hbulk : Rows.uptoBulkAll [d0,d1,d2] ≤ 1048576 := of_decide_eq_true hk
 simp only [Rows.uptoBulkAll] at hbulk
 have hlaw := pivots_law a0.1 a0.2 a1 a2 (tab_ok g0 (by omega))
 refine (hlaw W [v0,v1,v2] (fun _ => False) (fun _ h => h.elim) ⟨_,_,rfl,r0,_,_,rfl,r1,_,_,rfl,r2,rfl⟩).mono fun e W' he => ?_
 obtain ⟨v,r,rfl,rfl,hbel,hrp⟩ := he
 have hv : v = .bool true := hrp
 subst hv
 exact ⟨_,rfl,⟨_,_,_,[],_,[],hW',trodAll_mk1 (shut_bool Tryz.underlying4 _),trodAll_mk3 (Below.trod laidOut (by kernel_rfl) (of_decide_eq_true (by kernel_rfl)) h0 hbel (fun x hx => hlt x (by simp [hx]))) (Below.trod laidOut (by kernel_rfl) (of_decide_eq_true (by kernel_rfl)) h1 hbel (fun x hx => hlt x (by simp [hx]))) (Below.trod laidOut (by kernel_rfl) (of_decide_eq_true (by kernel_rfl)) h2 hbel (fun x hx => hlt x (by simp [hx]))),rfl,hbel.frame _,fun h => by cases h⟩⟩
theorem lifted (os : Os) (started : os.Started) (H : Type) (enc : TypeId × Value → H) (F : Stop.Interp) :
  ReturnsInHanded {} Tryz.checked os 9 .any ((Rows.OpenSpec.upto Rows.tableauPivotsSpec).pre6 enc Tryz.prog Tryz.f9 Rows.tableauPivotsUptoRow.domain false) (((Rows.OpenSpec.upto Rows.tableauPivotsSpec).at F).post enc Tryz.prog Tryz.f9 false true false false) := by
 refine returnsInHanded_of_cond (C := Tryz.checked) (s := Rows.OpenSpec.upto Rows.tableauPivotsSpec) (k := Rows.uptoSmall) rfl own started (by kernel_rfl) Tryz.func9
  (OpenSpec.witness (enc := enc) (C := Tryz.checked) (s := Rows.OpenSpec.upto Rows.tableauPivotsSpec) (k := Rows.uptoSmall) rfl false ⟨#[],#[.agg #[.int .i64 0,.slice none 0 0],.int .i64 0,.int .i64 0],[]⟩ 8 (by kernel_rfl) (by kernel_rfl) (by kernel_rfl)
   (x := ([.agg [.lit (.int .i64 0),.nil],.lit (.int .i64 0),.lit (.int .i64 0)],[],[])) (by kernel_rfl) rfl (by kernel_rfl)) ?_
 intro W base args ds gs before hval hW _ hk _
 exact contract H enc W base args ds gs before hval hW hk
end tableauPivots_
theorem tableauPivots_holds : Rows.TableauPivotsUptoSaid :=
 OpenClaim.holds_of_cond 9 Tryz.f9 rfl rfl rfl rfl rfl rfl rfl ⟨rfl,rfl,rfl,rfl,rfl⟩ rfl rfl rfl rfl rfl (by kernel_rfl) Tryz.func9 tableauPivots_.facts
  (of_decide_eq_true (by kernel_rfl)) (by unfold Func.isWrapper;first | (rw [if_pos (by decide +kernel)];kernel_rfl) | (rw [if_neg (by decide +kernel)];exact ⟨rfl,rfl⟩))
  (fun os started H enc _ F => tableauPivots_.lifted os started H enc F)
end Go.Proofs.YtjmpajgjaefcjaaGreat.Vm
