/-
  Part 8 of 9 of a proof.
-/
import Derived.Test.YtjmpajgjaefcjaaGreatChks7
import Derived.Orders
import Derived.Below
import Derived.Laws.AppendOwn
import Derived.Laws.MakeOwn
import Derived.Laws.CopyRow
import Derived.Laws.Rows
import Derived.Laws.Cells
import Derived.Tactics
import Derived.Laws.BitsLemmas
import Derived.Maps.Range
import Derived.Carry
import Derived.Sort.Row
import Derived.Sort.Grow
import Derived.Test.YtjmpajgjaefcjaaGreatProg
import Derived.Shelf.Sort.Plain
import Derived.Shelf.Slices.In.SortNone
import Derived.Ground.NamesProg
import Derived.Test.YtjmpajgjaefcjaaGreatRows
import Derived.WalkKit
import Derived.ProofKit
import Derived.OpenShut

namespace Go.Proofs.YtjmpajgjaefcjaaGreat.Vm
open Go Go.RowKit
set_option maxRecDepth 100000
set_option linter.unusedVariables false
set_option linter.unusedSimpArgs false
theorem sUa {G G' : Prop} (h : G') (e : G = G' := by conv => lhs;simp (disch := omega) only [rowsOf,cNat,cN,St.ret,St.seth,Eff.app,Eff.wi,sepL,guardOf,St.known,objOf,List.set,sliceW,litW,copyW,lenOf,bnd,mxOk,ofCells,TI.isAgg,cellsOf,storable,AV.one,dead,laid,overlay,reduceCtorEq,Int.reduceLE,Int.reduceLT,Int.reduceSub,Int.reduceAdd,Nat.reduceMul,Int.reduceToNat,Nat.reducePow,Int.reduceNeg,Nat.reduceAdd,Nat.reduceLT,Nat.reduceLeDiff,sA,sB,Nat.reduceEqDiff,cQ,rowQ,rowU,rowT,rowM,i64s_getD,i64s_length,i64s_all,i64s_take,i64s_drop,i64s_set,i64s_one,i64s_pure,i64s_append,tab_length,tab_drop,tab_take,tab_append,tab_nil,rowT_all,rowT_one,rowT_pure,rowU_all,rowU_one,rowU_pure,rowQ_all,rowQ_one,rowQ_pure,rowM_all,rowM_one,rowM_pure,List.take_length,List.length_append,sT]) : G := e.mpr h
theorem sUaX {G G' P : Prop} (p : P) (h : G') (e : P → G = G' := by intro p;conv => lhs;simp (disch := omega) only [rowsOf,cNat,cN,St.ret,St.seth,Eff.app,Eff.wi,sepL,guardOf,St.known,objOf,List.set,sliceW,litW,copyW,lenOf,bnd,mxOk,ofCells,TI.isAgg,cellsOf,storable,AV.one,dead,laid,overlay,reduceCtorEq,Int.reduceLE,Int.reduceLT,Int.reduceSub,Int.reduceAdd,Nat.reduceMul,Int.reduceToNat,Nat.reducePow,Int.reduceNeg,Nat.reduceAdd,Nat.reduceLT,Nat.reduceLeDiff,sA,sB,Nat.reduceEqDiff,cQ,rowQ,rowU,rowT,rowM,i64s_getD,i64s_length,i64s_all,i64s_take,i64s_drop,i64s_set,i64s_one,i64s_pure,i64s_append,tab_length,tab_drop,tab_take,tab_append,tab_nil,rowT_all,rowT_one,rowT_pure,rowU_all,rowU_one,rowU_pure,rowQ_all,rowQ_one,rowQ_pure,rowM_all,rowM_one,rowM_pure,List.take_length,List.length_append,sT,p]) : G := (e p).mpr h
theorem sUaV {G G' : Prop} (h : G') (e : G = G' := by conv => lhs;simp (disch := omega) only [rowsOf,cNat,cN,St.ret,St.seth,Eff.app,Eff.wi,sepL,guardOf,St.known,objOf,List.set,sliceW,litW,copyW,lenOf,bnd,mxOk,ofCells,TI.isAgg,cellsOf,storable,AV.one,dead,laid,overlay,reduceCtorEq,Int.reduceLE,Int.reduceLT,Int.reduceSub,Int.reduceAdd,Nat.reduceMul,Int.reduceToNat,Nat.reducePow,Int.reduceNeg,Nat.reduceAdd,Nat.reduceLT,Nat.reduceLeDiff,sA,sB,Nat.reduceEqDiff,cQ,rowQ,rowU,rowT,rowM,i64s_getD,i64s_length,i64s_all,i64s_take,i64s_drop,i64s_set,i64s_one,i64s_pure,i64s_append,tab_length,tab_drop,tab_take,tab_append,tab_nil,rowT_all,rowT_one,rowT_pure,rowU_all,rowU_one,rowU_pure,rowQ_all,rowQ_one,rowQ_pure,rowM_all,rowM_one,rowM_pure,List.take_length,List.length_append,sT,view_sref,viewRef,view_agg,views_cons,views_nil,view_bool,view_int,view_sl,view_nils,view_str,view_tup,view_nilif]) : G := e.mpr h
theorem aUa {G G' : Prop} (h : G') (f : Wr G' → G := by intro h;(repeat (first|(refine W_seqV fun K hK => ?_;(try (refine sUa ?_;try exact True.intro));(repeat refine aI ?_);refine hK _ ?_;clear hK K)|(refine W_seqR fun K hK => ?_;(try (refine sUa ?_;try exact True.intro));(repeat refine aI ?_);refine hK _ ?_;clear hK K)|(refine W_seqD mixed [] (by kernel_rfl) fun K hK => ?_;(try (refine sUa ?_;try exact True.intro));(repeat refine aI ?_);refine hK _ ?_;clear hK K)));exact h.out) : G := f ⟨h⟩
theorem idx_at {M : TM} {v : Int} {i : Nat} (hi : i < M.length) (h : ∀ j,j < i → (M.getD j default).1 ≠ v) (he : (M.getD i default).1 = v) : idxM M v = some i := by
 unfold idxM
 rw [List.findIdx?_eq_some_iff_getElem]
 refine ⟨hi,?_,fun j hj => ?_⟩
 ·rw [← he]
  simp [List.getD_eq_getElem?_getD,hi]
 ·have := h j hj
  simp only [List.getD_eq_getElem?_getD,List.getElem?_eq_getElem (show j < M.length by omega),Option.getD_some] at this
  simpa using this
theorem idx_not {M : TM} {v : Int} (h : ∀ j,j < M.length → (M.getD j default).1 ≠ v) : idxM M v = none := by
 cases hi : idxM M v with
 | none => rfl
 | some j =>
  obtain ⟨h1,h2,_⟩ := idx_some hi
  exact absurd h2 (h j h1)
def rowI (M : TM) (v : Int) : Int := match idxM M v with | some j => (j : Int) | none => -1
theorem r7row_ok (n : Int) (t : TR) (v : Int) (hl : t.length < 1099511627776) : Pure Tryz.prog 74 [cT n t,.int .i64 v] (· = .int .i64 (rowI (nrmT t) v)) := by
 have hml := nrmT_len t
 have hnd : ∀ i,i < t.length → ((nrmT t).getD i default).1 = (t.getD i default).1 := fun i hi => by rw [nrmT_getD hi]
 unfold cT rowI
 generalize nrmT t = M at *
 (refine pureW Tryz.func74 rfl (rs := [Go.ResultVar.tmp 4]) rfl (n := 22) rfl ?_;simp only [List.length_cons,List.length_nil,List.replicate,List.cons_append,List.nil_append])
 (refine aUa ?_)
 refine W_seq ?_
 ((first | refine W_seqV ?_ | refine W_seq (W_seqV ?_) | refine W_regV ?_);intro K hK;(refine sUa ?_;try exact True.intro))
 (repeat refine aI ?_);refine hK _ ?_;clear hK K
 refine W_block (W_loop (fun s : {i : Nat // i ≤ t.length ∧ ∀ j,j < i → (M.getD j default).1 ≠ v} =>
   ⟨[.any,.int .i64 v,.ptr 2 0 0,.any,.any,.int .i64 s.1,.any,.any,.any,.any,.any,.any,.any,.any,.any,.any,.any,.any,.any,.any,.any,.any],[.dead,.dead,.arr 24 2 false [[.int .i64 n,.sl (tab rowT t)]],.dead,.dead,.dead,.dead,.dead,.dead,.dead,.dead,.dead,.dead,.dead,.dead,.dead,.dead,.dead,.dead,.dead,.dead,.dead]⟩) (fun s => t.length - s.1)
   ⟨0,by omega,by omega⟩ (Le_drop (by simp [leE]) (by simp [leH]) rfl rfl) fun s => ?_)
 obtain ⟨i,hi,hpre⟩ := s
 dsimp only
 by_cases hlt : i < t.length
 ·have hti : (tab rowT t).getD i [] = rowT (t.getD i default) := tab_getD hlt
  have hat : (M.getD i default).1 = v → idxM M v = some i := fun he => idx_at (by omega) hpre he
  have hpr : (M.getD i default).1 ≠ v → ∀ j,j < i + 1 → (M.getD j default).1 ≠ v := fun h j hj => by
   by_cases hji : j = i
   ·subst hji;exact h
   ·exact hpre j (by omega)
  rw [hnd i hlt] at hat hpr
  generalize t.getD i default = r at *
  obtain ⟨b,f⟩ := r
  simp only [rowT] at hti
  dsimp only at *
  refine W_seq ?_
  ((first | refine W_seqV ?_ | refine W_seq (W_seqV ?_) | refine W_regV ?_);intro K hK;(refine sUaX hlt ?_;try exact True.intro))
  (repeat refine aI ?_);refine hK _ ?_;clear hK K
  (first | refine W_ct rfl ?_ | refine W_seq (W_ct rfl ?_))
  refine W_skip ?_
  simp only [thenW]
  refine W_seq ?_
  refine W_block ?_
  by_cases hb : b = v
  ·have hbb : (b == v) = true := by simp [hb]
   rw [hat hb]
   ((first | refine W_seqV ?_ | refine W_seq (W_seqV ?_) | refine W_regV ?_);intro K hK;(refine sUaX (And.intro hti (And.intro hlt hbb)) ?_;try exact True.intro))
   (repeat refine aI ?_);refine hK _ ?_;clear hK K
   (first | refine W_ct rfl ?_ | refine W_seq (W_ct rfl ?_))
   (refine aUa ?_)
   refine W_ret ?_
   (refine qG ?_;try exact True.intro);try (refine sUaV ?_;try exact True.intro)
  ·have hbb : (b == v) = false := by simp [hb]
   ((first | refine W_seqV ?_ | refine W_seq (W_seqV ?_) | refine W_regV ?_);intro K hK;(refine sUaX (And.intro hti (And.intro hlt hbb)) ?_;try exact True.intro))
   (repeat refine aI ?_);refine hK _ ?_;clear hK K
   (first | refine W_cf rfl ?_ | refine W_seq (W_cf rfl ?_))
   refine W_skip ?_
   simp only [thenW,blockW]
   ((first | refine W_seqV ?_ | refine W_seq (W_seqV ?_) | refine W_regV ?_);intro K hK;(refine sUa ?_;try exact True.intro))
   (repeat refine aI ?_);refine hK _ ?_;clear hK K
   simp only [blockW,thenW]
   refine ⟨⟨i + 1,by omega,hpr hb⟩,Le_drop (by simp [leE]) (by simp [leH]) rfl rfl,?_⟩
   dsimp only
   omega
 ·obtain rfl : i = t.length := by omega
  rw [idx_not fun j hj => hpre j (by omega)]
  refine W_seq ?_
  ((first | refine W_seqV ?_ | refine W_seq (W_seqV ?_) | refine W_regV ?_);intro K hK;(refine sUa ?_;try exact True.intro))
  (repeat refine aI ?_);refine hK _ ?_;clear hK K
  (first | refine W_cf rfl ?_ | refine W_seq (W_cf rfl ?_))
  refine W_exit ?_
  simp only [thenW,blockW,if_true]
  (refine aUa ?_)
  refine W_ret ?_
  (refine qG ?_;try exact True.intro);try (refine sUaV ?_;try exact True.intro)
theorem r7is_ok (n : Int) (t : TR) (v : Int) : Pure Tryz.prog 73 [cT n t,.int .i64 v] (· = .bool (inR n v)) := by
 unfold cT inR
 by_cases h1 : 0 ≤ v
 ·(refine pureW Tryz.func73 rfl (rs := [Go.ResultVar.tmp 4]) rfl (n := 13) rfl ?_;simp only [List.length_cons,List.length_nil,List.replicate,List.cons_append,List.nil_append])
  (refine aUa ?_)
  ((first | refine W_seqV ?_ | refine W_seq (W_seqV ?_) | refine W_regV ?_);intro K hK;(refine sUaX h1 ?_;try exact True.intro))
  (repeat refine aI ?_);refine hK _ ?_;clear hK K
  refine W_ret ?_
  (refine qG ?_;try exact True.intro);try (refine sUaV ?_;try exact True.intro)
  simp [h1]
 ·(refine pureW Tryz.func73 rfl (rs := [Go.ResultVar.tmp 4]) rfl (n := 13) rfl ?_;simp only [List.length_cons,List.length_nil,List.replicate,List.cons_append,List.nil_append])
  (refine aUa ?_)
  ((first | refine W_seqV ?_ | refine W_seq (W_seqV ?_) | refine W_regV ?_);intro K hK;(refine sUaX h1 ?_;try exact True.intro))
  (repeat refine aI ?_);refine hK _ ?_;clear hK K
  refine W_ret ?_
  (refine qG ?_;try exact True.intro);try (refine sUaV ?_;try exact True.intro)
  simp [h1]
theorem r6vars_ok (f : List (Int × RR)) {B : Nat} (hf : PF f B) (hB : B ≤ 8589934592) : Pure Tryz.prog 75 [cF f] (· = .sl (i64s (keys (normF (vals f))))) := by
 have a1 := f6norm_ok f hf hB
 have hl : (normF (vals f)).length < 1099511627776 := by
  have := len_norm (vals f)
  rw [vals_length] at this
  have := hf.len
  omega
 generalize normF (vals f) = F at *
 have hst : ∀ i,i < F.length → keys (F.take (i + 1)) = keys (F.take i) ++ [(F.getD i default).1] := fun i hi => by rw [take_snoc hi,keys_append];rfl
 have h0 : keys (F.take 0) = [] := rfl
 have hall : keys (F.take F.length) = keys F := by rw [List.take_length]
 have hln : ∀ i,i ≤ F.length → (keys (F.take i)).length = i := fun i hi => by rw [keys_len,List.length_take];omega
 generalize hE : (fun i => keys (F.take i)) = E at *
 have hE' : ∀ i,keys (F.take i) = E i := fun i => congrFun hE i
 simp only [hE'] at *
 clear hE hE'
 rw [← hall]
 simp only [cF,cL] at *
 (refine pureW Tryz.func75 rfl (rs := [Go.ResultVar.tmp 2]) rfl (n := 23) rfl ?_;simp only [List.length_cons,List.length_nil,List.replicate,List.cons_append,List.nil_append])
 (refine aUa ?_)
 ((first | refine W_seqV ?_ | refine W_seq (W_seqV ?_) | refine W_regV ?_);intro K hK;(refine sUa ?_;try exact True.intro))
 ((repeat refine aI ?_);refine ⟨by kernel_rfl,_,.pure rfl (a1),?_⟩;(try (refine sUa ?_;try exact True.intro));(repeat refine aI ?_))
 (repeat refine aI ?_);refine hK _ ?_;clear hK K
 refine W.le ?_ (Le_nil 3 3 3 1 true rfl rfl)
 simp only [List.set]
 (refine aUa ?_)
 refine W_seq ?_
 ((first | refine W_seqV ?_ | refine W_seq (W_seqV ?_) | refine W_regV ?_);intro K hK;(refine sUa ?_;try exact True.intro))
 (repeat refine aI ?_);refine hK _ ?_;clear hK K
 refine W_block (W_loop (fun s : {i : Nat // i ≤ F.length} =>
   ⟨[.any,.any,.any,.sref 3 0 s.1,.sl (tab rowQ F),.int .i64 s.1,.any,.any,.any,.any,.any,.any,.any,.any,.any,.any,.any,.any,.any,.any,.any,.any,.any],[.dead,.dead,.dead,.arr 3 1 true (i64s (E s.1)),.dead,.dead,.dead,.dead,.dead,.dead,.dead,.dead,.dead,.dead,.dead,.dead,.dead,.dead,.dead,.dead,.dead,.dead,.dead]⟩) (fun s => F.length - s.1)
   ⟨0,by omega⟩ (Le_drop (by simp [leE]) (by simp [leH,h0,i64s]) rfl rfl) fun s => ?_)
 obtain ⟨i,hi⟩ := s
 dsimp only
 by_cases hlt : i < F.length
 ·have hfi : (tab rowQ F).getD i [] = rowQ (F.getD i default) := tab_getD hlt
  have hsi := hst i hlt
  have hli := hln i (by omega)
  generalize F.getD i default = p at *
  obtain ⟨v,q⟩ := p
  simp only [rowQ] at hfi
  dsimp only at *
  generalize E i = o at *
  refine W_seq ?_
  ((first | refine W_seqV ?_ | refine W_seq (W_seqV ?_) | refine W_regV ?_);intro K hK;(refine sUaX hlt ?_;try exact True.intro))
  (repeat refine aI ?_);refine hK _ ?_;clear hK K
  (first | refine W_ct rfl ?_ | refine W_seq (W_ct rfl ?_))
  refine W_skip ?_
  simp only [thenW]
  refine W_seq ?_
  refine W_block ?_
  refine W_regR fun K hK => ?_
  (refine sUaX (And.intro hfi (And.intro hlt hli)) ?_;try exact True.intro)
  (repeat refine aI ?_)
  refine hK _ ?_
  clear hK K
  simp only [blockW,thenW]
  ((first | refine W_seqV ?_ | refine W_seq (W_seqV ?_) | refine W_regV ?_);intro K hK;(refine sUa ?_;try exact True.intro))
  (repeat refine aI ?_);refine hK _ ?_;clear hK K
  simp only [blockW,thenW]
  refine ⟨⟨i + 1,by omega⟩,Le_drop (by simp [leE]) (by simp [leH,hsi,i64s,hli,List.take_of_length_le]) rfl rfl,?_⟩
  dsimp only
  omega
 ·obtain rfl : i = F.length := by omega
  have hli := hln F.length (Nat.le_refl _)
  generalize E F.length = o at *
  refine W_seq ?_
  ((first | refine W_seqV ?_ | refine W_seq (W_seqV ?_) | refine W_regV ?_);intro K hK;(refine sUa ?_;try exact True.intro))
  (repeat refine aI ?_);refine hK _ ?_;clear hK K
  (first | refine W_cf rfl ?_ | refine W_seq (W_cf rfl ?_))
  refine W_exit ?_
  simp only [thenW,blockW,if_true]
  rw [← hli]
  (refine W.le ?_ (Le_freeze 3 (rows := i64s o) rfl (by simp) (.inl rfl));simp only [St.freeze,List.map_cons,List.map_nil,List.set,if_true,if_false,Nat.reduceEqDiff,reduceCtorEq,List.drop_zero,u32s_take,u32s_drop,froz_any,froz_und,froz_int,froz_bool,froz_str,froz_nils,froz_sl,froz_ia,froz_nilp,froz_nilif,froz_nilfn,froz_nilmp,froz_gl,froz_sref,froz_ptr,froz_agg,froz_tup,froz_fn,froz_ifc,frozs_nil,frozs_cons,froz_dead,froz_arr,froz_mp,froz_it,froz_md,froz_map,froz_iter])
  (repeat' (first|(exfalso;simp at h;done)|refine W_block ?_ |((first|refine W_seqV fun K hK => ?_|refine W_regV fun K hK => ?_);(try (refine sUa ?_;try exact True.intro));(repeat refine aI ?_);refine hK _ ?_;clear hK K)|((first|refine W_seqR fun K hK => ?_|refine W_regR fun K hK => ?_);(try (refine sUa ?_;try exact True.intro));(repeat refine aI ?_);refine hK _ ?_;clear hK K)|((first|refine W_seqD mixed [] (by kernel_rfl) fun K hK => ?_|refine W_regD mixed [] (by kernel_rfl) fun K hK => ?_);(try (refine sUa ?_;try exact True.intro));(repeat refine aI ?_);refine hK _ ?_;clear hK K)|refine W_skip ?_|(refine W_ret ?_;(refine qG ?_;try exact True.intro))|(refine W_exit ?_;simp only [thenW,blockW,if_true,reduceCtorEq,if_false,Nat.reduceEqDiff])|(refine W_cond rfl (fun h => ?_) (fun h => ?_) <;> (try simp only [cond_true,cond_false,ne_eq,cB] at h))|refine W_seq ?_))
theorem r7knows_ok (n : Int) (t : TR) (f : List (Int × RR)) {B : Nat} (hf : PF f B) (hB : B ≤ 8589934592) : Pure Tryz.prog 70 [cT n t,cF f] (· = .bool (knownB n (normF (vals f)))) := by
 have a1 := r6vars_ok f hf hB
 have a2 := r7is_ok n t
 have hl : (keys (normF (vals f))).length < 1099511627776 := by
  have := len_norm (vals f)
  rw [vals_length] at this
  have := hf.len
  rw [keys_len]
  omega
 rw [← known_keys]
 generalize keys (normF (vals f)) = V at *
 have hst : ∀ i,i < V.length → V.all (inR n) = true → inR n (V.getD i 0) = true := fun i hi h => by
  rw [List.all_eq_true] at h
  exact h _ (by simp [List.getD_eq_getElem?_getD,hi])
 have hno : ∀ i,i < V.length → inR n (V.getD i 0) = false → V.all (inR n) = false := fun i hi h => by
  rw [Bool.eq_false_iff]
  intro h'
  rw [hst i hi h'] at h
  cases h
 have hall : (∀ i,i < V.length → inR n (V.getD i 0) = true) → V.all (inR n) = true := fun h => by
  rw [List.all_eq_true]
  intro x hx
  obtain ⟨i,hi,he⟩ := List.getElem_of_mem hx
  have := h i hi
  rwa [show V.getD i 0 = x by simp [List.getD_eq_getElem?_getD,hi,he]] at this
 generalize V.all (inR n) = R at *
 simp only [cF,cT] at *
 (refine pureW Tryz.func70 rfl (rs := [Go.ResultVar.tmp 4]) rfl (n := 22) rfl ?_;simp only [List.length_cons,List.length_nil,List.replicate,List.cons_append,List.nil_append])
 (refine aUa ?_)
 ((first | refine W_seqV ?_ | refine W_seq (W_seqV ?_) | refine W_regV ?_);intro K hK;(refine sUa ?_;try exact True.intro))
 ((repeat refine aI ?_);refine ⟨by kernel_rfl,_,.pure rfl (a1),?_⟩;(try (refine sUa ?_;try exact True.intro));(repeat refine aI ?_))
 (repeat refine aI ?_);refine hK _ ?_;clear hK K
 (refine aUa ?_)
 refine W_seq ?_
 ((first | refine W_seqV ?_ | refine W_seq (W_seqV ?_) | refine W_regV ?_);intro K hK;(refine sUa ?_;try exact True.intro))
 (repeat refine aI ?_);refine hK _ ?_;clear hK K
 refine W_block (W_loop (fun s : {i : Nat // i ≤ V.length ∧ ∀ j,j < i → inR n (V.getD j 0) = true} =>
   ⟨[.any,.any,.ptr 2 0 0,.any,.any,.sl (i64s V),.int .i64 s.1,.any,.any,.any,.any,.any,.any,.any,.any,.any,.any,.any,.any,.any,.any,.any],[.dead,.dead,.arr 24 2 false [[.int .i64 n,.sl (tab rowT t)]],.dead,.dead,.dead,.dead,.dead,.dead,.dead,.dead,.dead,.dead,.dead,.dead,.dead,.dead,.dead,.dead,.dead,.dead,.dead]⟩) (fun s => V.length - s.1)
   ⟨0,by omega,by omega⟩ (Le_drop (by simp [leE]) (by simp [leH]) rfl rfl) fun s => ?_)
 obtain ⟨i,hi,hpre⟩ := s
 dsimp only
 by_cases hlt : i < V.length
 ·have hno := hno i hlt
  have hpr : inR n (V.getD i 0) = true → ∀ j,j < i + 1 → inR n (V.getD j 0) = true := fun h j hj => by
   by_cases hji : j = i
   ·subst hji;exact h
   ·exact hpre j (by omega)
  generalize hv : V.getD i 0 = v at *
  have a2v := a2 v
  refine W_seq ?_
  ((first | refine W_seqV ?_ | refine W_seq (W_seqV ?_) | refine W_regV ?_);intro K hK;(refine sUaX hlt ?_;try exact True.intro))
  (repeat refine aI ?_);refine hK _ ?_;clear hK K
  (first | refine W_ct rfl ?_ | refine W_seq (W_ct rfl ?_))
  refine W_skip ?_
  simp only [thenW]
  refine W_seq ?_
  refine W_block ?_
  generalize inR n v = ib at *
  cases ib
  ·rw [hno rfl]
   ((first | refine W_seqD mixed [] (by kernel_rfl) ?_ | refine W_seq (W_seqD mixed [] (by kernel_rfl) ?_) | refine W_regD mixed [] (by kernel_rfl) ?_);intro K hK;(refine sUaX (And.intro hv hlt) ?_;try exact True.intro))
   ((repeat refine aI ?_);refine ⟨by kernel_rfl,_,.pure rfl (a2v),?_⟩;(try (refine sUa ?_;try exact True.intro));(repeat refine aI ?_))
   (repeat refine aI ?_);refine hK _ ?_;clear hK K
   (first | refine W_ct rfl ?_ | refine W_seq (W_ct rfl ?_))
   (refine aUa ?_)
   refine W_ret ?_
   (refine qG ?_;try exact True.intro);try (refine sUaV ?_;try exact True.intro)
  ·((first | refine W_seqD mixed [] (by kernel_rfl) ?_ | refine W_seq (W_seqD mixed [] (by kernel_rfl) ?_) | refine W_regD mixed [] (by kernel_rfl) ?_);intro K hK;(refine sUaX (And.intro hv hlt) ?_;try exact True.intro))
   ((repeat refine aI ?_);refine ⟨by kernel_rfl,_,.pure rfl (a2v),?_⟩;(try (refine sUa ?_;try exact True.intro));(repeat refine aI ?_))
   (repeat refine aI ?_);refine hK _ ?_;clear hK K
   (first | refine W_cf rfl ?_ | refine W_seq (W_cf rfl ?_))
   refine W_skip ?_
   simp only [thenW,blockW]
   ((first | refine W_seqV ?_ | refine W_seq (W_seqV ?_) | refine W_regV ?_);intro K hK;(refine sUa ?_;try exact True.intro))
   (repeat refine aI ?_);refine hK _ ?_;clear hK K
   simp only [blockW,thenW]
   refine ⟨⟨i + 1,by omega,hpr rfl⟩,Le_drop (by simp [leE]) (by simp [leH]) rfl rfl,?_⟩
   dsimp only
   omega
 ·obtain rfl : i = V.length := by omega
  rw [hall hpre]
  refine W_seq ?_
  ((first | refine W_seqV ?_ | refine W_seq (W_seqV ?_) | refine W_regV ?_);intro K hK;(refine sUa ?_;try exact True.intro))
  (repeat refine aI ?_);refine hK _ ?_;clear hK K
  (first | refine W_cf rfl ?_ | refine W_seq (W_cf rfl ?_))
  refine W_exit ?_
  simp only [thenW,blockW,if_true]
  (refine aUa ?_)
  refine W_ret ?_
  (refine qG ?_;try exact True.intro);try (refine sUaV ?_;try exact True.intro)
def othK (K : List Int) : Nat → List Int
 | 0 => []
 | k + 1 => if (k : Int) ∈ K then othK K k else othK K k ++ [(k : Int)]
def othV (n : Int) (t : TR) : AV := if goodB n (nrmT t) then .tup [.sl (i64s (othK (keys (nrmT t)) n.toNat)),.int .i64 0] else .tup [.sl [],.int .i64 70]
def colF (M : TM) (v : Int) (l : List Int) : List Int := l.filter fun b => decide (coef ((lookM M b).getD []) v ≠ 0)
def colV (n : Int) (t : TR) (v : Int) : AV := if goodB n (nrmT t) then if v < 0 ∨ n ≤ v then .tup [.sl [],.int .i64 61] else if v ∈ keys (nrmT t) then .tup [.sl [],.int .i64 71] else
 .tup [.sl (i64s (colF (nrmT t) v (sortK (keys (nrmT t))))),.int .i64 0] else .tup [.sl [],.int .i64 70]
theorem sTj {G G' : Prop} (h : G') (e : G = G' := by conv => lhs;simp (disch := omega) only [rowsOf,cNat,cN,St.ret,St.seth,Eff.app,Eff.wi,sepL,guardOf,St.known,objOf,List.set,sliceW,litW,copyW,lenOf,bnd,mxOk,ofCells,TI.isAgg,cellsOf,storable,AV.one,dead,laid,overlay,reduceCtorEq,Int.reduceLE,Int.reduceLT,Int.reduceSub,Int.reduceAdd,Nat.reduceMul,Int.reduceToNat,Nat.reducePow,Int.reduceNeg,Nat.reduceAdd,Nat.reduceLT,Nat.reduceLeDiff,sA,sB,Nat.reduceEqDiff,cQ,rowQ,rowU,rowT,rowM,i64s_getD,i64s_length,tab_length,tab_drop,tab_take,tab_append,tab_nil,rowT_all,rowT_one,rowT_pure,rowU_all,rowU_one,rowU_pure,rowQ_all,rowQ_one,rowQ_pure,List.take_length,List.length_append,findA_tab,range_snoc,pure_sl,sT]) : G := e.mpr h
theorem sTjX {G G' P : Prop} (p : P) (h : G') (e : P → G = G' := by intro p;conv => lhs;simp (disch := omega) only [rowsOf,cNat,cN,St.ret,St.seth,Eff.app,Eff.wi,sepL,guardOf,St.known,objOf,List.set,sliceW,litW,copyW,lenOf,bnd,mxOk,ofCells,TI.isAgg,cellsOf,storable,AV.one,dead,laid,overlay,reduceCtorEq,Int.reduceLE,Int.reduceLT,Int.reduceSub,Int.reduceAdd,Nat.reduceMul,Int.reduceToNat,Nat.reducePow,Int.reduceNeg,Nat.reduceAdd,Nat.reduceLT,Nat.reduceLeDiff,sA,sB,Nat.reduceEqDiff,cQ,rowQ,rowU,rowT,rowM,i64s_getD,i64s_length,tab_length,tab_drop,tab_take,tab_append,tab_nil,rowT_all,rowT_one,rowT_pure,rowU_all,rowU_one,rowU_pure,rowQ_all,rowQ_one,rowQ_pure,List.take_length,List.length_append,findA_tab,range_snoc,pure_sl,sT,p]) : G := (e p).mpr h
theorem sTjV {G G' : Prop} (h : G') (e : G = G' := by conv => lhs;simp (disch := omega) only [rowsOf,cNat,cN,St.ret,St.seth,Eff.app,Eff.wi,sepL,guardOf,St.known,objOf,List.set,sliceW,litW,copyW,lenOf,bnd,mxOk,ofCells,TI.isAgg,cellsOf,storable,AV.one,dead,laid,overlay,reduceCtorEq,Int.reduceLE,Int.reduceLT,Int.reduceSub,Int.reduceAdd,Nat.reduceMul,Int.reduceToNat,Nat.reducePow,Int.reduceNeg,Nat.reduceAdd,Nat.reduceLT,Nat.reduceLeDiff,sA,sB,Nat.reduceEqDiff,cQ,rowQ,rowU,rowT,rowM,i64s_getD,i64s_length,tab_length,tab_drop,tab_take,tab_append,tab_nil,rowT_all,rowT_one,rowT_pure,rowU_all,rowU_one,rowU_pure,rowQ_all,rowQ_one,rowQ_pure,List.take_length,List.length_append,findA_tab,range_snoc,pure_sl,sT,view_sref,viewRef,view_agg,views_cons,views_nil,view_bool,view_int,view_sl,view_nils,view_str,view_tup,view_nilif]) : G := e.mpr h
theorem aTj {G G' : Prop} (h : G') (f : Wr G' → G := by intro h;(repeat (first|(refine W_seqV fun K hK => ?_;(try (refine sTj ?_;try exact True.intro));(repeat refine aI ?_);refine hK _ ?_;clear hK K)|(refine W_seqR fun K hK => ?_;(try (refine sTj ?_;try exact True.intro));(repeat refine aI ?_);refine hK _ ?_;clear hK K)|(refine W_seqD mixed [] (by kernel_rfl) fun K hK => ?_;(try (refine sTj ?_;try exact True.intro));(repeat refine aI ?_);refine hK _ ?_;clear hK K)));exact h.out) : G := f ⟨h⟩
theorem celly_u32s : ∀ l : List Nat,AV.cellyR (u32s l) = true
 | [] => rfl
 | x::l => by
  show (!([AV.int .u32 (x : Int)]).isEmpty && AV.cellys [AV.int .u32 (x : Int)] && AV.cellyR (u32s l)) = true
  rw [celly_u32s l]
  rfl
theorem celly_rowQ : ∀ l : List (Int × Rat),AV.cellyR (tab rowQ l) = true
 | [] => rfl
 | p::l => by
  show (!(rowQ p).isEmpty && AV.cellys (rowQ p) && AV.cellyR (tab rowQ l)) = true
  rw [celly_rowQ l]
  simp only [rowQ,AV.cellys,AV.celly,celly_u32s,List.isEmpty_cons]
  rfl
theorem celly_L (l : List (Int × Rat)) : (AV.sl (tab rowQ l)).celly = true := celly_rowQ l
structure FormOk (f : List (Int × RR)) : Prop where
 ok : ∀ p ∈ f,p.2.ok
 sz : nbs (vals f) ≤ 68157440
theorem FormOk.fok {f : List (Int × RR)} (h : FormOk f) : FOk f (nbs (vals f)) := ⟨h.ok,Sz.of _⟩
theorem TOk.expr {t : TR} (h : TOk t) {n : Int} (hg : goodB n (nrmT t) = true) {f : List (Int × RR)} (hf : FormOk f) (hk : knownB n (normF (vals f)) = true) :
  Pure Tryz.prog 67 [.md t.length (List.range t.length) (tab rowU (nrmT t)),cF f] (· = cL (exprT (nrmT t) (vals f))) :=
 texpr_ok _ f _ _ (gt_iff.1 hg) h.mok.nf hf.fok hk (by have := hf.sz;have := h.tb;omega) (by rw [nrmT_len];exact range_births.1) range_births.2.1 range_births.2.2
theorem FormOk.known {f : List (Int × RR)} (h : FormOk f) (n : Int) : Pure Tryz.prog 66 [cF f,.int .i64 n] (· = .bool (knownB n (normF (vals f)))) :=
 tknown_ok f n h.fok (by have := h.sz;omega)
def exprV (n : Int) (t : TR) (f : List (Int × RR)) : AV := if goodB n (nrmT t) then if knownB n (normF (vals f)) then .tup [cL (exprT (nrmT t) (vals f)),.int .i64 0] else .tup [.sl [],.int .i64 61] else .tup [.sl [],.int .i64 70]
def defV (n : Int) (t : TR) (f : List (Int × RR)) : AV := if goodB n (nrmT t) then if knownB n (normF (vals f)) then if n = 65536 then .tup [cU 0 [],.int .i64 0,.int .i64 2] else .tup [cU (n + 1) (sortM (nrmT t ++ [(n,exprT (nrmT t) (vals f))])),.int .i64 n,.int .i64 0]
 else .tup [cU 0 [],.int .i64 0,.int .i64 61] else .tup [cU 0 [],.int .i64 0,.int .i64 70]
theorem tdefine_ok (n : Int) (t : TR) (f : List (Int × RR)) (hT : TOk t) (hf : FormOk f) : Pure Tryz.prog 21 [cT n t,cF f] (· = defV n t f) := by
 have a0 := tload_new n t (fun r hr => hT.form hr) (by omega) (by have := hT.len;omega)
 have a2 := hf.known n
 have a3 := fun hg hk => hT.expr (n := n) hg hf hk
 have hM := hT.mok
 have hml := nrmT_len t
 have hsz : goodB n (nrmT t) = true → knownB n (normF (vals f)) = true → MOk (nrmT t ++ [(n,exprT (nrmT t) (vals f))]) 536870912 := fun hg hk => by
  have hp := exprP_pre (gt_iff.1 hg) hk (keys (normF (vals f))).length
  rw [List.take_length] at hp
  have := hf.sz
  have := hT.tb
  refine ⟨fun r hr => ?_,fun r hr => ?_,by have := hM.len;have := hT.len;rw [List.length_append,hml];simp;omega⟩
  ·rcases List.mem_append.1 hr with hr | hr
   ·exact hM.nf r hr
   ·simp at hr;subst hr;exact hp.1
  ·rcases List.mem_append.1 hr with hr | hr
   ·exact (hM.sz r hr).mono (by omega)
   ·simp at hr;subst hr;exact hp.2.mono (by omega)
 have a4 := fun hg hk => ttold_ok (nrmT t ++ [(n,exprT (nrmT t) (vals f))]) (n + 1) (t.length + 1) (List.range (t.length + 1)) (hsz hg hk) (by omega) (by simp [hml]) range_births.2.1 range_births.2.2
 have hni : goodB n (nrmT t) = true → n ∉ keys (nrmT t) := fun hg hm => by have := (gt_iff.1 hg).range n hm;omega
 have hgn : goodB n (nrmT t) = true → 0 ≤ n ∧ n ≤ 65536 := fun h => ⟨(gt_iff.1 h).lo,(gt_iff.1 h).hi⟩
 unfold loadR at a0
 unfold defV
 unfold cT cU at *
 have hcl := celly_L (exprT (nrmT t) (vals f))
 generalize exprT (nrmT t) (vals f) = R at *
 generalize goodB n (nrmT t) = gb at *
 generalize knownB n (normF (vals f)) = kb at *
 generalize nrmT t = M at *
 have hz : tab rowU [] = [] := rfl
 rw [hz]
 simp only [cF,cL] at *
 clear hsz
 cases gb
 ·simp only [Bool.false_eq_true,if_false] at a0 ⊢
  (refine pureW Tryz.func21 rfl (rs := [Go.ResultVar.cell 4 24,Go.ResultVar.tmp 5,Go.ResultVar.tmp 6]) rfl (n := 43) rfl ?_;simp only [List.length_cons,List.length_nil,List.replicate,List.cons_append,List.nil_append])
  (refine aTj ?_)
  ((first | refine W_seqR ?_ | refine W_seq (W_seqR ?_));intro K hK;(refine sTj ?_;try exact True.intro))
  refine ⟨by kernel_rfl,call_newMB 11 rfl rfl a0 (fun _ => ?_) (fun c bs rows h => by cases h)⟩
  (refine sTj ?_;try exact True.intro)
  (repeat refine aI ?_);refine hK _ ?_;clear hK K
  (repeat' (first|(exfalso;simp at h;done)|refine W_block ?_ |((first|refine W_seqV fun K hK => ?_|refine W_regV fun K hK => ?_);(try (refine sTj ?_;try exact True.intro));(repeat refine aI ?_);refine hK _ ?_;clear hK K)|((first|refine W_seqR fun K hK => ?_|refine W_regR fun K hK => ?_);(try (refine sTj ?_;try exact True.intro));(repeat refine aI ?_);refine hK _ ?_;clear hK K)|((first|refine W_seqD mixed [] (by kernel_rfl) fun K hK => ?_|refine W_regD mixed [] (by kernel_rfl) fun K hK => ?_);(try (refine sTj ?_;try exact True.intro));(repeat refine aI ?_);refine hK _ ?_;clear hK K)|refine W_skip ?_|(refine W_ret ?_;(refine qG ?_;try exact True.intro))|(refine W_exit ?_;simp only [thenW,blockW,if_true,reduceCtorEq,if_false,Nat.reduceEqDiff])|(refine W_cond rfl (fun h => ?_) (fun h => ?_) <;> (try simp only [cond_true,cond_false,ne_eq,cB] at h))|refine W_seq ?_))
  (try (refine sTjV ?_;try exact True.intro))
 simp only [if_true] at a0 ⊢
 obtain ⟨hn0,hn1⟩ := hgn rfl
 have hni := hni rfl
 have hid : idxM M n = none := by
  cases h : idxM M n with
  | none => rfl
  | some j => exact absurd (idx_some h).2.2.2 hni
 cases kb
 ·simp only [Bool.false_eq_true,if_false]
  (refine pureW Tryz.func21 rfl (rs := [Go.ResultVar.cell 4 24,Go.ResultVar.tmp 5,Go.ResultVar.tmp 6]) rfl (n := 43) rfl ?_;simp only [List.length_cons,List.length_nil,List.replicate,List.cons_append,List.nil_append])
  (refine aTj ?_)
  ((first | refine W_seqR ?_ | refine W_seq (W_seqR ?_));intro K hK;(refine sTj ?_;try exact True.intro))
  refine ⟨by kernel_rfl,call_newMB 11 rfl rfl a0 (fun h => by cases h) (fun c bs rows h => ?_)⟩
  cases h
  (refine sTj ?_;try exact True.intro)
  (repeat refine aI ?_);refine hK _ ?_;clear hK K
  (repeat' (first|(exfalso;simp at h;done)|refine W_block ?_ |((first|refine W_seqV fun K hK => ?_|refine W_regV fun K hK => ?_);(try (refine sTj ?_;try exact True.intro));(repeat refine aI ?_);refine hK _ ?_;clear hK K)|((first|refine W_seqR fun K hK => ?_|refine W_regR fun K hK => ?_);(try (refine sTj ?_;try exact True.intro));(repeat refine aI ?_);refine hK _ ?_;clear hK K)|((first|refine W_seqD mixed [] (by kernel_rfl) fun K hK => ?_|refine W_regD mixed [] (by kernel_rfl) fun K hK => ?_);(try (refine sTj ?_;try exact True.intro));(repeat refine aI ?_);refine hK _ ?_;clear hK K)|refine W_skip ?_|(refine W_ret ?_;(refine qG ?_;try exact True.intro))|(refine W_exit ?_;simp only [thenW,blockW,if_true,reduceCtorEq,if_false,Nat.reduceEqDiff])|(refine W_cond rfl (fun h => ?_) (fun h => ?_) <;> (try simp only [cond_true,cond_false,ne_eq,cB] at h))|refine W_seq ?_))
  ((first | refine W_seqV ?_ | refine W_seq (W_seqV ?_) | refine W_regV ?_);intro K hK;(refine sTj ?_;try exact True.intro))
  ((repeat refine aI ?_);refine ⟨by kernel_rfl,_,.pure rfl (a2),?_⟩;(try (refine sTj ?_;try exact True.intro));(repeat refine aI ?_))
  (repeat refine aI ?_);refine hK _ ?_;clear hK K
  (repeat' (first|(exfalso;simp at h;done)|refine W_block ?_ |((first|refine W_seqV fun K hK => ?_|refine W_regV fun K hK => ?_);(try (refine sTj ?_;try exact True.intro));(repeat refine aI ?_);refine hK _ ?_;clear hK K)|((first|refine W_seqR fun K hK => ?_|refine W_regR fun K hK => ?_);(try (refine sTj ?_;try exact True.intro));(repeat refine aI ?_);refine hK _ ?_;clear hK K)|((first|refine W_seqD mixed [] (by kernel_rfl) fun K hK => ?_|refine W_regD mixed [] (by kernel_rfl) fun K hK => ?_);(try (refine sTj ?_;try exact True.intro));(repeat refine aI ?_);refine hK _ ?_;clear hK K)|refine W_skip ?_|(refine W_ret ?_;(refine qG ?_;try exact True.intro))|(refine W_exit ?_;simp only [thenW,blockW,if_true,reduceCtorEq,if_false,Nat.reduceEqDiff])|(refine W_cond rfl (fun h => ?_) (fun h => ?_) <;> (try simp only [cond_true,cond_false,ne_eq,cB] at h))|refine W_seq ?_))
  (try (refine sTjV ?_;try exact True.intro))
 simp only [if_true]
 have a3' := a3 rfl rfl
 have a4' := a4 rfl rfl
 by_cases hn : n = 65536
 ·rw [if_pos hn]
  (refine pureW Tryz.func21 rfl (rs := [Go.ResultVar.cell 4 24,Go.ResultVar.tmp 5,Go.ResultVar.tmp 6]) rfl (n := 43) rfl ?_;simp only [List.length_cons,List.length_nil,List.replicate,List.cons_append,List.nil_append])
  (refine aTj ?_)
  ((first | refine W_seqR ?_ | refine W_seq (W_seqR ?_));intro K hK;(refine sTj ?_;try exact True.intro))
  refine ⟨by kernel_rfl,call_newMB 11 rfl rfl a0 (fun h => by cases h) (fun c bs rows h => ?_)⟩
  cases h
  (refine sTj ?_;try exact True.intro)
  (repeat refine aI ?_);refine hK _ ?_;clear hK K
  (repeat' (first|(exfalso;simp at h;done)|refine W_block ?_ |((first|refine W_seqV fun K hK => ?_|refine W_regV fun K hK => ?_);(try (refine sTj ?_;try exact True.intro));(repeat refine aI ?_);refine hK _ ?_;clear hK K)|((first|refine W_seqR fun K hK => ?_|refine W_regR fun K hK => ?_);(try (refine sTj ?_;try exact True.intro));(repeat refine aI ?_);refine hK _ ?_;clear hK K)|((first|refine W_seqD mixed [] (by kernel_rfl) fun K hK => ?_|refine W_regD mixed [] (by kernel_rfl) fun K hK => ?_);(try (refine sTj ?_;try exact True.intro));(repeat refine aI ?_);refine hK _ ?_;clear hK K)|refine W_skip ?_|(refine W_ret ?_;(refine qG ?_;try exact True.intro))|(refine W_exit ?_;simp only [thenW,blockW,if_true,reduceCtorEq,if_false,Nat.reduceEqDiff])|(refine W_cond rfl (fun h => ?_) (fun h => ?_) <;> (try simp only [cond_true,cond_false,ne_eq,cB] at h))|refine W_seq ?_))
  ((first | refine W_seqV ?_ | refine W_seq (W_seqV ?_) | refine W_regV ?_);intro K hK;(refine sTj ?_;try exact True.intro))
  ((repeat refine aI ?_);refine ⟨by kernel_rfl,_,.pure rfl (a2),?_⟩;(try (refine sTj ?_;try exact True.intro));(repeat refine aI ?_))
  (repeat refine aI ?_);refine hK _ ?_;clear hK K
  (repeat' (first|(exfalso;simp at h;done)|refine W_block ?_ |((first|refine W_seqV fun K hK => ?_|refine W_regV fun K hK => ?_);(try (refine sTj ?_;try exact True.intro));(repeat refine aI ?_);refine hK _ ?_;clear hK K)|((first|refine W_seqR fun K hK => ?_|refine W_regR fun K hK => ?_);(try (refine sTj ?_;try exact True.intro));(repeat refine aI ?_);refine hK _ ?_;clear hK K)|((first|refine W_seqD mixed [] (by kernel_rfl) fun K hK => ?_|refine W_regD mixed [] (by kernel_rfl) fun K hK => ?_);(try (refine sTj ?_;try exact True.intro));(repeat refine aI ?_);refine hK _ ?_;clear hK K)|refine W_skip ?_|(refine W_ret ?_;(refine qG ?_;try exact True.intro))|(refine W_exit ?_;simp only [thenW,blockW,if_true,reduceCtorEq,if_false,Nat.reduceEqDiff])|(refine W_cond rfl (fun h => ?_) (fun h => ?_) <;> (try simp only [cond_true,cond_false,ne_eq,cB] at h))|refine W_seq ?_))
  ·(try (refine sTjV ?_;try exact True.intro))
  ·exact absurd hn h
 ·rw [if_neg hn]
  have hw : IntKind.wrap .i64 (n + 1) = n + 1 := wrap_i64 (by omega) (by omega)
  (refine pureW Tryz.func21 rfl (rs := [Go.ResultVar.cell 4 24,Go.ResultVar.tmp 5,Go.ResultVar.tmp 6]) rfl (n := 43) rfl ?_;simp only [List.length_cons,List.length_nil,List.replicate,List.cons_append,List.nil_append])
  (refine aTj ?_)
  ((first | refine W_seqR ?_ | refine W_seq (W_seqR ?_));intro K hK;(refine sTj ?_;try exact True.intro))
  refine ⟨by kernel_rfl,call_newMB 11 rfl rfl a0 (fun h => by cases h) (fun c bs rows h => ?_)⟩
  cases h
  (refine sTj ?_;try exact True.intro)
  (repeat refine aI ?_);refine hK _ ?_;clear hK K
  (repeat' (first|(exfalso;simp at h;done)|refine W_block ?_ |((first|refine W_seqV fun K hK => ?_|refine W_regV fun K hK => ?_);(try (refine sTj ?_;try exact True.intro));(repeat refine aI ?_);refine hK _ ?_;clear hK K)|((first|refine W_seqR fun K hK => ?_|refine W_regR fun K hK => ?_);(try (refine sTj ?_;try exact True.intro));(repeat refine aI ?_);refine hK _ ?_;clear hK K)|((first|refine W_seqD mixed [] (by kernel_rfl) fun K hK => ?_|refine W_regD mixed [] (by kernel_rfl) fun K hK => ?_);(try (refine sTj ?_;try exact True.intro));(repeat refine aI ?_);refine hK _ ?_;clear hK K)|refine W_skip ?_|(refine W_ret ?_;(refine qG ?_;try exact True.intro))|(refine W_exit ?_;simp only [thenW,blockW,if_true,reduceCtorEq,if_false,Nat.reduceEqDiff])|(refine W_cond rfl (fun h => ?_) (fun h => ?_) <;> (try simp only [cond_true,cond_false,ne_eq,cB] at h))|refine W_seq ?_))
  ((first | refine W_seqV ?_ | refine W_seq (W_seqV ?_) | refine W_regV ?_);intro K hK;(refine sTj ?_;try exact True.intro))
  ((repeat refine aI ?_);refine ⟨by kernel_rfl,_,.pure rfl (a2),?_⟩;(try (refine sTj ?_;try exact True.intro));(repeat refine aI ?_))
  (repeat refine aI ?_);refine hK _ ?_;clear hK K
  (repeat' (first|(exfalso;simp at h;done)|refine W_block ?_ |((first|refine W_seqV fun K hK => ?_|refine W_regV fun K hK => ?_);(try (refine sTj ?_;try exact True.intro));(repeat refine aI ?_);refine hK _ ?_;clear hK K)|((first|refine W_seqR fun K hK => ?_|refine W_regR fun K hK => ?_);(try (refine sTj ?_;try exact True.intro));(repeat refine aI ?_);refine hK _ ?_;clear hK K)|((first|refine W_seqD mixed [] (by kernel_rfl) fun K hK => ?_|refine W_regD mixed [] (by kernel_rfl) fun K hK => ?_);(try (refine sTj ?_;try exact True.intro));(repeat refine aI ?_);refine hK _ ?_;clear hK K)|refine W_skip ?_|(refine W_ret ?_;(refine qG ?_;try exact True.intro))|(refine W_exit ?_;simp only [thenW,blockW,if_true,reduceCtorEq,if_false,Nat.reduceEqDiff])|(refine W_cond rfl (fun h => ?_) (fun h => ?_) <;> (try simp only [cond_true,cond_false,ne_eq,cB] at h))|refine W_seq ?_))
  ·exact absurd h hn
  ((first | refine W_seqS mixed 6 [(1,0)] (by kernel_rfl) ?_ | refine W_seq (W_seqS mixed 6 [(1,0)] (by kernel_rfl) ?_) | refine W_regS mixed 6 [(1,0)] (by kernel_rfl) ?_);intro K hK;(refine sTjX hid ?_;try exact True.intro))
  ((repeat refine aI ?_);refine ⟨by kernel_rfl,_,.mapv rfl rfl rfl rfl (hcl) (a3'),?_⟩;(try (refine sTj ?_;try exact True.intro));(repeat refine aI ?_))
  (repeat refine aI ?_);refine hK _ ?_;clear hK K
  have hrw : tab rowU M ++ [[.int .i64 n,.sl (tab rowQ R)]] = tab rowU (M ++ [(n,R)]) := tab_snoc (enc := rowU) M (n,R)
  rw [hrw]
  refine W.le ?_ (Le_freezeM 11 7 (e' := [.any,.any,.ptr 2 0 0,.any,.ptr 4 0 0,.any,.any,.any,.any,.any,.any,.any,.any,.any,.any,.any,.any,.any,.any,.any,.any,.any,.any,.any,.any,.any,.any,.any,.any,.any,.any,.any,.any,.any,.any,.any,.any,.any,.any,.any,.any,.any,.any]) (hp' := [.dead,.dead,.arr 24 2 false [[.int .i64 n,.sl (tab rowT t)]],.dead,.arr 24 2 false [[.int .i64 0,.nils]],.dead,.dead,.dead,.dead,.dead,.dead,.dead,.dead,.dead,.dead,.dead,.dead,.dead,.dead,.dead,.dead,.dead,.dead,.dead,.dead,.dead,.dead,.dead,.dead,.dead,.dead,.dead,.dead,.dead,.dead,.dead,.dead,.dead,.dead,.dead,.dead,.dead,.dead]) rfl rfl (by simp) (by simp [leE]) (by simp [leH]) rfl rfl rfl)
  simp only [List.set]
  ((first | refine W_seqD mixed [(6,7)] (by kernel_rfl) ?_ | refine W_seq (W_seqD mixed [(6,7)] (by kernel_rfl) ?_) | refine W_regD mixed [(6,7)] (by kernel_rfl) ?_);intro K hK;(refine sTjX hw ?_;try exact True.intro))
  ((repeat refine aI ?_);refine ⟨by kernel_rfl,_,.pure rfl (a4'),?_⟩;(try (refine sTj ?_;try exact True.intro));(repeat refine aI ?_))
  (repeat refine aI ?_);refine hK _ ?_;clear hK K
  refine W_ret ?_
  (refine qG ?_;try exact True.intro);try (refine sTjV ?_;try exact True.intro)
def updS (bs sn : List Nat) (N : TM) (o : Int) (g : List (Int × Rat)) : TM := (List.range N.length).map fun j => if bs.getD j 0 ∈ sn then ((N.getD j default).1,putF (N.getD j default).2 o g) else N.getD j default
theorem idx_nodup {M : TM} (hn : (keys M).Nodup) {j : Nat} (hj : j < M.length) : idxM M (M.getD j default).1 = some j := by
 have hk : (M.getD j default).1 ∈ keys M := List.mem_map.2 ⟨_,getD_mem hj,rfl⟩
 obtain ⟨i,h1,h2,h3,_⟩ := look_idx hk
 rw [h1]
 congr 1
 have e1 : (keys M)[i]'(by rw [keys_len];exact h2) = (M.getD i default).1 := by simp [keys,List.getD_eq_getElem?_getD,h2]
 have e2 : (keys M)[j]'(by rw [keys_len];exact hj) = (M.getD j default).1 := by simp [keys,List.getD_eq_getElem?_getD,hj]
 exact (List.getElem_inj hn).1 (e1.trans (h3.trans e2.symm))
theorem Sz.whole {f : List (Int × Rat)} {B : Nat} (h : Sz f B) (b : Int) : Sz (wholeF b f) (B + 2) := Sz.sub h ⟨fun v => by simp only [nbv];split <;> simp [nb_one],by simp⟩
def pivV (n : Int) (t : TR) (b o : Int) : AV := if goodB n (nrmT t) then if b < 0 ∨ n ≤ b ∨ o < 0 ∨ n ≤ o then .tup [cU 0 [],.int .i64 61] else match idxM (nrmT t) b with
  | none => .tup [cU 0 [],.int .i64 71]
  | some k => if o ∈ keys (nrmT t) then .tup [cU 0 [],.int .i64 71] else if coef (wholeF b ((nrmT t).getD k default).2) o = 0 then .tup [cU 0 [],.int .i64 72] else .tup [cU n (sortM (pivP (nrmT t) k o (solvF b ((nrmT t).getD k default).2 o))),.int .i64 0]
 else .tup [cU 0 [],.int .i64 70]
theorem sUb {G G' : Prop} (h : G') (e : G = G' := by conv => lhs;simp (disch := omega) only [rowsOf,cNat,cN,St.ret,St.seth,Eff.app,Eff.wi,sepL,guardOf,St.known,objOf,List.set,sliceW,litW,copyW,lenOf,bnd,mxOk,ofCells,TI.isAgg,cellsOf,storable,AV.one,dead,laid,overlay,reduceCtorEq,Int.reduceLE,Int.reduceLT,Int.reduceSub,Int.reduceAdd,Nat.reduceMul,Int.reduceToNat,Nat.reducePow,Int.reduceNeg,Nat.reduceAdd,Nat.reduceLT,Nat.reduceLeDiff,sA,sB,Nat.reduceEqDiff,cQ,rowQ,rowU,rowT,rowM,i64s_getD,i64s_length,i64s_all,i64s_take,i64s_drop,i64s_set,i64s_one,i64s_pure,i64s_append,tab_length,tab_drop,tab_take,tab_append,tab_nil,rowT_all,rowT_one,rowT_pure,rowU_all,rowU_one,rowU_pure,rowQ_all,rowQ_one,rowQ_pure,rowM_all,rowM_one,rowM_pure,List.take_length,List.length_append,sT]) : G := e.mpr h
theorem sUbX {G G' P : Prop} (p : P) (h : G') (e : P → G = G' := by intro p;conv => lhs;simp (disch := omega) only [rowsOf,cNat,cN,St.ret,St.seth,Eff.app,Eff.wi,sepL,guardOf,St.known,objOf,List.set,sliceW,litW,copyW,lenOf,bnd,mxOk,ofCells,TI.isAgg,cellsOf,storable,AV.one,dead,laid,overlay,reduceCtorEq,Int.reduceLE,Int.reduceLT,Int.reduceSub,Int.reduceAdd,Nat.reduceMul,Int.reduceToNat,Nat.reducePow,Int.reduceNeg,Nat.reduceAdd,Nat.reduceLT,Nat.reduceLeDiff,sA,sB,Nat.reduceEqDiff,cQ,rowQ,rowU,rowT,rowM,i64s_getD,i64s_length,i64s_all,i64s_take,i64s_drop,i64s_set,i64s_one,i64s_pure,i64s_append,tab_length,tab_drop,tab_take,tab_append,tab_nil,rowT_all,rowT_one,rowT_pure,rowU_all,rowU_one,rowU_pure,rowQ_all,rowQ_one,rowQ_pure,rowM_all,rowM_one,rowM_pure,List.take_length,List.length_append,sT,p]) : G := (e p).mpr h
theorem aUb {G G' : Prop} (h : G') (f : Wr G' → G := by intro h;(repeat (first|(refine W_seqV fun K hK => ?_;(try (refine sUb ?_;try exact True.intro));(repeat refine aI ?_);refine hK _ ?_;clear hK K)|(refine W_seqR fun K hK => ?_;(try (refine sUb ?_;try exact True.intro));(repeat refine aI ?_);refine hK _ ?_;clear hK K)|(refine W_seqD mixed [] (by kernel_rfl) fun K hK => ?_;(try (refine sUb ?_;try exact True.intro));(repeat refine aI ?_);refine hK _ ?_;clear hK K)));exact h.out) : G := f ⟨h⟩
def rowOk (n : Int) (M : TM) (j : Nat) : Prop := inR n (M.getD j default).1 = true ∧ idxM M (M.getD j default).1 = some j ∧ knownB n (M.getD j default).2 = true
theorem GT.rok {n : Int} {M : TM} (h : GT n M) {j : Nat} (hj : j < M.length) : rowOk n M j := by
 have hm := getD_mem (l := M) hj
 refine ⟨inR_iff.2 (h.range _ (List.mem_map.2 ⟨_,hm,rfl⟩)),idx_nodup h.nodup hj,?_⟩
 unfold knownB
 rw [List.all_eq_true]
 exact fun p hp => inR_iff.2 (h.free _ hm p hp).1
theorem GT.of {n : Int} {M : TM} (h0 : 0 ≤ n) (h1 : n ≤ 65536) (h : ∀ j,j < M.length → rowOk n M j) (hf : ∀ j,j < M.length → ∀ p ∈ (M.getD j default).2,idxM M p.1 = none) : GT n M := by
 refine ⟨h0,h1,?_,fun b hb => ?_,fun r hr p hp => ?_⟩
 ·rw [List.Nodup,List.pairwise_iff_getElem]
  intro i j hi hj hij he
  have hi' : i < M.length := by rwa [keys_len] at hi
  have hj' : j < M.length := by rwa [keys_len] at hj
  have e1 := (h i hi').2.1
  have e2 := (h j hj').2.1
  have : (M.getD i default).1 = (M.getD j default).1 := by
   simp only [keys,List.getElem_map] at he
   simp [List.getD_eq_getElem?_getD,hi',hj',he]
  rw [this,e2] at e1
  cases e1
  omega
 ·obtain ⟨r,hr,rfl⟩ := List.mem_map.1 hb
  obtain ⟨j,hj,rfl⟩ := mem_getD hr
  exact inR_iff.1 (h j hj).1
 ·obtain ⟨j,hj,rfl⟩ := mem_getD hr
  have h2 := (h j hj).2.2
  unfold knownB at h2
  refine ⟨inR_iff.1 (List.all_eq_true.1 h2 p hp),(idx_none (hf j hj p hp)).1⟩
theorem rowI_some {M : TM} {v : Int} {k : Nat} (h : idxM M v = some k) : rowI M v = (k : Int) := by unfold rowI;rw [h]
theorem rowI_none {M : TM} {v : Int} (h : idxM M v = none) : rowI M v = -1 := by unfold rowI;rw [h]
theorem TOk.pf {t : TR} (h : TOk t) {r : Int × List (Int × RR)} (hr : r ∈ t) : PF r.2 68157441 := ((h.form hr).pf (by omega)).mono (by omega)
set_option maxHeartbeats 4000000 in
theorem r7check_ok (n : Int) (t : TR) (hT : TOk t) : Pure Tryz.prog 31 [cT n t] (· = .int .i64 (if goodB n (nrmT t) then 0 else 70)) := by
 have hml := nrmT_len t
 have hlen := hT.len
 have hgT : GT n (nrmT t) → goodB n (nrmT t) = true := gt_iff.2
 have hgF : ¬ GT n (nrmT t) → goodB n (nrmT t) = false := fun h => by
  rw [Bool.eq_false_iff]
  exact fun h' => h (gt_iff.1 h')
 have hnd := fun i (hi : i < t.length) => nrmT_getD hi
 have his := fun v => r7is_ok n t v
 have hro := fun v => r7row_ok n t v (by omega)
 have hkn : ∀ i,i < t.length → Pure Tryz.prog 70 [cT n t,cF (t.getD i default).2] (· = .bool (knownB n (normF (vals (t.getD i default).2)))) := fun i hi => r7knows_ok n t _ (hT.pf (getD_mem hi)) (by omega)
 have hva : ∀ i,i < t.length → Pure Tryz.prog 75 [cF (t.getD i default).2] (· = .sl (i64s (keys (normF (vals (t.getD i default).2))))) := fun i hi => r6vars_ok _ (hT.pf (getD_mem hi)) (by omega)
 have hrok := fun (h : GT n (nrmT t)) j hj => h.rok (j := j) hj
 have hof := fun h0 h1 => GT.of (n := n) (M := nrmT t) h0 h1
 have hfree : GT n (nrmT t) → ∀ i,i < (nrmT t).length → ∀ v ∈ keys ((nrmT t).getD i default).2,idxM (nrmT t) v = none := fun h i hi v hv => by
  obtain ⟨p,hp,rfl⟩ := List.mem_map.1 hv
  have := (h.free _ (getD_mem hi) p hp).2
  cases hx : idxM (nrmT t) p.1 with
  | none => rfl
  | some j => exact absurd (idx_some hx).2.2.2 this
 have hvl : ∀ i,i < t.length → (keys ((nrmT t).getD i default).2).length < 1099511627776 := fun i hi => by
  have := (hT.mok.sz _ (getD_mem (show i < (nrmT t).length by omega))).l
  rw [keys_len]
  omega
 clear hT
 unfold cT at *
 generalize goodB n (nrmT t) = gb at *
 generalize nrmT t = M at *
 by_cases h1 : n < 0
 ·rw [hgF fun h => by have := h.lo;omega]
  simp only [Bool.false_eq_true,if_false]
  (refine pureW Tryz.func31 rfl (rs := [Go.ResultVar.tmp 2]) rfl (n := 81) rfl ?_;simp only [List.length_cons,List.length_nil,List.replicate,List.cons_append,List.nil_append])
  (refine aUb ?_)
  ((first | refine W_seqV ?_ | refine W_seq (W_seqV ?_) | refine W_regV ?_);intro K hK;(refine sUbX h1 ?_;try exact True.intro))
  (repeat refine aI ?_);refine hK _ ?_;clear hK K
  (repeat' (first|(exfalso;simp at h;done)|refine W_block ?_ |((first|refine W_seqV fun K hK => ?_|refine W_regV fun K hK => ?_);(try (refine sUb ?_;try exact True.intro));(repeat refine aI ?_);refine hK _ ?_;clear hK K)|((first|refine W_seqR fun K hK => ?_|refine W_regR fun K hK => ?_);(try (refine sUb ?_;try exact True.intro));(repeat refine aI ?_);refine hK _ ?_;clear hK K)|((first|refine W_seqD mixed [] (by kernel_rfl) fun K hK => ?_|refine W_regD mixed [] (by kernel_rfl) fun K hK => ?_);(try (refine sUb ?_;try exact True.intro));(repeat refine aI ?_);refine hK _ ?_;clear hK K)|refine W_skip ?_|(refine W_ret ?_;(refine qG ?_;try exact True.intro))|(refine W_exit ?_;simp only [thenW,blockW,if_true,reduceCtorEq,if_false,Nat.reduceEqDiff])|(refine W_cond rfl (fun h => ?_) (fun h => ?_) <;> (try simp only [cond_true,cond_false,ne_eq,cB] at h))|refine W_seq ?_))
 by_cases h2 : 65536 < n
 ·rw [hgF fun h => by have := h.hi;omega]
  simp only [Bool.false_eq_true,if_false]
  (refine pureW Tryz.func31 rfl (rs := [Go.ResultVar.tmp 2]) rfl (n := 81) rfl ?_;simp only [List.length_cons,List.length_nil,List.replicate,List.cons_append,List.nil_append])
  (refine aUb ?_)
  ((first | refine W_seqV ?_ | refine W_seq (W_seqV ?_) | refine W_regV ?_);intro K hK;(refine sUbX (And.intro h1 h2) ?_;try exact True.intro))
  (repeat refine aI ?_);refine hK _ ?_;clear hK K
  (repeat' (first|(exfalso;simp at h;done)|refine W_block ?_ |((first|refine W_seqV fun K hK => ?_|refine W_regV fun K hK => ?_);(try (refine sUb ?_;try exact True.intro));(repeat refine aI ?_);refine hK _ ?_;clear hK K)|((first|refine W_seqR fun K hK => ?_|refine W_regR fun K hK => ?_);(try (refine sUb ?_;try exact True.intro));(repeat refine aI ?_);refine hK _ ?_;clear hK K)|((first|refine W_seqD mixed [] (by kernel_rfl) fun K hK => ?_|refine W_regD mixed [] (by kernel_rfl) fun K hK => ?_);(try (refine sUb ?_;try exact True.intro));(repeat refine aI ?_);refine hK _ ?_;clear hK K)|refine W_skip ?_|(refine W_ret ?_;(refine qG ?_;try exact True.intro))|(refine W_exit ?_;simp only [thenW,blockW,if_true,reduceCtorEq,if_false,Nat.reduceEqDiff])|(refine W_cond rfl (fun h => ?_) (fun h => ?_) <;> (try simp only [cond_true,cond_false,ne_eq,cB] at h))|refine W_seq ?_))
 (refine pureW Tryz.func31 rfl (rs := [Go.ResultVar.tmp 2]) rfl (n := 81) rfl ?_;simp only [List.length_cons,List.length_nil,List.replicate,List.cons_append,List.nil_append])
 (refine aUb ?_)
 ((first | refine W_seqV ?_ | refine W_seq (W_seqV ?_) | refine W_regV ?_);intro K hK;(refine sUbX (And.intro h1 h2) ?_;try exact True.intro))
 (repeat refine aI ?_);refine hK _ ?_;clear hK K
 (first | refine W_cf rfl ?_ | refine W_seq (W_cf rfl ?_))
 refine W_skip ?_
 simp only [thenW]
 refine W_seq ?_
 ((first | refine W_seqV ?_ | refine W_seq (W_seqV ?_) | refine W_regV ?_);intro K hK;(refine sUb ?_;try exact True.intro))
 (repeat refine aI ?_);refine hK _ ?_;clear hK K
 refine W_block (W_loop (fun s : {i : Nat // i ≤ t.length ∧ ∀ j,j < i → rowOk n M j} =>
   ⟨(.any::(.ptr 1 0 0)::.any::(.int .i64 s.1)::.any::.any::.any::.any::.any::.any::.any::.any::.any::.any::.any::.any::.any::.any::.any::.any::.any::.any::.any::.any::.any::.any::.any::.any::.any::.any::.any::.any::.any::.any::.any::.any::.any::.any::.any::.any::.any::.any::.any::.any::.any::.any::.any::.any::.any::.any::.any::.any::.any::.any::.any::.any::.any::.any::.any::.any::.any::.any::.any::.any::.any::.any::.any::.any::.any::.any::.any::.any::.any::.any::.any::.any::.any::.any::.any::.any::.any::[]),(.dead::(.arr 24 2 false [[.int .i64 n,.sl (tab rowT t)]])::.dead::.dead::.dead::.dead::.dead::.dead::.dead::.dead::.dead::.dead::.dead::.dead::.dead::.dead::.dead::.dead::.dead::.dead::.dead::.dead::.dead::.dead::.dead::.dead::.dead::.dead::.dead::.dead::.dead::.dead::.dead::.dead::.dead::.dead::.dead::.dead::.dead::.dead::.dead::.dead::.dead::.dead::.dead::.dead::.dead::.dead::.dead::.dead::.dead::.dead::.dead::.dead::.dead::.dead::.dead::.dead::.dead::.dead::.dead::.dead::.dead::.dead::.dead::.dead::.dead::.dead::.dead::.dead::.dead::.dead::.dead::.dead::.dead::.dead::.dead::.dead::.dead::.dead::.dead::[])⟩) (fun s => t.length - s.1)
   ⟨0,by omega,by omega⟩ (Le_drop (by simp [leE]) (by simp [leH]) rfl rfl) fun s => ?_)
 obtain ⟨i,hi,hpre⟩ := s
 dsimp only
 by_cases hlt : i < t.length
 ·have hti : (tab rowT t).getD i [] = rowT (t.getD i default) := tab_getD hlt
  have hbad : ¬ rowOk n M i → gb = false := fun h => hgF fun h' => h (hrok h' i (by omega))
  have hpr : rowOk n M i → ∀ j,j < i + 1 → rowOk n M j := fun h j hj => by
   by_cases hji : j = i
   ·subst hji;exact h
   ·exact hpre j (by omega)
  have hdef : rowOk n M i = (inR n (M.getD i default).1 = true ∧ idxM M (M.getD i default).1 = some i ∧ knownB n (M.getD i default).2 = true) := rfl
  have hexi : ∃ k,idxM M (M.getD i default).1 = some k := by
   obtain ⟨k,hk,_⟩ := look_idx (M := M) (b := (M.getD i default).1) (List.mem_map.2 ⟨_,getD_mem (by omega),rfl⟩)
   exact ⟨k,hk⟩
  have hki := hkn i hlt
  rw [hnd i hlt] at hdef hexi
  generalize t.getD i default = r at *
  obtain ⟨b,f⟩ := r
  simp only [rowT] at hti
  dsimp only at *
  have hib := his b
  have hrb := hro b
  obtain ⟨k,hk⟩ := hexi
  rw [rowI_some hk] at hrb
  rw [hk] at hdef
  refine W_seq ?_
  ((first | refine W_seqV ?_ | refine W_seq (W_seqV ?_) | refine W_regV ?_);intro K hK;(refine sUbX hlt ?_;try exact True.intro))
  (repeat refine aI ?_);refine hK _ ?_;clear hK K
  (first | refine W_ct rfl ?_ | refine W_seq (W_ct rfl ?_))
  refine W_skip ?_
  simp only [thenW]
  refine W_seq ?_
  refine W_block ?_
  simp only [cF] at *
  generalize inR n b = ib at *
  generalize knownB n (normF (vals f)) = kb at *
  cases ib
  ·rw [hbad (by rw [hdef];simp)]
   simp only [Bool.false_eq_true,if_false]
   ((first | refine W_seqD mixed [] (by kernel_rfl) ?_ | refine W_seq (W_seqD mixed [] (by kernel_rfl) ?_) | refine W_regD mixed [] (by kernel_rfl) ?_);intro K hK;(refine sUbX (And.intro hti hlt) ?_;try exact True.intro))
   ((repeat refine aI ?_);refine ⟨by kernel_rfl,_,.pure rfl (hib),?_⟩;(try (refine sUb ?_;try exact True.intro));(repeat refine aI ?_))
   (repeat refine aI ?_);refine hK _ ?_;clear hK K
   (repeat' (first|(exfalso;simp at h;done)|refine W_block ?_ |((first|refine W_seqV fun K hK => ?_|refine W_regV fun K hK => ?_);(try (refine sUb ?_;try exact True.intro));(repeat refine aI ?_);refine hK _ ?_;clear hK K)|((first|refine W_seqR fun K hK => ?_|refine W_regR fun K hK => ?_);(try (refine sUb ?_;try exact True.intro));(repeat refine aI ?_);refine hK _ ?_;clear hK K)|((first|refine W_seqD mixed [] (by kernel_rfl) fun K hK => ?_|refine W_regD mixed [] (by kernel_rfl) fun K hK => ?_);(try (refine sUb ?_;try exact True.intro));(repeat refine aI ?_);refine hK _ ?_;clear hK K)|refine W_skip ?_|(refine W_ret ?_;(refine qG ?_;try exact True.intro))|(refine W_exit ?_;simp only [thenW,blockW,if_true,reduceCtorEq,if_false,Nat.reduceEqDiff])|(refine W_cond rfl (fun h => ?_) (fun h => ?_) <;> (try simp only [cond_true,cond_false,ne_eq,cB] at h))|refine W_seq ?_))
  by_cases hki2 : k = i
  ·have hnb : ((k : Int) != (i : Int)) = false := by simp [hki2]
   cases kb
   ·rw [hbad (by rw [hdef];simp)]
    simp only [Bool.false_eq_true,if_false]
    ((first | refine W_seqD mixed [] (by kernel_rfl) ?_ | refine W_seq (W_seqD mixed [] (by kernel_rfl) ?_) | refine W_regD mixed [] (by kernel_rfl) ?_);intro K hK;(refine sUbX (And.intro hti hlt) ?_;try exact True.intro))
    ((repeat refine aI ?_);refine ⟨by kernel_rfl,_,.pure rfl (hib),?_⟩;(try (refine sUb ?_;try exact True.intro));(repeat refine aI ?_))
    (refine sUbX (And.intro hti hlt) ?_;try exact True.intro)
    ((repeat refine aI ?_);refine ⟨by kernel_rfl,_,.pure rfl (hrb),?_⟩;(try (refine sUb ?_;try exact True.intro));(repeat refine aI ?_))
    rw [hnb]
    (refine sUbX (And.intro hti hlt) ?_;try exact True.intro)
    ((repeat refine aI ?_);refine ⟨by kernel_rfl,_,.pure rfl (hki),?_⟩;(try (refine sUb ?_;try exact True.intro));(repeat refine aI ?_))
    (repeat refine aI ?_);refine hK _ ?_;clear hK K
    (repeat' (first|(exfalso;simp at h;done)|refine W_block ?_ |((first|refine W_seqV fun K hK => ?_|refine W_regV fun K hK => ?_);(try (refine sUb ?_;try exact True.intro));(repeat refine aI ?_);refine hK _ ?_;clear hK K)|((first|refine W_seqR fun K hK => ?_|refine W_regR fun K hK => ?_);(try (refine sUb ?_;try exact True.intro));(repeat refine aI ?_);refine hK _ ?_;clear hK K)|((first|refine W_seqD mixed [] (by kernel_rfl) fun K hK => ?_|refine W_regD mixed [] (by kernel_rfl) fun K hK => ?_);(try (refine sUb ?_;try exact True.intro));(repeat refine aI ?_);refine hK _ ?_;clear hK K)|refine W_skip ?_|(refine W_ret ?_;(refine qG ?_;try exact True.intro))|(refine W_exit ?_;simp only [thenW,blockW,if_true,reduceCtorEq,if_false,Nat.reduceEqDiff])|(refine W_cond rfl (fun h => ?_) (fun h => ?_) <;> (try simp only [cond_true,cond_false,ne_eq,cB] at h))|refine W_seq ?_))
   ·((first | refine W_seqD mixed [] (by kernel_rfl) ?_ | refine W_seq (W_seqD mixed [] (by kernel_rfl) ?_) | refine W_regD mixed [] (by kernel_rfl) ?_);intro K hK;(refine sUbX (And.intro hti hlt) ?_;try exact True.intro))
    ((repeat refine aI ?_);refine ⟨by kernel_rfl,_,.pure rfl (hib),?_⟩;(try (refine sUb ?_;try exact True.intro));(repeat refine aI ?_))
    (refine sUbX (And.intro hti hlt) ?_;try exact True.intro)
    ((repeat refine aI ?_);refine ⟨by kernel_rfl,_,.pure rfl (hrb),?_⟩;(try (refine sUb ?_;try exact True.intro));(repeat refine aI ?_))
    rw [hnb]
    (refine sUbX (And.intro hti hlt) ?_;try exact True.intro)
    ((repeat refine aI ?_);refine ⟨by kernel_rfl,_,.pure rfl (hki),?_⟩;(try (refine sUb ?_;try exact True.intro));(repeat refine aI ?_))
    (repeat refine aI ?_);refine hK _ ?_;clear hK K
    (first | refine W_cf rfl ?_ | refine W_seq (W_cf rfl ?_))
    refine W_skip ?_
    simp only [thenW,blockW]
    ((first | refine W_seqV ?_ | refine W_seq (W_seqV ?_) | refine W_regV ?_);intro K hK;(refine sUb ?_;try exact True.intro))
    (repeat refine aI ?_);refine hK _ ?_;clear hK K
    simp only [blockW,thenW]
    refine ⟨⟨i + 1,by omega,hpr (by rw [hdef];simp [hki2])⟩,Le_drop (by simp [leE]) (by simp [leH]) rfl rfl,?_⟩
    dsimp only
    omega
  ·have hnb : ((k : Int) != (i : Int)) = true := by simp;omega
   rw [hbad (by rw [hdef];simp;intro h;exact absurd h hki2)]
   simp only [Bool.false_eq_true,if_false]
   ((first | refine W_seqD mixed [] (by kernel_rfl) ?_ | refine W_seq (W_seqD mixed [] (by kernel_rfl) ?_) | refine W_regD mixed [] (by kernel_rfl) ?_);intro K hK;(refine sUbX (And.intro hti hlt) ?_;try exact True.intro))
   ((repeat refine aI ?_);refine ⟨by kernel_rfl,_,.pure rfl (hib),?_⟩;(try (refine sUb ?_;try exact True.intro));(repeat refine aI ?_))
   (refine sUbX (And.intro hti hlt) ?_;try exact True.intro)
   ((repeat refine aI ?_);refine ⟨by kernel_rfl,_,.pure rfl (hrb),?_⟩;(try (refine sUb ?_;try exact True.intro));(repeat refine aI ?_))
   rw [hnb]
   (refine sUbX (And.intro hti hlt) ?_;try exact True.intro)
   (repeat refine aI ?_);refine hK _ ?_;clear hK K
   (repeat' (first|(exfalso;simp at h;done)|refine W_block ?_ |((first|refine W_seqV fun K hK => ?_|refine W_regV fun K hK => ?_);(try (refine sUb ?_;try exact True.intro));(repeat refine aI ?_);refine hK _ ?_;clear hK K)|((first|refine W_seqR fun K hK => ?_|refine W_regR fun K hK => ?_);(try (refine sUb ?_;try exact True.intro));(repeat refine aI ?_);refine hK _ ?_;clear hK K)|((first|refine W_seqD mixed [] (by kernel_rfl) fun K hK => ?_|refine W_regD mixed [] (by kernel_rfl) fun K hK => ?_);(try (refine sUb ?_;try exact True.intro));(repeat refine aI ?_);refine hK _ ?_;clear hK K)|refine W_skip ?_|(refine W_ret ?_;(refine qG ?_;try exact True.intro))|(refine W_exit ?_;simp only [thenW,blockW,if_true,reduceCtorEq,if_false,Nat.reduceEqDiff])|(refine W_cond rfl (fun h => ?_) (fun h => ?_) <;> (try simp only [cond_true,cond_false,ne_eq,cB] at h))|refine W_seq ?_))
 ·obtain rfl : i = t.length := by omega
  refine W_seq ?_
  ((first | refine W_seqV ?_ | refine W_seq (W_seqV ?_) | refine W_regV ?_);intro K hK;(refine sUb ?_;try exact True.intro))
  (repeat refine aI ?_);refine hK _ ?_;clear hK K
  (first | refine W_cf rfl ?_ | refine W_seq (W_cf rfl ?_))
  refine W_exit ?_
  simp only [thenW,blockW,if_true]
  refine W_seq ?_
  ((first | refine W_seqV ?_ | refine W_seq (W_seqV ?_) | refine W_regV ?_);intro K hK;(refine sUb ?_;try exact True.intro))
  (repeat refine aI ?_);refine hK _ ?_;clear hK K
  refine W_block (W_loop (fun s : {i : Nat // i ≤ t.length ∧ ∀ j,j < i → ∀ v ∈ keys (M.getD j default).2,idxM M v = none} =>
   ⟨(.any::(.ptr 1 0 0)::.any::.any::(.int .i64 s.1)::.any::.any::.any::.any::.any::.any::.any::.any::.any::.any::.any::.any::.any::.any::.any::.any::.any::.any::.any::.any::.any::.any::.any::.any::.any::.any::.any::.any::.any::.any::.any::.any::.any::.any::.any::.any::.any::.any::.any::.any::.any::.any::.any::.any::.any::.any::.any::.any::.any::.any::.any::.any::.any::.any::.any::.any::.any::.any::.any::.any::.any::.any::.any::.any::.any::.any::.any::.any::.any::.any::.any::.any::.any::.any::.any::.any::[]),(.dead::(.arr 24 2 false [[.int .i64 n,.sl (tab rowT t)]])::.dead::.dead::.dead::.dead::.dead::.dead::.dead::.dead::.dead::.dead::.dead::.dead::.dead::.dead::.dead::.dead::.dead::.dead::.dead::.dead::.dead::.dead::.dead::.dead::.dead::.dead::.dead::.dead::.dead::.dead::.dead::.dead::.dead::.dead::.dead::.dead::.dead::.dead::.dead::.dead::.dead::.dead::.dead::.dead::.dead::.dead::.dead::.dead::.dead::.dead::.dead::.dead::.dead::.dead::.dead::.dead::.dead::.dead::.dead::.dead::.dead::.dead::.dead::.dead::.dead::.dead::.dead::.dead::.dead::.dead::.dead::.dead::.dead::.dead::.dead::.dead::.dead::.dead::.dead::[])⟩) (fun s => t.length - s.1)
   ⟨0,by omega,by omega⟩ (Le_drop (by simp [leE]) (by simp [leH]) rfl rfl) fun s => ?_)
  obtain ⟨i,hi,hpr2⟩ := s
  dsimp only
  by_cases hlt : i < t.length
  ·have hti : (tab rowT t).getD i [] = rowT (t.getD i default) := tab_getD hlt
   have hnx : (∀ v ∈ keys (M.getD i default).2,idxM M v = none) → ∀ j,j < i + 1 → ∀ v ∈ keys (M.getD j default).2,idxM M v = none := fun h j hj => by
    by_cases hji : j = i
    ·subst hji;exact h
    ·exact hpr2 j (by omega)
   have hbad : ∀ v ∈ keys (M.getD i default).2,idxM M v ≠ none → gb = false := fun v hv h => hgF fun h' => h (hfree h' i (by omega) v hv)
   have hvi := hva i hlt
   have hvll := hvl i hlt
   rw [hnd i hlt] at hnx hbad hvll
   generalize t.getD i default = r at *
   obtain ⟨b,f⟩ := r
   simp only [rowT] at hti
   dsimp only at *
   simp only [cF] at *
   generalize keys (normF (vals f)) = V at *
   refine W_seq ?_
   ((first | refine W_seqV ?_ | refine W_seq (W_seqV ?_) | refine W_regV ?_);intro K hK;(refine sUbX hlt ?_;try exact True.intro))
   (repeat refine aI ?_);refine hK _ ?_;clear hK K
   (first | refine W_ct rfl ?_ | refine W_seq (W_ct rfl ?_))
   refine W_skip ?_
   simp only [thenW]
   refine W_seq ?_
   refine W_block ?_
   ((first | refine W_seqV ?_ | refine W_seq (W_seqV ?_) | refine W_regV ?_);intro K hK;(refine sUbX (And.intro hti hlt) ?_;try exact True.intro))
   ((repeat refine aI ?_);refine ⟨by kernel_rfl,_,.pure rfl (hvi),?_⟩;(try (refine sUb ?_;try exact True.intro));(repeat refine aI ?_))
   (repeat refine aI ?_);refine hK _ ?_;clear hK K
   refine W_seq ?_
   ((first | refine W_seqV ?_ | refine W_seq (W_seqV ?_) | refine W_regV ?_);intro K hK;(refine sUb ?_;try exact True.intro))
   (repeat refine aI ?_);refine hK _ ?_;clear hK K
   refine W_block (W_loop (fun s : {k : Nat // k ≤ V.length ∧ ∀ j,j < k → idxM M (V.getD j 0) = none} =>
    ⟨(.any::(.ptr 1 0 0)::.any::.any::(.int .i64 i)::(.sl (i64s V))::(.int .i64 s.1)::.any::.any::.any::.any::.any::.any::.any::.any::.any::.any::.any::.any::.any::.any::.any::.any::.any::.any::.any::.any::.any::.any::.any::.any::.any::.any::.any::.any::.any::.any::.any::.any::.any::.any::.any::.any::.any::.any::.any::.any::.any::.any::.any::.any::.any::.any::.any::.any::.any::.any::.any::.any::.any::.any::.any::.any::.any::.any::.any::.any::.any::.any::.any::.any::.any::.any::.any::.any::.any::.any::.any::.any::.any::.any::[]),(.dead::(.arr 24 2 false [[.int .i64 n,.sl (tab rowT t)]])::.dead::.dead::.dead::.dead::.dead::.dead::.dead::.dead::.dead::.dead::.dead::.dead::.dead::.dead::.dead::.dead::.dead::.dead::.dead::.dead::.dead::.dead::.dead::.dead::.dead::.dead::.dead::.dead::.dead::.dead::.dead::.dead::.dead::.dead::.dead::.dead::.dead::.dead::.dead::.dead::.dead::.dead::.dead::.dead::.dead::.dead::.dead::.dead::.dead::.dead::.dead::.dead::.dead::.dead::.dead::.dead::.dead::.dead::.dead::.dead::.dead::.dead::.dead::.dead::.dead::.dead::.dead::.dead::.dead::.dead::.dead::.dead::.dead::.dead::.dead::.dead::.dead::.dead::.dead::[])⟩) (fun s => V.length - s.1)
    ⟨0,by omega,by omega⟩ (Le_drop (by simp [leE]) (by simp [leH]) rfl rfl) fun s => ?_)
   obtain ⟨k,hk,hpr3⟩ := s
   dsimp only
   by_cases hlk : k < V.length
   ·have hvm : V.getD k 0 ∈ V := by simp [List.getD_eq_getElem?_getD,hlk]
    have hbk := hbad _ hvm
    have hnk : idxM M (V.getD k 0) = none → ∀ j,j < k + 1 → idxM M (V.getD j 0) = none := fun h j hj => by
     by_cases hji : j = k
     ·subst hji;exact h
     ·exact hpr3 j (by omega)
    generalize hv : V.getD k 0 = v at *
    have hrv := hro v
    refine W_seq ?_
    ((first | refine W_seqV ?_ | refine W_seq (W_seqV ?_) | refine W_regV ?_);intro K hK;(refine sUbX hlk ?_;try exact True.intro))
    (repeat refine aI ?_);refine hK _ ?_;clear hK K
    (first | refine W_ct rfl ?_ | refine W_seq (W_ct rfl ?_))
    refine W_skip ?_
    simp only [thenW]
    refine W_seq ?_
    refine W_block ?_
    cases hx : idxM M v with
    | some j =>
     rw [hbk (by rw [hx];simp)]
     rw [rowI_some hx] at hrv
     simp only [Bool.false_eq_true,if_false]
     ((first | refine W_seqD mixed [] (by kernel_rfl) ?_ | refine W_seq (W_seqD mixed [] (by kernel_rfl) ?_) | refine W_regD mixed [] (by kernel_rfl) ?_);intro K hK;(refine sUbX (And.intro hv hlk) ?_;try exact True.intro))
     ((repeat refine aI ?_);refine ⟨by kernel_rfl,_,.pure rfl (hrv),?_⟩;(try (refine sUb ?_;try exact True.intro));(repeat refine aI ?_))
     (repeat refine aI ?_);refine hK _ ?_;clear hK K
     (repeat' (first|(exfalso;simp at h;done)|refine W_block ?_ |((first|refine W_seqV fun K hK => ?_|refine W_regV fun K hK => ?_);(try (refine sUb ?_;try exact True.intro));(repeat refine aI ?_);refine hK _ ?_;clear hK K)|((first|refine W_seqR fun K hK => ?_|refine W_regR fun K hK => ?_);(try (refine sUb ?_;try exact True.intro));(repeat refine aI ?_);refine hK _ ?_;clear hK K)|((first|refine W_seqD mixed [] (by kernel_rfl) fun K hK => ?_|refine W_regD mixed [] (by kernel_rfl) fun K hK => ?_);(try (refine sUb ?_;try exact True.intro));(repeat refine aI ?_);refine hK _ ?_;clear hK K)|refine W_skip ?_|(refine W_ret ?_;(refine qG ?_;try exact True.intro))|(refine W_exit ?_;simp only [thenW,blockW,if_true,reduceCtorEq,if_false,Nat.reduceEqDiff])|(refine W_cond rfl (fun h => ?_) (fun h => ?_) <;> (try simp only [cond_true,cond_false,ne_eq,cB] at h))|refine W_seq ?_))
    | none =>
     rw [rowI_none hx] at hrv
     ((first | refine W_seqD mixed [] (by kernel_rfl) ?_ | refine W_seq (W_seqD mixed [] (by kernel_rfl) ?_) | refine W_regD mixed [] (by kernel_rfl) ?_);intro K hK;(refine sUbX (And.intro hv hlk) ?_;try exact True.intro))
     ((repeat refine aI ?_);refine ⟨by kernel_rfl,_,.pure rfl (hrv),?_⟩;(try (refine sUb ?_;try exact True.intro));(repeat refine aI ?_))
     (repeat refine aI ?_);refine hK _ ?_;clear hK K
     (first | refine W_cf rfl ?_ | refine W_seq (W_cf rfl ?_))
     refine W_skip ?_
     simp only [thenW,blockW]
     ((first | refine W_seqV ?_ | refine W_seq (W_seqV ?_) | refine W_regV ?_);intro K hK;(refine sUb ?_;try exact True.intro))
     (repeat refine aI ?_);refine hK _ ?_;clear hK K
     simp only [blockW,thenW]
     refine ⟨⟨k + 1,by omega,hnk hx⟩,Le_drop (by simp [leE]) (by simp [leH]) rfl rfl,?_⟩
     dsimp only
     omega
   ·obtain rfl : k = V.length := by omega
    refine W_seq ?_
    ((first | refine W_seqV ?_ | refine W_seq (W_seqV ?_) | refine W_regV ?_);intro K hK;(refine sUb ?_;try exact True.intro))
    (repeat refine aI ?_);refine hK _ ?_;clear hK K
    (first | refine W_cf rfl ?_ | refine W_seq (W_cf rfl ?_))
    refine W_exit ?_
    simp only [thenW,blockW,if_true]
    ((first | refine W_seqV ?_ | refine W_seq (W_seqV ?_) | refine W_regV ?_);intro K hK;(refine sUb ?_;try exact True.intro))
    (repeat refine aI ?_);refine hK _ ?_;clear hK K
    simp only [thenW,blockW]
    refine ⟨⟨i + 1,by omega,hnx fun v hv => ?_⟩,Le_drop (by simp [leE]) (by simp [leH]) rfl rfl,?_⟩
    ·obtain ⟨j,hj,rfl⟩ := List.getElem_of_mem hv
     have := hpr3 j hj
     rwa [show V.getD j 0 = V[j] by simp [List.getD_eq_getElem?_getD,hj]] at this
    ·dsimp only
     omega
  ·obtain rfl : i = t.length := by omega
   have hG : GT n M := hof (by omega) (by omega) (fun j hj => hpre j (by omega)) fun j hj p hp => hpr2 j (by omega) p.1 (List.mem_map.2 ⟨p,hp,rfl⟩)
   rw [hgT hG]
   refine W_seq ?_
   ((first | refine W_seqV ?_ | refine W_seq (W_seqV ?_) | refine W_regV ?_);intro K hK;(refine sUb ?_;try exact True.intro))
   (repeat refine aI ?_);refine hK _ ?_;clear hK K
   (first | refine W_cf rfl ?_ | refine W_seq (W_cf rfl ?_))
   refine W_exit ?_
   simp only [thenW,blockW,if_true]
   (repeat' (first|(exfalso;simp at h;done)|refine W_block ?_ |((first|refine W_seqV fun K hK => ?_|refine W_regV fun K hK => ?_);(try (refine sUb ?_;try exact True.intro));(repeat refine aI ?_);refine hK _ ?_;clear hK K)|((first|refine W_seqR fun K hK => ?_|refine W_regR fun K hK => ?_);(try (refine sUb ?_;try exact True.intro));(repeat refine aI ?_);refine hK _ ?_;clear hK K)|((first|refine W_seqD mixed [] (by kernel_rfl) fun K hK => ?_|refine W_regD mixed [] (by kernel_rfl) fun K hK => ?_);(try (refine sUb ?_;try exact True.intro));(repeat refine aI ?_);refine hK _ ?_;clear hK K)|refine W_skip ?_|(refine W_ret ?_;(refine qG ?_;try exact True.intro))|(refine W_exit ?_;simp only [thenW,blockW,if_true,reduceCtorEq,if_false,Nat.reduceEqDiff])|(refine W_cond rfl (fun h => ?_) (fun h => ?_) <;> (try simp only [cond_true,cond_false,ne_eq,cB] at h))|refine W_seq ?_))
end Go.Proofs.YtjmpajgjaefcjaaGreat.Vm
namespace Go.Proofs.YtjmpajgjaefcjaaGreat.Vm
open Go Go.RowKit
set_option linter.unusedVariables false
set_option linter.unusedSimpArgs false
def NewSV (base : Nat) (w : World) (F : Nat → Prop) (T : TypeId) (k : Nat) (pre : List AV) (rows : List (List AV)) (v : Value) : Prop :=
 ∃ vs x,v = .agg (vs ++ [x]).toArray ∧ Rps w F noPl pre vs ∧ NewA base w F T k rows x
def NewS (P : Program) (g : FuncId) (args : List AV) (T : TypeId) (k : Nat) (pre : List AV) (R : List (List AV) → Prop) : Prop :=
 pre.all AV.flat = true ∧ ∀ (w : World) (vals : List Value) (F : Nat → Prop),(∀ k,F k → k < w.heap.size) → Rps w F noPl args vals →
  Calls P g vals.toArray w fun e w' => ∃ v rows,e = .returned v ∧ R rows ∧ Below w.heap.size w w' ∧ NewSV w.heap.size w' F T k pre rows v
theorem flats_any {w w' : World} {A A' : Nat → Prop} {ρ ρ' : Pl} : ∀ (l : List AV) {vs : List Value},l.all AV.flat = true → Rps w A ρ l vs → Rps w' A' ρ' l vs
 | [],_,_,h => by simpa only [Rps] using h
 | x::l,vs,hf,h => by
  simp only [List.all_cons,Bool.and_eq_true] at hf
  simp only [Rps] at h ⊢
  obtain ⟨v,us,h1,h2,h3⟩ := h
  exact ⟨v,us,h1,flat_any x hf.1 h2,flats_any l hf.2 h3⟩
def newSK (T : TypeId) (k : Nat) (pre : List AV) (R : List (List AV) → Prop) (hp : List Ob) : AV → Prop
 | .agg cells => ∃ x,cells = pre ++ [x] ∧ newK T k R hp x
 | _ => False
def newSQ (P : Program) (rs : List ResultVar) (T : TypeId) (k : Nat) (pre : List AV) (R : List (List AV) → Prop) : Exit → St → Prop
 | .normal,s => resW P s rs fun xs => newSK T k pre R s.hp (asOne xs)
 | .ret,s => resW P s rs fun xs => newSK T k pre R s.hp (asOne xs)
 | _,_ => False
theorem newK_A {fr : Fr} {ρ : Pl} {s : St} {a : Act} {w : World} (hr : Rep fr ρ s a w) (hpins : fr.pins = []) {T : TypeId} {k : Nat} {R : List (List AV) → Prop} {x : AV} {v : Value} (h1 : newK T k R s.hp x) (h3 : Rp w (Av fr.F ρ) ρ x v) :
  ∃ rows,R rows ∧ NewA fr.base w fr.F T k rows v := by
 cases x with
 | nils =>
  simp only [Rp] at h3
  exact ⟨[],h1,.inl ⟨h3,rfl⟩⟩
 | sref i off n =>
  obtain ⟨rows,rfl,rfl,hi,hR⟩ := h1
  have ho := hr.heap i
  rw [show s.hp.getD i .dead = .arr T k true rows by simp [List.getD_eq_getElem?_getD,hi]] at ho
  simp only [Rp] at h3
  rcases h3 with ⟨g1,g2,g3,g4⟩ | ⟨b,s',cap,len,x,g1,g2,g3,g4⟩
  ·exact ⟨rows,hR,.inl ⟨g4,List.eq_nil_of_length_eq_zero g3⟩⟩
  ·rw [g1] at ho
   obtain ⟨e1,e2,vss,rest,e3,e4,e5⟩ := ho
   subst e1
   have hx0 := g4 (.inr trivial)
   rw [Nat.zero_mul] at hx0
   subst hx0
   refine ⟨rows,hR,.inr ⟨b,cap,?_,by rw [g3,Nat.sub_zero],vss,rest,e3,?_,e5⟩⟩
   ·rcases hr.mine i _ b g1 rfl with h4 | h4
    ·exact h4
    ·exact absurd h4.1 (by simp [hpins])
   ·exact RpR.later (ρ := noPl) _ ⟨Nat.le_refl _,fun c _ hc => by
     rcases hc with hc | rfl
     ·exact .inl hc
     ·exact .inr ⟨i,_,g1,rfl⟩,fun _ _ _ => rfl,fun _ _ h => h⟩ e4
 | _ => exact h1.elim
theorem newS_of_W {P : Program} {g : FuncId} {fn : Func} {c : Code} {args : List AV} {T : TypeId} {k : Nat} {pre : List AV} {R : List (List AV) → Prop} (hf : P.funcs[g]? = some fn) (hb : fn.body = some c) {rs : List ResultVar} (hrs : fn.results.toList = rs) {nt : Nat} (hn : fn.ntmps = nt) (hpre : pre.all AV.flat = true)
  (h : W P [] c (newSQ P rs T k pre R) ⟨args ++ List.replicate (nt - args.length) .und,List.replicate nt .dead⟩) : NewS P g args T k pre R := by
 subst hrs;subst hn
 refine ⟨hpre,fun w vals F hF hv => ?_⟩
 have hlen := hv.length
 refine calls_of_wp hf hb ?_
 let fr : Fr := ⟨w.heap.size,w,F,fun _ => False,[],noPl,fun _ _ h => h⟩
 have hA : Av F noPl = F := by
  funext k
  simp [Av,noPl]
 have hrep : Rep fr noPl ⟨args ++ List.replicate (fn.ntmps - args.length) .und,List.replicate fn.ntmps .dead⟩ { tmps := vals.toArray ++ Array.replicate (fn.ntmps - vals.toArray.size) undef,defers := [] } w := by
  refine { keep := ⟨rfl,rfl,rfl,Nat.le_refl _,fun _ _ _ => rfl⟩,base := Nat.le_refl _,defers := rfl,heap := fun i => ?_,inj := (fun i j p q b hi => by cases hi),mine := (fun i p b hi => by cases hi),fF := hF,pin := (fun i hi => by cases hi),env := ?_ }
  ·show HRo _ _ _ ((List.replicate fn.ntmps Ob.dead).getD i .dead) _
   rw [show (List.replicate fn.ntmps Ob.dead).getD i .dead = .dead by
    rw [List.getD_eq_getElem?_getD,List.getElem?_replicate];split <;> rfl]
   rfl
  ·show Rps w (Av F noPl) noPl _ _
   rw [hA]
   have h1 : (vals.toArray ++ Array.replicate (fn.ntmps - vals.toArray.size) undef).toList = vals ++ List.replicate (fn.ntmps - args.length) undef := by
    simp [hlen]
   rw [h1]
   refine hv.append (Rps.mk (by simp) fun i x v hx hv => ?_)
   rw [List.getElem?_replicate] at hx hv
   split at hx
   ·rename_i hi;rw [if_pos hi] at hv;cases hx;cases hv;simp only [Rp]
   ·cases hx
 refine Code.wp_mono (fun e a' w' he => ?_) (h fr noPl _ w rfl hrep)
 obtain ⟨s,ρ,hq,hr⟩ := he
 have fin : resW P s fn.results.toList (fun xs => newSK T k pre R s.hp (asOne xs)) → a'.defers = [] ∧ ∃ v,(results fn a'.tmps).run P w' = .ok v w' ∧ ∃ v2 rows,Ending.returned v = .returned v2 ∧ R rows ∧ Below w.heap.size w w' ∧ NewSV w.heap.size w' F T k pre rows v2 := by
  intro hk
  obtain ⟨xs,v,h1,h2,h3⟩ := results_sound hr fn hk
  have hbel : Below w.heap.size w w' := ⟨hr.keep.os,hr.keep.tape,hr.keep.output,hr.keep.size,fun k hk => hr.keep.block k hk (fun h => h)⟩
  refine ⟨hr.defers,v,h2,?_⟩
  cases hx : asOne xs with
  | agg cells =>
   rw [hx] at h1 h3
   obtain ⟨x,rfl,hkx⟩ := h1
   simp only [Rp] at h3
   obtain ⟨vs0,rfl,h4⟩ := h3
   obtain ⟨vs,us,rfl,h5,h6⟩ := h4.of_append
   simp only [Rps] at h6
   obtain ⟨y,_,rfl,h7,rfl⟩ := h6
   obtain ⟨rows,hR,hN⟩ := newK_A hr rfl hkx h7
   exact ⟨_,rows,rfl,hR,hbel,vs,y,rfl,flats_any _ hpre h5,hN⟩
  | _ => rw [hx] at h1;exact h1.elim
 cases e with
 | normal => exact fin hq
 | ret => exact fin hq
 | _ => exact hq.elim
theorem NewS.pure {P : Program} {g : FuncId} {args : List AV} {T : TypeId} {k : Nat} {pre : List AV} {R : List (List AV) → Prop} (h : NewS P g args T k pre R) : Pure P g args (fun r => ∃ rows,R rows ∧ r = .agg (pre ++ [.sl rows])) := by
 intro w vals F hF hv
 refine (h.2 w vals F hF hv).mono fun e w' he => ?_
 obtain ⟨v,rows,h1,h2,h3,vs,x,rfl,h5,h4⟩ := he
 refine ⟨_,_,h1,⟨rows,h2,rfl⟩,h3,?_⟩
 simp only [Rp]
 refine ⟨_,rfl,h5.append ?_⟩
 simp only [Rps,Rp]
 refine ⟨_,_,rfl,?_,rfl⟩
 rcases h4 with ⟨rfl,rfl⟩ | ⟨b,cap,hb,rfl,vss,rest,e1,e2,e3,e4,e5,e6⟩
 ·exact ⟨none,0,by simp,by simp,by simp [maxLen],.inl rfl⟩
 ·refine ⟨_,cap,rfl,e5,e6,.inr ⟨b,0,vss,rfl,fun hFb => ?_,(Array.getElem?_eq_some_iff.1 e1).1,?_,RpR.later (ρ := noPl) _ ⟨Nat.le_refl _,fun c _ hc => .inl hc,fun _ _ _ => rfl,fun _ _ h => h⟩ e2⟩⟩
  ·have := hF b hFb
   omega
  ·intro j u hj
   have h5 := (List.getElem?_eq_some_iff.1 hj).1
   simp only [World.cell?,Nat.zero_add]
   rw [e1]
   simp [List.getElem?_append_left h5,hj]
end Go.Proofs.YtjmpajgjaefcjaaGreat.Vm
/-
  The reference's tableaus: the rows by rising variables.
-/
namespace Go.Proofs.YtjmpajgjaefcjaaGreat.Vm
open Go Go.RowKit
set_option maxRecDepth 100000
set_option linter.unusedVariables false
set_option linter.unusedSimpArgs false
theorem sUc {G G' : Prop} (h : G') (e : G = G' := by conv => lhs; simp (disch := omega) only [rowsOf, cNat, cN, St.ret, St.seth, Eff.app, Eff.wi, sepL, guardOf, St.known, objOf, List.set, sliceW, litW, copyW, lenOf, bnd, mxOk, ofCells, TI.isAgg, cellsOf, storable, AV.one, dead, laid, overlay, reduceCtorEq, Int.reduceLE, Int.reduceLT, Int.reduceSub, Int.reduceAdd, Nat.reduceMul, Int.reduceToNat, Nat.reducePow, Int.reduceNeg, Nat.reduceAdd, Nat.reduceLT, Nat.reduceLeDiff, sA, sB, Nat.reduceEqDiff, cQ, rowQ, rowU, rowT, rowM, i64s_getD, i64s_length, i64s_all, tab_length, tab_drop, tab_take, tab_append, tab_nil, rowT_all, rowT_one, rowT_pure, rowU_all, rowU_one, rowU_pure, rowQ_all, rowQ_one, rowQ_pure, rowM_all, rowM_one, rowM_pure, List.take_length, List.length_append, sT]) : G := e.mpr h
theorem sUcX {G G' P : Prop} (p : P) (h : G') (e : P → G = G' := by intro p; conv => lhs; simp (disch := omega) only [rowsOf, cNat, cN, St.ret, St.seth, Eff.app, Eff.wi, sepL, guardOf, St.known, objOf, List.set, sliceW, litW, copyW, lenOf, bnd, mxOk, ofCells, TI.isAgg, cellsOf, storable, AV.one, dead, laid, overlay, reduceCtorEq, Int.reduceLE, Int.reduceLT, Int.reduceSub, Int.reduceAdd, Nat.reduceMul, Int.reduceToNat, Nat.reducePow, Int.reduceNeg, Nat.reduceAdd, Nat.reduceLT, Nat.reduceLeDiff, sA, sB, Nat.reduceEqDiff, cQ, rowQ, rowU, rowT, rowM, i64s_getD, i64s_length, i64s_all, tab_length, tab_drop, tab_take, tab_append, tab_nil, rowT_all, rowT_one, rowT_pure, rowU_all, rowU_one, rowU_pure, rowQ_all, rowQ_one, rowQ_pure, rowM_all, rowM_one, rowM_pure, List.take_length, List.length_append, sT, p]) : G := (e p).mpr h
theorem aUc {G G' : Prop} (h : G') (f : Wr G' → G := by intro h; (repeat (first | (refine W_seqV fun K hK => ?_; (try (refine sUc ?_; try exact True.intro)); (repeat refine aI ?_); refine hK _ ?_; clear hK K) | (refine W_seqR fun K hK => ?_; (try (refine sUc ?_; try exact True.intro)); (repeat refine aI ?_); refine hK _ ?_; clear hK K) | (refine W_seqD mixed [] (by kernel_rfl) fun K hK => ?_; (try (refine sUc ?_; try exact True.intro)); (repeat refine aI ?_); refine hK _ ?_; clear hK K))); exact h.out) : G := f ⟨h⟩

def lastK (l : List Int) (k : Nat) : Int := if k = 0 then -1 else l.getD (k - 1) 0
theorem lastK_succ (l : List Int) (k : Nat) : lastK l (k + 1) = l.getD k 0 := by simp [lastK]
theorem next_least {l : List Int} (hl : l.Pairwise (· < ·)) (h0 : ∀ x ∈ l, 0 ≤ x) {k : Nat} (hk : k < l.length) : lastK l k < l.getD k 0 ∧ ∀ x ∈ l, lastK l k < x → l.getD k 0 ≤ x := by
  rw [List.pairwise_iff_getElem] at hl
  have hg : ∀ i (h : i < l.length), l.getD i 0 = l[i] := fun i h => by simp [List.getD_eq_getElem?_getD, h]
  unfold lastK
  rw [hg k hk]
  constructor
  · split
    · have := h0 l[k] (List.getElem_mem hk); omega
    · rw [hg (k - 1) (by omega)]
      exact hl (k - 1) k (by omega) hk (by omega)
  · intro x hx hlt
    obtain ⟨j, hj, rfl⟩ := List.getElem_of_mem hx
    by_cases hjk : j < k
    · exfalso
      rw [if_neg (by omega), hg (k - 1) (by omega)] at hlt
      by_cases h1 : j = k - 1
      · subst h1; omega
      · have := hl j (k - 1) hj (by omega) (by omega)
        omega
    · by_cases h1 : j = k
      · subst h1; omega
      · have := hl k j hk hj (by omega)
        omega
/-- The least of the first i that is above last: where it stands. -/
def Least (M : TM) (last : Int) (i : Nat) (a : Int) : Prop := (a = -1 ∧ ∀ j, j < i → (M.getD j default).1 ≤ last) ∨ ∃ m : Nat, a = (m : Int) ∧ m < i ∧ last < (M.getD m default).1 ∧ ∀ j, j < i → last < (M.getD j default).1 → (M.getD m default).1 ≤ (M.getD j default).1
set_option maxHeartbeats 4000000 in
theorem r7sorted_new (n : Int) (t : TR) (hT : TOk t) (hnod : (keys (nrmT t)).Nodup) (hpos : ∀ b ∈ keys (nrmT t), 0 ≤ b) : NewS Tryz.prog 64 [cT n t] 84 2 [.int .i64 n] (· = tab rowU (sortM (nrmT t))) := by
  have hml := nrmT_len t
  have hlen := hT.len
  have hnd := fun i (hi : i < t.length) => nrmT_getD hi
  have hno : ∀ i, i < t.length → Pure Tryz.prog 86 [cF (t.getD i default).2] (· = cL (normF (vals (t.getD i default).2))) := fun i hi => f6norm_ok _ (hT.pf (getD_mem hi)) (by omega)
  have hll : (sortK (keys (nrmT t))).length = t.length := by rw [sortK_len, keys_len, hml]
  have hlast := fun k (hk : k < (sortK (keys (nrmT t))).length) => next_least (sortK_lt hnod) (fun x hx => hpos x (mem_sortK.1 hx)) hk
  have hkm : ∀ k, k < (sortK (keys (nrmT t))).length → ∃ j, j < (nrmT t).length ∧ ((nrmT t).getD j default).1 = (sortK (keys (nrmT t))).getD k 0 := fun k hk => by
    have : (sortK (keys (nrmT t))).getD k 0 ∈ keys (nrmT t) := mem_sortK.1 (by simp [List.getD_eq_getElem?_getD, hk])
    obtain ⟨j, _, h2, h3, _⟩ := look_idx this
    exact ⟨j, h2, h3⟩
  have hmk : ∀ m, m < (nrmT t).length → ((nrmT t).getD m default).1 ∈ sortK (keys (nrmT t)) := fun m hm => mem_sortK.2 (List.mem_map.2 ⟨_, getD_mem hm, rfl⟩)
  have hst : ∀ k m, k < (sortK (keys (nrmT t))).length → m < (nrmT t).length → ((nrmT t).getD m default).1 = (sortK (keys (nrmT t))).getD k 0 → (sortM (nrmT t)).take (k + 1) = (sortM (nrmT t)).take k ++ [(nrmT t).getD m default] := fun k m hk hm he => by
    rw [take_snoc (by rw [sortM_len, hml, ← hll]; exact hk), sortM_getD hk, ← he]
    have := idx_nodup hnod hm
    rw [(idx_some this).2.2.1]
    rfl
  have h0 : (sortM (nrmT t)).take 0 = [] := rfl
  have hall : (sortM (nrmT t)).take t.length = sortM (nrmT t) := by rw [← hml, ← sortM_len, List.take_length]
  have hln : ∀ i, i ≤ t.length → ((sortM (nrmT t)).take i).length = i := fun i hi => by rw [List.length_take, sortM_len]; omega
  clear hT hnod hpos
  unfold cT at *
  rw [← hall]
  clear hall
  generalize hE : (fun i => (sortM (nrmT t)).take i) = E at *
  have hE' : ∀ i, (sortM (nrmT t)).take i = E i := fun i => congrFun hE i
  simp only [hE'] at *
  clear hE hE'
  generalize sortK (keys (nrmT t)) = l at *
  generalize nrmT t = M at *
  (refine newS_of_W (T := 84) (k := 2) (pre := [.int .i64 n]) Tryz.func64 rfl (rs := [Go.ResultVar.cell 2 24]) rfl (nt := 73) rfl rfl ?_; simp only [List.length_cons, List.length_nil, List.replicate, List.cons_append, List.nil_append])
  (refine aUc ?_)
  refine W.le ?_ (Le_nilO 3 0 1 70 84 2 true rfl rfl rfl rfl)
  simp only [List.set]
  refine W_seq ?_
  refine W_block (W_loop (fun s : {k : Nat // k ≤ t.length} =>
      ⟨(.any :: (.ptr 1 0 0) :: (.ptr 2 0 0) :: (.ptr 3 0 0) :: (.int .i64 (lastK l s.1)) :: .any :: .any :: .any :: .any :: .any :: .any :: .any :: .any :: .any :: .any :: .any :: .any :: .any :: .any :: .any :: .any :: .any :: .any :: .any :: .any :: .any :: .any :: .any :: .any :: .any :: .any :: .any :: .any :: .any :: .any :: .any :: .any :: .any :: .any :: .any :: .any :: .any :: .any :: .any :: .any :: .any :: .any :: .any :: .any :: .any :: .any :: .any :: .any :: .any :: .any :: .any :: .any :: .any :: .any :: .any :: .any :: .any :: .any :: .any :: .any :: .any :: .any :: .any :: .any :: .any :: .any :: .any :: .any :: []),
       (.dead :: (.arr 24 2 false [[.int .i64 n, .sl (tab rowT t)]]) :: (.arr 24 2 false [[.int .i64 0, .nils]]) :: (.arr 24 2 false [[.int .i64 n, .sref 70 0 s.1]]) :: .dead :: .dead :: .dead :: .dead :: .dead :: .dead :: .dead :: .dead :: .dead :: .dead :: .dead :: .dead :: .dead :: .dead :: .dead :: .dead :: .dead :: .dead :: .dead :: .dead :: .dead :: .dead :: .dead :: .dead :: .dead :: .dead :: .dead :: .dead :: .dead :: .dead :: .dead :: .dead :: .dead :: .dead :: .dead :: .dead :: .dead :: .dead :: .dead :: .dead :: .dead :: .dead :: .dead :: .dead :: .dead :: .dead :: .dead :: .dead :: .dead :: .dead :: .dead :: .dead :: .dead :: .dead :: .dead :: .dead :: .dead :: .dead :: .dead :: .dead :: .dead :: .dead :: .dead :: .dead :: .dead :: .dead :: (.arr 84 2 true (tab rowU (E s.1))) :: .dead :: .dead :: [])⟩) (fun s => t.length - s.1)
      ⟨0, by omega⟩ (Le_drop (by simp [leE, lastK]) (by simp [leH, h0, tab]) rfl rfl) fun s => ?_)
  obtain ⟨k, hk⟩ := s
  dsimp only
  by_cases hlt : k < t.length
  · obtain ⟨hgt, hleast⟩ := hlast k (by omega)
    have hstk := hst k
    have hlk := hln k (by omega)
    obtain ⟨j0, hj0, hj1⟩ := hkm k (by omega)
    have hls := lastK_succ l k
    generalize hlv : l.getD k 0 = v at *
    generalize hla : lastK l k = last at *
    generalize hE1 : E (k + 1) = o' at *
    generalize E k = o at *
    refine W_seq ?_
    ((first | refine W_seqV ?_ | refine W_seq (W_seqV ?_) | refine W_regV ?_); intro K hK; (refine sUcX hlt ?_; try exact True.intro))
    ((repeat refine aI ?_); refine hK _ ?_; clear hK K)
    (first | refine W_cond rfl (fun _ => ?_) (fun h => by cases h) | refine W_seq (W_cond rfl (fun _ => ?_) (fun h => by cases h)))
    refine W_skip ?_
    simp only [thenW]
    refine W_block ?_
    (refine aUc ?_)
    refine W_seq ?_
    ((first | refine W_seqV ?_ | refine W_seq (W_seqV ?_) | refine W_regV ?_); intro K hK; (refine sUc ?_; try exact True.intro))
    ((repeat refine aI ?_); refine hK _ ?_; clear hK K)
    refine W_block (W_loop (fun s : {p : Nat × Int // p.1 ≤ t.length ∧ Least M last p.1 p.2} =>
      ⟨(.any :: (.ptr 1 0 0) :: (.ptr 2 0 0) :: (.ptr 3 0 0) :: (.int .i64 last) :: (.int .i64 s.1.2) :: (.int .i64 s.1.1) :: .any :: .any :: .any :: .any :: .any :: .any :: .any :: .any :: .any :: .any :: .any :: .any :: .any :: .any :: .any :: .any :: .any :: .any :: .any :: .any :: .any :: .any :: .any :: .any :: .any :: .any :: .any :: .any :: .any :: .any :: .any :: .any :: .any :: .any :: .any :: .any :: .any :: .any :: .any :: .any :: .any :: .any :: .any :: .any :: .any :: .any :: .any :: .any :: .any :: .any :: .any :: .any :: .any :: .any :: .any :: .any :: .any :: .any :: .any :: .any :: .any :: .any :: .any :: .any :: .any :: .any :: []),
       (.dead :: (.arr 24 2 false [[.int .i64 n, .sl (tab rowT t)]]) :: (.arr 24 2 false [[.int .i64 0, .nils]]) :: (.arr 24 2 false [[.int .i64 n, .sref 70 0 k]]) :: .dead :: .dead :: .dead :: .dead :: .dead :: .dead :: .dead :: .dead :: .dead :: .dead :: .dead :: .dead :: .dead :: .dead :: .dead :: .dead :: .dead :: .dead :: .dead :: .dead :: .dead :: .dead :: .dead :: .dead :: .dead :: .dead :: .dead :: .dead :: .dead :: .dead :: .dead :: .dead :: .dead :: .dead :: .dead :: .dead :: .dead :: .dead :: .dead :: .dead :: .dead :: .dead :: .dead :: .dead :: .dead :: .dead :: .dead :: .dead :: .dead :: .dead :: .dead :: .dead :: .dead :: .dead :: .dead :: .dead :: .dead :: .dead :: .dead :: .dead :: .dead :: .dead :: .dead :: .dead :: .dead :: .dead :: (.arr 84 2 true (tab rowU o)) :: .dead :: .dead :: [])⟩) (fun s => t.length - s.1.1)
      ⟨(0, -1), by omega, .inl ⟨rfl, by omega⟩⟩ (Le_drop (by simp [leE]) (by simp [leH]) rfl rfl) fun s => ?_)
    obtain ⟨⟨i, a⟩, hi, ha⟩ := s
    dsimp only at *
    by_cases hil : i < t.length
    · have hti : (tab rowT t).getD i [] = rowT (t.getD i default) := tab_getD hil
      have hMi : (M.getD i default).1 = (t.getD i default).1 := by rw [hnd i hil]
      have hno1 : (M.getD i default).1 ≤ last → Least M last i a → Least M last (i + 1) a := fun h1 h2 => by
        rcases h2 with ⟨h3, h4⟩ | ⟨m, h3, h4, h5, h6⟩
        · exact .inl ⟨h3, fun j hj => by
            by_cases hji : j = i
            · subst hji; exact h1
            · exact h4 j (by omega)⟩
        · exact .inr ⟨m, h3, by omega, h5, fun j hj hl => by
            by_cases hji : j = i
            · subst hji; omega
            · exact h6 j (by omega) hl⟩
      have hnew : last < (M.getD i default).1 → (∀ j, j < i → last < (M.getD j default).1 → (M.getD i default).1 ≤ (M.getD j default).1) → Least M last (i + 1) (i : Int) := fun h1 h2 =>
        .inr ⟨i, rfl, by omega, h1, fun j hj hl => by
          by_cases hji : j = i
          · subst hji; exact Int.le_refl _
          · exact h2 j (by omega) hl⟩
      have hold : ∀ m : Nat, m < i → last < (M.getD m default).1 → (∀ j, j < i → last < (M.getD j default).1 → (M.getD m default).1 ≤ (M.getD j default).1) → (M.getD m default).1 ≤ (M.getD i default).1 → Least M last (i + 1) (m : Int) := fun m h1 h2 h3 h4 =>
        .inr ⟨m, rfl, by omega, h2, fun j hj hl => by
          by_cases hji : j = i
          · subst hji; exact h4
          · exact h3 j (by omega) hl⟩
      rw [hMi] at hno1 hnew hold
      generalize t.getD i default = r at *
      obtain ⟨b, f⟩ := r
      simp only [rowT] at hti
      dsimp only at *
      refine W_seq ?_
      ((first | refine W_seqV ?_ | refine W_seq (W_seqV ?_) | refine W_regV ?_); intro K hK; (refine sUcX hil ?_; try exact True.intro))
      ((repeat refine aI ?_); refine hK _ ?_; clear hK K)
      (first | refine W_cond rfl (fun _ => ?_) (fun h => by cases h) | refine W_seq (W_cond rfl (fun _ => ?_) (fun h => by cases h)))
      refine W_skip ?_
      simp only [thenW]
      refine W_seq ?_
      refine W_block ?_
      refine W_seq ?_
      by_cases c1 : last < b
      · rcases ha with ⟨rfl, hle⟩ | ⟨m, rfl, hm, hmgt, hmle⟩
        · ((first | refine W_seqD mixed [] (by kernel_rfl) ?_ | refine W_seq (W_seqD mixed [] (by kernel_rfl) ?_) | refine W_regD mixed [] (by kernel_rfl) ?_); intro K hK; (refine sUcX (And.intro hti (And.intro hil c1)) ?_; try exact True.intro))
          ((repeat refine aI ?_); refine hK _ ?_; clear hK K)
          simp only [thenW]
          (first | refine W_cond rfl (fun _ => ?_) (fun h => by cases h) | refine W_seq (W_cond rfl (fun _ => ?_) (fun h => by cases h)))
          ((first | refine W_seqV ?_ | refine W_seq (W_seqV ?_) | refine W_regV ?_); intro K hK; (refine sUc ?_; try exact True.intro))
          ((repeat refine aI ?_); refine hK _ ?_; clear hK K)
          simp only [thenW, blockW]
          ((first | refine W_seqV ?_ | refine W_seq (W_seqV ?_) | refine W_regV ?_); intro K hK; (refine sUc ?_; try exact True.intro))
          ((repeat refine aI ?_); refine hK _ ?_; clear hK K)
          simp only [blockW, thenW]
          refine ⟨⟨(i + 1, (i : Int)), by dsimp only; omega, hnew c1 fun j hj hl => by have := hle j hj; omega⟩, Le_drop (by simp [leE]) (by simp [leH]) rfl rfl, ?_⟩
          dsimp only
          omega
        · have hXm : (tab rowT t).getD m [] = rowT (t.getD m default) := tab_getD (by omega)
          have hMm : (M.getD m default).1 = (t.getD m default).1 := by rw [hnd m (by omega)]
          have hm0 : ¬ ((m : Int) < 0) := by omega
          have hmt : m < t.length := by omega
          have hold2 := hold m hm hmgt hmle
          rw [hMm] at hold2 hmgt hmle
          generalize t.getD m default = r2 at *
          obtain ⟨b2, f2⟩ := r2
          simp only [rowT] at hXm
          dsimp only at *
          by_cases c2 : b < b2
          · ((first | refine W_seqD mixed [] (by kernel_rfl) ?_ | refine W_seq (W_seqD mixed [] (by kernel_rfl) ?_) | refine W_regD mixed [] (by kernel_rfl) ?_); intro K hK; (refine sUcX (And.intro hti (And.intro hil (And.intro c1 (And.intro hXm (And.intro hmt (And.intro hm0 c2)))))) ?_; try exact True.intro))
            ((repeat refine aI ?_); refine hK _ ?_; clear hK K)
            simp only [thenW]
            (first | refine W_cond rfl (fun _ => ?_) (fun h => by cases h) | refine W_seq (W_cond rfl (fun _ => ?_) (fun h => by cases h)))
            ((first | refine W_seqV ?_ | refine W_seq (W_seqV ?_) | refine W_regV ?_); intro K hK; (refine sUc ?_; try exact True.intro))
            ((repeat refine aI ?_); refine hK _ ?_; clear hK K)
            simp only [thenW, blockW]
            ((first | refine W_seqV ?_ | refine W_seq (W_seqV ?_) | refine W_regV ?_); intro K hK; (refine sUc ?_; try exact True.intro))
            ((repeat refine aI ?_); refine hK _ ?_; clear hK K)
            simp only [blockW, thenW]
            refine ⟨⟨(i + 1, (i : Int)), by dsimp only; omega, hnew c1 fun j hj hl => by have := hmle j hj hl; omega⟩, Le_drop (by simp [leE]) (by simp [leH]) rfl rfl, ?_⟩
            dsimp only
            omega
          · ((first | refine W_seqD mixed [] (by kernel_rfl) ?_ | refine W_seq (W_seqD mixed [] (by kernel_rfl) ?_) | refine W_regD mixed [] (by kernel_rfl) ?_); intro K hK; (refine sUcX (And.intro hti (And.intro hil (And.intro c1 (And.intro hXm (And.intro hmt (And.intro hm0 c2)))))) ?_; try exact True.intro))
            ((repeat refine aI ?_); refine hK _ ?_; clear hK K)
            simp only [thenW]
            (first | refine W_cond rfl (fun h => by cases h) (fun _ => ?_) | refine W_seq (W_cond rfl (fun h => by cases h) (fun _ => ?_)))
            refine W_skip ?_
            simp only [thenW, blockW]
            ((first | refine W_seqV ?_ | refine W_seq (W_seqV ?_) | refine W_regV ?_); intro K hK; (refine sUc ?_; try exact True.intro))
            ((repeat refine aI ?_); refine hK _ ?_; clear hK K)
            simp only [blockW, thenW]
            refine ⟨⟨(i + 1, (m : Int)), by dsimp only; omega, hold2 (by omega)⟩, Le_drop (by simp [leE]) (by simp [leH]) rfl rfl, ?_⟩
            dsimp only
            omega
      · ((first | refine W_seqD mixed [] (by kernel_rfl) ?_ | refine W_seq (W_seqD mixed [] (by kernel_rfl) ?_) | refine W_regD mixed [] (by kernel_rfl) ?_); intro K hK; (refine sUcX (And.intro hti (And.intro hil c1)) ?_; try exact True.intro))
        ((repeat refine aI ?_); refine hK _ ?_; clear hK K)
        simp only [thenW]
        (first | refine W_cond rfl (fun h => by cases h) (fun _ => ?_) | refine W_seq (W_cond rfl (fun h => by cases h) (fun _ => ?_)))
        refine W_skip ?_
        simp only [thenW, blockW]
        ((first | refine W_seqV ?_ | refine W_seq (W_seqV ?_) | refine W_regV ?_); intro K hK; (refine sUc ?_; try exact True.intro))
        ((repeat refine aI ?_); refine hK _ ?_; clear hK K)
        simp only [blockW, thenW]
        refine ⟨⟨(i + 1, a), by dsimp only; omega, hno1 (by omega) ha⟩, Le_drop (by simp [leE]) (by simp [leH]) rfl rfl, ?_⟩
        dsimp only
        omega
    · obtain rfl : i = t.length := by omega
      obtain ⟨m, rfl, hm, hmgt, hmle⟩ : ∃ m : Nat, a = (m : Int) ∧ m < t.length ∧ last < (M.getD m default).1 ∧ ∀ j, j < t.length → last < (M.getD j default).1 → (M.getD m default).1 ≤ (M.getD j default).1 := by
        rcases ha with ⟨_, h⟩ | h
        · have := h j0 (by omega)
          omega
        · exact h
      have hmv : (M.getD m default).1 = v := by
        have e1 := hmle j0 (by omega) (by omega)
        have e2 := hleast _ (hmk m (by omega)) hmgt
        omega
      have hst2 := hstk m (by omega) (by omega) hmv
      have hXm : (tab rowT t).getD m [] = rowT (t.getD m default) := tab_getD hm
      have hnom := hno m hm
      rw [hnd m hm] at hst2 hmv
      generalize t.getD m default = r2 at *
      obtain ⟨b2, f2⟩ := r2
      simp only [rowT] at hXm
      dsimp only at *
      simp only [cF, cL] at hnom
      subst hmv
      refine W_seq ?_
      ((first | refine W_seqV ?_ | refine W_seq (W_seqV ?_) | refine W_regV ?_); intro K hK; (refine sUc ?_; try exact True.intro))
      ((repeat refine aI ?_); refine hK _ ?_; clear hK K)
      (first | refine W_cond rfl (fun h => by cases h) (fun _ => ?_) | refine W_seq (W_cond rfl (fun h => by cases h) (fun _ => ?_)))
      refine W_exit ?_
      simp only [thenW, blockW, if_true]
      ((first | refine W_seqV ?_ | refine W_seq (W_seqV ?_) | refine W_regV ?_); intro K hK; (refine sUcX (And.intro hXm hm) ?_; try exact True.intro))
      ((repeat refine aI ?_); refine hK _ ?_; clear hK K)
      ((first | refine W_seqS mixed 12 [] (by kernel_rfl) ?_ | refine W_seq (W_seqS mixed 12 [] (by kernel_rfl) ?_) | refine W_regS mixed 12 [] (by kernel_rfl) ?_); intro K hK; (refine sUcX (And.intro hXm hm) ?_; try exact True.intro))
      ((repeat refine aI ?_); refine ⟨by kernel_rfl, _, .pure rfl (hnom), ?_⟩; (try (refine sUc ?_; try exact True.intro)); (repeat refine aI ?_))
      ((repeat refine aI ?_); refine hK _ ?_; clear hK K)
      simp only [thenW, blockW]
      refine ⟨⟨k + 1, by omega⟩, Le_drop (by simp [leE, hls]) (by simp [leH, hE1, hst2, ← tab_snoc, rowU, tab_take, List.take_of_length_le, hlk]) rfl rfl, ?_⟩
      dsimp only
      omega
  · obtain rfl : k = t.length := by omega
    refine W_seq ?_
    ((first | refine W_seqV ?_ | refine W_seq (W_seqV ?_) | refine W_regV ?_); intro K hK; (refine sUc ?_; try exact True.intro))
    ((repeat refine aI ?_); refine hK _ ?_; clear hK K)
    (first | refine W_cond rfl (fun h => by cases h) (fun _ => ?_) | refine W_seq (W_cond rfl (fun h => by cases h) (fun _ => ?_)))
    refine W_exit ?_
    simp only [thenW, blockW, if_true]
    have hlk := hln t.length (Nat.le_refl _)
    generalize E t.length = o at *
    (refine aUc ?_)
    refine W_ret ?_
    (simp only [thenW, blockW, newSQ, resW, resV, asOne_one, List.getD_cons_zero, List.getD_cons_succ, newSK])
    (refine sUc ?_; try exact True.intro)
    (repeat refine aI ?_)
    exact ⟨_, rfl, _, rfl, by rw [tab_length, hlk], rfl, rfl⟩
theorem r7sorted_ok (n : Int) (t : TR) (hT : TOk t) (hnod : (keys (nrmT t)).Nodup) (hpos : ∀ b ∈ keys (nrmT t), 0 ≤ b) : Pure Tryz.prog 64 [cT n t] (· = cU n (sortM (nrmT t))) :=
  (r7sorted_new n t hT hnod hpos).pure.mono fun r ⟨rows, h1, h2⟩ => by
    subst h1
    exact h2
end Go.Proofs.YtjmpajgjaefcjaaGreat.Vm

namespace Go.Proofs.YtjmpajgjaefcjaaGreat.Vm
open Go Go.RowKit
set_option maxRecDepth 100000
set_option linter.unusedVariables false
set_option linter.unusedSimpArgs false
theorem sUd {G G' : Prop} (h : G') (e : G = G' := by conv => lhs;simp (disch := omega) only [rowsOf,cNat,cN,St.ret,St.seth,Eff.app,Eff.wi,sepL,guardOf,St.known,objOf,List.set,sliceW,litW,copyW,lenOf,bnd,mxOk,ofCells,TI.isAgg,cellsOf,storable,AV.one,dead,laid,overlay,reduceCtorEq,Int.reduceLE,Int.reduceLT,Int.reduceSub,Int.reduceAdd,Nat.reduceMul,Int.reduceToNat,Nat.reducePow,Int.reduceNeg,Nat.reduceAdd,Nat.reduceLT,Nat.reduceLeDiff,sA,sB,Nat.reduceEqDiff,cQ,rowQ,rowU,rowT,rowM,i64s_getD,i64s_length,i64s_all,tab_length,tab_drop,tab_take,tab_append,tab_nil,rowT_all,rowT_one,rowT_pure,rowU_all,rowU_one,rowU_pure,rowQ_all,rowQ_one,rowQ_pure,rowM_all,rowM_one,rowM_pure,List.take_length,List.length_append,sT]) : G := e.mpr h
theorem sUdX {G G' P : Prop} (p : P) (h : G') (e : P → G = G' := by intro p;conv => lhs;simp (disch := omega) only [rowsOf,cNat,cN,St.ret,St.seth,Eff.app,Eff.wi,sepL,guardOf,St.known,objOf,List.set,sliceW,litW,copyW,lenOf,bnd,mxOk,ofCells,TI.isAgg,cellsOf,storable,AV.one,dead,laid,overlay,reduceCtorEq,Int.reduceLE,Int.reduceLT,Int.reduceSub,Int.reduceAdd,Nat.reduceMul,Int.reduceToNat,Nat.reducePow,Int.reduceNeg,Nat.reduceAdd,Nat.reduceLT,Nat.reduceLeDiff,sA,sB,Nat.reduceEqDiff,cQ,rowQ,rowU,rowT,rowM,i64s_getD,i64s_length,i64s_all,tab_length,tab_drop,tab_take,tab_append,tab_nil,rowT_all,rowT_one,rowT_pure,rowU_all,rowU_one,rowU_pure,rowQ_all,rowQ_one,rowQ_pure,rowM_all,rowM_one,rowM_pure,List.take_length,List.length_append,sT,p]) : G := (e p).mpr h
theorem sUdV {G G' : Prop} (h : G') (e : G = G' := by conv => lhs;simp (disch := omega) only [rowsOf,cNat,cN,St.ret,St.seth,Eff.app,Eff.wi,sepL,guardOf,St.known,objOf,List.set,sliceW,litW,copyW,lenOf,bnd,mxOk,ofCells,TI.isAgg,cellsOf,storable,AV.one,dead,laid,overlay,reduceCtorEq,Int.reduceLE,Int.reduceLT,Int.reduceSub,Int.reduceAdd,Nat.reduceMul,Int.reduceToNat,Nat.reducePow,Int.reduceNeg,Nat.reduceAdd,Nat.reduceLT,Nat.reduceLeDiff,sA,sB,Nat.reduceEqDiff,cQ,rowQ,rowU,rowT,rowM,i64s_getD,i64s_length,i64s_all,tab_length,tab_drop,tab_take,tab_append,tab_nil,rowT_all,rowT_one,rowT_pure,rowU_all,rowU_one,rowU_pure,rowQ_all,rowQ_one,rowQ_pure,rowM_all,rowM_one,rowM_pure,List.take_length,List.length_append,sT,view_sref,viewRef,view_agg,views_cons,views_nil,view_bool,view_int,view_sl,view_nils,view_str,view_tup,view_nilif]) : G := e.mpr h
theorem aUd {G G' : Prop} (h : G') (f : Wr G' → G := by intro h;(repeat (first|(refine W_seqV fun K hK => ?_;(try (refine sUd ?_;try exact True.intro));(repeat refine aI ?_);refine hK _ ?_;clear hK K)|(refine W_seqR fun K hK => ?_;(try (refine sUd ?_;try exact True.intro));(repeat refine aI ?_);refine hK _ ?_;clear hK K)|(refine W_seqD mixed [] (by kernel_rfl) fun K hK => ?_;(try (refine sUd ?_;try exact True.intro));(repeat refine aI ?_);refine hK _ ?_;clear hK K)));exact h.out) : G := f ⟨h⟩
theorem r7new_ok (n : Int) : Pure Tryz.prog 29 [.int .i64 n] (· = newR n) := by
 unfold newR cU
 have hz : tab rowU [] = [] := rfl
 rw [hz]
 by_cases h1 : n < 0
 ·rw [if_pos h1]
  (refine pureW Tryz.func29 rfl (rs := [Go.ResultVar.cell 2 24,Go.ResultVar.tmp 3]) rfl (n := 12) rfl ?_;simp only [List.length_cons,List.length_nil,List.replicate,List.cons_append,List.nil_append])
  (refine aUd ?_)
  ((first | refine W_seqV ?_ | refine W_seq (W_seqV ?_) | refine W_regV ?_);intro K hK;(refine sUdX h1 ?_;try exact True.intro))
  (repeat refine aI ?_);refine hK _ ?_;clear hK K
  (repeat' (first|(exfalso;simp at h;done)|refine W_block ?_ |((first|refine W_seqV fun K hK => ?_|refine W_regV fun K hK => ?_);(try (refine sUd ?_;try exact True.intro));(repeat refine aI ?_);refine hK _ ?_;clear hK K)|((first|refine W_seqR fun K hK => ?_|refine W_regR fun K hK => ?_);(try (refine sUd ?_;try exact True.intro));(repeat refine aI ?_);refine hK _ ?_;clear hK K)|((first|refine W_seqD mixed [] (by kernel_rfl) fun K hK => ?_|refine W_regD mixed [] (by kernel_rfl) fun K hK => ?_);(try (refine sUd ?_;try exact True.intro));(repeat refine aI ?_);refine hK _ ?_;clear hK K)|refine W_skip ?_|(refine W_ret ?_;(refine qG ?_;try exact True.intro))|(refine W_exit ?_;simp only [thenW,blockW,if_true,reduceCtorEq,if_false,Nat.reduceEqDiff])|(refine W_cond rfl (fun h => ?_) (fun h => ?_) <;> (try simp only [cond_true,cond_false,ne_eq,cB] at h))|refine W_seq ?_))
  (try (refine sUdV ?_;try exact True.intro))
 ·rw [if_neg h1]
  by_cases h2 : 65536 < n
  ·rw [if_pos h2]
   (refine pureW Tryz.func29 rfl (rs := [Go.ResultVar.cell 2 24,Go.ResultVar.tmp 3]) rfl (n := 12) rfl ?_;simp only [List.length_cons,List.length_nil,List.replicate,List.cons_append,List.nil_append])
   (refine aUd ?_)
   ((first | refine W_seqV ?_ | refine W_seq (W_seqV ?_) | refine W_regV ?_);intro K hK;(refine sUdX h1 ?_;try exact True.intro))
   (repeat refine aI ?_);refine hK _ ?_;clear hK K
   (repeat' (first|(exfalso;simp at h;done)|refine W_block ?_ |((first|refine W_seqV fun K hK => ?_|refine W_regV fun K hK => ?_);(try (refine sUd ?_;try exact True.intro));(repeat refine aI ?_);refine hK _ ?_;clear hK K)|((first|refine W_seqR fun K hK => ?_|refine W_regR fun K hK => ?_);(try (refine sUd ?_;try exact True.intro));(repeat refine aI ?_);refine hK _ ?_;clear hK K)|((first|refine W_seqD mixed [] (by kernel_rfl) fun K hK => ?_|refine W_regD mixed [] (by kernel_rfl) fun K hK => ?_);(try (refine sUd ?_;try exact True.intro));(repeat refine aI ?_);refine hK _ ?_;clear hK K)|refine W_skip ?_|(refine W_ret ?_;(refine qG ?_;try exact True.intro))|(refine W_exit ?_;simp only [thenW,blockW,if_true,reduceCtorEq,if_false,Nat.reduceEqDiff])|(refine W_cond rfl (fun h => ?_) (fun h => ?_) <;> (try simp only [cond_true,cond_false,ne_eq,cB] at h))|refine W_seq ?_))
   ·(try (refine sUdV ?_;try exact True.intro))
   ·exact absurd h2 (by omega)
  ·rw [if_neg h2]
   (refine pureW Tryz.func29 rfl (rs := [Go.ResultVar.cell 2 24,Go.ResultVar.tmp 3]) rfl (n := 12) rfl ?_;simp only [List.length_cons,List.length_nil,List.replicate,List.cons_append,List.nil_append])
   (refine aUd ?_)
   ((first | refine W_seqV ?_ | refine W_seq (W_seqV ?_) | refine W_regV ?_);intro K hK;(refine sUdX h1 ?_;try exact True.intro))
   (repeat refine aI ?_);refine hK _ ?_;clear hK K
   (repeat' (first|(exfalso;simp at h;done)|refine W_block ?_ |((first|refine W_seqV fun K hK => ?_|refine W_regV fun K hK => ?_);(try (refine sUd ?_;try exact True.intro));(repeat refine aI ?_);refine hK _ ?_;clear hK K)|((first|refine W_seqR fun K hK => ?_|refine W_regR fun K hK => ?_);(try (refine sUd ?_;try exact True.intro));(repeat refine aI ?_);refine hK _ ?_;clear hK K)|((first|refine W_seqD mixed [] (by kernel_rfl) fun K hK => ?_|refine W_regD mixed [] (by kernel_rfl) fun K hK => ?_);(try (refine sUd ?_;try exact True.intro));(repeat refine aI ?_);refine hK _ ?_;clear hK K)|refine W_skip ?_|(refine W_ret ?_;(refine qG ?_;try exact True.intro))|(refine W_exit ?_;simp only [thenW,blockW,if_true,reduceCtorEq,if_false,Nat.reduceEqDiff])|(refine W_cond rfl (fun h => ?_) (fun h => ?_) <;> (try simp only [cond_true,cond_false,ne_eq,cB] at h))|refine W_seq ?_))
   ·exact absurd h h2
   ·(try (refine sUdV ?_;try exact True.intro))
theorem TOk.sorted {t : TR} (h : TOk t) {n : Int} (hg : goodB n (nrmT t) = true) : Pure Tryz.prog 64 [cT n t] (· = cU n (sortM (nrmT t))) :=
 r7sorted_ok n t h (gt_iff.1 hg).nodup fun b hb => ((gt_iff.1 hg).range b hb).1
theorem r7norm_ok (n : Int) (t : TR) (hT : TOk t) : Pure Tryz.prog 33 [cT n t] (· = normV n t) := by
 have a1 := r7check_ok n t hT
 have a2 := fun hg => hT.sorted (n := n) hg
 unfold normV
 unfold cT cU at *
 have hz : tab rowU [] = [] := rfl
 rw [hz]
 generalize goodB n (nrmT t) = gb at *
 cases gb
 ·simp only [Bool.false_eq_true,if_false] at a1 ⊢
  (refine pureW Tryz.func33 rfl (rs := [Go.ResultVar.cell 2 24,Go.ResultVar.tmp 3]) rfl (n := 13) rfl ?_;simp only [List.length_cons,List.length_nil,List.replicate,List.cons_append,List.nil_append])
  (refine aUd ?_)
  ((first | refine W_seqV ?_ | refine W_seq (W_seqV ?_) | refine W_regV ?_);intro K hK;(refine sUd ?_;try exact True.intro))
  ((repeat refine aI ?_);refine ⟨by kernel_rfl,_,.pure rfl (a1),?_⟩;(try (refine sUd ?_;try exact True.intro));(repeat refine aI ?_))
  (repeat refine aI ?_);refine hK _ ?_;clear hK K
  (repeat' (first|(exfalso;simp at h;done)|refine W_block ?_ |((first|refine W_seqV fun K hK => ?_|refine W_regV fun K hK => ?_);(try (refine sUd ?_;try exact True.intro));(repeat refine aI ?_);refine hK _ ?_;clear hK K)|((first|refine W_seqR fun K hK => ?_|refine W_regR fun K hK => ?_);(try (refine sUd ?_;try exact True.intro));(repeat refine aI ?_);refine hK _ ?_;clear hK K)|((first|refine W_seqD mixed [] (by kernel_rfl) fun K hK => ?_|refine W_regD mixed [] (by kernel_rfl) fun K hK => ?_);(try (refine sUd ?_;try exact True.intro));(repeat refine aI ?_);refine hK _ ?_;clear hK K)|refine W_skip ?_|(refine W_ret ?_;(refine qG ?_;try exact True.intro))|(refine W_exit ?_;simp only [thenW,blockW,if_true,reduceCtorEq,if_false,Nat.reduceEqDiff])|(refine W_cond rfl (fun h => ?_) (fun h => ?_) <;> (try simp only [cond_true,cond_false,ne_eq,cB] at h))|refine W_seq ?_))
  (try (refine sUdV ?_;try exact True.intro))
 ·simp only [if_true] at a1 ⊢
  have a2' := a2 rfl
  (refine pureW Tryz.func33 rfl (rs := [Go.ResultVar.cell 2 24,Go.ResultVar.tmp 3]) rfl (n := 13) rfl ?_;simp only [List.length_cons,List.length_nil,List.replicate,List.cons_append,List.nil_append])
  (refine aUd ?_)
  ((first | refine W_seqV ?_ | refine W_seq (W_seqV ?_) | refine W_regV ?_);intro K hK;(refine sUd ?_;try exact True.intro))
  ((repeat refine aI ?_);refine ⟨by kernel_rfl,_,.pure rfl (a1),?_⟩;(try (refine sUd ?_;try exact True.intro));(repeat refine aI ?_))
  (repeat refine aI ?_);refine hK _ ?_;clear hK K
  (repeat' (first|(exfalso;simp at h;done)|refine W_block ?_ |((first|refine W_seqV fun K hK => ?_|refine W_regV fun K hK => ?_);(try (refine sUd ?_;try exact True.intro));(repeat refine aI ?_);refine hK _ ?_;clear hK K)|((first|refine W_seqR fun K hK => ?_|refine W_regR fun K hK => ?_);(try (refine sUd ?_;try exact True.intro));(repeat refine aI ?_);refine hK _ ?_;clear hK K)|((first|refine W_seqD mixed [] (by kernel_rfl) fun K hK => ?_|refine W_regD mixed [] (by kernel_rfl) fun K hK => ?_);(try (refine sUd ?_;try exact True.intro));(repeat refine aI ?_);refine hK _ ?_;clear hK K)|refine W_skip ?_|(refine W_ret ?_;(refine qG ?_;try exact True.intro))|(refine W_exit ?_;simp only [thenW,blockW,if_true,reduceCtorEq,if_false,Nat.reduceEqDiff])|(refine W_cond rfl (fun h => ?_) (fun h => ?_) <;> (try simp only [cond_true,cond_false,ne_eq,cB] at h))|refine W_seq ?_))
  ((first | refine W_seqV ?_ | refine W_seq (W_seqV ?_) | refine W_regV ?_);intro K hK;(refine sUd ?_;try exact True.intro))
  ((repeat refine aI ?_);refine ⟨by kernel_rfl,_,.pure rfl (a2'),?_⟩;(try (refine sUd ?_;try exact True.intro));(repeat refine aI ?_))
  (repeat refine aI ?_);refine hK _ ?_;clear hK K
  (repeat' (first|(exfalso;simp at h;done)|refine W_block ?_ |((first|refine W_seqV fun K hK => ?_|refine W_regV fun K hK => ?_);(try (refine sUd ?_;try exact True.intro));(repeat refine aI ?_);refine hK _ ?_;clear hK K)|((first|refine W_seqR fun K hK => ?_|refine W_regR fun K hK => ?_);(try (refine sUd ?_;try exact True.intro));(repeat refine aI ?_);refine hK _ ?_;clear hK K)|((first|refine W_seqD mixed [] (by kernel_rfl) fun K hK => ?_|refine W_regD mixed [] (by kernel_rfl) fun K hK => ?_);(try (refine sUd ?_;try exact True.intro));(repeat refine aI ?_);refine hK _ ?_;clear hK K)|refine W_skip ?_|(refine W_ret ?_;(refine qG ?_;try exact True.intro))|(refine W_exit ?_;simp only [thenW,blockW,if_true,reduceCtorEq,if_false,Nat.reduceEqDiff])|(refine W_cond rfl (fun h => ?_) (fun h => ?_) <;> (try simp only [cond_true,cond_false,ne_eq,cB] at h))|refine W_seq ?_))
  (try (refine sUdV ?_;try exact True.intro))
theorem FormOk.pf {f : List (Int × RR)} (h : FormOk f) : PF f 68157441 := by
 have := h.sz
 exact (h.fok.pf (by omega)).mono (by omega)
theorem sortK_snoc {l : List Int} (hn : l.Nodup) {n : Int} (h : ∀ x ∈ l,x < n) : sortK (l ++ [n]) = sortK l ++ [n] := by
 refine sorted_ext ((sortK_perm _).trans ((sortK_perm l).symm.append_right [n])) (sortK_le _) ?_
 rw [List.pairwise_append]
 refine ⟨sortK_le l,by simp,fun a ha b hb => ?_⟩
 simp at hb
 subst hb
 have := h a (mem_sortK.1 ha)
 omega
theorem look_snoc {M : TM} {n b : Int} {g : List (Int × Rat)} (hb : b ∈ keys M) : lookM (M ++ [(n,g)]) b = lookM M b := by
 obtain ⟨j,h1,h2,h3,h4,h5⟩ := look_idx hb
 rw [h4]
 unfold lookM at h4 ⊢
 rw [List.find?_append]
 cases hf : M.find? fun r => r.1 == b with
 | none => rw [hf] at h4;cases h4
 | some r => rw [hf] at h4;simpa using h4
theorem sortM_snoc {M : TM} (hn : (keys M).Nodup) {n : Int} (h : ∀ x ∈ keys M,x < n) (g : List (Int × Rat)) : sortM (M ++ [(n,g)]) = sortM M ++ [(n,g)] := by
 unfold sortM
 rw [keys_append,show keys [(n,g)] = [n] from rfl,sortK_snoc hn h,List.map_append]
 congr 1
 ·refine List.map_congr_left fun b hb => ?_
  rw [look_snoc (mem_sortK.1 hb)]
 ·have hnn : n ∉ keys M := fun hm => by have := h n hm;omega
  have hnd : (keys (M ++ [(n,g)])).Nodup := by
   rw [keys_append,List.nodup_append]
   refine ⟨hn,by simp [keys],?_⟩
   rintro a ha b hb rfl
   simp [keys] at hb
   subst hb
   exact hnn ha
  simp only [List.map_cons,List.map_nil]
  rw [look_of hnd (g := g) (by simp)]
  rfl
theorem sUf {G G' : Prop} (h : G') (e : G = G' := by conv => lhs;simp (disch := omega) only [rowsOf,cNat,cN,St.ret,St.seth,Eff.app,Eff.wi,sepL,guardOf,St.known,objOf,List.set,sliceW,litW,copyW,lenOf,bnd,mxOk,ofCells,TI.isAgg,cellsOf,storable,AV.one,dead,laid,overlay,reduceCtorEq,Int.reduceLE,Int.reduceLT,Int.reduceSub,Int.reduceAdd,Nat.reduceMul,Int.reduceToNat,Nat.reducePow,Int.reduceNeg,Nat.reduceAdd,Nat.reduceLT,Nat.reduceLeDiff,sA,sB,Nat.reduceEqDiff,cQ,rowQ,rowU,rowT,rowM,i64s_getD,i64s_length,i64s_all,tab_length,tab_drop,tab_take,tab_append,tab_nil,rowT_all,rowT_one,rowT_pure,rowU_all,rowU_one,rowU_pure,rowQ_all,rowQ_one,rowQ_pure,rowM_all,rowM_one,rowM_pure,List.take_length,List.length_append,sT]) : G := e.mpr h
theorem sUfX {G G' P : Prop} (p : P) (h : G') (e : P → G = G' := by intro p;conv => lhs;simp (disch := omega) only [rowsOf,cNat,cN,St.ret,St.seth,Eff.app,Eff.wi,sepL,guardOf,St.known,objOf,List.set,sliceW,litW,copyW,lenOf,bnd,mxOk,ofCells,TI.isAgg,cellsOf,storable,AV.one,dead,laid,overlay,reduceCtorEq,Int.reduceLE,Int.reduceLT,Int.reduceSub,Int.reduceAdd,Nat.reduceMul,Int.reduceToNat,Nat.reducePow,Int.reduceNeg,Nat.reduceAdd,Nat.reduceLT,Nat.reduceLeDiff,sA,sB,Nat.reduceEqDiff,cQ,rowQ,rowU,rowT,rowM,i64s_getD,i64s_length,i64s_all,tab_length,tab_drop,tab_take,tab_append,tab_nil,rowT_all,rowT_one,rowT_pure,rowU_all,rowU_one,rowU_pure,rowQ_all,rowQ_one,rowQ_pure,rowM_all,rowM_one,rowM_pure,List.take_length,List.length_append,sT,p]) : G := (e p).mpr h
theorem sUfV {G G' : Prop} (h : G') (e : G = G' := by conv => lhs;simp (disch := omega) only [rowsOf,cNat,cN,St.ret,St.seth,Eff.app,Eff.wi,sepL,guardOf,St.known,objOf,List.set,sliceW,litW,copyW,lenOf,bnd,mxOk,ofCells,TI.isAgg,cellsOf,storable,AV.one,dead,laid,overlay,reduceCtorEq,Int.reduceLE,Int.reduceLT,Int.reduceSub,Int.reduceAdd,Nat.reduceMul,Int.reduceToNat,Nat.reducePow,Int.reduceNeg,Nat.reduceAdd,Nat.reduceLT,Nat.reduceLeDiff,sA,sB,Nat.reduceEqDiff,cQ,rowQ,rowU,rowT,rowM,i64s_getD,i64s_length,i64s_all,tab_length,tab_drop,tab_take,tab_append,tab_nil,rowT_all,rowT_one,rowT_pure,rowU_all,rowU_one,rowU_pure,rowQ_all,rowQ_one,rowQ_pure,rowM_all,rowM_one,rowM_pure,List.take_length,List.length_append,sT,view_sref,viewRef,view_agg,views_cons,views_nil,view_bool,view_int,view_sl,view_nils,view_str,view_tup,view_nilif]) : G := e.mpr h
theorem aUf {G G' : Prop} (h : G') (f : Wr G' → G := by intro h;(repeat (first|(refine W_seqV fun K hK => ?_;(try (refine sUf ?_;try exact True.intro));(repeat refine aI ?_);refine hK _ ?_;clear hK K)|(refine W_seqR fun K hK => ?_;(try (refine sUf ?_;try exact True.intro));(repeat refine aI ?_);refine hK _ ?_;clear hK K)|(refine W_seqD mixed [] (by kernel_rfl) fun K hK => ?_;(try (refine sUf ?_;try exact True.intro));(repeat refine aI ?_);refine hK _ ?_;clear hK K)));exact h.out) : G := f ⟨h⟩
theorem len_neI (n : Nat) : ((n : Int) != (n : Int)) = false := by simp
theorem int_neI (n : Int) : (n != n) = false := by simp
theorem bool_eqI (b : Bool) : (b == b) = true := by simp
theorem f1same_ok (l : List Nat) (h : l.length < 1099511627776) : Pure Tryz.prog 114 [.sl (u32s l),.sl (u32s l)] (· = .bool true) := by
 have hz := len_neI l.length
 (refine pureW Tryz.func114 rfl (rs := [Go.ResultVar.tmp 4]) rfl (n := 26) rfl ?_;simp only [List.length_cons,List.length_nil,List.replicate,List.cons_append,List.nil_append])
 (refine aUf ?_)
 refine W_seq ?_
 ((first | refine W_seqV ?_ | refine W_seq (W_seqV ?_) | refine W_regV ?_);intro K hK;(refine sUfX hz ?_;try exact True.intro))
 (repeat refine aI ?_);refine hK _ ?_;clear hK K
 (first | refine W_cf rfl ?_ | refine W_seq (W_cf rfl ?_))
 refine W_skip ?_
 simp only [thenW]
 refine W_seq ?_
 ((first | refine W_seqV ?_ | refine W_seq (W_seqV ?_) | refine W_regV ?_);intro K hK;(refine sUf ?_;try exact True.intro))
 (repeat refine aI ?_);refine hK _ ?_;clear hK K
 refine W_block (W_loop (fun t : {t : Nat // t ≤ l.length} =>
   ⟨[.sl (u32s l),.sl (u32s l),.any,.any,.any,.int .i64 t.1,.any,.any,.any,.any,.any,.any,.any,.any,.any,.any,.any,.any,.any,.any,.any,.any,.any,.any,.any,.any],[.dead,.dead,.dead,.dead,.dead,.dead,.dead,.dead,.dead,.dead,.dead,.dead,.dead,.dead,.dead,.dead,.dead,.dead,.dead,.dead,.dead,.dead,.dead,.dead,.dead,.dead]⟩) (fun t => l.length - t.1)
   ⟨0,by omega⟩ (Le_of (by simp [leE]) (by simp)) fun t => ?_)
 obtain ⟨i,hi⟩ := t
 dsimp only
 by_cases hlt : i < l.length
 ·generalize hx : l.getD i 0 = x
  have hzx := len_neI x
  refine W_seq ?_
  ((first | refine W_seqV ?_ | refine W_seq (W_seqV ?_) | refine W_regV ?_);intro K hK;(refine sUfX hlt ?_;try exact True.intro))
  (repeat refine aI ?_);refine hK _ ?_;clear hK K
  (first | refine W_ct rfl ?_ | refine W_seq (W_ct rfl ?_))
  refine W_skip ?_
  simp only [thenW]
  refine W_seq ?_
  refine W_block ?_
  ((first | refine W_seqD mixed [] (by kernel_rfl) ?_ | refine W_seq (W_seqD mixed [] (by kernel_rfl) ?_) | refine W_regD mixed [] (by kernel_rfl) ?_);intro K hK;(refine sUfX (And.intro hlt (And.intro hx hzx)) ?_;try exact True.intro))
  (repeat refine aI ?_);refine hK _ ?_;clear hK K
  (first | refine W_cf rfl ?_ | refine W_seq (W_cf rfl ?_))
  refine W_skip ?_
  simp only [blockW,thenW]
  ((first | refine W_seqV ?_ | refine W_seq (W_seqV ?_) | refine W_regV ?_);intro K hK;(refine sUf ?_;try exact True.intro))
  (repeat refine aI ?_);refine hK _ ?_;clear hK K
  simp only [blockW,thenW]
  refine ⟨⟨i + 1,by omega⟩,Le_drop (by simp [leE]) (by simp [leH]) rfl rfl,?_⟩
  dsimp only
  omega
 ·obtain rfl : i = l.length := by omega
  refine W_seq ?_
  ((first | refine W_seqV ?_ | refine W_seq (W_seqV ?_) | refine W_regV ?_);intro K hK;(refine sUf ?_;try exact True.intro))
  (repeat refine aI ?_);refine hK _ ?_;clear hK K
  (first | refine W_cf rfl ?_ | refine W_seq (W_cf rfl ?_))
  refine W_exit ?_
  simp only [thenW,blockW,if_true]
  (repeat' (first|(exfalso;simp at h;done)|refine W_block ?_ |((first|refine W_seqV fun K hK => ?_|refine W_regV fun K hK => ?_);(try (refine sUf ?_;try exact True.intro));(repeat refine aI ?_);refine hK _ ?_;clear hK K)|((first|refine W_seqR fun K hK => ?_|refine W_regR fun K hK => ?_);(try (refine sUf ?_;try exact True.intro));(repeat refine aI ?_);refine hK _ ?_;clear hK K)|((first|refine W_seqD mixed [] (by kernel_rfl) fun K hK => ?_|refine W_regD mixed [] (by kernel_rfl) fun K hK => ?_);(try (refine sUf ?_;try exact True.intro));(repeat refine aI ?_);refine hK _ ?_;clear hK K)|refine W_skip ?_|(refine W_ret ?_;(refine qG ?_;try exact True.intro))|(refine W_exit ?_;simp only [thenW,blockW,if_true,reduceCtorEq,if_false,Nat.reduceEqDiff])|(refine W_cond rfl (fun h => ?_) (fun h => ?_) <;> (try simp only [cond_true,cond_false,ne_eq,cB] at h))|refine W_seq ?_))
theorem f3same_ok (r : RR) (h : r.ok) : Pure Tryz.prog 72 [r.av,r.av] (· = .bool true) := by
 have h1 := f1same_ok r.num (by have := h.nl;omega)
 have h2 := f1same_ok r.den (by have := h.dl;omega)
 have hb := bool_eqI r.neg
 obtain ⟨neg,n,d⟩ := r
 simp only [RR.av] at *
 (refine pureW Tryz.func72 rfl (rs := [Go.ResultVar.tmp 4]) rfl (n := 28) rfl ?_;simp only [List.length_cons,List.length_nil,List.replicate,List.cons_append,List.nil_append])
 (refine aUf ?_)
 ((first | refine W_seqV ?_ | refine W_seq (W_seqV ?_) | refine W_regV ?_);intro K hK;(refine sUfX hb ?_;try exact True.intro))
 ((repeat refine aI ?_);refine ⟨by kernel_rfl,_,.pure rfl (h1),?_⟩;(try (refine sUf ?_;try exact True.intro));(repeat refine aI ?_))
 ((repeat refine aI ?_);refine ⟨by kernel_rfl,_,.pure rfl (h2),?_⟩;(try (refine sUf ?_;try exact True.intro));(repeat refine aI ?_))
 (repeat refine aI ?_);refine hK _ ?_;clear hK K
 refine W_ret ?_
 (refine qG ?_;try exact True.intro);try (refine sUfV ?_;try exact True.intro)
theorem r7sameForm_ok (f : List (Int × RR)) (h : ∀ p ∈ f,p.2.ok) (hl : f.length < 1099511627776) : Pure Tryz.prog 27 [cF f,cF f] (· = .bool true) := by
 have hz := len_neI f.length
 have hs : ∀ i,i < f.length → Pure Tryz.prog 72 [(f.getD i default).2.av,(f.getD i default).2.av] (· = .bool true) := fun i hi => f3same_ok _ (h _ (getD_mem hi))
 simp only [cF,RR.av] at *
 (refine pureW Tryz.func27 rfl (rs := [Go.ResultVar.tmp 4]) rfl (n := 42) rfl ?_;simp only [List.length_cons,List.length_nil,List.replicate,List.cons_append,List.nil_append])
 (refine aUf ?_)
 ((first | refine W_seqV ?_ | refine W_seq (W_seqV ?_) | refine W_regV ?_);intro K hK;(refine sUfX hz ?_;try exact True.intro))
 (repeat refine aI ?_);refine hK _ ?_;clear hK K
 (first | refine W_cf rfl ?_ | refine W_seq (W_cf rfl ?_))
 refine W_skip ?_
 simp only [thenW]
 refine W_seq ?_
 ((first | refine W_seqV ?_ | refine W_seq (W_seqV ?_) | refine W_regV ?_);intro K hK;(refine sUf ?_;try exact True.intro))
 (repeat refine aI ?_);refine hK _ ?_;clear hK K
 refine W_block (W_loop (fun t : {t : Nat // t ≤ f.length} =>
   ⟨[.sl (tab rowM f),.sl (tab rowM f),.any,.any,.any,.int .i64 t.1,.any,.any,.any,.any,.any,.any,.any,.any,.any,.any,.any,.any,.any,.any,.any,.any,.any,.any,.any,.any,.any,.any,.any,.any,.any,.any,.any,.any,.any,.any,.any,.any,.any,.any,.any,.any],[.dead,.dead,.dead,.dead,.dead,.dead,.dead,.dead,.dead,.dead,.dead,.dead,.dead,.dead,.dead,.dead,.dead,.dead,.dead,.dead,.dead,.dead,.dead,.dead,.dead,.dead,.dead,.dead,.dead,.dead,.dead,.dead,.dead,.dead,.dead,.dead,.dead,.dead,.dead,.dead,.dead,.dead]⟩) (fun t => f.length - t.1)
   ⟨0,by omega⟩ (Le_of (by simp [leE]) (by simp)) fun t => ?_)
 obtain ⟨i,hi⟩ := t
 dsimp only
 by_cases hlt : i < f.length
 ·have hfi : (tab rowM f).getD i [] = rowM (f.getD i default) := tab_getD hlt
  have hsi := hs i hlt
  generalize f.getD i default = p at *
  obtain ⟨v,neg,n,d⟩ := p
  simp only [rowM] at hfi
  dsimp only at *
  have hzx := int_neI v
  refine W_seq ?_
  ((first | refine W_seqV ?_ | refine W_seq (W_seqV ?_) | refine W_regV ?_);intro K hK;(refine sUfX hlt ?_;try exact True.intro))
  (repeat refine aI ?_);refine hK _ ?_;clear hK K
  (first | refine W_ct rfl ?_ | refine W_seq (W_ct rfl ?_))
  refine W_skip ?_
  simp only [thenW]
  refine W_seq ?_
  refine W_block ?_
  ((first | refine W_seqD mixed [] (by kernel_rfl) ?_ | refine W_seq (W_seqD mixed [] (by kernel_rfl) ?_) | refine W_regD mixed [] (by kernel_rfl) ?_);intro K hK;(refine sUfX (And.intro hlt (And.intro hfi hzx)) ?_;try exact True.intro))
  ((repeat refine aI ?_);refine ⟨by kernel_rfl,_,.pure rfl (hsi),?_⟩;(try (refine sUf ?_;try exact True.intro));(repeat refine aI ?_))
  (repeat refine aI ?_);refine hK _ ?_;clear hK K
  (first | refine W_cf rfl ?_ | refine W_seq (W_cf rfl ?_))
  refine W_skip ?_
  simp only [blockW,thenW]
  ((first | refine W_seqV ?_ | refine W_seq (W_seqV ?_) | refine W_regV ?_);intro K hK;(refine sUf ?_;try exact True.intro))
  (repeat refine aI ?_);refine hK _ ?_;clear hK K
  simp only [blockW,thenW]
  refine ⟨⟨i + 1,by omega⟩,Le_drop (by simp [leE]) (by simp [leH]) rfl rfl,?_⟩
  dsimp only
  omega
 ·obtain rfl : i = f.length := by omega
  refine W_seq ?_
  ((first | refine W_seqV ?_ | refine W_seq (W_seqV ?_) | refine W_regV ?_);intro K hK;(refine sUf ?_;try exact True.intro))
  (repeat refine aI ?_);refine hK _ ?_;clear hK K
  (first | refine W_cf rfl ?_ | refine W_seq (W_cf rfl ?_))
  refine W_exit ?_
  simp only [thenW,blockW,if_true]
  (repeat' (first|(exfalso;simp at h;done)|refine W_block ?_ |((first|refine W_seqV fun K hK => ?_|refine W_regV fun K hK => ?_);(try (refine sUf ?_;try exact True.intro));(repeat refine aI ?_);refine hK _ ?_;clear hK K)|((first|refine W_seqR fun K hK => ?_|refine W_regR fun K hK => ?_);(try (refine sUf ?_;try exact True.intro));(repeat refine aI ?_);refine hK _ ?_;clear hK K)|((first|refine W_seqD mixed [] (by kernel_rfl) fun K hK => ?_|refine W_regD mixed [] (by kernel_rfl) fun K hK => ?_);(try (refine sUf ?_;try exact True.intro));(repeat refine aI ?_);refine hK _ ?_;clear hK K)|refine W_skip ?_|(refine W_ret ?_;(refine qG ?_;try exact True.intro))|(refine W_exit ?_;simp only [thenW,blockW,if_true,reduceCtorEq,if_false,Nat.reduceEqDiff])|(refine W_cond rfl (fun h => ?_) (fun h => ?_) <;> (try simp only [cond_true,cond_false,ne_eq,cB] at h))|refine W_seq ?_))
structure TS (t : TR) : Prop where
 ok : ∀ r ∈ t,∀ p ∈ r.2,p.2.ok
 fl : ∀ r ∈ t,r.2.length < 1099511627776
 len : t.length < 1099511627776
theorem TOk.ts {t : TR} (h : TOk t) : TS t := ⟨h.ok,fun r hr => by have := nbs_len (vals r.2);have := h.nbs hr;rw [vals_length] at *;omega,by have := h.len;omega⟩
theorem r7alike_ok (n : Int) (t : TR) (h : TS t) : Pure Tryz.prog 65 [cT n t,cT n t] (· = .bool true) := by
 have hz := len_neI t.length
 have hzn := int_neI n
 have hlen := h.len
 have hs : ∀ i,i < t.length → Pure Tryz.prog 27 [cF (t.getD i default).2,cF (t.getD i default).2] (· = .bool true) := fun i hi => r7sameForm_ok _ (h.ok _ (getD_mem hi)) (h.fl _ (getD_mem hi))
 simp only [cF,cT] at *
 (refine pureW Tryz.func65 rfl (rs := [Go.ResultVar.tmp 4]) rfl (n := 56) rfl ?_;simp only [List.length_cons,List.length_nil,List.replicate,List.cons_append,List.nil_append])
 (refine aUf ?_)
 ((first | refine W_seqV ?_ | refine W_seq (W_seqV ?_) | refine W_regV ?_);intro K hK;(refine sUfX (And.intro hz hzn) ?_;try exact True.intro))
 (repeat refine aI ?_);refine hK _ ?_;clear hK K
 (first | refine W_cf rfl ?_ | refine W_seq (W_cf rfl ?_))
 refine W_skip ?_
 simp only [thenW]
 refine W_seq ?_
 ((first | refine W_seqV ?_ | refine W_seq (W_seqV ?_) | refine W_regV ?_);intro K hK;(refine sUf ?_;try exact True.intro))
 (repeat refine aI ?_);refine hK _ ?_;clear hK K
 refine W_block (W_loop (fun s : {i : Nat // i ≤ t.length} =>
   ⟨[.any,.any,.ptr 2 0 0,.ptr 3 0 0,.any,.int .i64 s.1,.any,.any,.any,.any,.any,.any,.any,.any,.any,.any,.any,.any,.any,.any,.any,.any,.any,.any,.any,.any,.any,.any,.any,.any,.any,.any,.any,.any,.any,.any,.any,.any,.any,.any,.any,.any,.any,.any,.any,.any,.any,.any,.any,.any,.any,.any,.any,.any,.any,.any],[.dead,.dead,.arr 24 2 false [[.int .i64 n,.sl (tab rowT t)]],.arr 24 2 false [[.int .i64 n,.sl (tab rowT t)]],.dead,.dead,.dead,.dead,.dead,.dead,.dead,.dead,.dead,.dead,.dead,.dead,.dead,.dead,.dead,.dead,.dead,.dead,.dead,.dead,.dead,.dead,.dead,.dead,.dead,.dead,.dead,.dead,.dead,.dead,.dead,.dead,.dead,.dead,.dead,.dead,.dead,.dead,.dead,.dead,.dead,.dead,.dead,.dead,.dead,.dead,.dead,.dead,.dead,.dead,.dead,.dead]⟩) (fun s => t.length - s.1)
   ⟨0,by omega⟩ (Le_drop (by simp [leE]) (by simp [leH]) rfl rfl) fun s => ?_)
 obtain ⟨i,hi⟩ := s
 dsimp only
 by_cases hlt : i < t.length
 ·have hti : (tab rowT t).getD i [] = rowT (t.getD i default) := tab_getD hlt
  have hsi := hs i hlt
  generalize t.getD i default = r at *
  obtain ⟨b,f⟩ := r
  simp only [rowT] at hti
  dsimp only at *
  have hzx := int_neI b
  refine W_seq ?_
  ((first | refine W_seqV ?_ | refine W_seq (W_seqV ?_) | refine W_regV ?_);intro K hK;(refine sUfX hlt ?_;try exact True.intro))
  (repeat refine aI ?_);refine hK _ ?_;clear hK K
  (first | refine W_ct rfl ?_ | refine W_seq (W_ct rfl ?_))
  refine W_skip ?_
  simp only [thenW]
  refine W_seq ?_
  refine W_block ?_
  ((first | refine W_seqD mixed [] (by kernel_rfl) ?_ | refine W_seq (W_seqD mixed [] (by kernel_rfl) ?_) | refine W_regD mixed [] (by kernel_rfl) ?_);intro K hK;(refine sUfX (And.intro hlt (And.intro hti hzx)) ?_;try exact True.intro))
  ((repeat refine aI ?_);refine ⟨by kernel_rfl,_,.pure rfl (hsi),?_⟩;(try (refine sUf ?_;try exact True.intro));(repeat refine aI ?_))
  (repeat refine aI ?_);refine hK _ ?_;clear hK K
  (first | refine W_cf rfl ?_ | refine W_seq (W_cf rfl ?_))
  refine W_skip ?_
  simp only [blockW,thenW]
  ((first | refine W_seqV ?_ | refine W_seq (W_seqV ?_) | refine W_regV ?_);intro K hK;(refine sUf ?_;try exact True.intro))
  (repeat refine aI ?_);refine hK _ ?_;clear hK K
  simp only [blockW,thenW]
  refine ⟨⟨i + 1,by omega⟩,Le_drop (by simp [leE]) (by simp [leH]) rfl rfl,?_⟩
  dsimp only
  omega
 ·obtain rfl : i = t.length := by omega
  refine W_seq ?_
  ((first | refine W_seqV ?_ | refine W_seq (W_seqV ?_) | refine W_regV ?_);intro K hK;(refine sUf ?_;try exact True.intro))
  (repeat refine aI ?_);refine hK _ ?_;clear hK K
  (first | refine W_cf rfl ?_ | refine W_seq (W_cf rfl ?_))
  refine W_exit ?_
  simp only [thenW,blockW,if_true]
  (repeat' (first|(exfalso;simp at h;done)|refine W_block ?_ |((first|refine W_seqV fun K hK => ?_|refine W_regV fun K hK => ?_);(try (refine sUf ?_;try exact True.intro));(repeat refine aI ?_);refine hK _ ?_;clear hK K)|((first|refine W_seqR fun K hK => ?_|refine W_regR fun K hK => ?_);(try (refine sUf ?_;try exact True.intro));(repeat refine aI ?_);refine hK _ ?_;clear hK K)|((first|refine W_seqD mixed [] (by kernel_rfl) fun K hK => ?_|refine W_regD mixed [] (by kernel_rfl) fun K hK => ?_);(try (refine sUf ?_;try exact True.intro));(repeat refine aI ?_);refine hK _ ?_;clear hK K)|refine W_skip ?_|(refine W_ret ?_;(refine qG ?_;try exact True.intro))|(refine W_exit ?_;simp only [thenW,blockW,if_true,reduceCtorEq,if_false,Nat.reduceEqDiff])|(refine W_cond rfl (fun h => ?_) (fun h => ?_) <;> (try simp only [cond_true,cond_false,ne_eq,cB] at h))|refine W_seq ?_))
theorem lalike_ok (n : Int) (t : TR) (h : TS t) : Pure Tryz.prog 20 [cT n t,cT n t] (· = .bool true) := by
 have a := r7alike_ok n t h
 unfold cT at *
 (refine pureW Tryz.func20 rfl (rs := [Go.ResultVar.tmp 4]) rfl (n := 8) rfl ?_;simp only [List.length_cons,List.length_nil,List.replicate,List.cons_append,List.nil_append])
 (refine aUf ?_)
 ((first | refine W_seqV ?_ | refine W_seq (W_seqV ?_) | refine W_regV ?_);intro K hK;(refine sUf ?_;try exact True.intro))
 ((repeat refine aI ?_);refine ⟨by kernel_rfl,_,.pure rfl (a),?_⟩;(try (refine sUf ?_;try exact True.intro));(repeat refine aI ?_))
 (repeat refine aI ?_);refine hK _ ?_;clear hK K
 refine W_ret ?_
 (refine qG ?_;try exact True.intro);try (refine sUfV ?_;try exact True.intro)
def rfT (M : TM) : TR := M.map fun r => (r.1,rf r.2)
theorem cU_rf (n : Int) (M : TM) : cT n (rfT M) = cU n M := by
 unfold cT cU rfT
 congr 4
 unfold tab
 rw [List.map_map]
 refine List.map_congr_left fun r _ => ?_
 simp only [Function.comp,rowT,rowU]
 rw [tab_rf]
theorem MOk.ts {M : TM} {B : Nat} (h : MOk M B) (hB : B < 17179869184) : TS (rfT M) := by
 refine ⟨fun r hr p hp => ?_,fun r hr => ?_,by simp only [rfT,List.length_map];exact h.len⟩
 ·obtain ⟨q,hq,rfl⟩ := List.mem_map.1 hr
  obtain ⟨x,hx,rfl⟩ := List.mem_map.1 hp
  have := (h.sz q hq).mem hx
  exact qr_ok (by omega)
 ·obtain ⟨q,hq,rfl⟩ := List.mem_map.1 hr
  have := (h.sz q hq).l
  simp only [rf,List.length_map]
  omega
theorem mnat_ok (l : List Nat) (h : l.length < 1099511627776) : Pure Tryz.prog 111 [.sl (u32s l)] (· = .sl (u32s l)) := by
 (refine pureW Tryz.func111 rfl (rs := [Go.ResultVar.tmp 2]) rfl (n := 19) rfl ?_;simp only [List.length_cons,List.length_nil,List.replicate,List.cons_append,List.nil_append])
 (refine aUf ?_)
 refine W.le ?_ (Le_nil 3 3 128 1 true rfl rfl)
 simp only [List.set]
 refine W_seq ?_
 ((first | refine W_seqV ?_ | refine W_seq (W_seqV ?_) | refine W_regV ?_);intro K hK;(refine sUf ?_;try exact True.intro))
 (repeat refine aI ?_);refine hK _ ?_;clear hK K
 refine W_block (W_loop (fun t : {t : Nat // t ≤ l.length} =>
   ⟨[.sl (u32s l),.any,.any,.sref 3 0 t.1,.int .i64 t.1,.any,.any,.any,.any,.any,.any,.any,.any,.any,.any,.any,.any,.any,.any],[.dead,.dead,.dead,.arr 128 1 true (u32s (l.take t.1)),.dead,.dead,.dead,.dead,.dead,.dead,.dead,.dead,.dead,.dead,.dead,.dead,.dead,.dead,.dead]⟩) (fun t => l.length - t.1)
   ⟨0,by omega⟩ (Le_drop (by simp [leE]) (by simp [leH,u32s]) rfl rfl) fun t => ?_)
 obtain ⟨i,hi⟩ := t
 dsimp only
 have htl : (l.take i).length = i := by rw [List.length_take];omega
 by_cases hlt : i < l.length
 ·have hst : l.take (i + 1) = l.take i ++ [l.getD i 0] := by
   rw [List.take_succ_eq_append_getElem hlt]
   simp [List.getD_eq_getElem?_getD,hlt]
  generalize hx : l.getD i 0 = x at *
  generalize hP : l.take i = P at *
  refine W_seq ?_
  ((first | refine W_seqV ?_ | refine W_seq (W_seqV ?_) | refine W_regV ?_);intro K hK;(refine sUfX hlt ?_;try exact True.intro))
  (repeat refine aI ?_);refine hK _ ?_;clear hK K
  (first | refine W_ct rfl ?_ | refine W_seq (W_ct rfl ?_))
  refine W_skip ?_
  simp only [thenW]
  refine W_seq ?_
  refine W_block ?_
  refine W_regR fun K hK => ?_
  (refine sUfX (And.intro hx (And.intro hlt htl)) ?_;try exact True.intro)
  (repeat refine aI ?_)
  refine hK _ ?_
  clear hK K
  simp only [blockW,thenW]
  ((first | refine W_seqV ?_ | refine W_seq (W_seqV ?_) | refine W_regV ?_);intro K hK;(refine sUf ?_;try exact True.intro))
  (repeat refine aI ?_);refine hK _ ?_;clear hK K
  simp only [blockW,thenW]
  refine ⟨⟨i + 1,by omega⟩,Le_drop (by simp [leE]) (by simp [leH,hst,u32s,List.take_of_length_le,htl]) rfl rfl,?_⟩
  dsimp only
  omega
 ·obtain rfl : i = l.length := by omega
  rw [List.take_length]
  refine W_seq ?_
  ((first | refine W_seqV ?_ | refine W_seq (W_seqV ?_) | refine W_regV ?_);intro K hK;(refine sUf ?_;try exact True.intro))
  (repeat refine aI ?_);refine hK _ ?_;clear hK K
  (first | refine W_cf rfl ?_ | refine W_seq (W_cf rfl ?_))
  refine W_exit ?_
  simp only [thenW,blockW,if_true]
  (refine W.le ?_ (Le_freeze 3 (rows := u32s l) rfl (by simp) (.inl rfl));simp only [St.freeze,List.map_cons,List.map_nil,List.set,if_true,if_false,Nat.reduceEqDiff,reduceCtorEq,List.drop_zero,u32s_take,u32s_drop,froz_any,froz_und,froz_int,froz_bool,froz_str,froz_nils,froz_sl,froz_ia,froz_nilp,froz_nilif,froz_nilfn,froz_nilmp,froz_gl,froz_sref,froz_ptr,froz_agg,froz_tup,froz_fn,froz_ifc,frozs_nil,frozs_cons,froz_dead,froz_arr,froz_mp,froz_it,froz_md,froz_map,froz_iter])
  (repeat' (first|(exfalso;simp at h;done)|refine W_block ?_ |((first|refine W_seqV fun K hK => ?_|refine W_regV fun K hK => ?_);(try (refine sUf ?_;try exact True.intro));(repeat refine aI ?_);refine hK _ ?_;clear hK K)|((first|refine W_seqR fun K hK => ?_|refine W_regR fun K hK => ?_);(try (refine sUf ?_;try exact True.intro));(repeat refine aI ?_);refine hK _ ?_;clear hK K)|((first|refine W_seqD mixed [] (by kernel_rfl) fun K hK => ?_|refine W_regD mixed [] (by kernel_rfl) fun K hK => ?_);(try (refine sUf ?_;try exact True.intro));(repeat refine aI ?_);refine hK _ ?_;clear hK K)|refine W_skip ?_|(refine W_ret ?_;(refine qG ?_;try exact True.intro))|(refine W_exit ?_;simp only [thenW,blockW,if_true,reduceCtorEq,if_false,Nat.reduceEqDiff])|(refine W_cond rfl (fun h => ?_) (fun h => ?_) <;> (try simp only [cond_true,cond_false,ne_eq,cB] at h))|refine W_seq ?_))
theorem mint_ok (neg : Bool) (l : List Nat) (h : l.length < 1099511627776) : Pure Tryz.prog 110 [.agg [.bool neg,.sl (u32s l)]] (· = .agg [.bool neg,.sl (u32s l)]) := by
 have a := mnat_ok l h
 (refine pureW Tryz.func110 rfl (rs := [Go.ResultVar.cell 2 51]) rfl (n := 9) rfl ?_;simp only [List.length_cons,List.length_nil,List.replicate,List.cons_append,List.nil_append])
 (refine aUf ?_)
 ((first | refine W_seqS mixed 6 [] (by kernel_rfl) ?_ | refine W_seq (W_seqS mixed 6 [] (by kernel_rfl) ?_) | refine W_regS mixed 6 [] (by kernel_rfl) ?_);intro K hK;(refine sUf ?_;try exact True.intro))
 ((repeat refine aI ?_);refine ⟨by kernel_rfl,_,.pure rfl (a),?_⟩;(try (refine sUf ?_;try exact True.intro));(repeat refine aI ?_))
 (repeat refine aI ?_);refine hK _ ?_;clear hK K
 refine W_ret ?_
 (refine qG ?_;try exact True.intro);try (refine sUfV ?_;try exact True.intro)
theorem mrat_ok (r : RR) (h : r.ok) : Pure Tryz.prog 68 [r.av] (· = r.av) := by
 have a1 := mint_ok r.neg r.num (by have := h.nl;omega)
 have a2 := mnat_ok r.den (by have := h.dl;omega)
 obtain ⟨neg,n,d⟩ := r
 simp only [RR.av] at *
 (refine pureW Tryz.func68 rfl (rs := [Go.ResultVar.cell 2 53]) rfl (n := 10) rfl ?_;simp only [List.length_cons,List.length_nil,List.replicate,List.cons_append,List.nil_append])
 (refine aUf ?_)
 ((first | refine W_seqS mixed 7 [] (by kernel_rfl) ?_ | refine W_seq (W_seqS mixed 7 [] (by kernel_rfl) ?_) | refine W_regS mixed 7 [] (by kernel_rfl) ?_);intro K hK;(refine sUf ?_;try exact True.intro))
 ((repeat refine aI ?_);refine ⟨by kernel_rfl,_,.pure rfl (a1),?_⟩;(try (refine sUf ?_;try exact True.intro));(repeat refine aI ?_))
 ((repeat refine aI ?_);refine ⟨by kernel_rfl,_,.pure rfl (a2),?_⟩;(try (refine sUf ?_;try exact True.intro));(repeat refine aI ?_))
 (repeat refine aI ?_);refine hK _ ?_;clear hK K
 refine W_ret ?_
 (refine qG ?_;try exact True.intro);try (refine sUfV ?_;try exact True.intro)
theorem mform_ok (f : List (Int × RR)) (h : ∀ p ∈ f,p.2.ok) (hl : f.length < 1099511627776) : Pure Tryz.prog 22 [cF f] (· = cF f) := by
 have hs : ∀ i,i < f.length → Pure Tryz.prog 68 [(f.getD i default).2.av] (· = (f.getD i default).2.av) := fun i hi => mrat_ok _ (h _ (getD_mem hi))
 have hst : ∀ i,i < f.length → f.take (i + 1) = f.take i ++ [f.getD i default] := fun i hi => take_snoc hi
 simp only [cF,RR.av] at *
 (refine pureW Tryz.func22 rfl (rs := [Go.ResultVar.tmp 2]) rfl (n := 27) rfl ?_;simp only [List.length_cons,List.length_nil,List.replicate,List.cons_append,List.nil_append])
 (refine aUf ?_)
 refine W.le ?_ (Le_nil 3 3 55 4 true rfl rfl)
 simp only [List.set]
 refine W_seq ?_
 ((first | refine W_seqV ?_ | refine W_seq (W_seqV ?_) | refine W_regV ?_);intro K hK;(refine sUf ?_;try exact True.intro))
 (repeat refine aI ?_);refine hK _ ?_;clear hK K
 refine W_block (W_loop (fun t : {t : Nat // t ≤ f.length} =>
   ⟨[.sl (tab rowM f),.any,.any,.sref 3 0 t.1,.int .i64 t.1,.any,.any,.any,.any,.any,.any,.any,.any,.any,.any,.any,.any,.any,.any,.any,.any,.any,.any,.any,.any,.any,.any],[.dead,.dead,.dead,.arr 55 4 true (tab rowM (f.take t.1)),.dead,.dead,.dead,.dead,.dead,.dead,.dead,.dead,.dead,.dead,.dead,.dead,.dead,.dead,.dead,.dead,.dead,.dead,.dead,.dead,.dead,.dead,.dead]⟩) (fun t => f.length - t.1)
   ⟨0,by omega⟩ (Le_drop (by simp [leE]) (by simp [leH,tab]) rfl rfl) fun t => ?_)
 obtain ⟨i,hi⟩ := t
 dsimp only
 have htl : (f.take i).length = i := by rw [List.length_take];omega
 by_cases hlt : i < f.length
 ·have hfi : (tab rowM f).getD i [] = rowM (f.getD i default) := tab_getD hlt
  have hsi := hs i hlt
  have hsti := hst i hlt
  generalize f.getD i default = p at *
  obtain ⟨v,neg,n,d⟩ := p
  simp only [rowM] at hfi
  dsimp only at *
  generalize f.take i = P at *
  refine W_seq ?_
  ((first | refine W_seqV ?_ | refine W_seq (W_seqV ?_) | refine W_regV ?_);intro K hK;(refine sUfX hlt ?_;try exact True.intro))
  (repeat refine aI ?_);refine hK _ ?_;clear hK K
  (first | refine W_ct rfl ?_ | refine W_seq (W_ct rfl ?_))
  refine W_skip ?_
  simp only [thenW]
  refine W_seq ?_
  refine W_block ?_
  ((first | refine W_seqS mixed 14 [] (by kernel_rfl) ?_ | refine W_seq (W_seqS mixed 14 [] (by kernel_rfl) ?_) | refine W_regS mixed 14 [] (by kernel_rfl) ?_);intro K hK;(refine sUfX (And.intro hlt hfi) ?_;try exact True.intro))
  ((repeat refine aI ?_);refine ⟨by kernel_rfl,_,.pure rfl (hsi),?_⟩;(try (refine sUf ?_;try exact True.intro));(repeat refine aI ?_))
  (repeat refine aI ?_);refine hK _ ?_;clear hK K
  simp only [blockW,thenW]
  ((first | refine W_seqV ?_ | refine W_seq (W_seqV ?_) | refine W_regV ?_);intro K hK;(refine sUf ?_;try exact True.intro))
  (repeat refine aI ?_);refine hK _ ?_;clear hK K
  simp only [blockW,thenW]
  refine ⟨⟨i + 1,by omega⟩,Le_drop (by simp [leE]) (by simp [leH,hsti,← tab_snoc,rowM,tab_take,List.take_of_length_le,htl]) rfl rfl,?_⟩
  dsimp only
  omega
 ·obtain rfl : i = f.length := by omega
  rw [List.take_length]
  refine W_seq ?_
  ((first | refine W_seqV ?_ | refine W_seq (W_seqV ?_) | refine W_regV ?_);intro K hK;(refine sUf ?_;try exact True.intro))
  (repeat refine aI ?_);refine hK _ ?_;clear hK K
  (first | refine W_cf rfl ?_ | refine W_seq (W_cf rfl ?_))
  refine W_exit ?_
  simp only [thenW,blockW,if_true]
  (refine W.le ?_ (Le_freeze 3 (rows := tab rowM f) rfl (by simp) (.inl rfl));simp only [St.freeze,List.map_cons,List.map_nil,List.set,if_true,if_false,Nat.reduceEqDiff,reduceCtorEq,List.drop_zero,u32s_take,u32s_drop,froz_any,froz_und,froz_int,froz_bool,froz_str,froz_nils,froz_sl,froz_ia,froz_nilp,froz_nilif,froz_nilfn,froz_nilmp,froz_gl,froz_sref,froz_ptr,froz_agg,froz_tup,froz_fn,froz_ifc,frozs_nil,frozs_cons,froz_dead,froz_arr,froz_mp,froz_it,froz_md,froz_map,froz_iter])
  (repeat' (first|(exfalso;simp at h;done)|refine W_block ?_ |((first|refine W_seqV fun K hK => ?_|refine W_regV fun K hK => ?_);(try (refine sUf ?_;try exact True.intro));(repeat refine aI ?_);refine hK _ ?_;clear hK K)|((first|refine W_seqR fun K hK => ?_|refine W_regR fun K hK => ?_);(try (refine sUf ?_;try exact True.intro));(repeat refine aI ?_);refine hK _ ?_;clear hK K)|((first|refine W_seqD mixed [] (by kernel_rfl) fun K hK => ?_|refine W_regD mixed [] (by kernel_rfl) fun K hK => ?_);(try (refine sUf ?_;try exact True.intro));(repeat refine aI ?_);refine hK _ ?_;clear hK K)|refine W_skip ?_|(refine W_ret ?_;(refine qG ?_;try exact True.intro))|(refine W_exit ?_;simp only [thenW,blockW,if_true,reduceCtorEq,if_false,Nat.reduceEqDiff])|(refine W_cond rfl (fun h => ?_) (fun h => ?_) <;> (try simp only [cond_true,cond_false,ne_eq,cB] at h))|refine W_seq ?_))
theorem ltwin_ok (n : Int) (t : TR) (h : TS t) : Pure Tryz.prog 18 [cT n t] (· = cT n t) := by
 have hlen := h.len
 have hs : ∀ i,i < t.length → Pure Tryz.prog 22 [cF (t.getD i default).2] (· = cF (t.getD i default).2) := fun i hi => mform_ok _ (h.ok _ (getD_mem hi)) (h.fl _ (getD_mem hi))
 have hst : ∀ i,i < t.length → t.take (i + 1) = t.take i ++ [t.getD i default] := fun i hi => take_snoc hi
 simp only [cF,cT] at *
 (refine pureW Tryz.func18 rfl (rs := [Go.ResultVar.cell 2 24]) rfl (n := 35) rfl ?_;simp only [List.length_cons,List.length_nil,List.replicate,List.cons_append,List.nil_append])
 (refine aUf ?_)
 refine W.le ?_ (Le_nilO 3 0 1 32 84 2 true rfl rfl rfl rfl)
 simp only [List.set]
 refine W_seq ?_
 ((first | refine W_seqV ?_ | refine W_seq (W_seqV ?_) | refine W_regV ?_);intro K hK;(refine sUf ?_;try exact True.intro))
 (repeat refine aI ?_);refine hK _ ?_;clear hK K
 refine W_block (W_loop (fun s : {i : Nat // i ≤ t.length} =>
   ⟨[.any,.ptr 1 0 0,.ptr 2 0 0,.ptr 3 0 0,.int .i64 s.1,.any,.any,.any,.any,.any,.any,.any,.any,.any,.any,.any,.any,.any,.any,.any,.any,.any,.any,.any,.any,.any,.any,.any,.any,.any,.any,.any,.any,.any,.any],[.dead,.arr 24 2 false [[.int .i64 n,.sl (tab rowT t)]],.arr 24 2 false [[.int .i64 0,.nils]],.arr 24 2 false [[.int .i64 n,.sref 32 0 s.1]],.dead,.dead,.dead,.dead,.dead,.dead,.dead,.dead,.dead,.dead,.dead,.dead,.dead,.dead,.dead,.dead,.dead,.dead,.dead,.dead,.dead,.dead,.dead,.dead,.dead,.dead,.dead,.dead,.arr 84 2 true (tab rowT (t.take s.1)),.dead,.dead]⟩) (fun s => t.length - s.1)
   ⟨0,by omega⟩ (Le_drop (by simp [leE]) (by simp [leH,tab]) rfl rfl) fun s => ?_)
 obtain ⟨i,hi⟩ := s
 dsimp only
 have htl : (t.take i).length = i := by rw [List.length_take];omega
 by_cases hlt : i < t.length
 ·have hti : (tab rowT t).getD i [] = rowT (t.getD i default) := tab_getD hlt
  have hsi := hs i hlt
  have hsti := hst i hlt
  generalize t.getD i default = r at *
  obtain ⟨b,f⟩ := r
  simp only [rowT] at hti
  dsimp only at *
  generalize t.take i = P at *
  refine W_seq ?_
  ((first | refine W_seqV ?_ | refine W_seq (W_seqV ?_) | refine W_regV ?_);intro K hK;(refine sUfX hlt ?_;try exact True.intro))
  (repeat refine aI ?_);refine hK _ ?_;clear hK K
  (first | refine W_ct rfl ?_ | refine W_seq (W_ct rfl ?_))
  refine W_skip ?_
  simp only [thenW]
  refine W_seq ?_
  refine W_block ?_
  ((first | refine W_seqS mixed 17 [] (by kernel_rfl) ?_ | refine W_seq (W_seqS mixed 17 [] (by kernel_rfl) ?_) | refine W_regS mixed 17 [] (by kernel_rfl) ?_);intro K hK;(refine sUfX (And.intro hlt hti) ?_;try exact True.intro))
  ((repeat refine aI ?_);refine ⟨by kernel_rfl,_,.pure rfl (hsi),?_⟩;(try (refine sUf ?_;try exact True.intro));(repeat refine aI ?_))
  (repeat refine aI ?_);refine hK _ ?_;clear hK K
  simp only [blockW,thenW]
  ((first | refine W_seqV ?_ | refine W_seq (W_seqV ?_) | refine W_regV ?_);intro K hK;(refine sUf ?_;try exact True.intro))
  (repeat refine aI ?_);refine hK _ ?_;clear hK K
  simp only [blockW,thenW]
  refine ⟨⟨i + 1,by omega⟩,Le_drop (by simp [leE]) (by simp [leH,hsti,← tab_snoc,rowT,tab_take,List.take_of_length_le,htl]) rfl rfl,?_⟩
  dsimp only
  omega
 ·obtain rfl : i = t.length := by omega
  rw [List.take_length]
  refine W_seq ?_
  ((first | refine W_seqV ?_ | refine W_seq (W_seqV ?_) | refine W_regV ?_);intro K hK;(refine sUf ?_;try exact True.intro))
  (repeat refine aI ?_);refine hK _ ?_;clear hK K
  (first | refine W_cf rfl ?_ | refine W_seq (W_cf rfl ?_))
  refine W_exit ?_
  simp only [thenW,blockW,if_true]
  (repeat' (first|(exfalso;simp at h;done)|refine W_block ?_ |((first|refine W_seqV fun K hK => ?_|refine W_regV fun K hK => ?_);(try (refine sUf ?_;try exact True.intro));(repeat refine aI ?_);refine hK _ ?_;clear hK K)|((first|refine W_seqR fun K hK => ?_|refine W_regR fun K hK => ?_);(try (refine sUf ?_;try exact True.intro));(repeat refine aI ?_);refine hK _ ?_;clear hK K)|((first|refine W_seqD mixed [] (by kernel_rfl) fun K hK => ?_|refine W_regD mixed [] (by kernel_rfl) fun K hK => ?_);(try (refine sUf ?_;try exact True.intro));(repeat refine aI ?_);refine hK _ ?_;clear hK K)|refine W_skip ?_|(refine W_ret ?_;(refine qG ?_;try exact True.intro))|(refine W_exit ?_;simp only [thenW,blockW,if_true,reduceCtorEq,if_false,Nat.reduceEqDiff])|(refine W_cond rfl (fun h => ?_) (fun h => ?_) <;> (try simp only [cond_true,cond_false,ne_eq,cB] at h))|refine W_seq ?_))
  (try (refine sUfV ?_;try exact True.intro))
theorem sUg {G G' : Prop} (h : G') (e : G = G' := by conv => lhs;simp (disch := omega) only [rowsOf,cNat,cN,St.ret,St.seth,Eff.app,Eff.wi,sepL,guardOf,St.known,objOf,List.set,sliceW,litW,copyW,lenOf,bnd,mxOk,ofCells,TI.isAgg,cellsOf,storable,AV.one,dead,laid,overlay,reduceCtorEq,Int.reduceLE,Int.reduceLT,Int.reduceSub,Int.reduceAdd,Nat.reduceMul,Int.reduceToNat,Nat.reducePow,Int.reduceNeg,Nat.reduceAdd,Nat.reduceLT,Nat.reduceLeDiff,sA,sB,Nat.reduceEqDiff,beq_self_eq_true,Int.reduceBEq,Int.reduceBNe,cQ,rowQ,rowU,rowT,rowM,i64s_getD,i64s_length,i64s_all,tab_length,tab_drop,tab_take,tab_append,tab_nil,rowT_all,rowT_one,rowT_pure,rowU_all,rowU_one,rowU_pure,rowQ_all,rowQ_one,rowQ_pure,rowM_all,rowM_one,rowM_pure,List.take_length,List.length_append,sT]) : G := e.mpr h
theorem sUgX {G G' P : Prop} (p : P) (h : G') (e : P → G = G' := by intro p;conv => lhs;simp (disch := omega) only [rowsOf,cNat,cN,St.ret,St.seth,Eff.app,Eff.wi,sepL,guardOf,St.known,objOf,List.set,sliceW,litW,copyW,lenOf,bnd,mxOk,ofCells,TI.isAgg,cellsOf,storable,AV.one,dead,laid,overlay,reduceCtorEq,Int.reduceLE,Int.reduceLT,Int.reduceSub,Int.reduceAdd,Nat.reduceMul,Int.reduceToNat,Nat.reducePow,Int.reduceNeg,Nat.reduceAdd,Nat.reduceLT,Nat.reduceLeDiff,sA,sB,Nat.reduceEqDiff,beq_self_eq_true,Int.reduceBEq,Int.reduceBNe,cQ,rowQ,rowU,rowT,rowM,i64s_getD,i64s_length,i64s_all,tab_length,tab_drop,tab_take,tab_append,tab_nil,rowT_all,rowT_one,rowT_pure,rowU_all,rowU_one,rowU_pure,rowQ_all,rowQ_one,rowQ_pure,rowM_all,rowM_one,rowM_pure,List.take_length,List.length_append,sT,p]) : G := (e p).mpr h
theorem sUgV {G G' : Prop} (h : G') (e : G = G' := by conv => lhs;simp (disch := omega) only [rowsOf,cNat,cN,St.ret,St.seth,Eff.app,Eff.wi,sepL,guardOf,St.known,objOf,List.set,sliceW,litW,copyW,lenOf,bnd,mxOk,ofCells,TI.isAgg,cellsOf,storable,AV.one,dead,laid,overlay,reduceCtorEq,Int.reduceLE,Int.reduceLT,Int.reduceSub,Int.reduceAdd,Nat.reduceMul,Int.reduceToNat,Nat.reducePow,Int.reduceNeg,Nat.reduceAdd,Nat.reduceLT,Nat.reduceLeDiff,sA,sB,Nat.reduceEqDiff,beq_self_eq_true,Int.reduceBEq,Int.reduceBNe,cQ,rowQ,rowU,rowT,rowM,i64s_getD,i64s_length,i64s_all,tab_length,tab_drop,tab_take,tab_append,tab_nil,rowT_all,rowT_one,rowT_pure,rowU_all,rowU_one,rowU_pure,rowQ_all,rowQ_one,rowQ_pure,rowM_all,rowM_one,rowM_pure,List.take_length,List.length_append,sT,view_sref,viewRef,view_agg,views_cons,views_nil,view_bool,view_int,view_sl,view_nils,view_str,view_tup,view_nilif]) : G := e.mpr h
theorem aUg {G G' : Prop} (h : G') (f : Wr G' → G := by intro h;(repeat (first|(refine W_seqV fun K hK => ?_;(try (refine sUg ?_;try exact True.intro));(repeat refine aI ?_);refine hK _ ?_;clear hK K)|(refine W_seqR fun K hK => ?_;(try (refine sUg ?_;try exact True.intro));(repeat refine aI ?_);refine hK _ ?_;clear hK K)|(refine W_seqD mixed [] (by kernel_rfl) fun K hK => ?_;(try (refine sUg ?_;try exact True.intro));(repeat refine aI ?_);refine hK _ ?_;clear hK K)));exact h.out) : G := f ⟨h⟩
theorem lmono_ok (v c : Int) (h1 : -9223372036854775808 ≤ c) (h2 : c < 9223372036854775808) : Pure Tryz.prog 69 [.int .i64 v,.int .i64 c] (· = .agg (rowQ (v,(c : Rat)))) := by
 have a := f3whole_ok c h1 h2
 simp only [rowQ,cQ] at *
 (refine pureW Tryz.func69 rfl (rs := [Go.ResultVar.cell 4 55]) rfl (n := 9) rfl ?_;simp only [List.length_cons,List.length_nil,List.replicate,List.cons_append,List.nil_append])
 (refine aUg ?_)
 ((first | refine W_seqV ?_ | refine W_seq (W_seqV ?_) | refine W_regV ?_);intro K hK;(refine sUg ?_;try exact True.intro))
 ((repeat refine aI ?_);refine ⟨by kernel_rfl,_,.pure rfl (a),?_⟩;(try (refine sUg ?_;try exact True.intro));(repeat refine aI ?_))
 (repeat refine aI ?_);refine hK _ ?_;clear hK K
 refine W_ret ?_
 (refine qG ?_;try exact True.intro);try (refine sUgV ?_;try exact True.intro)
theorem norm01 : normF [(1,(1 : Rat)),(0,1)] = [(0,1),(1,1)] := by
 refine NF.ext (NF.norm _) (NF.cons (NF.cons NF.nil (by decide) (by simp)) (by decide) (by simp)) fun v => ?_
 rw [coef_norm]
 simp only [coef]
 grind
theorem expr_nil (f : List (Int × Rat)) : exprT [] f = normF f := by
 unfold exprT exprP
 have : ∀ (l : List Int) (h : List (Int × Rat)),l.foldl (fun h v => match lookM [] v with | some g => putF h v g | none => h) h = h := by
  intro l
  induction l with
  | nil => intro h;rfl
  | cons x l ih => intro h;rw [List.foldl_cons];exact ih h
 exact this _ _
theorem lives_ok : Pure Tryz.prog 24 [] (· = .bool true) := by
 have a1 := tnew_ok 2
 have e1 : newR 2 = .tup [.agg [.int .i64 2,.sl []],.int .i64 0] := rfl
 rw [e1] at a1
 have m11 := lmono_ok 1 1 (by omega) (by omega)
 have m01 := lmono_ok 0 1 (by omega) (by omega)
 have h1e : ((1 : Int) : Rat) = 1 := rfl
 rw [h1e] at m11 m01
 have hfo : FormOk (rf [(1,(1 : Rat)),(0,1)]) := by
  refine ⟨fun p hp => ?_,?_⟩
  ·obtain ⟨q,hq,rfl⟩ := List.mem_map.1 hp
   refine qr_ok ?_
   simp only [List.mem_cons,List.mem_nil_iff,or_false] at hq
   rcases hq with rfl | rfl <;> simp only [nb_one] <;> omega
  ·rw [vals_rf]
   simp only [nbs,nb_one]
   omega
 have hto : TOk [] := ⟨by simp,by simp [tb]⟩
 have a2 := tdefine_ok 2 [] (rf [(1,(1 : Rat)),(0,1)]) hto hfo
 have hg : goodB 2 [] = true := by decide
 have hn : nrmT [] = [] := rfl
 have e2 : defV 2 [] (rf [(1,(1 : Rat)),(0,1)]) = .tup [cU 3 [(2,[(0,1),(1,1)])],.int .i64 2,.int .i64 0] := by
  unfold defV
  rw [hn,hg,vals_rf,expr_nil,norm01]
  have hk : knownB 2 [(0,(1 : Rat)),(1,1)] = true := by simp [knownB,inR]
  rw [hk]
  simp only [if_true]
  rw [if_neg (by omega),sortM_snoc (by simp [keys]) (by simp [keys]),show sortM [] = [] by simp [sortM,sortK,keys]]
  rfl
 rw [e2] at a2
 have hts : TS (rfT [(2,[(0,(1 : Rat)),(1,1)])]) := by
  refine MOk.ts (B := 100) ⟨fun r hr => ?_,fun r hr => ?_,by simp⟩ (by omega)
  ·simp at hr;subst hr
   exact NF.cons (NF.cons NF.nil (by decide) (by simp)) (by decide) (by simp)
  ·simp at hr;subst hr
   refine (Sz.of _).mono ?_
   simp only [nbs,nb_one]
   omega
 have a3 := lalike_ok 3 _ hts
 rw [cU_rf] at a3
 have ht0 : tab rowT [] = [] := rfl
 have ht1 : tab rowM (rf [(1,(1 : Rat)),(0,1)]) = [rowQ (1,1),rowQ (0,1)] := by rw [tab_rf];rfl
 have ht2 : tab rowU [(2,[(0,(1 : Rat)),(1,1)])] = [[.int .i64 2,.sl [rowQ (0,1),rowQ (1,1)]]] := rfl
 have q1 : rowQ (1,(1 : Rat)) = [.int .i64 1,.bool (decide ((1 : Rat).num < 0)),.sl (u32s (limbs (1 : Rat).num.natAbs)),.sl (u32s (limbs (1 : Rat).den))] := rfl
 have q0 : rowQ (0,(1 : Rat)) = [.int .i64 0,.bool (decide ((1 : Rat).num < 0)),.sl (u32s (limbs (1 : Rat).num.natAbs)),.sl (u32s (limbs (1 : Rat).den))] := rfl
 simp only [cT,cU,cF,ht0,ht1,ht2] at a2 a3
 rw [q1,q0] at a2 a3
 rw [q1] at m11
 rw [q0] at m01
 clear e1 e2 hfo hto hg hn hts ht0 ht1 ht2 q1 q0 h1e
 generalize (1 : Rat) = one at *
 (refine pureW Tryz.func24 rfl (rs := [Go.ResultVar.tmp 0]) rfl (n := 35) rfl ?_;simp only [List.length_cons,List.length_nil,List.replicate,List.cons_append,List.nil_append])
 (refine aUg ?_)
 ((first | refine W_seqV ?_ | refine W_seq (W_seqV ?_) | refine W_regV ?_);intro K hK;(refine sUg ?_;try exact True.intro))
 ((repeat refine aI ?_);refine ⟨by kernel_rfl,_,.pure rfl (a1),?_⟩;(try (refine sUg ?_;try exact True.intro));(repeat refine aI ?_))
 (repeat refine aI ?_);refine hK _ ?_;clear hK K
 (repeat' (first|(exfalso;simp at h;done)|refine W_block ?_ |((first|refine W_seqV fun K hK => ?_|refine W_regV fun K hK => ?_);(try (refine sUg ?_;try exact True.intro));(repeat refine aI ?_);refine hK _ ?_;clear hK K)|((first|refine W_seqR fun K hK => ?_|refine W_regR fun K hK => ?_);(try (refine sUg ?_;try exact True.intro));(repeat refine aI ?_);refine hK _ ?_;clear hK K)|((first|refine W_seqD mixed [] (by kernel_rfl) fun K hK => ?_|refine W_regD mixed [] (by kernel_rfl) fun K hK => ?_);(try (refine sUg ?_;try exact True.intro));(repeat refine aI ?_);refine hK _ ?_;clear hK K)|refine W_skip ?_|(refine W_ret ?_;(refine qG ?_;try exact True.intro))|(refine W_exit ?_;simp only [thenW,blockW,if_true,reduceCtorEq,if_false,Nat.reduceEqDiff])|(refine W_cond rfl (fun h => ?_) (fun h => ?_) <;> (try simp only [cond_true,cond_false,ne_eq,cB] at h))|refine W_seq ?_))
 ((first | refine W_seqD mixed [] (by kernel_rfl) ?_ | refine W_seq (W_seqD mixed [] (by kernel_rfl) ?_) | refine W_regD mixed [] (by kernel_rfl) ?_);intro K hK;(refine sUg ?_;try exact True.intro))
 ((repeat refine aI ?_);refine ⟨by kernel_rfl,_,.pure rfl (m11),?_⟩;(try (refine sUg ?_;try exact True.intro));(repeat refine aI ?_))
 ((repeat refine aI ?_);refine ⟨by kernel_rfl,_,.pure rfl (m01),?_⟩;(try (refine sUg ?_;try exact True.intro));(repeat refine aI ?_))
 ((repeat refine aI ?_);refine ⟨by kernel_rfl,_,.pure rfl (a2),?_⟩;(try (refine sUg ?_;try exact True.intro));(repeat refine aI ?_))
 (repeat refine aI ?_);refine hK _ ?_;clear hK K
 ((first | refine W_seqD mixed [] (by kernel_rfl) ?_ | refine W_seq (W_seqD mixed [] (by kernel_rfl) ?_) | refine W_regD mixed [] (by kernel_rfl) ?_);intro K hK;(refine sUg ?_;try exact True.intro))
 ((repeat refine aI ?_);refine ⟨by kernel_rfl,_,.pure rfl (m01),?_⟩;(try (refine sUg ?_;try exact True.intro));(repeat refine aI ?_))
 ((repeat refine aI ?_);refine ⟨by kernel_rfl,_,.pure rfl (m11),?_⟩;(try (refine sUg ?_;try exact True.intro));(repeat refine aI ?_))
 ((repeat refine aI ?_);refine ⟨by kernel_rfl,_,.pure rfl (a3),?_⟩;(try (refine sUg ?_;try exact True.intro));(repeat refine aI ?_))
 (repeat refine aI ?_);refine hK _ ?_;clear hK K
 (repeat' (first|(exfalso;simp at h;done)|refine W_block ?_ |((first|refine W_seqV fun K hK => ?_|refine W_regV fun K hK => ?_);(try (refine sUg ?_;try exact True.intro));(repeat refine aI ?_);refine hK _ ?_;clear hK K)|((first|refine W_seqR fun K hK => ?_|refine W_regR fun K hK => ?_);(try (refine sUg ?_;try exact True.intro));(repeat refine aI ?_);refine hK _ ?_;clear hK K)|((first|refine W_seqD mixed [] (by kernel_rfl) fun K hK => ?_|refine W_regD mixed [] (by kernel_rfl) fun K hK => ?_);(try (refine sUg ?_;try exact True.intro));(repeat refine aI ?_);refine hK _ ?_;clear hK K)|refine W_skip ?_|(refine W_ret ?_;(refine qG ?_;try exact True.intro))|(refine W_exit ?_;simp only [thenW,blockW,if_true,reduceCtorEq,if_false,Nat.reduceEqDiff])|(refine W_cond rfl (fun h => ?_) (fun h => ?_) <;> (try simp only [cond_true,cond_false,ne_eq,cB] at h))|refine W_seq ?_))
theorem MOk.expr {t : TR} (hT : TOk t) {n : Int} (hg : goodB n (nrmT t) = true) {f : List (Int × RR)} (hf : FormOk f) (hk : knownB n (normF (vals f)) = true) : NF (exprT (nrmT t) (vals f)) ∧ Sz (exprT (nrmT t) (vals f)) 536870912 := by
 have hp := exprP_pre (gt_iff.1 hg) hk (keys (normF (vals f))).length
 rw [List.take_length] at hp
 have := hf.sz
 have := hT.tb
 exact ⟨hp.1,hp.2.mono (by omega)⟩
theorem FormOk.len {f : List (Int × RR)} (h : FormOk f) : f.length ≤ 68157440 := by have := nbs_len (vals f);have := h.sz;rw [vals_length] at *;omega
theorem new_form (n : Int) : ∃ m u e,TS u ∧ newR n = .tup [cT m u,.int .i64 e] := by
 unfold newR
 split
 ·exact ⟨0,[],1,⟨by simp,by simp,by simp⟩,rfl⟩
 ·split
  ·exact ⟨0,[],2,⟨by simp,by simp,by simp⟩,rfl⟩
  ·exact ⟨n,[],0,⟨by simp,by simp,by simp⟩,rfl⟩
theorem norm_form {n : Int} {t : TR} (hT : TOk t) : ∃ m u e,TS u ∧ normV n t = .tup [cT m u,.int .i64 e] := by
 have hm := hT.mok
 have hs : MOk (sortM (nrmT t)) 68157440 → TS (rfT (sortM (nrmT t))) := fun h => h.ts (by omega)
 unfold normV
 cases hg : goodB n (nrmT t)
 ·exact ⟨0,[],70,⟨by simp,by simp,by simp⟩,rfl⟩
 ·simp only [if_true]
  rw [← cU_rf n]
  have hp := sortM_perm (gt_iff.1 hg).nodup
  exact ⟨_,_,_,hs ⟨fun r hr => hm.nf r (hp.mem_iff.1 hr),fun r hr => hm.sz r (hp.mem_iff.1 hr),by rw [sortM_len];exact hm.len⟩,rfl⟩
theorem checks_law (n : Int) (t : TR) (v : Int) (hT : TOk t) : Pure Tryz.prog 5 [cT n t,.int .i64 v] (· = .bool true) := by
 have a1 := ltwin_ok n t hT.ts
 have b1 := tnew_ok v
 have b2 := r7new_ok v
 have b3 := tcheck_ok n t hT
 have b4 := r7check_ok n t hT
 have b5 := tnorm_ok n t hT
 have b6 := r7norm_ok n t hT
 have hl := lives_ok
 obtain ⟨m,u,e,hu,he⟩ := new_form v
 obtain ⟨m2,u2,e2,hu2,he2⟩ := norm_form (n := n) hT
 rw [he] at b1 b2
 rw [he2] at b5 b6
 have c1 := lalike_ok m u hu
 have c2 := lalike_ok m2 u2 hu2
 generalize (if goodB n (nrmT t) then (0 : Int) else 70) = ce at *
 have z1 := int_neI e
 have z3 := int_neI ce
 simp only [cT] at *
 (refine pureW Tryz.func5 rfl (rs := [Go.ResultVar.tmp 4]) rfl (n := 58) rfl ?_;simp only [List.length_cons,List.length_nil,List.replicate,List.cons_append,List.nil_append])
 (refine aUg ?_)
 ((first | refine W_seqV ?_ | refine W_seq (W_seqV ?_) | refine W_regV ?_);intro K hK;(refine sUg ?_;try exact True.intro))
 ((repeat refine aI ?_);refine ⟨by kernel_rfl,_,.pure rfl (b1),?_⟩;(try (refine sUg ?_;try exact True.intro));(repeat refine aI ?_))
 (repeat refine aI ?_);refine hK _ ?_;clear hK K
 ((first | refine W_seqV ?_ | refine W_seq (W_seqV ?_) | refine W_regV ?_);intro K hK;(refine sUg ?_;try exact True.intro))
 ((repeat refine aI ?_);refine ⟨by kernel_rfl,_,.pure rfl (b2),?_⟩;(try (refine sUg ?_;try exact True.intro));(repeat refine aI ?_))
 (repeat refine aI ?_);refine hK _ ?_;clear hK K
 refine W_seq ?_
 ((first | refine W_seqD mixed [] (by kernel_rfl) ?_ | refine W_seq (W_seqD mixed [] (by kernel_rfl) ?_) | refine W_regD mixed [] (by kernel_rfl) ?_);intro K hK;(refine sUgX z1 ?_;try exact True.intro))
 ((repeat refine aI ?_);refine ⟨by kernel_rfl,_,.pure rfl (c1),?_⟩;(try (refine sUg ?_;try exact True.intro));(repeat refine aI ?_))
 ((repeat refine aI ?_);refine ⟨by kernel_rfl,_,.pure rfl (a1),?_⟩;(try (refine sUg ?_;try exact True.intro));(repeat refine aI ?_))
 ((repeat refine aI ?_);refine ⟨by kernel_rfl,_,.pure rfl (b3),?_⟩;(try (refine sUg ?_;try exact True.intro));(repeat refine aI ?_))
 ((repeat refine aI ?_);refine ⟨by kernel_rfl,_,.pure rfl (b4),?_⟩;(try (refine sUg ?_;try exact True.intro));(repeat refine aI ?_))
 rw [z3]
 (repeat refine aI ?_);refine hK _ ?_;clear hK K
 (first | refine W_cf rfl ?_ | refine W_seq (W_cf rfl ?_))
 refine W_skip ?_
 simp only [thenW]
 ((first | refine W_seqV ?_ | refine W_seq (W_seqV ?_) | refine W_regV ?_);intro K hK;(refine sUg ?_;try exact True.intro))
 ((repeat refine aI ?_);refine ⟨by kernel_rfl,_,.pure rfl (a1),?_⟩;(try (refine sUg ?_;try exact True.intro));(repeat refine aI ?_))
 ((repeat refine aI ?_);refine ⟨by kernel_rfl,_,.pure rfl (b5),?_⟩;(try (refine sUg ?_;try exact True.intro));(repeat refine aI ?_))
 (repeat refine aI ?_);refine hK _ ?_;clear hK K
 ((first | refine W_seqV ?_ | refine W_seq (W_seqV ?_) | refine W_regV ?_);intro K hK;(refine sUg ?_;try exact True.intro))
 ((repeat refine aI ?_);refine ⟨by kernel_rfl,_,.pure rfl (b6),?_⟩;(try (refine sUg ?_;try exact True.intro));(repeat refine aI ?_))
 (repeat refine aI ?_);refine hK _ ?_;clear hK K
 ((first | refine W_seqV ?_ | refine W_seq (W_seqV ?_) | refine W_regV ?_);intro K hK;(refine sUg ?_;try exact True.intro))
 ((repeat refine aI ?_);refine ⟨by kernel_rfl,_,.pure rfl (c2),?_⟩;(try (refine sUg ?_;try exact True.intro));(repeat refine aI ?_))
 ((repeat refine aI ?_);refine ⟨by kernel_rfl,_,.pure rfl (hl),?_⟩;(try (refine sUg ?_;try exact True.intro));(repeat refine aI ?_))
 (repeat refine aI ?_);refine hK _ ?_;clear hK K
 refine W_ret ?_
 (refine qG ?_;try exact True.intro);try (refine sUgV ?_;try exact True.intro)
end Go.Proofs.YtjmpajgjaefcjaaGreat.Vm
namespace Go.Proofs.YtjmpajgjaefcjaaGreat.Vm
open Go Go.RowKit
set_option linter.unusedVariables false
set_option linter.unusedSimpArgs false
section
variable {H : Type} {encH : TypeId × Value → H} {P : Program} {w : World}
def Opens (encH : TypeId × Value → H) (P : Program) (w : World) (t : TypeId) {α : Type} (e : α → List AV) (good : α → Prop) (wt : α → Nat) : Prop :=
 ∀ (fuel : Nat) (cs : List Value) (x : DataW H × List MemPlace),DataW.trod encH P w 0 (fun _ => true) true fuel t cs = some x → ∃ a,Rps w (fun _ => False) noPl (e a) cs ∧ good a ∧ wt a ≤ Rows.uptoBulk x.1
theorem Opens.bool {t : TypeId} (ht : P.underlying t = some .bool) : Opens encH P w t (fun b : Bool => [.bool b]) (fun _ => True) (fun _ => 1) := by
 intro fuel cs x h
 obtain ⟨b,rfl,rfl⟩ := DataW.trod_bool ht h
 exact ⟨b,⟨_,_,rfl,rfl,rfl⟩,trivial,by simp [Rows.uptoBulk]⟩
theorem Opens.i64 {t : TypeId} (ht : P.underlying t = some (.int .i64)) : Opens encH P w t (fun n : Int => [.int .i64 n]) (fun n => -9223372036854775808 ≤ n ∧ n ≤ 9223372036854775807) (fun _ => 1) := by
 intro fuel cs x h
 obtain ⟨n,rfl,rfl,hw⟩ := DataW.trod_int ht h
 exact ⟨n,⟨_,_,rfl,rfl,rfl⟩,bounds_i64 hw,by simp [Rows.uptoBulk]⟩
theorem Opens.u32 {t : TypeId} (ht : P.underlying t = some (.int .u32)) : Opens encH P w t (fun n : Nat => [.int .u32 (n : Int)]) (fun n => n < 4294967296) (fun _ => 1) := by
 intro fuel cs x h
 obtain ⟨n,rfl,rfl,hw⟩ := DataW.trod_int ht h
 obtain ⟨h1,h2⟩ := bounds_u32 hw
 refine ⟨n.toNat,⟨_,_,rfl,?_,rfl⟩,by omega,by simp [Rows.uptoBulk]⟩
 show Value.int .u32 n = _
 rw [Int.toNat_of_nonneg h1]
theorem Opens.str {t : TypeId} (ht : P.underlying t = some .string) : Opens encH P w t (fun s : ByteArray => [.str s]) (fun _ => True) (fun s => s.size + 1) := by
 intro fuel cs x h
 obtain ⟨s,rfl,rfl,hs⟩ := DataW.trod_string ht h
 refine ⟨s,⟨_,_,rfl,rfl,rfl⟩,trivial,?_⟩
 simp only [Rows.uptoBulk]
 have : s.data.toList.length = s.size := by rw [Array.length_toList];rfl
 omega
theorem Opens.map {t : TypeId} {α β : Type} {e : α → List AV} {good : α → Prop} {wt : α → Nat} (h : Opens encH P w t e good wt) {e' : β → List AV} {good' : β → Prop} {wt' : β → Nat} (f : α → β)
  (he : ∀ a,e' (f a) = e a) (hg : ∀ a,good a → good' (f a)) (hw : ∀ a,wt' (f a) ≤ wt a) : Opens encH P w t e' good' wt' := by
 intro fuel cs x hx
 obtain ⟨a,h1,h2,h3⟩ := h fuel cs x hx
 exact ⟨f a,by rw [he];exact h1,hg a h2,Nat.le_trans (hw a) h3⟩
theorem Opens.two {t : TypeId} {f0 f1 : Field} (ht : P.underlying t = some (.struct #[f0,f1])) (o0 : f0.offset = 0) (o1 : f1.offset = P.cellsOf f0.type) (hl : P.cellsOf t = P.cellsOf f0.type + P.cellsOf f1.type)
  {α β : Type} {e0 : α → List AV} {g0 : α → Prop} {w0 : α → Nat} {e1 : β → List AV} {g1 : β → Prop} {w1 : β → Nat} (h0 : Opens encH P w f0.type e0 g0 w0) (h1 : Opens encH P w f1.type e1 g1 w1) :
  Opens encH P w t (fun p : α × β => e0 p.1 ++ e1 p.2) (fun p => g0 p.1 ∧ g1 p.2) (fun p => w0 p.1 + w1 p.2 + 1) := by
 intro fuel cs x h
 obtain ⟨xs,n,_,rfl,hlen,hxs,hf⟩ := DataW.trod_struct ht h
 match xs,hxs with
 | [y0,y1],_ =>
  obtain ⟨a,r0,q0,b0⟩ := h0 _ _ _ (hf 0 f0 rfl)
  obtain ⟨b,r1,q1,b1⟩ := h1 _ _ _ (hf 1 f1 rfl)
  refine ⟨(a,b),?_,⟨q0,q1⟩,?_⟩
  ·have := r0.append r1
   rw [o0,o1,List.drop_zero,List.take_of_length_le (l := cs.drop _) (by rw [List.length_drop];omega),List.take_append_drop] at this
   exact this
  ·simp only [List.map_cons,List.map_nil,Rows.uptoBulk,Rows.uptoBulkAll]
   omega
def sumW {α : Type} (wt : α → Nat) : List α → Nat
 | [] => 0
 | x::l => wt x + sumW wt l
theorem sumW_snoc {α : Type} (wt : α → Nat) (l : List α) (x : α) : sumW wt (l ++ [x]) = sumW wt l + wt x := by
 induction l with
 | nil => simp [sumW]
 | cons y l ih => simp only [List.cons_append,sumW,ih];omega
theorem bulk_append (l r : List (DataW H)) : Rows.uptoBulkAll (l ++ r) = Rows.uptoBulkAll l + Rows.uptoBulkAll r := by
 induction l with
 | nil => simp [Rows.uptoBulkAll]
 | cons x l ih => simp only [List.cons_append,Rows.uptoBulkAll,ih];omega
theorem Opens.slice {t e : TypeId} (ht : P.underlying t = some (.slice e)) (hpos : 0 < P.cellsOf e) {α : Type} {enc : α → List AV} {good : α → Prop} {wt : α → Nat} (he : Opens encH P w e enc good wt) :
  Opens encH P w t (fun l : List α => [.sl (tab enc l)]) (fun l => ∀ x ∈ l,good x) (fun l => sumW wt l + 1) := by
 intro fuel cs x h
 rcases DataW.trod_slice ht h with ⟨rfl,rfl⟩ | ⟨a,len,cap,elems,rest,n,_,rfl,rfl,hb,hlc,hcm,hlen,hel,_,_⟩
 ·exact ⟨[],⟨_,_,rfl,⟨none,0,rfl,Nat.le_refl _,by decide,.inl rfl⟩,rfl⟩,by simp,by simp [Rows.uptoBulk,sumW]⟩
 ·obtain ⟨b,o,spot⟩ := a
  have step : ∀ m,m ≤ len → ∃ (l : List α) (vss : List (List Value)),l.length = m ∧ vss.flatten.length = m * P.cellsOf e ∧ RpR w (fun _ => False) noPl (tab enc l) vss ∧ (∀ x ∈ l,good x) ∧ sumW wt l ≤ Rows.uptoBulkAll ((elems.take m).map (·.1)) ∧
    (0 < m → spot = none ∧ b < w.heap.size) ∧ CellsAt w b o vss.flatten := by
   intro m
   induction m with
   | zero => exact fun _ => ⟨[],[],rfl,by simp,rfl,by simp,by simp [sumW,Rows.uptoBulkAll],by omega,fun j u hj => by simp at hj⟩
   | succ m ih =>
    intro hm
    obtain ⟨l,vss,h1,h2,h3,h4,h5,h6,h7⟩ := ih (by omega)
    have hi := hel m (by omega)
    have hg : elems[m]? = some (elems[m]'(by omega)) := by simp
    rw [hg] at hi
    obtain ⟨cs',hc,hd⟩ := Option.bind_eq_some_iff.1 hi
    obtain ⟨_,hcl,hcell⟩ := World.cells?_some hc
    obtain ⟨y,hy1,hy2,hy3⟩ := he _ _ _ hd
    obtain ⟨c0,hc0⟩ : ∃ c0,cs'[0]? = some c0 := ⟨cs'[0]'(by omega),by simp⟩
    have g0 : w.cell? (((⟨b,o,spot⟩ : Addr).add (m * P.cellsOf e)).add 0) = some c0 := by rw [hcell 0 hpos,hc0]
    have hsp : spot = none ∧ b < w.heap.size := by
     have hs : spot = none := by
      cases m with
      | zero => have := World.cell?_spot g0;simpa [Addr.add] using this
      | succ m => exact (h6 (by omega)).1
     refine ⟨hs,?_⟩
     have : ((⟨b,o,spot⟩ : Addr).add (m * P.cellsOf e)).add 0 = ⟨b,o + m * P.cellsOf e,none⟩ := by rw [hs,WideShapes.add_plain,WideShapes.add_plain];rfl
     rw [this] at g0
     unfold World.cell? at g0
     split at g0
     ·rename_i heq
      exact (Array.getElem?_eq_some_iff.1 heq).1
     ·cases g0
    obtain ⟨hs,hbs⟩ := hsp
    subst hs
    refine ⟨l ++ [y],vss ++ [cs'],by simp [h1],?_,?_,?_,?_,fun _ => ⟨rfl,hbs⟩,?_⟩
    ·rw [List.flatten_append,List.length_append,h2,Nat.succ_mul]
     simp [hcl]
    ·rw [← tab_snoc]
     exact h3.append ⟨_,_,rfl,hy1,rfl⟩
    ·intro x hx
     rcases List.mem_append.1 hx with hx | hx
     ·exact h4 x hx
     ·rw [List.mem_singleton] at hx;subst hx;exact hy2
    ·rw [sumW_snoc,List.take_add_one,hg,List.map_append,bulk_append]
     simp only [Option.toList_some,List.map_cons,List.map_nil,Rows.uptoBulkAll]
     omega
    ·intro j u hj
     rw [List.flatten_append] at hj
     by_cases hjl : j < vss.flatten.length
     ·rw [List.getElem?_append_left hjl] at hj
      exact h7 j u hj
     ·rw [List.getElem?_append_right (by omega)] at hj
      simp only [List.flatten_cons,List.flatten_nil,List.append_nil] at hj
      have hlt : j - vss.flatten.length < cs'.length := (List.getElem?_eq_some_iff.1 hj).1
      have := hcell (j - vss.flatten.length) (by omega)
      rw [WideShapes.add_plain,WideShapes.add_plain,hj] at this
      rw [← this]
      congr 2
      omega
  obtain ⟨l,vss,h1,h2,h3,h4,h5,h6,h7⟩ := step len (Nat.le_refl _)
  have htl : (tab enc l).length = len := by rw [tab_length,h1]
  refine ⟨l,⟨_,_,rfl,⟨some ⟨b,o,spot⟩,cap,by rw [htl],by rw [htl];exact hlc,hcm,?_⟩,rfl⟩,h4,?_⟩
  ·by_cases h0 : 0 < len
   ·obtain ⟨rfl,hbs⟩ := h6 h0
    exact .inr ⟨b,o,vss,rfl,fun h => h,hbs,h7,h3⟩
   ·left
    have : l = [] := List.eq_nil_of_length_eq_zero (by omega)
    rw [this];rfl
  ·rw [List.take_of_length_le (by omega)] at h5
   simp only [Rows.uptoBulk]
   omega
end
section
variable {H : Type} {encH : TypeId × Value → H} {w : World}
theorem sumW_one (l : List Nat) : sumW (fun _ => 1) l = l.length := by
 induction l with
 | nil => rfl
 | cons x l ih => simp only [sumW,ih,List.length_cons];omega
theorem opens_nat : Opens encH Tryz.prog w 49 (fun l : List Nat => [.sl (u32s l)]) Limbs (fun l => l.length + 1) :=
 (Opens.slice Tryz.underlying49 (by show 0 < Tryz.prog.cellsOf 128;rw [show Tryz.prog.cellsOf 128 = 1 by kernel_rfl];decide) (Opens.u32 Tryz.underlying128)).map id (fun _ => rfl) (fun _ h => h) (fun l => by show l.length + 1 ≤ sumW (fun _ => 1) l + 1;rw [sumW_one];exact Nat.le_refl _)
theorem opens_int : Opens encH Tryz.prog w 51 (fun p : Bool × List Nat => [.bool p.1,.sl (u32s p.2)]) (fun p => Limbs p.2) (fun p => p.2.length + 3) :=
 (Opens.two Tryz.underlying51 rfl (by kernel_rfl) (by kernel_rfl) (Opens.bool Tryz.underlying4) opens_nat).map id (fun _ => rfl) (fun _ h => h.2) (fun l => by simp only [id];omega)
def RR.good (r : RR) : Prop := Limbs r.num ∧ Limbs r.den
def RR.wt (r : RR) : Nat := r.num.length + r.den.length + 5
theorem RR.bits_wt (r : RR) : r.bits ≤ 32 * r.wt := by unfold RR.bits RR.wt;omega
theorem opens_rat : Opens encH Tryz.prog w 53 rowR RR.good RR.wt :=
 (Opens.two Tryz.underlying53 rfl (by kernel_rfl) (by kernel_rfl) opens_int opens_nat).map (fun p => (⟨p.1.1,p.1.2,p.2⟩ : RR)) (fun _ => rfl) (fun _ h => h) (fun l => by simp only [RR.wt];omega)
def mono_wt (p : Int × RR) : Nat := p.2.wt + 2
theorem opens_mono : Opens encH Tryz.prog w 55 rowM (fun p : Int × RR => (-9223372036854775808 ≤ p.1 ∧ p.1 ≤ 9223372036854775807) ∧ p.2.good) mono_wt :=
 (Opens.two Tryz.underlying55 rfl (by kernel_rfl) (by kernel_rfl) (Opens.i64 Tryz.underlying3) opens_rat).map id (fun _ => rfl) (fun _ h => h) (fun l => by simp only [id,mono_wt];omega)
def form_good (f : List (Int × RR)) : Prop := ∀ p ∈ f,(-9223372036854775808 ≤ p.1 ∧ p.1 ≤ 9223372036854775807) ∧ p.2.good
def form_wt (f : List (Int × RR)) : Nat := sumW mono_wt f + 1
theorem opens_form : Opens encH Tryz.prog w 26 (fun f => [cF f]) form_good form_wt :=
 Opens.slice Tryz.underlying26 (by show 0 < Tryz.prog.cellsOf 55;rw [show Tryz.prog.cellsOf 55 = 4 by kernel_rfl];decide) opens_mono
def At.good (a : At) : Prop := form_good a.form ∧ a.bound.good
def At.wt (a : At) : Nat := a.name.size + form_wt a.form + a.bound.wt + 3
end
theorem RR.good.ok {r : RR} (h : r.good) (hb : r.wt ≤ 1048576) : r.ok := ⟨h.1,h.2,by unfold RR.wt at hb;omega,by unfold RR.wt at hb;omega⟩
theorem RR.good.nb {r : RR} (h : r.good) : nb r.v ≤ 32 * r.wt := Nat.le_trans (nb_v r h.1 h.2) r.bits_wt
theorem form_nbs : ∀ {f : List (Int × RR)},form_good f → nbs (vals f) ≤ 32 * sumW mono_wt f
 | [],_ => by simp [vals,nbs]
 | p::f,h => by
  have h1 := (h p List.mem_cons_self).2.nb
  have h2 := form_nbs (f := f) fun q hq => h q (List.mem_cons_of_mem _ hq)
  simp only [vals,List.map_cons,nbs,sumW,mono_wt] at *
  omega
theorem sumW_mem {α : Type} {wt : α → Nat} {l : List α} {x : α} (h : x ∈ l) : wt x ≤ sumW wt l := by
 induction l with
 | nil => cases h
 | cons y l ih =>
  simp only [sumW]
  rcases List.mem_cons.1 h with rfl | h
  ·omega
  ·have := ih h;omega
theorem form_ok {f : List (Int × RR)} (h : form_good f) (hb : form_wt f ≤ 1048576) : FOk f 67108864 ∧ nbs (vals f) ≤ 67108864 := by
 have h1 := form_nbs h
 unfold form_wt at hb
 refine ⟨⟨fun p hp => (h p hp).2.ok ?_,(Sz.of _).mono (by omega)⟩,by omega⟩
 have := sumW_mem (wt := mono_wt) hp
 unfold mono_wt at this hb
 omega
theorem At.good.ok {a : At} (h : a.good) (hb : a.wt ≤ 1048576) : AtOk a := by
 unfold At.wt at hb
 obtain ⟨h1,h2⟩ := form_ok h.1 (by omega)
 refine ⟨h1,h2,h.2.ok (by omega),?_⟩
 have := h.2.nb
 omega
section
variable {H : Type} {encH : TypeId × Value → H} {P : Program} {w : World}
theorem rps_some {α : Type} {t : TypeId} {e : α → List AV} {good : α → Prop} {wt : α → Nat} (h : Opens encH P w t e good wt) {v : Value} {d : DataW H} {p : List MemPlace} (hd : DataW.Trod encH P w 0 (fun _ => true) true t v d p) :
  ∃ a,Rps w (fun _ => False) noPl (e a) v.cells.toList ∧ good a ∧ wt a ≤ Rows.uptoBulk d := by
 obtain ⟨fuel,hf⟩ := hd
 exact h fuel _ _ hf
theorem par_struct {α : Type} {t : TypeId} {fs : Array Field} (ht : P.underlying t = some (.struct fs)) {e : α → List AV} {good : α → Prop} {wt : α → Nat} (h : Opens encH P w t e good wt) {base : Nat} {v : Value} (hok : Value.okWide P w .any base t v) {d : DataW H} {p : List MemPlace} (hd : DataW.Trod encH P w 0 (fun _ => true) true t v d p) :
  ∃ a,Rp w (fun _ => False) noPl (.agg (e a)) v ∧ good a ∧ wt a ≤ Rows.uptoBulk d := by
 unfold Value.okWide at hok
 rw [ht] at hok
 obtain ⟨cs,rfl,_,_⟩ := hok
 obtain ⟨a,h1,h2,h3⟩ := rps_some h hd
 exact ⟨a,⟨cs.toList,by simp,h1⟩,h2,h3⟩
theorem par_int {α : Type} {t : TypeId} {k : IntKind} (ht : P.underlying t = some (.int k)) {e : α → AV} {good : α → Prop} {wt : α → Nat} (h : Opens encH P w t (fun a => [e a]) good wt) {base : Nat} {v : Value} (hok : Value.okWide P w .any base t v) {d : DataW H} {p : List MemPlace} (hd : DataW.Trod encH P w 0 (fun _ => true) true t v d p) :
  ∃ a,Rp w (fun _ => False) noPl (e a) v ∧ good a ∧ wt a ≤ Rows.uptoBulk d := by
 unfold Value.okWide at hok
 rw [ht] at hok
 unfold Cell.okWide at hok
 rw [ht] at hok
 obtain ⟨a,h1,h2,h3⟩ := rps_some h hd
 obtain ⟨u,us,e1,e2,e3⟩ := h1
 have e4 : us = [] := e3
 subst e4
 cases v <;> simp only [Value.cells] at e1 <;> first
  | (simp only [Cell.ok,ht] at hok;done)
  | (have e5 := (List.cons.inj e1).1;subst e5;exact ⟨a,e2,h2,h3⟩)
end
end Go.Proofs.YtjmpajgjaefcjaaGreat.Vm
