/-
  Part 7 of 8 of a proof.
-/
import Derived.Test.YtjmpajgjaefcjaaGreatOnly6
import Derived.Orders
import Derived.Below
import Derived.Laws.AppendOwn
import Derived.Laws.MakeOwn
import Derived.Laws.CopyRow
import Derived.Laws.Rows
import Derived.Laws.Cells
import Derived.Tactics
import Derived.Laws.BitsLemmas
import Derived.Maps.Range
import Derived.Carry
import Derived.Test.YtjmpajgjaefcjaaGreatProg
import Derived.Sort.Row
import Derived.Sort.Grow
import Derived.Shelf.Sort.Plain
import Derived.Shelf.Slices.In.SortNone
import Derived.Ground.NamesProg

namespace Go.Proofs.YtjmpajgjaefcjaaGreat.Vm
open Go Go.RowKit
def laysSort_ren : Go.Shelf.Ren := ⟨fun|189 => 125|125 => 162|257 => 161|128 => 201|129 => 202|294 => 192|295 => 193|296 => 194|297 => 195|298 => 196|299 => 197|216 => 198|300 => 199|301 => 200|328 => 219|329 => 220|330 => 221|331 => 222|332 => 223|215 => 224|343 => 229|n => n,fun|28 => 63|3 => 3|46 => 169|0 => 0|51 => 128|53 => 173|4 => 4|183 => 196|182 => 195|131 => 201|5 => 5|9 => 9|218 => 210|222 => 214|228 => 223|229 => 224|n => n,fun|n => n⟩
theorem laysSort : Go.Proofs.Lays.n189 Tryz.prog laysSort_ren := {
 mixed := by kernel_rfl
 f125 := Tryz.func162.trans (congrArg some (by kernel_rfl))
 f128 := Tryz.func201.trans (congrArg some (by kernel_rfl))
 f129 := Tryz.func202.trans (congrArg some (by kernel_rfl))
 f189 := Tryz.func125.trans (congrArg some (by kernel_rfl))
 f215 := Tryz.func224.trans (congrArg some (by kernel_rfl))
 f216 := Tryz.func198.trans (congrArg some (by kernel_rfl))
 f257 := Tryz.func161.trans (congrArg some (by kernel_rfl))
 f294 := Tryz.func192.trans (congrArg some (by kernel_rfl))
 f295 := Tryz.func193.trans (congrArg some (by kernel_rfl))
 f296 := Tryz.func194.trans (congrArg some (by kernel_rfl))
 f297 := Tryz.func195.trans (congrArg some (by kernel_rfl))
 f298 := Tryz.func196.trans (congrArg some (by kernel_rfl))
 f299 := Tryz.func197.trans (congrArg some (by kernel_rfl))
 f300 := Tryz.func199.trans (congrArg some (by kernel_rfl))
 f301 := Tryz.func200.trans (congrArg some (by kernel_rfl))
 f328 := Tryz.func219.trans (congrArg some (by kernel_rfl))
 f329 := Tryz.func220.trans (congrArg some (by kernel_rfl))
 f330 := Tryz.func221.trans (congrArg some (by kernel_rfl))
 f331 := Tryz.func222.trans (congrArg some (by kernel_rfl))
 f332 := Tryz.func223.trans (congrArg some (by kernel_rfl))
 f343 := Tryz.func229.trans (congrArg some (by kernel_rfl))
 t0 := Tryz.underlying0
 a0 := Tryz.isAgg0
 z0 := Tryz.sizeOf0
 v0 := Tryz.zeroValue0
 t3 := Tryz.underlying3
 a3 := Tryz.isAgg3
 z3 := Tryz.sizeOf3
 v3 := Tryz.zeroValue3
 t4 := Tryz.underlying4
 a4 := Tryz.isAgg4
 z4 := Tryz.sizeOf4
 v4 := Tryz.zeroValue4
 t5 := Tryz.underlying5
 a5 := Tryz.isAgg5
 z5 := Tryz.sizeOf5
 v5 := Tryz.zeroValue5
 t9 := Tryz.underlying9
 a9 := Tryz.isAgg9
 z9 := Tryz.sizeOf9
 v9 := Tryz.zeroValue9
 t28 := Tryz.underlying63
 a28 := Tryz.isAgg63
 z28 := Tryz.sizeOf63
 v28 := Tryz.zeroValue63
 t46 := Tryz.underlying169
 a46 := Tryz.isAgg169
 z46 := Tryz.sizeOf169
 v46 := Tryz.zeroValue169
 t51 := Tryz.underlying128
 a51 := Tryz.isAgg128
 z51 := Tryz.sizeOf128
 v51 := Tryz.zeroValue128
 t53 := Tryz.underlying173
 a53 := Tryz.isAgg173
 z53 := Tryz.sizeOf173
 v53 := Tryz.zeroValue173
 t131 := Tryz.underlying201
 a131 := Tryz.isAgg201
 z131 := Tryz.sizeOf201
 v131 := Tryz.zeroValue201
 t182 := Tryz.underlying195
 a182 := Tryz.isAgg195
 z182 := Tryz.sizeOf195
 v182 := Tryz.zeroValue195
 t183 := Tryz.underlying196
 a183 := Tryz.isAgg196
 z183 := Tryz.sizeOf196
 v183 := Tryz.zeroValue196
 t218 := Tryz.underlying210
 a218 := Tryz.isAgg210
 z218 := Tryz.sizeOf210
 v218 := Tryz.zeroValue210
 t222 := Tryz.underlying214
 a222 := Tryz.isAgg214
 z222 := Tryz.sizeOf214
 v222 := Tryz.zeroValue214
 t228 := Tryz.underlying223
 a228 := Tryz.isAgg223
 z228 := Tryz.sizeOf223
 v228 := Tryz.zeroValue223
 t229 := Tryz.underlying224
 a229 := Tryz.isAgg224
 z229 := Tryz.sizeOf224
 v229 := Tryz.zeroValue224 }
theorem sort_ints : SortInts Tryz.prog 125 := ⟨fun blk off cap zs w h1 h2 h3 => Any.slices_Sort_int laysSort blk off cap zs w h1 h2 h3,fun p cap w => Any.slices_Sort_int_none laysSort p cap w⟩
theorem call_sortI {pins : List Nat} {s : St} {i n : Nat} {T : TypeId} {l : List Int} {K : AV → St → Prop} (hi : s.hp[i]? = some (.arr T 1 true (i64s l))) (hn : n = l.length) (hl : l.length < 1099511627776)
  (hk : K (.tup []) (s.seth i (.arr T 1 true (i64s (sortK l))))) : CallOk Tryz.prog pins 125 [.sref i 0 n] s K := by
 subst hn
 exact call_sort_of sort_ints hi (by omega) hk
end Go.Proofs.YtjmpajgjaefcjaaGreat.Vm
namespace Go.Proofs.YtjmpajgjaefcjaaGreat.Vm
open Go Go.RowKit
set_option maxRecDepth 100000
set_option linter.unusedVariables false
set_option linter.unusedSimpArgs false
theorem sTd {G G' : Prop} (h : G') (e : G = G' := by conv => lhs;simp (disch := omega) only [rowsOf,cNat,cN,St.ret,St.seth,Eff.app,Eff.wi,sepL,guardOf,St.known,objOf,List.set,sliceW,litW,copyW,lenOf,bnd,mxOk,ofCells,TI.isAgg,cellsOf,storable,AV.one,dead,laid,overlay,reduceCtorEq,Int.reduceLE,Int.reduceLT,Int.reduceSub,Int.reduceAdd,Nat.reduceMul,Int.reduceToNat,Nat.reducePow,Int.reduceNeg,Nat.reduceAdd,Nat.reduceLT,Nat.reduceLeDiff,sA,sB,Nat.reduceEqDiff,cQ,rowQ,rowU,rowM,i64s_getD,i64s_length,i64s_all,i64s_take,i64s_drop,i64s_set,i64s_one,i64s_pure,i64s_append,tab_length,tab_drop,tab_take,tab_append,tab_nil,rowU_all,rowU_one,rowU_pure,rowQ_all,rowQ_one,rowQ_pure,List.take_length,List.length_append,findA_tab,sT]) : G := e.mpr h
theorem sTdX {G G' P : Prop} (p : P) (h : G') (e : P → G = G' := by intro p;conv => lhs;simp (disch := omega) only [rowsOf,cNat,cN,St.ret,St.seth,Eff.app,Eff.wi,sepL,guardOf,St.known,objOf,List.set,sliceW,litW,copyW,lenOf,bnd,mxOk,ofCells,TI.isAgg,cellsOf,storable,AV.one,dead,laid,overlay,reduceCtorEq,Int.reduceLE,Int.reduceLT,Int.reduceSub,Int.reduceAdd,Nat.reduceMul,Int.reduceToNat,Nat.reducePow,Int.reduceNeg,Nat.reduceAdd,Nat.reduceLT,Nat.reduceLeDiff,sA,sB,Nat.reduceEqDiff,cQ,rowQ,rowU,rowM,i64s_getD,i64s_length,i64s_all,i64s_take,i64s_drop,i64s_set,i64s_one,i64s_pure,i64s_append,tab_length,tab_drop,tab_take,tab_append,tab_nil,rowU_all,rowU_one,rowU_pure,rowQ_all,rowQ_one,rowQ_pure,List.take_length,List.length_append,findA_tab,sT,p]) : G := (e p).mpr h
theorem sTdV {G G' : Prop} (h : G') (e : G = G' := by conv => lhs;simp (disch := omega) only [rowsOf,cNat,cN,St.ret,St.seth,Eff.app,Eff.wi,sepL,guardOf,St.known,objOf,List.set,sliceW,litW,copyW,lenOf,bnd,mxOk,ofCells,TI.isAgg,cellsOf,storable,AV.one,dead,laid,overlay,reduceCtorEq,Int.reduceLE,Int.reduceLT,Int.reduceSub,Int.reduceAdd,Nat.reduceMul,Int.reduceToNat,Nat.reducePow,Int.reduceNeg,Nat.reduceAdd,Nat.reduceLT,Nat.reduceLeDiff,sA,sB,Nat.reduceEqDiff,cQ,rowQ,rowU,rowM,i64s_getD,i64s_length,i64s_all,i64s_take,i64s_drop,i64s_set,i64s_one,i64s_pure,i64s_append,tab_length,tab_drop,tab_take,tab_append,tab_nil,rowU_all,rowU_one,rowU_pure,rowQ_all,rowQ_one,rowQ_pure,List.take_length,List.length_append,findA_tab,sT,view_sref,viewRef,view_agg,views_cons,views_nil,view_bool,view_int,view_sl,view_nils,view_str,view_tup,view_nilif]) : G := e.mpr h
theorem aTd {G G' : Prop} (h : G') (f : Wr G' → G := by intro h;(repeat (first|(refine W_seqV fun K hK => ?_;(try (refine sTd ?_;try exact True.intro));(repeat refine aI ?_);refine hK _ ?_;clear hK K)|(refine W_seqR fun K hK => ?_;(try (refine sTd ?_;try exact True.intro));(repeat refine aI ?_);refine hK _ ?_;clear hK K)|(refine W_seqD mixed [] (by kernel_rfl) fun K hK => ?_;(try (refine sTd ?_;try exact True.intro));(repeat refine aI ?_);refine hK _ ?_;clear hK K)));exact h.out) : G := f ⟨h⟩
theorem tbasics_ok (M : TM) (c : Nat) (bs : List Nat) (hb : bs.length = M.length) (hn : bs.Nodup) (hlt : ∀ x ∈ bs,x < c) (hl : M.length < 1099511627776) :
  Pure Tryz.prog 87 [.md c bs (tab rowU M)] (· = .sl (i64s (sortK (keys M)))) := by
 (refine pureW Tryz.func87 rfl (rs := [Go.ResultVar.tmp 2]) rfl (n := 18) rfl ?_;simp only [List.length_cons,List.length_nil,List.replicate,List.cons_append,List.nil_append])
 (refine aTd ?_)
 refine W.le ?_ (Le_nil 3 3 3 1 true rfl rfl)
 simp only [List.set]
 ((refine W_seq (W_seqR ?_));intro K hK;(refine sTd ?_))
 (refine hK _ ?_;clear hK K)
 refine W_block (W_loop (fun t : {t : List Nat // Seen bs t} =>
   ⟨[.md c bs (tab rowU M),.any,.any,.sref 3 0 t.1.length,.any,.any,.it 6,.any,.any,.any,.any,.any,.any,.any,.any,.any,.any,.any],[.dead,.dead,.dead,.arr 3 1 true (i64s (t.1.map fun x => (atB bs M x).1)),.dead,.dead,.iter (.md c bs (tab rowU M)) c t.1 c,.dead,.dead,.dead,.dead,.dead,.dead,.dead,.dead,.dead,.dead,.dead]⟩) (fun t => bs.length - t.1.length)
   ⟨[],Seen.nil bs⟩ (Le_of (by simp [leE]) (by simp [i64s])) fun t => ?_)
 obtain ⟨sn,hsn⟩ := t
 dsimp only
 ((refine W_seqR ?_);intro K hK;(refine sTd ?_))
 refine ⟨Nat.le_refl _,hlt,fun hall => hK _ ?_,fun j x hj hx => hK _ ?_⟩ <;> clear hK K
 ·have hpm : (sn.map fun x => (atB bs M x).1).Perm (keys M) := seen_keys hn hb hsn.nodup hsn.sub hall
  have hlen : sn.length = (sn.map fun x => (atB bs M x).1).length := by simp
  have hso : sortK (sn.map fun x => (atB bs M x).1) = sortK (keys M) := sortK_of hpm
  have hsl := sortK_len (sn.map fun x => (atB bs M x).1)
  have hkl : (sn.map fun x => (atB bs M x).1).length < 1099511627776 := by rw [hpm.length_eq,keys_len];exact hl
  generalize (sn.map fun x => (atB bs M x).1) = l at *
  rw [hlen]
  (refine W_seq (W_cf rfl ?_))
  refine W_exit ?_
  simp only [thenW,blockW,if_true]
  ((refine W_seqR ?_);intro K hK;(refine sTd ?_))
  refine ⟨by kernel_rfl,call_sortI rfl rfl hkl ?_⟩
  (refine sTd ?_;try exact True.intro)
  (refine hK _ ?_;clear hK K)
  rw [hso] at hsl ⊢
  rw [← hsl]
  (refine W.le ?_ (Le_freeze 3 (rows := i64s (sortK (keys M))) rfl (by simp) (.inl rfl));simp only [St.freeze,List.map_cons,List.map_nil,List.set,if_true,if_false,Nat.reduceEqDiff,reduceCtorEq,List.drop_zero,u32s_take,u32s_drop,froz_any,froz_und,froz_int,froz_bool,froz_str,froz_nils,froz_sl,froz_ia,froz_nilp,froz_nilif,froz_nilfn,froz_nilmp,froz_gl,froz_sref,froz_ptr,froz_agg,froz_tup,froz_fn,froz_ifc,frozs_nil,frozs_cons,froz_dead,froz_arr,froz_mp,froz_it,froz_md,froz_map,froz_iter])
  (refine aTd ?_)
  refine W_ret ?_
  (refine qG ?_;try exact True.intro);try (refine sTdV ?_;try exact True.intro)
 ·have hjl : j < M.length := by have := births_lt hj;omega
  have hXj : (tab rowU M).getD j [] = rowU (M.getD j default) := tab_getD hjl
  have hat := atB_of hn hj (M := M)
  have hs2 := hsn.snoc hj hx
  have hmu := hsn.lt hj hx
  have hln := seen_le hsn.nodup hsn.sub
  have hlo : (sn.map fun x => (atB bs M x).1).length = sn.length := by simp
  have hres : (sn ++ [x]).map (fun x => (atB bs M x).1) = sn.map (fun x => (atB bs M x).1) ++ [(M.getD j default).1] := by simp [hat]
  generalize M.getD j default = p at *
  simp only [rowU] at hXj
  rw [hXj]
  generalize hlo' : sn.map (fun x => (atB bs M x).1) = lo at *
  (refine W_seq (W_ct rfl ?_))
  refine W_skip ?_
  simp only [thenW]
  refine W_block ?_
  ((refine W_seqR ?_);intro K hK;(refine sTd ?_))
  refine ⟨j,x,by simp,hj,?_⟩
  (refine sTdX hXj ?_;try exact True.intro)
  (refine hK _ ?_;clear hK K)
  (refine W_regR fun K hK => ?_;(refine sTd ?_;try exact True.intro))
  (repeat refine aI ?_)
  refine hK _ ?_
  clear hK K
  simp only [blockW,thenW]
  refine ⟨⟨sn ++ [x],hs2⟩,Le_drop (by simp [leE]) (by rw [hres];simp [leH,i64s,hlo,List.take_of_length_le]) rfl rfl,?_⟩
  exact hmu
end Go.Proofs.YtjmpajgjaefcjaaGreat.Vm
/-
  Tableaus: the rows told; a form without basic variables.
-/
namespace Go.Proofs.YtjmpajgjaefcjaaGreat.Vm
open Go Go.RowKit
set_option maxRecDepth 100000
set_option linter.unusedVariables false
set_option linter.unusedSimpArgs false
theorem sTe {G G' : Prop} (h : G') (e : G = G' := by conv => lhs; simp (disch := omega) only [rowsOf, cNat, cN, St.ret, St.seth, Eff.app, Eff.wi, sepL, guardOf, St.known, objOf, List.set, sliceW, litW, copyW, lenOf, bnd, mxOk, ofCells, TI.isAgg, cellsOf, storable, AV.one, dead, laid, overlay, reduceCtorEq, Int.reduceLE, Int.reduceLT, Int.reduceSub, Int.reduceAdd, Nat.reduceMul, Int.reduceToNat, Nat.reducePow, Int.reduceNeg, Nat.reduceAdd, Nat.reduceLT, Nat.reduceLeDiff, sA, sB, Nat.reduceEqDiff, cQ, rowQ, rowU, rowM, i64s_getD, i64s_length, i64s_all, i64s_take, i64s_drop, i64s_set, i64s_one, i64s_pure, i64s_append, tab_length, tab_drop, tab_take, tab_append, tab_nil, rowU_all, rowU_one, rowU_pure, rowQ_all, rowQ_one, rowQ_pure, List.take_length, List.length_append, findA_tab, sT]) : G := e.mpr h
theorem sTeX {G G' P : Prop} (p : P) (h : G') (e : P → G = G' := by intro p; conv => lhs; simp (disch := omega) only [rowsOf, cNat, cN, St.ret, St.seth, Eff.app, Eff.wi, sepL, guardOf, St.known, objOf, List.set, sliceW, litW, copyW, lenOf, bnd, mxOk, ofCells, TI.isAgg, cellsOf, storable, AV.one, dead, laid, overlay, reduceCtorEq, Int.reduceLE, Int.reduceLT, Int.reduceSub, Int.reduceAdd, Nat.reduceMul, Int.reduceToNat, Nat.reducePow, Int.reduceNeg, Nat.reduceAdd, Nat.reduceLT, Nat.reduceLeDiff, sA, sB, Nat.reduceEqDiff, cQ, rowQ, rowU, rowM, i64s_getD, i64s_length, i64s_all, i64s_take, i64s_drop, i64s_set, i64s_one, i64s_pure, i64s_append, tab_length, tab_drop, tab_take, tab_append, tab_nil, rowU_all, rowU_one, rowU_pure, rowQ_all, rowQ_one, rowQ_pure, List.take_length, List.length_append, findA_tab, sT, p]) : G := (e p).mpr h
theorem sTeV {G G' : Prop} (h : G') (e : G = G' := by conv => lhs; simp (disch := omega) only [rowsOf, cNat, cN, St.ret, St.seth, Eff.app, Eff.wi, sepL, guardOf, St.known, objOf, List.set, sliceW, litW, copyW, lenOf, bnd, mxOk, ofCells, TI.isAgg, cellsOf, storable, AV.one, dead, laid, overlay, reduceCtorEq, Int.reduceLE, Int.reduceLT, Int.reduceSub, Int.reduceAdd, Nat.reduceMul, Int.reduceToNat, Nat.reducePow, Int.reduceNeg, Nat.reduceAdd, Nat.reduceLT, Nat.reduceLeDiff, sA, sB, Nat.reduceEqDiff, cQ, rowQ, rowU, rowM, i64s_getD, i64s_length, i64s_all, i64s_take, i64s_drop, i64s_set, i64s_one, i64s_pure, i64s_append, tab_length, tab_drop, tab_take, tab_append, tab_nil, rowU_all, rowU_one, rowU_pure, rowQ_all, rowQ_one, rowQ_pure, List.take_length, List.length_append, findA_tab, sT, view_sref, viewRef, view_agg, views_cons, views_nil, view_bool, view_int, view_sl, view_nils, view_str, view_tup, view_nilif]) : G := e.mpr h
theorem aTe {G G' : Prop} (h : G') (f : Wr G' → G := by intro h; (repeat (first | (refine W_seqV fun K hK => ?_; (try (refine sTe ?_; try exact True.intro)); (repeat refine aI ?_); refine hK _ ?_; clear hK K) | (refine W_seqR fun K hK => ?_; (try (refine sTe ?_; try exact True.intro)); (repeat refine aI ?_); refine hK _ ?_; clear hK K) | (refine W_seqD mixed [] (by kernel_rfl) fun K hK => ?_; (try (refine sTe ?_; try exact True.intro)); (repeat refine aI ?_); refine hK _ ?_; clear hK K))); exact h.out) : G := f ⟨h⟩

theorem look_idx {M : TM} {b : Int} (h : b ∈ keys M) : ∃ j, idxM M b = some j ∧ j < M.length ∧ (M.getD j default).1 = b ∧ lookM M b = some (M.getD j default).2 ∧ M.getD j default ∈ M := by
  cases hi : idxM M b with
  | none => exact absurd h (idx_none hi).1
  | some j =>
    obtain ⟨h1, h2, h3, _⟩ := idx_some hi
    exact ⟨j, rfl, h1, h2, h3, getD_mem h1⟩
theorem sortM_getD {M : TM} {i : Nat} (h : i < (sortK (keys M)).length) : (sortM M).getD i default = ((sortK (keys M)).getD i 0, (lookM M ((sortK (keys M)).getD i 0)).getD []) := by
  unfold sortM
  simp [List.getD_eq_getElem?_getD, h]
/-- Rows whose forms are normal and small. -/
structure MOk (M : TM) (B : Nat) : Prop where
  nf : ∀ r ∈ M, NF r.2
  sz : ∀ r ∈ M, Sz r.2 B
  len : M.length < 1099511627776
theorem ttold_ok (M : TM) (n : Int) (c : Nat) (bs : List Nat) {B : Nat} (hM : MOk M B) (hB : B < 17179869184) (hb : bs.length = M.length) (hn : bs.Nodup) (hlt : ∀ x ∈ bs, x < c) :
    Pure Tryz.prog 63 [.md c bs (tab rowU M), .int .i64 n] (· = cU n (sortM M)) := by
  have a1 := tbasics_ok M c bs hb hn hlt hM.len
  have hsl : (sortM M).length = (sortK (keys M)).length := by rw [sortM_len, sortK_len, keys_len]
  have hsm : (sortM M).length < 1099511627776 := by rw [sortM_len]; exact hM.len
  have hrow : ∀ i, i < (sortK (keys M)).length → ∃ j g, idxM M ((sortK (keys M)).getD i 0) = some j ∧ (tab rowU M).getD j [] = [.int .i64 ((sortK (keys M)).getD i 0), .sl (tab rowQ g)] ∧
      (sortM M).take (i + 1) = (sortM M).take i ++ [((sortK (keys M)).getD i 0, g)] ∧ Pure Tryz.prog 108 [cL g] (· = cL g) := by
    intro i hi
    have hm : (sortK (keys M)).getD i 0 ∈ keys M := mem_sortK.1 (by simp [List.getD_eq_getElem?_getD, hi])
    obtain ⟨j, h1, h2, h3, h4, h5⟩ := look_idx hm
    refine ⟨j, (M.getD j default).2, h1, ?_, ?_, ?_⟩
    · rw [rowU_getD h2, ← h3]
      rfl
    · rw [take_snoc (by omega), sortM_getD hi, h4]
      rfl
    · have := lnorm_ok (rf (M.getD j default).2) (FOk.rf (hM.sz _ h5) hB) hB
      rw [vals_rf, norm_self (hM.nf _ h5), cF_rf] at this
      exact this
  have hall : (sortM M).take (sortK (keys M)).length = sortM M := by rw [← hsl, List.take_length]
  have h0 : (sortM M).take 0 = [] := rfl
  have hln : ∀ i, i ≤ (sortK (keys M)).length → ((sortM M).take i).length = i := fun i hi => by rw [List.length_take]; omega
  unfold cU
  generalize sortK (keys M) = l at *
  generalize sortM M = N at *
  generalize hE : (fun i => N.take i) = E at *
  have hE' : ∀ i, N.take i = E i := fun i => congrFun hE i
  simp only [hE'] at *
  clear hE hE'
  (refine pureW Tryz.func63 rfl (rs := [Go.ResultVar.cell 4 24]) rfl (n := 30) rfl ?_; simp only [List.length_cons, List.length_nil, List.replicate, List.cons_append, List.nil_append])
  (refine aTe ?_)
  ((refine W_seq (W_seqV ?_)); intro K hK; (refine sTe ?_))
  (refine ⟨by kernel_rfl, _, .pure rfl (a1), ?_⟩; (try (refine sTe ?_)))
  (refine hK _ ?_; clear hK K)
  refine W.le ?_ (Le_nilO 5 0 1 26 84 2 true rfl rfl rfl rfl)
  simp only [List.set]
  refine W_block (W_loop (fun t : {t : Nat // t ≤ l.length} =>
      ⟨[.md c bs (tab rowU M), .int .i64 n, .any, .any, .ptr 4 0 0, .ptr 5 0 0, .any, .any, .any, .any, .any, .sl (i64s l), .int .i64 l.length, .int .i64 t.1, .any, .any, .any, .any, .any, .any, .any, .any, .any, .any, .any, .any, .any, .any, .any, .any],
       [.dead, .dead, .dead, .dead, .arr 24 2 false [[.int .i64 0, .nils]], .arr 24 2 false [[.int .i64 n, .sref 26 0 t.1]], .dead, .dead, .dead, .dead, .dead, .dead, .dead, .dead, .dead, .dead, .dead, .dead, .dead, .dead, .dead, .dead, .dead, .dead, .dead, .dead, .arr 84 2 true (tab rowU (E t.1)), .dead, .dead, .dead]⟩) (fun t => l.length - t.1)
      ⟨0, by omega⟩ (Le_of (by simp [leE]) (by simp [h0, tab])) fun t => ?_)
  obtain ⟨i, hi⟩ := t
  dsimp only
  by_cases hil : i < l.length
  · obtain ⟨j, g, hid, hXj, hst, hno⟩ := hrow i hil
    have hle := hln i (by omega)
    generalize hv : l.getD i 0 = v at *
    generalize E i = o at *
    simp only [cL] at hno
    refine W_seq ?_
    ((refine W_regV ?_); intro K hK; (refine sTeX hil ?_))
    (refine hK _ ?_; clear hK K)
    (refine W_seq (W_cond rfl (fun _ => ?_) (fun h => by cases h)))
    refine W_skip ?_
    simp only [thenW]
    refine W_seq ?_
    refine W_block ?_
    ((refine W_seqV ?_); intro K hK; (refine sTeX (And.intro hv hil) ?_))
    (refine hK _ ?_; clear hK K)
    ((refine W_regS mixed 9 [] (by kernel_rfl) ?_); intro K hK; (refine sTeX (And.intro hid hXj) ?_))
    (refine ⟨by kernel_rfl, _, .pure rfl (hno), ?_⟩; (try (refine sTe ?_)); (repeat refine aI ?_))
    (refine hK _ ?_; clear hK K)
    simp only [blockW, thenW]
    ((refine W_regV ?_); intro K hK; (refine sTe ?_))
    (refine hK _ ?_; clear hK K)
    simp only [blockW, thenW]
    refine ⟨⟨i + 1, by omega⟩, Le_drop (by simp [leE]) (by simp [leH, hst, ← tab_snoc, rowU, tab_take, List.take_of_length_le, hle]) rfl rfl, ?_⟩
    dsimp only
    omega
  · obtain rfl : i = l.length := by omega
    rw [hall]
    refine W_seq ?_
    ((refine W_regV ?_); intro K hK; (refine sTe ?_))
    (refine hK _ ?_; clear hK K)
    (refine W_seq (W_cond rfl (fun h => by cases h) (fun _ => ?_)))
    refine W_exit ?_
    simp only [thenW, blockW, if_true]
    (refine aTe ?_)
    refine W_ret ?_
    (refine qG ?_; try exact True.intro); try (refine sTeV ?_; try exact True.intro)
    rw [List.take_of_length_le (by omega)]
end Go.Proofs.YtjmpajgjaefcjaaGreat.Vm

/-
  Tableaus: a tableau's rows as a map.
-/
namespace Go.Proofs.YtjmpajgjaefcjaaGreat.Vm
open Go Go.RowKit
set_option maxRecDepth 100000
set_option linter.unusedVariables false
set_option linter.unusedSimpArgs false
theorem sTf {G G' : Prop} (h : G') (e : G = G' := by conv => lhs; simp (disch := omega) only [rowsOf, cNat, cN, St.ret, St.seth, Eff.app, Eff.wi, sepL, guardOf, St.known, objOf, List.set, sliceW, litW, copyW, lenOf, bnd, mxOk, ofCells, TI.isAgg, cellsOf, storable, AV.one, dead, laid, overlay, reduceCtorEq, Int.reduceLE, Int.reduceLT, Int.reduceSub, Int.reduceAdd, Nat.reduceMul, Int.reduceToNat, Nat.reducePow, Int.reduceNeg, Nat.reduceAdd, Nat.reduceLT, Nat.reduceLeDiff, sA, sB, Nat.reduceEqDiff, cQ, rowQ, rowU, rowT, rowM, i64s_getD, i64s_length, tab_length, tab_drop, tab_take, tab_append, tab_nil, rowT_all, rowT_one, rowT_pure, rowU_all, rowU_one, rowU_pure, rowQ_all, rowQ_one, rowQ_pure, List.take_length, List.length_append, findA_tab, range_snoc, pure_sl, sT]) : G := e.mpr h
theorem sTfX {G G' P : Prop} (p : P) (h : G') (e : P → G = G' := by intro p; conv => lhs; simp (disch := omega) only [rowsOf, cNat, cN, St.ret, St.seth, Eff.app, Eff.wi, sepL, guardOf, St.known, objOf, List.set, sliceW, litW, copyW, lenOf, bnd, mxOk, ofCells, TI.isAgg, cellsOf, storable, AV.one, dead, laid, overlay, reduceCtorEq, Int.reduceLE, Int.reduceLT, Int.reduceSub, Int.reduceAdd, Nat.reduceMul, Int.reduceToNat, Nat.reducePow, Int.reduceNeg, Nat.reduceAdd, Nat.reduceLT, Nat.reduceLeDiff, sA, sB, Nat.reduceEqDiff, cQ, rowQ, rowU, rowT, rowM, i64s_getD, i64s_length, tab_length, tab_drop, tab_take, tab_append, tab_nil, rowT_all, rowT_one, rowT_pure, rowU_all, rowU_one, rowU_pure, rowQ_all, rowQ_one, rowQ_pure, List.take_length, List.length_append, findA_tab, range_snoc, pure_sl, sT, p]) : G := (e p).mpr h
theorem aTf {G G' : Prop} (h : G') (f : Wr G' → G := by intro h; (repeat (first | (refine W_seqV fun K hK => ?_; (try (refine sTf ?_; try exact True.intro)); (repeat refine aI ?_); refine hK _ ?_; clear hK K) | (refine W_seqR fun K hK => ?_; (try (refine sTf ?_; try exact True.intro)); (repeat refine aI ?_); refine hK _ ?_; clear hK K) | (refine W_seqD mixed [] (by kernel_rfl) fun K hK => ?_; (try (refine sTf ?_; try exact True.intro)); (repeat refine aI ?_); refine hK _ ?_; clear hK K))); exact h.out) : G := f ⟨h⟩

/-- What is known of the rows' variables, row by row. -/
structure KOk (n : Int) (l : List Int) : Prop where
  nodup : l.Nodup
  range : ∀ b ∈ l, 0 ≤ b ∧ b < n
theorem KOk.nil (n : Int) : KOk n [] := ⟨List.nodup_nil, by simp⟩
theorem KOk.snoc {n : Int} {l : List Int} (h : KOk n l) {b : Int} (h1 : b ∉ l) (h2 : 0 ≤ b ∧ b < n) : KOk n (l ++ [b]) := by
  refine ⟨?_, fun c hc => ?_⟩
  · rw [List.nodup_append]
    refine ⟨h.nodup, by simp, ?_⟩
    rintro a ha b' hb rfl
    simp at hb
    subst hb
    exact h1 ha
  · rcases List.mem_append.1 hc with hc | hc
    · exact h.range c hc
    · simp at hc; subst hc; exact h2
theorem GT.pre {n : Int} {M : TM} (h : GT n M) {i : Nat} (hi : i < M.length) : (M.getD i default).1 ∉ keys (M.take i) ∧ 0 ≤ (M.getD i default).1 ∧ (M.getD i default).1 < n := by
  have h1 := h.range (M.getD i default).1 (List.mem_map.2 ⟨_, getD_mem hi, rfl⟩)
  refine ⟨fun hm => ?_, h1⟩
  have h2 := h.nodup
  have h3 : keys M = keys (M.take i) ++ keys (M.drop i) := by rw [← keys_append, List.take_append_drop]
  rw [h3, List.nodup_append] at h2
  refine h2.2.2 _ hm (M.getD i default).1 ?_ rfl
  have : M.drop i = M.getD i default :: M.drop (i + 1) := by
    rw [List.drop_eq_getElem_cons hi]
    simp [List.getD_eq_getElem?_getD, hi]
  rw [this]
  simp [keys]
def loadR (n : Int) (t : TR) : MapR := if goodB n (nrmT t) then some (t.length, List.range t.length, tab rowU (nrmT t)) else none
theorem tload_new (n : Int) (t : TR) {B : Nat} (hf : ∀ r ∈ t, FOk r.2 B) (hB : B < 17179869184) (hl : t.length < 1099511627776) :
    NewMB Tryz.prog 62 [cT n t] (· = loadR n t) := by
  have hml := nrmT_len t
  have hgT : GT n (nrmT t) → goodB n (nrmT t) = true := gt_iff.2
  have hgF : ¬ GT n (nrmT t) → goodB n (nrmT t) = false := fun h => by
    rw [Bool.eq_false_iff]
    exact fun h' => h (gt_iff.1 h')
  have hnd := fun i (hi : i < t.length) => nrmT_getD hi
  have hno := fun i (hi : i < t.length) => lnorm_ok (t.getD i default).2 (hf _ (getD_mem hi)) hB
  have hst : ∀ i, i < t.length → (nrmT t).take (i + 1) = (nrmT t).take i ++ [((t.getD i default).1, normF (vals (t.getD i default).2))] := fun i hi => by
    rw [take_snoc (by omega), hnd i hi]
  have hfl : ∀ r ∈ nrmT t, r.2.length < 1099511627776 := fun r hr => by
    obtain ⟨q, hq, rfl⟩ := List.mem_map.1 hr
    have := (hf q hq).sz.norm.l
    simp only
    omega
  have hall : (nrmT t).take t.length = nrmT t := by rw [← hml, List.take_length]
  unfold loadR cT
  generalize nrmT t = M at *
  generalize goodB n M = gb at *
  by_cases h1 : n < 0
  · rw [hgF fun h => by have := h.lo; omega]
    (refine newMB_of_W Tryz.func62 rfl (rs := [Go.ResultVar.tmp 2, Go.ResultVar.tmp 3]) rfl (nt := 92) rfl ?_; simp only [List.length_cons, List.length_nil, List.replicate, List.cons_append, List.nil_append])
    (refine aTf ?_)
    ((refine W_seq (W_seqV ?_)); intro K hK; (refine sTfX h1 ?_))
    (refine hK _ ?_; clear hK K)
    (refine W_cond rfl (fun _ => ?_) (fun h => by cases h))
    (refine aTf ?_)
    refine W_ret ?_
    (simp only [thenW, blockW, newMQ, resW, resV, asOne_two, newMK, List.getD_cons_zero, List.getD_cons_succ]); simp
  by_cases h2 : 65536 < n
  · rw [hgF fun h => by have := h.hi; omega]
    (refine newMB_of_W Tryz.func62 rfl (rs := [Go.ResultVar.tmp 2, Go.ResultVar.tmp 3]) rfl (nt := 92) rfl ?_; simp only [List.length_cons, List.length_nil, List.replicate, List.cons_append, List.nil_append])
    (refine aTf ?_)
    ((refine W_seq (W_seqV ?_)); intro K hK; (refine sTfX (And.intro h1 h2) ?_))
    (refine hK _ ?_; clear hK K)
    (refine W_cond rfl (fun _ => ?_) (fun h => by cases h))
    (refine aTf ?_)
    refine W_ret ?_
    (simp only [thenW, blockW, newMQ, resW, resV, asOne_two, newMK, List.getD_cons_zero, List.getD_cons_succ]); simp
  (refine newMB_of_W Tryz.func62 rfl (rs := [Go.ResultVar.tmp 2, Go.ResultVar.tmp 3]) rfl (nt := 92) rfl ?_; simp only [List.length_cons, List.length_nil, List.replicate, List.cons_append, List.nil_append])
  (refine aTf ?_)
  ((refine W_seq (W_seqV ?_)); intro K hK; (refine sTfX (And.intro h1 h2) ?_))
  (refine hK _ ?_; clear hK K)
  (refine W_cond rfl (fun h => by cases h) (fun _ => ?_))
  refine W_skip ?_
  simp only [thenW]
  ((refine W_seqR ?_); intro K hK; (refine sTf ?_))
  (refine hK _ ?_; clear hK K)
  ((refine W_seq (W_seqV ?_)); intro K hK; (refine sTf ?_))
  (refine hK _ ?_; clear hK K)
  refine W_block (W_loop (fun s : {i : Nat // i ≤ t.length ∧ KOk n (keys (M.take i))} =>
      ⟨(.any :: (.ptr 1 0 0) :: .nilmp :: (.bool false) :: (.mp 23) :: .any :: .any :: .any :: .any :: .any :: .any :: .any :: .any :: .any :: .any :: .any :: .any :: .any :: .any :: .any :: .any :: .any :: .any :: .any :: .any :: (.sl (tab rowT t)) :: (.int .i64 t.length) :: (.int .i64 s.1) :: .any :: .any :: .any :: .any :: .any :: .any :: .any :: .any :: .any :: .any :: .any :: .any :: .any :: .any :: .any :: .any :: .any :: .any :: .any :: .any :: .any :: .any :: .any :: .any :: .any :: .any :: .any :: .any :: .any :: .any :: .any :: .any :: .any :: .any :: .any :: .any :: .any :: .any :: .any :: .any :: .any :: .any :: .any :: .any :: .any :: .any :: .any :: .any :: .any :: .any :: .any :: .any :: .any :: .any :: .any :: .any :: .any :: .any :: .any :: .any :: .any :: .any :: .any :: .any :: []),
       (.dead :: (.arr 24 2 false [[.int .i64 n, .sl (tab rowT t)]]) :: .dead :: .dead :: .dead :: .dead :: .dead :: .dead :: .dead :: .dead :: .dead :: .dead :: .dead :: .dead :: .dead :: .dead :: .dead :: .dead :: .dead :: .dead :: .dead :: .dead :: .dead :: (.map s.1 (List.range s.1) (tab rowU (M.take s.1))) :: .dead :: .dead :: .dead :: .dead :: .dead :: .dead :: .dead :: .dead :: .dead :: .dead :: .dead :: .dead :: .dead :: .dead :: .dead :: .dead :: .dead :: .dead :: .dead :: .dead :: .dead :: .dead :: .dead :: .dead :: .dead :: .dead :: .dead :: .dead :: .dead :: .dead :: .dead :: .dead :: .dead :: .dead :: .dead :: .dead :: .dead :: .dead :: .dead :: .dead :: .dead :: .dead :: .dead :: .dead :: .dead :: .dead :: .dead :: .dead :: .dead :: .dead :: .dead :: .dead :: .dead :: .dead :: .dead :: .dead :: .dead :: .dead :: .dead :: .dead :: .dead :: .dead :: .dead :: .dead :: .dead :: .dead :: .dead :: .dead :: [])⟩) (fun s => t.length - s.1)
      ⟨0, by omega, KOk.nil n⟩ (Le_drop (by simp [leE]) (by simp [leH, tab]) rfl rfl) fun s => ?_)
  obtain ⟨i, hi, hk⟩ := s
  dsimp only
  by_cases hil : i < t.length
  · have hti : (tab rowT t).getD i [] = rowT (t.getD i default) := tab_getD hil
    have hni := hno i hil
    have hsi := hst i hil
    have hMi := hnd i hil
    have hpre := fun h : GT n M => h.pre (show i < M.length by omega)
    rw [hMi] at hpre
    generalize t.getD i default = r at *
    obtain ⟨b, f⟩ := r
    simp only [rowT] at hti
    dsimp only at *
    have htl : (M.take i).length = i := by rw [List.length_take]; omega
    generalize M.take i = P at *
    refine W_seq ?_
    ((refine W_regV ?_); intro K hK; (refine sTfX hil ?_))
    (refine hK _ ?_; clear hK K)
    (refine W_seq (W_cond rfl (fun _ => ?_) (fun h => by cases h)))
    refine W_skip ?_
    simp only [thenW]
    refine W_seq ?_
    refine W_block ?_
    ((refine W_seqV ?_); intro K hK; (refine sTfX (And.intro hti hil) ?_))
    (refine hK _ ?_; clear hK K)
    refine W_seq ?_
    refine W_seq ?_
    cases hid : idxM P b with
    | some j =>
      obtain ⟨hj1, hj2, _, hj3⟩ := idx_some hid
      have hXj : (tab rowU P).getD j [] = rowU (P.getD j default) := rowU_getD hj1
      rw [hgF fun h => (hpre h).1 hj3]
      generalize P.getD j default = q at *
      simp only [rowU] at hXj
      ((refine W_regV ?_); intro K hK; (refine sTfX (And.intro hid hXj) ?_))
      (refine hK _ ?_; clear hK K)
      ((refine W_seqV ?_); intro K hK; (refine sTf ?_))
      (refine hK _ ?_; clear hK K)
      (refine W_cond rfl (fun _ => ?_) (fun h => by cases h))
      (refine aTf ?_)
      refine W_ret ?_
      (simp only [thenW, blockW, newMQ, resW, resV, asOne_two, newMK, List.getD_cons_zero, List.getD_cons_succ]); simp
    | none =>
      have hni2 := (idx_none hid).1
      ((refine W_regV ?_); intro K hK; (refine sTfX hid ?_))
      (refine hK _ ?_; clear hK K)
      by_cases h3 : b < 0
      · rw [hgF fun h => by have := (hpre h).2.1; omega]
        ((refine W_seqV ?_); intro K hK; (refine sTfX h3 ?_))
        (refine hK _ ?_; clear hK K)
        (refine W_cond rfl (fun _ => ?_) (fun h => by cases h))
        (refine aTf ?_)
        refine W_ret ?_
        (simp only [thenW, blockW, newMQ, resW, resV, asOne_two, newMK, List.getD_cons_zero, List.getD_cons_succ]); simp
      · by_cases h4 : n ≤ b
        · rw [hgF fun h => by have := (hpre h).2.2; omega]
          ((refine W_seqV ?_); intro K hK; (refine sTfX (And.intro h3 h4) ?_))
          (refine hK _ ?_; clear hK K)
          (refine W_cond rfl (fun _ => ?_) (fun h => by cases h))
          (refine aTf ?_)
          refine W_ret ?_
          (simp only [thenW, blockW, newMQ, resW, resV, asOne_two, newMK, List.getD_cons_zero, List.getD_cons_succ]); simp
        · have hk' : KOk n (keys (P ++ [(b, normF (vals f))])) := by
            rw [keys_append]
            exact hk.snoc hni2 ⟨by show 0 ≤ b; omega, by show b < n; omega⟩
          simp only [cF, cL] at hni
          ((refine W_seqV ?_); intro K hK; (refine sTfX (And.intro h3 h4) ?_))
          (refine hK _ ?_; clear hK K)
          (refine W_cond rfl (fun h => by cases h) (fun _ => ?_))
          refine W_skip ?_
          simp only [thenW]
          ((refine W_regS mixed 6 [] (by kernel_rfl) ?_); intro K hK; (refine sTfX hid ?_))
          (refine ⟨by kernel_rfl, _, .pure rfl (hni), ?_⟩; (try (refine sTf ?_)))
          (refine hK _ ?_; clear hK K)
          simp only [blockW, thenW]
          ((refine W_regV ?_); intro K hK; (refine sTf ?_))
          (refine hK _ ?_; clear hK K)
          simp only [blockW, thenW]
          refine ⟨⟨i + 1, by omega, by rw [hsi]; exact hk'⟩, Le_drop (by simp [leE]) (by simp [leH, hsi, ← tab_snoc, rowU, range_snoc]) rfl rfl, ?_⟩
          dsimp only
          omega
  · obtain rfl : i = t.length := by omega
    rw [hall] at hk ⊢
    refine W_seq ?_
    ((refine W_regV ?_); intro K hK; (refine sTf ?_))
    (refine hK _ ?_; clear hK K)
    (refine W_seq (W_cond rfl (fun h => by cases h) (fun _ => ?_)))
    refine W_exit ?_
    simp only [thenW, blockW, if_true]
    ((refine W_seq (W_seqR ?_)); intro K hK; (refine sTf ?_))
    (refine hK _ ?_; clear hK K)
    have hrl : (List.range t.length).length = t.length := List.length_range
    refine W_block (W_loop (fun s : {sn : List Nat // Seen (List.range t.length) sn ∧ ∀ x ∈ sn, ∀ p ∈ (M.getD x default).2, (0 ≤ p.1 ∧ p.1 < n) ∧ p.1 ∉ keys M} =>
      ⟨(.any :: (.ptr 1 0 0) :: .nilmp :: (.bool false) :: (.mp 23) :: .any :: .any :: .any :: .any :: .any :: .any :: .any :: .any :: .any :: .any :: .any :: .any :: .any :: .any :: .any :: .any :: .any :: .any :: .any :: .any :: .any :: .any :: .any :: .any :: .any :: .any :: .any :: .any :: .any :: .any :: .any :: .any :: .any :: .any :: .any :: .any :: .any :: .any :: .any :: .any :: .any :: .any :: .any :: .any :: .any :: .any :: .any :: .any :: .any :: .any :: .any :: .any :: .any :: .any :: (.it 59) :: .any :: .any :: .any :: .any :: .any :: .any :: .any :: .any :: .any :: .any :: .any :: .any :: .any :: .any :: .any :: .any :: .any :: .any :: .any :: .any :: .any :: .any :: .any :: .any :: .any :: .any :: .any :: .any :: .any :: .any :: .any :: .any :: []),
       (.dead :: (.arr 24 2 false [[.int .i64 n, .sl (tab rowT t)]]) :: .dead :: .dead :: .dead :: .dead :: .dead :: .dead :: .dead :: .dead :: .dead :: .dead :: .dead :: .dead :: .dead :: .dead :: .dead :: .dead :: .dead :: .dead :: .dead :: .dead :: .dead :: (.map t.length (List.range t.length) (tab rowU M)) :: .dead :: .dead :: .dead :: .dead :: .dead :: .dead :: .dead :: .dead :: .dead :: .dead :: .dead :: .dead :: .dead :: .dead :: .dead :: .dead :: .dead :: .dead :: .dead :: .dead :: .dead :: .dead :: .dead :: .dead :: .dead :: .dead :: .dead :: .dead :: .dead :: .dead :: .dead :: .dead :: .dead :: .dead :: .dead :: (.iter (.mp 23) t.length s.1 t.length) :: .dead :: .dead :: .dead :: .dead :: .dead :: .dead :: .dead :: .dead :: .dead :: .dead :: .dead :: .dead :: .dead :: .dead :: .dead :: .dead :: .dead :: .dead :: .dead :: .dead :: .dead :: .dead :: .dead :: .dead :: .dead :: .dead :: .dead :: .dead :: .dead :: .dead :: .dead :: .dead :: [])⟩) (fun s => (List.range t.length).length - s.1.length)
      ⟨[], Seen.nil _, by simp⟩ (Le_drop (by simp [leE]) (by simp [leH]) rfl rfl) fun s => ?_)
    obtain ⟨sn, hsn, hgd⟩ := s
    dsimp only
    ((refine W_seqR ?_); intro K hK; (refine sTf ?_))
    refine ⟨Nat.le_refl _, fun x hx => List.mem_range.1 hx, fun hall => hK _ ?_, fun j x hj hx => hK _ ?_⟩ <;> clear hK K
    · have hG : GT n M := ⟨by omega, by omega, hk.nodup, hk.range, fun r hr p hp => by
        obtain ⟨x, hx, rfl⟩ := mem_getD hr
        exact hgd x (hall x (List.mem_range.2 (by omega))) p hp⟩
      rw [hgT hG]
      (refine W_seq (W_cond rfl (fun h => by cases h) (fun _ => ?_)))
      refine W_exit ?_
      simp only [thenW, blockW, if_true]
      (refine aTf ?_)
      refine W_ret ?_
      (simp only [thenW, blockW, newMQ, resW, resV, asOne_two, newMK, List.getD_cons_zero, List.getD_cons_succ])
      exact ⟨_, _, _, rfl, rfl⟩
    · obtain ⟨hjl, rfl⟩ := range_get hj
      have hXj : (tab rowU M).getD x [] = rowU (M.getD x default) := tab_getD (by omega)
      have hs2 := hsn.snoc hj hx
      have hmu := hsn.lt hj hx
      have hqm : M.getD x default ∈ M := getD_mem (by omega)
      have hql := hfl _ hqm
      have hqg : ∀ p ∈ (M.getD x default).2, ¬ ((0 ≤ p.1 ∧ p.1 < n) ∧ p.1 ∉ keys M) → ¬ GT n M := fun p hp h h' => h (h'.free _ hqm p hp)
      have hg2 : (∀ p ∈ (M.getD x default).2, (0 ≤ p.1 ∧ p.1 < n) ∧ p.1 ∉ keys M) → ∀ y ∈ sn ++ [x], ∀ p ∈ (M.getD y default).2, (0 ≤ p.1 ∧ p.1 < n) ∧ p.1 ∉ keys M := fun h y hy => by
        rcases List.mem_append.1 hy with hy | hy
        · exact hgd y hy
        · simp at hy; subst hy; exact h
      generalize M.getD x default = q at *
      obtain ⟨b, f⟩ := q
      simp only [rowU] at hXj
      dsimp only at *
      rw [hXj]
      (refine W_seq (W_cond rfl (fun _ => ?_) (fun h => by cases h)))
      refine W_skip ?_
      simp only [thenW]
      refine W_block ?_
      ((refine W_seqR ?_); intro K hK; (refine sTf ?_))
      refine ⟨x, x, by simp, hj, ?_⟩
      (refine sTfX hXj ?_; try exact True.intro)
      (refine hK _ ?_; clear hK K)
      ((refine W_seqV ?_); intro K hK; (refine sTf ?_))
      (refine hK _ ?_; clear hK K)
      refine W_block (W_loop (fun s : {k : Nat // k ≤ f.length ∧ ∀ i, i < k → (0 ≤ (f.getD i default).1 ∧ (f.getD i default).1 < n) ∧ (f.getD i default).1 ∉ keys M} =>
        ⟨(.any :: (.ptr 1 0 0) :: .nilmp :: (.bool false) :: (.mp 23) :: .any :: .any :: .any :: .any :: .any :: .any :: .any :: .any :: .any :: .any :: .any :: .any :: .any :: .any :: .any :: .any :: .any :: .any :: .any :: .any :: .any :: .any :: .any :: .any :: .any :: .any :: .any :: .any :: .any :: .any :: .any :: .any :: .any :: .any :: .any :: .any :: .any :: .any :: .any :: .any :: .any :: .any :: .any :: .any :: .any :: .any :: .any :: .any :: .any :: .any :: .any :: .any :: .any :: .any :: (.it 59) :: .any :: .any :: .any :: .any :: (.sl (tab rowQ f)) :: (.int .i64 f.length) :: (.int .i64 s.1) :: .any :: .any :: .any :: .any :: .any :: .any :: .any :: .any :: .any :: .any :: .any :: .any :: .any :: .any :: .any :: .any :: .any :: .any :: .any :: .any :: .any :: .any :: .any :: .any :: .any :: []),
         (.dead :: (.arr 24 2 false [[.int .i64 n, .sl (tab rowT t)]]) :: .dead :: .dead :: .dead :: .dead :: .dead :: .dead :: .dead :: .dead :: .dead :: .dead :: .dead :: .dead :: .dead :: .dead :: .dead :: .dead :: .dead :: .dead :: .dead :: .dead :: .dead :: (.map t.length (List.range t.length) (tab rowU M)) :: .dead :: .dead :: .dead :: .dead :: .dead :: .dead :: .dead :: .dead :: .dead :: .dead :: .dead :: .dead :: .dead :: .dead :: .dead :: .dead :: .dead :: .dead :: .dead :: .dead :: .dead :: .dead :: .dead :: .dead :: .dead :: .dead :: .dead :: .dead :: .dead :: .dead :: .dead :: .dead :: .dead :: .dead :: .dead :: (.iter (.mp 23) t.length (sn ++ [x]) t.length) :: .dead :: .dead :: .dead :: .dead :: .dead :: .dead :: .dead :: .dead :: .dead :: .dead :: .dead :: .dead :: .dead :: .dead :: .dead :: .dead :: .dead :: .dead :: .dead :: .dead :: .dead :: .dead :: .dead :: .dead :: .dead :: .dead :: .dead :: .dead :: .dead :: .dead :: .dead :: .dead :: [])⟩) (fun s => f.length - s.1)
        ⟨0, by omega, by omega⟩ (Le_drop (by simp [leE]) (by simp [leH]) rfl rfl) fun s => ?_)
      obtain ⟨k, hkl, hpre⟩ := s
      dsimp only
      by_cases hlt : k < f.length
      · have hfk : (tab rowQ f).getD k [] = rowQ (f.getD k default) := tab_getD hlt
        have hpm : f.getD k default ∈ f := getD_mem hlt
        have hbad := hqg _ hpm
        have hpr : (0 ≤ (f.getD k default).1 ∧ (f.getD k default).1 < n) ∧ (f.getD k default).1 ∉ keys M → ∀ i, i < k + 1 → (0 ≤ (f.getD i default).1 ∧ (f.getD i default).1 < n) ∧ (f.getD i default).1 ∉ keys M := fun h i hi => by
          by_cases hik : i = k
          · subst hik; exact h
          · exact hpre i (by omega)
        generalize f.getD k default = p at *
        obtain ⟨v, y⟩ := p
        simp only [rowQ] at hfk
        dsimp only at *
        refine W_seq ?_
        ((refine W_regV ?_); intro K hK; (refine sTfX hlt ?_))
        (refine hK _ ?_; clear hK K)
        (refine W_seq (W_cond rfl (fun _ => ?_) (fun h => by cases h)))
        refine W_skip ?_
        simp only [thenW]
        refine W_seq ?_
        refine W_block ?_
        ((refine W_seqV ?_); intro K hK; (refine sTfX (And.intro hfk hlt) ?_))
        (refine hK _ ?_; clear hK K)
        cases hid : idxM M v with
        | some j =>
          obtain ⟨hj1, hj2, _, hj3⟩ := idx_some hid
          have hXv : (tab rowU M).getD j [] = rowU (M.getD j default) := rowU_getD hj1
          rw [hgF (hbad fun h => h.2 hj3)]
          generalize M.getD j default = q at *
          simp only [rowU] at hXv
          ((refine W_seqV ?_); intro K hK; (refine sTfX (And.intro hid hXv) ?_))
          (refine hK _ ?_; clear hK K)
          ((refine W_seqV ?_); intro K hK; (refine sTf ?_))
          (refine hK _ ?_; clear hK K)
          (refine W_cond rfl (fun _ => ?_) (fun h => by cases h))
          (refine aTf ?_)
          refine W_ret ?_
          (simp only [thenW, blockW, newMQ, resW, resV, asOne_two, newMK, List.getD_cons_zero, List.getD_cons_succ]); simp
        | none =>
          have hni2 := (idx_none hid).1
          ((refine W_seqV ?_); intro K hK; (refine sTfX hid ?_))
          (refine hK _ ?_; clear hK K)
          by_cases h3 : v < 0
          · rw [hgF (hbad fun h => by omega)]
            ((refine W_seqV ?_); intro K hK; (refine sTfX h3 ?_))
            (refine hK _ ?_; clear hK K)
            (refine W_cond rfl (fun _ => ?_) (fun h => by cases h))
            (refine aTf ?_)
            refine W_ret ?_
            (simp only [thenW, blockW, newMQ, resW, resV, asOne_two, newMK, List.getD_cons_zero, List.getD_cons_succ]); simp
          · by_cases h4 : n ≤ v
            · rw [hgF (hbad fun h => by omega)]
              ((refine W_seqV ?_); intro K hK; (refine sTfX (And.intro h3 h4) ?_))
              (refine hK _ ?_; clear hK K)
              (refine W_cond rfl (fun _ => ?_) (fun h => by cases h))
              (refine aTf ?_)
              refine W_ret ?_
              (simp only [thenW, blockW, newMQ, resW, resV, asOne_two, newMK, List.getD_cons_zero, List.getD_cons_succ]); simp
            · ((refine W_seqV ?_); intro K hK; (refine sTfX (And.intro h3 h4) ?_))
              (refine hK _ ?_; clear hK K)
              (refine W_cond rfl (fun h => by cases h) (fun _ => ?_))
              refine W_skip ?_
              simp only [thenW, blockW]
              ((refine W_regV ?_); intro K hK; (refine sTf ?_))
              (refine hK _ ?_; clear hK K)
              simp only [blockW, thenW]
              refine ⟨⟨k + 1, by omega, hpr ⟨⟨by omega, by omega⟩, hni2⟩⟩, Le_drop (by simp [leE]) (by simp [leH]) rfl rfl, ?_⟩
              dsimp only
              omega
      · obtain rfl : k = f.length := by omega
        refine W_seq ?_
        ((refine W_regV ?_); intro K hK; (refine sTf ?_))
        (refine hK _ ?_; clear hK K)
        (refine W_seq (W_cond rfl (fun h => by cases h) (fun _ => ?_)))
        refine W_exit ?_
        simp only [thenW, blockW, if_true]
        refine ⟨⟨sn ++ [x], hs2, hg2 fun p hp => ?_⟩, Le_drop (by simp [leE]) (by simp [leH]) rfl rfl, ?_⟩
        · obtain ⟨i, hi, rfl⟩ := mem_getD hp
          exact hpre i hi
        · exact hmu
end Go.Proofs.YtjmpajgjaefcjaaGreat.Vm

namespace Go.Proofs.YtjmpajgjaefcjaaGreat.Vm
open Go Go.RowKit
set_option maxRecDepth 100000
set_option linter.unusedVariables false
set_option linter.unusedSimpArgs false
theorem sTg {G G' : Prop} (h : G') (e : G = G' := by conv => lhs;simp (disch := omega) only [rowsOf,cNat,cN,St.ret,St.seth,Eff.app,Eff.wi,sepL,guardOf,St.known,objOf,List.set,sliceW,litW,copyW,lenOf,bnd,mxOk,ofCells,TI.isAgg,cellsOf,storable,AV.one,dead,laid,overlay,reduceCtorEq,Int.reduceLE,Int.reduceLT,Int.reduceSub,Int.reduceAdd,Nat.reduceMul,Int.reduceToNat,Nat.reducePow,Int.reduceNeg,Nat.reduceAdd,Nat.reduceLT,Nat.reduceLeDiff,sA,sB,Nat.reduceEqDiff,cQ,rowQ,rowU,rowT,rowM,i64s_getD,i64s_length,i64s_all,tab_length,tab_drop,tab_take,tab_append,tab_nil,rowT_all,rowT_one,rowT_pure,rowU_all,rowU_one,rowU_pure,rowQ_all,rowQ_one,rowQ_pure,List.take_length,List.length_append,findA_tab,range_snoc,pure_sl,sT]) : G := e.mpr h
theorem sTgX {G G' P : Prop} (p : P) (h : G') (e : P → G = G' := by intro p;conv => lhs;simp (disch := omega) only [rowsOf,cNat,cN,St.ret,St.seth,Eff.app,Eff.wi,sepL,guardOf,St.known,objOf,List.set,sliceW,litW,copyW,lenOf,bnd,mxOk,ofCells,TI.isAgg,cellsOf,storable,AV.one,dead,laid,overlay,reduceCtorEq,Int.reduceLE,Int.reduceLT,Int.reduceSub,Int.reduceAdd,Nat.reduceMul,Int.reduceToNat,Nat.reducePow,Int.reduceNeg,Nat.reduceAdd,Nat.reduceLT,Nat.reduceLeDiff,sA,sB,Nat.reduceEqDiff,cQ,rowQ,rowU,rowT,rowM,i64s_getD,i64s_length,i64s_all,tab_length,tab_drop,tab_take,tab_append,tab_nil,rowT_all,rowT_one,rowT_pure,rowU_all,rowU_one,rowU_pure,rowQ_all,rowQ_one,rowQ_pure,List.take_length,List.length_append,findA_tab,range_snoc,pure_sl,sT,p]) : G := (e p).mpr h
theorem sTgV {G G' : Prop} (h : G') (e : G = G' := by conv => lhs;simp (disch := omega) only [rowsOf,cNat,cN,St.ret,St.seth,Eff.app,Eff.wi,sepL,guardOf,St.known,objOf,List.set,sliceW,litW,copyW,lenOf,bnd,mxOk,ofCells,TI.isAgg,cellsOf,storable,AV.one,dead,laid,overlay,reduceCtorEq,Int.reduceLE,Int.reduceLT,Int.reduceSub,Int.reduceAdd,Nat.reduceMul,Int.reduceToNat,Nat.reducePow,Int.reduceNeg,Nat.reduceAdd,Nat.reduceLT,Nat.reduceLeDiff,sA,sB,Nat.reduceEqDiff,cQ,rowQ,rowU,rowT,rowM,i64s_getD,i64s_length,i64s_all,tab_length,tab_drop,tab_take,tab_append,tab_nil,rowT_all,rowT_one,rowT_pure,rowU_all,rowU_one,rowU_pure,rowQ_all,rowQ_one,rowQ_pure,List.take_length,List.length_append,findA_tab,range_snoc,pure_sl,sT,view_sref,viewRef,view_agg,views_cons,views_nil,view_bool,view_int,view_sl,view_nils,view_str,view_tup,view_nilif]) : G := e.mpr h
theorem aTg {G G' : Prop} (h : G') (f : Wr G' → G := by intro h;(repeat (first|(refine W_seqV fun K hK => ?_;(try (refine sTg ?_;try exact True.intro));(repeat refine aI ?_);refine hK _ ?_;clear hK K)|(refine W_seqR fun K hK => ?_;(try (refine sTg ?_;try exact True.intro));(repeat refine aI ?_);refine hK _ ?_;clear hK K)|(refine W_seqD mixed [] (by kernel_rfl) fun K hK => ?_;(try (refine sTg ?_;try exact True.intro));(repeat refine aI ?_);refine hK _ ?_;clear hK K)));exact h.out) : G := f ⟨h⟩
def loadV (n : Int) (t : TR) : AV := if goodB n (nrmT t) then .tup [.md t.length (List.range t.length) (tab rowU (nrmT t)),.bool true] else .tup [.nilmp,.bool false]
theorem tload_ok (n : Int) (t : TR) {B : Nat} (hf : ∀ r ∈ t,FOk r.2 B) (hB : B < 17179869184) (hl : t.length < 1099511627776) :
  Pure Tryz.prog 62 [cT n t] (· = loadV n t) := by
 refine (tload_new n t hf hB hl).pure.mono fun r hr => ?_
 unfold loadR at hr
 unfold loadV
 generalize goodB n (nrmT t) = gb at *
 cases gb
 ·simp only [Bool.false_eq_true,if_false] at hr ⊢
  rcases hr with ⟨_,rfl⟩ | ⟨c,bs,rows,h1,rfl⟩
  ·rfl
  ·cases h1
 ·simp only [if_true] at hr ⊢
  rcases hr with ⟨h1,_⟩ | ⟨c,bs,rows,h1,rfl⟩
  ·cases h1
  ·cases h1;rfl
def tb : TM → Nat
 | [] => 0
 | r::M => nbs r.2 + 1 + tb M
theorem tb_len : ∀ M : TM,M.length ≤ tb M
 | [] => Nat.le_refl _
 | r::M => by have := tb_len M;simp only [List.length_cons,tb];omega
theorem tb_mem {M : TM} {r : Int × List (Int × Rat)} (h : r ∈ M) : nbs r.2 + 1 ≤ tb M := by
 induction M with
 | nil => cases h
 | cons q M ih =>
  simp only [tb]
  rcases List.mem_cons.1 h with rfl | h
  ·omega
  ·have := ih h;omega
def sumN' (g : Int → Nat) : TM → Nat
 | [] => 0
 | r::M => g r.1 + sumN' g M
theorem sumN'_le {g h : Int → Nat} : ∀ M : TM,(∀ b,g b ≤ h b) → sumN' g M ≤ sumN' h M
 | [],_ => Nat.le_refl _
 | r::M,hg => by have := sumN'_le M hg;have := hg r.1;simp only [sumN'];omega
theorem sumN'_add (g h : Int → Nat) : ∀ M : TM,sumN' (fun b => g b + h b) M = sumN' g M + sumN' h M
 | [] => rfl
 | r::M => by simp only [sumN',sumN'_add g h M];omega
theorem sumN'_zero {g : Int → Nat} : ∀ M : TM,(∀ b ∈ keys M,g b = 0) → sumN' g M = 0
 | [],_ => rfl
 | r::M,h => by
  simp only [sumN',sumN'_zero M fun b hb => h b (by simp only [keys,List.map_cons,List.mem_cons];exact .inr hb),h r.1 (by simp [keys])]
theorem sumN'_one {k : Nat} {a : Int} : ∀ M : TM,(keys M).Nodup → sumN' (fun b => if a = b then k else 0) M ≤ k
 | [],_ => Nat.zero_le _
 | r::M,hn => by
  simp only [keys,List.map_cons,List.nodup_cons] at hn
  simp only [sumN']
  by_cases h : a = r.1
  ·rw [if_pos h,sumN'_zero M fun b hb => by
    rw [if_neg]
    rintro rfl
    exact hn.1 (h ▸ hb)]
   omega
  ·rw [if_neg h]
   have := sumN'_one (k := k) (a := a) M hn.2
   omega
theorem sumN'_nbv {M : TM} (hn : (keys M).Nodup) : ∀ f : List (Int × Rat),sumN' (fun b => nbv f b) M ≤ nbs f
 | [] => by
  have : sumN' (fun b => nbv [] b) M = 0 := sumN'_zero M fun _ _ => rfl
  omega
 | p::f => by
  have h1 := sumN'_nbv hn f
  have h2 := sumN'_one (k := nb p.2) (a := p.1) M hn
  have h3 : sumN' (fun b => nbv (p::f) b) M = sumN' (fun b => if p.1 = b then nb p.2 else 0) M + sumN' (fun b => nbv f b) M := by
   rw [← sumN'_add]
   rfl
  rw [h3,nbs]
  omega
theorem sumN'_const (k : Nat) : ∀ M : TM,sumN' (fun _ => k) M = k * M.length
 | [] => by simp [sumN']
 | r::M => by simp only [sumN',sumN'_const k M,List.length_cons,Nat.mul_succ];omega
theorem nb_sumM (c : Int → Rat) (x : Int) : ∀ M : TM,nb (sumM c x M) ≤ 1 + sumN' (fun b => nb (c b)) M + tb M
 | [] => by simp only [sumM,nb_zero];omega
 | r::M => by
  have h1 := nb_sumM c x M
  have h2 := nb_add (c r.1 * coef r.2 x) (sumM c x M)
  have h3 := nb_mul (c r.1) (coef r.2 x)
  have h4 := nb_coef r.2 x
  have h5 := nbv_le_nbs r.2 x
  simp only [sumM,sumN',tb]
  omega
theorem nb_expr {M : TM} (hn : (keys M).Nodup) (f : List (Int × Rat)) {c : Int → Rat} (hc : ∀ b,c b = coef f b ∨ c b = 0) {y : Rat} {x : Int} (hy : y = coef f x ∨ y = 0) : nb (y + sumM c x M) ≤ 2 * nbs f + 2 * tb M + 2 := by
 have h1 := nb_add y (sumM c x M)
 have h2 := nb_sumM c x M
 have h3 : nb y ≤ 1 + nbs f := by
  rcases hy with rfl | rfl
  ·have := nb_coef f x
   have := nbv_le_nbs f x
   omega
  ·rw [nb_zero];omega
 have h4 : sumN' (fun b => nb (c b)) M ≤ sumN' (fun b => 1 + nbv f b) M := sumN'_le M fun b => by
  rcases hc b with h | h
  ·rw [h];exact nb_coef f b
  ·rw [h,nb_zero];omega
 rw [sumN'_add (fun _ => 1) (fun b => nbv f b),sumN'_const] at h4
 have h5 := sumN'_nbv hn f
 have h6 := tb_len M
 omega
theorem nbv_nf {l : List (Int × Rat)} (h : NF l) (x : Int) : nbv l x ≤ nb (coef l x) := by
 induction l with
 | nil => simp [nbv]
 | cons p l ih =>
  have ih := ih h.tail
  simp only [nbv,coef]
  by_cases hx : p.1 = x
  ·rw [if_pos hx,if_pos hx,nbv_none fun q hq he => by have := h.head q hq;omega,coef_none fun q hq he => by have := h.head q hq;omega,Rat.add_zero]
   omega
  ·rw [if_neg hx,if_neg hx,Rat.zero_add]
   omega
theorem nf_len {l : List (Int × Rat)} (h : NF l) {n : Int} (hn : n ≤ 65536) (hr : ∀ p ∈ l,0 ≤ p.1 ∧ p.1 < n) : l.length ≤ 65536 := by
 have hnd : (keys l).Nodup := by
  have := h.lt
  unfold keys
  rw [List.Nodup,List.pairwise_map]
  exact this.imp fun h => by omega
 have hnd2 : ((keys l).map Int.toNat).Nodup := by
  rw [List.Nodup,List.pairwise_map]
  refine List.Pairwise.imp_of_mem (fun {a b} ha hb hab he => ?_) hnd
  obtain ⟨p,hp,rfl⟩ := List.mem_map.1 ha
  obtain ⟨q,hq,rfl⟩ := List.mem_map.1 hb
  have := hr p hp
  have := hr q hq
  exact hab (by omega)
 have h1 := nodup_range_le (n := 65536) hnd2 fun x hx => by
  obtain ⟨a,ha,rfl⟩ := List.mem_map.1 hx
  obtain ⟨p,hp,rfl⟩ := List.mem_map.1 ha
  have := hr p hp
  omega
 simpa [keys_len] using h1
theorem sz_nf {l : List (Int × Rat)} (h : NF l) {n : Int} (hn : n ≤ 65536) (hr : ∀ p ∈ l,0 ≤ p.1 ∧ p.1 < n) {B : Nat} (hb : ∀ x,nb (coef l x) ≤ B) : Sz l (B + 65536) :=
 ⟨fun v => by have := nbv_nf h v;have := hb v;omega,by have := nf_len h hn hr;omega⟩
theorem sumM_out {n : Int} {M : TM} (hg : GT n M) (c : Int → Rat) {x : Int} (hx : ¬ (0 ≤ x ∧ x < n)) : sumM c x M = 0 :=
 sumM_zero c x M fun r hr => .inr (coef_none fun p hp he => hx (he ▸ (hg.free r hr p hp).1))
theorem coef_out {n : Int} {f : List (Int × Rat)} (hf : knownB n (normF f) = true) {x : Int} (hx : ¬ (0 ≤ x ∧ x < n)) : coef f x = 0 := by
 rw [← coef_norm]
 refine coef_none fun p hp he => hx ?_
 unfold knownB at hf
 have := List.all_eq_true.1 hf p hp
 rw [inR_iff] at this
 omega
theorem range_of_coef {n : Int} {l : List (Int × Rat)} (h : NF l) (hc : ∀ x,¬ (0 ≤ x ∧ x < n) → coef l x = 0) : ∀ p ∈ l,0 ≤ p.1 ∧ p.1 < n := by
 intro p hp
 by_cases h1 : 0 ≤ p.1 ∧ p.1 < n
 ·exact h1
 ·have := hc p.1 h1
  rw [h.coef_zero hp] at this
  exact absurd this (h.nz p hp)
theorem exprP_snoc (M : TM) (f : List (Int × Rat)) (vs : List Int) (v : Int) (h : List (Int × Rat)) : exprP M f (vs ++ [v]) h = match lookM M v with | some g => putF (exprP M f vs h) v g | none => exprP M f vs h := by
 unfold exprP
 rw [List.foldl_append]
 rfl
theorem keys_nf_nodup {l : List (Int × Rat)} (h : NF l) : (keys l).Nodup := by
 have := h.lt
 unfold keys
 rw [List.Nodup,List.pairwise_map]
 exact this.imp fun h => by omega
def exprT (M : TM) (f : List (Int × Rat)) : List (Int × Rat) := exprP M f (keys (normF f)) (normF f)
structure ExOk (M : TM) (f : List (Int × RR)) : Prop where
 fok : FOk f 536870912
 ro : ∀ r ∈ M,Sz r.2 536870912
 co : ∀ (i : Nat) (x : Int) (y : Rat) (c : Int → Rat),(∀ b,c b = coef (vals f) b ∨ c b = 0) → (y = coef (vals f) x ∨ y = 0) → nb (y + sumM c x (M.take i)) ≤ 536870912
theorem exprP_preG {n : Int} {M : TM} (hg : GT n M) {f : List (Int × RR)} (hf : knownB n (normF (vals f)) = true) (hx : ExOk M f) (i : Nat) :
  NF (exprP M (vals f) ((keys (normF (vals f))).take i) (normF (vals f))) ∧ Sz (exprP M (vals f) ((keys (normF (vals f))).take i) (normF (vals f))) (536870912 + 65536) := by
 have h := exprP_go hg (vals f) ((keys (normF (vals f))).take i) [] (normF (vals f)) (NF.norm _) ((keys_nf_nodup (NF.norm _)).sublist (List.take_sublist _ _)) (by simp) fun x => by
  rw [coef_norm,sumM_zero _ x M fun r _ => .inl (by simp)]
  simp [Rat.add_zero]
 refine ⟨h.1,?_⟩
 refine sz_nf h.1 hg.hi (range_of_coef h.1 fun x hx => ?_) fun x => ?_
 ·rw [h.2 x,sumM_out hg _ hx,coef_out hf hx]
  simp [Rat.add_zero]
 ·rw [h.2 x]
  have := hx.co M.length x (if x ∈ keys M ∧ (x ∈ ([] : List Int) ∨ x ∈ (keys (normF (vals f))).take i) then 0 else coef (vals f) x) (fun b => if b ∈ ([] : List Int) ∨ b ∈ (keys (normF (vals f))).take i then coef (vals f) b else 0) (fun b => by
   split
   ·exact .inl rfl
   ·exact .inr rfl) (by
   split
   ·exact .inr rfl
   ·exact .inl rfl)
  rwa [List.take_length] at this
theorem tb_take : ∀ (l : TM) (k : Nat),tb (l.take k) ≤ tb l := by
 intro l
 induction l with
 | nil => intro k;simp [tb]
 | cons r l ih => intro k;cases k with
  | zero => simp [tb]
  | succ k => have := ih k;simp only [List.take_succ_cons,tb];omega
theorem keys_take {M : TM} (hn : (keys M).Nodup) (i : Nat) : (keys (M.take i)).Nodup := by
 have h2 : keys M = keys (M.take i) ++ keys (M.drop i) := by rw [← keys_append,List.take_append_drop]
 rw [h2,List.nodup_append] at hn
 exact hn.1
theorem ExOk.of {M : TM} (hn : (keys M).Nodup) {f : List (Int × RR)} (hf : FOk f (nbs (vals f))) (h1 : nbs (vals f) ≤ 68157440) (h2 : tb M ≤ 68157440) : ExOk M f :=
 ⟨⟨hf.1,hf.sz.mono (by omega)⟩,fun r hr => (Sz.of _).mono (by have := tb_mem hr;omega),fun i x y c hc hy => by
  have := nb_expr (keys_take hn i) (vals f) hc hy
  have := tb_take M i
  omega⟩
theorem texpr_ok {n : Int} (M : TM) (f : List (Int × RR)) (c : Nat) (bs : List Nat) (hg : GT n M) (hM : ∀ r ∈ M,NF r.2) (hk : knownB n (normF (vals f)) = true) (hx : ExOk M f)
  (hb : bs.length = M.length) (hn : bs.Nodup) (hlt : ∀ x ∈ bs,x < c) :
  Pure Tryz.prog 67 [.md c bs (tab rowU M),cF f] (· = cL (exprT M (vals f))) := by
 have hf := hx.fok
 have a1 := lnorm_ok f hf (by omega)
 have hsn := hf.sz.norm
 have a2 := lvars_ok (rf (normF (vals f))) (FOk.rf hsn (by omega)) (by omega)
 rw [vals_rf,norm_self (NF.norm _),cF_rf] at a2
 have hpre := fun i => exprP_preG hg hk hx i
 have hst : ∀ i,i < (keys (normF (vals f))).length → (∀ g,lookM M ((keys (normF (vals f))).getD i 0) = some g → Pure Tryz.prog 95 [cL (exprP M (vals f) ((keys (normF (vals f))).take i) (normF (vals f))),.int .i64 ((keys (normF (vals f))).getD i 0),cL g] (· = cL (exprP M (vals f) ((keys (normF (vals f))).take (i + 1)) (normF (vals f))))) ∧
   (lookM M ((keys (normF (vals f))).getD i 0) = none → exprP M (vals f) ((keys (normF (vals f))).take (i + 1)) (normF (vals f)) = exprP M (vals f) ((keys (normF (vals f))).take i) (normF (vals f))) := by
  intro i hi
  have hts : (keys (normF (vals f))).take (i + 1) = (keys (normF (vals f))).take i ++ [(keys (normF (vals f))).getD i 0] := by
   rw [List.take_succ_eq_append_getElem hi]
   simp [List.getD_eq_getElem?_getD,hi]
  rw [hts,exprP_snoc]
  refine ⟨fun g hg' => ?_,fun hn' => by rw [hn']⟩
  rw [hg']
  have hm := look_mem hg'
  exact tput_ok _ _ _ (hpre i).2 (hx.ro _ hm) (by omega)
 have h0 : exprP M (vals f) ((keys (normF (vals f))).take 0) (normF (vals f)) = normF (vals f) := rfl
 have hall : exprP M (vals f) ((keys (normF (vals f))).take (keys (normF (vals f))).length) (normF (vals f)) = exprT M (vals f) := by rw [List.take_length];rfl
 have hkl : (keys (normF (vals f))).length < 1099511627776 := by
  rw [keys_len]
  have := hsn.l
  omega
 generalize exprT M (vals f) = R at *
 generalize hE : (fun i => exprP M (vals f) ((keys (normF (vals f))).take i) (normF (vals f))) = E at *
 have hE' : ∀ i,exprP M (vals f) ((keys (normF (vals f))).take i) (normF (vals f)) = E i := fun i => congrFun hE i
 simp only [hE'] at *
 clear hE hE'
 rw [show (normF (vals f)).map (·.1) = keys (normF (vals f)) from rfl] at a2
 generalize keys (normF (vals f)) = l at *
 generalize normF (vals f) = F0 at *
 subst h0
 simp only [cF,cL] at *
 (refine pureW Tryz.func67 rfl (rs := [Go.ResultVar.tmp 4]) rfl (n := 31) rfl ?_;simp only [List.length_cons,List.length_nil,List.replicate,List.cons_append,List.nil_append])
 (refine aTg ?_)
 ((refine W_seqV ?_);intro K hK;(refine sTg ?_))
 (refine ⟨by kernel_rfl,_,.pure rfl (a1),?_⟩;(try (refine sTg ?_)))
 (refine hK _ ?_;clear hK K)
 ((refine W_seq (W_seqV ?_));intro K hK;(refine sTg ?_))
 (refine ⟨by kernel_rfl,_,.pure rfl (a2),?_⟩;(try (refine sTg ?_)))
 (refine hK _ ?_;clear hK K)
 refine W_block (W_loop (fun t : {t : Nat // t ≤ l.length} =>
   ⟨[.md c bs (tab rowU M),.sl (tab rowQ (E t.1)),.any,.any,.any,.any,.any,.any,.any,.any,.any,.any,.sl (i64s l),.int .i64 l.length,.int .i64 t.1,.any,.any,.any,.any,.any,.any,.any,.any,.any,.any,.any,.any,.any,.any,.any,.any],[.dead,.dead,.dead,.dead,.dead,.dead,.dead,.dead,.dead,.dead,.dead,.dead,.dead,.dead,.dead,.dead,.dead,.dead,.dead,.dead,.dead,.dead,.dead,.dead,.dead,.dead,.dead,.dead,.dead,.dead,.dead]⟩) (fun t => l.length - t.1)
   ⟨0,by omega⟩ (Le_of (by simp [leE]) (by simp)) fun t => ?_)
 obtain ⟨i,hi⟩ := t
 dsimp only
 by_cases hil : i < l.length
 ·obtain ⟨hs1,hs2⟩ := hst i hil
  generalize hv : l.getD i 0 = v at *
  generalize ho' : E (i + 1) = o' at *
  generalize E i = o at *
  refine W_seq ?_
  ((refine W_regV ?_);intro K hK;(refine sTgX hil ?_))
  (refine hK _ ?_;clear hK K)
  (refine W_seq (W_ct rfl ?_))
  refine W_skip ?_
  simp only [thenW]
  refine W_seq ?_
  refine W_block ?_
  ((refine W_seqV ?_);intro K hK;(refine sTgX (And.intro hv hil) ?_))
  (refine hK _ ?_;clear hK K)
  cases hid : idxM M v with
  | some j =>
   obtain ⟨hj1,hj2,hj3,_⟩ := idx_some hid
   have hXv : (tab rowU M).getD j [] = rowU (M.getD j default) := rowU_getD hj1
   have hp := hs1 _ hj3
   generalize M.getD j default = q at *
   obtain ⟨b,g⟩ := q
   simp only [rowU] at hXv
   dsimp only at *
   refine W_seq ?_
   ((refine W_regV ?_);intro K hK;(refine sTgX (And.intro hid hXv) ?_))
   (refine hK _ ?_;clear hK K)
   simp only [thenW]
   (refine aTg ?_)
   (refine W_ct rfl ?_)
   ((refine W_regV ?_);intro K hK;(refine sTg ?_))
   (refine ⟨by kernel_rfl,_,.pure rfl (hp),?_⟩;(try (refine sTg ?_)))
   (refine hK _ ?_;clear hK K)
   simp only [blockW,thenW]
   ((refine W_regV ?_);intro K hK;(refine sTg ?_))
   (refine hK _ ?_;clear hK K)
   simp only [blockW,thenW]
   refine ⟨⟨i + 1,by omega⟩,Le_drop (by simp [leE,ho']) (by simp [leH]) rfl rfl,?_⟩
   dsimp only
   omega
  | none =>
   have hp := hs2 (idx_none hid).2
   refine W_seq ?_
   ((refine W_regV ?_);intro K hK;(refine sTgX hid ?_))
   (refine hK _ ?_;clear hK K)
   simp only [thenW]
   (refine aTg ?_)
   (refine W_cf rfl ?_)
   refine W_skip ?_
   simp only [blockW,thenW]
   ((refine W_regV ?_);intro K hK;(refine sTg ?_))
   (refine hK _ ?_;clear hK K)
   simp only [blockW,thenW]
   refine ⟨⟨i + 1,by omega⟩,Le_drop (by simp [leE,hp,ho']) (by simp [leH]) rfl rfl,?_⟩
   dsimp only
   omega
 ·obtain rfl : i = l.length := by omega
  rw [hall]
  refine W_seq ?_
  ((refine W_regV ?_);intro K hK;(refine sTg ?_))
  (refine hK _ ?_;clear hK K)
  (refine W_seq (W_cf rfl ?_))
  refine W_exit ?_
  simp only [thenW,blockW,if_true]
  (refine aTg ?_)
  refine W_ret ?_
  (refine qG ?_;try exact True.intro);try (refine sTgV ?_;try exact True.intro)
theorem sTh {G G' : Prop} (h : G') (e : G = G' := by conv => lhs;simp (disch := omega) only [rowsOf,cNat,cN,St.ret,St.seth,Eff.app,Eff.wi,sepL,guardOf,St.known,objOf,List.set,sliceW,litW,copyW,lenOf,bnd,mxOk,ofCells,TI.isAgg,cellsOf,storable,AV.one,dead,laid,overlay,reduceCtorEq,Int.reduceLE,Int.reduceLT,Int.reduceSub,Int.reduceAdd,Nat.reduceMul,Int.reduceToNat,Nat.reducePow,Int.reduceNeg,Nat.reduceAdd,Nat.reduceLT,Nat.reduceLeDiff,sA,sB,Nat.reduceEqDiff,cQ,rowQ,rowU,rowT,rowM,i64s_getD,i64s_length,i64s_all,i64s_take,i64s_drop,i64s_set,i64s_one,i64s_pure,i64s_append,tab_length,tab_drop,tab_take,tab_append,tab_nil,rowT_all,rowT_one,rowT_pure,rowU_all,rowU_one,rowU_pure,rowQ_all,rowQ_one,rowQ_pure,List.take_length,List.length_append,findA_tab,range_snoc,pure_sl,sT]) : G := e.mpr h
theorem sThX {G G' P : Prop} (p : P) (h : G') (e : P → G = G' := by intro p;conv => lhs;simp (disch := omega) only [rowsOf,cNat,cN,St.ret,St.seth,Eff.app,Eff.wi,sepL,guardOf,St.known,objOf,List.set,sliceW,litW,copyW,lenOf,bnd,mxOk,ofCells,TI.isAgg,cellsOf,storable,AV.one,dead,laid,overlay,reduceCtorEq,Int.reduceLE,Int.reduceLT,Int.reduceSub,Int.reduceAdd,Nat.reduceMul,Int.reduceToNat,Nat.reducePow,Int.reduceNeg,Nat.reduceAdd,Nat.reduceLT,Nat.reduceLeDiff,sA,sB,Nat.reduceEqDiff,cQ,rowQ,rowU,rowT,rowM,i64s_getD,i64s_length,i64s_all,i64s_take,i64s_drop,i64s_set,i64s_one,i64s_pure,i64s_append,tab_length,tab_drop,tab_take,tab_append,tab_nil,rowT_all,rowT_one,rowT_pure,rowU_all,rowU_one,rowU_pure,rowQ_all,rowQ_one,rowQ_pure,List.take_length,List.length_append,findA_tab,range_snoc,pure_sl,sT,p]) : G := (e p).mpr h
theorem sThV {G G' : Prop} (h : G') (e : G = G' := by conv => lhs;simp (disch := omega) only [rowsOf,cNat,cN,St.ret,St.seth,Eff.app,Eff.wi,sepL,guardOf,St.known,objOf,List.set,sliceW,litW,copyW,lenOf,bnd,mxOk,ofCells,TI.isAgg,cellsOf,storable,AV.one,dead,laid,overlay,reduceCtorEq,Int.reduceLE,Int.reduceLT,Int.reduceSub,Int.reduceAdd,Nat.reduceMul,Int.reduceToNat,Nat.reducePow,Int.reduceNeg,Nat.reduceAdd,Nat.reduceLT,Nat.reduceLeDiff,sA,sB,Nat.reduceEqDiff,cQ,rowQ,rowU,rowT,rowM,i64s_getD,i64s_length,i64s_all,i64s_take,i64s_drop,i64s_set,i64s_one,i64s_pure,i64s_append,tab_length,tab_drop,tab_take,tab_append,tab_nil,rowT_all,rowT_one,rowT_pure,rowU_all,rowU_one,rowU_pure,rowQ_all,rowQ_one,rowQ_pure,List.take_length,List.length_append,findA_tab,range_snoc,pure_sl,sT,view_sref,viewRef,view_agg,views_cons,views_nil,view_bool,view_int,view_sl,view_nils,view_str,view_tup,view_nilif]) : G := e.mpr h
theorem aTh {G G' : Prop} (h : G') (f : Wr G' → G := by intro h;(repeat (first|(refine W_seqV fun K hK => ?_;(try (refine sTh ?_;try exact True.intro));(repeat refine aI ?_);refine hK _ ?_;clear hK K)|(refine W_seqR fun K hK => ?_;(try (refine sTh ?_;try exact True.intro));(repeat refine aI ?_);refine hK _ ?_;clear hK K)|(refine W_seqD mixed [] (by kernel_rfl) fun K hK => ?_;(try (refine sTh ?_;try exact True.intro));(repeat refine aI ?_);refine hK _ ?_;clear hK K)));exact h.out) : G := f ⟨h⟩
structure TOk (t : TR) : Prop where
 ok : ∀ r ∈ t,∀ p ∈ r.2,p.2.ok
 sz : tb (t.map fun r => (r.1,vals r.2)) ≤ 68157440
theorem tb_nrm : ∀ t : TR,tb (nrmT t) ≤ tb (t.map fun r => (r.1,vals r.2))
 | [] => Nat.le_refl _
 | r::t => by
  have := tb_nrm t
  have := nbs_norm (vals r.2)
  unfold nrmT at *
  simp only [List.map_cons,tb]
  omega
theorem TOk.tb {t : TR} (h : TOk t) : Vm.tb (nrmT t) ≤ 68157440 := Nat.le_trans (tb_nrm t) h.sz
theorem TOk.len {t : TR} (h : TOk t) : t.length ≤ 68157440 := by
 have := tb_len (t.map fun r => (r.1,vals r.2))
 have := h.sz
 simp at *
 omega
theorem TOk.nbs {t : TR} (h : TOk t) {r : Int × List (Int × RR)} (hr : r ∈ t) : Vm.nbs (vals r.2) ≤ 68157440 := by
 have h1 := tb_mem (M := t.map fun r => (r.1,vals r.2)) (r := (r.1,vals r.2)) (List.mem_map.2 ⟨r,hr,rfl⟩)
 have := h.sz
 simp only at h1
 omega
theorem TOk.form {t : TR} (h : TOk t) {r : Int × List (Int × RR)} (hr : r ∈ t) : FOk r.2 68157440 := ⟨h.ok r hr,(Sz.of _).mono (h.nbs hr)⟩
theorem TOk.mok {t : TR} (h : TOk t) : MOk (nrmT t) 68157440 := by
 refine ⟨fun r hr => ?_,fun r hr => ?_,by rw [nrmT_len];have := h.len;omega⟩
 ·obtain ⟨q,_,rfl⟩ := List.mem_map.1 hr
  exact NF.norm _
 ·have := tb_mem hr
  have := h.tb
  exact (Sz.of _).mono (by omega)
structure TG (t : TR) : Prop where
 ok : ∀ r ∈ t,∀ p ∈ r.2,p.2.ok
 sz : ∀ r ∈ t,Sz (vals r.2) 536870912
 len : t.length ≤ 68157440
theorem TOk.g {t : TR} (h : TOk t) : TG t := ⟨h.ok,fun r hr => (h.form hr).sz.mono (by omega),h.len⟩
instance instCoeTG {t : TR} : Coe (TOk t) (TG t) := ⟨TOk.g⟩
theorem TG.form {t : TR} (h : TG t) {r : Int × List (Int × RR)} (hr : r ∈ t) : FOk r.2 536870912 := ⟨h.ok r hr,h.sz r hr⟩
theorem TG.mok {t : TR} (h : TG t) : MOk (nrmT t) 536870912 := by
 refine ⟨fun r hr => ?_,fun r hr => ?_,by rw [nrmT_len];have := h.len;omega⟩
 ·obtain ⟨q,_,rfl⟩ := List.mem_map.1 hr
  exact NF.norm _
 ·obtain ⟨q,hq,rfl⟩ := List.mem_map.1 hr
  exact (h.sz q hq).norm
theorem TG.load {t : TR} (h : TG t) (n : Int) : Pure Tryz.prog 62 [cT n t] (· = loadV n t) :=
 tload_ok n t (fun r hr => h.form hr) (by omega) (by have := h.len;omega)
theorem range_births {m : Nat} : (List.range m).length = m ∧ (List.range m).Nodup ∧ ∀ x ∈ List.range m,x < m := ⟨List.length_range,List.nodup_range,fun x hx => List.mem_range.1 hx⟩
theorem TG.told {t : TR} (h : TG t) (n : Int) : Pure Tryz.prog 63 [.md t.length (List.range t.length) (tab rowU (nrmT t)),.int .i64 n] (· = cU n (sortM (nrmT t))) :=
 ttold_ok _ n _ _ h.mok (by omega) (by rw [nrmT_len];exact range_births.1) range_births.2.1 range_births.2.2
theorem tcheck_ok (n : Int) (t : TR) (hT : TG t) : Pure Tryz.prog 30 [cT n t] (· = .int .i64 (if goodB n (nrmT t) then 0 else 70)) := by
 have a1 := hT.load n
 unfold loadV at a1
 unfold cT at *
 generalize goodB n (nrmT t) = gb at *
 cases gb
 ·simp only [Bool.false_eq_true,if_false] at a1 ⊢
  (refine pureW Tryz.func30 rfl (rs := [Go.ResultVar.tmp 2]) rfl (n := 12) rfl ?_;simp only [List.length_cons,List.length_nil,List.replicate,List.cons_append,List.nil_append])
  (refine aTh ?_)
  ((refine W_seq (W_seqV ?_));intro K hK;(refine sTh ?_))
  (refine ⟨by kernel_rfl,_,.pure rfl (a1),?_⟩;(try (refine sTh ?_)))
  (refine hK _ ?_;clear hK K)
  (repeat' (first | (exfalso;simp at h;done) | (refine W_seqV fun K hK => ?_;(try (refine sTh ?_));refine hK _ ?_;clear hK K) | (refine W_ret ?_;(refine qG ?_;try exact True.intro)) | (refine W_cond rfl (fun h => ?_) (fun h => ?_) <;> (try simp only [cond_true,cond_false,ne_eq,cB] at h))))
 ·simp only [if_true] at a1 ⊢
  (refine pureW Tryz.func30 rfl (rs := [Go.ResultVar.tmp 2]) rfl (n := 12) rfl ?_;simp only [List.length_cons,List.length_nil,List.replicate,List.cons_append,List.nil_append])
  (refine aTh ?_)
  ((refine W_seq (W_seqV ?_));intro K hK;(refine sTh ?_))
  (refine ⟨by kernel_rfl,_,.pure rfl (a1),?_⟩;(try (refine sTh ?_)))
  (refine hK _ ?_;clear hK K)
  (repeat' (first | (exfalso;simp at h;done) | (refine W_seqV fun K hK => ?_;(try (refine sTh ?_));refine hK _ ?_;clear hK K) | refine W_skip ?_ | (refine W_ret ?_;(refine qG ?_;try exact True.intro)) | (refine W_cond rfl (fun h => ?_) (fun h => ?_) <;> (try simp only [cond_true,cond_false,ne_eq,cB] at h))))
def normV (n : Int) (t : TR) : AV := if goodB n (nrmT t) then .tup [cU n (sortM (nrmT t)),.int .i64 0] else .tup [cU 0 [],.int .i64 70]
def growV (n : Int) (t : TR) : AV := if goodB n (nrmT t) then if n = 65536 then .tup [cU 0 [],.int .i64 0,.int .i64 2] else .tup [cU (n + 1) (sortM (nrmT t)),.int .i64 n,.int .i64 0] else .tup [cU 0 [],.int .i64 0,.int .i64 70]
def rowV (n : Int) (t : TR) (v : Int) : AV := if goodB n (nrmT t) then if v < 0 ∨ n ≤ v then .tup [.sl [],.int .i64 61] else match lookM (nrmT t) v with | some g => .tup [cL g,.int .i64 0] | none => .tup [.sl [],.int .i64 71] else .tup [.sl [],.int .i64 70]
theorem trow_ok (n : Int) (t : TR) (v : Int) (hT : TG t) : Pure Tryz.prog 35 [cT n t,.int .i64 v] (· = rowV n t v) := by
 have a1 := hT.load n
 unfold loadV at a1
 unfold rowV
 unfold cT at *
 generalize goodB n (nrmT t) = gb at *
 generalize nrmT t = M at *
 cases gb
 ·simp only [Bool.false_eq_true,if_false] at a1 ⊢
  (refine pureW Tryz.func35 rfl (rs := [Go.ResultVar.tmp 4,Go.ResultVar.tmp 5]) rfl (n := 36) rfl ?_;simp only [List.length_cons,List.length_nil,List.replicate,List.cons_append,List.nil_append])
  (refine aTh ?_)
  ((refine W_seqV ?_);intro K hK;(refine sTh ?_))
  (refine ⟨by kernel_rfl,_,.pure rfl (a1),?_⟩;(try (refine sTh ?_)))
  (refine hK _ ?_;clear hK K)
  (repeat' (first | (exfalso;simp at h;done) | refine W_block ?_ | (refine W_seqV fun K hK => ?_;(try (refine sTh ?_));refine hK _ ?_;clear hK K) | (refine W_ret ?_;(refine qG ?_;try exact True.intro)) | (refine W_cond rfl (fun h => ?_) (fun h => ?_) <;> (try simp only [cond_true,cond_false,ne_eq,cB] at h)) | refine W_seq ?_))
 ·simp only [if_true] at a1 ⊢
  by_cases h1 : v < 0
  ·rw [if_pos (.inl h1)]
   (refine pureW Tryz.func35 rfl (rs := [Go.ResultVar.tmp 4,Go.ResultVar.tmp 5]) rfl (n := 36) rfl ?_;simp only [List.length_cons,List.length_nil,List.replicate,List.cons_append,List.nil_append])
   (refine aTh ?_)
   ((refine W_seqV ?_);intro K hK;(refine sTh ?_))
   (refine ⟨by kernel_rfl,_,.pure rfl (a1),?_⟩;(try (refine sTh ?_)))
   (refine hK _ ?_;clear hK K)
   refine W_seq ?_
   refine W_block ?_
   ((refine W_seqV ?_);intro K hK;(refine sTh ?_))
   (refine hK _ ?_;clear hK K)
   (refine W_cf rfl ?_)
   ((refine W_seqV ?_);intro K hK;(refine sThX h1 ?_))
   (refine hK _ ?_;clear hK K)
   (refine W_ct rfl ?_)
   (refine aTh ?_)
   refine W_ret ?_
   (refine qG ?_;try exact True.intro);try (refine sThV ?_;try exact True.intro)
  by_cases h2 : n ≤ v
  ·rw [if_pos (.inr h2)]
   (refine pureW Tryz.func35 rfl (rs := [Go.ResultVar.tmp 4,Go.ResultVar.tmp 5]) rfl (n := 36) rfl ?_;simp only [List.length_cons,List.length_nil,List.replicate,List.cons_append,List.nil_append])
   (refine aTh ?_)
   ((refine W_seqV ?_);intro K hK;(refine sTh ?_))
   (refine ⟨by kernel_rfl,_,.pure rfl (a1),?_⟩;(try (refine sTh ?_)))
   (refine hK _ ?_;clear hK K)
   refine W_seq ?_
   refine W_block ?_
   ((refine W_seqV ?_);intro K hK;(refine sTh ?_))
   (refine hK _ ?_;clear hK K)
   (refine W_cf rfl ?_)
   ((refine W_seqV ?_);intro K hK;(refine sThX (And.intro h1 h2) ?_))
   (refine hK _ ?_;clear hK K)
   (refine W_ct rfl ?_)
   (refine aTh ?_)
   refine W_ret ?_
   (refine qG ?_;try exact True.intro);try (refine sThV ?_;try exact True.intro)
  rw [if_neg (by omega)]
  (refine pureW Tryz.func35 rfl (rs := [Go.ResultVar.tmp 4,Go.ResultVar.tmp 5]) rfl (n := 36) rfl ?_;simp only [List.length_cons,List.length_nil,List.replicate,List.cons_append,List.nil_append])
  (refine aTh ?_)
  ((refine W_seqV ?_);intro K hK;(refine sTh ?_))
  (refine ⟨by kernel_rfl,_,.pure rfl (a1),?_⟩;(try (refine sTh ?_)))
  (refine hK _ ?_;clear hK K)
  refine W_seq ?_
  refine W_block ?_
  ((refine W_seqV ?_);intro K hK;(refine sTh ?_))
  (refine hK _ ?_;clear hK K)
  (refine W_cf rfl ?_)
  ((refine W_seqV ?_);intro K hK;(refine sThX (And.intro h1 h2) ?_))
  (refine hK _ ?_;clear hK K)
  (refine W_cf rfl ?_)
  refine W_skip ?_
  simp only [thenW,blockW]
  cases hid : idxM M v with
  | some j =>
   obtain ⟨hj1,hj2,hj3,_⟩ := idx_some hid
   have hXv : (tab rowU M).getD j [] = rowU (M.getD j default) := rowU_getD hj1
   rw [hj3]
   generalize M.getD j default = q at *
   obtain ⟨b,g⟩ := q
   simp only [rowU] at hXv
   dsimp only [cL] at *
   ((refine W_seqV ?_);intro K hK;(refine sThX (And.intro hid hXv) ?_))
   (refine hK _ ?_;clear hK K)
   (repeat' (first | (exfalso;simp at h;done) | (refine W_seqV fun K hK => ?_;(try (refine sTh ?_));refine hK _ ?_;clear hK K) | refine W_skip ?_ | (refine W_ret ?_;(refine qG ?_;try exact True.intro)) | (refine W_cond rfl (fun h => ?_) (fun h => ?_) <;> (try simp only [cond_true,cond_false,ne_eq,cB] at h)) | refine W_seq ?_))
  | none =>
   rw [(idx_none hid).2]
   ((refine W_seqV ?_);intro K hK;(refine sThX hid ?_))
   (refine hK _ ?_;clear hK K)
   (repeat' (first | (exfalso;simp at h;done) | (refine W_seqV fun K hK => ?_;(try (refine sTh ?_));refine hK _ ?_;clear hK K) | (refine W_ret ?_;(refine qG ?_;try exact True.intro)) | (refine W_cond rfl (fun h => ?_) (fun h => ?_) <;> (try simp only [cond_true,cond_false,ne_eq,cB] at h)) | refine W_seq ?_))
def basV (n : Int) (t : TR) : AV := if goodB n (nrmT t) then .tup [.sl (i64s (sortK (keys (nrmT t)))),.int .i64 0] else .tup [.sl [],.int .i64 70]
def rowI (M : TM) (v : Int) : Int := match idxM M v with | some j => (j : Int) | none => -1
def othK (K : List Int) : Nat → List Int
 | 0 => []
 | k + 1 => if (k : Int) ∈ K then othK K k else othK K k ++ [(k : Int)]
def othV (n : Int) (t : TR) : AV := if goodB n (nrmT t) then .tup [.sl (i64s (othK (keys (nrmT t)) n.toNat)),.int .i64 0] else .tup [.sl [],.int .i64 70]
def colF (M : TM) (v : Int) (l : List Int) : List Int := l.filter fun b => decide (coef ((lookM M b).getD []) v ≠ 0)
def colV (n : Int) (t : TR) (v : Int) : AV := if goodB n (nrmT t) then if v < 0 ∨ n ≤ v then .tup [.sl [],.int .i64 61] else if v ∈ keys (nrmT t) then .tup [.sl [],.int .i64 71] else
 .tup [.sl (i64s (colF (nrmT t) v (sortK (keys (nrmT t))))),.int .i64 0] else .tup [.sl [],.int .i64 70]
theorem sTj {G G' : Prop} (h : G') (e : G = G' := by conv => lhs;simp (disch := omega) only [rowsOf,cNat,cN,St.ret,St.seth,Eff.app,Eff.wi,sepL,guardOf,St.known,objOf,List.set,sliceW,litW,copyW,lenOf,bnd,mxOk,ofCells,TI.isAgg,cellsOf,storable,AV.one,dead,laid,overlay,reduceCtorEq,Int.reduceLE,Int.reduceLT,Int.reduceSub,Int.reduceAdd,Nat.reduceMul,Int.reduceToNat,Nat.reducePow,Int.reduceNeg,Nat.reduceAdd,Nat.reduceLT,Nat.reduceLeDiff,sA,sB,Nat.reduceEqDiff,cQ,rowQ,rowU,rowT,rowM,i64s_getD,i64s_length,tab_length,tab_drop,tab_take,tab_append,tab_nil,rowT_all,rowT_one,rowT_pure,rowU_all,rowU_one,rowU_pure,rowQ_all,rowQ_one,rowQ_pure,List.take_length,List.length_append,findA_tab,range_snoc,pure_sl,sT]) : G := e.mpr h
theorem sTjX {G G' P : Prop} (p : P) (h : G') (e : P → G = G' := by intro p;conv => lhs;simp (disch := omega) only [rowsOf,cNat,cN,St.ret,St.seth,Eff.app,Eff.wi,sepL,guardOf,St.known,objOf,List.set,sliceW,litW,copyW,lenOf,bnd,mxOk,ofCells,TI.isAgg,cellsOf,storable,AV.one,dead,laid,overlay,reduceCtorEq,Int.reduceLE,Int.reduceLT,Int.reduceSub,Int.reduceAdd,Nat.reduceMul,Int.reduceToNat,Nat.reducePow,Int.reduceNeg,Nat.reduceAdd,Nat.reduceLT,Nat.reduceLeDiff,sA,sB,Nat.reduceEqDiff,cQ,rowQ,rowU,rowT,rowM,i64s_getD,i64s_length,tab_length,tab_drop,tab_take,tab_append,tab_nil,rowT_all,rowT_one,rowT_pure,rowU_all,rowU_one,rowU_pure,rowQ_all,rowQ_one,rowQ_pure,List.take_length,List.length_append,findA_tab,range_snoc,pure_sl,sT,p]) : G := (e p).mpr h
theorem sTjV {G G' : Prop} (h : G') (e : G = G' := by conv => lhs;simp (disch := omega) only [rowsOf,cNat,cN,St.ret,St.seth,Eff.app,Eff.wi,sepL,guardOf,St.known,objOf,List.set,sliceW,litW,copyW,lenOf,bnd,mxOk,ofCells,TI.isAgg,cellsOf,storable,AV.one,dead,laid,overlay,reduceCtorEq,Int.reduceLE,Int.reduceLT,Int.reduceSub,Int.reduceAdd,Nat.reduceMul,Int.reduceToNat,Nat.reducePow,Int.reduceNeg,Nat.reduceAdd,Nat.reduceLT,Nat.reduceLeDiff,sA,sB,Nat.reduceEqDiff,cQ,rowQ,rowU,rowT,rowM,i64s_getD,i64s_length,tab_length,tab_drop,tab_take,tab_append,tab_nil,rowT_all,rowT_one,rowT_pure,rowU_all,rowU_one,rowU_pure,rowQ_all,rowQ_one,rowQ_pure,List.take_length,List.length_append,findA_tab,range_snoc,pure_sl,sT,view_sref,viewRef,view_agg,views_cons,views_nil,view_bool,view_int,view_sl,view_nils,view_str,view_tup,view_nilif]) : G := e.mpr h
theorem aTj {G G' : Prop} (h : G') (f : Wr G' → G := by intro h;(repeat (first|(refine W_seqV fun K hK => ?_;(try (refine sTj ?_;try exact True.intro));(repeat refine aI ?_);refine hK _ ?_;clear hK K)|(refine W_seqR fun K hK => ?_;(try (refine sTj ?_;try exact True.intro));(repeat refine aI ?_);refine hK _ ?_;clear hK K)|(refine W_seqD mixed [] (by kernel_rfl) fun K hK => ?_;(try (refine sTj ?_;try exact True.intro));(repeat refine aI ?_);refine hK _ ?_;clear hK K)));exact h.out) : G := f ⟨h⟩
theorem celly_u32s : ∀ l : List Nat,AV.cellyR (u32s l) = true
 | [] => rfl
 | x::l => by
  show (!([AV.int .u32 (x : Int)]).isEmpty && AV.cellys [AV.int .u32 (x : Int)] && AV.cellyR (u32s l)) = true
  rw [celly_u32s l]
  rfl
theorem celly_rowQ : ∀ l : List (Int × Rat),AV.cellyR (tab rowQ l) = true
 | [] => rfl
 | p::l => by
  show (!(rowQ p).isEmpty && AV.cellys (rowQ p) && AV.cellyR (tab rowQ l)) = true
  rw [celly_rowQ l]
  simp only [rowQ,AV.cellys,AV.celly,celly_u32s,List.isEmpty_cons]
  rfl
theorem celly_L (l : List (Int × Rat)) : (AV.sl (tab rowQ l)).celly = true := celly_rowQ l
structure FormOk (f : List (Int × RR)) : Prop where
 ok : ∀ p ∈ f,p.2.ok
 sz : nbs (vals f) ≤ 68157440
theorem FormOk.fok {f : List (Int × RR)} (h : FormOk f) : FOk f (nbs (vals f)) := ⟨h.ok,Sz.of _⟩
theorem TG.expr {t : TR} (h : TG t) {n : Int} (hg : goodB n (nrmT t) = true) {f : List (Int × RR)} (hk : knownB n (normF (vals f)) = true) (hx : ExOk (nrmT t) f) :
  Pure Tryz.prog 67 [.md t.length (List.range t.length) (tab rowU (nrmT t)),cF f] (· = cL (exprT (nrmT t) (vals f))) :=
 texpr_ok _ f _ _ (gt_iff.1 hg) h.mok.nf hk hx (by rw [nrmT_len];exact range_births.1) range_births.2.1 range_births.2.2
theorem FormOk.mok {f : List (Int × RR)} (h : FormOk f) : FOk f 536870912 := ⟨h.ok,h.fok.sz.mono (by have := h.sz;omega)⟩
theorem TOk.ex {t : TR} (h : TOk t) {n : Int} {f : List (Int × RR)} (hf : FormOk f) (hg : goodB n (nrmT t) = true) : ExOk (nrmT t) f :=
 ExOk.of (gt_iff.1 hg).nodup hf.fok hf.sz h.tb
theorem FormOk.known {f : List (Int × RR)} (h : FOk f 536870912) (n : Int) : Pure Tryz.prog 66 [cF f,.int .i64 n] (· = .bool (knownB n (normF (vals f)))) :=
 tknown_ok f n h (by omega)
def exprV (n : Int) (t : TR) (f : List (Int × RR)) : AV := if goodB n (nrmT t) then if knownB n (normF (vals f)) then .tup [cL (exprT (nrmT t) (vals f)),.int .i64 0] else .tup [.sl [],.int .i64 61] else .tup [.sl [],.int .i64 70]
def defV (n : Int) (t : TR) (f : List (Int × RR)) : AV := if goodB n (nrmT t) then if knownB n (normF (vals f)) then if n = 65536 then .tup [cU 0 [],.int .i64 0,.int .i64 2] else .tup [cU (n + 1) (sortM (nrmT t ++ [(n,exprT (nrmT t) (vals f))])),.int .i64 n,.int .i64 0]
 else .tup [cU 0 [],.int .i64 0,.int .i64 61] else .tup [cU 0 [],.int .i64 0,.int .i64 70]
theorem tdefine_g (n : Int) (t : TR) (f : List (Int × RR)) (hT : TG t) (hf : FOk f 536870912) (hx : goodB n (nrmT t) = true → knownB n (normF (vals f)) = true → ExOk (nrmT t) f) : Pure Tryz.prog 21 [cT n t,cF f] (· = defV n t f) := by
 have a0 := tload_new n t (fun r hr => hT.form hr) (by omega) (by have := hT.len;omega)
 have a2 := FormOk.known hf n
 have a3 := fun hg hk => hT.expr (n := n) hg hk (hx hg hk)
 have hM := hT.mok
 have hml := nrmT_len t
 have hsz : goodB n (nrmT t) = true → knownB n (normF (vals f)) = true → MOk (nrmT t ++ [(n,exprT (nrmT t) (vals f))]) 1073741824 := fun hg hk => by
  have hp := exprP_preG (gt_iff.1 hg) hk (hx hg hk) (keys (normF (vals f))).length
  rw [List.take_length] at hp
  refine ⟨fun r hr => ?_,fun r hr => ?_,by have := hM.len;have := hT.len;rw [List.length_append,hml];simp;omega⟩
  ·rcases List.mem_append.1 hr with hr | hr
   ·exact hM.nf r hr
   ·simp at hr;subst hr;exact hp.1
  ·rcases List.mem_append.1 hr with hr | hr
   ·exact (hM.sz r hr).mono (by omega)
   ·simp at hr;subst hr;exact hp.2.mono (by omega)
 have a4 := fun hg hk => ttold_ok (nrmT t ++ [(n,exprT (nrmT t) (vals f))]) (n + 1) (t.length + 1) (List.range (t.length + 1)) (hsz hg hk) (by omega) (by simp [hml]) range_births.2.1 range_births.2.2
 have hni : goodB n (nrmT t) = true → n ∉ keys (nrmT t) := fun hg hm => by have := (gt_iff.1 hg).range n hm;omega
 have hgn : goodB n (nrmT t) = true → 0 ≤ n ∧ n ≤ 65536 := fun h => ⟨(gt_iff.1 h).lo,(gt_iff.1 h).hi⟩
 unfold loadR at a0
 unfold defV
 unfold cT cU at *
 have hcl := celly_L (exprT (nrmT t) (vals f))
 generalize exprT (nrmT t) (vals f) = R at *
 generalize goodB n (nrmT t) = gb at *
 generalize knownB n (normF (vals f)) = kb at *
 generalize nrmT t = M at *
 have hz : tab rowU [] = [] := rfl
 rw [hz]
 simp only [cF,cL] at *
 clear hsz
 cases gb
 ·simp only [Bool.false_eq_true,if_false] at a0 ⊢
  (refine pureW Tryz.func21 rfl (rs := [Go.ResultVar.cell 4 24,Go.ResultVar.tmp 5,Go.ResultVar.tmp 6]) rfl (n := 43) rfl ?_;simp only [List.length_cons,List.length_nil,List.replicate,List.cons_append,List.nil_append])
  (refine aTj ?_)
  ((refine W_seqR ?_);intro K hK;(refine sTj ?_))
  refine ⟨by kernel_rfl,call_newMB 11 rfl rfl a0 (fun _ => ?_) (fun c bs rows h => by cases h)⟩
  (refine sTj ?_;try exact True.intro)
  (refine hK _ ?_;clear hK K)
  (repeat' (first | (exfalso;simp at h;done) | refine W_block ?_ | (refine W_seqV fun K hK => ?_;(try (refine sTj ?_));refine hK _ ?_;clear hK K) | (refine W_ret ?_;(refine qG ?_)) | (refine W_cond rfl (fun h => ?_) (fun h => ?_) <;> (try simp only [cond_true,cond_false,ne_eq,cB] at h)) | refine W_seq ?_))
  (try (refine sTjV ?_;try exact True.intro))
 simp only [if_true] at a0 ⊢
 obtain ⟨hn0,hn1⟩ := hgn rfl
 have hni := hni rfl
 have hid : idxM M n = none := by
  cases h : idxM M n with
  | none => rfl
  | some j => exact absurd (idx_some h).2.2.2 hni
 cases kb
 ·simp only [Bool.false_eq_true,if_false]
  (refine pureW Tryz.func21 rfl (rs := [Go.ResultVar.cell 4 24,Go.ResultVar.tmp 5,Go.ResultVar.tmp 6]) rfl (n := 43) rfl ?_;simp only [List.length_cons,List.length_nil,List.replicate,List.cons_append,List.nil_append])
  (refine aTj ?_)
  ((refine W_seqR ?_);intro K hK;(refine sTj ?_))
  refine ⟨by kernel_rfl,call_newMB 11 rfl rfl a0 (fun h => by cases h) (fun c bs rows h => ?_)⟩
  cases h
  (refine sTj ?_;try exact True.intro)
  (refine hK _ ?_;clear hK K)
  (repeat' (first | (exfalso;simp at h;done) | refine W_block ?_ | (refine W_seqV fun K hK => ?_;(try (refine sTj ?_));refine hK _ ?_;clear hK K) | (refine W_cond rfl (fun h => ?_) (fun h => ?_) <;> (try simp only [cond_true,cond_false,ne_eq,cB] at h)) | refine W_seq ?_))
  ((refine W_regV ?_);intro K hK;(refine sTj ?_))
  (refine ⟨by kernel_rfl,_,.pure rfl (a2),?_⟩;(try (refine sTj ?_)))
  (refine hK _ ?_;clear hK K)
  (repeat' (first | (exfalso;simp at h;done) | (refine W_seqV fun K hK => ?_;(try (refine sTj ?_));refine hK _ ?_;clear hK K) | (refine W_ret ?_;(refine qG ?_)) | (refine W_cond rfl (fun h => ?_) (fun h => ?_) <;> (try simp only [cond_true,cond_false,ne_eq,cB] at h))))
  (try (refine sTjV ?_;try exact True.intro))
 simp only [if_true]
 have a3' := a3 rfl rfl
 have a4' := a4 rfl rfl
 by_cases hn : n = 65536
 ·rw [if_pos hn]
  (refine pureW Tryz.func21 rfl (rs := [Go.ResultVar.cell 4 24,Go.ResultVar.tmp 5,Go.ResultVar.tmp 6]) rfl (n := 43) rfl ?_;simp only [List.length_cons,List.length_nil,List.replicate,List.cons_append,List.nil_append])
  (refine aTj ?_)
  ((refine W_seqR ?_);intro K hK;(refine sTj ?_))
  refine ⟨by kernel_rfl,call_newMB 11 rfl rfl a0 (fun h => by cases h) (fun c bs rows h => ?_)⟩
  cases h
  (refine sTj ?_;try exact True.intro)
  (refine hK _ ?_;clear hK K)
  (repeat' (first | (exfalso;simp at h;done) | refine W_block ?_ | (refine W_seqV fun K hK => ?_;(try (refine sTj ?_));refine hK _ ?_;clear hK K) | (refine W_cond rfl (fun h => ?_) (fun h => ?_) <;> (try simp only [cond_true,cond_false,ne_eq,cB] at h)) | refine W_seq ?_))
  ((refine W_regV ?_);intro K hK;(refine sTj ?_))
  (refine ⟨by kernel_rfl,_,.pure rfl (a2),?_⟩;(try (refine sTj ?_)))
  (refine hK _ ?_;clear hK K)
  (repeat' (first | (exfalso;simp at h;done) | (refine W_seqV fun K hK => ?_;(try (refine sTj ?_));refine hK _ ?_;clear hK K) | refine W_skip ?_ | (refine W_ret ?_;(refine qG ?_)) | (refine W_cond rfl (fun h => ?_) (fun h => ?_) <;> (try simp only [cond_true,cond_false,ne_eq,cB] at h)) | refine W_seq ?_))
  ·(try (refine sTjV ?_;try exact True.intro))
  ·exact absurd hn h
 ·rw [if_neg hn]
  have hw : IntKind.wrap .i64 (n + 1) = n + 1 := wrap_i64 (by omega) (by omega)
  (refine pureW Tryz.func21 rfl (rs := [Go.ResultVar.cell 4 24,Go.ResultVar.tmp 5,Go.ResultVar.tmp 6]) rfl (n := 43) rfl ?_;simp only [List.length_cons,List.length_nil,List.replicate,List.cons_append,List.nil_append])
  (refine aTj ?_)
  ((refine W_seqR ?_);intro K hK;(refine sTj ?_))
  refine ⟨by kernel_rfl,call_newMB 11 rfl rfl a0 (fun h => by cases h) (fun c bs rows h => ?_)⟩
  cases h
  (refine sTj ?_;try exact True.intro)
  (refine hK _ ?_;clear hK K)
  (repeat' (first | (exfalso;simp at h;done) | refine W_block ?_ | (refine W_seqV fun K hK => ?_;(try (refine sTj ?_));refine hK _ ?_;clear hK K) | (refine W_cond rfl (fun h => ?_) (fun h => ?_) <;> (try simp only [cond_true,cond_false,ne_eq,cB] at h)) | refine W_seq ?_))
  ((refine W_regV ?_);intro K hK;(refine sTj ?_))
  (refine ⟨by kernel_rfl,_,.pure rfl (a2),?_⟩;(try (refine sTj ?_)))
  (refine hK _ ?_;clear hK K)
  (repeat' (first | (exfalso;simp at h;done) | (refine W_seqV fun K hK => ?_;(try (refine sTj ?_));(repeat refine aI ?_);refine hK _ ?_;clear hK K) | refine W_skip ?_ | (refine W_ret ?_;(refine qG ?_)) | (refine W_cond rfl (fun h => ?_) (fun h => ?_) <;> (try simp only [cond_true,cond_false,ne_eq,cB] at h)) | refine W_seq ?_))
  ·exact absurd h hn
  ((refine W_regS mixed 6 [(1,0)] (by kernel_rfl) ?_);intro K hK;(refine sTjX hid ?_))
  (refine ⟨by kernel_rfl,_,.mapv rfl rfl rfl rfl (hcl) (a3'),?_⟩;(try (refine sTj ?_));(repeat refine aI ?_))
  (refine hK _ ?_;clear hK K)
  have hrw : tab rowU M ++ [[.int .i64 n,.sl (tab rowQ R)]] = tab rowU (M ++ [(n,R)]) := tab_snoc (enc := rowU) M (n,R)
  rw [hrw]
  refine W.le ?_ (Le_freezeM 11 7 (e' := [.any,.any,.ptr 2 0 0,.any,.ptr 4 0 0,.any,.any,.any,.any,.any,.any,.any,.any,.any,.any,.any,.any,.any,.any,.any,.any,.any,.any,.any,.any,.any,.any,.any,.any,.any,.any,.any,.any,.any,.any,.any,.any,.any,.any,.any,.any,.any,.any]) (hp' := [.dead,.dead,.arr 24 2 false [[.int .i64 n,.sl (tab rowT t)]],.dead,.arr 24 2 false [[.int .i64 0,.nils]],.dead,.dead,.dead,.dead,.dead,.dead,.dead,.dead,.dead,.dead,.dead,.dead,.dead,.dead,.dead,.dead,.dead,.dead,.dead,.dead,.dead,.dead,.dead,.dead,.dead,.dead,.dead,.dead,.dead,.dead,.dead,.dead,.dead,.dead,.dead,.dead,.dead,.dead]) rfl rfl (by simp) (by simp [leE]) (by simp [leH]) rfl rfl rfl)
  simp only [List.set]
  ((refine W_seqD mixed [(6,7)] (by kernel_rfl) ?_);intro K hK;(refine sTjX hw ?_))
  (refine ⟨by kernel_rfl,_,.pure rfl (a4'),?_⟩;(try (refine sTj ?_));(repeat refine aI ?_))
  (refine hK _ ?_;clear hK K)
  refine W_ret ?_
  (refine qG ?_;try exact True.intro);try (refine sTjV ?_;try exact True.intro)
theorem tdefine_ok (n : Int) (t : TR) (f : List (Int × RR)) (hT : TOk t) (hf : FormOk f) : Pure Tryz.prog 21 [cT n t,cF f] (· = defV n t f) :=
 tdefine_g n t f hT hf.mok fun hg _ => hT.ex hf hg
def updS (bs sn : List Nat) (N : TM) (o : Int) (g : List (Int × Rat)) : TM := (List.range N.length).map fun j => if bs.getD j 0 ∈ sn then ((N.getD j default).1,putF (N.getD j default).2 o g) else N.getD j default
theorem idx_nodup {M : TM} (hn : (keys M).Nodup) {j : Nat} (hj : j < M.length) : idxM M (M.getD j default).1 = some j := by
 have hk : (M.getD j default).1 ∈ keys M := List.mem_map.2 ⟨_,getD_mem hj,rfl⟩
 obtain ⟨i,h1,h2,h3,_⟩ := look_idx hk
 rw [h1]
 congr 1
 have e1 : (keys M)[i]'(by rw [keys_len];exact h2) = (M.getD i default).1 := by simp [keys,List.getD_eq_getElem?_getD,h2]
 have e2 : (keys M)[j]'(by rw [keys_len];exact hj) = (M.getD j default).1 := by simp [keys,List.getD_eq_getElem?_getD,hj]
 exact (List.getElem_inj hn).1 (e1.trans (h3.trans e2.symm))
theorem Sz.whole {f : List (Int × Rat)} {B : Nat} (h : Sz f B) (b : Int) : Sz (wholeF b f) (B + 2) := Sz.sub h ⟨fun v => by simp only [nbv];split <;> simp [nb_one],by simp⟩
def pivV (n : Int) (t : TR) (b o : Int) : AV := if goodB n (nrmT t) then if b < 0 ∨ n ≤ b ∨ o < 0 ∨ n ≤ o then .tup [cU 0 [],.int .i64 61] else match idxM (nrmT t) b with
  | none => .tup [cU 0 [],.int .i64 71]
  | some k => if o ∈ keys (nrmT t) then .tup [cU 0 [],.int .i64 71] else if coef (wholeF b ((nrmT t).getD k default).2) o = 0 then .tup [cU 0 [],.int .i64 72] else .tup [cU n (sortM (pivP (nrmT t) k o (solvF b ((nrmT t).getD k default).2 o))),.int .i64 0]
 else .tup [cU 0 [],.int .i64 70]
def rowOk (n : Int) (M : TM) (j : Nat) : Prop := inR n (M.getD j default).1 = true ∧ idxM M (M.getD j default).1 = some j ∧ knownB n (M.getD j default).2 = true
theorem GT.of {n : Int} {M : TM} (h0 : 0 ≤ n) (h1 : n ≤ 65536) (h : ∀ j,j < M.length → rowOk n M j) (hf : ∀ j,j < M.length → ∀ p ∈ (M.getD j default).2,idxM M p.1 = none) : GT n M := by
 refine ⟨h0,h1,?_,fun b hb => ?_,fun r hr p hp => ?_⟩
 ·rw [List.Nodup,List.pairwise_iff_getElem]
  intro i j hi hj hij he
  have hi' : i < M.length := by rwa [keys_len] at hi
  have hj' : j < M.length := by rwa [keys_len] at hj
  have e1 := (h i hi').2.1
  have e2 := (h j hj').2.1
  have : (M.getD i default).1 = (M.getD j default).1 := by
   simp only [keys,List.getElem_map] at he
   simp [List.getD_eq_getElem?_getD,hi',hj',he]
  rw [this,e2] at e1
  cases e1
  omega
 ·obtain ⟨r,hr,rfl⟩ := List.mem_map.1 hb
  obtain ⟨j,hj,rfl⟩ := mem_getD hr
  exact inR_iff.1 (h j hj).1
 ·obtain ⟨j,hj,rfl⟩ := mem_getD hr
  have h2 := (h j hj).2.2
  unfold knownB at h2
  refine ⟨inR_iff.1 (List.all_eq_true.1 h2 p hp),(idx_none (hf j hj p hp)).1⟩
theorem TG.pf {t : TR} (h : TG t) {r : Int × List (Int × RR)} (hr : r ∈ t) : PF r.2 536870913 := ((h.form hr).pf (by omega)).mono (by omega)
end Go.Proofs.YtjmpajgjaefcjaaGreat.Vm
namespace Go.Proofs.YtjmpajgjaefcjaaGreat.Vm
open Go Go.RowKit
set_option linter.unusedVariables false
set_option linter.unusedSimpArgs false
def NewSV (base : Nat) (w : World) (F : Nat → Prop) (T : TypeId) (k : Nat) (pre : List AV) (rows : List (List AV)) (v : Value) : Prop :=
 ∃ vs x,v = .agg (vs ++ [x]).toArray ∧ Rps w F noPl pre vs ∧ NewA base w F T k rows x
def NewS (P : Program) (g : FuncId) (args : List AV) (T : TypeId) (k : Nat) (pre : List AV) (R : List (List AV) → Prop) : Prop :=
 pre.all AV.flat = true ∧ ∀ (w : World) (vals : List Value) (F : Nat → Prop),(∀ k,F k → k < w.heap.size) → Rps w F noPl args vals →
  Calls P g vals.toArray w fun e w' => ∃ v rows,e = .returned v ∧ R rows ∧ Below w.heap.size w w' ∧ NewSV w.heap.size w' F T k pre rows v
theorem flats_any {w w' : World} {A A' : Nat → Prop} {ρ ρ' : Pl} : ∀ (l : List AV) {vs : List Value},l.all AV.flat = true → Rps w A ρ l vs → Rps w' A' ρ' l vs
 | [],_,_,h => by simpa only [Rps] using h
 | x::l,vs,hf,h => by
  simp only [List.all_cons,Bool.and_eq_true] at hf
  simp only [Rps] at h ⊢
  obtain ⟨v,us,h1,h2,h3⟩ := h
  exact ⟨v,us,h1,flat_any x hf.1 h2,flats_any l hf.2 h3⟩
def newSK (T : TypeId) (k : Nat) (pre : List AV) (R : List (List AV) → Prop) (hp : List Ob) : AV → Prop
 | .agg cells => ∃ x,cells = pre ++ [x] ∧ newK T k R hp x
 | _ => False
def newSQ (P : Program) (rs : List ResultVar) (T : TypeId) (k : Nat) (pre : List AV) (R : List (List AV) → Prop) : Exit → St → Prop
 | .normal,s => resW P s rs fun xs => newSK T k pre R s.hp (asOne xs)
 | .ret,s => resW P s rs fun xs => newSK T k pre R s.hp (asOne xs)
 | _,_ => False
theorem newK_A {fr : Fr} {ρ : Pl} {s : St} {a : Act} {w : World} (hr : Rep fr ρ s a w) (hpins : fr.pins = []) {T : TypeId} {k : Nat} {R : List (List AV) → Prop} {x : AV} {v : Value} (h1 : newK T k R s.hp x) (h3 : Rp w (Av fr.F ρ) ρ x v) :
  ∃ rows,R rows ∧ NewA fr.base w fr.F T k rows v := by
 cases x with
 | nils =>
  simp only [Rp] at h3
  exact ⟨[],h1,.inl ⟨h3,rfl⟩⟩
 | sref i off n =>
  obtain ⟨rows,rfl,rfl,hi,hR⟩ := h1
  have ho := hr.heap i
  rw [show s.hp.getD i .dead = .arr T k true rows by simp [List.getD_eq_getElem?_getD,hi]] at ho
  simp only [Rp] at h3
  rcases h3 with ⟨g1,g2,g3,g4⟩ | ⟨b,s',cap,len,x,g1,g2,g3,g4⟩
  ·exact ⟨rows,hR,.inl ⟨g4,List.eq_nil_of_length_eq_zero g3⟩⟩
  ·rw [g1] at ho
   obtain ⟨e1,e2,vss,rest,e3,e4,e5⟩ := ho
   subst e1
   have hx0 := g4 (.inr trivial)
   rw [Nat.zero_mul] at hx0
   subst hx0
   refine ⟨rows,hR,.inr ⟨b,cap,?_,by rw [g3,Nat.sub_zero],vss,rest,e3,?_,e5⟩⟩
   ·rcases hr.mine i _ b g1 rfl with h4 | h4
    ·exact h4
    ·exact absurd h4.1 (by simp [hpins])
   ·exact RpR.later (ρ := noPl) _ ⟨Nat.le_refl _,fun c _ hc => by
     rcases hc with hc | rfl
     ·exact .inl hc
     ·exact .inr ⟨i,_,g1,rfl⟩,fun _ _ _ => rfl,fun _ _ h => h⟩ e4
 | _ => exact h1.elim
theorem newS_of_W {P : Program} {g : FuncId} {fn : Func} {c : Code} {args : List AV} {T : TypeId} {k : Nat} {pre : List AV} {R : List (List AV) → Prop} (hf : P.funcs[g]? = some fn) (hb : fn.body = some c) {rs : List ResultVar} (hrs : fn.results.toList = rs) {nt : Nat} (hn : fn.ntmps = nt) (hpre : pre.all AV.flat = true)
  (h : W P [] c (newSQ P rs T k pre R) ⟨args ++ List.replicate (nt - args.length) .und,List.replicate nt .dead⟩) : NewS P g args T k pre R := by
 subst hrs;subst hn
 refine ⟨hpre,fun w vals F hF hv => ?_⟩
 have hlen := hv.length
 refine calls_of_wp hf hb ?_
 let fr : Fr := ⟨w.heap.size,w,F,fun _ => False,[],noPl,fun _ _ h => h⟩
 have hA : Av F noPl = F := by
  funext k
  simp [Av,noPl]
 have hrep : Rep fr noPl ⟨args ++ List.replicate (fn.ntmps - args.length) .und,List.replicate fn.ntmps .dead⟩ { tmps := vals.toArray ++ Array.replicate (fn.ntmps - vals.toArray.size) undef,defers := [] } w := by
  refine { keep := ⟨rfl,rfl,rfl,Nat.le_refl _,fun _ _ _ => rfl⟩,base := Nat.le_refl _,defers := rfl,heap := fun i => ?_,inj := (fun i j p q b hi => by cases hi),mine := (fun i p b hi => by cases hi),fF := hF,pin := (fun i hi => by cases hi),env := ?_ }
  ·show HRo _ _ _ ((List.replicate fn.ntmps Ob.dead).getD i .dead) _
   rw [show (List.replicate fn.ntmps Ob.dead).getD i .dead = .dead by
    rw [List.getD_eq_getElem?_getD,List.getElem?_replicate];split <;> rfl]
   rfl
  ·show Rps w (Av F noPl) noPl _ _
   rw [hA]
   have h1 : (vals.toArray ++ Array.replicate (fn.ntmps - vals.toArray.size) undef).toList = vals ++ List.replicate (fn.ntmps - args.length) undef := by
    simp [hlen]
   rw [h1]
   refine hv.append (Rps.mk (by simp) fun i x v hx hv => ?_)
   rw [List.getElem?_replicate] at hx hv
   split at hx
   ·rename_i hi;rw [if_pos hi] at hv;cases hx;cases hv;simp only [Rp]
   ·cases hx
 refine Code.wp_mono (fun e a' w' he => ?_) (h fr noPl _ w rfl hrep)
 obtain ⟨s,ρ,hq,hr⟩ := he
 have fin : resW P s fn.results.toList (fun xs => newSK T k pre R s.hp (asOne xs)) → a'.defers = [] ∧ ∃ v,(results fn a'.tmps).run P w' = .ok v w' ∧ ∃ v2 rows,Ending.returned v = .returned v2 ∧ R rows ∧ Below w.heap.size w w' ∧ NewSV w.heap.size w' F T k pre rows v2 := by
  intro hk
  obtain ⟨xs,v,h1,h2,h3⟩ := results_sound hr fn hk
  have hbel : Below w.heap.size w w' := ⟨hr.keep.os,hr.keep.tape,hr.keep.output,hr.keep.size,fun k hk => hr.keep.block k hk (fun h => h)⟩
  refine ⟨hr.defers,v,h2,?_⟩
  cases hx : asOne xs with
  | agg cells =>
   rw [hx] at h1 h3
   obtain ⟨x,rfl,hkx⟩ := h1
   simp only [Rp] at h3
   obtain ⟨vs0,rfl,h4⟩ := h3
   obtain ⟨vs,us,rfl,h5,h6⟩ := h4.of_append
   simp only [Rps] at h6
   obtain ⟨y,_,rfl,h7,rfl⟩ := h6
   obtain ⟨rows,hR,hN⟩ := newK_A hr rfl hkx h7
   exact ⟨_,rows,rfl,hR,hbel,vs,y,rfl,flats_any _ hpre h5,hN⟩
  | _ => rw [hx] at h1;exact h1.elim
 cases e with
 | normal => exact fin hq
 | ret => exact fin hq
 | _ => exact hq.elim
theorem NewS.pure {P : Program} {g : FuncId} {args : List AV} {T : TypeId} {k : Nat} {pre : List AV} {R : List (List AV) → Prop} (h : NewS P g args T k pre R) : Pure P g args (fun r => ∃ rows,R rows ∧ r = .agg (pre ++ [.sl rows])) := by
 intro w vals F hF hv
 refine (h.2 w vals F hF hv).mono fun e w' he => ?_
 obtain ⟨v,rows,h1,h2,h3,vs,x,rfl,h5,h4⟩ := he
 refine ⟨_,_,h1,⟨rows,h2,rfl⟩,h3,?_⟩
 simp only [Rp]
 refine ⟨_,rfl,h5.append ?_⟩
 simp only [Rps,Rp]
 refine ⟨_,_,rfl,?_,rfl⟩
 rcases h4 with ⟨rfl,rfl⟩ | ⟨b,cap,hb,rfl,vss,rest,e1,e2,e3,e4,e5,e6⟩
 ·exact ⟨none,0,by simp,by simp,by simp [maxLen],.inl rfl⟩
 ·refine ⟨_,cap,rfl,e5,e6,.inr ⟨b,0,vss,rfl,fun hFb => ?_,(Array.getElem?_eq_some_iff.1 e1).1,?_,RpR.later (ρ := noPl) _ ⟨Nat.le_refl _,fun c _ hc => .inl hc,fun _ _ _ => rfl,fun _ _ h => h⟩ e2⟩⟩
  ·have := hF b hFb
   omega
  ·intro j u hj
   have h5 := (List.getElem?_eq_some_iff.1 hj).1
   simp only [World.cell?,Nat.zero_add]
   rw [e1]
   simp [List.getElem?_append_left h5,hj]
end Go.Proofs.YtjmpajgjaefcjaaGreat.Vm
/-
  The reference's tableaus: the rows by rising variables.
-/
namespace Go.Proofs.YtjmpajgjaefcjaaGreat.Vm
open Go Go.RowKit
set_option maxRecDepth 100000
set_option linter.unusedVariables false
set_option linter.unusedSimpArgs false
theorem sUc {G G' : Prop} (h : G') (e : G = G' := by conv => lhs; simp (disch := omega) only [rowsOf, cNat, cN, St.ret, St.seth, Eff.app, Eff.wi, sepL, guardOf, St.known, objOf, List.set, sliceW, litW, copyW, lenOf, bnd, mxOk, ofCells, TI.isAgg, cellsOf, storable, AV.one, dead, laid, overlay, reduceCtorEq, Int.reduceLE, Int.reduceLT, Int.reduceSub, Int.reduceAdd, Nat.reduceMul, Int.reduceToNat, Nat.reducePow, Int.reduceNeg, Nat.reduceAdd, Nat.reduceLT, Nat.reduceLeDiff, sA, sB, Nat.reduceEqDiff, cQ, rowQ, rowU, rowT, rowM, i64s_getD, i64s_length, i64s_all, tab_length, tab_drop, tab_take, tab_append, tab_nil, rowT_all, rowT_one, rowT_pure, rowU_all, rowU_one, rowU_pure, rowQ_all, rowQ_one, rowQ_pure, rowM_all, rowM_one, rowM_pure, List.take_length, List.length_append, sT]) : G := e.mpr h
theorem sUcX {G G' P : Prop} (p : P) (h : G') (e : P → G = G' := by intro p; conv => lhs; simp (disch := omega) only [rowsOf, cNat, cN, St.ret, St.seth, Eff.app, Eff.wi, sepL, guardOf, St.known, objOf, List.set, sliceW, litW, copyW, lenOf, bnd, mxOk, ofCells, TI.isAgg, cellsOf, storable, AV.one, dead, laid, overlay, reduceCtorEq, Int.reduceLE, Int.reduceLT, Int.reduceSub, Int.reduceAdd, Nat.reduceMul, Int.reduceToNat, Nat.reducePow, Int.reduceNeg, Nat.reduceAdd, Nat.reduceLT, Nat.reduceLeDiff, sA, sB, Nat.reduceEqDiff, cQ, rowQ, rowU, rowT, rowM, i64s_getD, i64s_length, i64s_all, tab_length, tab_drop, tab_take, tab_append, tab_nil, rowT_all, rowT_one, rowT_pure, rowU_all, rowU_one, rowU_pure, rowQ_all, rowQ_one, rowQ_pure, rowM_all, rowM_one, rowM_pure, List.take_length, List.length_append, sT, p]) : G := (e p).mpr h
theorem aUc {G G' : Prop} (h : G') (f : Wr G' → G := by intro h; (repeat (first | (refine W_seqV fun K hK => ?_; (try (refine sUc ?_; try exact True.intro)); (repeat refine aI ?_); refine hK _ ?_; clear hK K) | (refine W_seqR fun K hK => ?_; (try (refine sUc ?_; try exact True.intro)); (repeat refine aI ?_); refine hK _ ?_; clear hK K) | (refine W_seqD mixed [] (by kernel_rfl) fun K hK => ?_; (try (refine sUc ?_; try exact True.intro)); (repeat refine aI ?_); refine hK _ ?_; clear hK K))); exact h.out) : G := f ⟨h⟩

def lastK (l : List Int) (k : Nat) : Int := if k = 0 then -1 else l.getD (k - 1) 0
theorem lastK_succ (l : List Int) (k : Nat) : lastK l (k + 1) = l.getD k 0 := by simp [lastK]
theorem next_least {l : List Int} (hl : l.Pairwise (· < ·)) (h0 : ∀ x ∈ l, 0 ≤ x) {k : Nat} (hk : k < l.length) : lastK l k < l.getD k 0 ∧ ∀ x ∈ l, lastK l k < x → l.getD k 0 ≤ x := by
  rw [List.pairwise_iff_getElem] at hl
  have hg : ∀ i (h : i < l.length), l.getD i 0 = l[i] := fun i h => by simp [List.getD_eq_getElem?_getD, h]
  unfold lastK
  rw [hg k hk]
  constructor
  · split
    · have := h0 l[k] (List.getElem_mem hk); omega
    · rw [hg (k - 1) (by omega)]
      exact hl (k - 1) k (by omega) hk (by omega)
  · intro x hx hlt
    obtain ⟨j, hj, rfl⟩ := List.getElem_of_mem hx
    by_cases hjk : j < k
    · exfalso
      rw [if_neg (by omega), hg (k - 1) (by omega)] at hlt
      by_cases h1 : j = k - 1
      · subst h1; omega
      · have := hl j (k - 1) hj (by omega) (by omega)
        omega
    · by_cases h1 : j = k
      · subst h1; omega
      · have := hl k j hk hj (by omega)
        omega
/-- The least of the first i that is above last: where it stands. -/
def Least (M : TM) (last : Int) (i : Nat) (a : Int) : Prop := (a = -1 ∧ ∀ j, j < i → (M.getD j default).1 ≤ last) ∨ ∃ m : Nat, a = (m : Int) ∧ m < i ∧ last < (M.getD m default).1 ∧ ∀ j, j < i → last < (M.getD j default).1 → (M.getD m default).1 ≤ (M.getD j default).1
set_option maxHeartbeats 4000000 in
theorem r7sorted_gen (n : Int) (t : TR) (hlen : t.length ≤ 68157440) (hpf : ∀ r ∈ t, PF r.2 8589934592) (hnod : (keys (nrmT t)).Nodup) (hpos : ∀ b ∈ keys (nrmT t), 0 ≤ b) : NewS Tryz.prog 64 [cT n t] 84 2 [.int .i64 n] (· = tab rowU (sortM (nrmT t))) := by
  have hml := nrmT_len t
  have hnd := fun i (hi : i < t.length) => nrmT_getD hi
  have hno : ∀ i, i < t.length → Pure Tryz.prog 86 [cF (t.getD i default).2] (· = cL (normF (vals (t.getD i default).2))) := fun i hi => f6norm_ok _ (hpf _ (getD_mem hi)) (by omega)
  have hll : (sortK (keys (nrmT t))).length = t.length := by rw [sortK_len, keys_len, hml]
  have hlast := fun k (hk : k < (sortK (keys (nrmT t))).length) => next_least (sortK_lt hnod) (fun x hx => hpos x (mem_sortK.1 hx)) hk
  have hkm : ∀ k, k < (sortK (keys (nrmT t))).length → ∃ j, j < (nrmT t).length ∧ ((nrmT t).getD j default).1 = (sortK (keys (nrmT t))).getD k 0 := fun k hk => by
    have : (sortK (keys (nrmT t))).getD k 0 ∈ keys (nrmT t) := mem_sortK.1 (by simp [List.getD_eq_getElem?_getD, hk])
    obtain ⟨j, _, h2, h3, _⟩ := look_idx this
    exact ⟨j, h2, h3⟩
  have hmk : ∀ m, m < (nrmT t).length → ((nrmT t).getD m default).1 ∈ sortK (keys (nrmT t)) := fun m hm => mem_sortK.2 (List.mem_map.2 ⟨_, getD_mem hm, rfl⟩)
  have hst : ∀ k m, k < (sortK (keys (nrmT t))).length → m < (nrmT t).length → ((nrmT t).getD m default).1 = (sortK (keys (nrmT t))).getD k 0 → (sortM (nrmT t)).take (k + 1) = (sortM (nrmT t)).take k ++ [(nrmT t).getD m default] := fun k m hk hm he => by
    rw [take_snoc (by rw [sortM_len, hml, ← hll]; exact hk), sortM_getD hk, ← he]
    have := idx_nodup hnod hm
    rw [(idx_some this).2.2.1]
    rfl
  have h0 : (sortM (nrmT t)).take 0 = [] := rfl
  have hall : (sortM (nrmT t)).take t.length = sortM (nrmT t) := by rw [← hml, ← sortM_len, List.take_length]
  have hln : ∀ i, i ≤ t.length → ((sortM (nrmT t)).take i).length = i := fun i hi => by rw [List.length_take, sortM_len]; omega
  clear hpf hnod hpos
  unfold cT at *
  rw [← hall]
  clear hall
  generalize hE : (fun i => (sortM (nrmT t)).take i) = E at *
  have hE' : ∀ i, (sortM (nrmT t)).take i = E i := fun i => congrFun hE i
  simp only [hE'] at *
  clear hE hE'
  generalize sortK (keys (nrmT t)) = l at *
  generalize nrmT t = M at *
  (refine newS_of_W (T := 84) (k := 2) (pre := [.int .i64 n]) Tryz.func64 rfl (rs := [Go.ResultVar.cell 2 24]) rfl (nt := 73) rfl rfl ?_; simp only [List.length_cons, List.length_nil, List.replicate, List.cons_append, List.nil_append])
  (refine aUc ?_)
  refine W.le ?_ (Le_nilO 3 0 1 70 84 2 true rfl rfl rfl rfl)
  simp only [List.set]
  refine W_seq ?_
  refine W_block (W_loop (fun s : {k : Nat // k ≤ t.length} =>
      ⟨(.any :: (.ptr 1 0 0) :: (.ptr 2 0 0) :: (.ptr 3 0 0) :: (.int .i64 (lastK l s.1)) :: .any :: .any :: .any :: .any :: .any :: .any :: .any :: .any :: .any :: .any :: .any :: .any :: .any :: .any :: .any :: .any :: .any :: .any :: .any :: .any :: .any :: .any :: .any :: .any :: .any :: .any :: .any :: .any :: .any :: .any :: .any :: .any :: .any :: .any :: .any :: .any :: .any :: .any :: .any :: .any :: .any :: .any :: .any :: .any :: .any :: .any :: .any :: .any :: .any :: .any :: .any :: .any :: .any :: .any :: .any :: .any :: .any :: .any :: .any :: .any :: .any :: .any :: .any :: .any :: .any :: .any :: .any :: .any :: []),
       (.dead :: (.arr 24 2 false [[.int .i64 n, .sl (tab rowT t)]]) :: (.arr 24 2 false [[.int .i64 0, .nils]]) :: (.arr 24 2 false [[.int .i64 n, .sref 70 0 s.1]]) :: .dead :: .dead :: .dead :: .dead :: .dead :: .dead :: .dead :: .dead :: .dead :: .dead :: .dead :: .dead :: .dead :: .dead :: .dead :: .dead :: .dead :: .dead :: .dead :: .dead :: .dead :: .dead :: .dead :: .dead :: .dead :: .dead :: .dead :: .dead :: .dead :: .dead :: .dead :: .dead :: .dead :: .dead :: .dead :: .dead :: .dead :: .dead :: .dead :: .dead :: .dead :: .dead :: .dead :: .dead :: .dead :: .dead :: .dead :: .dead :: .dead :: .dead :: .dead :: .dead :: .dead :: .dead :: .dead :: .dead :: .dead :: .dead :: .dead :: .dead :: .dead :: .dead :: .dead :: .dead :: .dead :: .dead :: (.arr 84 2 true (tab rowU (E s.1))) :: .dead :: .dead :: [])⟩) (fun s => t.length - s.1)
      ⟨0, by omega⟩ (Le_drop (by simp [leE, lastK]) (by simp [leH, h0, tab]) rfl rfl) fun s => ?_)
  obtain ⟨k, hk⟩ := s
  dsimp only
  by_cases hlt : k < t.length
  · obtain ⟨hgt, hleast⟩ := hlast k (by omega)
    have hstk := hst k
    have hlk := hln k (by omega)
    obtain ⟨j0, hj0, hj1⟩ := hkm k (by omega)
    have hls := lastK_succ l k
    generalize hlv : l.getD k 0 = v at *
    generalize hla : lastK l k = last at *
    generalize hE1 : E (k + 1) = o' at *
    generalize E k = o at *
    refine W_seq ?_
    ((refine W_seqV ?_); intro K hK; (refine sUcX hlt ?_))
    (refine hK _ ?_; clear hK K)
    (refine W_cond rfl (fun _ => ?_) (fun h => by cases h))
    refine W_skip ?_
    simp only [thenW]
    refine W_block ?_
    (refine aUc ?_)
    refine W_seq ?_
    ((refine W_seqV ?_); intro K hK; (refine sUc ?_))
    (refine hK _ ?_; clear hK K)
    refine W_block (W_loop (fun s : {p : Nat × Int // p.1 ≤ t.length ∧ Least M last p.1 p.2} =>
      ⟨(.any :: (.ptr 1 0 0) :: (.ptr 2 0 0) :: (.ptr 3 0 0) :: (.int .i64 last) :: (.int .i64 s.1.2) :: (.int .i64 s.1.1) :: .any :: .any :: .any :: .any :: .any :: .any :: .any :: .any :: .any :: .any :: .any :: .any :: .any :: .any :: .any :: .any :: .any :: .any :: .any :: .any :: .any :: .any :: .any :: .any :: .any :: .any :: .any :: .any :: .any :: .any :: .any :: .any :: .any :: .any :: .any :: .any :: .any :: .any :: .any :: .any :: .any :: .any :: .any :: .any :: .any :: .any :: .any :: .any :: .any :: .any :: .any :: .any :: .any :: .any :: .any :: .any :: .any :: .any :: .any :: .any :: .any :: .any :: .any :: .any :: .any :: .any :: []),
       (.dead :: (.arr 24 2 false [[.int .i64 n, .sl (tab rowT t)]]) :: (.arr 24 2 false [[.int .i64 0, .nils]]) :: (.arr 24 2 false [[.int .i64 n, .sref 70 0 k]]) :: .dead :: .dead :: .dead :: .dead :: .dead :: .dead :: .dead :: .dead :: .dead :: .dead :: .dead :: .dead :: .dead :: .dead :: .dead :: .dead :: .dead :: .dead :: .dead :: .dead :: .dead :: .dead :: .dead :: .dead :: .dead :: .dead :: .dead :: .dead :: .dead :: .dead :: .dead :: .dead :: .dead :: .dead :: .dead :: .dead :: .dead :: .dead :: .dead :: .dead :: .dead :: .dead :: .dead :: .dead :: .dead :: .dead :: .dead :: .dead :: .dead :: .dead :: .dead :: .dead :: .dead :: .dead :: .dead :: .dead :: .dead :: .dead :: .dead :: .dead :: .dead :: .dead :: .dead :: .dead :: .dead :: .dead :: (.arr 84 2 true (tab rowU o)) :: .dead :: .dead :: [])⟩) (fun s => t.length - s.1.1)
      ⟨(0, -1), by omega, .inl ⟨rfl, by omega⟩⟩ (Le_drop (by simp [leE]) (by simp [leH]) rfl rfl) fun s => ?_)
    obtain ⟨⟨i, a⟩, hi, ha⟩ := s
    dsimp only at *
    by_cases hil : i < t.length
    · have hti : (tab rowT t).getD i [] = rowT (t.getD i default) := tab_getD hil
      have hMi : (M.getD i default).1 = (t.getD i default).1 := by rw [hnd i hil]
      have hno1 : (M.getD i default).1 ≤ last → Least M last i a → Least M last (i + 1) a := fun h1 h2 => by
        rcases h2 with ⟨h3, h4⟩ | ⟨m, h3, h4, h5, h6⟩
        · exact .inl ⟨h3, fun j hj => by
            by_cases hji : j = i
            · subst hji; exact h1
            · exact h4 j (by omega)⟩
        · exact .inr ⟨m, h3, by omega, h5, fun j hj hl => by
            by_cases hji : j = i
            · subst hji; omega
            · exact h6 j (by omega) hl⟩
      have hnew : last < (M.getD i default).1 → (∀ j, j < i → last < (M.getD j default).1 → (M.getD i default).1 ≤ (M.getD j default).1) → Least M last (i + 1) (i : Int) := fun h1 h2 =>
        .inr ⟨i, rfl, by omega, h1, fun j hj hl => by
          by_cases hji : j = i
          · subst hji; exact Int.le_refl _
          · exact h2 j (by omega) hl⟩
      have hold : ∀ m : Nat, m < i → last < (M.getD m default).1 → (∀ j, j < i → last < (M.getD j default).1 → (M.getD m default).1 ≤ (M.getD j default).1) → (M.getD m default).1 ≤ (M.getD i default).1 → Least M last (i + 1) (m : Int) := fun m h1 h2 h3 h4 =>
        .inr ⟨m, rfl, by omega, h2, fun j hj hl => by
          by_cases hji : j = i
          · subst hji; exact h4
          · exact h3 j (by omega) hl⟩
      rw [hMi] at hno1 hnew hold
      generalize t.getD i default = r at *
      obtain ⟨b, f⟩ := r
      simp only [rowT] at hti
      dsimp only at *
      refine W_seq ?_
      ((refine W_seqV ?_); intro K hK; (refine sUcX hil ?_))
      (refine hK _ ?_; clear hK K)
      (refine W_cond rfl (fun _ => ?_) (fun h => by cases h))
      refine W_skip ?_
      simp only [thenW]
      refine W_seq ?_
      refine W_block ?_
      refine W_seq ?_
      by_cases c1 : last < b
      · rcases ha with ⟨rfl, hle⟩ | ⟨m, rfl, hm, hmgt, hmle⟩
        · ((refine W_regD mixed [] (by kernel_rfl) ?_); intro K hK; (refine sUcX (And.intro hti (And.intro hil c1)) ?_))
          (refine hK _ ?_; clear hK K)
          simp only [thenW]
          (refine W_cond rfl (fun _ => ?_) (fun h => by cases h))
          ((refine W_regV ?_); intro K hK; (refine sUc ?_))
          (refine hK _ ?_; clear hK K)
          simp only [thenW, blockW]
          ((refine W_regV ?_); intro K hK; (refine sUc ?_))
          (refine hK _ ?_; clear hK K)
          simp only [blockW, thenW]
          refine ⟨⟨(i + 1, (i : Int)), by dsimp only; omega, hnew c1 fun j hj hl => by have := hle j hj; omega⟩, Le_drop (by simp [leE]) (by simp [leH]) rfl rfl, ?_⟩
          dsimp only
          omega
        · have hXm : (tab rowT t).getD m [] = rowT (t.getD m default) := tab_getD (by omega)
          have hMm : (M.getD m default).1 = (t.getD m default).1 := by rw [hnd m (by omega)]
          have hm0 : ¬ ((m : Int) < 0) := by omega
          have hmt : m < t.length := by omega
          have hold2 := hold m hm hmgt hmle
          rw [hMm] at hold2 hmgt hmle
          generalize t.getD m default = r2 at *
          obtain ⟨b2, f2⟩ := r2
          simp only [rowT] at hXm
          dsimp only at *
          by_cases c2 : b < b2
          · ((refine W_regD mixed [] (by kernel_rfl) ?_); intro K hK; (refine sUcX (And.intro hti (And.intro hil (And.intro c1 (And.intro hXm (And.intro hmt (And.intro hm0 c2)))))) ?_))
            (refine hK _ ?_; clear hK K)
            simp only [thenW]
            (refine W_cond rfl (fun _ => ?_) (fun h => by cases h))
            ((refine W_regV ?_); intro K hK; (refine sUc ?_))
            (refine hK _ ?_; clear hK K)
            simp only [thenW, blockW]
            ((refine W_regV ?_); intro K hK; (refine sUc ?_))
            (refine hK _ ?_; clear hK K)
            simp only [blockW, thenW]
            refine ⟨⟨(i + 1, (i : Int)), by dsimp only; omega, hnew c1 fun j hj hl => by have := hmle j hj hl; omega⟩, Le_drop (by simp [leE]) (by simp [leH]) rfl rfl, ?_⟩
            dsimp only
            omega
          · ((refine W_regD mixed [] (by kernel_rfl) ?_); intro K hK; (refine sUcX (And.intro hti (And.intro hil (And.intro c1 (And.intro hXm (And.intro hmt (And.intro hm0 c2)))))) ?_))
            (refine hK _ ?_; clear hK K)
            simp only [thenW]
            (refine W_cond rfl (fun h => by cases h) (fun _ => ?_))
            refine W_skip ?_
            simp only [thenW, blockW]
            ((refine W_regV ?_); intro K hK; (refine sUc ?_))
            (refine hK _ ?_; clear hK K)
            simp only [blockW, thenW]
            refine ⟨⟨(i + 1, (m : Int)), by dsimp only; omega, hold2 (by omega)⟩, Le_drop (by simp [leE]) (by simp [leH]) rfl rfl, ?_⟩
            dsimp only
            omega
      · ((refine W_regD mixed [] (by kernel_rfl) ?_); intro K hK; (refine sUcX (And.intro hti (And.intro hil c1)) ?_))
        (refine hK _ ?_; clear hK K)
        simp only [thenW]
        (refine W_cond rfl (fun h => by cases h) (fun _ => ?_))
        refine W_skip ?_
        simp only [thenW, blockW]
        ((refine W_regV ?_); intro K hK; (refine sUc ?_))
        (refine hK _ ?_; clear hK K)
        simp only [blockW, thenW]
        refine ⟨⟨(i + 1, a), by dsimp only; omega, hno1 (by omega) ha⟩, Le_drop (by simp [leE]) (by simp [leH]) rfl rfl, ?_⟩
        dsimp only
        omega
    · obtain rfl : i = t.length := by omega
      obtain ⟨m, rfl, hm, hmgt, hmle⟩ : ∃ m : Nat, a = (m : Int) ∧ m < t.length ∧ last < (M.getD m default).1 ∧ ∀ j, j < t.length → last < (M.getD j default).1 → (M.getD m default).1 ≤ (M.getD j default).1 := by
        rcases ha with ⟨_, h⟩ | h
        · have := h j0 (by omega)
          omega
        · exact h
      have hmv : (M.getD m default).1 = v := by
        have e1 := hmle j0 (by omega) (by omega)
        have e2 := hleast _ (hmk m (by omega)) hmgt
        omega
      have hst2 := hstk m (by omega) (by omega) hmv
      have hXm : (tab rowT t).getD m [] = rowT (t.getD m default) := tab_getD hm
      have hnom := hno m hm
      rw [hnd m hm] at hst2 hmv
      generalize t.getD m default = r2 at *
      obtain ⟨b2, f2⟩ := r2
      simp only [rowT] at hXm
      dsimp only at *
      simp only [cF, cL] at hnom
      subst hmv
      refine W_seq ?_
      ((refine W_seqV ?_); intro K hK; (refine sUc ?_))
      (refine hK _ ?_; clear hK K)
      (refine W_cond rfl (fun h => by cases h) (fun _ => ?_))
      refine W_exit ?_
      simp only [thenW, blockW, if_true]
      ((refine W_seqV ?_); intro K hK; (refine sUcX (And.intro hXm hm) ?_))
      (refine hK _ ?_; clear hK K)
      ((refine W_regS mixed 12 [] (by kernel_rfl) ?_); intro K hK; (refine sUcX (And.intro hXm hm) ?_))
      (refine ⟨by kernel_rfl, _, .pure rfl (hnom), ?_⟩; (try (refine sUc ?_)); (repeat refine aI ?_))
      (refine hK _ ?_; clear hK K)
      simp only [thenW, blockW]
      refine ⟨⟨k + 1, by omega⟩, Le_drop (by simp [leE, hls]) (by simp [leH, hE1, hst2, ← tab_snoc, rowU, tab_take, List.take_of_length_le, hlk]) rfl rfl, ?_⟩
      dsimp only
      omega
  · obtain rfl : k = t.length := by omega
    refine W_seq ?_
    ((refine W_seqV ?_); intro K hK; (refine sUc ?_))
    (refine hK _ ?_; clear hK K)
    (refine W_cond rfl (fun h => by cases h) (fun _ => ?_))
    refine W_exit ?_
    simp only [thenW, blockW, if_true]
    have hlk := hln t.length (Nat.le_refl _)
    generalize E t.length = o at *
    (refine aUc ?_)
    refine W_ret ?_
    (simp only [thenW, blockW, newSQ, resW, resV, asOne_one, List.getD_cons_zero, List.getD_cons_succ, newSK])
    (refine sUc ?_; try exact True.intro)
    skip
    exact ⟨_, rfl, _, rfl, by rw [tab_length, hlk], rfl, rfl⟩
theorem r7sorted_new (n : Int) (t : TR) (hT : TG t) (hnod : (keys (nrmT t)).Nodup) (hpos : ∀ b ∈ keys (nrmT t), 0 ≤ b) : NewS Tryz.prog 64 [cT n t] 84 2 [.int .i64 n] (· = tab rowU (sortM (nrmT t))) :=
  r7sorted_gen n t hT.len (fun r hr => (hT.pf hr).mono (by omega)) hnod hpos
theorem r7sorted_ok (n : Int) (t : TR) (hT : TG t) (hnod : (keys (nrmT t)).Nodup) (hpos : ∀ b ∈ keys (nrmT t), 0 ≤ b) : Pure Tryz.prog 64 [cT n t] (· = cU n (sortM (nrmT t))) :=
  (r7sorted_new n t hT hnod hpos).pure.mono fun r ⟨rows, h1, h2⟩ => by
    subst h1
    exact h2
end Go.Proofs.YtjmpajgjaefcjaaGreat.Vm

namespace Go.Proofs.YtjmpajgjaefcjaaGreat.Vm
open Go Go.RowKit
set_option maxRecDepth 100000
set_option linter.unusedVariables false
set_option linter.unusedSimpArgs false
theorem TG.sorted {t : TR} (h : TG t) {n : Int} (hg : goodB n (nrmT t) = true) : Pure Tryz.prog 64 [cT n t] (· = cU n (sortM (nrmT t))) :=
 r7sorted_ok n t h (gt_iff.1 hg).nodup fun b hb => ((gt_iff.1 hg).range b hb).1
def belowK (l : List Int) : Nat → Nat
 | 0 => 0
 | v + 1 => if (v : Int) ∈ l then belowK l v + 1 else belowK l v
theorem sVf {G G' : Prop} (h : G') (e : G = G' := by conv => lhs;simp (disch := omega) only [rowsOf,cNat,cN,St.ret,St.seth,Eff.app,Eff.wi,sepL,guardOf,St.known,objOf,List.set,sliceW,litW,copyW,lenOf,bnd,mxOk,ofCells,TI.isAgg,cellsOf,storable,AV.one,dead,laid,overlay,reduceCtorEq,Int.reduceLE,Int.reduceLT,Int.reduceSub,Int.reduceAdd,Nat.reduceMul,Int.reduceToNat,Nat.reducePow,Int.reduceNeg,Nat.reduceAdd,Nat.reduceLT,Nat.reduceLeDiff,sA,sB,Nat.reduceEqDiff,cQ,cD,tab_length,List.take_length,tab_drop,tab_take,tab_nil,rowD_all,rowD_one,rowD_pure,rowQ_all,rowQ_one,rowQ_pure,rowM_all,rowM_one,rowM_pure,sT]) : G := e.mpr h
theorem sVfX {G G' P : Prop} (p : P) (h : G') (e : P → G = G' := by intro p;conv => lhs;simp (disch := omega) only [rowsOf,cNat,cN,St.ret,St.seth,Eff.app,Eff.wi,sepL,guardOf,St.known,objOf,List.set,sliceW,litW,copyW,lenOf,bnd,mxOk,ofCells,TI.isAgg,cellsOf,storable,AV.one,dead,laid,overlay,reduceCtorEq,Int.reduceLE,Int.reduceLT,Int.reduceSub,Int.reduceAdd,Nat.reduceMul,Int.reduceToNat,Nat.reducePow,Int.reduceNeg,Nat.reduceAdd,Nat.reduceLT,Nat.reduceLeDiff,sA,sB,Nat.reduceEqDiff,cQ,cD,tab_length,List.take_length,tab_drop,tab_take,tab_nil,rowD_all,rowD_one,rowD_pure,rowQ_all,rowQ_one,rowQ_pure,rowM_all,rowM_one,rowM_pure,sT,p]) : G := (e p).mpr h
theorem sVfV {G G' : Prop} (h : G') (e : G = G' := by conv => lhs;simp (disch := omega) only [rowsOf,cNat,cN,St.ret,St.seth,Eff.app,Eff.wi,sepL,guardOf,St.known,objOf,List.set,sliceW,litW,copyW,lenOf,bnd,mxOk,ofCells,TI.isAgg,cellsOf,storable,AV.one,dead,laid,overlay,reduceCtorEq,Int.reduceLE,Int.reduceLT,Int.reduceSub,Int.reduceAdd,Nat.reduceMul,Int.reduceToNat,Nat.reducePow,Int.reduceNeg,Nat.reduceAdd,Nat.reduceLT,Nat.reduceLeDiff,sA,sB,Nat.reduceEqDiff,cQ,cD,tab_length,List.take_length,tab_drop,tab_take,tab_nil,rowD_all,rowD_one,rowD_pure,rowQ_all,rowQ_one,rowQ_pure,rowM_all,rowM_one,rowM_pure,sT,view_sref,viewRef,view_agg,views_cons,views_nil,view_bool,view_int,view_sl,view_nils,view_str,view_tup,view_nilif]) : G := e.mpr h
theorem aVf {G G' : Prop} (h : G') (f : Wr G' → G := by intro h;(repeat (first|(refine W_seqV fun K hK => ?_;(try (refine sVf ?_;try exact True.intro));(repeat refine aI ?_);refine hK _ ?_;clear hK K)|(refine W_seqR fun K hK => ?_;(try (refine sVf ?_;try exact True.intro));(repeat refine aI ?_);refine hK _ ?_;clear hK K)|(refine W_seqD mixed [] (by kernel_rfl) fun K hK => ?_;(try (refine sVf ?_;try exact True.intro));(repeat refine aI ?_);refine hK _ ?_;clear hK K)));exact h.out) : G := f ⟨h⟩
theorem dnorm_ok (d : DD) (h : d.ok) : Pure Tryz.prog 99 [d.av] (· = cD d.v) := by
 have h1 := rnorm_ok d.a h.1
 have h2 := rnorm_ok d.b h.2
 obtain ⟨⟨n,x,y⟩,⟨m,z,w⟩⟩ := d
 simp only [DD.av,DD.cells,DD.v,RR.av] at *
 generalize RR.v _ = p at *
 generalize RR.v _ = q at *
 simp only [cD,cQ] at *
 (refine pureW Tryz.func99 rfl (rs := [Go.ResultVar.cell 2 58]) rfl (n := 10) rfl ?_;simp only [List.length_cons,List.length_nil,List.replicate,List.cons_append,List.nil_append])
 (refine aVf ?_)
 ((refine W_seqD mixed [] (by kernel_rfl) ?_);intro K hK;(refine sVf ?_))
 (refine ⟨by kernel_rfl,_,.pure rfl (h1),?_⟩;(try (refine sVf ?_)))
 (refine ⟨by kernel_rfl,_,.pure rfl (h2),?_⟩;(try (refine sVf ?_)))
 (refine hK _ ?_;clear hK K)
 refine W_ret ?_
 (refine qG ?_;try exact True.intro);try (refine sVfV ?_;try exact True.intro)
def cellsO : Option DD → List AV
 | none => [.bool false,.nils,.nils,.bool false,.nils,.nils]
 | some d => d.cells
theorem zeroD0_ok : zeroD0.ok := ⟨zeroR_ok,zeroR_ok⟩
set_option maxHeartbeats 8000000 in
theorem ldeltas_gen (ds : List DD) (f : List (Int × Rat)) (hnv : ∀ i,nb2 (evd ds (f.take i)) ≤ 4294967296) (hvo : ∀ v,(valD ds v).ok ∧ nb2 (valD ds v).v ≤ 4294967296) (hel : f.length ≤ 4294967296) (hmem : ∀ p ∈ f,nb p.2 ≤ 4294967296) : Pure Tryz.prog 98 [.sl (tab rowQ f),.sl (tab rowD ds)] (· = cD (evd ds f)) := by
 have hE0 : evd ds (f.take 0) = (0,0) := rfl
 have hEl : evd ds (f.take f.length) = evd ds f := by rw [List.take_length]
 have hst := fun i hi => @evd_step ds f i hi
 rw [← hEl]
 generalize hEA : (fun i => evd ds (f.take i)) = EA at *
 have hEA' : ∀ i,evd ds (f.take i) = EA i := fun i => congrFun hEA i
 simp only [hEA'] at *
 clear hEA hEA' hEl
 have hu0 : u32s [] = [] := rfl
 (refine pureW Tryz.func98 rfl (rs := [Go.ResultVar.cell 4 58]) rfl (n := 38) rfl ?_;simp only [List.length_cons,List.length_nil,List.replicate,List.cons_append,List.nil_append])
 (refine aVf ?_)
 refine W_seq ?_
 ((refine W_seqV ?_);intro K hK;(refine sVf ?_))
 (refine hK _ ?_;clear hK K)
 refine W_block (W_loop (fun s : {p : Nat × Option DD // p.1 ≤ f.length ∧ (p.2.getD zeroD0).ok ∧ (p.2.getD zeroD0).v = EA p.1} =>
   ⟨[.any,.sl (tab rowD ds),.any,.any,.ptr 4 0 0,.ptr 5 0 0,.any,.any,.any,.sl (tab rowQ f),.int .i64 f.length,.int .i64 s.1.1,.any,.any,.any,.any,.any,.any,.any,.any,.any,.any,.any,.any,.any,.any,.any,.any,.any,.any,.any,.any,.any,.any,.any,.any,.any,.any],[.dead,.dead,.dead,.dead,.arr 58 6 false [[.bool false,.nils,.nils,.bool false,.nils,.nils]],.arr 58 6 false [cellsO s.1.2],.dead,.dead,.dead,.dead,.dead,.dead,.dead,.dead,.dead,.dead,.dead,.dead,.dead,.dead,.dead,.dead,.dead,.dead,.dead,.dead,.dead,.dead,.dead,.dead,.dead,.dead,.dead,.dead,.dead,.dead,.dead,.dead]⟩) (fun s => f.length - s.1.1)
   ⟨(0,none),by simp,zeroD0_ok,by show zeroD0.v = _;rw [zeroD0_v',hE0]⟩ (Le_drop (by simp [leE]) (by simp [leH,cellsO]) rfl rfl) fun s => ?_)
 obtain ⟨⟨i,od⟩,hi,hdo,hdv⟩ := s
 dsimp only at *
 rcases od with _ | d
 ·have hdo : zeroD0.ok := hdo
  have hdv : zeroD0.v = EA i := hdv
  simp only [cellsO]
  by_cases hlt : i < f.length
  ·have hXi : (tab rowQ f).getD i [] = rowQ (f.getD i default) := tab_getD hlt
   have hsi := hst i hlt
   have hni := hnv i
   have hni1 := hnv (i + 1)
   have hem := hmem (f.getD i default) (getD_mem hlt)
   generalize f.getD i default = m at *
   obtain ⟨v,c⟩ := m
   dsimp only at *
   obtain ⟨hv1,hv2⟩ := hvo v
   simp only [rowQ] at hXi
   refine W_seq ?_
   ((refine W_regV ?_);intro K hK;(refine sVfX hlt ?_))
   (refine hK _ ?_;clear hK K)
   (refine W_seq (W_ct rfl ?_))
   refine W_skip ?_
   simp only [thenW]
   refine W_seq ?_
   refine W_block ?_
   ((refine W_seqV ?_);intro K hK;(refine sVfX (And.intro hlt hXi) ?_))
   (refine hK _ ?_;clear hK K)
   by_cases hv0 : 0 ≤ v
   ·by_cases hv3 : v < (ds.length : Int)
    ·have hYi : (tab rowD ds).getD v.toNat [] = rowD (ds.getD v.toNat default) := tab_getD (by omega)
     have hvd : valD ds v = ds.getD v.toNat default := if_pos ⟨hv0,hv3⟩
     rw [hvd] at hsi hv1 hv2
     generalize ds.getD v.toNat default = y at *
     have hsc := dscale_ok (qr c) y (qr_ok (by omega)) hv1
     rw [qr_v] at hsc
     have hsn := nb2_scale c y.v
     have had := dadd_ok zeroD0 (dq (dscale c y.v)) hdo (dq_ok (by omega))
     rw [dq_v,hdv,← hsi,dq_av] at had
     generalize dscale c y.v = dm at *
     simp only [rowD,DD.cells] at hYi
     simp only [RR.av,qr,cD,DD.av,DD.cells,zeroD0,zeroR,hu0] at hsc had
     ((refine W_seqV ?_);intro K hK;(refine sVfX (And.intro hv0 hv3) ?_))
     (refine hK _ ?_;clear hK K)
     (refine W_ct rfl ?_)
     ((refine W_regD mixed [] (by kernel_rfl) ?_);intro K hK;(refine sVfX (And.intro hYi (And.intro hv0 hv3)) ?_))
     (refine ⟨by kernel_rfl,_,.pure rfl (hsc),?_⟩;(try (refine sVf ?_)))
     (refine ⟨by kernel_rfl,_,.pure rfl (had),?_⟩;(try (refine sVf ?_)))
     (refine hK _ ?_;clear hK K)
     simp only [blockW,thenW]
     ((refine W_regV ?_);intro K hK;(refine sVf ?_))
     (refine hK _ ?_;clear hK K)
     simp only [blockW,thenW]
     refine ⟨⟨(i + 1,some (dq (EA (i + 1)))),by dsimp only;omega,dq_ok (by omega),by show (dq (EA (i + 1))).v = _;rw [dq_v]⟩,Le_drop (by simp [leE]) (by simp [leH,cellsO,DD.cells,dq,qr]) rfl rfl,?_⟩
     dsimp only
     omega
    ·have hvd : valD ds v = zeroD0 := if_neg fun h => hv3 h.2
     have hnx : EA (i + 1) = EA i := by
      rw [hsi,hvd,zeroD0_v'];simp [dadd,dscale,Rat.mul_zero,Rat.add_zero]
     ((refine W_seqV ?_);intro K hK;(refine sVfX (And.intro hv0 hv3) ?_))
     (refine hK _ ?_;clear hK K)
     (refine W_cf rfl ?_)
     refine W_skip ?_
     simp only [blockW,thenW]
     ((refine W_regV ?_);intro K hK;(refine sVf ?_))
     (refine hK _ ?_;clear hK K)
     simp only [blockW,thenW]
     refine ⟨⟨(i + 1,none),by dsimp only;omega,hdo,by show zeroD0.v = _;rw [hnx];exact hdv⟩,Le_drop (by simp [leE]) (by simp [leH,cellsO]) rfl rfl,?_⟩
     dsimp only
     omega
   ·have hvd : valD ds v = zeroD0 := if_neg fun h => hv0 h.1
    have hnx : EA (i + 1) = EA i := by
     rw [hsi,hvd,zeroD0_v'];simp [dadd,dscale,Rat.mul_zero,Rat.add_zero]
    ((refine W_seqV ?_);intro K hK;(refine sVfX hv0 ?_))
    (refine hK _ ?_;clear hK K)
    (refine W_cf rfl ?_)
    refine W_skip ?_
    simp only [blockW,thenW]
    ((refine W_regV ?_);intro K hK;(refine sVf ?_))
    (refine hK _ ?_;clear hK K)
    simp only [blockW,thenW]
    refine ⟨⟨(i + 1,none),by dsimp only;omega,hdo,by show zeroD0.v = _;rw [hnx];exact hdv⟩,Le_drop (by simp [leE]) (by simp [leH,cellsO]) rfl rfl,?_⟩
    dsimp only
    omega
  ·obtain rfl : i = f.length := by omega
   have hno := dnorm_ok zeroD0 hdo
   rw [hdv] at hno
   simp only [DD.av,DD.cells,cD,zeroD0,zeroR,hu0] at hno
   refine W_seq ?_
   ((refine W_regV ?_);intro K hK;(refine sVf ?_))
   (refine hK _ ?_;clear hK K)
   (refine W_seq (W_cf rfl ?_))
   refine W_exit ?_
   simp only [thenW,blockW,if_true]
   ((refine W_seqV ?_);intro K hK;(refine sVf ?_))
   (refine ⟨by kernel_rfl,_,.pure rfl (hno),?_⟩;(try (refine sVf ?_)))
   (refine hK _ ?_;clear hK K)
   refine W_ret ?_
   (refine qG ?_;try exact True.intro);try (refine sVfV ?_;try exact True.intro)
 ·have hdo : d.ok := hdo
  have hdv : d.v = EA i := hdv
  simp only [cellsO,DD.cells]
  by_cases hlt : i < f.length
  ·have hXi : (tab rowQ f).getD i [] = rowQ (f.getD i default) := tab_getD hlt
   have hsi := hst i hlt
   have hni := hnv i
   have hni1 := hnv (i + 1)
   have hem := hmem (f.getD i default) (getD_mem hlt)
   generalize f.getD i default = m at *
   obtain ⟨v,c⟩ := m
   dsimp only at *
   obtain ⟨hv1,hv2⟩ := hvo v
   simp only [rowQ] at hXi
   refine W_seq ?_
   ((refine W_regV ?_);intro K hK;(refine sVfX hlt ?_))
   (refine hK _ ?_;clear hK K)
   (refine W_seq (W_ct rfl ?_))
   refine W_skip ?_
   simp only [thenW]
   refine W_seq ?_
   refine W_block ?_
   ((refine W_seqV ?_);intro K hK;(refine sVfX (And.intro hlt hXi) ?_))
   (refine hK _ ?_;clear hK K)
   by_cases hv0 : 0 ≤ v
   ·by_cases hv3 : v < (ds.length : Int)
    ·have hYi : (tab rowD ds).getD v.toNat [] = rowD (ds.getD v.toNat default) := tab_getD (by omega)
     have hvd : valD ds v = ds.getD v.toNat default := if_pos ⟨hv0,hv3⟩
     rw [hvd] at hsi hv1 hv2
     generalize ds.getD v.toNat default = y at *
     have hsc := dscale_ok (qr c) y (qr_ok (by omega)) hv1
     rw [qr_v] at hsc
     have hsn := nb2_scale c y.v
     have had := dadd_ok d (dq (dscale c y.v)) hdo (dq_ok (by omega))
     rw [dq_v,hdv,← hsi,dq_av] at had
     generalize dscale c y.v = dm at *
     simp only [rowD,DD.cells] at hYi
     simp only [RR.av,qr,cD,DD.av,DD.cells] at hsc had
     ((refine W_seqV ?_);intro K hK;(refine sVfX (And.intro hv0 hv3) ?_))
     (refine hK _ ?_;clear hK K)
     (refine W_ct rfl ?_)
     ((refine W_regD mixed [] (by kernel_rfl) ?_);intro K hK;(refine sVfX (And.intro hYi (And.intro hv0 hv3)) ?_))
     (refine ⟨by kernel_rfl,_,.pure rfl (hsc),?_⟩;(try (refine sVf ?_)))
     (refine ⟨by kernel_rfl,_,.pure rfl (had),?_⟩;(try (refine sVf ?_)))
     (refine hK _ ?_;clear hK K)
     simp only [blockW,thenW]
     ((refine W_regV ?_);intro K hK;(refine sVf ?_))
     (refine hK _ ?_;clear hK K)
     simp only [blockW,thenW]
     refine ⟨⟨(i + 1,some (dq (EA (i + 1)))),by dsimp only;omega,dq_ok (by omega),by show (dq (EA (i + 1))).v = _;rw [dq_v]⟩,Le_drop (by simp [leE]) (by simp [leH,cellsO,DD.cells,dq,qr]) rfl rfl,?_⟩
     dsimp only
     omega
    ·have hvd : valD ds v = zeroD0 := if_neg fun h => hv3 h.2
     have hnx : EA (i + 1) = EA i := by
      rw [hsi,hvd,zeroD0_v'];simp [dadd,dscale,Rat.mul_zero,Rat.add_zero]
     ((refine W_seqV ?_);intro K hK;(refine sVfX (And.intro hv0 hv3) ?_))
     (refine hK _ ?_;clear hK K)
     (refine W_cf rfl ?_)
     refine W_skip ?_
     simp only [blockW,thenW]
     ((refine W_regV ?_);intro K hK;(refine sVf ?_))
     (refine hK _ ?_;clear hK K)
     simp only [blockW,thenW]
     refine ⟨⟨(i + 1,some d),by dsimp only;omega,hdo,by show d.v = _;rw [hnx];exact hdv⟩,Le_drop (by simp [leE]) (by simp [leH,cellsO]) rfl rfl,?_⟩
     dsimp only
     omega
   ·have hvd : valD ds v = zeroD0 := if_neg fun h => hv0 h.1
    have hnx : EA (i + 1) = EA i := by
     rw [hsi,hvd,zeroD0_v'];simp [dadd,dscale,Rat.mul_zero,Rat.add_zero]
    ((refine W_seqV ?_);intro K hK;(refine sVfX hv0 ?_))
    (refine hK _ ?_;clear hK K)
    (refine W_cf rfl ?_)
    refine W_skip ?_
    simp only [blockW,thenW]
    ((refine W_regV ?_);intro K hK;(refine sVf ?_))
    (refine hK _ ?_;clear hK K)
    simp only [blockW,thenW]
    refine ⟨⟨(i + 1,some d),by dsimp only;omega,hdo,by show d.v = _;rw [hnx];exact hdv⟩,Le_drop (by simp [leE]) (by simp [leH,cellsO]) rfl rfl,?_⟩
    dsimp only
    omega
  ·obtain rfl : i = f.length := by omega
   have hno := dnorm_ok d hdo
   rw [hdv] at hno
   simp only [DD.av,DD.cells,cD] at hno
   refine W_seq ?_
   ((refine W_regV ?_);intro K hK;(refine sVf ?_))
   (refine hK _ ?_;clear hK K)
   (refine W_seq (W_cf rfl ?_))
   refine W_exit ?_
   simp only [thenW,blockW,if_true]
   ((refine W_seqV ?_);intro K hK;(refine sVf ?_))
   (refine ⟨by kernel_rfl,_,.pure rfl (hno),?_⟩;(try (refine sVf ?_)))
   (refine hK _ ?_;clear hK K)
   refine W_ret ?_
   (refine qG ?_;try exact True.intro);try (refine sVfV ?_;try exact True.intro)
structure EvOk (M : TM) (ds : List DD) : Prop where
 vo : ∀ v,(valD ds v).ok ∧ nb2 (valD ds v).v ≤ 4294967296
 ro : ∀ r ∈ M,r.2.length ≤ 4294967296 ∧ (∀ p ∈ r.2,nb p.2 ≤ 4294967296) ∧ ∀ i,nb2 (evd ds (r.2.take i)) ≤ 4294967296
theorem valD_getD {ds : List DD} {i : Nat} (h : i < ds.length) : valD ds (i : Int) = ds.getD i default := by
 unfold valD
 rw [if_pos ⟨by omega,by omega⟩,Int.toNat_natCast]
theorem EvOk.mem {M : TM} {ds : List DD} (h : EvOk M ds) : ∀ d ∈ ds,d.ok ∧ nb2 d.v ≤ 4294967296 := fun d hd => by
 obtain ⟨i,hi,rfl⟩ := mem_getD hd
 rw [← valD_getD hi]
 exact h.vo _
theorem DsOk.ev {ds : List DD} (h : DsOk ds) {M : TM} (hM : ∀ r ∈ M,nbs r.2 ≤ 68157440) : EvOk M ds :=
 ⟨fun v => ⟨(valD_ok h v).1,Nat.le_trans (valD_ok h v).2 (by omega)⟩,fun r hr => by
  have hs := hM r hr
  have := nbs_each (f := r.2) (by omega)
  exact ⟨this.1,this.2,(evd_gen h r.2 hs).1⟩⟩
theorem ldeltas_ev {M : TM} {ds : List DD} (h : EvOk M ds) {r : Int × List (Int × Rat)} (hr : r ∈ M) : Pure Tryz.prog 98 [.sl (tab rowQ r.2),.sl (tab rowD ds)] (· = cD (evd ds r.2)) :=
 ldeltas_gen ds r.2 (h.ro r hr).2.2 h.vo (h.ro r hr).1 (h.ro r hr).2.1
end Go.Proofs.YtjmpajgjaefcjaaGreat.Vm
namespace Go.Proofs.YtjmpajgjaefcjaaGreat.Vm
open Go Go.RowKit
set_option linter.unusedVariables false
set_option linter.unusedSimpArgs false
def NewTV (base : Nat) (w : World) (F : Nat → Prop) (T : TypeId) (k : Nat) (post : List AV) (rows : List (List AV)) (v : Value) : Prop :=
 ∃ vs x,v = .tuple (x::vs).toArray ∧ Rps w F noPl post vs ∧ NewA base w F T k rows x
def NewT (P : Program) (g : FuncId) (args : List AV) (T : TypeId) (k : Nat) (post : List AV) (R : List (List AV) → Prop) : Prop :=
 post.all AV.flat = true ∧ ∀ (w : World) (vals : List Value) (F : Nat → Prop),(∀ k,F k → k < w.heap.size) → Rps w F noPl args vals →
  Calls P g vals.toArray w fun e w' => ∃ v rows,e = .returned v ∧ R rows ∧ Below w.heap.size w w' ∧ NewTV w.heap.size w' F T k post rows v
def newTK (T : TypeId) (k : Nat) (post : List AV) (R : List (List AV) → Prop) (hp : List Ob) : AV → Prop
 | .tup cells => ∃ x,cells = x::post ∧ newK T k R hp x
 | _ => False
def newTQ (P : Program) (rs : List ResultVar) (T : TypeId) (k : Nat) (post : List AV) (R : List (List AV) → Prop) : Exit → St → Prop
 | .normal,s => resW P s rs fun xs => newTK T k post R s.hp (asOne xs)
 | .ret,s => resW P s rs fun xs => newTK T k post R s.hp (asOne xs)
 | _,_ => False
theorem newT_of_W {P : Program} {g : FuncId} {fn : Func} {c : Code} {args : List AV} {T : TypeId} {k : Nat} {post : List AV} {R : List (List AV) → Prop} (hf : P.funcs[g]? = some fn) (hb : fn.body = some c) {rs : List ResultVar} (hrs : fn.results.toList = rs) {nt : Nat} (hn : fn.ntmps = nt) (hpost : post.all AV.flat = true)
  (h : W P [] c (newTQ P rs T k post R) ⟨args ++ List.replicate (nt - args.length) .und,List.replicate nt .dead⟩) : NewT P g args T k post R := by
 subst hrs;subst hn
 refine ⟨hpost,fun w vals F hF hv => ?_⟩
 have hlen := hv.length
 refine calls_of_wp hf hb ?_
 let fr : Fr := ⟨w.heap.size,w,F,fun _ => False,[],noPl,fun _ _ h => h⟩
 have hA : Av F noPl = F := by
  funext k
  simp [Av,noPl]
 have hrep : Rep fr noPl ⟨args ++ List.replicate (fn.ntmps - args.length) .und,List.replicate fn.ntmps .dead⟩ { tmps := vals.toArray ++ Array.replicate (fn.ntmps - vals.toArray.size) undef,defers := [] } w := by
  refine { keep := ⟨rfl,rfl,rfl,Nat.le_refl _,fun _ _ _ => rfl⟩,base := Nat.le_refl _,defers := rfl,heap := fun i => ?_,inj := (fun i j p q b hi => by cases hi),mine := (fun i p b hi => by cases hi),fF := hF,pin := (fun i hi => by cases hi),env := ?_ }
  ·show HRo _ _ _ ((List.replicate fn.ntmps Ob.dead).getD i .dead) _
   rw [show (List.replicate fn.ntmps Ob.dead).getD i .dead = .dead by
    rw [List.getD_eq_getElem?_getD,List.getElem?_replicate];split <;> rfl]
   rfl
  ·show Rps w (Av F noPl) noPl _ _
   rw [hA]
   have h1 : (vals.toArray ++ Array.replicate (fn.ntmps - vals.toArray.size) undef).toList = vals ++ List.replicate (fn.ntmps - args.length) undef := by
    simp [hlen]
   rw [h1]
   refine hv.append (Rps.mk (by simp) fun i x v hx hv => ?_)
   rw [List.getElem?_replicate] at hx hv
   split at hx
   ·rename_i hi;rw [if_pos hi] at hv;cases hx;cases hv;simp only [Rp]
   ·cases hx
 refine Code.wp_mono (fun e a' w' he => ?_) (h fr noPl _ w rfl hrep)
 obtain ⟨s,ρ,hq,hr⟩ := he
 have fin : resW P s fn.results.toList (fun xs => newTK T k post R s.hp (asOne xs)) → a'.defers = [] ∧ ∃ v,(results fn a'.tmps).run P w' = .ok v w' ∧ ∃ v2 rows,Ending.returned v = .returned v2 ∧ R rows ∧ Below w.heap.size w w' ∧ NewTV w.heap.size w' F T k post rows v2 := by
  intro hk
  obtain ⟨xs,v,h1,h2,h3⟩ := results_sound hr fn hk
  have hbel : Below w.heap.size w w' := ⟨hr.keep.os,hr.keep.tape,hr.keep.output,hr.keep.size,fun k hk => hr.keep.block k hk (fun h => h)⟩
  refine ⟨hr.defers,v,h2,?_⟩
  cases hx : asOne xs with
  | tup cells =>
   rw [hx] at h1 h3
   obtain ⟨x,rfl,hkx⟩ := h1
   simp only [Rp,Rps] at h3
   obtain ⟨vs0,rfl,y,us,rfl,h7,h5⟩ := h3
   obtain ⟨rows,hR,hN⟩ := newK_A hr rfl hkx h7
   exact ⟨_,rows,rfl,hR,hbel,us,y,rfl,flats_any _ hpost h5,hN⟩
  | _ => rw [hx] at h1;exact h1.elim
 cases e with
 | normal => exact fin hq
 | ret => exact fin hq
 | _ => exact hq.elim
theorem call_newT {P : Program} {pins : List Nat} {g : FuncId} {avs : List AV} {s : St} {K : AV → St → Prop} {T : TypeId} {k : Nat} {post : List AV} {R : List (List AV) → Prop} (d : Nat) (hd : s.hp[d]? = some .dead) (ha : AV.pures avs = true) (hnew : NewT P g (AV.datas avs) T k post R)
  (hk : ∀ rows,R rows → K (.tup (.sref d 0 rows.length::post)) (s.seth d (.arr T k true rows))) : CallOk P pins g avs s K := by
 intro fr ρ a w vals hp hr hv
 refine (hnew.2 w vals (Av fr.F ρ) ?_ (Rps.data avs (Rps.pure noPl avs ha hv))).mono fun e w' he => ?_
 ·rintro k (hk | ⟨i,p,h1,h2⟩)
  ·exact Nat.lt_of_lt_of_le (hr.fF k hk) hr.base
  ·exact hr.lt h1 h2
 obtain ⟨v,rows,h1,h2,h3,vs,x,rfl,h4,h5⟩ := he
 obtain ⟨ρ',h6,h7⟩ := hr.adopt h3 hd h5
 refine ⟨_,_,_,ρ',h1,hk rows h2,h6,?_⟩
 simp only [Rp,Rps]
 exact ⟨_,rfl,_,_,rfl,by simpa only [Rp] using h7,flats_any _ hnew.1 h4⟩
theorem NewT.pure {P : Program} {g : FuncId} {args : List AV} {T : TypeId} {k : Nat} {post : List AV} {R : List (List AV) → Prop} (h : NewT P g args T k post R) : Pure P g args (fun r => ∃ rows,R rows ∧ r = .tup (.sl rows::post)) := by
 intro w vals F hF hv
 refine (h.2 w vals F hF hv).mono fun e w' he => ?_
 obtain ⟨v,rows,h1,h2,h3,vs,x,rfl,h5,h4⟩ := he
 refine ⟨_,_,h1,⟨rows,h2,rfl⟩,h3,?_⟩
 simp only [Rp,Rps]
 refine ⟨_,rfl,_,_,rfl,?_,h5⟩
 rcases h4 with ⟨rfl,rfl⟩ | ⟨b,cap,hb,rfl,vss,rest,e1,e2,e3,e4,e5,e6⟩
 ·exact ⟨none,0,by simp,by simp,by simp [maxLen],.inl rfl⟩
 ·refine ⟨_,cap,rfl,e5,e6,.inr ⟨b,0,vss,rfl,fun hFb => ?_,(Array.getElem?_eq_some_iff.1 e1).1,?_,RpR.later (ρ := noPl) _ ⟨Nat.le_refl _,fun c _ hc => .inl hc,fun _ _ _ => rfl,fun _ _ h => h⟩ e2⟩⟩
  ·have := hF b hFb
   omega
  ·intro j u hj
   have h5 := (List.getElem?_eq_some_iff.1 hj).1
   simp only [World.cell?,Nat.zero_add]
   rw [e1]
   simp [List.getElem?_append_left h5,hj]
end Go.Proofs.YtjmpajgjaefcjaaGreat.Vm
namespace Go.Proofs.YtjmpajgjaefcjaaGreat.Vm
open Go Go.RowKit
set_option maxRecDepth 100000
set_option linter.unusedVariables false
set_option linter.unusedSimpArgs false
theorem sVg {G G' : Prop} (h : G') (e : G = G' := by conv => lhs;simp (disch := omega) only [rowsOf,cNat,cN,St.ret,St.seth,Eff.app,Eff.wi,sepL,guardOf,St.known,objOf,List.set,sliceW,litW,copyW,lenOf,bnd,mxOk,ofCells,TI.isAgg,cellsOf,storable,AV.one,dead,laid,overlay,reduceCtorEq,Int.reduceLE,Int.reduceLT,Int.reduceSub,Int.reduceAdd,Nat.reduceMul,Int.reduceToNat,Nat.reducePow,Int.reduceNeg,Nat.reduceAdd,Nat.reduceLT,Nat.reduceLeDiff,sA,sB,Nat.reduceEqDiff,cellsX_all,cellsX_one,cellsX_pure,cQ,cD,rowQ,rowU,rowT,rowM,tab_length,List.take_length,tab_drop,tab_take,tab_nil,rowD_all,rowD_one,rowD_pure,rowT_all,rowT_one,rowT_pure,rowU_all,rowU_one,rowU_pure,rowQ_all,rowQ_one,rowQ_pure,rowM_all,rowM_one,rowM_pure,findA_tab,range_snoc,pure_sl,sT]) : G := e.mpr h
theorem sVgX {G G' P : Prop} (p : P) (h : G') (e : P → G = G' := by intro p;conv => lhs;simp (disch := omega) only [rowsOf,cNat,cN,St.ret,St.seth,Eff.app,Eff.wi,sepL,guardOf,St.known,objOf,List.set,sliceW,litW,copyW,lenOf,bnd,mxOk,ofCells,TI.isAgg,cellsOf,storable,AV.one,dead,laid,overlay,reduceCtorEq,Int.reduceLE,Int.reduceLT,Int.reduceSub,Int.reduceAdd,Nat.reduceMul,Int.reduceToNat,Nat.reducePow,Int.reduceNeg,Nat.reduceAdd,Nat.reduceLT,Nat.reduceLeDiff,sA,sB,Nat.reduceEqDiff,cellsX_all,cellsX_one,cellsX_pure,cQ,cD,rowQ,rowU,rowT,rowM,tab_length,List.take_length,tab_drop,tab_take,tab_nil,rowD_all,rowD_one,rowD_pure,rowT_all,rowT_one,rowT_pure,rowU_all,rowU_one,rowU_pure,rowQ_all,rowQ_one,rowQ_pure,rowM_all,rowM_one,rowM_pure,findA_tab,range_snoc,pure_sl,sT,p]) : G := (e p).mpr h
theorem aVg {G G' : Prop} (h : G') (f : Wr G' → G := by intro h;(repeat (first|(refine W_seqV fun K hK => ?_;(try (refine sVg ?_;try exact True.intro));(repeat refine aI ?_);refine hK _ ?_;clear hK K)|(refine W_seqR fun K hK => ?_;(try (refine sVg ?_;try exact True.intro));(repeat refine aI ?_);refine hK _ ?_;clear hK K)|(refine W_seqD mixed [] (by kernel_rfl) fun K hK => ?_;(try (refine sVg ?_;try exact True.intro));(repeat refine aI ?_);refine hK _ ?_;clear hK K)));exact h.out) : G := f ⟨h⟩
def cellsX (x : Rat × Rat) : List AV := (dq x).cells
theorem cellsX_all (f : List (Rat × Rat)) : AllLen 6 (tab cellsX f) := tab_all (k := 6) (fun _ => rfl) f
theorem cellsX_one (f : List (Rat × Rat)) : AllOne (tab cellsX f) := tab_one (fun _ => rfl) f
theorem cellsX_pure (f : List (Rat × Rat)) : AllPure (tab cellsX f) := tab_pure (fun _ => rfl) f
def extR (M : TM) (ds : List DD) (i : Nat) : Rat × Rat := match lookM M i with | some g => evd ds g | none => (ds.getD i default).v
def extL (M : TM) (ds : List DD) : List (Rat × Rat) := (List.range ds.length).map (extR M ds)
def extV (n : Int) (t : TR) (ds : List DD) : AV := if goodB n (nrmT t) then if (ds.length : Int) = n then .tup [.sl (tab cellsX (extL (nrmT t) ds)),.int .i64 0] else .tup [.sl [],.int .i64 1] else .tup [.sl [],.int .i64 70]
theorem set_fill {α : Type} (A : List α) (z x : α) (k : Nat) : (A ++ List.replicate (k + 1) z).set A.length x = A ++ [x] ++ List.replicate k z := by
 rw [List.set_append_right _ _ (Nat.le_refl _),Nat.sub_self,List.replicate_succ,List.set_cons_zero,List.append_assoc]
 rfl
theorem text_new (t : TR) (ds : List DD) (hT : TG t) (hd : EvOk (nrmT t) ds) (hl : ds.length < 1099511627776) (hg : goodB (ds.length : Int) (nrmT t) = true) :
  NewT Tryz.prog 50 [cT (ds.length : Int) t,.sl (tab rowD ds)] 58 6 [.int .i64 0] (· = tab cellsX (extL (nrmT t) ds)) := by
 have a1 := hT.load (ds.length : Int)
 have hM := hT.mok
 unfold loadV at a1
 rw [if_pos hg] at a1
 unfold cT at *
 have hld : ∀ i g,lookM (nrmT t) i = some g → Pure Tryz.prog 98 [.sl (tab rowQ g),.sl (tab rowD ds)] (· = cD (evd ds g)) := fun i g h =>
  ldeltas_ev hd (look_mem h)
 have hnd : ∀ i,i < ds.length → Pure Tryz.prog 99 [(ds.getD i default).av] (· = cD (ds.getD i default).v) := fun i hi => dnorm_ok _ (hd.mem _ (getD_mem hi)).1
 clear hg hM hd hT
 generalize nrmT t = M at *
 have hnb : ((ds.length : Int) != (ds.length : Int)) = false := by simp
 (refine newT_of_W (T := 58) (k := 6) (post := [.int .i64 0]) Tryz.func50 rfl (rs := [Go.ResultVar.tmp 4,Go.ResultVar.tmp 5]) rfl (nt := 57) rfl rfl ?_;simp only [List.length_cons,List.length_nil,List.replicate,List.cons_append,List.nil_append])
 (refine aVg ?_)
 ((refine W_seqV ?_);intro K hK;(refine sVg ?_))
 (refine ⟨by kernel_rfl,_,.pure rfl (a1),?_⟩;(try (refine sVg ?_)))
 (refine hK _ ?_;clear hK K)
 refine W_seq ?_
 refine W_block ?_
 ((refine W_seqV ?_);intro K hK;(refine sVg ?_))
 (refine hK _ ?_;clear hK K)
 (refine W_cf rfl ?_)
 ((refine W_seqV ?_);intro K hK;(refine sVgX hnb ?_))
 (refine hK _ ?_;clear hK K)
 (refine W_cf rfl ?_)
 refine W_skip ?_
 simp only [thenW,blockW]
 ((refine W_seqR ?_);intro K hK;(refine sVg ?_))
 (repeat refine aI ?_);refine hK _ ?_;clear hK K
 have hst : ∀ i : Nat,(List.range (i + 1)).map (extR M ds) = (List.range i).map (extR M ds) ++ [extR M ds i] := fun i => by rw [List.range_succ,List.map_append];rfl
 have hz : (List.range 0).map (extR M ds) = [] := rfl
 have hln : ∀ i : Nat,((List.range i).map (extR M ds)).length = i := fun i => by simp
 unfold extL
 have hex1 : ∀ (i : Nat) g,lookM M i = some g → extR M ds i = evd ds g := fun i g h => by unfold extR;rw [h]
 have hex2 : ∀ (i : Nat),lookM M i = none → extR M ds i = (ds.getD i default).v := fun i h => by unfold extR;rw [h]
 generalize hF : extR M ds = F at *
 generalize hE : (fun i : Nat => (List.range i).map F) = E at *
 have hE' : ∀ i : Nat,(List.range i).map F = E i := fun i => congrFun hE i
 simp only [hE'] at *
 clear hE hE' hF
 have hfill : ∀ i z,i < ds.length → (tab cellsX (E i) ++ List.replicate (ds.length - i) z).set i (cellsX (F i)) = tab cellsX (E (i + 1)) ++ List.replicate (ds.length - (i + 1)) z ∧ (tab cellsX (E i) ++ List.replicate (ds.length - i) z).getD i [] = z := fun i z hi => by
  have h1 : (tab cellsX (E i)).length = i := by rw [tab_length,hln]
  obtain ⟨k,hk⟩ : ∃ k,ds.length - i = k + 1 := ⟨ds.length - i - 1,by omega⟩
  have hk2 : ds.length - (i + 1) = k := by omega
  have h2 := set_fill (tab cellsX (E i)) z (cellsX (F i)) k
  rw [h1] at h2
  rw [hk,hk2,h2,hst,← tab_snoc]
  refine ⟨rfl,?_⟩
  rw [List.getD_eq_getElem?_getD,List.getElem?_append_right (by omega),h1,Nat.sub_self,List.replicate_succ]
  rfl
 have hlen : ∀ i z,i ≤ ds.length → (tab cellsX (E i) ++ List.replicate (ds.length - i) z).length = ds.length := fun i z hi => by rw [List.length_append,tab_length,hln,List.length_replicate];omega
 refine W_seq ?_
 ((refine W_seqV ?_);intro K hK;(refine sVg ?_))
 (refine hK _ ?_;clear hK K)
 generalize hzz : [AV.bool false,AV.nils,AV.nils,AV.bool false,AV.nils,AV.nils] = zz at *
 have hzl : zz.length = 6 := by rw [← hzz];rfl
 have hzd : List.drop 6 zz = [] := by rw [← hzz];rfl
 refine W_block (W_loop (fun s : {i : Nat // i ≤ ds.length} =>
   ⟨[.any,.sl (tab rowD ds),.any,.any,.any,.any,.md t.length (List.range t.length) (tab rowU M),.any,.sref 28 0 ds.length,.any,.any,.any,.any,.any,.any,.any,.any,.any,.any,.any,.any,.any,.any,.any,.any,.any,.any,.any,.any,.any,.int .i64 ds.length,.int .i64 s.1,.any,.any,.any,.any,.any,.any,.any,.any,.any,.any,.any,.any,.any,.any,.any,.any,.any,.any,.any,.any,.any,.any,.any,.any,.any],[.dead,.dead,.dead,.dead,.dead,.dead,.dead,.dead,.dead,.dead,.dead,.dead,.dead,.dead,.dead,.dead,.dead,.dead,.dead,.dead,.dead,.dead,.dead,.dead,.dead,.dead,.dead,.dead,.arr 58 6 true (tab cellsX (E s.1) ++ List.replicate (ds.length - s.1) zz),.dead,.dead,.dead,.dead,.dead,.dead,.dead,.dead,.dead,.dead,.dead,.dead,.dead,.dead,.dead,.dead,.dead,.dead,.dead,.dead,.dead,.dead,.dead,.dead,.dead,.dead,.dead,.dead]⟩) (fun s => ds.length - s.1)
   ⟨0,by omega⟩ (Le_drop (by simp [leE]) (by simp [leH,hz,tab]) rfl rfl) fun s => ?_)
 obtain ⟨i,hi⟩ := s
 dsimp only
 by_cases hlt : i < ds.length
 ·obtain ⟨hf1,hf2⟩ := hfill i zz hlt
  have hf3 := hlen i zz hi
  generalize tab cellsX (E i) ++ List.replicate (ds.length - i) zz = R at *
  generalize hR' : tab cellsX (E (i + 1)) ++ List.replicate (ds.length - (i + 1)) zz = R' at *
  refine W_seq ?_
  ((refine W_regV ?_);intro K hK;(refine sVgX hlt ?_))
  (refine hK _ ?_;clear hK K)
  (refine W_seq (W_ct rfl ?_))
  refine W_skip ?_
  simp only [thenW]
  refine W_seq ?_
  refine W_block ?_
  ((refine W_seqV ?_);intro K hK;(refine sVg ?_))
  (refine hK _ ?_;clear hK K)
  cases hid : idxM M (i : Int) with
  | some j =>
   obtain ⟨hj1,hj2,hj3,hj4⟩ := idx_some hid
   have hXj : (tab rowU M).getD j [] = rowU (M.getD j default) := rowU_getD hj1
   have hc := hld _ _ hj3
   have hx := hex1 i _ hj3
   generalize M.getD j default = q at *
   obtain ⟨w,g⟩ := q
   dsimp only at *
   generalize evd ds g = x at *
   simp only [rowU] at hXj
   simp only [cD] at hc
   ((refine W_seqV ?_);intro K hK;(refine sVgX (And.intro hid hXj) ?_))
   (refine hK _ ?_;clear hK K)
   ((refine W_seqV ?_);intro K hK;(refine sVg ?_))
   (refine hK _ ?_;clear hK K)
   (refine W_ct rfl ?_)
   ((refine W_regV ?_);intro K hK;(refine sVgX (And.intro hlt (And.intro hf3 (And.intro hf2 (And.intro hzl hzd)))) ?_))
   (refine ⟨by kernel_rfl,_,.pure rfl (hc),?_⟩;(try (refine sVg ?_));(repeat refine aI ?_))
   (refine sVgX (And.intro hlt (And.intro hf3 (And.intro hf2 (And.intro hzl hzd)))) ?_;try exact True.intro)
   (refine hK _ ?_;clear hK K)
   simp only [blockW,thenW]
   ((refine W_regV ?_);intro K hK;(refine sVg ?_))
   (refine hK _ ?_;clear hK K)
   simp only [blockW,thenW]
   refine ⟨⟨i + 1,by omega⟩,Le_drop (by simp [leE]) (by simp [leH,hR',← hf1,hx,cellsX,DD.cells,dq,qr]) rfl rfl,?_⟩
   dsimp only
   omega
  | none =>
   have hx := hex2 i (idx_none hid).2
   have hc := hnd i hlt
   have hYi : (tab rowD ds).getD i [] = rowD (ds.getD i default) := tab_getD hlt
   generalize hyy : ds.getD i default = y at *
   generalize y.v = x at *
   simp only [rowD,DD.cells] at hYi
   simp only [cD,DD.av,DD.cells] at hc
   ((refine W_seqV ?_);intro K hK;(refine sVgX hid ?_))
   (refine hK _ ?_;clear hK K)
   ((refine W_seqV ?_);intro K hK;(refine sVg ?_))
   (refine hK _ ?_;clear hK K)
   (refine W_cf rfl ?_)
   ((refine W_regV ?_);intro K hK;(refine sVgX (And.intro hlt (And.intro hYi (And.intro hf3 (And.intro hf2 (And.intro hzl hzd))))) ?_))
   (refine ⟨by kernel_rfl,_,.pure rfl (hc),?_⟩;(try (refine sVg ?_));(repeat refine aI ?_))
   (refine sVgX (And.intro hlt (And.intro hf3 (And.intro hf2 (And.intro hzl hzd)))) ?_;try exact True.intro)
   (refine hK _ ?_;clear hK K)
   simp only [blockW,thenW]
   ((refine W_regV ?_);intro K hK;(refine sVg ?_))
   (refine hK _ ?_;clear hK K)
   simp only [blockW,thenW]
   refine ⟨⟨i + 1,by omega⟩,Le_drop (by simp [leE]) (by simp [leH,hR',← hf1,hx,cellsX,DD.cells,dq,qr]) rfl rfl,?_⟩
   dsimp only
   omega
 ·obtain rfl : i = ds.length := by omega
  rw [Nat.sub_self,List.replicate_zero,List.append_nil]
  have hll := hln ds.length
  generalize E ds.length = oo at *
  refine W_seq ?_
  ((refine W_regV ?_);intro K hK;(refine sVg ?_))
  (refine hK _ ?_;clear hK K)
  (refine W_seq (W_cf rfl ?_))
  refine W_exit ?_
  simp only [thenW,blockW,if_true]
  refine W_seq ?_
  ((refine W_regV ?_);intro K hK;(refine sVg ?_))
  (refine hK _ ?_;clear hK K)
  refine W_ret ?_
  (simp only [thenW,blockW,newTQ,resW,resV,asOne_two,List.getD_cons_zero,List.getD_cons_succ,newTK])
  exact ⟨_,rfl,_,rfl,by rw [tab_length,hll],rfl,rfl⟩
theorem text_g (n : Int) (t : TR) (ds : List DD) (hT : TG t) (hd : EvOk (nrmT t) ds) (hl : ds.length < 1099511627776) : Pure Tryz.prog 50 [cT n t,.sl (tab rowD ds)] (· = extV n t ds) := by
 have a1 := hT.load n
 have hM := hT.mok
 unfold loadV at a1
 unfold extV
 unfold cT at *
 have hld : ∀ i g,lookM (nrmT t) i = some g → Pure Tryz.prog 98 [.sl (tab rowQ g),.sl (tab rowD ds)] (· = cD (evd ds g)) := fun i g h =>
  ldeltas_ev hd (look_mem h)
 have hnd : ∀ i,i < ds.length → Pure Tryz.prog 99 [(ds.getD i default).av] (· = cD (ds.getD i default).v) := fun i hi => dnorm_ok _ (hd.mem _ (getD_mem hi)).1
 have hpu : goodB n (nrmT t) = true → (ds.length : Int) = n → Pure Tryz.prog 50 [.agg [.int .i64 n,.sl (tab rowT t)],.sl (tab rowD ds)] (· = .tup [.sl (tab cellsX (extL (nrmT t) ds)),.int .i64 0]) := fun h1 h2 => by
  subst h2
  exact (text_new t ds hT hd hl h1).pure.mono fun r ⟨rows,h1,h2⟩ => by
   subst h1
   exact h2
 generalize goodB n (nrmT t) = gb at *
 generalize nrmT t = M at *
 cases gb
 ·simp only [Bool.false_eq_true,if_false] at a1 ⊢
  (refine pureW Tryz.func50 rfl (rs := [Go.ResultVar.tmp 4,Go.ResultVar.tmp 5]) rfl (n := 57) rfl ?_;simp only [List.length_cons,List.length_nil,List.replicate,List.cons_append,List.nil_append])
  (refine aVg ?_)
  ((refine W_seqV ?_);intro K hK;(refine sVg ?_))
  (refine ⟨by kernel_rfl,_,.pure rfl (a1),?_⟩;(try (refine sVg ?_)))
  (refine hK _ ?_;clear hK K)
  (repeat' (first | (exfalso;simp at h;done) | refine W_block ?_ | (refine W_seqV fun K hK => ?_;(try (refine sVg ?_));refine hK _ ?_;clear hK K) | (refine W_ret ?_;(refine qG ?_;try exact True.intro)) | (refine W_cond rfl (fun h => ?_) (fun h => ?_) <;> (try simp only [cond_true,cond_false,ne_eq,cB] at h)) | refine W_seq ?_))
 simp only [if_true] at a1 ⊢
 by_cases hn : (ds.length : Int) = n
 rotate_left
 ·rw [if_neg hn]
  have hnb : ((ds.length : Int) != n) = true := bne_iff_ne.2 hn
  (refine pureW Tryz.func50 rfl (rs := [Go.ResultVar.tmp 4,Go.ResultVar.tmp 5]) rfl (n := 57) rfl ?_;simp only [List.length_cons,List.length_nil,List.replicate,List.cons_append,List.nil_append])
  (refine aVg ?_)
  ((refine W_seqV ?_);intro K hK;(refine sVg ?_))
  (refine ⟨by kernel_rfl,_,.pure rfl (a1),?_⟩;(try (refine sVg ?_)))
  (refine hK _ ?_;clear hK K)
  refine W_seq ?_
  refine W_block ?_
  ((refine W_seqV ?_);intro K hK;(refine sVg ?_))
  (refine hK _ ?_;clear hK K)
  (refine W_cf rfl ?_)
  ((refine W_seqV ?_);intro K hK;(refine sVgX hnb ?_))
  (refine hK _ ?_;clear hK K)
  (repeat' (first | (exfalso;simp at h;done) | (refine W_seqV fun K hK => ?_;(try (refine sVg ?_));refine hK _ ?_;clear hK K) | (refine W_ret ?_;(refine qG ?_;try exact True.intro)) | (refine W_cond rfl (fun h => ?_) (fun h => ?_) <;> (try simp only [cond_true,cond_false,ne_eq,cB] at h))))
 rw [if_pos hn]
 exact hpu rfl hn
theorem TOk.ev {t : TR} (hT : TOk t) {ds : List DD} (hd : DsOk ds) : EvOk (nrmT t) ds := hd.ev fun r hr => by have := tb_mem hr;have := hT.tb;omega
theorem text_ok (n : Int) (t : TR) (ds : List DD) (hT : TOk t) (hd : DsOk ds) (hl : ds.length < 1099511627776) : Pure Tryz.prog 50 [cT n t,.sl (tab rowD ds)] (· = extV n t ds) :=
 text_g n t ds hT (hT.ev hd) hl
theorem sVh {G G' : Prop} (h : G') (e : G = G' := by conv => lhs;simp (disch := omega) only [rowsOf,cNat,cN,St.ret,St.seth,Eff.app,Eff.wi,sepL,guardOf,St.known,objOf,List.set,sliceW,litW,copyW,lenOf,bnd,mxOk,ofCells,TI.isAgg,cellsOf,storable,AV.one,dead,laid,overlay,reduceCtorEq,Int.reduceLE,Int.reduceLT,Int.reduceSub,Int.reduceAdd,Nat.reduceMul,Int.reduceToNat,Nat.reducePow,Int.reduceNeg,Nat.reduceAdd,Nat.reduceLT,Nat.reduceLeDiff,sA,sB,Nat.reduceEqDiff,cellsX_all,cellsX_one,cellsX_pure,cQ,cD,rowQ,rowU,rowT,rowM,tab_length,List.take_length,tab_drop,tab_take,tab_nil,rowD_all,rowD_one,rowD_pure,rowT_all,rowT_one,rowT_pure,rowU_all,rowU_one,rowU_pure,rowQ_all,rowQ_one,rowQ_pure,rowM_all,rowM_one,rowM_pure,sT]) : G := e.mpr h
theorem sVhX {G G' P : Prop} (p : P) (h : G') (e : P → G = G' := by intro p;conv => lhs;simp (disch := omega) only [rowsOf,cNat,cN,St.ret,St.seth,Eff.app,Eff.wi,sepL,guardOf,St.known,objOf,List.set,sliceW,litW,copyW,lenOf,bnd,mxOk,ofCells,TI.isAgg,cellsOf,storable,AV.one,dead,laid,overlay,reduceCtorEq,Int.reduceLE,Int.reduceLT,Int.reduceSub,Int.reduceAdd,Nat.reduceMul,Int.reduceToNat,Nat.reducePow,Int.reduceNeg,Nat.reduceAdd,Nat.reduceLT,Nat.reduceLeDiff,sA,sB,Nat.reduceEqDiff,cellsX_all,cellsX_one,cellsX_pure,cQ,cD,rowQ,rowU,rowT,rowM,tab_length,List.take_length,tab_drop,tab_take,tab_nil,rowD_all,rowD_one,rowD_pure,rowT_all,rowT_one,rowT_pure,rowU_all,rowU_one,rowU_pure,rowQ_all,rowQ_one,rowQ_pure,rowM_all,rowM_one,rowM_pure,sT,p]) : G := (e p).mpr h
theorem aVh {G G' : Prop} (h : G') (f : Wr G' → G := by intro h;(repeat (first|(refine W_seqV fun K hK => ?_;(try (refine sVh ?_;try exact True.intro));(repeat refine aI ?_);refine hK _ ?_;clear hK K)|(refine W_seqR fun K hK => ?_;(try (refine sVh ?_;try exact True.intro));(repeat refine aI ?_);refine hK _ ?_;clear hK K)|(refine W_seqD mixed [] (by kernel_rfl) fun K hK => ?_;(try (refine sVh ?_;try exact True.intro));(repeat refine aI ?_);refine hK _ ?_;clear hK K)));exact h.out) : G := f ⟨h⟩
def eqAt (M : TM) (ds : List DD) (i : Nat) : Bool := dsg (dsub (extR M ds i) (ds.getD i default).v) == 0
def eqTo (M : TM) (ds : List DD) (k : Nat) : Bool := (List.range k).all (eqAt M ds)
def holdsV (n : Int) (t : TR) (ds : List DD) : AV := if goodB n (nrmT t) then if (ds.length : Int) = n then .tup [.bool (eqTo (nrmT t) ds ds.length),.int .i64 0] else .tup [.bool false,.int .i64 1] else .tup [.bool false,.int .i64 70]
theorem extL_getD {M : TM} {ds : List DD} {i : Nat} (h : i < ds.length) : (extL M ds).getD i default = extR M ds i := by
 unfold extL
 simp [List.getD_eq_getElem?_getD,h]
theorem extL_len (M : TM) (ds : List DD) : (extL M ds).length = ds.length := by simp [extL]
theorem extR_nb {M : TM} {ds : List DD} (hd : EvOk M ds) {i : Nat} (hi : i < ds.length) : nb2 (extR M ds i) ≤ 4294967296 := by
 unfold extR
 cases h : lookM M i with
 | some g =>
  have h1 := (hd.ro _ (look_mem h)).2.2 g.length
  rwa [List.take_length] at h1
 | none =>
  have h1 := (hd.vo (i : Int)).2
  rw [valD_getD hi] at h1
  show nb2 (ds.getD i default).v ≤ _
  omega
theorem eqTo_step (M : TM) (ds : List DD) (k : Nat) : eqTo M ds (k + 1) = (eqTo M ds k && eqAt M ds k) := by
 unfold eqTo
 rw [List.range_succ,List.all_append]
 simp
theorem eqTo_false {M : TM} {ds : List DD} {k : Nat} (hk : eqAt M ds k = false) : ∀ {m : Nat},k < m → eqTo M ds m = false
 | 0,h => absurd h (Nat.not_lt_zero _)
 | m + 1,h => by
  rw [eqTo_step]
  by_cases hm : k = m
  ·subst hm;rw [hk,Bool.and_false]
  ·rw [eqTo_false hk (by omega),Bool.false_and]
theorem tholds_g (n : Int) (t : TR) (ds : List DD) (hT : TG t) (hd : EvOk (nrmT t) ds) (hl : ds.length < 1099511627776) : Pure Tryz.prog 53 [cT n t,.sl (tab rowD ds)] (· = holdsV n t ds) := by
 have a1 := text_g n t ds hT hd hl
 have hnb := fun i (hi : i < ds.length) => extR_nb (M := nrmT t) hd hi
 have hcmp : ∀ i,i < ds.length → Pure Tryz.prog 101 [(dq (extR (nrmT t) ds i)).av,(ds.getD i default).av] (· = .int .i64 (dsg (dsub (extR (nrmT t) ds i) (ds.getD i default).v))) := fun i hi => by
  have := dcmp_ok (dq (extR (nrmT t) ds i)) (ds.getD i default) (dq_ok (by have := hnb i hi;omega)) (hd.mem _ (getD_mem hi)).1
  rwa [dq_v] at this
 unfold extV at a1
 unfold holdsV
 unfold cT at *
 generalize goodB n (nrmT t) = gb at *
 generalize nrmT t = M at *
 cases gb
 ·simp only [Bool.false_eq_true,if_false] at a1 ⊢
  (refine pureW Tryz.func53 rfl (rs := [Go.ResultVar.tmp 4,Go.ResultVar.tmp 5]) rfl (n := 34) rfl ?_;simp only [List.length_cons,List.length_nil,List.replicate,List.cons_append,List.nil_append])
  (refine aVh ?_)
  ((refine W_seqV ?_);intro K hK;(refine sVh ?_))
  (refine ⟨by kernel_rfl,_,.pure rfl (a1),?_⟩;(try (refine sVh ?_)))
  (refine hK _ ?_;clear hK K)
  (repeat' (first | (exfalso;simp at h;done) | (refine W_seqV fun K hK => ?_;(try (refine sVh ?_));refine hK _ ?_;clear hK K) | (refine W_ret ?_;(refine qG ?_;try exact True.intro)) | (refine W_cond rfl (fun h => ?_) (fun h => ?_) <;> (try simp only [cond_true,cond_false,ne_eq,cB] at h)) | refine W_seq ?_))
 simp only [if_true] at a1 ⊢
 by_cases hn : (ds.length : Int) = n
 rotate_left
 ·rw [if_neg hn] at a1 ⊢
  (refine pureW Tryz.func53 rfl (rs := [Go.ResultVar.tmp 4,Go.ResultVar.tmp 5]) rfl (n := 34) rfl ?_;simp only [List.length_cons,List.length_nil,List.replicate,List.cons_append,List.nil_append])
  (refine aVh ?_)
  ((refine W_seqV ?_);intro K hK;(refine sVh ?_))
  (refine ⟨by kernel_rfl,_,.pure rfl (a1),?_⟩;(try (refine sVh ?_)))
  (refine hK _ ?_;clear hK K)
  (repeat' (first | (exfalso;simp at h;done) | (refine W_seqV fun K hK => ?_;(try (refine sVh ?_));refine hK _ ?_;clear hK K) | (refine W_ret ?_;(refine qG ?_;try exact True.intro)) | (refine W_cond rfl (fun h => ?_) (fun h => ?_) <;> (try simp only [cond_true,cond_false,ne_eq,cB] at h)) | refine W_seq ?_))
 rw [if_pos hn] at a1 ⊢
 have hXl := extL_len M ds
 have hXi : ∀ i,i < ds.length → (tab cellsX (extL M ds)).getD i [] = cellsX (extR M ds i) := fun i hi => by
  rw [← extL_getD hi]
  exact tab_getD (by rw [hXl];exact hi)
 have heq : ∀ i,eqAt M ds i = (dsg (dsub (extR M ds i) (ds.getD i default).v) == 0) := fun i => rfl
 have hst := eqTo_step M ds
 have hfa := fun k (hk : eqAt M ds k = false) => @eqTo_false M ds k hk ds.length
 have h0 : eqTo M ds 0 = true := rfl
 generalize eqTo M ds = T at *
 generalize eqAt M ds = Q at *
 generalize extL M ds = X at *
 generalize extR M ds = F at *
 have hXc : (tab cellsX X).length = ds.length := by rw [tab_length,hXl]
 have hRA := cellsX_all X
 generalize tab cellsX X = R at *
 (refine pureW Tryz.func53 rfl (rs := [Go.ResultVar.tmp 4,Go.ResultVar.tmp 5]) rfl (n := 34) rfl ?_;simp only [List.length_cons,List.length_nil,List.replicate,List.cons_append,List.nil_append])
 (refine aVh ?_)
 ((refine W_seqV ?_);intro K hK;(refine sVh ?_))
 (refine ⟨by kernel_rfl,_,.pure rfl (a1),?_⟩;(try (refine sVh ?_)))
 (refine hK _ ?_;clear hK K)
 (repeat' (first | (exfalso;simp at h;done) | refine W_block ?_ | (refine W_seqV fun K hK => ?_;(try (refine sVh ?_));refine hK _ ?_;clear hK K) | refine W_skip ?_ | (refine W_cond rfl (fun h => ?_) (fun h => ?_) <;> (try simp only [cond_true,cond_false,ne_eq,cB] at h)) | refine W_seq ?_))
 refine W_loop (fun s : {i : Nat // i ≤ ds.length ∧ T i = true} =>
   ⟨[.any,.sl (tab rowD ds),.any,.any,.any,.any,.sl R,.any,.any,.any,.any,.any,.any,.any,.any,.any,.any,.any,.any,.int .i64 ds.length,.int .i64 s.1,.any,.any,.any,.any,.any,.any,.any,.any,.any,.any,.any,.any,.any],[.dead,.dead,.dead,.dead,.dead,.dead,.dead,.dead,.dead,.dead,.dead,.dead,.dead,.dead,.dead,.dead,.dead,.dead,.dead,.dead,.dead,.dead,.dead,.dead,.dead,.dead,.dead,.dead,.dead,.dead,.dead,.dead,.dead,.dead]⟩) (fun s => ds.length - s.1)
   ⟨0,by omega,h0⟩ (Le_drop (by simp [leE,hXc]) (by simp [leH]) rfl rfl) fun s => ?_
 obtain ⟨i,hi,hTi⟩ := s
 dsimp only
 by_cases hlt : i < ds.length
 ·have hXj := hXi i hlt
  have hYi : (tab rowD ds).getD i [] = rowD (ds.getD i default) := tab_getD hlt
  have hRl : i < R.length := by omega
  have hc := hcmp i hlt
  have hq := heq i
  have hs := hst i
  have hf := hfa i
  generalize ds.getD i default = y at *
  generalize F i = x at *
  generalize dsg (dsub x y.v) = z at *
  simp only [rowD,cellsX,dq,qr,DD.cells] at hYi hXj
  simp only [cD,DD.av,dq,qr,DD.cells] at hc
  refine W_seq ?_
  ((refine W_regV ?_);intro K hK;(refine sVhX hlt ?_))
  (refine hK _ ?_;clear hK K)
  (refine W_seq (W_ct rfl ?_))
  refine W_skip ?_
  simp only [thenW]
  refine W_seq ?_
  refine W_block ?_
  ((refine W_seqV ?_);intro K hK;(refine sVh ?_))
  (refine hK _ ?_;clear hK K)
  refine W_seq ?_
  by_cases hz : z = 0
  ·have hzb : (z != 0) = false := by simp [hz]
   have hzq : Q i = true := by rw [hq];simp [hz]
   rw [hzq,hTi] at hs
   ((refine W_regD mixed [] (by kernel_rfl) ?_);intro K hK;(refine sVhX (And.intro hXj (And.intro hYi (And.intro hlt (And.intro hRl hRA)))) ?_))
   (refine ⟨by kernel_rfl,_,.pure rfl (hc),?_⟩;(try (refine sVh ?_)))
   rw [hzb]
   (refine hK _ ?_;clear hK K)
   (refine W_cf rfl ?_)
   refine W_skip ?_
   simp only [blockW,thenW]
   ((refine W_regV ?_);intro K hK;(refine sVh ?_))
   (refine hK _ ?_;clear hK K)
   simp only [blockW,thenW]
   refine ⟨⟨i + 1,by omega,by rw [hs];rfl⟩,Le_drop (by simp [leE]) (by simp [leH]) rfl rfl,?_⟩
   dsimp only
   omega
  ·have hzb : (z != 0) = true := by simp [hz]
   have hzq : Q i = false := by rw [hq];simp [hz]
   rw [hf hzq hlt]
   ((refine W_regD mixed [] (by kernel_rfl) ?_);intro K hK;(refine sVhX (And.intro hXj (And.intro hYi (And.intro hlt (And.intro hRl hRA)))) ?_))
   (refine ⟨by kernel_rfl,_,.pure rfl (hc),?_⟩;(try (refine sVh ?_)))
   rw [hzb]
   (refine hK _ ?_;clear hK K)
   (refine W_ct rfl ?_)
   (repeat' (first | (refine W_seqV fun K hK => ?_;(try (refine sVh ?_));refine hK _ ?_;clear hK K) | (refine W_ret ?_;(refine qG ?_;try exact True.intro))))
 ·obtain rfl : i = ds.length := by omega
  rw [hTi]
  refine W_seq ?_
  ((refine W_regV ?_);intro K hK;(refine sVh ?_))
  (refine hK _ ?_;clear hK K)
  (refine W_seq (W_cf rfl ?_))
  refine W_exit ?_
  simp only [thenW,blockW,if_true]
  (repeat' (first | (refine W_seqV fun K hK => ?_;(try (refine sVh ?_));refine hK _ ?_;clear hK K) | (refine W_ret ?_;(refine qG ?_;try exact True.intro))))
end Go.Proofs.YtjmpajgjaefcjaaGreat.Vm
namespace Go.Proofs.YtjmpajgjaefcjaaGreat.Vm
open Go Go.RowKit
set_option maxRecDepth 100000
set_option linter.unusedVariables false
set_option linter.unusedSimpArgs false
end Go.Proofs.YtjmpajgjaefcjaaGreat.Vm
namespace Go.Proofs.YtjmpajgjaefcjaaGreat.Vm
open Go Go.RowKit
set_option maxRecDepth 100000
set_option linter.unusedVariables false
set_option linter.unusedSimpArgs false
end Go.Proofs.YtjmpajgjaefcjaaGreat.Vm
namespace Go.Proofs.YtjmpajgjaefcjaaGreat.Vm
open Go Go.RowKit
set_option maxRecDepth 100000
set_option linter.unusedVariables false
set_option linter.unusedSimpArgs false
theorem ev2_same {x y : Int → Rat} : ∀ {f : List (Int × Rat)},(∀ p ∈ f,x p.1 = y p.1) → ev2 x f = ev2 y f
 | [],_ => rfl
 | p::f,h => by
  simp only [ev2]
  rw [h p List.mem_cons_self,ev2_same fun q hq => h q (List.mem_cons_of_mem _ hq)]
theorem mul_den (q : Rat) : q * (q.den : Rat) = (q.num : Rat) := by
 have h0 : (q.den : Rat) ≠ 0 := fun h => by
  rw [show (0 : Rat) = ((0 : Nat) : Rat) from rfl,Rat.natCast_inj] at h
  exact q.den_nz h
 have h : q = (q.num : Rat) / (q.den : Rat) := by
  have := Rat.mkRat_self q
  rw [Rat.mkRat_eq_div] at this
  simpa using this.symm
 calc q * (q.den : Rat) = (q.num : Rat) / (q.den : Rat) * (q.den : Rat) := by rw [← h]
  _ = _ := Rat.div_mul_cancel h0
def Ht (D m : Nat) (q : Rat) : Prop := ∃ k : Int,q * (D : Rat) = (k : Rat) ∧ k.natAbs ≤ m
theorem Ht.zero (D m : Nat) : Ht D m 0 := ⟨0,by simp,by simp⟩
theorem Ht.mono {D m m' : Nat} {q : Rat} (h : Ht D m q) (hm : m ≤ m') : Ht D m' q := by
 obtain ⟨k,h1,h2⟩ := h
 exact ⟨k,h1,by omega⟩
theorem Ht.add {D m m' : Nat} {q r : Rat} (h : Ht D m q) (h' : Ht D m' r) : Ht D (m + m') (q + r) := by
 obtain ⟨k,h1,h2⟩ := h
 obtain ⟨l,h3,h4⟩ := h'
 exact ⟨k + l,by rw [Rat.add_mul,h1,h3];simp,by omega⟩
theorem Ht.neg {D m : Nat} {q : Rat} (h : Ht D m q) : Ht D m (-q) := by
 obtain ⟨k,h1,h2⟩ := h
 exact ⟨-k,by rw [Rat.neg_mul,h1];simp,by omega⟩
theorem Ht.sub {D m m' : Nat} {q r : Rat} (h : Ht D m q) (h' : Ht D m' r) : Ht D (m + m') (q - r) := by
 rw [Rat.sub_eq_add_neg]
 exact h.add h'.neg
theorem Ht.mul {D E m m' : Nat} {q r : Rat} (h : Ht D m q) (h' : Ht E m' r) : Ht (D * E) (m * m') (q * r) := by
 obtain ⟨k,h1,h2⟩ := h
 obtain ⟨l,h3,h4⟩ := h'
 refine ⟨k * l,?_,by rw [Int.natAbs_mul];exact Nat.mul_le_mul h2 h4⟩
 have : q * r * ((D * E : Nat) : Rat) = (q * (D : Rat)) * (r * (E : Rat)) := by
  rw [Rat.natCast_mul];grind
 rw [this,h1,h3,Rat.intCast_mul]
theorem Ht.wide {D m : Nat} {q : Rat} (h : Ht D m q) (E : Nat) : Ht (D * E) (m * E) q := by
 obtain ⟨k,h1,h2⟩ := h
 refine ⟨k * E,?_,by rw [Int.natAbs_mul];exact Nat.mul_le_mul h2 (by simp)⟩
 rw [Rat.natCast_mul,← Rat.mul_assoc,h1,Rat.intCast_mul]
 rfl
theorem Ht.wide' {D m : Nat} {q : Rat} (h : Ht D m q) (E : Nat) : Ht (E * D) (E * m) q := by
 rw [Nat.mul_comm E D,Nat.mul_comm E m]
 exact h.wide E
theorem Ht.H {D m : Nat} {q : Rat} (h : Ht D m q) (hD : 0 < D) : Vm.H q ≤ m + D := by
 obtain ⟨k,h1,h2⟩ := h
 have h0 : (D : Rat) ≠ 0 := fun h => by
  rw [show (0 : Rat) = ((0 : Nat) : Rat) from rfl,Rat.natCast_inj] at h
  omega
 have : q = mkRat k D := by
  rw [Rat.mkRat_eq_div,← h1]
  have := Rat.mul_div_cancel (a := q) h0
  simpa using this.symm
 rw [this]
 exact Nat.le_trans (H_mkRat _ (by omega)) (by omega)
theorem Ht.nb {D m k : Nat} {q : Rat} (h : Ht D m q) (hD : 0 < D) (h1 : D < 2 ^ k) (h2 : m < 2 ^ k) : Vm.nb q ≤ k + 1 := by
 refine nb_le (Nat.lt_of_le_of_lt (h.H hD) ?_)
 rw [Nat.pow_succ]
 omega
theorem Ht.self (q : Rat) : Ht q.den (Vm.H q) q := ⟨q.num,mul_den q,by unfold Vm.H;omega⟩
def dnf : List (Int × Rat) → Nat
 | [] => 1
 | p::f => p.2.den * dnf f
def htf : List (Int × Rat) → Nat
 | [] => 1
 | p::f => Vm.H p.2 * htf f
theorem dnf_pos : ∀ f,0 < dnf f
 | [] => by simp [dnf]
 | p::f => Nat.mul_pos p.2.den_pos (dnf_pos f)
theorem dnf_le : ∀ f,dnf f ≤ htf f
 | [] => by simp [dnf,htf]
 | p::f => Nat.mul_le_mul (by unfold Vm.H;omega) (dnf_le f)
theorem htf_lt : ∀ f,htf f < 2 ^ (nbs f + 1)
 | [] => by simp [htf,nbs]
 | p::f => by
  have h1 := H_lt p.2
  have h2 := htf_lt f
  simp only [htf,nbs]
  rw [Nat.add_assoc,Nat.pow_add]
  exact Nat.mul_lt_mul_of_lt_of_le h1 (Nat.le_of_lt h2) (Nat.pow_pos (by omega))
theorem Ht.ev {x : Int → Rat} {E m : Nat} : ∀ (f : List (Int × Rat)),(∀ p ∈ f,Ht E m (x p.1)) → Ht (dnf f * E) (htf f * m) (ev2 x f)
 | [],_ => Ht.zero _ _
 | p::f,h => by
  have ih := Ht.ev f fun q hq => h q (List.mem_cons_of_mem _ hq)
  obtain ⟨k,h1,h2⟩ := h p List.mem_cons_self
  obtain ⟨l,h3,h4⟩ := ih
  have h5 : p.2 * (p.2.den : Rat) = (p.2.num : Rat) := mul_den _
  refine ⟨p.2.num * (dnf f : Int) * k + p.2.den * l,?_,?_⟩
  ·simp only [ev2,dnf]
   rw [Rat.natCast_mul] at h3
   rw [Rat.natCast_mul,Rat.natCast_mul,Rat.intCast_add,Rat.intCast_mul,Rat.intCast_mul,Rat.intCast_mul,← h1,← h3,← h5]
   simp only [Rat.intCast_natCast]
   grind
  ·refine Nat.le_trans (natAbs_add_le _ _) ?_
   rw [Int.natAbs_mul,Int.natAbs_mul,Int.natAbs_mul,Int.natAbs_natCast,Int.natAbs_natCast]
   simp only [htf]
   have h6 : p.2.num.natAbs * dnf f * k.natAbs ≤ p.2.num.natAbs * htf f * m := Nat.mul_le_mul (Nat.mul_le_mul_left _ (dnf_le f)) h2
   have h7 : p.2.den * l.natAbs ≤ p.2.den * (htf f * m) := Nat.mul_le_mul_left _ h4
   have h8 : Vm.H p.2 * htf f * m = p.2.num.natAbs * htf f * m + p.2.den * (htf f * m) := by
    unfold Vm.H
    rw [Nat.add_mul,Nat.add_mul,Nat.mul_assoc p.2.den]
   omega
def dnM : TM → Nat
 | [] => 1
 | r::M => dnf r.2 * dnM M
def htM : TM → Nat
 | [] => 1
 | r::M => htf r.2 * htM M
theorem dnM_pos : ∀ M,0 < dnM M
 | [] => by simp [dnM]
 | r::M => Nat.mul_pos (dnf_pos _) (dnM_pos M)
theorem dnM_le : ∀ M,dnM M ≤ htM M
 | [] => by simp [dnM,htM]
 | r::M => Nat.mul_le_mul (dnf_le _) (dnM_le M)
theorem htM_lt : ∀ M,htM M < 2 ^ (tb M + 1)
 | [] => by simp [htM,tb]
 | r::M => by
  have h1 := htf_lt r.2
  have h2 := htM_lt M
  have h3 : tb (r::M) = nbs r.2 + 1 + tb M := by simp only [tb];try omega
  simp only [htM]
  rw [h3,Nat.add_assoc (nbs r.2 + 1),Nat.pow_add]
  exact Nat.mul_lt_mul_of_lt_of_le h1 (Nat.le_of_lt h2) (Nat.pow_pos (by omega))
theorem Ht.ofM {q : Rat} {E m : Nat} {r : Int × List (Int × Rat)} : ∀ {M : TM},r ∈ M → Ht (dnf r.2 * E) (htf r.2 * m) q → Ht (dnM M * E) (htM M * m) q
 | [],h,_ => by cases h
 | s::M,h,hq => by
  simp only [dnM,htM]
  rcases List.mem_cons.1 h with rfl | h
  ·have h1 := hq.wide (dnM M)
   rw [Nat.mul_right_comm (dnf r.2) E,Nat.mul_right_comm (htf r.2) m] at h1
   exact h1.mono (Nat.mul_le_mul_right _ (Nat.mul_le_mul_left _ (dnM_le M)))
  ·have h1 := (Ht.ofM h hq).wide' (dnf s.2)
   rw [← Nat.mul_assoc,← Nat.mul_assoc] at h1
   exact h1.mono (Nat.mul_le_mul_right _ (Nat.mul_le_mul_right _ (dnf_le _)))
theorem coef_ev2 (v : Int) : ∀ f : List (Int × Rat),coef f v = ev2 (fun w => if w = v then 1 else 0) f
 | [] => rfl
 | p::f => by
  rw [coef,ev2,coef_ev2 v f]
  congr 1
  split <;> simp [Rat.mul_one,Rat.mul_zero]
theorem Ht.one (m : Nat) (h : 1 ≤ m) : Ht 1 m 1 := ⟨1,by simp,by simpa using h⟩
theorem Ht.coef (f : List (Int × Rat)) (v : Int) : Ht (dnf f) (htf f) (Vm.coef f v) := by
 rw [coef_ev2]
 have := Ht.ev (x := fun w => if w = v then 1 else 0) (E := 1) (m := 1) f fun p _ => by
  split
  ·exact Ht.one 1 (Nat.le_refl _)
  ·exact Ht.zero _ _
 simpa using this
def putX (M : TM) (x b : Int) : Rat := match lookM M b with | some g => Vm.coef g x | none => if b = x then 1 else 0
theorem ev2_add (x y : Int → Rat) : ∀ f : List (Int × Rat),ev2 (fun v => x v + y v) f = ev2 x f + ev2 y f
 | [] => by simp [ev2,Rat.add_zero]
 | p::f => by simp only [ev2];rw [ev2_add x y f];grind
theorem ev2_zero : ∀ (x : Int → Rat) (f : List (Int × Rat)),(∀ p ∈ f,x p.1 = 0) → ev2 x f = 0
 | x,[],_ => rfl
 | x,p::f,h => by simp only [ev2];rw [ev2_zero x f fun q hq => h q (List.mem_cons_of_mem _ hq),h p List.mem_cons_self];grind
theorem ev2_mul (x : Int → Rat) (c : Rat) : ∀ f : List (Int × Rat),ev2 (fun v => x v * c) f = ev2 x f * c
 | [] => by simp [ev2]
 | p::f => by simp only [ev2];rw [ev2_mul x c f];grind
theorem sumM_ev (f : List (Int × Rat)) (x : Int) : ∀ M : TM,(keys M).Nodup → sumM (Vm.coef f) x M = ev2 (fun b => match lookM M b with | some g => Vm.coef g x | none => 0) f
 | [],_ => by
  rw [ev2_zero]
  ·rfl
  ·intro p _;simp [lookM]
 | r::M,hn => by
  simp only [keys,List.map_cons,List.nodup_cons] at hn
  rw [sumM,sumM_ev f x M hn.2,coef_ev2,← ev2_mul,← ev2_add]
  refine ev2_same fun p _ => ?_
  have hl : lookM (r::M) p.1 = if r.1 = p.1 then some r.2 else lookM M p.1 := by
   unfold lookM
   rw [List.find?_cons]
   by_cases h : r.1 = p.1
   ·rw [if_pos h,h];simp
   ·have h' : (r.1 == p.1) = false := by simpa using h
    rw [if_neg h,h']
  rw [hl]
  by_cases h : r.1 = p.1
  ·rw [if_pos h,if_pos h.symm]
   have : lookM M p.1 = none := look_none (by rw [← h];exact hn.1)
   rw [this]
   dsimp only
   grind
  ·rw [if_neg h,if_neg (Ne.symm h)]
   grind
theorem coef_exprT {n : Int} {M : TM} (hg : GT n M) (f : List (Int × Rat)) (x : Int) : Vm.coef (exprT M f) x = ev2 (putX M x) f := by
 rw [show Vm.coef (exprT M f) x = _ from (exprP_ok hg f).co x,sumM_ev f x M hg.nodup]
 have h1 : (if x ∈ keys M then 0 else Vm.coef f x) = ev2 (fun b => if x ∈ keys M then 0 else if b = x then 1 else 0) f := by
  split
  ·rw [ev2_zero];intro p _;rfl
  ·exact coef_ev2 x f
 rw [h1,← ev2_add]
 refine ev2_same fun p _ => ?_
 unfold putX
 cases hl : lookM M p.1 with
 | some g =>
  have hk := look_mem_keys hl
  dsimp only
  by_cases hx : x ∈ keys M
  ·rw [if_pos hx,Rat.zero_add]
  ·rw [if_neg hx,if_neg (fun he : p.1 = x => hx (he ▸ hk)),Rat.zero_add]
 | none =>
  dsimp only
  have hk : p.1 ∉ keys M := fun hk => by
   obtain ⟨r,hr,he⟩ := List.mem_map.1 hk
   rw [← he,look_of hg.nodup (g := r.2) hr] at hl
   cases hl
  rw [Rat.add_zero]
  by_cases hx : x ∈ keys M
  ·rw [if_pos hx,if_neg (fun he : p.1 = x => hk (he ▸ hx))]
  ·rw [if_neg hx]
theorem Ht.expr {n : Int} {M : TM} (hg : GT n M) (f : List (Int × Rat)) (x : Int) : Ht (dnf f * dnM M) (htf f * htM M) (Vm.coef (exprT M f) x) := by
 rw [coef_exprT hg]
 refine Ht.ev f fun p _ => ?_
 unfold putX
 split
 ·rename_i g hl
  have := Ht.ofM (E := 1) (m := 1) (look_mem hl) (by have := Ht.coef g x;simpa using this)
  simpa using this
 ·split
  ·have := (Ht.one 1 (Nat.le_refl _)).wide' (dnM M)
   rw [Nat.mul_one] at this
   exact this.mono (by have := dnM_le M;omega)
  ·exact Ht.zero _ _
def keptD (M : TM) (ds : List DD) : List DD := (extL M ds).map dq
theorem tab_kept (l : List (Rat × Rat)) : tab cellsX l = tab rowD (l.map dq) := by simp [tab,cellsX,rowD]
theorem keptD_len (M : TM) (ds : List DD) : (keptD M ds).length = ds.length := by simp [keptD,extL_len]
def asgP (pr : Rat × Rat → Rat) (ds : List DD) : Int → Rat := asg (ds.map fun d => pr d.v)
theorem asgP_in (pr : Rat × Rat → Rat) (ds : List DD) {v : Int} (h0 : 0 ≤ v) (h1 : v < (ds.length : Int)) : asgP pr ds v = pr (ds.getD v.toNat default).v := by
 unfold asgP asg
 rw [if_pos h0]
 have h2 : v.toNat < ds.length := by omega
 simp [List.getD_eq_getElem?_getD,h2]
theorem asgP_out (pr : Rat × Rat → Rat) (ds : List DD) {v : Int} (h : ¬ (0 ≤ v ∧ v < (ds.length : Int))) : asgP pr ds v = 0 := by
 unfold asgP asg
 split
 ·rw [List.getD_eq_getElem?_getD,List.getElem?_eq_none (by rw [List.length_map];omega)];rfl
 ·rfl
theorem kept_getD (M : TM) (ds : List DD) {i : Nat} (h : i < ds.length) : (keptD M ds).getD i default = dq (extR M ds i) := by
 simp [keptD,extL,List.getD_eq_getElem?_getD,h]
theorem kept_free (pr : Rat × Rat → Rat) {M : TM} (ds : List DD) {v : Int} (hv : v ∉ keys M) : asgP pr (keptD M ds) v = asgP pr ds v := by
 by_cases h : 0 ≤ v ∧ v < (ds.length : Int)
 ·rw [asgP_in pr _ h.1 (by rw [keptD_len];exact h.2),asgP_in pr _ h.1 h.2,kept_getD M ds (by omega),dq_v]
  unfold extR
  rw [show ((v.toNat : Nat) : Int) = v by omega,look_none hv]
 ·rw [asgP_out pr _ (by rw [keptD_len];exact h),asgP_out pr _ h]
theorem kept_basic (pr : Rat × Rat → Rat) {M : TM} {ds : List DD} (hg : GT (ds.length : Int) M) {r : Int × List (Int × Rat)} (hr : r ∈ M) : asgP pr (keptD M ds) r.1 = pr (evd ds r.2) := by
 have hb := hg.range r.1 (List.mem_map.2 ⟨r,hr,rfl⟩)
 rw [asgP_in pr _ hb.1 (by rw [keptD_len];exact hb.2),kept_getD M ds (by omega),dq_v]
 unfold extR
 rw [show ((r.1.toNat : Nat) : Int) = r.1 by omega,look_of hg.nodup (g := r.2) hr]
def lift0 (xs : List Rat) : List (Int × Rat) := xs.map fun x => (0,x)
theorem nbs_lift : ∀ xs : List Rat,nbs (lift0 xs) = nbl xs
 | [] => rfl
 | x::xs => by show nb x + nbs (lift0 xs) = _;rw [nbs_lift xs];rfl
theorem Ht.mem {p : Int × Rat} : ∀ {f : List (Int × Rat)},p ∈ f → Ht (dnf f) (htf f) p.2
 | [],h => by cases h
 | q::f,h => by
  simp only [dnf,htf]
  rcases List.mem_cons.1 h with rfl | h
  ·exact ((Ht.self p.2).wide (dnf f)).mono (Nat.mul_le_mul_left _ (dnf_le f))
  ·exact ((Ht.mem h).wide' q.2.den).mono (Nat.mul_le_mul_right _ (by unfold Vm.H;omega))
theorem Ht.asg (xs : List Rat) (v : Int) : Ht (dnf (lift0 xs)) (htf (lift0 xs)) (Vm.asg xs v) := by
 unfold Vm.asg
 split
 ·by_cases h : v.toNat < xs.length
  ·exact Ht.mem (p := (0,xs.getD v.toNat 0)) (List.mem_map.2 ⟨_,by simp [List.getD_eq_getElem?_getD,h],rfl⟩)
  ·rw [List.getD_eq_getElem?_getD,List.getElem?_eq_none (by omega)]
   exact Ht.zero _ _
 ·exact Ht.zero _ _
theorem mul_lt_pow {a b j k : Nat} (h : a < 2 ^ j) (h' : b < 2 ^ k) : a * b < 2 ^ (j + k) := by
 rw [Nat.pow_add]
 exact Nat.mul_lt_mul_of_lt_of_le h (Nat.le_of_lt h') (Nat.pow_pos (by omega))
theorem dnf_lt (f : List (Int × Rat)) : dnf f < 2 ^ (nbs f + 1) := Nat.lt_of_le_of_lt (dnf_le f) (htf_lt f)
theorem dnM_lt (M : TM) : dnM M < 2 ^ (tb M + 1) := Nat.lt_of_le_of_lt (dnM_le M) (htM_lt M)
theorem Ht.kept {M : TM} {ds : List DD} (hg : GT (ds.length : Int) M) (pr : Rat × Rat → Rat) (hp : pr = Prod.fst ∨ pr = Prod.snd) (v : Int) :
  Ht (dnM M * dnf (lift0 (ds.map fun d => pr d.v))) (htM M * htf (lift0 (ds.map fun d => pr d.v))) (asgP pr (keptD M ds) v) := by
 by_cases hv : v ∈ keys M
 ·obtain ⟨r,hr,rfl⟩ := List.mem_map.1 hv
  rw [kept_basic pr hg hr]
  refine Ht.ofM hr ?_
  have : pr (evd ds r.2) = ev2 (asgP pr ds) r.2 := by rcases hp with rfl | rfl <;> rfl
  rw [this]
  exact Ht.ev r.2 fun p _ => Ht.asg _ _
 ·rw [kept_free pr ds hv]
  exact ((Ht.asg _ v).wide' (dnM M)).mono (Nat.mul_le_mul_right _ (dnM_le M))
theorem DsOk.half {ds : List DD} (h : DsOk ds) (pr : Rat × Rat → Rat) (hp : pr = Prod.fst ∨ pr = Prod.snd) : nbs (lift0 (ds.map fun d => pr d.v)) ≤ 67108864 := by
 rw [nbs_lift]
 rcases hp with rfl | rfl
 ·exact h.sa
 ·exact h.sb
theorem kept_nb {M : TM} {ds : List DD} (hg : GT (ds.length : Int) M) (hd : DsOk ds) (hM : tb M ≤ 68157440) (pr : Rat × Rat → Rat) (hp : pr = Prod.fst ∨ pr = Prod.snd) (v : Int) : nb (asgP pr (keptD M ds) v) ≤ 135266307 := by
 have h1 := hd.half pr hp
 refine Nat.le_trans ((Ht.kept hg pr hp v).nb (k := tb M + 1 + (nbs (lift0 (ds.map fun d => pr d.v)) + 1)) (Nat.mul_pos (dnM_pos _) (dnf_pos _)) (mul_lt_pow (dnM_lt _) (dnf_lt _)) (mul_lt_pow (htM_lt _) (htf_lt _))) (by omega)
end Go.Proofs.YtjmpajgjaefcjaaGreat.Vm
namespace Go.Proofs.YtjmpajgjaefcjaaGreat.Vm
open Go Go.RowKit
set_option maxRecDepth 100000
set_option linter.unusedVariables false
set_option linter.unusedSimpArgs false
end Go.Proofs.YtjmpajgjaefcjaaGreat.Vm
namespace Go.Proofs.YtjmpajgjaefcjaaGreat.Vm
open Go Go.RowKit
set_option maxRecDepth 100000
set_option linter.unusedVariables false
set_option linter.unusedSimpArgs false
theorem FormOk.pf {f : List (Int × RR)} (h : FormOk f) : PF f 68157441 := by
 have := h.sz
 exact (h.fok.pf (by omega)).mono (by omega)
theorem sortK_snoc {l : List Int} (hn : l.Nodup) {n : Int} (h : ∀ x ∈ l,x < n) : sortK (l ++ [n]) = sortK l ++ [n] := by
 refine sorted_ext ((sortK_perm _).trans ((sortK_perm l).symm.append_right [n])) (sortK_le _) ?_
 rw [List.pairwise_append]
 refine ⟨sortK_le l,by simp,fun a ha b hb => ?_⟩
 simp at hb
 subst hb
 have := h a (mem_sortK.1 ha)
 omega
theorem look_snoc {M : TM} {n b : Int} {g : List (Int × Rat)} (hb : b ∈ keys M) : lookM (M ++ [(n,g)]) b = lookM M b := by
 obtain ⟨j,h1,h2,h3,h4,h5⟩ := look_idx hb
 rw [h4]
 unfold lookM at h4 ⊢
 rw [List.find?_append]
 cases hf : M.find? fun r => r.1 == b with
 | none => rw [hf] at h4;cases h4
 | some r => rw [hf] at h4;simpa using h4
theorem sortM_snoc {M : TM} (hn : (keys M).Nodup) {n : Int} (h : ∀ x ∈ keys M,x < n) (g : List (Int × Rat)) : sortM (M ++ [(n,g)]) = sortM M ++ [(n,g)] := by
 unfold sortM
 rw [keys_append,show keys [(n,g)] = [n] from rfl,sortK_snoc hn h,List.map_append]
 congr 1
 ·refine List.map_congr_left fun b hb => ?_
  rw [look_snoc (mem_sortK.1 hb)]
 ·have hnn : n ∉ keys M := fun hm => by have := h n hm;omega
  have hnd : (keys (M ++ [(n,g)])).Nodup := by
   rw [keys_append,List.nodup_append]
   refine ⟨hn,by simp [keys],?_⟩
   rintro a ha b hb rfl
   simp [keys] at hb
   subst hb
   exact hnn ha
  simp only [List.map_cons,List.map_nil]
  rw [look_of hnd (g := g) (by simp)]
  rfl
end Go.Proofs.YtjmpajgjaefcjaaGreat.Vm
