/-
  The law TableauOnly holds of the given program, for all arguments of bulk at most 1048576: no further conditions.
-/
import Derived.Test.YtjmpajgjaefcjaaGreatOnly7
import Derived.Orders
import Derived.Below
import Derived.Laws.AppendOwn
import Derived.Laws.MakeOwn
import Derived.Laws.CopyRow
import Derived.Laws.Rows
import Derived.Laws.Cells
import Derived.Tactics
import Derived.Laws.BitsLemmas
import Derived.Maps.Range
import Derived.Carry
import Derived.Test.YtjmpajgjaefcjaaGreatProg
import Derived.Sort.Row
import Derived.Sort.Grow
import Derived.Shelf.Sort.Plain
import Derived.Shelf.Slices.In.SortNone
import Derived.Ground.NamesProg
import Derived.Test.YtjmpajgjaefcjaaGreatRows
import Derived.WalkKit
import Derived.ProofKit
import Derived.OpenShut
import Derived.JoinedCond

namespace Go.Proofs.YtjmpajgjaefcjaaGreat.Vm
open Go Go.RowKit
set_option maxRecDepth 100000
set_option linter.unusedVariables false
set_option linter.unusedSimpArgs false
theorem sUf {G G' : Prop} (h : G') (e : G = G' := by conv => lhs;simp (disch := omega) only [rowsOf,cNat,cN,St.ret,St.seth,Eff.app,Eff.wi,sepL,guardOf,St.known,objOf,List.set,sliceW,litW,copyW,lenOf,bnd,mxOk,ofCells,TI.isAgg,cellsOf,storable,AV.one,dead,laid,overlay,reduceCtorEq,Int.reduceLE,Int.reduceLT,Int.reduceSub,Int.reduceAdd,Nat.reduceMul,Int.reduceToNat,Nat.reducePow,Int.reduceNeg,Nat.reduceAdd,Nat.reduceLT,Nat.reduceLeDiff,sA,sB,Nat.reduceEqDiff,cQ,rowQ,rowU,rowT,rowM,i64s_getD,i64s_length,i64s_all,tab_length,tab_drop,tab_take,tab_append,tab_nil,rowT_all,rowT_one,rowT_pure,rowU_all,rowU_one,rowU_pure,rowQ_all,rowQ_one,rowQ_pure,rowM_all,rowM_one,rowM_pure,List.take_length,List.length_append,sT]) : G := e.mpr h
theorem sUfX {G G' P : Prop} (p : P) (h : G') (e : P → G = G' := by intro p;conv => lhs;simp (disch := omega) only [rowsOf,cNat,cN,St.ret,St.seth,Eff.app,Eff.wi,sepL,guardOf,St.known,objOf,List.set,sliceW,litW,copyW,lenOf,bnd,mxOk,ofCells,TI.isAgg,cellsOf,storable,AV.one,dead,laid,overlay,reduceCtorEq,Int.reduceLE,Int.reduceLT,Int.reduceSub,Int.reduceAdd,Nat.reduceMul,Int.reduceToNat,Nat.reducePow,Int.reduceNeg,Nat.reduceAdd,Nat.reduceLT,Nat.reduceLeDiff,sA,sB,Nat.reduceEqDiff,cQ,rowQ,rowU,rowT,rowM,i64s_getD,i64s_length,i64s_all,tab_length,tab_drop,tab_take,tab_append,tab_nil,rowT_all,rowT_one,rowT_pure,rowU_all,rowU_one,rowU_pure,rowQ_all,rowQ_one,rowQ_pure,rowM_all,rowM_one,rowM_pure,List.take_length,List.length_append,sT,p]) : G := (e p).mpr h
theorem sUfV {G G' : Prop} (h : G') (e : G = G' := by conv => lhs;simp (disch := omega) only [rowsOf,cNat,cN,St.ret,St.seth,Eff.app,Eff.wi,sepL,guardOf,St.known,objOf,List.set,sliceW,litW,copyW,lenOf,bnd,mxOk,ofCells,TI.isAgg,cellsOf,storable,AV.one,dead,laid,overlay,reduceCtorEq,Int.reduceLE,Int.reduceLT,Int.reduceSub,Int.reduceAdd,Nat.reduceMul,Int.reduceToNat,Nat.reducePow,Int.reduceNeg,Nat.reduceAdd,Nat.reduceLT,Nat.reduceLeDiff,sA,sB,Nat.reduceEqDiff,cQ,rowQ,rowU,rowT,rowM,i64s_getD,i64s_length,i64s_all,tab_length,tab_drop,tab_take,tab_append,tab_nil,rowT_all,rowT_one,rowT_pure,rowU_all,rowU_one,rowU_pure,rowQ_all,rowQ_one,rowQ_pure,rowM_all,rowM_one,rowM_pure,List.take_length,List.length_append,sT,view_sref,viewRef,view_agg,views_cons,views_nil,view_bool,view_int,view_sl,view_nils,view_str,view_tup,view_nilif]) : G := e.mpr h
theorem aUf {G G' : Prop} (h : G') (f : Wr G' → G := by intro h;(repeat (first|(refine W_seqV fun K hK => ?_;(try (refine sUf ?_;try exact True.intro));(repeat refine aI ?_);refine hK _ ?_;clear hK K)|(refine W_seqR fun K hK => ?_;(try (refine sUf ?_;try exact True.intro));(repeat refine aI ?_);refine hK _ ?_;clear hK K)|(refine W_seqD mixed [] (by kernel_rfl) fun K hK => ?_;(try (refine sUf ?_;try exact True.intro));(repeat refine aI ?_);refine hK _ ?_;clear hK K)));exact h.out) : G := f ⟨h⟩
theorem len_neI (n : Nat) : ((n : Int) != (n : Int)) = false := by simp
theorem int_neI (n : Int) : (n != n) = false := by simp
theorem bool_eqI (b : Bool) : (b == b) = true := by simp
theorem f1same_ok (l : List Nat) (h : l.length < 1099511627776) : Pure Tryz.prog 114 [.sl (u32s l),.sl (u32s l)] (· = .bool true) := by
 have hz := len_neI l.length
 (refine pureW Tryz.func114 rfl (rs := [Go.ResultVar.tmp 4]) rfl (n := 26) rfl ?_;simp only [List.length_cons,List.length_nil,List.replicate,List.cons_append,List.nil_append])
 (refine aUf ?_)
 refine W_seq ?_
 ((refine W_seqV ?_);intro K hK;(refine sUfX hz ?_))
 (refine hK _ ?_;clear hK K)
 (refine W_cf rfl ?_)
 refine W_skip ?_
 simp only [thenW]
 refine W_seq ?_
 ((refine W_seqV ?_);intro K hK;(refine sUf ?_))
 (refine hK _ ?_;clear hK K)
 refine W_block (W_loop (fun t : {t : Nat // t ≤ l.length} =>
   ⟨[.sl (u32s l),.sl (u32s l),.any,.any,.any,.int .i64 t.1,.any,.any,.any,.any,.any,.any,.any,.any,.any,.any,.any,.any,.any,.any,.any,.any,.any,.any,.any,.any],[.dead,.dead,.dead,.dead,.dead,.dead,.dead,.dead,.dead,.dead,.dead,.dead,.dead,.dead,.dead,.dead,.dead,.dead,.dead,.dead,.dead,.dead,.dead,.dead,.dead,.dead]⟩) (fun t => l.length - t.1)
   ⟨0,by omega⟩ (Le_of (by simp [leE]) (by simp)) fun t => ?_)
 obtain ⟨i,hi⟩ := t
 dsimp only
 by_cases hlt : i < l.length
 ·generalize hx : l.getD i 0 = x
  have hzx := len_neI x
  refine W_seq ?_
  ((refine W_seqV ?_);intro K hK;(refine sUfX hlt ?_))
  (refine hK _ ?_;clear hK K)
  (refine W_ct rfl ?_)
  refine W_skip ?_
  simp only [thenW]
  refine W_seq ?_
  refine W_block ?_
  ((refine W_seqD mixed [] (by kernel_rfl) ?_);intro K hK;(refine sUfX (And.intro hlt (And.intro hx hzx)) ?_))
  (refine hK _ ?_;clear hK K)
  (refine W_cf rfl ?_)
  refine W_skip ?_
  simp only [blockW,thenW]
  ((refine W_regV ?_);intro K hK;(refine sUf ?_))
  (refine hK _ ?_;clear hK K)
  simp only [blockW,thenW]
  refine ⟨⟨i + 1,by omega⟩,Le_drop (by simp [leE]) (by simp [leH]) rfl rfl,?_⟩
  dsimp only
  omega
 ·obtain rfl : i = l.length := by omega
  refine W_seq ?_
  ((refine W_seqV ?_);intro K hK;(refine sUf ?_))
  (refine hK _ ?_;clear hK K)
  (refine W_cf rfl ?_)
  refine W_exit ?_
  simp only [thenW,blockW,if_true]
  (repeat' (first | (refine W_seqV fun K hK => ?_;(try (refine sUf ?_));refine hK _ ?_;clear hK K) | (refine W_ret ?_;(refine qG ?_;try exact True.intro))))
theorem f3same_ok (r : RR) (h : r.ok) : Pure Tryz.prog 72 [r.av,r.av] (· = .bool true) := by
 have h1 := f1same_ok r.num (by have := h.nl;omega)
 have h2 := f1same_ok r.den (by have := h.dl;omega)
 have hb := bool_eqI r.neg
 obtain ⟨neg,n,d⟩ := r
 simp only [RR.av] at *
 (refine pureW Tryz.func72 rfl (rs := [Go.ResultVar.tmp 4]) rfl (n := 28) rfl ?_;simp only [List.length_cons,List.length_nil,List.replicate,List.cons_append,List.nil_append])
 (refine aUf ?_)
 ((refine W_seqV ?_);intro K hK;(refine sUfX hb ?_))
 (refine ⟨by kernel_rfl,_,.pure rfl (h1),?_⟩;(try (refine sUf ?_)))
 (refine ⟨by kernel_rfl,_,.pure rfl (h2),?_⟩;(try (refine sUf ?_)))
 (refine hK _ ?_;clear hK K)
 refine W_ret ?_
 (refine qG ?_;try exact True.intro);try (refine sUfV ?_;try exact True.intro)
theorem r7sameForm_ok (f : List (Int × RR)) (h : ∀ p ∈ f,p.2.ok) (hl : f.length < 1099511627776) : Pure Tryz.prog 27 [cF f,cF f] (· = .bool true) := by
 have hz := len_neI f.length
 have hs : ∀ i,i < f.length → Pure Tryz.prog 72 [(f.getD i default).2.av,(f.getD i default).2.av] (· = .bool true) := fun i hi => f3same_ok _ (h _ (getD_mem hi))
 simp only [cF,RR.av] at *
 (refine pureW Tryz.func27 rfl (rs := [Go.ResultVar.tmp 4]) rfl (n := 42) rfl ?_;simp only [List.length_cons,List.length_nil,List.replicate,List.cons_append,List.nil_append])
 (refine aUf ?_)
 ((refine W_seq (W_seqV ?_));intro K hK;(refine sUfX hz ?_))
 (refine hK _ ?_;clear hK K)
 (refine W_cf rfl ?_)
 refine W_skip ?_
 simp only [thenW]
 refine W_seq ?_
 ((refine W_seqV ?_);intro K hK;(refine sUf ?_))
 (refine hK _ ?_;clear hK K)
 refine W_block (W_loop (fun t : {t : Nat // t ≤ f.length} =>
   ⟨[.sl (tab rowM f),.sl (tab rowM f),.any,.any,.any,.int .i64 t.1,.any,.any,.any,.any,.any,.any,.any,.any,.any,.any,.any,.any,.any,.any,.any,.any,.any,.any,.any,.any,.any,.any,.any,.any,.any,.any,.any,.any,.any,.any,.any,.any,.any,.any,.any,.any],[.dead,.dead,.dead,.dead,.dead,.dead,.dead,.dead,.dead,.dead,.dead,.dead,.dead,.dead,.dead,.dead,.dead,.dead,.dead,.dead,.dead,.dead,.dead,.dead,.dead,.dead,.dead,.dead,.dead,.dead,.dead,.dead,.dead,.dead,.dead,.dead,.dead,.dead,.dead,.dead,.dead,.dead]⟩) (fun t => f.length - t.1)
   ⟨0,by omega⟩ (Le_of (by simp [leE]) (by simp)) fun t => ?_)
 obtain ⟨i,hi⟩ := t
 dsimp only
 by_cases hlt : i < f.length
 ·have hfi : (tab rowM f).getD i [] = rowM (f.getD i default) := tab_getD hlt
  have hsi := hs i hlt
  generalize f.getD i default = p at *
  obtain ⟨v,neg,n,d⟩ := p
  simp only [rowM] at hfi
  dsimp only at *
  have hzx := int_neI v
  refine W_seq ?_
  ((refine W_seqV ?_);intro K hK;(refine sUfX hlt ?_))
  (refine hK _ ?_;clear hK K)
  (refine W_ct rfl ?_)
  refine W_skip ?_
  simp only [thenW]
  refine W_seq ?_
  refine W_block ?_
  ((refine W_seqD mixed [] (by kernel_rfl) ?_);intro K hK;(refine sUfX (And.intro hlt (And.intro hfi hzx)) ?_))
  (refine ⟨by kernel_rfl,_,.pure rfl (hsi),?_⟩;(try (refine sUf ?_)))
  (refine hK _ ?_;clear hK K)
  (refine W_cf rfl ?_)
  refine W_skip ?_
  simp only [blockW,thenW]
  ((refine W_regV ?_);intro K hK;(refine sUf ?_))
  (refine hK _ ?_;clear hK K)
  simp only [blockW,thenW]
  refine ⟨⟨i + 1,by omega⟩,Le_drop (by simp [leE]) (by simp [leH]) rfl rfl,?_⟩
  dsimp only
  omega
 ·obtain rfl : i = f.length := by omega
  refine W_seq ?_
  ((refine W_seqV ?_);intro K hK;(refine sUf ?_))
  (refine hK _ ?_;clear hK K)
  (refine W_cf rfl ?_)
  refine W_exit ?_
  simp only [thenW,blockW,if_true]
  (repeat' (first | (refine W_seqV fun K hK => ?_;(try (refine sUf ?_));refine hK _ ?_;clear hK K) | (refine W_ret ?_;(refine qG ?_;try exact True.intro))))
structure TS (t : TR) : Prop where
 ok : ∀ r ∈ t,∀ p ∈ r.2,p.2.ok
 fl : ∀ r ∈ t,r.2.length < 1099511627776
 len : t.length < 1099511627776
theorem TOk.ts {t : TR} (h : TOk t) : TS t := ⟨h.ok,fun r hr => by have := nbs_len (vals r.2);have := h.nbs hr;rw [vals_length] at *;omega,by have := h.len;omega⟩
theorem r7alike_ok (n : Int) (t : TR) (h : TS t) : Pure Tryz.prog 65 [cT n t,cT n t] (· = .bool true) := by
 have hz := len_neI t.length
 have hzn := int_neI n
 have hlen := h.len
 have hs : ∀ i,i < t.length → Pure Tryz.prog 27 [cF (t.getD i default).2,cF (t.getD i default).2] (· = .bool true) := fun i hi => r7sameForm_ok _ (h.ok _ (getD_mem hi)) (h.fl _ (getD_mem hi))
 simp only [cF,cT] at *
 (refine pureW Tryz.func65 rfl (rs := [Go.ResultVar.tmp 4]) rfl (n := 56) rfl ?_;simp only [List.length_cons,List.length_nil,List.replicate,List.cons_append,List.nil_append])
 (refine aUf ?_)
 ((refine W_seq (W_seqV ?_));intro K hK;(refine sUfX (And.intro hz hzn) ?_))
 (refine hK _ ?_;clear hK K)
 (refine W_cf rfl ?_)
 refine W_skip ?_
 simp only [thenW]
 refine W_seq ?_
 ((refine W_seqV ?_);intro K hK;(refine sUf ?_))
 (refine hK _ ?_;clear hK K)
 refine W_block (W_loop (fun s : {i : Nat // i ≤ t.length} =>
   ⟨[.any,.any,.ptr 2 0 0,.ptr 3 0 0,.any,.int .i64 s.1,.any,.any,.any,.any,.any,.any,.any,.any,.any,.any,.any,.any,.any,.any,.any,.any,.any,.any,.any,.any,.any,.any,.any,.any,.any,.any,.any,.any,.any,.any,.any,.any,.any,.any,.any,.any,.any,.any,.any,.any,.any,.any,.any,.any,.any,.any,.any,.any,.any,.any],[.dead,.dead,.arr 24 2 false [[.int .i64 n,.sl (tab rowT t)]],.arr 24 2 false [[.int .i64 n,.sl (tab rowT t)]],.dead,.dead,.dead,.dead,.dead,.dead,.dead,.dead,.dead,.dead,.dead,.dead,.dead,.dead,.dead,.dead,.dead,.dead,.dead,.dead,.dead,.dead,.dead,.dead,.dead,.dead,.dead,.dead,.dead,.dead,.dead,.dead,.dead,.dead,.dead,.dead,.dead,.dead,.dead,.dead,.dead,.dead,.dead,.dead,.dead,.dead,.dead,.dead,.dead,.dead,.dead,.dead]⟩) (fun s => t.length - s.1)
   ⟨0,by omega⟩ (Le_drop (by simp [leE]) (by simp [leH]) rfl rfl) fun s => ?_)
 obtain ⟨i,hi⟩ := s
 dsimp only
 by_cases hlt : i < t.length
 ·have hti : (tab rowT t).getD i [] = rowT (t.getD i default) := tab_getD hlt
  have hsi := hs i hlt
  generalize t.getD i default = r at *
  obtain ⟨b,f⟩ := r
  simp only [rowT] at hti
  dsimp only at *
  have hzx := int_neI b
  refine W_seq ?_
  ((refine W_seqV ?_);intro K hK;(refine sUfX hlt ?_))
  (refine hK _ ?_;clear hK K)
  (refine W_ct rfl ?_)
  refine W_skip ?_
  simp only [thenW]
  refine W_seq ?_
  refine W_block ?_
  ((refine W_seqD mixed [] (by kernel_rfl) ?_);intro K hK;(refine sUfX (And.intro hlt (And.intro hti hzx)) ?_))
  (refine ⟨by kernel_rfl,_,.pure rfl (hsi),?_⟩;(try (refine sUf ?_)))
  (refine hK _ ?_;clear hK K)
  (refine W_cf rfl ?_)
  refine W_skip ?_
  simp only [blockW,thenW]
  ((refine W_regV ?_);intro K hK;(refine sUf ?_))
  (refine hK _ ?_;clear hK K)
  simp only [blockW,thenW]
  refine ⟨⟨i + 1,by omega⟩,Le_drop (by simp [leE]) (by simp [leH]) rfl rfl,?_⟩
  dsimp only
  omega
 ·obtain rfl : i = t.length := by omega
  refine W_seq ?_
  ((refine W_seqV ?_);intro K hK;(refine sUf ?_))
  (refine hK _ ?_;clear hK K)
  (refine W_cf rfl ?_)
  refine W_exit ?_
  simp only [thenW,blockW,if_true]
  (repeat' (first | (refine W_seqV fun K hK => ?_;(try (refine sUf ?_));refine hK _ ?_;clear hK K) | (refine W_ret ?_;(refine qG ?_;try exact True.intro))))
theorem lalike_ok (n : Int) (t : TR) (h : TS t) : Pure Tryz.prog 20 [cT n t,cT n t] (· = .bool true) := by
 have a := r7alike_ok n t h
 unfold cT at *
 (refine pureW Tryz.func20 rfl (rs := [Go.ResultVar.tmp 4]) rfl (n := 8) rfl ?_;simp only [List.length_cons,List.length_nil,List.replicate,List.cons_append,List.nil_append])
 (refine aUf ?_)
 ((refine W_seqV ?_);intro K hK;(refine sUf ?_))
 (refine ⟨by kernel_rfl,_,.pure rfl (a),?_⟩;(try (refine sUf ?_)))
 (refine hK _ ?_;clear hK K)
 refine W_ret ?_
 (refine qG ?_;try exact True.intro);try (refine sUfV ?_;try exact True.intro)
def rfT (M : TM) : TR := M.map fun r => (r.1,rf r.2)
theorem cU_rf (n : Int) (M : TM) : cT n (rfT M) = cU n M := by
 unfold cT cU rfT
 congr 4
 unfold tab
 rw [List.map_map]
 refine List.map_congr_left fun r _ => ?_
 simp only [Function.comp,rowT,rowU]
 rw [tab_rf]
theorem MOk.ts {M : TM} {B : Nat} (h : MOk M B) (hB : B < 17179869184) : TS (rfT M) := by
 refine ⟨fun r hr p hp => ?_,fun r hr => ?_,by simp only [rfT,List.length_map];exact h.len⟩
 ·obtain ⟨q,hq,rfl⟩ := List.mem_map.1 hr
  obtain ⟨x,hx,rfl⟩ := List.mem_map.1 hp
  have := (h.sz q hq).mem hx
  exact qr_ok (by omega)
 ·obtain ⟨q,hq,rfl⟩ := List.mem_map.1 hr
  have := (h.sz q hq).l
  simp only [rf,List.length_map]
  omega
theorem mnat_ok (l : List Nat) (h : l.length < 1099511627776) : Pure Tryz.prog 111 [.sl (u32s l)] (· = .sl (u32s l)) := by
 (refine pureW Tryz.func111 rfl (rs := [Go.ResultVar.tmp 2]) rfl (n := 19) rfl ?_;simp only [List.length_cons,List.length_nil,List.replicate,List.cons_append,List.nil_append])
 (refine aUf ?_)
 refine W.le ?_ (Le_nil 3 3 128 1 true rfl rfl)
 simp only [List.set]
 refine W_seq ?_
 ((refine W_seqV ?_);intro K hK;(refine sUf ?_))
 (refine hK _ ?_;clear hK K)
 refine W_block (W_loop (fun t : {t : Nat // t ≤ l.length} =>
   ⟨[.sl (u32s l),.any,.any,.sref 3 0 t.1,.int .i64 t.1,.any,.any,.any,.any,.any,.any,.any,.any,.any,.any,.any,.any,.any,.any],[.dead,.dead,.dead,.arr 128 1 true (u32s (l.take t.1)),.dead,.dead,.dead,.dead,.dead,.dead,.dead,.dead,.dead,.dead,.dead,.dead,.dead,.dead,.dead]⟩) (fun t => l.length - t.1)
   ⟨0,by omega⟩ (Le_drop (by simp [leE]) (by simp [leH,u32s]) rfl rfl) fun t => ?_)
 obtain ⟨i,hi⟩ := t
 dsimp only
 have htl : (l.take i).length = i := by rw [List.length_take];omega
 by_cases hlt : i < l.length
 ·have hst : l.take (i + 1) = l.take i ++ [l.getD i 0] := by
   rw [List.take_succ_eq_append_getElem hlt]
   simp [List.getD_eq_getElem?_getD,hlt]
  generalize hx : l.getD i 0 = x at *
  generalize hP : l.take i = P at *
  refine W_seq ?_
  ((refine W_seqV ?_);intro K hK;(refine sUfX hlt ?_))
  (refine hK _ ?_;clear hK K)
  (refine W_ct rfl ?_)
  refine W_skip ?_
  simp only [thenW]
  refine W_seq ?_
  refine W_block ?_
  refine W_regR fun K hK => ?_
  (refine sUfX (And.intro hx (And.intro hlt htl)) ?_;try exact True.intro)
  (repeat refine aI ?_)
  refine hK _ ?_
  clear hK K
  simp only [blockW,thenW]
  ((refine W_regV ?_);intro K hK;(refine sUf ?_))
  (refine hK _ ?_;clear hK K)
  simp only [blockW,thenW]
  refine ⟨⟨i + 1,by omega⟩,Le_drop (by simp [leE]) (by simp [leH,hst,u32s,List.take_of_length_le,htl]) rfl rfl,?_⟩
  dsimp only
  omega
 ·obtain rfl : i = l.length := by omega
  rw [List.take_length]
  refine W_seq ?_
  ((refine W_seqV ?_);intro K hK;(refine sUf ?_))
  (refine hK _ ?_;clear hK K)
  (refine W_cf rfl ?_)
  refine W_exit ?_
  simp only [thenW,blockW,if_true]
  (refine W.le ?_ (Le_freeze 3 (rows := u32s l) rfl (by simp) (.inl rfl));simp only [St.freeze,List.map_cons,List.map_nil,List.set,if_true,if_false,Nat.reduceEqDiff,reduceCtorEq,List.drop_zero,u32s_take,u32s_drop,froz_any,froz_und,froz_int,froz_bool,froz_str,froz_nils,froz_sl,froz_ia,froz_nilp,froz_nilif,froz_nilfn,froz_nilmp,froz_gl,froz_sref,froz_ptr,froz_agg,froz_tup,froz_fn,froz_ifc,frozs_nil,frozs_cons,froz_dead,froz_arr,froz_mp,froz_it,froz_md,froz_map,froz_iter])
  (repeat' (first | (refine W_seqV fun K hK => ?_;(try (refine sUf ?_));refine hK _ ?_;clear hK K) | (refine W_ret ?_;(refine qG ?_;try exact True.intro))))
theorem mint_ok (neg : Bool) (l : List Nat) (h : l.length < 1099511627776) : Pure Tryz.prog 110 [.agg [.bool neg,.sl (u32s l)]] (· = .agg [.bool neg,.sl (u32s l)]) := by
 have a := mnat_ok l h
 (refine pureW Tryz.func110 rfl (rs := [Go.ResultVar.cell 2 51]) rfl (n := 9) rfl ?_;simp only [List.length_cons,List.length_nil,List.replicate,List.cons_append,List.nil_append])
 (refine aUf ?_)
 ((refine W_seqS mixed 6 [] (by kernel_rfl) ?_);intro K hK;(refine sUf ?_))
 (refine ⟨by kernel_rfl,_,.pure rfl (a),?_⟩;(try (refine sUf ?_)))
 (refine hK _ ?_;clear hK K)
 refine W_ret ?_
 (refine qG ?_;try exact True.intro);try (refine sUfV ?_;try exact True.intro)
theorem mrat_ok (r : RR) (h : r.ok) : Pure Tryz.prog 68 [r.av] (· = r.av) := by
 have a1 := mint_ok r.neg r.num (by have := h.nl;omega)
 have a2 := mnat_ok r.den (by have := h.dl;omega)
 obtain ⟨neg,n,d⟩ := r
 simp only [RR.av] at *
 (refine pureW Tryz.func68 rfl (rs := [Go.ResultVar.cell 2 53]) rfl (n := 10) rfl ?_;simp only [List.length_cons,List.length_nil,List.replicate,List.cons_append,List.nil_append])
 (refine aUf ?_)
 ((refine W_seqS mixed 7 [] (by kernel_rfl) ?_);intro K hK;(refine sUf ?_))
 (refine ⟨by kernel_rfl,_,.pure rfl (a1),?_⟩;(try (refine sUf ?_)))
 (refine ⟨by kernel_rfl,_,.pure rfl (a2),?_⟩;(try (refine sUf ?_)))
 (refine hK _ ?_;clear hK K)
 refine W_ret ?_
 (refine qG ?_;try exact True.intro);try (refine sUfV ?_;try exact True.intro)
theorem mform_ok (f : List (Int × RR)) (h : ∀ p ∈ f,p.2.ok) (hl : f.length < 1099511627776) : Pure Tryz.prog 22 [cF f] (· = cF f) := by
 have hs : ∀ i,i < f.length → Pure Tryz.prog 68 [(f.getD i default).2.av] (· = (f.getD i default).2.av) := fun i hi => mrat_ok _ (h _ (getD_mem hi))
 have hst : ∀ i,i < f.length → f.take (i + 1) = f.take i ++ [f.getD i default] := fun i hi => take_snoc hi
 simp only [cF,RR.av] at *
 (refine pureW Tryz.func22 rfl (rs := [Go.ResultVar.tmp 2]) rfl (n := 27) rfl ?_;simp only [List.length_cons,List.length_nil,List.replicate,List.cons_append,List.nil_append])
 (refine aUf ?_)
 refine W.le ?_ (Le_nil 3 3 55 4 true rfl rfl)
 simp only [List.set]
 refine W_seq ?_
 ((refine W_seqV ?_);intro K hK;(refine sUf ?_))
 (refine hK _ ?_;clear hK K)
 refine W_block (W_loop (fun t : {t : Nat // t ≤ f.length} =>
   ⟨[.sl (tab rowM f),.any,.any,.sref 3 0 t.1,.int .i64 t.1,.any,.any,.any,.any,.any,.any,.any,.any,.any,.any,.any,.any,.any,.any,.any,.any,.any,.any,.any,.any,.any,.any],[.dead,.dead,.dead,.arr 55 4 true (tab rowM (f.take t.1)),.dead,.dead,.dead,.dead,.dead,.dead,.dead,.dead,.dead,.dead,.dead,.dead,.dead,.dead,.dead,.dead,.dead,.dead,.dead,.dead,.dead,.dead,.dead]⟩) (fun t => f.length - t.1)
   ⟨0,by omega⟩ (Le_drop (by simp [leE]) (by simp [leH,tab]) rfl rfl) fun t => ?_)
 obtain ⟨i,hi⟩ := t
 dsimp only
 have htl : (f.take i).length = i := by rw [List.length_take];omega
 by_cases hlt : i < f.length
 ·have hfi : (tab rowM f).getD i [] = rowM (f.getD i default) := tab_getD hlt
  have hsi := hs i hlt
  have hsti := hst i hlt
  generalize f.getD i default = p at *
  obtain ⟨v,neg,n,d⟩ := p
  simp only [rowM] at hfi
  dsimp only at *
  generalize f.take i = P at *
  refine W_seq ?_
  ((refine W_seqV ?_);intro K hK;(refine sUfX hlt ?_))
  (refine hK _ ?_;clear hK K)
  (refine W_ct rfl ?_)
  refine W_skip ?_
  simp only [thenW]
  refine W_seq ?_
  refine W_block ?_
  ((refine W_regS mixed 14 [] (by kernel_rfl) ?_);intro K hK;(refine sUfX (And.intro hlt hfi) ?_))
  (refine ⟨by kernel_rfl,_,.pure rfl (hsi),?_⟩;(try (refine sUf ?_));(repeat refine aI ?_))
  (refine hK _ ?_;clear hK K)
  simp only [blockW,thenW]
  ((refine W_regV ?_);intro K hK;(refine sUf ?_))
  (refine hK _ ?_;clear hK K)
  simp only [blockW,thenW]
  refine ⟨⟨i + 1,by omega⟩,Le_drop (by simp [leE]) (by simp [leH,hsti,← tab_snoc,rowM,tab_take,List.take_of_length_le,htl]) rfl rfl,?_⟩
  dsimp only
  omega
 ·obtain rfl : i = f.length := by omega
  rw [List.take_length]
  refine W_seq ?_
  ((refine W_seqV ?_);intro K hK;(refine sUf ?_))
  (refine hK _ ?_;clear hK K)
  (refine W_cf rfl ?_)
  refine W_exit ?_
  simp only [thenW,blockW,if_true]
  (refine W.le ?_ (Le_freeze 3 (rows := tab rowM f) rfl (by simp) (.inl rfl));simp only [St.freeze,List.map_cons,List.map_nil,List.set,if_true,if_false,Nat.reduceEqDiff,reduceCtorEq,List.drop_zero,u32s_take,u32s_drop,froz_any,froz_und,froz_int,froz_bool,froz_str,froz_nils,froz_sl,froz_ia,froz_nilp,froz_nilif,froz_nilfn,froz_nilmp,froz_gl,froz_sref,froz_ptr,froz_agg,froz_tup,froz_fn,froz_ifc,frozs_nil,frozs_cons,froz_dead,froz_arr,froz_mp,froz_it,froz_md,froz_map,froz_iter])
  (repeat' (first | (refine W_seqV fun K hK => ?_;(try (refine sUf ?_));refine hK _ ?_;clear hK K) | (refine W_ret ?_;(refine qG ?_;try exact True.intro))))
theorem ltwin_ok (n : Int) (t : TR) (h : TS t) : Pure Tryz.prog 18 [cT n t] (· = cT n t) := by
 have hlen := h.len
 have hs : ∀ i,i < t.length → Pure Tryz.prog 22 [cF (t.getD i default).2] (· = cF (t.getD i default).2) := fun i hi => mform_ok _ (h.ok _ (getD_mem hi)) (h.fl _ (getD_mem hi))
 have hst : ∀ i,i < t.length → t.take (i + 1) = t.take i ++ [t.getD i default] := fun i hi => take_snoc hi
 simp only [cF,cT] at *
 (refine pureW Tryz.func18 rfl (rs := [Go.ResultVar.cell 2 24]) rfl (n := 35) rfl ?_;simp only [List.length_cons,List.length_nil,List.replicate,List.cons_append,List.nil_append])
 (refine aUf ?_)
 refine W.le ?_ (Le_nilO 3 0 1 32 84 2 true rfl rfl rfl rfl)
 simp only [List.set]
 refine W_seq ?_
 ((refine W_seqV ?_);intro K hK;(refine sUf ?_))
 (refine hK _ ?_;clear hK K)
 refine W_block (W_loop (fun s : {i : Nat // i ≤ t.length} =>
   ⟨[.any,.ptr 1 0 0,.ptr 2 0 0,.ptr 3 0 0,.int .i64 s.1,.any,.any,.any,.any,.any,.any,.any,.any,.any,.any,.any,.any,.any,.any,.any,.any,.any,.any,.any,.any,.any,.any,.any,.any,.any,.any,.any,.any,.any,.any],[.dead,.arr 24 2 false [[.int .i64 n,.sl (tab rowT t)]],.arr 24 2 false [[.int .i64 0,.nils]],.arr 24 2 false [[.int .i64 n,.sref 32 0 s.1]],.dead,.dead,.dead,.dead,.dead,.dead,.dead,.dead,.dead,.dead,.dead,.dead,.dead,.dead,.dead,.dead,.dead,.dead,.dead,.dead,.dead,.dead,.dead,.dead,.dead,.dead,.dead,.dead,.arr 84 2 true (tab rowT (t.take s.1)),.dead,.dead]⟩) (fun s => t.length - s.1)
   ⟨0,by omega⟩ (Le_drop (by simp [leE]) (by simp [leH,tab]) rfl rfl) fun s => ?_)
 obtain ⟨i,hi⟩ := s
 dsimp only
 have htl : (t.take i).length = i := by rw [List.length_take];omega
 by_cases hlt : i < t.length
 ·have hti : (tab rowT t).getD i [] = rowT (t.getD i default) := tab_getD hlt
  have hsi := hs i hlt
  have hsti := hst i hlt
  generalize t.getD i default = r at *
  obtain ⟨b,f⟩ := r
  simp only [rowT] at hti
  dsimp only at *
  generalize t.take i = P at *
  refine W_seq ?_
  ((refine W_seqV ?_);intro K hK;(refine sUfX hlt ?_))
  (refine hK _ ?_;clear hK K)
  (refine W_ct rfl ?_)
  refine W_skip ?_
  simp only [thenW]
  refine W_seq ?_
  refine W_block ?_
  ((refine W_regS mixed 17 [] (by kernel_rfl) ?_);intro K hK;(refine sUfX (And.intro hlt hti) ?_))
  (refine ⟨by kernel_rfl,_,.pure rfl (hsi),?_⟩;(try (refine sUf ?_));(repeat refine aI ?_))
  (refine hK _ ?_;clear hK K)
  simp only [blockW,thenW]
  ((refine W_regV ?_);intro K hK;(refine sUf ?_))
  (refine hK _ ?_;clear hK K)
  simp only [blockW,thenW]
  refine ⟨⟨i + 1,by omega⟩,Le_drop (by simp [leE]) (by simp [leH,hsti,← tab_snoc,rowT,tab_take,List.take_of_length_le,htl]) rfl rfl,?_⟩
  dsimp only
  omega
 ·obtain rfl : i = t.length := by omega
  rw [List.take_length]
  refine W_seq ?_
  ((refine W_seqV ?_);intro K hK;(refine sUf ?_))
  (refine hK _ ?_;clear hK K)
  (refine W_cf rfl ?_)
  refine W_exit ?_
  simp only [thenW,blockW,if_true]
  (repeat' (first | (refine W_seqV fun K hK => ?_;(try (refine sUf ?_));refine hK _ ?_;clear hK K) | (refine W_ret ?_;(refine qG ?_))))
  (try (refine sUfV ?_;try exact True.intro))
theorem sUg {G G' : Prop} (h : G') (e : G = G' := by conv => lhs;simp (disch := omega) only [rowsOf,cNat,cN,St.ret,St.seth,Eff.app,Eff.wi,sepL,guardOf,St.known,objOf,List.set,sliceW,litW,copyW,lenOf,bnd,mxOk,ofCells,TI.isAgg,cellsOf,storable,AV.one,dead,laid,overlay,reduceCtorEq,Int.reduceLE,Int.reduceLT,Int.reduceSub,Int.reduceAdd,Nat.reduceMul,Int.reduceToNat,Nat.reducePow,Int.reduceNeg,Nat.reduceAdd,Nat.reduceLT,Nat.reduceLeDiff,sA,sB,Nat.reduceEqDiff,beq_self_eq_true,Int.reduceBEq,Int.reduceBNe,cQ,rowQ,rowU,rowT,rowM,i64s_getD,i64s_length,i64s_all,tab_length,tab_drop,tab_take,tab_append,tab_nil,rowT_all,rowT_one,rowT_pure,rowU_all,rowU_one,rowU_pure,rowQ_all,rowQ_one,rowQ_pure,rowM_all,rowM_one,rowM_pure,List.take_length,List.length_append,sT]) : G := e.mpr h
theorem sUgV {G G' : Prop} (h : G') (e : G = G' := by conv => lhs;simp (disch := omega) only [rowsOf,cNat,cN,St.ret,St.seth,Eff.app,Eff.wi,sepL,guardOf,St.known,objOf,List.set,sliceW,litW,copyW,lenOf,bnd,mxOk,ofCells,TI.isAgg,cellsOf,storable,AV.one,dead,laid,overlay,reduceCtorEq,Int.reduceLE,Int.reduceLT,Int.reduceSub,Int.reduceAdd,Nat.reduceMul,Int.reduceToNat,Nat.reducePow,Int.reduceNeg,Nat.reduceAdd,Nat.reduceLT,Nat.reduceLeDiff,sA,sB,Nat.reduceEqDiff,beq_self_eq_true,Int.reduceBEq,Int.reduceBNe,cQ,rowQ,rowU,rowT,rowM,i64s_getD,i64s_length,i64s_all,tab_length,tab_drop,tab_take,tab_append,tab_nil,rowT_all,rowT_one,rowT_pure,rowU_all,rowU_one,rowU_pure,rowQ_all,rowQ_one,rowQ_pure,rowM_all,rowM_one,rowM_pure,List.take_length,List.length_append,sT,view_sref,viewRef,view_agg,views_cons,views_nil,view_bool,view_int,view_sl,view_nils,view_str,view_tup,view_nilif]) : G := e.mpr h
theorem aUg {G G' : Prop} (h : G') (f : Wr G' → G := by intro h;(repeat (first|(refine W_seqV fun K hK => ?_;(try (refine sUg ?_;try exact True.intro));(repeat refine aI ?_);refine hK _ ?_;clear hK K)|(refine W_seqR fun K hK => ?_;(try (refine sUg ?_;try exact True.intro));(repeat refine aI ?_);refine hK _ ?_;clear hK K)|(refine W_seqD mixed [] (by kernel_rfl) fun K hK => ?_;(try (refine sUg ?_;try exact True.intro));(repeat refine aI ?_);refine hK _ ?_;clear hK K)));exact h.out) : G := f ⟨h⟩
theorem lmono_ok (v c : Int) (h1 : -9223372036854775808 ≤ c) (h2 : c < 9223372036854775808) : Pure Tryz.prog 69 [.int .i64 v,.int .i64 c] (· = .agg (rowQ (v,(c : Rat)))) := by
 have a := f3whole_ok c h1 h2
 simp only [rowQ,cQ] at *
 (refine pureW Tryz.func69 rfl (rs := [Go.ResultVar.cell 4 55]) rfl (n := 9) rfl ?_;simp only [List.length_cons,List.length_nil,List.replicate,List.cons_append,List.nil_append])
 (refine aUg ?_)
 ((refine W_seqV ?_);intro K hK;(refine sUg ?_))
 (refine ⟨by kernel_rfl,_,.pure rfl (a),?_⟩;(try (refine sUg ?_)))
 (refine hK _ ?_;clear hK K)
 refine W_ret ?_
 (refine qG ?_;try exact True.intro);try (refine sUgV ?_;try exact True.intro)
theorem norm01 : normF [(1,(1 : Rat)),(0,1)] = [(0,1),(1,1)] := by
 refine NF.ext (NF.norm _) (NF.cons (NF.cons NF.nil (by decide) (by simp)) (by decide) (by simp)) fun v => ?_
 rw [coef_norm]
 simp only [coef]
 grind
theorem expr_nil (f : List (Int × Rat)) : exprT [] f = normF f := by
 unfold exprT exprP
 have : ∀ (l : List Int) (h : List (Int × Rat)),l.foldl (fun h v => match lookM [] v with | some g => putF h v g | none => h) h = h := by
  intro l
  induction l with
  | nil => intro h;rfl
  | cons x l ih => intro h;rw [List.foldl_cons];exact ih h
 exact this _ _
theorem lives_ok : Pure Tryz.prog 24 [] (· = .bool true) := by
 have a1 := tnew_ok 2
 have e1 : newR 2 = .tup [.agg [.int .i64 2,.sl []],.int .i64 0] := rfl
 rw [e1] at a1
 have m11 := lmono_ok 1 1 (by omega) (by omega)
 have m01 := lmono_ok 0 1 (by omega) (by omega)
 have h1e : ((1 : Int) : Rat) = 1 := rfl
 rw [h1e] at m11 m01
 have hfo : FormOk (rf [(1,(1 : Rat)),(0,1)]) := by
  refine ⟨fun p hp => ?_,?_⟩
  ·obtain ⟨q,hq,rfl⟩ := List.mem_map.1 hp
   refine qr_ok ?_
   simp only [List.mem_cons,List.mem_nil_iff,or_false] at hq
   rcases hq with rfl | rfl <;> simp only [nb_one] <;> omega
  ·rw [vals_rf]
   simp only [nbs,nb_one]
   omega
 have hto : TOk [] := ⟨by simp,by simp [tb]⟩
 have a2 := tdefine_ok 2 [] (rf [(1,(1 : Rat)),(0,1)]) hto hfo
 have hg : goodB 2 [] = true := by decide
 have hn : nrmT [] = [] := rfl
 have e2 : defV 2 [] (rf [(1,(1 : Rat)),(0,1)]) = .tup [cU 3 [(2,[(0,1),(1,1)])],.int .i64 2,.int .i64 0] := by
  unfold defV
  rw [hn,hg,vals_rf,expr_nil,norm01]
  have hk : knownB 2 [(0,(1 : Rat)),(1,1)] = true := by simp [knownB,inR]
  rw [hk]
  simp only [if_true]
  rw [if_neg (by omega),sortM_snoc (by simp [keys]) (by simp [keys]),show sortM [] = [] by simp [sortM,sortK,keys]]
  rfl
 rw [e2] at a2
 have hts : TS (rfT [(2,[(0,(1 : Rat)),(1,1)])]) := by
  refine MOk.ts (B := 100) ⟨fun r hr => ?_,fun r hr => ?_,by simp⟩ (by omega)
  ·simp at hr;subst hr
   exact NF.cons (NF.cons NF.nil (by decide) (by simp)) (by decide) (by simp)
  ·simp at hr;subst hr
   refine (Sz.of _).mono ?_
   simp only [nbs,nb_one]
   omega
 have a3 := lalike_ok 3 _ hts
 rw [cU_rf] at a3
 have ht0 : tab rowT [] = [] := rfl
 have ht1 : tab rowM (rf [(1,(1 : Rat)),(0,1)]) = [rowQ (1,1),rowQ (0,1)] := by rw [tab_rf];rfl
 have ht2 : tab rowU [(2,[(0,(1 : Rat)),(1,1)])] = [[.int .i64 2,.sl [rowQ (0,1),rowQ (1,1)]]] := rfl
 have q1 : rowQ (1,(1 : Rat)) = [.int .i64 1,.bool (decide ((1 : Rat).num < 0)),.sl (u32s (limbs (1 : Rat).num.natAbs)),.sl (u32s (limbs (1 : Rat).den))] := rfl
 have q0 : rowQ (0,(1 : Rat)) = [.int .i64 0,.bool (decide ((1 : Rat).num < 0)),.sl (u32s (limbs (1 : Rat).num.natAbs)),.sl (u32s (limbs (1 : Rat).den))] := rfl
 simp only [cT,cU,cF,ht0,ht1,ht2] at a2 a3
 rw [q1,q0] at a2 a3
 rw [q1] at m11
 rw [q0] at m01
 clear e1 e2 hfo hto hg hn hts ht0 ht1 ht2 q1 q0 h1e
 generalize (1 : Rat) = one at *
 (refine pureW Tryz.func24 rfl (rs := [Go.ResultVar.tmp 0]) rfl (n := 35) rfl ?_;simp only [List.length_cons,List.length_nil,List.replicate,List.cons_append,List.nil_append])
 (refine aUg ?_)
 ((refine W_seqV ?_);intro K hK;(refine sUg ?_))
 (refine ⟨by kernel_rfl,_,.pure rfl (a1),?_⟩;(try (refine sUg ?_)))
 (refine hK _ ?_;clear hK K)
 (repeat' (first | (exfalso;simp at h;done) | (refine W_seqV fun K hK => ?_;(try (refine sUg ?_));refine hK _ ?_;clear hK K) | refine W_skip ?_ | (refine W_cond rfl (fun h => ?_) (fun h => ?_) <;> (try simp only [cond_true,cond_false,ne_eq,cB] at h)) | refine W_seq ?_))
 ((refine W_regD mixed [] (by kernel_rfl) ?_);intro K hK;(refine sUg ?_))
 (refine ⟨by kernel_rfl,_,.pure rfl (m11),?_⟩;(try (refine sUg ?_)))
 (refine ⟨by kernel_rfl,_,.pure rfl (m01),?_⟩;(try (refine sUg ?_));(repeat refine aI ?_))
 (refine ⟨by kernel_rfl,_,.pure rfl (a2),?_⟩;(try (refine sUg ?_)))
 (refine hK _ ?_;clear hK K)
 ((refine W_seqD mixed [] (by kernel_rfl) ?_);intro K hK;(refine sUg ?_))
 (refine ⟨by kernel_rfl,_,.pure rfl (m01),?_⟩;(try (refine sUg ?_)))
 (refine ⟨by kernel_rfl,_,.pure rfl (m11),?_⟩;(try (refine sUg ?_));(repeat refine aI ?_))
 (refine ⟨by kernel_rfl,_,.pure rfl (a3),?_⟩;(try (refine sUg ?_)))
 (refine hK _ ?_;clear hK K)
 (repeat' (refine W_ret ?_;(refine qG ?_;try exact True.intro)))
theorem MOk.expr {M : TM} {n : Int} (hg : GT n M) {f : List (Int × RR)} (hx : ExOk M f) (hk : knownB n (normF (vals f)) = true) : NF (exprT M (vals f)) ∧ Sz (exprT M (vals f)) 536936448 := by
 have hp := exprP_preG hg hk hx (keys (normF (vals f))).length
 rw [List.take_length] at hp
 exact ⟨hp.1,hp.2.mono (by omega)⟩
theorem FormOk.len {f : List (Int × RR)} (h : FormOk f) : f.length ≤ 68157440 := by have := nbs_len (vals f);have := h.sz;rw [vals_length] at *;omega
theorem sVk {G G' : Prop} (h : G') (e : G = G' := by conv => lhs;simp (disch := omega) only [rowsOf,cNat,cN,St.ret,St.seth,Eff.app,Eff.wi,sepL,guardOf,St.known,objOf,List.set,sliceW,litW,copyW,lenOf,bnd,mxOk,ofCells,TI.isAgg,cellsOf,storable,AV.one,dead,laid,overlay,reduceCtorEq,Int.reduceLE,Int.reduceLT,Int.reduceSub,Int.reduceAdd,Nat.reduceMul,Int.reduceToNat,Nat.reducePow,Int.reduceNeg,Nat.reduceAdd,Nat.reduceLT,Nat.reduceLeDiff,sA,sB,Nat.reduceEqDiff,beq_self_eq_true,Int.reduceBEq,Int.reduceBNe,cellsX_all,cellsX_one,cellsX_pure,cQ,rowQ,rowU,rowT,rowM,tab_length,List.take_length,tab_drop,tab_take,tab_append,tab_nil,List.length_append,rowD_all,rowD_one,rowD_pure,rowT_all,rowT_one,rowT_pure,rowU_all,rowU_one,rowU_pure,rowQ_all,rowQ_one,rowQ_pure,rowM_all,rowM_one,rowM_pure,sT]) : G := e.mpr h
theorem sVkX {G G' P : Prop} (p : P) (h : G') (e : P → G = G' := by intro p;conv => lhs;simp (disch := omega) only [rowsOf,cNat,cN,St.ret,St.seth,Eff.app,Eff.wi,sepL,guardOf,St.known,objOf,List.set,sliceW,litW,copyW,lenOf,bnd,mxOk,ofCells,TI.isAgg,cellsOf,storable,AV.one,dead,laid,overlay,reduceCtorEq,Int.reduceLE,Int.reduceLT,Int.reduceSub,Int.reduceAdd,Nat.reduceMul,Int.reduceToNat,Nat.reducePow,Int.reduceNeg,Nat.reduceAdd,Nat.reduceLT,Nat.reduceLeDiff,sA,sB,Nat.reduceEqDiff,beq_self_eq_true,Int.reduceBEq,Int.reduceBNe,cellsX_all,cellsX_one,cellsX_pure,cQ,rowQ,rowU,rowT,rowM,tab_length,List.take_length,tab_drop,tab_take,tab_append,tab_nil,List.length_append,rowD_all,rowD_one,rowD_pure,rowT_all,rowT_one,rowT_pure,rowU_all,rowU_one,rowU_pure,rowQ_all,rowQ_one,rowQ_pure,rowM_all,rowM_one,rowM_pure,sT,p]) : G := (e p).mpr h
theorem sVkV {G G' : Prop} (h : G') (e : G = G' := by conv => lhs;simp (disch := omega) only [rowsOf,cNat,cN,St.ret,St.seth,Eff.app,Eff.wi,sepL,guardOf,St.known,objOf,List.set,sliceW,litW,copyW,lenOf,bnd,mxOk,ofCells,TI.isAgg,cellsOf,storable,AV.one,dead,laid,overlay,reduceCtorEq,Int.reduceLE,Int.reduceLT,Int.reduceSub,Int.reduceAdd,Nat.reduceMul,Int.reduceToNat,Nat.reducePow,Int.reduceNeg,Nat.reduceAdd,Nat.reduceLT,Nat.reduceLeDiff,sA,sB,Nat.reduceEqDiff,beq_self_eq_true,Int.reduceBEq,Int.reduceBNe,cellsX_all,cellsX_one,cellsX_pure,cQ,rowQ,rowU,rowT,rowM,tab_length,List.take_length,tab_drop,tab_take,tab_append,tab_nil,List.length_append,rowD_all,rowD_one,rowD_pure,rowT_all,rowT_one,rowT_pure,rowU_all,rowU_one,rowU_pure,rowQ_all,rowQ_one,rowQ_pure,rowM_all,rowM_one,rowM_pure,sT,view_sref,viewRef,view_agg,views_cons,views_nil,view_bool,view_int,view_sl,view_nils,view_str,view_tup,view_nilif]) : G := e.mpr h
theorem aVk {G G' : Prop} (h : G') (f : Wr G' → G := by intro h;(repeat (first|(refine W_seqV fun K hK => ?_;(try (refine sVk ?_;try exact True.intro));(repeat refine aI ?_);refine hK _ ?_;clear hK K)|(refine W_seqR fun K hK => ?_;(try (refine sVk ?_;try exact True.intro));(repeat refine aI ?_);refine hK _ ?_;clear hK K)|(refine W_seqD mixed [] (by kernel_rfl) fun K hK => ?_;(try (refine sVk ?_;try exact True.intro));(repeat refine aI ?_);refine hK _ ?_;clear hK K)));exact h.out) : G := f ⟨h⟩
theorem mdelta_ok (d : DD) (h : d.ok) : Pure Tryz.prog 58 [d.av] (· = d.av) := by
 have h1 := mrat_ok d.a h.1
 have h2 := mrat_ok d.b h.2
 obtain ⟨⟨n,x,y⟩,⟨m,z,w⟩⟩ := d
 simp only [DD.av,DD.cells,RR.av] at *
 (refine pureW Tryz.func58 rfl (rs := [Go.ResultVar.cell 2 58]) rfl (n := 10) rfl ?_;simp only [List.length_cons,List.length_nil,List.replicate,List.cons_append,List.nil_append])
 (refine aVk ?_)
 ((refine W_seqD mixed [] (by kernel_rfl) ?_);intro K hK;(refine sVk ?_))
 (refine ⟨by kernel_rfl,_,.pure rfl (h1),?_⟩;(try (refine sVk ?_)))
 (refine ⟨by kernel_rfl,_,.pure rfl (h2),?_⟩;(try (refine sVk ?_)))
 (refine hK _ ?_;clear hK K)
 refine W_ret ?_
 (refine qG ?_;try exact True.intro);try (refine sVkV ?_;try exact True.intro)
theorem mdeltas_ok (f : List DD) (h : ∀ d ∈ f,d.ok) (hl : f.length < 1099511627776) : Pure Tryz.prog 51 [.sl (tab rowD f)] (· = .sl (tab rowD f)) := by
 have hs : ∀ i,i < f.length → Pure Tryz.prog 58 [(f.getD i default).av] (· = (f.getD i default).av) := fun i hi => mdelta_ok _ (h _ (getD_mem hi))
 have hst : ∀ i,i < f.length → f.take (i + 1) = f.take i ++ [f.getD i default] := fun i hi => take_snoc hi
 (refine pureW Tryz.func51 rfl (rs := [Go.ResultVar.tmp 2]) rfl (n := 20) rfl ?_;simp only [List.length_cons,List.length_nil,List.replicate,List.cons_append,List.nil_append])
 (refine aVk ?_)
 refine W.le ?_ (Le_nil 3 3 58 6 true rfl rfl)
 simp only [List.set]
 refine W_seq ?_
 ((refine W_seqV ?_);intro K hK;(refine sVk ?_))
 (refine hK _ ?_;clear hK K)
 refine W_block (W_loop (fun t : {t : Nat // t ≤ f.length} =>
   ⟨[.sl (tab rowD f),.any,.any,.sref 3 0 t.1,.int .i64 t.1,.any,.any,.any,.any,.any,.any,.any,.any,.any,.any,.any,.any,.any,.any,.any],[.dead,.dead,.dead,.arr 58 6 true (tab rowD (f.take t.1)),.dead,.dead,.dead,.dead,.dead,.dead,.dead,.dead,.dead,.dead,.dead,.dead,.dead,.dead,.dead,.dead]⟩) (fun t => f.length - t.1)
   ⟨0,by omega⟩ (Le_drop (by simp [leE]) (by simp [leH,tab]) rfl rfl) fun t => ?_)
 obtain ⟨i,hi⟩ := t
 dsimp only
 have htl : (f.take i).length = i := by rw [List.length_take];omega
 by_cases hlt : i < f.length
 ·have hfi : (tab rowD f).getD i [] = rowD (f.getD i default) := tab_getD hlt
  have hsi := hs i hlt
  have hsti := hst i hlt
  generalize f.getD i default = p at *
  obtain ⟨⟨n,x,y⟩,⟨m,z,w⟩⟩ := p
  simp only [rowD,DD.cells] at hfi
  simp only [DD.av,DD.cells] at hsi
  generalize f.take i = P at *
  refine W_seq ?_
  ((refine W_seqV ?_);intro K hK;(refine sVkX hlt ?_))
  (refine hK _ ?_;clear hK K)
  (refine W_ct rfl ?_)
  refine W_skip ?_
  simp only [thenW]
  refine W_seq ?_
  refine W_block ?_
  ((refine W_regT 6 fun K hK => ?_);(refine sVkX (And.intro hlt hfi) ?_))
  (refine ⟨by kernel_rfl,_,.pure rfl (hsi),?_⟩;(try (refine sVk ?_));(repeat refine aI ?_))
  (refine hK _ ?_;clear hK K)
  simp only [blockW,thenW]
  ((refine W_regV ?_);intro K hK;(refine sVk ?_))
  (refine hK _ ?_;clear hK K)
  simp only [blockW,thenW]
  refine ⟨⟨i + 1,by omega⟩,Le_drop (by simp [leE]) (by simp [leH,hsti,← tab_snoc,rowD,DD.cells,tab_take,List.take_of_length_le,htl]) rfl rfl,?_⟩
  dsimp only
  omega
 ·obtain rfl : i = f.length := by omega
  rw [List.take_length]
  refine W_seq ?_
  ((refine W_seqV ?_);intro K hK;(refine sVk ?_))
  (refine hK _ ?_;clear hK K)
  (refine W_cf rfl ?_)
  refine W_exit ?_
  simp only [thenW,blockW,if_true]
  (refine W.le ?_ (Le_freeze 3 (rows := tab rowD f) rfl (by simp) (.inl rfl));simp only [St.freeze,List.map_cons,List.map_nil,List.set,if_true,if_false,Nat.reduceEqDiff,reduceCtorEq,List.drop_zero,u32s_take,u32s_drop,froz_any,froz_und,froz_int,froz_bool,froz_str,froz_nils,froz_sl,froz_ia,froz_nilp,froz_nilif,froz_nilfn,froz_nilmp,froz_gl,froz_sref,froz_ptr,froz_agg,froz_tup,froz_fn,froz_ifc,frozs_nil,frozs_cons,froz_dead,froz_arr,froz_mp,froz_it,froz_md,froz_map,froz_iter])
  (repeat' (first | (refine W_seqV fun K hK => ?_;(try (refine sVk ?_));refine hK _ ?_;clear hK K) | (refine W_ret ?_;(refine qG ?_;try exact True.intro))))
theorem keptD_ok {M : TM} {ds : List DD} (hg : GT (ds.length : Int) M) (hd : DsOk ds) (hM : tb M ≤ 68157440) (v : Int) : (valD (keptD M ds) v).ok ∧ nb2 (valD (keptD M ds) v).v ≤ 135266307 := by
 have h1 := kept_nb hg hd hM Prod.fst (.inl rfl) v
 have h2 := kept_nb hg hd hM Prod.snd (.inr rfl) v
 unfold asgP at h1 h2
 rw [asg_val (fun d => Prod.fst d.v) zeroR_v] at h1
 rw [asg_val (fun d => Prod.snd d.v) zeroR_v] at h2
 refine ⟨?_,nb2_le h1 h2⟩
 unfold valD at h1 h2 ⊢
 by_cases hv : 0 ≤ v ∧ v < ((keptD M ds).length : Int)
 ·rw [if_pos hv] at h1 h2 ⊢
  have h3 : v.toNat < (keptD M ds).length := by omega
  have h4 : ∃ x,(keptD M ds).getD v.toNat default = dq x := by
   rw [keptD_len] at h3
   exact ⟨_,kept_getD M ds h3⟩
  obtain ⟨x,hx⟩ := h4
  rw [hx,dq_v] at h1 h2
  rw [hx]
  exact dq_ok (Nat.lt_of_le_of_lt (nb2_le h1 h2) (by omega))
 ·rw [if_neg hv]
  exact ⟨zeroR_ok,zeroR_ok⟩
theorem dsg_self (x : Rat × Rat) : dsg (dsub x x) = 0 := by
 have h : dsub x x = (0,0) := by simp [dsub];constructor <;> grind
 rw [h];simp [dsg];decide
theorem valD_set_ne {ds : List DD} {k : Nat} {d : DD} {v : Int} (h : v ≠ k) : valD (ds.set k d) v = valD ds v := by
 unfold valD
 rw [List.length_set]
 split
 ·rename_i hv
  rw [List.getD_eq_getElem?_getD,List.getD_eq_getElem?_getD,List.getElem?_set_ne (by omega)]
 ·rfl
theorem evd_val (ds : List DD) (f : List (Int × Rat)) : evd ds f = (ev2 (fun v => (valD ds v).v.1) f,ev2 (fun v => (valD ds v).v.2) f) := by
 unfold evd
 refine Prod.ext ?_ ?_
 ·exact ev2_same fun p _ => asg_val (fun d => d.a.v) zeroR_v ds p.1
 ·exact ev2_same fun p _ => asg_val (fun d => d.b.v) zeroR_v ds p.1
theorem evd_congr {ds es : List DD} {f : List (Int × Rat)} (h : ∀ p ∈ f,(valD ds p.1).v = (valD es p.1).v) : evd ds f = evd es f := by
 rw [evd_val,evd_val]
 exact Prod.ext (ev2_same fun p hp => by rw [h p hp]) (ev2_same fun p hp => by rw [h p hp])
theorem kept_val {M : TM} {ds : List DD} {v : Int} (hv : v ∉ keys M) : (valD (keptD M ds) v).v = (valD ds v).v := by
 unfold valD
 rw [keptD_len]
 split
 ·rename_i h
  rw [kept_getD M ds (by omega),dq_v]
  unfold extR
  rw [show ((v.toNat : Nat) : Int) = v by omega,look_none hv]
 ·rfl
theorem kept_row {n : Int} {M : TM} (hg : GT n M) (ds : List DD) {r : Int × List (Int × Rat)} (hr : r ∈ M) (i : Nat) : evd (keptD M ds) (r.2.take i) = evd ds (r.2.take i) :=
 evd_congr fun p hp => kept_val (hg.free r hr p (List.mem_of_mem_take hp)).2
theorem kept_row' {n : Int} {M : TM} (hg : GT n M) (ds : List DD) {r : Int × List (Int × Rat)} (hr : r ∈ M) : evd (keptD M ds) r.2 = evd ds r.2 :=
 evd_congr fun p hp => kept_val (hg.free r hr p hp).2
theorem set_row {n : Int} {M : TM} (hg : GT n M) (ds : List DD) {k : Nat} (hk : (k : Int) ∈ keys M) (d : DD) {r : Int × List (Int × Rat)} (hr : r ∈ M) (i : Nat) : evd ((keptD M ds).set k d) (r.2.take i) = evd ds (r.2.take i) := by
 rw [← kept_row hg ds hr i]
 refine evd_congr fun p hp => ?_
 rw [valD_set_ne]
 intro he
 exact (hg.free r hr p (List.mem_of_mem_take hp)).2 (he ▸ hk)
theorem EvOk.kept {M : TM} {ds : List DD} (hg : GT (ds.length : Int) M) (hd : DsOk ds) (hM : tb M ≤ 68157440) : EvOk M (keptD M ds) := by
 have he : EvOk M ds := hd.ev fun r hr => by have := tb_mem hr;omega
 refine ⟨fun v => ⟨(keptD_ok hg hd hM v).1,Nat.le_trans (keptD_ok hg hd hM v).2 (by omega)⟩,fun r hr => ⟨(he.ro r hr).1,(he.ro r hr).2.1,fun i => ?_⟩⟩
 rw [kept_row hg ds hr i]
 exact (he.ro r hr).2.2 i
theorem EvOk.set {M : TM} {ds : List DD} (hg : GT (ds.length : Int) M) (hd : DsOk ds) (hM : tb M ≤ 68157440) {k : Nat} (hk : (k : Int) ∈ keys M) {d : DD} (h1 : d.ok) (h2 : nb2 d.v ≤ 4294967296) : EvOk M ((keptD M ds).set k d) := by
 have he : EvOk M ds := hd.ev fun r hr => by have := tb_mem hr;omega
 have hv := EvOk.kept hg hd hM
 refine ⟨fun v => ?_,fun r hr => ⟨(he.ro r hr).1,(he.ro r hr).2.1,fun i => ?_⟩⟩
 ·by_cases hvk : v = k
  ·subst hvk
   by_cases hlt : k < (keptD M ds).length
   ·rw [valD_getD (by rw [List.length_set];exact hlt)]
    rw [List.getD_eq_getElem?_getD,List.getElem?_set_self hlt]
    exact ⟨h1,h2⟩
   ·rw [List.set_eq_of_length_le (by omega)]
    exact hv.vo _
  ·rw [valD_set_ne hvk]
   exact hv.vo v
 ·rw [set_row hg ds hk d hr i]
  exact (he.ro r hr).2.2 i
theorem extR_kept {M : TM} {ds : List DD} (hg : GT (ds.length : Int) M) {i : Nat} (hi : i < ds.length) : extR M (keptD M ds) i = ((keptD M ds).getD i default).v := by
 rw [kept_getD M ds hi,dq_v]
 cases hl : lookM M i with
 | some g =>
  have h1 : extR M (keptD M ds) i = evd (keptD M ds) g := by unfold extR;rw [hl]
  have h2 : extR M ds i = evd ds g := by unfold extR;rw [hl]
  rw [h1,h2]
  exact kept_row' hg ds (look_mem hl)
 | none =>
  have h1 : extR M (keptD M ds) i = ((keptD M ds).getD i default).v := by unfold extR;rw [hl]
  rw [h1,kept_getD M ds hi,dq_v]
theorem holds_kept {M : TM} {ds : List DD} (hg : GT (ds.length : Int) M) : eqTo M (keptD M ds) (keptD M ds).length = true := by
 unfold eqTo
 rw [List.all_eq_true]
 intro i hi
 rw [List.mem_range,keptD_len] at hi
 unfold eqAt
 rw [extR_kept hg hi,dsg_self]
 rfl
theorem holds_set {M : TM} {ds : List DD} (hg : GT (ds.length : Int) M) {k : Nat} (hk : (k : Int) ∈ keys M) (hlt : k < ds.length) (d : DD) :
  eqTo M ((keptD M ds).set k d) ((keptD M ds).set k d).length = (dsg (dsub ((keptD M ds).getD k default).v d.v) == 0) := by
 have hrow : ∀ r ∈ M,evd ((keptD M ds).set k d) r.2 = evd ds r.2 := fun r hr => by
  have := set_row hg ds hk d hr r.2.length
  rwa [List.take_length] at this
 have hat : ∀ i,i < ds.length → i ≠ k → eqAt M ((keptD M ds).set k d) i = true := fun i hi hne => by
  unfold eqAt
  have h1 : ((keptD M ds).set k d).getD i default = (keptD M ds).getD i default := by
   rw [List.getD_eq_getElem?_getD,List.getD_eq_getElem?_getD,List.getElem?_set_ne (Ne.symm hne)]
  have h2 : extR M ((keptD M ds).set k d) i = ((keptD M ds).getD i default).v := by
   rw [← extR_kept hg hi]
   cases hl : lookM M i with
   | some g =>
    have e1 : extR M ((keptD M ds).set k d) i = evd ((keptD M ds).set k d) g := by unfold extR;rw [hl]
    have e2 : extR M (keptD M ds) i = evd (keptD M ds) g := by unfold extR;rw [hl]
    rw [e1,e2,hrow _ (look_mem hl)]
    exact (kept_row' hg ds (look_mem hl)).symm
   | none =>
    have e1 : extR M ((keptD M ds).set k d) i = (((keptD M ds).set k d).getD i default).v := by unfold extR;rw [hl]
    have e2 : extR M (keptD M ds) i = ((keptD M ds).getD i default).v := by unfold extR;rw [hl]
    rw [e1,e2,h1]
  rw [h1,h2,dsg_self]
  rfl
 have hatk : eqAt M ((keptD M ds).set k d) k = (dsg (dsub ((keptD M ds).getD k default).v d.v) == 0) := by
  unfold eqAt
  obtain ⟨r,hr,hrk⟩ := List.mem_map.1 hk
  have hl : lookM M k = some r.2 := look_of hg.nodup (g := r.2) (hrk ▸ hr)
  have e1 : extR M ((keptD M ds).set k d) k = evd ((keptD M ds).set k d) r.2 := by unfold extR;rw [hl]
  have e2 : extR M ds k = evd ds r.2 := by unfold extR;rw [hl]
  have e3 : ((keptD M ds).set k d).getD k default = d := by
   rw [List.getD_eq_getElem?_getD,List.getElem?_set_self (by rw [keptD_len];exact hlt)]
   rfl
  rw [e1,hrow r hr,e3,kept_getD M ds hlt,dq_v,e2]
 have hlen : ((keptD M ds).set k d).length = ds.length := by rw [List.length_set,keptD_len]
 rw [hlen]
 cases hb : (dsg (dsub ((keptD M ds).getD k default).v d.v) == 0) with
 | false =>
  rw [hb] at hatk
  exact eqTo_false hatk hlt
 | true =>
  rw [hb] at hatk
  unfold eqTo
  rw [List.all_eq_true]
  intro i hi
  rw [List.mem_range] at hi
  by_cases hik : i = k
  ·rw [hik];exact hatk
  ·exact hat i hi hik
theorem sVt {G G' : Prop} (h : G') (e : G = G' := by conv => lhs;simp (disch := omega) only [rowsOf,cNat,cN,St.ret,St.seth,Eff.app,Eff.wi,sepL,guardOf,St.known,objOf,List.set,sliceW,litW,copyW,lenOf,bnd,mxOk,ofCells,TI.isAgg,cellsOf,storable,AV.one,dead,laid,overlay,reduceCtorEq,Int.reduceLE,Int.reduceLT,Int.reduceSub,Int.reduceAdd,Nat.reduceMul,Int.reduceToNat,Nat.reducePow,Int.reduceNeg,Nat.reduceAdd,Nat.reduceLT,Nat.reduceLeDiff,sA,sB,Nat.reduceEqDiff,beq_self_eq_true,Int.reduceBEq,Int.reduceBNe,cellsX_all,cellsX_one,cellsX_pure,cQ,rowU,rowT,rowM,tab_length,List.take_length,tab_drop,tab_take,tab_append,tab_nil,List.length_append,rowD_all,rowD_one,rowD_pure,rowT_all,rowT_one,rowT_pure,rowU_all,rowU_one,rowU_pure,rowQ_all,rowQ_one,rowQ_pure,rowM_all,rowM_one,rowM_pure,sT]) : G := e.mpr h
theorem sVtX {G G' P : Prop} (p : P) (h : G') (e : P → G = G' := by intro p;conv => lhs;simp (disch := omega) only [rowsOf,cNat,cN,St.ret,St.seth,Eff.app,Eff.wi,sepL,guardOf,St.known,objOf,List.set,sliceW,litW,copyW,lenOf,bnd,mxOk,ofCells,TI.isAgg,cellsOf,storable,AV.one,dead,laid,overlay,reduceCtorEq,Int.reduceLE,Int.reduceLT,Int.reduceSub,Int.reduceAdd,Nat.reduceMul,Int.reduceToNat,Nat.reducePow,Int.reduceNeg,Nat.reduceAdd,Nat.reduceLT,Nat.reduceLeDiff,sA,sB,Nat.reduceEqDiff,beq_self_eq_true,Int.reduceBEq,Int.reduceBNe,cellsX_all,cellsX_one,cellsX_pure,cQ,rowU,rowT,rowM,tab_length,List.take_length,tab_drop,tab_take,tab_append,tab_nil,List.length_append,rowD_all,rowD_one,rowD_pure,rowT_all,rowT_one,rowT_pure,rowU_all,rowU_one,rowU_pure,rowQ_all,rowQ_one,rowQ_pure,rowM_all,rowM_one,rowM_pure,sT,p]) : G := (e p).mpr h
theorem sVtV {G G' : Prop} (h : G') (e : G = G' := by conv => lhs;simp (disch := omega) only [rowsOf,cNat,cN,St.ret,St.seth,Eff.app,Eff.wi,sepL,guardOf,St.known,objOf,List.set,sliceW,litW,copyW,lenOf,bnd,mxOk,ofCells,TI.isAgg,cellsOf,storable,AV.one,dead,laid,overlay,reduceCtorEq,Int.reduceLE,Int.reduceLT,Int.reduceSub,Int.reduceAdd,Nat.reduceMul,Int.reduceToNat,Nat.reducePow,Int.reduceNeg,Nat.reduceAdd,Nat.reduceLT,Nat.reduceLeDiff,sA,sB,Nat.reduceEqDiff,beq_self_eq_true,Int.reduceBEq,Int.reduceBNe,cellsX_all,cellsX_one,cellsX_pure,cQ,rowU,rowT,rowM,tab_length,List.take_length,tab_drop,tab_take,tab_append,tab_nil,List.length_append,rowD_all,rowD_one,rowD_pure,rowT_all,rowT_one,rowT_pure,rowU_all,rowU_one,rowU_pure,rowQ_all,rowQ_one,rowQ_pure,rowM_all,rowM_one,rowM_pure,sT,view_sref,viewRef,view_agg,views_cons,views_nil,view_bool,view_int,view_sl,view_nils,view_str,view_tup,view_nilif]) : G := e.mpr h
theorem aVt {G G' : Prop} (h : G') (f : Wr G' → G := by intro h;(repeat (first|(refine W_seqV fun K hK => ?_;(try (refine sVt ?_;try exact True.intro));(repeat refine aI ?_);refine hK _ ?_;clear hK K)|(refine W_seqR fun K hK => ?_;(try (refine sVt ?_;try exact True.intro));(repeat refine aI ?_);refine hK _ ?_;clear hK K)|(refine W_seqD mixed [] (by kernel_rfl) fun K hK => ?_;(try (refine sVt ?_;try exact True.intro));(repeat refine aI ?_);refine hK _ ?_;clear hK K)));exact h.out) : G := f ⟨h⟩
theorem mdeltas_mut (f : List DD) (h : ∀ d ∈ f,d.ok) (hl : f.length < 1099511627776) : Mut2 Tryz.prog 51 58 6 (tab rowD f) 0 f.length [] (fun r rows => r = .sl (tab rowD f) ∧ rows = tab rowD f) := by
 have hs : ∀ i,i < f.length → Pure Tryz.prog 58 [(f.getD i default).av] (· = (f.getD i default).av) := fun i hi => mdelta_ok _ (h _ (getD_mem hi))
 have hst : ∀ i,i < f.length → f.take (i + 1) = f.take i ++ [f.getD i default] := fun i hi => take_snoc hi
 (refine mut2_of_W Tryz.func51 rfl (rs := [Go.ResultVar.tmp 2]) rfl (nt := 20) rfl (by decide) ?_;simp only [List.length_cons,List.length_nil,List.replicate,List.cons_append,List.nil_append,List.set,AV.datas,AV.data])
 (refine aVt ?_)
 refine W.le ?_ (Le_nil 3 3 58 6 true rfl rfl)
 simp only [List.set]
 refine W_seq ?_
 ((refine W_seqV ?_);intro K hK;(refine sVt ?_))
 (refine hK _ ?_;clear hK K)
 refine W_block (W_loop (fun t : {t : Nat // t ≤ f.length} =>
   ⟨[.sref 0 0 f.length,.any,.any,.sref 3 0 t.1,.int .i64 t.1,.any,.any,.any,.any,.any,.any,.any,.any,.any,.any,.any,.any,.any,.any,.any],[.arr 58 6 true (tab rowD f),.dead,.dead,.arr 58 6 true (tab rowD (f.take t.1)),.dead,.dead,.dead,.dead,.dead,.dead,.dead,.dead,.dead,.dead,.dead,.dead,.dead,.dead,.dead,.dead]⟩) (fun t => f.length - t.1)
   ⟨0,by omega⟩ (Le_drop (by simp [leE]) (by simp [leH,tab]) rfl rfl) fun t => ?_)
 obtain ⟨i,hi⟩ := t
 dsimp only
 have htl : (f.take i).length = i := by rw [List.length_take];omega
 by_cases hlt : i < f.length
 ·have hfi : (tab rowD f).getD i [] = rowD (f.getD i default) := tab_getD hlt
  have hsi := hs i hlt
  have hsti := hst i hlt
  generalize f.getD i default = p at *
  obtain ⟨⟨n,x,y⟩,⟨m,z,w⟩⟩ := p
  simp only [rowD,DD.cells] at hfi
  simp only [DD.av,DD.cells] at hsi
  generalize f.take i = P at *
  refine W_seq ?_
  ((refine W_seqV ?_);intro K hK;(refine sVtX hlt ?_))
  (refine hK _ ?_;clear hK K)
  (refine W_ct rfl ?_)
  refine W_skip ?_
  simp only [thenW]
  refine W_seq ?_
  refine W_block ?_
  ((refine W_regT 6 fun K hK => ?_);(refine sVtX (And.intro hlt hfi) ?_))
  (refine ⟨by kernel_rfl,_,.pure rfl (hsi),?_⟩;(try (refine sVt ?_));(repeat refine aI ?_))
  refine ⟨by decide,?_⟩
  (repeat refine aI ?_);refine hK _ ?_;clear hK K
  simp only [blockW,thenW]
  ((refine W_regV ?_);intro K hK;(refine sVt ?_))
  (refine hK _ ?_;clear hK K)
  simp only [blockW,thenW]
  refine ⟨⟨i + 1,by omega⟩,Le_drop (by simp [leE]) (by simp [leH,hsti,← tab_snoc,rowD,DD.cells,tab_take,List.take_of_length_le,htl]) rfl rfl,?_⟩
  dsimp only
  omega
 ·obtain rfl : i = f.length := by omega
  rw [List.take_length]
  refine W_seq ?_
  ((refine W_seqV ?_);intro K hK;(refine sVt ?_))
  (refine hK _ ?_;clear hK K)
  (refine W_cf rfl ?_)
  refine W_exit ?_
  simp only [thenW,blockW,if_true]
  (refine W.le ?_ (Le_freeze 3 (rows := tab rowD f) rfl (by simp) (.inl rfl));simp only [St.freeze,List.map_cons,List.map_nil,List.set,if_true,if_false,Nat.reduceEqDiff,reduceCtorEq,List.drop_zero,u32s_take,u32s_drop,froz_any,froz_und,froz_int,froz_bool,froz_str,froz_nils,froz_sl,froz_ia,froz_nilp,froz_nilif,froz_nilfn,froz_nilmp,froz_gl,froz_sref,froz_ptr,froz_agg,froz_tup,froz_fn,froz_ifc,frozs_nil,frozs_cons,froz_dead,froz_arr,froz_mp,froz_it,froz_md,froz_map,froz_iter])
  refine W_seq ?_
  ((refine W_regV ?_);intro K hK;(refine sVt ?_))
  (refine hK _ ?_;clear hK K)
  refine W_ret ?_
  (refine qG ?_;try exact True.intro)
  exact ⟨_,rfl,.inl rfl,trivial,rfl⟩
def atA (ds : List DD) (v : Int) (d : DD) : AV := .agg (.sl (tab rowD ds)::.int .i64 v::d.cells)
theorem only_law (n : Int) (t : TR) (ds : List DD) (v : Int) (d : DD) (hT : TOk t) (hd : DsOk ds) (hl : ds.length < 1099511627776) (hdo : d.ok) (hdn : nb2 d.v ≤ 4294967296) : Pure Tryz.prog 13 [cT n t,atA ds v d] (· = .bool true) := by
 have a1 := ltwin_ok n t hT.ts
 have a2 := mdeltas_ok ds hd.ok hl
 have hli := lives_ok
 have hck := tcheck_ok n t hT
 obtain ⟨⟨dn,dx,dy⟩,⟨em,ez,ew⟩⟩ := d
 by_cases hg : goodB n (nrmT t) = true
 rotate_left
 ·have b1 := text_ok n t ds hT hd hl
  unfold extV at b1
  rw [if_neg hg] at b1 hck
  simp only [cT,atA,DD.cells] at *
  (refine pureW Tryz.func13 rfl (rs := [Go.ResultVar.tmp 4]) rfl (n := 117) rfl ?_;simp only [List.length_cons,List.length_nil,List.replicate,List.cons_append,List.nil_append])
  ((refine W_seqV ?_);intro K hK;(refine sVt ?_))
  (refine hK _ ?_;clear hK K)
  ((refine W_seqD mixed [(1,6),(3,6),(5,6)] (by kernel_rfl) ?_);intro K hK;(refine sVt ?_))
  (repeat refine aI ?_);refine hK _ ?_;clear hK K
  ((refine W_seqV ?_);intro K hK;(refine sVt ?_))
  (refine ⟨by kernel_rfl,_,.pure rfl (a1),?_⟩;(try (refine sVt ?_)))
  (refine ⟨by kernel_rfl,_,.pure rfl (a2),?_⟩;(try (refine sVt ?_)))
  (refine ⟨by kernel_rfl,_,.pure rfl (b1),?_⟩;(try (refine sVt ?_)))
  (refine hK _ ?_;clear hK K)
  ((refine W_seq (W_seqV ?_));intro K hK;(refine sVt ?_))
  (refine ⟨by kernel_rfl,_,.pure rfl (hli),?_⟩;(try (refine sVt ?_)))
  (refine hK _ ?_;clear hK K)
  (refine W_cf rfl ?_)
  refine W_skip ?_
  simp only [thenW]
  ((refine W_seq (W_seqV ?_));intro K hK;(refine sVt ?_))
  (refine hK _ ?_;clear hK K)
  (refine W_ct rfl ?_)
  ((refine W_seqV ?_);intro K hK;(refine sVt ?_))
  (refine ⟨by kernel_rfl,_,.pure rfl (a1),?_⟩;(try (refine sVt ?_)))
  (refine ⟨by kernel_rfl,_,.pure rfl (hck),?_⟩;(try (refine sVt ?_)))
  (refine hK _ ?_;clear hK K)
  refine W_ret ?_
  (refine qG ?_;try exact True.intro);try (refine sVtV ?_;try exact True.intro)
  done
 ·by_cases hn : (ds.length : Int) = n
  rotate_left
  ·have b1 := text_ok n t ds hT hd hl
   unfold extV at b1
   rw [if_pos hg,if_neg hn] at b1
   rw [if_pos hg] at hck
   have hnb : ((ds.length : Int) != n) = true := bne_iff_ne.2 hn
   simp only [cT,atA,DD.cells] at *
   (refine pureW Tryz.func13 rfl (rs := [Go.ResultVar.tmp 4]) rfl (n := 117) rfl ?_;simp only [List.length_cons,List.length_nil,List.replicate,List.cons_append,List.nil_append])
   ((refine W_seqV ?_);intro K hK;(refine sVt ?_))
   (refine hK _ ?_;clear hK K)
   ((refine W_seqD mixed [(1,6),(3,6),(5,6)] (by kernel_rfl) ?_);intro K hK;(refine sVt ?_))
   (repeat refine aI ?_);refine hK _ ?_;clear hK K
   ((refine W_seqV ?_);intro K hK;(refine sVt ?_))
   (refine ⟨by kernel_rfl,_,.pure rfl (a1),?_⟩;(try (refine sVt ?_)))
   (refine ⟨by kernel_rfl,_,.pure rfl (a2),?_⟩;(try (refine sVt ?_)))
   (refine ⟨by kernel_rfl,_,.pure rfl (b1),?_⟩;(try (refine sVt ?_)))
   (refine hK _ ?_;clear hK K)
   ((refine W_seq (W_seqV ?_));intro K hK;(refine sVt ?_))
   (refine ⟨by kernel_rfl,_,.pure rfl (hli),?_⟩;(try (refine sVt ?_)))
   (refine hK _ ?_;clear hK K)
   (refine W_cf rfl ?_)
   refine W_skip ?_
   simp only [thenW]
   ((refine W_seq (W_seqV ?_));intro K hK;(refine sVt ?_))
   (refine hK _ ?_;clear hK K)
   (refine W_ct rfl ?_)
   ((refine W_seqV ?_);intro K hK;(refine sVtX hnb ?_))
   (refine ⟨by kernel_rfl,_,.pure rfl (a1),?_⟩;(try (refine sVt ?_)))
   (refine ⟨by kernel_rfl,_,.pure rfl (hck),?_⟩;(try (refine sVt ?_)))
   (refine sVtX hnb ?_;try exact True.intro)
   (refine hK _ ?_;clear hK K)
   refine W_ret ?_
   (refine qG ?_;try exact True.intro);try (refine sVtV ?_;try exact True.intro)
   done
  subst hn
  have hgt := gt_iff.1 hg
  have hev := EvOk.kept hgt hd hT.tb
  have hnew := text_new t ds hT (hT.ev hd) hl hg
  have hlen : (keptD (nrmT t) ds).length = ds.length := keptD_len _ _
  have hcopy := mdeltas_mut (keptD (nrmT t) ds) (fun x hx => (hev.mem x hx).1) (by omega)
  have hhold := tholds_g (ds.length : Int) t (keptD (nrmT t) ds) hT hev (by omega)
  have hrow := trow_ok (ds.length : Int) t v hT
  unfold holdsV at hhold
  rw [if_pos hg,if_pos (by rw [hlen]),holds_kept hgt] at hhold
  unfold rowV at hrow
  rw [if_pos hg] at hrow
  rw [tab_kept,show (extL (nrmT t) ds).map dq = keptD (nrmT t) ds from rfl] at hnew
  have htl : (tab rowD (keptD (nrmT t) ds)).length = ds.length := by rw [tab_length,hlen]
  generalize hKK : keptD (nrmT t) ds = KK at *
  simp only [cT,atA,DD.cells] at *
  (refine pureW Tryz.func13 rfl (rs := [Go.ResultVar.tmp 4]) rfl (n := 117) rfl ?_;simp only [List.length_cons,List.length_nil,List.replicate,List.cons_append,List.nil_append])
  ((refine W_seqV ?_);intro K hK;(refine sVt ?_))
  (refine hK _ ?_;clear hK K)
  ((refine W_seqD mixed [(1,6),(3,6),(5,6)] (by kernel_rfl) ?_);intro K hK;(refine sVt ?_))
  (repeat refine aI ?_);refine hK _ ?_;clear hK K
  ((refine W_seqR ?_);intro K hK;(refine sVt ?_))
  (refine ⟨by kernel_rfl,call_pure rfl (a1) fun r hr => ?_⟩;subst hr;(refine sVt ?_;try exact True.intro))
  (refine ⟨by kernel_rfl,call_pure rfl (a2) fun r hr => ?_⟩;subst hr;(refine sVt ?_;try exact True.intro))
  refine ⟨by kernel_rfl,call_newT 25 rfl rfl hnew fun rows hr => ?_⟩
  subst hr
  (refine sVt ?_;try exact True.intro)
  (refine hK _ ?_;clear hK K)
  ((refine W_seq (W_seqV ?_));intro K hK;(refine sVt ?_))
  (refine ⟨by kernel_rfl,_,.pure rfl (hli),?_⟩;(try (refine sVt ?_)))
  (refine hK _ ?_;clear hK K)
  (refine W_cf rfl ?_)
  refine W_skip ?_
  simp only [thenW]
  ((refine W_seq (W_seqV ?_));intro K hK;(refine sVt ?_))
  (refine hK _ ?_;clear hK K)
  (refine W_cf rfl ?_)
  refine W_skip ?_
  simp only [thenW]
  ((refine W_seqR ?_);intro K hK;(refine sVt ?_))
  (refine ⟨by kernel_rfl,call_pure rfl (a1) fun r hr => ?_⟩;subst hr;(refine sVt ?_;try exact True.intro))
  refine ⟨by kernel_rfl,call_mut2C hcopy rfl rfl fun r rows' hr => ?_⟩
  obtain ⟨rfl,rfl⟩ := hr
  (refine sVt ?_;try exact True.intro)
  (refine ⟨by kernel_rfl,call_pure rfl (hhold) fun r hr => ?_⟩;subst hr;(refine sVt ?_;try exact True.intro))
  (refine hK _ ?_;clear hK K)
  ((refine W_seq (W_seqV ?_));intro K hK;(refine sVt ?_))
  (refine hK _ ?_;clear hK K)
  (refine W_cf rfl ?_)
  refine W_skip ?_
  simp only [thenW]
  by_cases hv : v < 0 ∨ (ds.length : Int) ≤ v
  ·rw [if_pos hv] at hrow
   ((refine W_seqV ?_);intro K hK;(refine sVt ?_))
   (refine ⟨by kernel_rfl,_,.pure rfl (a1),?_⟩;(try (refine sVt ?_)))
   (refine ⟨by kernel_rfl,_,.pure rfl (hrow),?_⟩;(try (refine sVt ?_)))
   (refine hK _ ?_;clear hK K)
   ((refine W_seq (W_seqV ?_));intro K hK;(refine sVt ?_))
   (refine hK _ ?_;clear hK K)
   (refine W_ct rfl ?_)
   rcases hv with hv | hv
   ·((refine W_seqD mixed [] (by kernel_rfl) ?_);intro K hK;(refine sVtX hv ?_))
    (refine hK _ ?_;clear hK K)
    refine W_ret ?_
    (refine qG ?_;try exact True.intro);try (refine sVtV ?_;try exact True.intro)
   ·have hv' : ¬ v < 0 := by omega
    have hv2 : ¬ v < (ds.length : Int) := by omega
    ((refine W_seqD mixed [] (by kernel_rfl) ?_);intro K hK;(refine sVtX (And.intro hv (And.intro hv' hv2)) ?_))
    (refine hK _ ?_;clear hK K)
    refine W_ret ?_
    (refine qG ?_;try exact True.intro);try (refine sVtV ?_;try exact True.intro)
  rw [if_neg hv] at hrow
  have hv0 : 0 ≤ v := by omega
  have hv1 : v < (ds.length : Int) := by omega
  have hvn : ¬ v < 0 := by omega
  have hvn2 : ¬ (ds.length : Int) ≤ v := by omega
  have hvk : v < (KK.length : Int) := by omega
  have hXv : (tab rowD KK).getD v.toNat [] = rowD (KK.getD v.toNat default) := tab_getD (by omega)
  have hko := hev.mem _ (getD_mem (show v.toNat < KK.length by omega))
  cases hlk : lookM (nrmT t) v with
  | none =>
   rw [hlk] at hrow
   dsimp only at hrow
   have hDv : (tab rowD ds).getD v.toNat [] = rowD (ds.getD v.toNat default) := tab_getD (by omega)
   have hdv := (hT.ev hd).mem _ (getD_mem (show v.toNat < ds.length by omega))
   have hcm := f5cmp_ok (KK.getD v.toNat default) (ds.getD v.toNat default) hko.1 hdv.1 (by have := nb2_sub (KK.getD v.toNat default).v (ds.getD v.toNat default).v;omega)
   have hke : (KK.getD v.toNat default).v = (ds.getD v.toNat default).v := by
    rw [← hKK,kept_getD _ _ (by omega),dq_v]
    unfold extR
    rw [show ((v.toNat : Nat) : Int) = v by omega,hlk]
   rw [hke,dsg_self] at hcm
   clear hke
   generalize KK.getD v.toNat default = xk at *
   generalize ds.getD v.toNat default = xd at *
   simp only [rowD,DD.cells] at hXv hDv
   simp only [DD.av,DD.cells] at hcm
   ((refine W_seqV ?_);intro K hK;(refine sVt ?_))
   (refine ⟨by kernel_rfl,_,.pure rfl (a1),?_⟩;(try (refine sVt ?_)))
   (refine ⟨by kernel_rfl,_,.pure rfl (hrow),?_⟩;(try (refine sVt ?_)))
   (refine hK _ ?_;clear hK K)
   ((refine W_seq (W_seqV ?_));intro K hK;(refine sVt ?_))
   (refine hK _ ?_;clear hK K)
   (refine W_ct rfl ?_)
   ((refine W_seqD mixed [] (by kernel_rfl) ?_);intro K hK;(refine sVtX (And.intro hv0 (And.intro hv1 (And.intro hvn (And.intro hvn2 (And.intro hvk (And.intro hXv hDv)))))) ?_))
   ((repeat refine aI ?_);refine ⟨by kernel_rfl,_,.pure rfl (hcm),?_⟩;(try (refine sVt ?_)))
   (refine hK _ ?_;clear hK K)
   refine W_ret ?_
   (refine qG ?_;try exact True.intro);try (refine sVtV ?_;try exact True.intro)
  | some g =>
   rw [hlk] at hrow
   dsimp only at hrow
   have hkey : ((v.toNat : Nat) : Int) ∈ keys (nrmT t) := by rw [show ((v.toNat : Nat) : Int) = v by omega];exact look_mem_keys hlk
   have hcm := f5cmp_ok (KK.getD v.toNat default) ⟨⟨dn,dx,dy⟩,⟨em,ez,ew⟩⟩ hko.1 hdo (by have := nb2_sub (KK.getD v.toNat default).v (DD.v ⟨⟨dn,dx,dy⟩,⟨em,ez,ew⟩⟩);omega)
   have hcd := mdelta_ok ⟨⟨dn,dx,dy⟩,⟨em,ez,ew⟩⟩ hdo
   have hes := EvOk.set hgt hd hT.tb hkey hdo hdn
   rw [hKK] at hes
   have hhs := tholds_g (ds.length : Int) t _ hT hes (by rw [List.length_set];omega)
   have hhv := holds_set hgt hkey (by omega) (⟨⟨dn,dx,dy⟩,⟨em,ez,ew⟩⟩ : DD)
   rw [hKK] at hhv
   unfold holdsV at hhs
   rw [if_pos hg,if_pos (by rw [List.length_set,hlen]),hhv] at hhs
   have hset : tab rowD (KK.set v.toNat ⟨⟨dn,dx,dy⟩,⟨em,ez,ew⟩⟩) = (tab rowD KK).set v.toNat [.bool dn,.sl (u32s dx),.sl (u32s dy),.bool em,.sl (u32s ez),.sl (u32s ew)] := by simp [tab,List.map_set,rowD,DD.cells]
   rw [hset] at hhs
   clear hhv hset hes hev hKK hcopy hnew hhold
   generalize dsg _ = sg at *
   have hbb : ((sg == 0) == (sg == 0)) = true := beq_self_eq_true _
   generalize KK.getD v.toNat default = xk at *
   simp only [rowD,DD.cells] at hXv
   simp only [DD.av,DD.cells,cT] at hcm hcd hhs
   ((refine W_seqV ?_);intro K hK;(refine sVt ?_))
   (refine ⟨by kernel_rfl,_,.pure rfl (a1),?_⟩;(try (refine sVt ?_)))
   (refine ⟨by kernel_rfl,_,.pure rfl (hrow),?_⟩;(try (refine sVt ?_)))
   (refine hK _ ?_;clear hK K)
   ((refine W_seq (W_seqV ?_));intro K hK;(refine sVt ?_))
   (refine hK _ ?_;clear hK K)
   (refine W_cf rfl ?_)
   refine W_skip ?_
   simp only [thenW]
   ((refine W_seqD mixed [] (by kernel_rfl) ?_);intro K hK;(refine sVtX (And.intro hv0 (And.intro hvk hXv)) ?_))
   ((repeat refine aI ?_);refine ⟨by kernel_rfl,_,.pure rfl (hcm),?_⟩;(try (refine sVt ?_)))
   (refine hK _ ?_;clear hK K)
   ((refine W_seqV ?_);intro K hK;(refine sVtX (And.intro hv0 (And.intro hvk hXv)) ?_))
   (refine ⟨by kernel_rfl,_,.pure rfl (hcd),?_⟩;(try (refine sVt ?_));(repeat refine aI ?_))
   (refine sVtX (And.intro hv0 (And.intro hvk hXv)) ?_;try exact True.intro)
   (refine hK _ ?_;clear hK K)
   ((refine W_seqR ?_);intro K hK;(refine sVt ?_))
   (refine ⟨by kernel_rfl,call_pure rfl (a1) fun r hr => ?_⟩;subst hr;(refine sVt ?_;try exact True.intro))
   refine ⟨by kernel_rfl,call_flat (R := fun x => x = .tup [.bool (sg == 0),.int .i64 0]) ?_ fun r hr => ⟨by subst hr;rfl,?_⟩⟩
   ·simp only [views,view,List.getD_cons_zero,List.getD_cons_succ,List.drop_zero]
    rw [List.take_of_length_le (by simp [tab_length])]
    exact hhs
   subst hr
   (refine sVt ?_;try exact True.intro)
   (refine hK _ ?_;clear hK K)
   ((refine W_seqV ?_);intro K hK;(refine sVtX hbb ?_))
   (refine hK _ ?_;clear hK K)
   refine W_ret ?_
   (refine qG ?_;try exact True.intro);try (refine sVtV ?_;try exact True.intro)
   done
end Go.Proofs.YtjmpajgjaefcjaaGreat.Vm
namespace Go.Proofs.YtjmpajgjaefcjaaGreat.Vm
open Go Go.RowKit
set_option linter.unusedVariables false
set_option linter.unusedSimpArgs false
section
variable {H : Type} {encH : TypeId × Value → H} {P : Program} {w : World}
def Opens (encH : TypeId × Value → H) (P : Program) (w : World) (t : TypeId) {α : Type} (e : α → List AV) (good : α → Prop) (wt : α → Nat) : Prop :=
 ∀ (fuel : Nat) (cs : List Value) (x : DataW H × List MemPlace),DataW.trod encH P w 0 (fun _ => true) true fuel t cs = some x → ∃ a,Rps w (fun _ => False) noPl (e a) cs ∧ good a ∧ wt a ≤ Rows.uptoBulk x.1
theorem Opens.bool {t : TypeId} (ht : P.underlying t = some .bool) : Opens encH P w t (fun b : Bool => [.bool b]) (fun _ => True) (fun _ => 1) := by
 intro fuel cs x h
 obtain ⟨b,rfl,rfl⟩ := DataW.trod_bool ht h
 exact ⟨b,⟨_,_,rfl,rfl,rfl⟩,trivial,by simp [Rows.uptoBulk]⟩
theorem Opens.i64 {t : TypeId} (ht : P.underlying t = some (.int .i64)) : Opens encH P w t (fun n : Int => [.int .i64 n]) (fun n => -9223372036854775808 ≤ n ∧ n ≤ 9223372036854775807) (fun _ => 1) := by
 intro fuel cs x h
 obtain ⟨n,rfl,rfl,hw⟩ := DataW.trod_int ht h
 exact ⟨n,⟨_,_,rfl,rfl,rfl⟩,bounds_i64 hw,by simp [Rows.uptoBulk]⟩
theorem Opens.u32 {t : TypeId} (ht : P.underlying t = some (.int .u32)) : Opens encH P w t (fun n : Nat => [.int .u32 (n : Int)]) (fun n => n < 4294967296) (fun _ => 1) := by
 intro fuel cs x h
 obtain ⟨n,rfl,rfl,hw⟩ := DataW.trod_int ht h
 obtain ⟨h1,h2⟩ := bounds_u32 hw
 refine ⟨n.toNat,⟨_,_,rfl,?_,rfl⟩,by omega,by simp [Rows.uptoBulk]⟩
 show Value.int .u32 n = _
 rw [Int.toNat_of_nonneg h1]
theorem Opens.str {t : TypeId} (ht : P.underlying t = some .string) : Opens encH P w t (fun s : ByteArray => [.str s]) (fun _ => True) (fun s => s.size + 1) := by
 intro fuel cs x h
 obtain ⟨s,rfl,rfl,hs⟩ := DataW.trod_string ht h
 refine ⟨s,⟨_,_,rfl,rfl,rfl⟩,trivial,?_⟩
 simp only [Rows.uptoBulk]
 have : s.data.toList.length = s.size := by rw [Array.length_toList];rfl
 omega
theorem Opens.map {t : TypeId} {α β : Type} {e : α → List AV} {good : α → Prop} {wt : α → Nat} (h : Opens encH P w t e good wt) {e' : β → List AV} {good' : β → Prop} {wt' : β → Nat} (f : α → β)
  (he : ∀ a,e' (f a) = e a) (hg : ∀ a,good a → good' (f a)) (hw : ∀ a,wt' (f a) ≤ wt a) : Opens encH P w t e' good' wt' := by
 intro fuel cs x hx
 obtain ⟨a,h1,h2,h3⟩ := h fuel cs x hx
 exact ⟨f a,by rw [he];exact h1,hg a h2,Nat.le_trans (hw a) h3⟩
theorem Opens.two {t : TypeId} {f0 f1 : Field} (ht : P.underlying t = some (.struct #[f0,f1])) (o0 : f0.offset = 0) (o1 : f1.offset = P.cellsOf f0.type) (hl : P.cellsOf t = P.cellsOf f0.type + P.cellsOf f1.type)
  {α β : Type} {e0 : α → List AV} {g0 : α → Prop} {w0 : α → Nat} {e1 : β → List AV} {g1 : β → Prop} {w1 : β → Nat} (h0 : Opens encH P w f0.type e0 g0 w0) (h1 : Opens encH P w f1.type e1 g1 w1) :
  Opens encH P w t (fun p : α × β => e0 p.1 ++ e1 p.2) (fun p => g0 p.1 ∧ g1 p.2) (fun p => w0 p.1 + w1 p.2 + 1) := by
 intro fuel cs x h
 obtain ⟨xs,n,_,rfl,hlen,hxs,hf⟩ := DataW.trod_struct ht h
 match xs,hxs with
 | [y0,y1],_ =>
  obtain ⟨a,r0,q0,b0⟩ := h0 _ _ _ (hf 0 f0 rfl)
  obtain ⟨b,r1,q1,b1⟩ := h1 _ _ _ (hf 1 f1 rfl)
  refine ⟨(a,b),?_,⟨q0,q1⟩,?_⟩
  ·have := r0.append r1
   rw [o0,o1,List.drop_zero,List.take_of_length_le (l := cs.drop _) (by rw [List.length_drop];omega),List.take_append_drop] at this
   exact this
  ·simp only [List.map_cons,List.map_nil,Rows.uptoBulk,Rows.uptoBulkAll]
   omega
def sumW {α : Type} (wt : α → Nat) : List α → Nat
 | [] => 0
 | x::l => wt x + sumW wt l
theorem sumW_snoc {α : Type} (wt : α → Nat) (l : List α) (x : α) : sumW wt (l ++ [x]) = sumW wt l + wt x := by
 induction l with
 | nil => simp [sumW]
 | cons y l ih => simp only [List.cons_append,sumW,ih];omega
theorem bulk_append (l r : List (DataW H)) : Rows.uptoBulkAll (l ++ r) = Rows.uptoBulkAll l + Rows.uptoBulkAll r := by
 induction l with
 | nil => simp [Rows.uptoBulkAll]
 | cons x l ih => simp only [List.cons_append,Rows.uptoBulkAll,ih];omega
theorem Opens.slice {t e : TypeId} (ht : P.underlying t = some (.slice e)) (hpos : 0 < P.cellsOf e) {α : Type} {enc : α → List AV} {good : α → Prop} {wt : α → Nat} (he : Opens encH P w e enc good wt) :
  Opens encH P w t (fun l : List α => [.sl (tab enc l)]) (fun l => ∀ x ∈ l,good x) (fun l => sumW wt l + 1) := by
 intro fuel cs x h
 rcases DataW.trod_slice ht h with ⟨rfl,rfl⟩ | ⟨a,len,cap,elems,rest,n,_,rfl,rfl,hb,hlc,hcm,hlen,hel,_,_⟩
 ·exact ⟨[],⟨_,_,rfl,⟨none,0,rfl,Nat.le_refl _,by decide,.inl rfl⟩,rfl⟩,by simp,by simp [Rows.uptoBulk,sumW]⟩
 ·obtain ⟨b,o,spot⟩ := a
  have step : ∀ m,m ≤ len → ∃ (l : List α) (vss : List (List Value)),l.length = m ∧ vss.flatten.length = m * P.cellsOf e ∧ RpR w (fun _ => False) noPl (tab enc l) vss ∧ (∀ x ∈ l,good x) ∧ sumW wt l ≤ Rows.uptoBulkAll ((elems.take m).map (·.1)) ∧
    (0 < m → spot = none ∧ b < w.heap.size) ∧ CellsAt w b o vss.flatten := by
   intro m
   induction m with
   | zero => exact fun _ => ⟨[],[],rfl,by simp,rfl,by simp,by simp [sumW,Rows.uptoBulkAll],by omega,fun j u hj => by simp at hj⟩
   | succ m ih =>
    intro hm
    obtain ⟨l,vss,h1,h2,h3,h4,h5,h6,h7⟩ := ih (by omega)
    have hi := hel m (by omega)
    have hg : elems[m]? = some (elems[m]'(by omega)) := by simp
    rw [hg] at hi
    obtain ⟨cs',hc,hd⟩ := Option.bind_eq_some_iff.1 hi
    obtain ⟨_,hcl,hcell⟩ := World.cells?_some hc
    obtain ⟨y,hy1,hy2,hy3⟩ := he _ _ _ hd
    obtain ⟨c0,hc0⟩ : ∃ c0,cs'[0]? = some c0 := ⟨cs'[0]'(by omega),by simp⟩
    have g0 : w.cell? (((⟨b,o,spot⟩ : Addr).add (m * P.cellsOf e)).add 0) = some c0 := by rw [hcell 0 hpos,hc0]
    have hsp : spot = none ∧ b < w.heap.size := by
     have hs : spot = none := by
      cases m with
      | zero => have := World.cell?_spot g0;simpa [Addr.add] using this
      | succ m => exact (h6 (by omega)).1
     refine ⟨hs,?_⟩
     have : ((⟨b,o,spot⟩ : Addr).add (m * P.cellsOf e)).add 0 = ⟨b,o + m * P.cellsOf e,none⟩ := by rw [hs,WideShapes.add_plain,WideShapes.add_plain];rfl
     rw [this] at g0
     unfold World.cell? at g0
     split at g0
     ·rename_i heq
      exact (Array.getElem?_eq_some_iff.1 heq).1
     ·cases g0
    obtain ⟨hs,hbs⟩ := hsp
    subst hs
    refine ⟨l ++ [y],vss ++ [cs'],by simp [h1],?_,?_,?_,?_,fun _ => ⟨rfl,hbs⟩,?_⟩
    ·rw [List.flatten_append,List.length_append,h2,Nat.succ_mul]
     simp [hcl]
    ·rw [← tab_snoc]
     exact h3.append ⟨_,_,rfl,hy1,rfl⟩
    ·intro x hx
     rcases List.mem_append.1 hx with hx | hx
     ·exact h4 x hx
     ·rw [List.mem_singleton] at hx;subst hx;exact hy2
    ·rw [sumW_snoc,List.take_add_one,hg,List.map_append,bulk_append]
     simp only [Option.toList_some,List.map_cons,List.map_nil,Rows.uptoBulkAll]
     omega
    ·intro j u hj
     rw [List.flatten_append] at hj
     by_cases hjl : j < vss.flatten.length
     ·rw [List.getElem?_append_left hjl] at hj
      exact h7 j u hj
     ·rw [List.getElem?_append_right (by omega)] at hj
      simp only [List.flatten_cons,List.flatten_nil,List.append_nil] at hj
      have hlt : j - vss.flatten.length < cs'.length := (List.getElem?_eq_some_iff.1 hj).1
      have := hcell (j - vss.flatten.length) (by omega)
      rw [WideShapes.add_plain,WideShapes.add_plain,hj] at this
      rw [← this]
      congr 2
      omega
  obtain ⟨l,vss,h1,h2,h3,h4,h5,h6,h7⟩ := step len (Nat.le_refl _)
  have htl : (tab enc l).length = len := by rw [tab_length,h1]
  refine ⟨l,⟨_,_,rfl,⟨some ⟨b,o,spot⟩,cap,by rw [htl],by rw [htl];exact hlc,hcm,?_⟩,rfl⟩,h4,?_⟩
  ·by_cases h0 : 0 < len
   ·obtain ⟨rfl,hbs⟩ := h6 h0
    exact .inr ⟨b,o,vss,rfl,fun h => h,hbs,h7,h3⟩
   ·left
    have : l = [] := List.eq_nil_of_length_eq_zero (by omega)
    rw [this];rfl
  ·rw [List.take_of_length_le (by omega)] at h5
   simp only [Rows.uptoBulk]
   omega
end
section
variable {H : Type} {encH : TypeId × Value → H} {w : World}
theorem sumW_one (l : List Nat) : sumW (fun _ => 1) l = l.length := by
 induction l with
 | nil => rfl
 | cons x l ih => simp only [sumW,ih,List.length_cons];omega
theorem opens_nat : Opens encH Tryz.prog w 49 (fun l : List Nat => [.sl (u32s l)]) Limbs (fun l => l.length + 1) :=
 (Opens.slice Tryz.underlying49 (by show 0 < Tryz.prog.cellsOf 128;rw [show Tryz.prog.cellsOf 128 = 1 by kernel_rfl];decide) (Opens.u32 Tryz.underlying128)).map id (fun _ => rfl) (fun _ h => h) (fun l => by show l.length + 1 ≤ sumW (fun _ => 1) l + 1;rw [sumW_one];exact Nat.le_refl _)
theorem opens_int : Opens encH Tryz.prog w 51 (fun p : Bool × List Nat => [.bool p.1,.sl (u32s p.2)]) (fun p => Limbs p.2) (fun p => p.2.length + 3) :=
 (Opens.two Tryz.underlying51 rfl (by kernel_rfl) (by kernel_rfl) (Opens.bool Tryz.underlying4) opens_nat).map id (fun _ => rfl) (fun _ h => h.2) (fun l => by simp only [id];omega)
def RR.good (r : RR) : Prop := Limbs r.num ∧ Limbs r.den
def RR.wt (r : RR) : Nat := r.num.length + r.den.length + 5
theorem RR.bits_wt (r : RR) : r.bits ≤ 32 * r.wt := by unfold RR.bits RR.wt;omega
theorem opens_rat : Opens encH Tryz.prog w 53 rowR RR.good RR.wt :=
 (Opens.two Tryz.underlying53 rfl (by kernel_rfl) (by kernel_rfl) opens_int opens_nat).map (fun p => (⟨p.1.1,p.1.2,p.2⟩ : RR)) (fun _ => rfl) (fun _ h => h) (fun l => by simp only [RR.wt];omega)
def mono_wt (p : Int × RR) : Nat := p.2.wt + 2
theorem opens_mono : Opens encH Tryz.prog w 55 rowM (fun p : Int × RR => (-9223372036854775808 ≤ p.1 ∧ p.1 ≤ 9223372036854775807) ∧ p.2.good) mono_wt :=
 (Opens.two Tryz.underlying55 rfl (by kernel_rfl) (by kernel_rfl) (Opens.i64 Tryz.underlying3) opens_rat).map id (fun _ => rfl) (fun _ h => h) (fun l => by simp only [id,mono_wt];omega)
def form_good (f : List (Int × RR)) : Prop := ∀ p ∈ f,(-9223372036854775808 ≤ p.1 ∧ p.1 ≤ 9223372036854775807) ∧ p.2.good
def form_wt (f : List (Int × RR)) : Nat := sumW mono_wt f + 1
theorem opens_form : Opens encH Tryz.prog w 26 (fun f => [cF f]) form_good form_wt :=
 Opens.slice Tryz.underlying26 (by show 0 < Tryz.prog.cellsOf 55;rw [show Tryz.prog.cellsOf 55 = 4 by kernel_rfl];decide) opens_mono
def At.good (a : At) : Prop := form_good a.form ∧ a.bound.good
def At.wt (a : At) : Nat := a.name.size + form_wt a.form + a.bound.wt + 3
end
theorem RR.good.ok {r : RR} (h : r.good) (hb : r.wt ≤ 1048576) : r.ok := ⟨h.1,h.2,by unfold RR.wt at hb;omega,by unfold RR.wt at hb;omega⟩
theorem RR.good.nb {r : RR} (h : r.good) : nb r.v ≤ 32 * r.wt := Nat.le_trans (nb_v r h.1 h.2) r.bits_wt
theorem form_nbs : ∀ {f : List (Int × RR)},form_good f → nbs (vals f) ≤ 32 * sumW mono_wt f
 | [],_ => by simp [vals,nbs]
 | p::f,h => by
  have h1 := (h p List.mem_cons_self).2.nb
  have h2 := form_nbs (f := f) fun q hq => h q (List.mem_cons_of_mem _ hq)
  simp only [vals,List.map_cons,nbs,sumW,mono_wt] at *
  omega
theorem sumW_mem {α : Type} {wt : α → Nat} {l : List α} {x : α} (h : x ∈ l) : wt x ≤ sumW wt l := by
 induction l with
 | nil => cases h
 | cons y l ih =>
  simp only [sumW]
  rcases List.mem_cons.1 h with rfl | h
  ·omega
  ·have := ih h;omega
theorem form_ok {f : List (Int × RR)} (h : form_good f) (hb : form_wt f ≤ 1048576) : FOk f 67108864 ∧ nbs (vals f) ≤ 67108864 := by
 have h1 := form_nbs h
 unfold form_wt at hb
 refine ⟨⟨fun p hp => (h p hp).2.ok ?_,(Sz.of _).mono (by omega)⟩,by omega⟩
 have := sumW_mem (wt := mono_wt) hp
 unfold mono_wt at this hb
 omega
theorem At.good.ok {a : At} (h : a.good) (hb : a.wt ≤ 1048576) : AtOk a := by
 unfold At.wt at hb
 obtain ⟨h1,h2⟩ := form_ok h.1 (by omega)
 refine ⟨h1,h2,h.2.ok (by omega),?_⟩
 have := h.2.nb
 omega
theorem sumW_len {α : Type} {wt : α → Nat} (h : ∀ x,1 ≤ wt x) (l : List α) : l.length ≤ sumW wt l := by
 induction l with
 | nil => simp [sumW]
 | cons x l ih => have := h x;simp only [List.length_cons,sumW];omega
section
variable {H : Type} {encH : TypeId × Value → H} {P : Program} {w : World}
theorem rps_some {α : Type} {t : TypeId} {e : α → List AV} {good : α → Prop} {wt : α → Nat} (h : Opens encH P w t e good wt) {v : Value} {d : DataW H} {p : List MemPlace} (hd : DataW.Trod encH P w 0 (fun _ => true) true t v d p) :
  ∃ a,Rps w (fun _ => False) noPl (e a) v.cells.toList ∧ good a ∧ wt a ≤ Rows.uptoBulk d := by
 obtain ⟨fuel,hf⟩ := hd
 exact h fuel _ _ hf
theorem par_struct {α : Type} {t : TypeId} {fs : Array Field} (ht : P.underlying t = some (.struct fs)) {e : α → List AV} {good : α → Prop} {wt : α → Nat} (h : Opens encH P w t e good wt) {base : Nat} {v : Value} (hok : Value.okWide P w .any base t v) {d : DataW H} {p : List MemPlace} (hd : DataW.Trod encH P w 0 (fun _ => true) true t v d p) :
  ∃ a,Rp w (fun _ => False) noPl (.agg (e a)) v ∧ good a ∧ wt a ≤ Rows.uptoBulk d := by
 unfold Value.okWide at hok
 rw [ht] at hok
 obtain ⟨cs,rfl,_,_⟩ := hok
 obtain ⟨a,h1,h2,h3⟩ := rps_some h hd
 exact ⟨a,⟨cs.toList,by simp,h1⟩,h2,h3⟩
end
end Go.Proofs.YtjmpajgjaefcjaaGreat.Vm
namespace Go.Proofs.YtjmpajgjaefcjaaGreat.Vm
open Go Go.RowKit
set_option maxRecDepth 100000
set_option linter.unusedVariables false
set_option linter.unusedSimpArgs false
section
variable {H : Type} {encH : TypeId × Value → H} {w : World}
def row_good (r : Int × List (Int × RR)) : Prop := form_good r.2
def row_wt (r : Int × List (Int × RR)) : Nat := form_wt r.2
theorem opens_rowT : Opens encH Tryz.prog w 84 rowT row_good row_wt :=
 (Opens.two Tryz.underlying84 (by kernel_rfl) (by kernel_rfl) (by kernel_rfl) (Opens.i64 Tryz.underlying3) opens_form).map id (fun p => rfl) (fun _ h => h.2) (fun p => by simp only [id,row_wt];omega)
def tab_good (p : Int × TR) : Prop := ∀ r ∈ p.2,row_good r
def tab_wt (p : Int × TR) : Nat := sumW row_wt p.2 + 1
theorem opens_rowsT : Opens encH Tryz.prog w 22 (fun t : TR => [.sl (tab rowT t)]) (fun t => ∀ r ∈ t,row_good r) (fun t => sumW row_wt t + 1) :=
 Opens.slice Tryz.underlying22 (by show 0 < Tryz.prog.cellsOf 84;rw [show Tryz.prog.cellsOf 84 = 2 by kernel_rfl];decide) opens_rowT
def cellsT (p : Int × TR) : List AV := [.int .i64 p.1,.sl (tab rowT p.2)]
theorem opens_tab : Opens encH Tryz.prog w 24 cellsT tab_good tab_wt :=
 (Opens.two Tryz.underlying24 (by kernel_rfl) (by kernel_rfl) (by kernel_rfl) (Opens.i64 Tryz.underlying3) opens_rowsT).map id (fun p => rfl) (fun _ h => h.2) (fun p => by simp only [id,tab_wt];omega)
end
theorem tab_tb : ∀ {t : TR},(∀ r ∈ t,row_good r) → tb (t.map fun r => (r.1,vals r.2)) ≤ 33 * sumW row_wt t
 | [],_ => Nat.le_refl _
 | r::t,h => by
  have h1 := tab_tb (t := t) fun x hx => h x (List.mem_cons_of_mem _ hx)
  have h2 := form_nbs (h r List.mem_cons_self)
  simp only [List.map_cons,tb,sumW,row_wt,form_wt] at *
  omega
theorem tab_ok {p : Int × TR} (h : tab_good p) (hb : tab_wt p ≤ 1048576) : TOk p.2 := by
 unfold tab_wt at hb
 refine ⟨fun r hr q hq => (form_ok (h r hr) ?_).1.1 q hq,?_⟩
 ·have := sumW_mem (wt := row_wt) hr
  have e : form_wt r.2 = row_wt r := rfl
  omega
 ·have := tab_tb h
  omega
section
variable {H : Type} {encH : TypeId × Value → H} {P : Program} {w : World}
theorem Opens.three {t : TypeId} {f0 f1 f2 : Field} (ht : P.underlying t = some (.struct #[f0,f1,f2])) (o0 : f0.offset = 0) (o1 : f1.offset = P.cellsOf f0.type) (o2 : f2.offset = P.cellsOf f0.type + P.cellsOf f1.type) (hl : P.cellsOf t = P.cellsOf f0.type + P.cellsOf f1.type + P.cellsOf f2.type)
  {α β γ : Type} {e0 : α → List AV} {g0 : α → Prop} {w0 : α → Nat} {e1 : β → List AV} {g1 : β → Prop} {w1 : β → Nat} {e2 : γ → List AV} {g2 : γ → Prop} {w2 : γ → Nat}
  (h0 : Opens encH P w f0.type e0 g0 w0) (h1 : Opens encH P w f1.type e1 g1 w1) (h2 : Opens encH P w f2.type e2 g2 w2) :
  Opens encH P w t (fun p : α × β × γ => e0 p.1 ++ (e1 p.2.1 ++ e2 p.2.2)) (fun p => g0 p.1 ∧ g1 p.2.1 ∧ g2 p.2.2) (fun p => w0 p.1 + w1 p.2.1 + w2 p.2.2 + 1) := by
 intro fuel cs x h
 obtain ⟨xs,n,_,rfl,hlen,hxs,hf⟩ := DataW.trod_struct ht h
 match xs,hxs with
 | [y0,y1,y2],_ =>
  obtain ⟨a,r0,q0,b0⟩ := h0 _ _ _ (hf 0 f0 rfl)
  obtain ⟨b,r1,q1,b1⟩ := h1 _ _ _ (hf 1 f1 rfl)
  obtain ⟨c,r2,q2,b2⟩ := h2 _ _ _ (hf 2 f2 rfl)
  refine ⟨(a,b,c),?_,⟨q0,q1,q2⟩,?_⟩
  ·have := r0.append (r1.append r2)
   rw [o0,o1,o2,List.drop_zero] at this
   rw [List.take_of_length_le (l := cs.drop (P.cellsOf f0.type + P.cellsOf f1.type)) (by rw [List.length_drop];omega)] at this
   rw [← List.drop_drop,List.take_append_drop,List.take_append_drop] at this
   exact this
  ·simp only [List.map_cons,List.map_nil,Rows.uptoBulk,Rows.uptoBulkAll]
   omega
end
section
variable {H : Type} {encH : TypeId × Value → H} {w : World}
def DD.good (d : DD) : Prop := d.a.good ∧ d.b.good
def DD.wt (d : DD) : Nat := d.a.wt + d.b.wt
theorem opens_delta : Opens encH Tryz.prog w 58 DD.cells DD.good DD.wt :=
 (Opens.two Tryz.underlying58 (by kernel_rfl) (by kernel_rfl) (by kernel_rfl) opens_rat opens_rat).map (fun p => (⟨p.1,p.2⟩ : DD)) (fun p => rfl) (fun _ h => h) (fun p => by simp only [DD.wt];omega)
theorem opens_deltas : Opens encH Tryz.prog w 44 (fun l : List DD => [.sl (tab rowD l)]) (fun l => ∀ x ∈ l,x.good) (fun l => sumW DD.wt l + 1) :=
 Opens.slice (enc := rowD) Tryz.underlying44 (by show 0 < Tryz.prog.cellsOf 58;rw [show Tryz.prog.cellsOf 58 = 6 by kernel_rfl];decide) opens_delta
end
theorem DD.good.ok {d : DD} (h : d.good) (hb : d.wt ≤ 1048576) : d.ok := ⟨h.1.ok (by unfold DD.wt at hb;omega),h.2.ok (by unfold DD.wt at hb;omega)⟩
theorem DD.good.nb {d : DD} (h : d.good) : nb2 d.v ≤ 32 * d.wt := by
 unfold DD.wt
 exact nb2_le (Nat.le_trans h.1.nb (by omega)) (Nat.le_trans h.2.nb (by omega))
theorem nbl_ds (g : DD → Rat) (hg : ∀ d : DD,d.good → nb (g d) ≤ 32 * d.wt) : ∀ {ds : List DD},(∀ x ∈ ds,x.good) → nbl (ds.map g) ≤ 32 * sumW DD.wt ds
 | [],_ => Nat.le_refl _
 | d::ds,h => by
  have h1 := nbl_ds g hg (ds := ds) fun x hx => h x (List.mem_cons_of_mem _ hx)
  have h2 := hg d (h d List.mem_cons_self)
  simp only [List.map_cons,nbl,sumW] at *
  omega
theorem deltas_good {ds : List DD} (h : ∀ x ∈ ds,x.good) (hb : sumW DD.wt ds ≤ 1048576) : DsOk ds := by
 refine ⟨fun d hd => ?_,?_,?_⟩
 ·have hw : d.wt ≤ sumW DD.wt ds := sumW_mem (wt := DD.wt) hd
  exact (h d hd).ok (by omega)
 ·have := nbl_ds (fun d => d.a.v) (fun d hd => Nat.le_trans (nb2_1 d.v) hd.nb) h
  omega
 ·have := nbl_ds (fun d => d.b.v) (fun d hd => Nat.le_trans (nb2_2 d.v) hd.nb) h
  omega
section
variable {H : Type} {encH : TypeId × Value → H} {w : World}
abbrev AtR := List DD × Int × DD
def AtR.cells (x : AtR) : List AV := .sl (tab rowD x.1)::.int .i64 x.2.1::x.2.2.cells
def AtR.good (x : AtR) : Prop := (∀ d ∈ x.1,d.good) ∧ x.2.2.good
def AtR.wt (x : AtR) : Nat := sumW DD.wt x.1 + x.2.2.wt
theorem opens_at : Opens encH Tryz.prog w 86 AtR.cells AtR.good AtR.wt :=
 (Opens.three Tryz.underlying86 (by kernel_rfl) (by kernel_rfl) (by kernel_rfl) (by kernel_rfl) opens_deltas (Opens.i64 Tryz.underlying3) opens_delta).map (fun p => p) (fun p => rfl) (fun _ h => ⟨h.1,h.2.2⟩) (fun p => by simp only [AtR.wt];omega)
end
end Go.Proofs.YtjmpajgjaefcjaaGreat.Vm
namespace Go.Proofs.YtjmpajgjaefcjaaGreat.Vm
open Go Go.RowKit Go.ChangeShapes Go.WideShapes Go.ChangeAt
set_option maxRecDepth 100000
set_option linter.unusedVariables false
def joinedRest (P : Program) (fn : Func) (s : ChangeSpec) (c : OpenClaim) : Bool :=
 (c.wf (OpenSpec.ofChange s)) && (fn.params.all (P.readableRec ·)) && (namedTie P c.named s.vars) && ((c.stops == [])) && ((c.knobs == [])) && ((c.maps == (fn.params.toList ++ s.plain.varTypes P).any (P.mapsRec ·))) && ((c.ifaces == (fn.params.toList ++ s.plain.varTypes P).any (P.ifacesRec ·))) && ((c.mapsOut == P.mapsAmong fn.resultTypes.toList)) && ((c.loops == (fn.params.toList ++ s.plain.varTypes P).any (P.loopsFrom ·))) && ((c.wideKeys == (fn.params.toList ++ s.plain.varTypes P ++ fn.resultTypes.toList).any (P.wideKeysFrom ·))) && (s.vars.all (P.varReadable ·)) && (fn.resultTypes.all (fun t => P.readableRec t && decide (t < P.types.size))) && ((c.ifacesOut == fn.resultTypes.toList.any (P.ifacesRec ·))) && ((c.loopsOut == fn.resultTypes.toList.any (P.loopsFrom ·))) && (c.shortTexts.isNone) && ((c.kinds == (if c.domain.isEmpty then [] else fn.params.toList.map fun t => match P.underlying t with|some (.int k) => some k|_ => none))) && ((c.pinned == c.pinnedBy)) && ((c.veiled == (fn.params.toList ++ s.plain.varTypes P ++ fn.resultTypes.toList).any (P.veiledRec ·))) && (c.veiledFits P fn.params.toList (fn.params.toList ++ s.plain.varTypes P ++ fn.resultTypes.toList))
theorem joined_of {P : Program} {f : FuncId} {fn : Func} {s : ChangeSpec} {c : OpenClaim} (h1 : (laidOutB P) = true) (h2 : (mapsRowed P) = true) (h6 : ((P.stops == [])) = true) (h8 : ((P.stopKnobs == [])) = true) (h24 : (P.stopsHeard) = true) (h25 : (P.mayEnter) = true) (h9 : ((c.inPlace == P.inPlace f)) = true) (h10 : ((c.unfollowed == P.unfollowed f)) = true) (h11 : ((c.recurses == P.recurses f)) = true) (h12 : ((c.named == P.varsNamed f)) = true) (h22 : ((c.plainKeys == P.plainKeys)) = true) (h26 : ((c.lifted == P.liftsFinal)) = true) (h27 : ((P.make == some c.make)) = true)
  (h : joinedRest P fn s c = true) : joinedFacts P f fn s c = true := by
 unfold joinedRest at h
 unfold joinedFacts
 simp only [Bool.and_eq_true] at h ⊢
 obtain ⟨⟨⟨⟨⟨⟨⟨⟨⟨⟨⟨⟨⟨⟨⟨⟨⟨⟨r0,r3⟩,r4⟩,r5⟩,r7⟩,r13⟩,r14⟩,r15⟩,r16⟩,r17⟩,r18⟩,r19⟩,r20⟩,r21⟩,r23⟩,r28⟩,r29⟩,r30⟩,r31⟩ := h
 exact ⟨⟨⟨⟨⟨⟨⟨⟨⟨⟨⟨⟨⟨⟨⟨⟨⟨⟨⟨⟨⟨⟨⟨⟨⟨⟨⟨⟨⟨⟨⟨r0,h1⟩,h2⟩,r3⟩,r4⟩,r5⟩,h6⟩,r7⟩,h8⟩,h9⟩,h10⟩,h11⟩,h12⟩,r13⟩,r14⟩,r15⟩,r16⟩,r17⟩,r18⟩,r19⟩,r20⟩,r21⟩,h22⟩,r23⟩,h24⟩,h25⟩,h26⟩,h27⟩,r28⟩,r29⟩,r30⟩,r31⟩
def plainClaim : OpenClaim := { program := "", sum := "", func := "", spec := "" }
theorem pf_laid : laidOutB Tryz.prog = true := by kernel_rfl
theorem pf_maps : mapsRowed Tryz.prog = true := by kernel_rfl
theorem pf_stops : (Tryz.prog.stops == []) = true := by kernel_rfl
theorem pf_knobs : (Tryz.prog.stopKnobs == []) = true := by kernel_rfl
theorem pf_heard : Tryz.prog.stopsHeard = true := by kernel_rfl
theorem pf_enter : Tryz.prog.mayEnter = true := by kernel_rfl
theorem pf_keys : (plainClaim.plainKeys == Tryz.prog.plainKeys) = true := by kernel_rfl
theorem pf_lifts : (plainClaim.lifted == Tryz.prog.liftsFinal) = true := by kernel_rfl
theorem pf_make : (Tryz.prog.make == some plainClaim.make) = true := by kernel_rfl
theorem pf_own : ownKnob Tryz.prog.godebug = none := by kernel_rfl
end Go.Proofs.YtjmpajgjaefcjaaGreat.Vm
namespace Go.Proofs.YtjmpajgjaefcjaaGreat.Vm
open Go Go.RowKit Go.ChangeShapes Go.WideShapes Go.ChangeAt
set_option maxRecDepth 100000
set_option linter.unusedVariables false
set_option linter.unusedSimpArgs false
namespace tableauOnly_
theorem own : ownKnob Tryz.prog.godebug = none := pf_own
theorem laidOut : laidOutB Tryz.prog = true := pf_laid
theorem pf_place : (Rows.tableauOnlyUptoRow.inPlace == Tryz.prog.inPlace 13) = true := by kernel_rfl
theorem pf_foll : (Rows.tableauOnlyUptoRow.unfollowed == Tryz.prog.unfollowed 13) = true := by kernel_rfl
theorem pf_rec : (Rows.tableauOnlyUptoRow.recurses == Tryz.prog.recurses 13) = true := by kernel_rfl
theorem pf_nam : (Rows.tableauOnlyUptoRow.named == Tryz.prog.varsNamed 13) = true := by kernel_rfl
theorem pf_rest : joinedRest Tryz.prog Tryz.f13 (Rows.OpenSpec.upto Rows.tableauOnlySpec).bare Rows.tableauOnlyUptoRow = true := by kernel_rfl
theorem facts : joinedFacts Tryz.prog 13 Tryz.f13 (Rows.OpenSpec.upto Rows.tableauOnlySpec).bare Rows.tableauOnlyUptoRow = true := joined_of pf_laid pf_maps pf_stops pf_knobs pf_heard pf_enter pf_place pf_foll pf_rec pf_nam pf_keys pf_lifts pf_make pf_rest
theorem contract (H : Type) (encH : TypeId × Value → H) (W : World) (base : Nat) (args : Array Value) (ds gs : List (DataW H)) (before : List MemPlace)
  (hval : ∀ (j : Nat) t v,Tryz.f13.params[j]? = some t → args[j]? = some v → Value.okWide Tryz.prog W .any base t v)
  (hW : DataW.Whole encH Tryz.prog Tryz.f13.params.toList Rows.tableauOnlySpec.vars false W args.toList ds gs before) (hk : Rows.uptoSmall H (ds ++ gs) = true) :
  Calls Tryz.prog 13 args W fun e W' => ∃ v,e = .returned v ∧ Rows.tableauOnlySpec.post encH Tryz.prog Tryz.f13 false true false false W args v W' := by
 have hW' := hW
 obtain ⟨p,q,hA0,hV,rfl,hfz,hnd⟩ := hW
 have hA : DataW.TrodAll encH Tryz.prog W 0 (fun _ => true) true Tryz.f13.params.toList args.toList ds p := hA0
 rw [Tryz.params13] at hA hval
 obtain ⟨v0,v1,d0,d1,p0,p1,rfl,rfl,rfl,h0,h1⟩ := trodAll_two hA
 obtain ⟨rfl,rfl⟩ := trodVars_none hV
 simp only [List.append_nil] at hW' hk
 have hlt : ∀ x ∈ p0 ++ p1,x.block < W.heap.size := fun x hx => hW'.lt x (by simpa using hx)
 obtain ⟨a0,r0,g0,b0⟩ := par_struct Tryz.underlying24 opens_tab (hval 0 24 v0 rfl rfl) h0
 obtain ⟨a1,r1,g1,b1⟩ := par_struct Tryz.underlying86 opens_at (hval 1 86 v1 rfl rfl) h1
 have hbulk : Rows.uptoBulkAll [d0,d1] ≤ 1048576 := of_decide_eq_true hk
 simp only [Rows.uptoBulkAll] at hbulk
 have hlaw := only_law a0.1 a0.2 a1.1 a1.2.1 a1.2.2 (tab_ok g0 (by omega)) (deltas_good g1.1 (by unfold AtR.wt at b1;omega)) (by have := sumW_len (wt := DD.wt) (fun a => by unfold DD.wt RR.wt;omega) a1.1;unfold AtR.wt at b1;omega) (g1.2.ok (by unfold AtR.wt at b1;omega)) (by have := g1.2.nb;unfold AtR.wt at b1;omega)
 refine (hlaw W [v0,v1] (fun _ => False) (fun _ h => h.elim) ⟨_,_,rfl,r0,_,_,rfl,r1,rfl⟩).mono fun e W' he => ?_
 obtain ⟨v,r,rfl,rfl,hbel,hrp⟩ := he
 have hv : v = .bool true := hrp
 subst hv
 exact ⟨_,rfl,⟨_,_,_,[],_,[],hW',trodAll_mk1 (shut_bool Tryz.underlying4 _),trodAll_mk2 (Below.trod laidOut (by kernel_rfl) (of_decide_eq_true (by kernel_rfl)) h0 hbel (fun x hx => hlt x (by simp [hx]))) (Below.trod laidOut (by kernel_rfl) (of_decide_eq_true (by kernel_rfl)) h1 hbel (fun x hx => hlt x (by simp [hx]))),rfl,hbel.frame _,fun h => by cases h⟩⟩
theorem lifted (os : Os) (started : os.Started) (H : Type) (enc : TypeId × Value → H) (F : Stop.Interp) :
  ReturnsInHanded {} Tryz.checked os 13 .any ((Rows.OpenSpec.upto Rows.tableauOnlySpec).pre6 enc Tryz.prog Tryz.f13 Rows.tableauOnlyUptoRow.domain false) (((Rows.OpenSpec.upto Rows.tableauOnlySpec).at F).post enc Tryz.prog Tryz.f13 false true false false) := by
 refine returnsInHanded_of_cond (C := Tryz.checked) (s := Rows.OpenSpec.upto Rows.tableauOnlySpec) (k := Rows.uptoSmall) rfl own started (by kernel_rfl) Tryz.func13
  (OpenSpec.witness (enc := enc) (C := Tryz.checked) (s := Rows.OpenSpec.upto Rows.tableauOnlySpec) (k := Rows.uptoSmall) rfl false ⟨#[],#[.agg #[.int .i64 0,.slice none 0 0],.agg #[.slice none 0 0,.int .i64 0,.bool false,.slice none 0 0,.slice none 0 0,.bool false,.slice none 0 0,.slice none 0 0]],[]⟩ 8 (by kernel_rfl) (by kernel_rfl) (by kernel_rfl)
   (x := ([.agg [.lit (.int .i64 0),.nil],.agg [.nil,.lit (.int .i64 0),.agg [.agg [.agg [.lit (.bool false),.nil],.nil],.agg [.agg [.lit (.bool false),.nil],.nil]]]],[],[])) (by kernel_rfl) rfl (by kernel_rfl)) ?_
 intro W base args ds gs before hval hW _ hk _
 exact contract H enc W base args ds gs before hval hW hk
end tableauOnly_
theorem tableauOnly_holds : Rows.TableauOnlyUptoSaid :=
 OpenClaim.holds_of_cond 13 Tryz.f13 rfl rfl rfl rfl rfl rfl rfl ⟨rfl,rfl,rfl,rfl,rfl⟩ rfl rfl rfl rfl rfl (by kernel_rfl) Tryz.func13 tableauOnly_.facts
  (of_decide_eq_true (by kernel_rfl)) (by unfold Func.isWrapper;first | (rw [if_pos (by decide +kernel)];kernel_rfl) | (rw [if_neg (by decide +kernel)];exact ⟨rfl,rfl⟩))
  (fun os started H enc _ F => tableauOnly_.lifted os started H enc F)
end Go.Proofs.YtjmpajgjaefcjaaGreat.Vm
