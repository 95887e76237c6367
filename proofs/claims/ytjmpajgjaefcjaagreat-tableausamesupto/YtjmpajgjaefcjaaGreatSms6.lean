/-
  Part 6 of 8 of a proof.
-/
import Derived.Test.YtjmpajgjaefcjaaGreatSms5
import Derived.Orders
import Derived.Below
import Derived.Laws.AppendOwn
import Derived.Laws.MakeOwn
import Derived.Laws.CopyRow
import Derived.Laws.Rows
import Derived.Laws.Cells
import Derived.Tactics
import Derived.Laws.BitsLemmas
import Derived.Maps.Range
import Derived.Carry
import Derived.Test.YtjmpajgjaefcjaaGreatProg
import Derived.Sort.Row
import Derived.Sort.Grow

namespace Go.Proofs.YtjmpajgjaefcjaaGreat.Vm
open Go Go.RowKit
set_option maxRecDepth 100000
set_option linter.unusedVariables false
set_option linter.unusedSimpArgs false
theorem sLa {G G' : Prop} (h : G') (e : G = G' := by conv => lhs;simp (disch := omega) only [rowsOf,cNat,cN,St.ret,St.seth,Eff.app,Eff.wi,sepL,guardOf,St.known,objOf,List.set,sliceW,litW,copyW,lenOf,bnd,mxOk,ofCells,TI.isAgg,cellsOf,storable,AV.one,dead,laid,overlay,reduceCtorEq,Int.reduceLE,Int.reduceLT,Int.reduceSub,Int.reduceAdd,Nat.reduceMul,Int.reduceToNat,Nat.reducePow,Int.reduceNeg,Nat.reduceAdd,Nat.reduceLT,Nat.reduceLeDiff,sA,sB,cQ,rowQ,pos_succ,drop_one,tab_getD_zero,List.take_length,List.length_append,tab_length,tab_drop,tab_take,tab_append,tab_snoc,tab_nil,rowQ_all,rowQ_one,rowQ_pure,sT]) : G := e.mpr h
theorem sLaV {G G' : Prop} (h : G') (e : G = G' := by conv => lhs;simp (disch := omega) only [rowsOf,cNat,cN,St.ret,St.seth,Eff.app,Eff.wi,sepL,guardOf,St.known,objOf,List.set,sliceW,litW,copyW,lenOf,bnd,mxOk,ofCells,TI.isAgg,cellsOf,storable,AV.one,dead,laid,overlay,reduceCtorEq,Int.reduceLE,Int.reduceLT,Int.reduceSub,Int.reduceAdd,Nat.reduceMul,Int.reduceToNat,Nat.reducePow,Int.reduceNeg,Nat.reduceAdd,Nat.reduceLT,Nat.reduceLeDiff,sA,sB,cQ,rowQ,pos_succ,drop_one,tab_getD_zero,List.take_length,List.length_append,tab_length,tab_drop,tab_take,tab_append,tab_snoc,tab_nil,rowQ_all,rowQ_one,rowQ_pure,sT,view_sref,viewRef,view_agg,views_cons,views_nil,view_bool,view_int,view_sl,view_nils,view_str,view_tup,view_nilif]) : G := e.mpr h
theorem aLa {G G' : Prop} (h : G') (f : Wr G' → G := by intro h;(repeat (first|(refine W_seqV fun K hK => ?_;(try (refine sLa ?_;try exact True.intro));(repeat refine aI ?_);refine hK _ ?_;clear hK K)|(refine W_seqR fun K hK => ?_;(try (refine sLa ?_;try exact True.intro));(repeat refine aI ?_);refine hK _ ?_;clear hK K)|(refine W_seqD mixed [] (by kernel_rfl) fun K hK => ?_;(try (refine sLa ?_;try exact True.intro));(repeat refine aI ?_);refine hK _ ?_;clear hK K)));exact h.out) : G := f ⟨h⟩
def cmpV (a b : Int) : Int := if a < b then -1 else if b < a then 1 else 0
set_option maxHeartbeats 1000000 in
theorem byVar_ok (p q : Int × RR) : Pure Tryz.prog 188 [.agg (rowM p),.agg (rowM q)] (· = .int .i64 (cmpV p.1 q.1)) := by
 obtain ⟨v,a⟩ := p
 obtain ⟨w,b⟩ := q
 (refine pureW Tryz.func188 rfl (rs := [Go.ResultVar.tmp 4]) rfl (n := 17) rfl ?_;simp only [List.length_cons,List.length_nil,List.replicate,List.cons_append,List.nil_append])
 simp only [rowM]
 (repeat' (first | refine W_block ?_ | (refine W_seqV fun K hK => ?_;(try (refine sLa ?_));refine hK _ ?_;clear hK K) | refine W_skip ?_ | (refine W_ret ?_;(refine qG ?_)) | (refine W_cond rfl (fun h => ?_) (fun h => ?_) <;> (try simp only [cond_true,cond_false,ne_eq,cB] at h)) | refine W_seq ?_))
 all_goals (congr 1;unfold cmpV;(repeat split) <;> omega)
theorem rs_ne (q : Rat) : (q.num.sign != 0) = decide (q ≠ 0) := by
 by_cases h : q = 0
 ·subst h;rfl
 ·rw [decide_eq_true h,bne_iff_ne]
  intro h0
  exact h (Rat.num_eq_zero.1 (Int.sign_eq_zero_iff_zero.1 h0))
set_option maxHeartbeats 1000000 in
theorem together_ok (p q : Int × Rat) (hp : (qr p.2).ok) (hq : (qr q.2).ok) (hs : (qr (p.2 + q.2)).ok) :
  Pure Tryz.prog 189 [.agg (rowQ p),.agg (rowQ q)] (· = .tup [.agg (rowQ (p.1,p.2 + q.2)),.bool (decide (p.2 + q.2 ≠ 0))]) := by
 have ha := radd_ok (qr p.2) (qr q.2) hp hq
 rw [qr_v,qr_v] at ha
 have hg := rsign_ok (qr (p.2 + q.2)) hs
 rw [qr_v] at hg
 have hne := rs_ne (p.2 + q.2)
 obtain ⟨v,a⟩ := p
 obtain ⟨w,b⟩ := q
 dsimp only at *
 simp only [RR.av,qr] at ha hg
 rw [← hne]
 (refine pureW Tryz.func189 rfl (rs := [Go.ResultVar.cell 4 55,Go.ResultVar.tmp 5]) rfl (n := 19) rfl ?_;simp only [List.length_cons,List.length_nil,List.replicate,List.cons_append,List.nil_append])
 unfold rowQ
 ((refine W_seqV ?_);intro K hK;(refine sLa ?_))
 (refine hK _ ?_;clear hK K)
 ((refine W_seqV ?_);intro K hK;(refine sLa ?_))
 (refine ⟨by kernel_rfl,_,.pure rfl (ha),?_⟩;(try (refine sLa ?_)))
 (refine hK _ ?_;clear hK K)
 ((refine W_seqD mixed [(4,7)] (by kernel_rfl) ?_);intro K hK;(refine sLa ?_))
 (refine ⟨by kernel_rfl,_,.pure rfl (hg),?_⟩;(try (refine sLa ?_));(repeat refine aI ?_))
 (refine hK _ ?_;clear hK K)
 refine W_ret ?_
 (refine qG ?_;try exact True.intro);try (refine sLaV ?_;try exact True.intro)
theorem byVar_q (p q : Int × Rat) : Pure Tryz.prog 188 [.agg (rowQ p),.agg (rowQ q)] (· = .int .i64 (cmpV p.1 q.1)) := byVar_ok (p.1,qr p.2) (q.1,qr q.2)
structure Mg (f g f' g' out : List (Int × Rat)) : Prop where
 eq : out ++ mergeF f' g' = mergeF f g
 nb : ∀ v,nbv out v + nbv f' v + nbv g' v ≤ nbv f v + nbv g v
 len : out.length + f'.length + g'.length ≤ f.length + g.length
set_option maxHeartbeats 4000000 in
theorem merge_new (f g : List (Int × Rat)) {B : Nat} (h : Sz (f ++ g) B) (hB : B < 17179869184) :
  New Tryz.prog 187 [cL f,cL g,.fn (.func 188) [] [],.fn (.func 189) [] []] 55 4 (· = tab rowQ (mergeF f g)) := by
 (refine new_of_W (T := 55) (k := 4) Tryz.func187 rfl (rs := [Go.ResultVar.tmp 8]) rfl (nt := 76) rfl ?_;simp only [List.length_cons,List.length_nil,List.replicate,List.cons_append,List.nil_append])
 simp only [cL]
 (refine aLa ?_)
 refine W.le ?_ (Le_nil 9 9 55 4 true rfl rfl)
 simp only [List.set]
 refine W_seq (W_block (W_loop (fun t : {t : List (Int × Rat) × List (Int × Rat) × List (Int × Rat) // Mg f g t.1 t.2.1 t.2.2} =>
   ⟨((cL t.1.1)::(cL t.1.2.1)::(.fn (.func 188) [] [])::(.fn (.func 189) [] [])::.any::.any::.any::.any::.any::(.sref 9 0 t.1.2.2.length)::.any::.any::.any::.any::.any::.any::.any::.any::.any::.any::.any::.any::.any::.any::.any::.any::.any::.any::.any::.any::.any::.any::.any::.any::.any::.any::.any::.any::.any::.any::.any::.any::.any::.any::.any::.any::.any::.any::.any::.any::.any::.any::.any::.any::.any::.any::.any::.any::.any::.any::.any::.any::.any::.any::.any::.any::.any::.any::.any::.any::.any::.any::.any::.any::.any::.any::[]),(.dead::.dead::.dead::.dead::.dead::.dead::.dead::.dead::.dead::(.arr 55 4 true (tab rowQ t.1.2.2))::.dead::.dead::.dead::.dead::.dead::.dead::.dead::.dead::.dead::.dead::.dead::.dead::.dead::.dead::.dead::.dead::.dead::.dead::.dead::.dead::.dead::.dead::.dead::.dead::.dead::.dead::.dead::.dead::.dead::.dead::.dead::.dead::.dead::.dead::.dead::.dead::.dead::.dead::.dead::.dead::.dead::.dead::.dead::.dead::.dead::.dead::.dead::.dead::.dead::.dead::.dead::.dead::.dead::.dead::.dead::.dead::.dead::.dead::.dead::.dead::.dead::.dead::.dead::.dead::.dead::.dead::[])⟩) (fun t => t.1.1.length + t.1.2.1.length)
   ⟨(f,g,[]),⟨rfl,by simp [nbv],by simp⟩⟩ (Le_of (by simp [leE,cL]) rfl) fun t => ?_))
 obtain ⟨⟨f',g',out⟩,hM⟩ := t
 dsimp only at hM ⊢
 have hll := hM.len
 have hnb := hM.nb
 have hle : f.length + g.length ≤ B := by have := h.l;rwa [List.length_append] at this
 have hbv : ∀ v,nbv f v + nbv g v ≤ B := fun v => by have := h.b v;rwa [nbv_append] at this
 simp only [cL]
 rcases f' with _ | ⟨p,f'⟩
 ·refine W_seq ?_
  ((refine W_seqV ?_);intro K hK;(refine sLa ?_))
  (refine hK _ ?_;clear hK K)
  (refine W_cf rfl ?_)
  refine W_exit ?_
  simp only [thenW,blockW,if_true]
  have heq := hM.eq
  rw [mergeF_nil_left] at heq
  ((refine W_seqR ?_);intro K hK;(refine sLa ?_))
  (repeat refine aI ?_);refine hK _ ?_;clear hK K
  refine W_ret ?_
  (refine qG ?_;try exact True.intro)
  exact ⟨_,by simp,by simp [tab_length],rfl,by rw [← heq]⟩
 rcases g' with _ | ⟨q,g'⟩
 ·refine W_seq ?_
  ((refine W_seqV ?_);intro K hK;(refine sLa ?_))
  (refine hK _ ?_;clear hK K)
  (refine W_cf rfl ?_)
  refine W_exit ?_
  simp only [thenW,blockW,if_true]
  have heq := hM.eq
  rw [mergeF_nil_right] at heq
  simp only [List.length_cons] at hll
  ((refine W_seqR ?_);intro K hK;(refine sLa ?_))
  (repeat refine aI ?_);refine hK _ ?_;clear hK K
  refine W_ret ?_
  (refine qG ?_;try exact True.intro)
  exact ⟨_,by simp,by simp [tab_length],rfl,by rw [← heq,List.take_of_length_le (by simp)]⟩
 have hc := byVar_q p q
 simp only [rowQ] at hc
 have hnp : nb p.2 ≤ nbv (p::f') p.1 := nbv_mem List.mem_cons_self
 have hnq : nb q.2 ≤ nbv (q::g') q.1 := nbv_mem List.mem_cons_self
 have hnp2 := hnb p.1
 have hnq2 := hnb q.1
 have hbp := hbv p.1
 have hbq := hbv q.1
 simp only [List.length_cons] at hll
 have hmc := mergeF_cons p f' q g'
 have heq := hM.eq
 have hsn : ∀ (r : Int × Rat) (v : Int),nbv (out ++ [r]) v = nbv out v + (if r.1 = v then nb r.2 else 0) := fun r v => by rw [nbv_append];simp [nbv]
 refine W_seq ?_
 ((refine W_seqV ?_);intro K hK;(refine sLa ?_))
 (refine hK _ ?_;clear hK K)
 (refine W_ct rfl ?_)
 refine W_skip ?_
 simp only [thenW]
 refine W_block ?_
 ((refine W_seqD mixed [] (by kernel_rfl) ?_);intro K hK;(refine sLa ?_))
 (refine ⟨by kernel_rfl,_,.pure rfl (hc),?_⟩;(try (refine sLa ?_)))
 (refine hK _ ?_;clear hK K)
 refine W_block ?_
 refine W_seq ?_
 ((refine W_regV ?_);intro K hK;(refine sLa ?_))
 (refine hK _ ?_;clear hK K)
 rcases Int.lt_trichotomy p.1 q.1 with hlt | hee | hgt
 ·have hcv : cmpV p.1 q.1 = -1 := by simp [cmpV,hlt]
  rw [hcv]
  (refine W_ct rfl ?_)
  ((refine W_seqR ?_);intro K hK;(refine sLa ?_))
  (repeat refine aI ?_);refine hK _ ?_;clear hK K
  ((refine W_regV ?_);intro K hK;(refine sLa ?_))
  (repeat refine aI ?_);refine hK _ ?_;clear hK K
  simp only [blockW,thenW]
  rw [if_pos hlt] at hmc
  refine ⟨⟨(f',q::g',out ++ [p]),⟨?_,?_,?_⟩⟩,Le_drop (by simp [leE,cL]) (by simp [leH,← tab_snoc,rowQ]) rfl rfl,?_⟩
  ·rw [← heq,hmc];simp
  ·intro v;have := hnb v;rw [hsn];simp only [nbv] at *;omega
  ·simp only [List.length_append,List.length_cons,List.length_nil];omega
  ·simp
 ·have hcv : cmpV p.1 q.1 = 0 := by simp [cmpV,hee]
  rw [hcv]
  rw [if_neg (by omega),if_neg (by omega)] at hmc
  have hadd := nb_add p.2 q.2
  have hnq' : nb q.2 ≤ nbv (q::g') p.1 := by rw [hee];exact hnq
  have ht := together_ok p q (qr_ok (by omega)) (qr_ok (by omega)) (qr_ok (by omega))
  simp only [rowQ] at ht
  (refine W_cf rfl ?_)
  refine W_seq ?_
  ((refine W_regV ?_);intro K hK;(refine sLa ?_))
  (refine hK _ ?_;clear hK K)
  (refine W_cf rfl ?_)
  refine W_seq ?_
  ((refine W_seqD mixed [(2,11),(3,11),(5,11),(6,11)] (by kernel_rfl) ?_);intro K hK;(refine sLa ?_))
  (refine ⟨by kernel_rfl,_,.pure rfl (ht),?_⟩;(try (refine sLa ?_));(repeat refine aI ?_))
  (refine hK _ ?_;clear hK K)
  by_cases h0 : p.2 + q.2 = 0
  ·rw [if_pos h0] at hmc
   have hz : decide (p.2 + q.2 ≠ 0) = false := by simp [h0]
   rw [hz]
   ((refine W_seqV ?_);intro K hK;(refine sLa ?_))
   (refine hK _ ?_;clear hK K)
   (refine W_cf rfl ?_)
   refine W_skip ?_
   simp only [thenW]
   (refine W_regD mixed [] (by kernel_rfl) fun K hK => ?_;(refine sLa ?_;try exact True.intro))
   (repeat refine aI ?_);refine hK _ ?_;clear hK K
   simp only [blockW,thenW]
   refine ⟨⟨(f',g',out),⟨?_,?_,?_⟩⟩,Le_drop (by simp [leE,cL]) (by simp [leH]) rfl rfl,?_⟩
   ·rw [← heq,hmc]
   ·intro v;have := hnb v;simp only [nbv] at *;omega
   ·dsimp only;omega
   ·dsimp only [List.length_cons];omega
  ·rw [if_neg h0] at hmc
   have hz : decide (p.2 + q.2 ≠ 0) = true := by simp [h0]
   rw [hz]
   ((refine W_seqV ?_);intro K hK;(refine sLa ?_))
   (refine hK _ ?_;clear hK K)
   (refine W_ct rfl ?_)
   (refine W_regR fun K hK => ?_;(refine sLa ?_;try exact True.intro))
   (repeat refine aI ?_);refine hK _ ?_;clear hK K
   simp only [thenW]
   (refine W_regD mixed [] (by kernel_rfl) fun K hK => ?_;(refine sLa ?_;try exact True.intro))
   (repeat refine aI ?_);refine hK _ ?_;clear hK K
   simp only [blockW,thenW]
   refine ⟨⟨(f',g',out ++ [(p.1,p.2 + q.2)]),⟨?_,?_,?_⟩⟩,Le_drop (by simp [leE,cL]) (by simp [leH,← tab_snoc,rowQ]) rfl rfl,?_⟩
   ·rw [← heq,hmc];simp
   ·intro v;have := hnb v;rw [hsn];simp only [nbv] at *;rw [hee] at *;split <;> simp_all <;> omega
   ·simp only [List.length_append,List.length_cons,List.length_nil];omega
   ·dsimp only [List.length_cons];omega
 ·have hcv : cmpV p.1 q.1 = 1 := by rw [cmpV,if_neg (by omega),if_pos hgt]
  rw [hcv]
  (refine W_cf rfl ?_)
  refine W_seq ?_
  ((refine W_regV ?_);intro K hK;(refine sLa ?_))
  (refine hK _ ?_;clear hK K)
  (refine W_ct rfl ?_)
  ((refine W_seqR ?_);intro K hK;(refine sLa ?_))
  (repeat refine aI ?_);refine hK _ ?_;clear hK K
  ((refine W_regV ?_);intro K hK;(refine sLa ?_))
  (repeat refine aI ?_);refine hK _ ?_;clear hK K
  simp only [blockW,thenW]
  rw [if_neg (by omega),if_pos hgt] at hmc
  refine ⟨⟨(p::f',g',out ++ [q]),⟨?_,?_,?_⟩⟩,Le_drop (by simp [leE,cL]) (by simp [leH,← tab_snoc,rowQ]) rfl rfl,?_⟩
  ·rw [← heq,hmc];simp
  ·intro v;have := hnb v;rw [hsn];simp only [nbv] at *;omega
  ·simp only [List.length_append,List.length_cons,List.length_nil];omega
  ·simp
set_option maxHeartbeats 1000000 in
theorem sum_new (f g : List (Int × Rat)) {B : Nat} (h : Sz (f ++ g) B) (hB : B < 17179869184) : New Tryz.prog 148 [cL f,cL g] 55 4 (· = tab rowQ (mergeF f g)) := by
 have hm := merge_new f g h hB
 (refine new_of_W (T := 55) (k := 4) Tryz.func148 rfl (rs := [Go.ResultVar.tmp 4]) rfl (nt := 8) rfl ?_;simp only [List.length_cons,List.length_nil,List.replicate,List.cons_append,List.nil_append])
 simp only [cL] at hm ⊢
 (refine aLa ?_)
 (refine W_seqR fun K hK => ?_;(refine sLa ?_;try exact True.intro))
 refine ⟨by kernel_rfl,?_⟩
 refine call_new 7 rfl rfl hm fun rows hr => ?_
 subst hr
 (refine sLa ?_;try exact True.intro)
 (refine hK _ ?_;clear hK K)
 refine W_ret ?_
 (refine qG ?_;try exact True.intro)
 exact ⟨tab rowQ (mergeF f g),by simp [tab_length],by simp [tab_length],rfl,rfl⟩
theorem sLb {G G' : Prop} (h : G') (e : G = G' := by conv => lhs;simp (disch := omega) only [rowsOf,cNat,cN,St.ret,St.seth,Eff.app,Eff.wi,sepL,guardOf,St.known,objOf,List.set,sliceW,litW,copyW,lenOf,bnd,mxOk,ofCells,TI.isAgg,cellsOf,storable,AV.one,dead,laid,overlay,reduceCtorEq,Int.reduceLE,Int.reduceLT,Int.reduceSub,Int.reduceAdd,Nat.reduceMul,Int.reduceToNat,Nat.reducePow,Int.reduceNeg,Nat.reduceAdd,Nat.reduceLT,Nat.reduceLeDiff,sA,sB,cQ,rowQ,rowM,tab_length,tab_getD_zero,List.take_length,List.length_append,tab_drop,tab_take,tab_append,tab_nil,rowQ_all,rowQ_one,rowQ_pure,rowM_all,rowM_one,rowM_pure,sT]) : G := e.mpr h
theorem sLbX {G G' P : Prop} (p : P) (h : G') (e : P → G = G' := by intro p;conv => lhs;simp (disch := omega) only [rowsOf,cNat,cN,St.ret,St.seth,Eff.app,Eff.wi,sepL,guardOf,St.known,objOf,List.set,sliceW,litW,copyW,lenOf,bnd,mxOk,ofCells,TI.isAgg,cellsOf,storable,AV.one,dead,laid,overlay,reduceCtorEq,Int.reduceLE,Int.reduceLT,Int.reduceSub,Int.reduceAdd,Nat.reduceMul,Int.reduceToNat,Nat.reducePow,Int.reduceNeg,Nat.reduceAdd,Nat.reduceLT,Nat.reduceLeDiff,sA,sB,cQ,rowQ,rowM,tab_length,tab_getD_zero,List.take_length,List.length_append,tab_drop,tab_take,tab_append,tab_nil,rowQ_all,rowQ_one,rowQ_pure,rowM_all,rowM_one,rowM_pure,sT,p]) : G := (e p).mpr h
theorem aLb {G G' : Prop} (h : G') (f : Wr G' → G := by intro h;(repeat (first|(refine W_seqV fun K hK => ?_;(try (refine sLb ?_;try exact True.intro));(repeat refine aI ?_);refine hK _ ?_;clear hK K)|(refine W_seqR fun K hK => ?_;(try (refine sLb ?_;try exact True.intro));(repeat refine aI ?_);refine hK _ ?_;clear hK K)|(refine W_seqD mixed [] (by kernel_rfl) fun K hK => ?_;(try (refine sLb ?_;try exact True.intro));(repeat refine aI ?_);refine hK _ ?_;clear hK K)));exact h.out) : G := f ⟨h⟩
structure FOk (f : List (Int × RR)) (B : Nat) : Prop where
 ok : ∀ p ∈ f,p.2.ok
 sz : Sz (vals f) B
theorem vals_length (f : List (Int × RR)) : (vals f).length = f.length := by simp [vals]
theorem vals_append (f g : List (Int × RR)) : vals (f ++ g) = vals f ++ vals g := by simp [vals]
theorem FOk.len {f : List (Int × RR)} {B : Nat} (h : FOk f B) : f.length ≤ B := by
 have := h.sz.l
 rwa [vals_length] at this
theorem FOk.take {f : List (Int × RR)} {B : Nat} (h : FOk f B) (n : Nat) : FOk (f.take n) B := by
 refine ⟨fun p hp => h.ok p (List.mem_of_mem_take hp),?_⟩
 have h1 := h.sz
 rw [← List.take_append_drop n f,vals_append] at h1
 exact h1.left
theorem FOk.drop {f : List (Int × RR)} {B : Nat} (h : FOk f B) (n : Nat) : FOk (f.drop n) B := by
 refine ⟨fun p hp => h.ok p (List.mem_of_mem_drop hp),?_⟩
 have h1 := h.sz
 rw [← List.take_append_drop n f,vals_append] at h1
 exact h1.right
theorem FOk.rf {l : List (Int × Rat)} {B : Nat} (h : Sz l B) (hB : B < 17179869184) : FOk (rf l) B := by
 refine ⟨fun p hp => ?_,by rw [vals_rf];exact h⟩
 simp only [Vm.rf,List.mem_map] at hp
 obtain ⟨q,hq,rfl⟩ := hp
 exact qr_ok (Nat.lt_of_le_of_lt (h.mem hq) hB)
theorem rs_eq (q : Rat) : (q.num.sign == 0) = decide (q = 0) := by
 by_cases h : q = 0
 ·subst h;rfl
 ·rw [decide_eq_false h,beq_eq_false_iff_ne]
  intro h0
  exact h (Rat.num_eq_zero.1 (Int.sign_eq_zero_iff_zero.1 h0))
theorem half_lt {n : Nat} (h : 2 ≤ n) : n / 2 < n ∧ 0 < n / 2 := by omega
set_option maxHeartbeats 4000000 in
theorem lnorm_new (f : List (Int × RR)) {B : Nat} (h : FOk f B) (hB : B < 17179869184) : New Tryz.prog 108 [cF f] 55 4 (· = tab rowQ (normF (vals f))) := by
 induction hn : f.length using Nat.strongRecOn generalizing f with
 | _ n ih =>
  have hlen := h.len
  match f,hn with
  | [],_ =>
   (refine new_of_W (T := 55) (k := 4) Tryz.func108 rfl (rs := [Go.ResultVar.tmp 2]) rfl (nt := 39) rfl ?_;simp only [List.length_cons,List.length_nil,List.replicate,List.cons_append,List.nil_append])
   simp only [cF]
   (repeat' (first | (exfalso;simp at h;done) | refine W_block ?_ | (refine W_seqV fun K hK => ?_;(try (refine sLb ?_));refine hK _ ?_;clear hK K) | (refine W_ret ?_;(refine qG ?_)) | (refine W_cond rfl (fun h => ?_) (fun h => ?_) <;> (try simp only [cond_true,cond_false,ne_eq,cB] at h)) | refine W_seq ?_))
   rfl
  | [p],hn =>
   have hg := rsign_ok p.2 (h.ok p List.mem_cons_self)
   have hm := rnorm_ok p.2 (h.ok p List.mem_cons_self)
   obtain ⟨v,r⟩ := p
   have heq := rs_eq r.v
   simp only [RR.av] at hg hm
   try dsimp only at hg hm heq
   by_cases h0 : r.v = 0
   ·rw [decide_eq_true h0] at heq
    have hv : vals [(v,r)] = [(v,0)] := by simp [vals,h0]
    have hnn : normF [(v,(0 : Rat))] = [] := by simp [normF,mergeF]
    rw [hv,hnn]
    (refine new_of_W (T := 55) (k := 4) Tryz.func108 rfl (rs := [Go.ResultVar.tmp 2]) rfl (nt := 39) rfl ?_;simp only [List.length_cons,List.length_nil,List.replicate,List.cons_append,List.nil_append])
    simp only [cF]
    (refine aLb ?_)
    refine W_seq ?_
    ((refine W_seqV ?_);intro K hK;(refine sLb ?_))
    (refine hK _ ?_;clear hK K)
    refine W_block ?_
    refine W_seq ?_
    ((refine W_regV ?_);intro K hK;(refine sLb ?_))
    (refine hK _ ?_;clear hK K)
    (refine W_cf rfl ?_)
    refine W_seq ?_
    ((refine W_regV ?_);intro K hK;(refine sLb ?_))
    (refine hK _ ?_;clear hK K)
    (refine W_ct rfl ?_)
    refine W_seq ?_
    refine W_seq ?_
    ((refine W_regV ?_);intro K hK;(refine sLb ?_))
    (refine ⟨by kernel_rfl,_,.pure rfl (hg),?_⟩;(try (refine sLb ?_)))
    (refine sLbX heq ?_;try exact True.intro)
    (refine hK _ ?_;clear hK K)
    (refine W_ct rfl ?_)
    ((refine W_seqV ?_);intro K hK;(refine sLb ?_))
    (refine hK _ ?_;clear hK K)
    refine W_ret ?_
    (refine qG ?_;try exact True.intro)
    try rfl
   ·rw [decide_eq_false h0] at heq
    have hv : normF (vals [(v,r)]) = [(v,r.v)] := by simp [vals,normF,mergeF,h0]
    rw [hv]
    (refine new_of_W (T := 55) (k := 4) Tryz.func108 rfl (rs := [Go.ResultVar.tmp 2]) rfl (nt := 39) rfl ?_;simp only [List.length_cons,List.length_nil,List.replicate,List.cons_append,List.nil_append])
    simp only [cF]
    (refine aLb ?_)
    refine W_seq ?_
    ((refine W_seqV ?_);intro K hK;(refine sLb ?_))
    (refine hK _ ?_;clear hK K)
    refine W_block ?_
    refine W_seq ?_
    ((refine W_regV ?_);intro K hK;(refine sLb ?_))
    (refine hK _ ?_;clear hK K)
    (refine W_cf rfl ?_)
    refine W_seq ?_
    ((refine W_regV ?_);intro K hK;(refine sLb ?_))
    (refine hK _ ?_;clear hK K)
    (refine W_ct rfl ?_)
    refine W_seq ?_
    refine W_seq ?_
    ((refine W_regV ?_);intro K hK;(refine sLb ?_))
    (refine ⟨by kernel_rfl,_,.pure rfl (hg),?_⟩;(try (refine sLb ?_)))
    (refine sLbX heq ?_;try exact True.intro)
    (refine hK _ ?_;clear hK K)
    (refine W_cf rfl ?_)
    refine W_skip ?_
    simp only [thenW]
    ((refine W_seqS mixed 10 [] (by kernel_rfl) ?_);intro K hK;(refine sLb ?_))
    (refine ⟨by kernel_rfl,_,.pure rfl (hm),?_⟩;(try (refine sLb ?_)))
    (refine hK _ ?_;clear hK K)
    refine W_ret ?_
    (refine qG ?_;try exact True.intro)
    exact ⟨_,by simp,rfl,rfl,by simp [tab,rowQ]⟩
  | p::q::g,hn =>
   obtain ⟨l1,l2⟩ := half_lt (n := (p::q::g).length) (by simp)
   generalize hfe : p::q::g = f at *
   have ht := (ih (f.take (f.length / 2)).length (by rw [List.length_take];omega) (f.take (f.length / 2)) (h.take _) rfl).pure
   have hd := (ih (f.drop (f.length / 2)).length (by rw [List.length_drop];omega) (f.drop (f.length / 2)) (h.drop _) rfl).pure
   have hv1 : vals f = vals (f.take (f.length / 2)) ++ vals (f.drop (f.length / 2)) := by
    simp only [vals];rw [← List.map_append,List.take_append_drop]
   have hsz := h.sz
   rw [hv1] at hsz
   have hsz2 : Sz (normF (vals (f.take (f.length / 2))) ++ normF (vals (f.drop (f.length / 2)))) B := by
    refine ⟨fun v => ?_,?_⟩
    ·have h1 := hsz.b v
     rw [nbv_append] at h1 ⊢
     have := nbv_norm v (vals (f.take (f.length / 2)))
     have := nbv_norm v (vals (f.drop (f.length / 2)))
     omega
    ·have h1 := hsz.l
     rw [List.length_append] at h1 ⊢
     have := len_norm (vals (f.take (f.length / 2)))
     have := len_norm (vals (f.drop (f.length / 2)))
     omega
   have hs := sum_new _ _ hsz2 hB
   rw [norm_split,← hv1] at hs
   have h3 : 2 ≤ f.length := by rw [← hfe];simp
   clear hfe ih
   have ht' := ht.mono (R' := (· = cL (normF (vals (f.take (f.length / 2)))))) fun r hr => by obtain ⟨rows,rfl,rfl⟩ := hr;rfl
   have hd' := hd.mono (R' := (· = cL (normF (vals (f.drop (f.length / 2)))))) fun r hr => by obtain ⟨rows,rfl,rfl⟩ := hr;rfl
   (refine new_of_W (T := 55) (k := 4) Tryz.func108 rfl (rs := [Go.ResultVar.tmp 2]) rfl (nt := 39) rfl ?_;simp only [List.length_cons,List.length_nil,List.replicate,List.cons_append,List.nil_append])
   simp only [cF,cL] at hs ht' hd' ⊢
   have z0 : ((f.length : Int) == 0) = false := by rw [beq_eq_false_iff_ne];omega
   have z1 : ((f.length : Int) == 1) = false := by rw [beq_eq_false_iff_ne];omega
   (refine aLb ?_)
   refine W_seq ?_
   ((refine W_seqV ?_);intro K hK;(refine sLb ?_))
   (refine hK _ ?_;clear hK K)
   refine W_block ?_
   refine W_seq ?_
   ((refine W_regV ?_);intro K hK;(refine sLbX z0 ?_))
   (refine hK _ ?_;clear hK K)
   (refine W_cf rfl ?_)
   refine W_seq ?_
   ((refine W_regV ?_);intro K hK;(refine sLbX z1 ?_))
   (refine hK _ ?_;clear hK K)
   (refine W_cf rfl ?_)
   refine W_skip ?_
   simp only [thenW,blockW]
   have hw : IntKind.wrap .i64 ((f.length : Int).tdiv 2) = ((f.length / 2 : Nat) : Int) := by
    rw [show (f.length : Int).tdiv 2 = ((f.length / 2 : Nat) : Int) from rfl]
    exact wrap_i64_nat (by omega)
   ((refine W_seqV ?_);intro K hK;(refine sLbX hw ?_))
   (repeat refine aI ?_);refine hK _ ?_;clear hK K
   ((refine W_seqS mixed 8 [] (by kernel_rfl) ?_);intro K hK;(refine sLb ?_))
   ((repeat refine aI ?_);refine ⟨by kernel_rfl,_,.pure rfl (ht'),?_⟩;(try (refine sLb ?_));(repeat refine aI ?_))
   (refine ⟨by kernel_rfl,_,.pure rfl (hd'),?_⟩;(try (refine sLb ?_)))
   (refine ⟨by kernel_rfl,call_new 38 rfl rfl (hs) fun rows hr => ?_⟩;subst hr;(try (refine sLb ?_)))
   (refine hK _ ?_;clear hK K)
   refine W_ret ?_
   (refine qG ?_;try exact True.intro)
   exact ⟨tab rowQ (normF (vals f)),by simp,by simp [tab_length],rfl,rfl⟩
theorem lnorm_ok (f : List (Int × RR)) {B : Nat} (h : FOk f B) (hB : B < 17179869184) : Pure Tryz.prog 108 [cF f] (· = cL (normF (vals f))) :=
 (lnorm_new f h hB).pure.mono fun r h => by obtain ⟨rows,rfl,rfl⟩ := h;rfl
set_option maxHeartbeats 1000000 in
theorem ladd_new (f g : List (Int × RR)) {B C : Nat} (hf : FOk f B) (hg : FOk g C) (hs : B + C < 17179869184) : New Tryz.prog 130 [cF f,cF g] 55 4 (· = tab rowQ (normF (vals f ++ vals g))) := by
 have h1 := lnorm_ok f hf (by omega)
 have h2 := lnorm_ok g hg (by omega)
 have h3 := sum_new (normF (vals f)) (normF (vals g)) (hf.sz.norm.append hg.sz.norm) hs
 rw [norm_split] at h3
 (refine new_of_W (T := 55) (k := 4) Tryz.func130 rfl (rs := [Go.ResultVar.tmp 4]) rfl (nt := 10) rfl ?_;simp only [List.length_cons,List.length_nil,List.replicate,List.cons_append,List.nil_append])
 simp only [cF,cL] at h1 h2 h3 ⊢
 (refine aLb ?_)
 ((refine W_seqR ?_);intro K hK;(refine sLb ?_))
 (refine ⟨by kernel_rfl,call_pure rfl (h1) fun r hr => ?_⟩;subst hr;(refine sLb ?_;try exact True.intro))
 (refine ⟨by kernel_rfl,call_pure rfl (h2) fun r hr => ?_⟩;subst hr;(refine sLb ?_;try exact True.intro))
 (refine ⟨by kernel_rfl,call_new 9 rfl rfl (h3) fun rows hr => ?_⟩;subst hr;(try (refine sLb ?_)))
 (refine hK _ ?_;clear hK K)
 refine W_ret ?_
 (refine qG ?_;try exact True.intro)
 exact ⟨tab rowQ (normF (vals f ++ vals g)),by simp,by simp [tab_length],rfl,rfl⟩
theorem ladd_ok (f g : List (Int × RR)) {B C : Nat} (hf : FOk f B) (hg : FOk g C) (hs : B + C < 17179869184) : Pure Tryz.prog 130 [cF f,cF g] (· = cL (normF (vals f ++ vals g))) :=
 (ladd_new f g hf hg hs).pure.mono fun r h => by obtain ⟨rows,rfl,rfl⟩ := h;rfl
set_option maxHeartbeats 4000000 in
theorem lscale_new (r : RR) (f : List (Int × RR)) {B : Nat} (hr : r.ok) (hf : FOk f B) (hs : nb r.v + B < 17179869184) :
  New Tryz.prog 131 [r.av,cF f] 55 4 (· = tab rowQ (if r.v = 0 then [] else scaleF r.v (normF (vals f)))) := by
 have hg := rsign_ok r hr
 have heq := rs_eq r.v
 have hn := lnorm_new f hf (by omega)
 have hsz := hf.sz.norm
 have hlen := hsz.l
 have hmul : ∀ p ∈ normF (vals f),Pure Tryz.prog 169 [r.av,cQ p.2] (· = cQ (r.v * p.2)) := fun p hp => by
  have hb := hsz.mem hp
  have := rmul_ok r (qr p.2) hr (qr_ok (by omega))
  rwa [qr_v] at this
 generalize normF (vals f) = l at *
 obtain ⟨neg,n,d⟩ := r
 simp only [RR.av] at hg hmul ⊢
 generalize RR.v _ = c at *
 by_cases h0 : c = 0
 ·rw [decide_eq_true h0] at heq
  rw [if_pos h0]
  (refine new_of_W (T := 55) (k := 4) Tryz.func131 rfl (rs := [Go.ResultVar.tmp 4]) rfl (nt := 30) rfl ?_;simp only [List.length_cons,List.length_nil,List.replicate,List.cons_append,List.nil_append])
  simp only [cF]
  (refine aLb ?_)
  refine W_seq ?_
  ((refine W_seqV ?_);intro K hK;(refine sLb ?_))
  (refine ⟨by kernel_rfl,_,.pure rfl (hg),?_⟩;(try (refine sLb ?_)))
  (refine sLbX heq ?_;try exact True.intro)
  (refine hK _ ?_;clear hK K)
  (refine W_ct rfl ?_)
  ((refine W_seqV ?_);intro K hK;(refine sLb ?_))
  (refine hK _ ?_;clear hK K)
  refine W_ret ?_
  (refine qG ?_;try exact True.intro)
  rfl
 ·rw [decide_eq_false h0] at heq
  rw [if_neg h0]
  (refine new_of_W (T := 55) (k := 4) Tryz.func131 rfl (rs := [Go.ResultVar.tmp 4]) rfl (nt := 30) rfl ?_;simp only [List.length_cons,List.length_nil,List.replicate,List.cons_append,List.nil_append])
  simp only [cF] at hn ⊢
  (refine aLb ?_)
  refine W_seq ?_
  ((refine W_seqV ?_);intro K hK;(refine sLb ?_))
  (refine ⟨by kernel_rfl,_,.pure rfl (hg),?_⟩;(try (refine sLb ?_)))
  (refine sLbX heq ?_;try exact True.intro)
  (refine hK _ ?_;clear hK K)
  (refine W_cf rfl ?_)
  refine W_skip ?_
  simp only [thenW]
  ((refine W_seqR ?_);intro K hK;(refine sLb ?_))
  (refine ⟨by kernel_rfl,call_new 11 rfl rfl (hn) fun rows hr => ?_⟩;subst hr;(try (refine sLb ?_)))
  (refine hK _ ?_;clear hK K)
  ((refine W_seq (W_seqV ?_));intro K hK;(refine sLb ?_))
  (refine hK _ ?_;clear hK K)
  refine W_block (W_loop (fun t : {t : Nat // t ≤ l.length} =>
   ⟨[.any,.any,.ptr 2 0 0,.any,.any,.sref 11 0 l.length,.any,.any,.any,.any,.any,.any,.any,.int .i64 l.length,.int .i64 t.1,.any,.any,.any,.any,.any,.any,.any,.any,.any,.any,.any,.any,.any,.any,.any],[.dead,.dead,.arr 53 3 false [[.bool neg,.sl (u32s n),.sl (u32s d)]],.dead,.dead,.dead,.dead,.dead,.dead,.dead,.dead,.arr 55 4 true (tab rowQ (scaleF c (l.take t.1) ++ l.drop t.1)),.dead,.dead,.dead,.dead,.dead,.dead,.dead,.dead,.dead,.dead,.dead,.dead,.dead,.dead,.dead,.dead,.dead,.dead]⟩) (fun t => l.length - t.1)
   ⟨0,by omega⟩ (Le_of (by simp [leE]) (by simp [scaleF])) fun t => ?_)
  obtain ⟨i,hi⟩ := t
  dsimp only
  have hle : (scaleF c (l.take i) ++ l.drop i).length = l.length := by simp [scaleF];omega
  by_cases hlt : i < l.length
  ·have hmem : l.getD i default ∈ l := by simp [List.getD_eq_getElem?_getD,hlt]
   have hX2 : (scaleF c (l.take i) ++ l.drop i).getD i default = l.getD i default := by
    have h1 : (scaleF c (l.take i)).length = i := by simp [scaleF];omega
    rw [List.getD_eq_getElem?_getD,List.getElem?_append_right (by omega),h1,List.getElem?_drop]
    simp [List.getD_eq_getElem?_getD]
   have hset : (scaleF c (l.take i) ++ l.drop i).set i ((l.getD i default).1,c * (l.getD i default).2) = scaleF c (l.take (i + 1)) ++ l.drop (i + 1) := by
    have h1 : (scaleF c (l.take i)).length = i := by simp [scaleF];omega
    rw [List.set_append_right _ _ (by omega),h1,Nat.sub_self,List.drop_eq_getElem_cons hlt,List.set_cons_zero,List.take_succ_eq_append_getElem hlt]
    simp only [scaleF,List.map_append,List.map_cons,List.map_nil,List.append_assoc,List.cons_append,List.nil_append]
    simp [List.getD_eq_getElem?_getD,hlt]
   have hm := hmul _ hmem
   generalize hXe : scaleF c (l.take i) ++ l.drop i = X at *
   generalize hpe : l.getD i default = p at *
   have htset := congrArg (tab rowQ) hset
   rw [← tab_set] at htset
   have hcol : ((i : Nat) : Int) < ((l.length : Nat) : Int) := by omega
   have hXi : (tab rowQ X).getD i [] = rowQ p := by rw [tab_getD (by omega),hX2]
   simp only [rowQ] at htset hXi
   simp only [cQ] at hm
   refine W_seq ?_
   ((refine W_regV ?_);intro K hK;(refine sLbX hlt ?_))
   (refine hK _ ?_;clear hK K)
   (refine W_seq (W_ct rfl ?_))
   refine W_skip ?_
   simp only [thenW]
   refine W_seq ?_
   refine W_block ?_
   ((refine W_seqV ?_);intro K hK;(refine sLb ?_))
   (refine hK _ ?_;clear hK K)
   ((refine W_regS mixed 11 [] (by kernel_rfl) fun K hK => ?_);(refine sLbX hXi ?_))
   ((repeat refine aI ?_);refine ⟨by kernel_rfl,_,.pure rfl (hm),?_⟩;(try (refine sLb ?_));(repeat refine aI ?_))
   (refine hK _ ?_;clear hK K)
   simp only [blockW,thenW]
   ((refine W_regV ?_);intro K hK;(refine sLb ?_))
   (refine hK _ ?_;clear hK K)
   try simp only [blockW,thenW]
   refine ⟨⟨i + 1,by omega⟩,Le_drop (by simp [leE]) (by simp [leH,htset]) rfl rfl,?_⟩
   dsimp only
   omega
  ·obtain rfl : i = l.length := by omega
   refine W_seq ?_
   ((refine W_regV ?_);intro K hK;(refine sLb ?_))
   (refine hK _ ?_;clear hK K)
   (refine W_seq (W_cf rfl ?_))
   refine W_exit ?_
   simp only [thenW,blockW,if_true]
   ((refine W_seqV ?_);intro K hK;(refine sLb ?_))
   (refine hK _ ?_;clear hK K)
   refine W_ret ?_
   (refine qG ?_;try exact True.intro)
   exact ⟨tab rowQ (scaleF c l),by simp,by simp [tab_length,scaleF],by simp,rfl⟩
theorem lscale_ok (r : RR) (f : List (Int × RR)) {B : Nat} (hr : r.ok) (hf : FOk f B) (hs : nb r.v + B < 17179869184) :
  Pure Tryz.prog 131 [r.av,cF f] (· = cL (if r.v = 0 then [] else scaleF r.v (normF (vals f)))) :=
 (lscale_new r f hr hf hs).pure.mono fun r h => by obtain ⟨rows,rfl,rfl⟩ := h;rfl
def negF (l : List (Int × Rat)) : List (Int × Rat) := scaleF (-1) l
theorem nb_m1 : nb (-1) = 2 := by decide
theorem nbv_neg (l : List (Int × Rat)) (v : Int) : nbv (negF l) v = nbv l v := by
 induction l with
 | nil => rfl
 | cons p l ih =>
  simp only [negF,scaleF,List.map_cons,nbv] at *
  rw [ih,show (-1 : Rat) * p.2 = -p.2 by grind,nb_neg]
def subF (f g : List (Int × Rat)) : List (Int × Rat) := normF (f ++ negF (normF g))
theorem coef_sub (f g : List (Int × Rat)) (v : Int) : coef (subF f g) v = coef f v - coef g v := by
 rw [subF,coef_norm,coef_append,negF,coef_scale,coef_norm];grind
theorem NF.sub (f g : List (Int × Rat)) : NF (subF f g) := NF.norm _
theorem Sz.neg {l : List (Int × Rat)} {B : Nat} (h : Sz l B) : Sz (negF l) B := ⟨fun v => by rw [nbv_neg];exact h.b v,by have := h.l;simpa [negF,scaleF] using this⟩
theorem Sz.sub {f g : List (Int × Rat)} {B C : Nat} (hf : Sz f B) (hg : Sz g C) : Sz (subF f g) (B + C) := (hf.append hg.norm.neg).norm
set_option maxHeartbeats 1000000 in
theorem lsub_new (f g : List (Int × RR)) {B C : Nat} (hf : FOk f B) (hg : FOk g C) (hs : B + C < 8589934592) : New Tryz.prog 92 [cF f,cF g] 55 4 (· = tab rowQ (subF (vals f) (vals g))) := by
 have h1 := rwhole_ok (-1) (by decide) (by decide)
 have h2 := lscale_ok (qr (-1)) g (qr_ok (by decide)) hg (by rw [qr_v,nb_m1];omega)
 rw [qr_v,if_neg (by decide),qr_av] at h2
 have h3 := ladd_new f (rf (negF (normF (vals g)))) hf (FOk.rf hg.sz.norm.neg (by omega)) (by omega)
 rw [vals_rf,cF_rf] at h3
 change New _ _ _ _ _ (· = tab rowQ (subF (vals f) (vals g))) at h3
 rw [show ((-1 : Int) : Rat) = (-1 : Rat) from rfl] at h1
 change Pure _ _ _ (· = cL (negF (normF (vals g)))) at h2
 (refine new_of_W (T := 55) (k := 4) Tryz.func92 rfl (rs := [Go.ResultVar.tmp 4]) rfl (nt := 10) rfl ?_;simp only [List.length_cons,List.length_nil,List.replicate,List.cons_append,List.nil_append])
 simp only [cF,cL] at h2 h3 ⊢
 (refine aLb ?_)
 ((refine W_seqR ?_);intro K hK;(refine sLb ?_))
 (refine ⟨by kernel_rfl,call_pure rfl (h1) fun r hr => ?_⟩;subst hr;(refine sLb ?_;try exact True.intro))
 (refine ⟨by kernel_rfl,call_pure rfl (h2) fun r hr => ?_⟩;subst hr;(refine sLb ?_;try exact True.intro))
 (refine ⟨by kernel_rfl,call_new 9 rfl rfl (h3) fun rows hr => ?_⟩;subst hr;(try (refine sLb ?_)))
 (refine hK _ ?_;clear hK K)
 refine W_ret ?_
 (refine qG ?_;try exact True.intro)
 exact ⟨tab rowQ (subF (vals f) (vals g)),by simp,by simp [tab_length],rfl,rfl⟩
theorem lsub_ok (f g : List (Int × RR)) {B C : Nat} (hf : FOk f B) (hg : FOk g C) (hs : B + C < 8589934592) : Pure Tryz.prog 92 [cF f,cF g] (· = cL (subF (vals f) (vals g))) :=
 (lsub_new f g hf hg hs).pure.mono fun r h => by obtain ⟨rows,rfl,rfl⟩ := h;rfl
def cmpF (f g : List (Int × Rat)) : Int := match subF f g with | [] => 0 | p::_ => p.2.num.sign
theorem sJa {G G' : Prop} (h : G') (e : G = G' := by conv => lhs;simp (disch := omega) only [rowsOf,cNat,cN,St.ret,St.seth,Eff.app,Eff.wi,sepL,guardOf,St.known,objOf,List.set,sliceW,litW,copyW,lenOf,bnd,mxOk,ofCells,TI.isAgg,cellsOf,storable,AV.one,dead,laid,overlay,reduceCtorEq,Int.reduceLE,Int.reduceLT,Int.reduceSub,Int.reduceAdd,Nat.reduceMul,Int.reduceToNat,Nat.reducePow,Int.reduceNeg,Nat.reduceAdd,Nat.reduceLT,Nat.reduceLeDiff,sA,sB,cQ,rowM,tab_length,tab_getD_zero,List.take_length,List.length_append,tab_drop,tab_take,tab_append,tab_nil,rowM_all,rowM_one,rowM_pure,rowQ_all,rowQ_one,rowQ_pure,sT]) : G := e.mpr h
theorem sJaX {G G' P : Prop} (p : P) (h : G') (e : P → G = G' := by intro p;conv => lhs;simp (disch := omega) only [rowsOf,cNat,cN,St.ret,St.seth,Eff.app,Eff.wi,sepL,guardOf,St.known,objOf,List.set,sliceW,litW,copyW,lenOf,bnd,mxOk,ofCells,TI.isAgg,cellsOf,storable,AV.one,dead,laid,overlay,reduceCtorEq,Int.reduceLE,Int.reduceLT,Int.reduceSub,Int.reduceAdd,Nat.reduceMul,Int.reduceToNat,Nat.reducePow,Int.reduceNeg,Nat.reduceAdd,Nat.reduceLT,Nat.reduceLeDiff,sA,sB,cQ,rowM,tab_length,tab_getD_zero,List.take_length,List.length_append,tab_drop,tab_take,tab_append,tab_nil,rowM_all,rowM_one,rowM_pure,rowQ_all,rowQ_one,rowQ_pure,sT,p]) : G := (e p).mpr h
theorem sJaV {G G' : Prop} (h : G') (e : G = G' := by conv => lhs;simp (disch := omega) only [rowsOf,cNat,cN,St.ret,St.seth,Eff.app,Eff.wi,sepL,guardOf,St.known,objOf,List.set,sliceW,litW,copyW,lenOf,bnd,mxOk,ofCells,TI.isAgg,cellsOf,storable,AV.one,dead,laid,overlay,reduceCtorEq,Int.reduceLE,Int.reduceLT,Int.reduceSub,Int.reduceAdd,Nat.reduceMul,Int.reduceToNat,Nat.reducePow,Int.reduceNeg,Nat.reduceAdd,Nat.reduceLT,Nat.reduceLeDiff,sA,sB,cQ,rowM,tab_length,tab_getD_zero,List.take_length,List.length_append,tab_drop,tab_take,tab_append,tab_nil,rowM_all,rowM_one,rowM_pure,rowQ_all,rowQ_one,rowQ_pure,sT,view_sref,viewRef,view_agg,views_cons,views_nil,view_bool,view_int,view_sl,view_nils,view_str,view_tup,view_nilif]) : G := e.mpr h
theorem aJa {G G' : Prop} (h : G') (f : Wr G' → G := by intro h;(repeat (first|(refine W_seqV fun K hK => ?_;(try (refine sJa ?_;try exact True.intro));(repeat refine aI ?_);refine hK _ ?_;clear hK K)|(refine W_seqR fun K hK => ?_;(try (refine sJa ?_;try exact True.intro));(repeat refine aI ?_);refine hK _ ?_;clear hK K)|(refine W_seqD mixed [] (by kernel_rfl) fun K hK => ?_;(try (refine sJa ?_;try exact True.intro));(repeat refine aI ?_);refine hK _ ?_;clear hK K)));exact h.out) : G := f ⟨h⟩
theorem f6zero_ok : Pure Tryz.prog 80 [] (· = cQ 0) := by
 have h1 := f3whole_ok 0 (by omega) (by omega)
 change Pure _ _ _ (· = cQ 0) at h1
 generalize (0 : Rat) = q at *
 simp only [cQ] at h1
 (refine pureW Tryz.func80 rfl (rs := [Go.ResultVar.cell 0 53]) rfl (n := 2) rfl ?_;simp only [List.length_cons,List.length_nil,List.replicate,List.cons_append,List.nil_append])
 (refine aJa ?_)
 ((refine W_seqV ?_);intro K hK;(refine sJa ?_))
 (refine ⟨by kernel_rfl,_,.pure rfl (h1),?_⟩;(try (refine sJa ?_)))
 (refine hK _ ?_;clear hK K)
 refine W_ret ?_
 (refine qG ?_;try exact True.intro);try (refine sJaV ?_;try exact True.intro)
theorem coef_take (v : Int) (f : List (Int × Rat)) {i : Nat} (h : i < f.length) : coef (f.take (i + 1)) v = coef (f.take i) v + if (f.getD i default).1 = v then (f.getD i default).2 else 0 := by
 rw [List.take_succ_eq_append_getElem h,coef_append]
 have : f.getD i default = f[i] := by simp [List.getD_eq_getElem?_getD,h]
 rw [this]
 simp only [coef]
 grind
theorem nb_coef (l : List (Int × Rat)) (v : Int) : nb (coef l v) ≤ 1 + nbv l v := by
 induction l with
 | nil => simp [coef,nb_zero]
 | cons p l ih =>
  simp only [coef,nbv]
  split
  ·have := nb_add p.2 (coef l v);omega
  ·rw [Rat.zero_add];omega
theorem nbv_take (f : List (Int × Rat)) (v : Int) (i : Nat) : nbv (f.take i) v ≤ nbv f v := by
 induction f generalizing i with
 | nil => simp
 | cons p f ih =>
  cases i with
  | zero => simp [nbv]
  | succ i => have := ih i;simp only [List.take_succ_cons,nbv];omega
structure PF (f : List (Int × RR)) (B : Nat) : Prop where
 ok : ∀ p ∈ f,p.2.ok
 pre : ∀ i v,nb (coef ((vals f).take i) v) ≤ B
 len : f.length < 549755813888
theorem FOk.pf {f : List (Int × RR)} {B : Nat} (h : FOk f B) (hB : B < 549755813888) : PF f (1 + B) :=
 ⟨h.ok,fun i v => by
  have h1 := nb_coef ((vals f).take i) v
  have h2 := nbv_take (vals f) v i
  have h3 := h.sz.b v
  omega,by have := h.len;omega⟩
theorem PF.coef {f : List (Int × RR)} {B : Nat} (h : PF f B) (v : Int) : nb (coef (vals f) v) ≤ B := by
 have := h.pre (vals f).length v
 rwa [List.take_length] at this
theorem PF.mono {f : List (Int × RR)} {B C : Nat} (h : PF f B) (hc : B ≤ C) : PF f C := ⟨h.ok,fun i v => Nat.le_trans (h.pre i v) hc,h.len⟩
theorem PF.append {f g : List (Int × RR)} {B C : Nat} (hf : PF f B) (hg : PF g C) (hl : f.length + g.length < 549755813888) : PF (f ++ g) (B + C) := by
 refine ⟨fun p hp => (List.mem_append.1 hp).elim (hf.ok p) (hg.ok p),fun i v => ?_,by simpa using hl⟩
 rw [vals_append,List.take_append,coef_append]
 have h1 := hf.pre i v
 have h2 := hg.pre (i - (vals f).length) v
 have h3 := nb_add (Vm.coef ((vals f).take i) v) (Vm.coef ((vals g).take (i - (vals f).length)) v)
 omega
theorem PF.scale {f : List (Int × RR)} {B C : Nat} (hf : PF f B) {c : Rat} (h : ∀ p ∈ f,nb c + nb p.2.v < 17179869184) (hc : nb c ≤ C) : PF (rf (scaleF c (vals f))) (C + B) := by
 refine ⟨fun p hp => ?_,fun i v => ?_,by simpa [rf,scaleF,vals] using hf.len⟩
 ·simp only [rf,scaleF,vals,List.mem_map] at hp
  obtain ⟨_,⟨_,⟨p,hp,rfl⟩,rfl⟩,rfl⟩ := hp
  have h1 := h p hp
  have h2 := nb_mul c p.2.v
  exact qr_ok (by dsimp only;omega)
 ·rw [vals_rf]
  have h0 : (scaleF c (vals f)).take i = scaleF c ((vals f).take i) := by simp [scaleF,List.map_take]
  rw [h0,coef_scale]
  have h1 := hf.pre i v
  have h2 := nb_mul c (Vm.coef ((vals f).take i) v)
  omega
theorem PF.rf_nf {l : List (Int × Rat)} (h : NF l) {B : Nat} (hb : ∀ v,nb (Vm.coef l v) ≤ B) (hB : B < 17179869184) (hl : l.length < 549755813888) : PF (rf l) (B + 1) := by
 have hm : ∀ p ∈ l,nb p.2 ≤ B := fun p hp => by have := hb p.1;rwa [h.coef_zero hp] at this
 refine ⟨fun p hp => ?_,fun i v => ?_,by simpa [rf] using hl⟩
 ·simp only [rf,List.mem_map] at hp
  obtain ⟨p,hp,rfl⟩ := hp
  exact qr_ok (by have := hm p hp;omega)
 ·rw [vals_rf]
  have hn : NF (l.take i) := ⟨h.lt.sublist (List.take_sublist _ _),fun p hp => h.nz p (List.mem_of_mem_take hp)⟩
  by_cases h0 : Vm.coef (l.take i) v = 0
  ·rw [h0,nb_zero];omega
  ·obtain ⟨p,hp,rfl⟩ := NF.mem_of_coef h0
   rw [hn.coef_zero hp]
   have := hm p (List.mem_of_mem_take hp)
   omega
theorem f6coef_ok (f : List (Int × RR)) (v : Int) {B : Nat} (hf : PF f B) (hB : B ≤ 8589934592) :
  Pure Tryz.prog 91 [cF f,.int .i64 v] (· = cQ (coef (vals f) v)) := by
 have hz := f6zero_ok
 have hfl := hf.len
 have hvl : (vals f).length = f.length := by simp [vals]
 have hnv : ∀ i,nb (coef ((vals f).take i) v) ≤ 8589934592 := fun i => Nat.le_trans (hf.pre i v) hB
 have hst : ∀ i,i < f.length → coef ((vals f).take (i + 1)) v = coef ((vals f).take i) v + if (f.getD i default).1 = v then (f.getD i default).2.v else 0 := fun i hi => by
  rw [coef_take _ _ (by omega)]
  have : (vals f).getD i default = ((f.getD i default).1,(f.getD i default).2.v) := by simp [vals,List.getD_eq_getElem?_getD,hi]
  rw [this]
 have h0 : coef ((vals f).take 0) v = 0 := rfl
 have hlast : (vals f).take f.length = vals f := List.take_of_length_le (by omega)
 have hok : ∀ i,i < f.length → (f.getD i default).2.ok := fun i hi => hf.ok _ (by simp [List.getD_eq_getElem?_getD,hi])
 rw [← hlast]
 generalize hE : (fun i => coef ((vals f).take i) v) = E at *
 have hE' : ∀ i,coef ((vals f).take i) v = E i := fun i => congrFun hE i
 simp only [hE'] at *
 clear hE hE' hlast
 simp only [cQ] at hz
 (refine pureW Tryz.func91 rfl (rs := [Go.ResultVar.cell 4 53]) rfl (n := 29) rfl ?_;simp only [List.length_cons,List.length_nil,List.replicate,List.cons_append,List.nil_append])
 simp only [cF]
 (refine aJa ?_)
 ((refine W_seqV ?_);intro K hK;(refine sJa ?_))
 (refine ⟨by kernel_rfl,_,.pure rfl (hz),?_⟩;(try (refine sJa ?_)))
 (refine hK _ ?_;clear hK K)
 ((refine W_seq (W_seqV ?_));intro K hK;(refine sJa ?_))
 (refine hK _ ?_;clear hK K)
 refine W_block (W_loop (fun t : {t : Nat // t ≤ f.length} =>
   ⟨[.sl (tab rowM f),.int .i64 v,.any,.any,.ptr 4 0 0,.ptr 5 0 0,.int .i64 t.1,.any,.any,.any,.any,.any,.any,.any,.any,.any,.any,.any,.any,.any,.any,.any,.any,.any,.any,.any,.any,.any,.any],[.dead,.dead,.dead,.dead,.arr 53 3 false [[.bool false,.nils,.nils]],.arr 53 3 false [[.bool (decide ((E t.1).num < 0)),.sl (u32s (limbs (E t.1).num.natAbs)),.sl (u32s (limbs (E t.1).den))]],.dead,.dead,.dead,.dead,.dead,.dead,.dead,.dead,.dead,.dead,.dead,.dead,.dead,.dead,.dead,.dead,.dead,.dead,.dead,.dead,.dead,.dead,.dead]⟩) (fun t => f.length - t.1)
   ⟨0,by omega⟩ (Le_of (by simp [leE]) (by simp [h0])) fun t => ?_)
 obtain ⟨i,hi⟩ := t
 dsimp only
 by_cases hlt : i < f.length
 ·have hXi : (tab rowM f).getD i [] = rowM (f.getD i default) := tab_getD hlt
  have hsi := hst i hlt
  have hp1 := hok i hlt
  have hni := hnv i
  generalize f.getD i default = p at *
  simp only [rowM] at hXi
  refine W_seq ?_
  ((refine W_seqV ?_);intro K hK;(refine sJaX hlt ?_))
  (refine hK _ ?_;clear hK K)
  (refine W_ct rfl ?_)
  refine W_skip ?_
  simp only [thenW]
  refine W_seq ?_
  refine W_block ?_
  ((refine W_seqV ?_);intro K hK;(refine sJaX (And.intro hXi hlt) ?_))
  (refine hK _ ?_;clear hK K)
  by_cases hv : p.1 = v
  ·rw [if_pos hv] at hsi
   have hadd := f3add_ok (qr (E i)) p.2 (qr_ok (by omega)) hp1
   rw [qr_v,← hsi] at hadd
   simp only [RR.av,qr,cQ] at hadd
   have hb : (p.1 == v) = true := by simp [hv]
   rw [hb]
   (refine W_ct rfl ?_)
   ((refine W_regD mixed [] (by kernel_rfl) ?_);intro K hK;(refine sJaX (And.intro hXi hlt) ?_))
   (refine ⟨by kernel_rfl,_,.pure rfl (hadd),?_⟩;(try (refine sJa ?_)))
   (refine hK _ ?_;clear hK K)
   simp only [blockW,thenW]
   ((refine W_regV ?_);intro K hK;(refine sJa ?_))
   (refine hK _ ?_;clear hK K)
   simp only [blockW,thenW]
   refine ⟨⟨i + 1,by omega⟩,Le_drop (by simp [leE]) (by simp [leH]) rfl rfl,?_⟩
   dsimp only
   omega
  ·rw [if_neg hv,Rat.add_zero] at hsi
   have hb : (p.1 == v) = false := by simp [hv]
   rw [hb]
   (refine W_cf rfl ?_)
   refine W_skip ?_
   simp only [blockW,thenW]
   ((refine W_regV ?_);intro K hK;(refine sJa ?_))
   (refine hK _ ?_;clear hK K)
   simp only [blockW,thenW]
   refine ⟨⟨i + 1,by omega⟩,Le_drop (by simp [leE]) (by simp [leH,hsi]) rfl rfl,?_⟩
   dsimp only
   omega
 ·obtain rfl : i = f.length := by omega
  refine W_seq ?_
  ((refine W_seqV ?_);intro K hK;(refine sJa ?_))
  (refine hK _ ?_;clear hK K)
  (refine W_cf rfl ?_)
  refine W_exit ?_
  simp only [thenW,blockW,if_true]
  ((refine W_seqV ?_);intro K hK;(refine sJa ?_))
  (refine hK _ ?_;clear hK K)
  refine W_ret ?_
  (refine qG ?_;try exact True.intro);try (refine sJaV ?_;try exact True.intro)
end Go.Proofs.YtjmpajgjaefcjaaGreat.Vm
namespace Go.Proofs.YtjmpajgjaefcjaaGreat.Vm
open Go Go.RowKit
set_option linter.unusedVariables false
set_option linter.unusedSimpArgs false
theorem i64s_take (l : List Int) (n : Nat) : (i64s l).take n = i64s (l.take n) := by simp [i64s,List.map_take]
theorem i64s_drop (l : List Int) (n : Nat) : (i64s l).drop n = i64s (l.drop n) := by simp [i64s,List.map_drop]
theorem i64s_set (l : List Int) (n : Nat) (x : Int) : (i64s l).set n [.int .i64 x] = i64s (l.set n x) := by simp [i64s,List.map_set]
theorem i64s_append (l m : List Int) : i64s l ++ i64s m = i64s (l ++ m) := by simp [i64s]
theorem i64s_one (l : List Int) : AllOne (i64s l) := by
 intro r hr
 simp only [i64s,List.mem_map] at hr
 obtain ⟨x,_,rfl⟩ := hr
 rfl
theorem i64s_pure (l : List Int) : AllPure (i64s l) := by
 intro r hr
 simp only [i64s,List.mem_map] at hr
 obtain ⟨x,_,rfl⟩ := hr
 rfl
def insI (x : Int) : List Int → List Int
 | [] => [x]
 | y::l => if y < x then y::insI x l else if y = x then y::l else x::y::l
def sortI (l : List Int) : List Int := l.foldl (fun o x => insI x o) []
theorem insI_at {x : Int} : ∀ {out : List Int} {k : Nat},k ≤ out.length → (∀ j,j < k → out.getD j 0 < x) → (k = out.length ∨ x ≤ out.getD k 0) →
  insI x out = if k < out.length ∧ out.getD k 0 = x then out else out.take k ++ x::out.drop k
 | [],k,h0,_,_ => by
  obtain rfl : k = 0 := by simpa using h0
  simp [insI]
 | y::out,0,_,_,h2 => by
  have h3 : x ≤ y := by simpa using h2
  simp only [insI,if_neg (show ¬ y < x by omega)]
  simp
 | y::out,k + 1,h0,h1,h2 => by
  have h3 : y < x := by simpa using h1 0 (by omega)
  have := insI_at (x := x) (out := out) (k := k) (by simpa using h0) (fun j hj => by simpa using h1 (j + 1) (by omega)) (by simpa using h2)
  simp only [insI,if_pos h3,this]
  simp only [List.length_cons,List.getD_cons_succ,List.take_succ_cons,List.drop_succ_cons,Nat.add_lt_add_iff_right]
  split <;> simp
theorem mem_insI {x y : Int} : ∀ {l : List Int},y ∈ insI x l ↔ y = x ∨ y ∈ l
 | [] => by simp [insI]
 | z::l => by
  have ih := mem_insI (x := x) (y := y) (l := l)
  simp only [insI]
  split
  ·simp only [List.mem_cons,ih];grind
  ·split
   ·rename_i h;subst h;simp
   ·simp
theorem insI_lt {x : Int} : ∀ {l : List Int},l.Pairwise (· < ·) → (insI x l).Pairwise (· < ·)
 | [],_ => by simp [insI]
 | z::l,h => by
  have ih := insI_lt (x := x) (List.pairwise_cons.1 h).2
  have hz := (List.pairwise_cons.1 h).1
  simp only [insI]
  split
  ·refine List.pairwise_cons.2 ⟨fun y hy => ?_,ih⟩
   rcases mem_insI.1 hy with rfl | hy
   ·assumption
   ·exact hz y hy
  ·split
   ·exact h
   ·refine List.pairwise_cons.2 ⟨fun y hy => ?_,h⟩
    rcases List.mem_cons.1 hy with rfl | hy
    ·omega
    ·have := hz y hy;omega
theorem insI_len {x : Int} : ∀ {l : List Int},(insI x l).length ≤ l.length + 1
 | [] => by simp [insI]
 | z::l => by
  have ih := insI_len (x := x) (l := l)
  simp only [insI]
  split
  ·simpa using ih
  ·split <;> simp
theorem sortI_take {l : List Int} {i : Nat} (h : i < l.length) : sortI (l.take (i + 1)) = insI (l.getD i 0) (sortI (l.take i)) := by
 unfold sortI
 rw [List.take_succ_eq_append_getElem h,List.foldl_append]
 simp [List.getD_eq_getElem?_getD,h]
theorem foldl_insI : ∀ (l o : List Int),o.Pairwise (· < ·) → (l.foldl (fun o x => insI x o) o).Pairwise (· < ·) ∧ (∀ y,y ∈ l.foldl (fun o x => insI x o) o ↔ y ∈ o ∨ y ∈ l) ∧ (l.foldl (fun o x => insI x o) o).length ≤ o.length + l.length
 | [],o,h => ⟨h,by simp,by simp⟩
 | x::l,o,h => by
  have ⟨h1,h2,h3⟩ := foldl_insI l (insI x o) (insI_lt h)
  refine ⟨h1,fun y => ?_,?_⟩
  ·simp only [List.foldl_cons]
   rw [h2 y,mem_insI]
   simp only [List.mem_cons]
   grind
  ·have := insI_len (x := x) (l := o)
   simp only [List.foldl_cons,List.length_cons]
   omega
theorem sortI_lt (l : List Int) : (sortI l).Pairwise (· < ·) := (foldl_insI l [] List.Pairwise.nil).1
theorem mem_sortI {l : List Int} {y : Int} : y ∈ sortI l ↔ y ∈ l := by have := (foldl_insI l [] List.Pairwise.nil).2.1 y;simpa [sortI] using this
theorem sortI_len (l : List Int) : (sortI l).length ≤ l.length := by have := (foldl_insI l [] List.Pairwise.nil).2.2;simpa [sortI] using this
def pickF (f : List (Int × Rat)) : List Int → List (Int × Rat)
 | [] => []
 | v::l => if coef f v = 0 then pickF f l else (v,coef f v)::pickF f l
theorem pickF_append (f : List (Int × Rat)) (l m : List Int) : pickF f (l ++ m) = pickF f l ++ pickF f m := by
 induction l with
 | nil => rfl
 | cons v l ih => simp only [List.cons_append,pickF,ih];split <;> simp
theorem pickF_take {f : List (Int × Rat)} {l : List Int} {i : Nat} (h : i < l.length) : pickF f (l.take (i + 1)) = pickF f (l.take i) ++ if coef f (l.getD i 0) = 0 then [] else [(l.getD i 0,coef f (l.getD i 0))] := by
 rw [List.take_succ_eq_append_getElem h,pickF_append]
 have : l.getD i 0 = l[i] := by simp [List.getD_eq_getElem?_getD,h]
 rw [this]
 simp only [pickF]
theorem mem_pickF {f : List (Int × Rat)} {p : Int × Rat} : ∀ {l : List Int},p ∈ pickF f l → p.1 ∈ l ∧ p.2 = coef f p.1 ∧ p.2 ≠ 0
 | v::l,h => by
  simp only [pickF] at h
  split at h
  ·have := mem_pickF h;exact ⟨List.mem_cons_of_mem _ this.1,this.2⟩
  ·rcases List.mem_cons.1 h with rfl | h
   ·exact ⟨List.mem_cons_self,rfl,by assumption⟩
   ·have := mem_pickF h;exact ⟨List.mem_cons_of_mem _ this.1,this.2⟩
theorem pickF_nf {f : List (Int × Rat)} : ∀ {l : List Int},l.Pairwise (· < ·) → NF (pickF f l)
 | [],_ => NF.nil
 | v::l,h => by
  have ih := pickF_nf (f := f) (List.pairwise_cons.1 h).2
  simp only [pickF]
  split
  ·exact ih
  ·exact NF.cons ih (by assumption) fun q hq => (List.pairwise_cons.1 h).1 _ (mem_pickF hq).1
theorem pickF_coef {f : List (Int × Rat)} {v : Int} : ∀ {l : List Int},l.Pairwise (· < ·) → coef (pickF f l) v = if v ∈ l then coef f v else 0
 | [],_ => by simp [pickF,coef]
 | w::l,h => by
  have ih := pickF_coef (f := f) (v := v) (List.pairwise_cons.1 h).2
  have hw := (List.pairwise_cons.1 h).1
  simp only [pickF]
  by_cases hv : v = w
  ·subst hv
   have h1 : v ∉ l := fun hm => by have := hw v hm;omega
   rw [if_neg h1] at ih
   split
   ·rename_i h0;rw [ih,if_pos List.mem_cons_self,h0]
   ·simp only [coef,if_true,ih,if_pos List.mem_cons_self,Rat.add_zero]
  ·have h1 : (v ∈ w::l) = (v ∈ l) := by simp [hv]
   simp only [h1]
   split
   ·exact ih
   ·simp only [coef,if_neg (show ¬ w = v from fun e => hv e.symm),ih,Rat.zero_add]
theorem pick_norm (f : List (Int × Rat)) : pickF f (sortI (f.map (·.1))) = normF f := by
 refine norm_of (pickF_nf (sortI_lt _)) fun v => ?_
 rw [pickF_coef (sortI_lt _)]
 split
 ·rfl
 ·rename_i h
  rw [mem_sortI] at h
  exact (coef_none fun p hp e => h (List.mem_map.2 ⟨p,hp,e⟩)).symm
theorem pickF_len (f : List (Int × Rat)) : ∀ l : List Int,(pickF f l).length ≤ l.length
 | [] => Nat.le_refl _
 | v::l => by
  have := pickF_len f l
  simp only [pickF]
  split <;> simp only [List.length_cons] <;> omega
end Go.Proofs.YtjmpajgjaefcjaaGreat.Vm
namespace Go.Proofs.YtjmpajgjaefcjaaGreat.Vm
open Go Go.RowKit
set_option maxRecDepth 100000
set_option linter.unusedVariables false
set_option linter.unusedSimpArgs false
theorem sJb {G G' : Prop} (h : G') (e : G = G' := by conv => lhs;simp (disch := omega) only [rowsOf,cNat,cN,St.ret,St.seth,Eff.app,Eff.wi,sepL,guardOf,St.known,objOf,List.set,sliceW,litW,copyW,lenOf,bnd,mxOk,ofCells,TI.isAgg,cellsOf,storable,AV.one,dead,laid,overlay,reduceCtorEq,Int.reduceLE,Int.reduceLT,Int.reduceSub,Int.reduceAdd,Nat.reduceMul,Int.reduceToNat,Nat.reducePow,Int.reduceNeg,Nat.reduceAdd,Nat.reduceLT,Nat.reduceLeDiff,sA,sB,i64s_getD,i64s_length,i64s_all,i64s_take,i64s_drop,i64s_set,i64s_one,i64s_pure,i64s_append,List.take_length,List.length_append,sT]) : G := e.mpr h
theorem sJbX {G G' P : Prop} (p : P) (h : G') (e : P → G = G' := by intro p;conv => lhs;simp (disch := omega) only [rowsOf,cNat,cN,St.ret,St.seth,Eff.app,Eff.wi,sepL,guardOf,St.known,objOf,List.set,sliceW,litW,copyW,lenOf,bnd,mxOk,ofCells,TI.isAgg,cellsOf,storable,AV.one,dead,laid,overlay,reduceCtorEq,Int.reduceLE,Int.reduceLT,Int.reduceSub,Int.reduceAdd,Nat.reduceMul,Int.reduceToNat,Nat.reducePow,Int.reduceNeg,Nat.reduceAdd,Nat.reduceLT,Nat.reduceLeDiff,sA,sB,i64s_getD,i64s_length,i64s_all,i64s_take,i64s_drop,i64s_set,i64s_one,i64s_pure,i64s_append,List.take_length,List.length_append,sT,p]) : G := (e p).mpr h
theorem sJbV {G G' : Prop} (h : G') (e : G = G' := by conv => lhs;simp (disch := omega) only [rowsOf,cNat,cN,St.ret,St.seth,Eff.app,Eff.wi,sepL,guardOf,St.known,objOf,List.set,sliceW,litW,copyW,lenOf,bnd,mxOk,ofCells,TI.isAgg,cellsOf,storable,AV.one,dead,laid,overlay,reduceCtorEq,Int.reduceLE,Int.reduceLT,Int.reduceSub,Int.reduceAdd,Nat.reduceMul,Int.reduceToNat,Nat.reducePow,Int.reduceNeg,Nat.reduceAdd,Nat.reduceLT,Nat.reduceLeDiff,sA,sB,i64s_getD,i64s_length,i64s_all,i64s_take,i64s_drop,i64s_set,i64s_one,i64s_pure,i64s_append,List.take_length,List.length_append,sT,view_sref,viewRef,view_agg,views_cons,views_nil,view_bool,view_int,view_sl,view_nils,view_str,view_tup,view_nilif]) : G := e.mpr h
theorem aJb {G G' : Prop} (h : G') (f : Wr G' → G := by intro h;(repeat (first|(refine W_seqV fun K hK => ?_;(try (refine sJb ?_;try exact True.intro));(repeat refine aI ?_);refine hK _ ?_;clear hK K)|(refine W_seqR fun K hK => ?_;(try (refine sJb ?_;try exact True.intro));(repeat refine aI ?_);refine hK _ ?_;clear hK K)|(refine W_seqD mixed [] (by kernel_rfl) fun K hK => ?_;(try (refine sJb ?_;try exact True.intro));(repeat refine aI ?_);refine hK _ ?_;clear hK K)));exact h.out) : G := f ⟨h⟩
def shI (out : List Int) (k : Nat) : List Int := out.take k ++ ((out ++ [0]).getD k 0)::out.drop k
theorem shI_len {out : List Int} {k : Nat} (h : k ≤ out.length) : (shI out k).length = out.length + 1 := by simp [shI];omega
theorem shI_top (out : List Int) : shI out out.length = out ++ [0] := by simp [shI]
theorem shI_low {out : List Int} {k j : Nat} (h : k ≤ out.length) (hj : j < k) : (shI out k).getD j 0 = out.getD j 0 := by
 simp only [shI,List.getD_eq_getElem?_getD]
 rw [List.getElem?_append_left (by simp;omega)]
 simp [hj]
theorem shI_step {out : List Int} {k : Nat} (h : k < out.length) : (shI out (k + 1)).set (k + 1) (out.getD k 0) = shI out k := by
 have h1 : out.take (k + 1) = out.take k ++ [out.getD k 0] := by rw [List.take_succ_eq_append_getElem h];simp [List.getD_eq_getElem?_getD,h]
 have h2 : out.drop k = out.getD k 0::out.drop (k + 1) := by rw [List.drop_eq_getElem_cons h];simp [List.getD_eq_getElem?_getD,h]
 have h3 : (out ++ [0]).getD k 0 = out.getD k 0 := by simp only [List.getD_eq_getElem?_getD];rw [List.getElem?_append_left h]
 rw [shI,shI,h3,h2,h1]
 rw [List.set_append_right _ _ (by simp;omega)]
 have : k + 1 - (List.take k out ++ [out.getD k 0]).length = 0 := by simp;omega
 rw [this]
 simp
theorem shI_set {out : List Int} {k : Nat} (h : k ≤ out.length) (x : Int) : (shI out k).set k x = out.take k ++ x::out.drop k := by
 rw [shI,List.set_append_right _ _ (by simp;omega)]
 have : k - (List.take k out).length = 0 := by simp;omega
 rw [this]
 simp
theorem f6sorted_ok (l : List Int) (hl : l.length < 1099511627776) :
  Pure Tryz.prog 160 [.sl (i64s l)] (· = .sl (i64s (sortI l))) := by
 (refine pureW Tryz.func160 rfl (rs := [Go.ResultVar.tmp 2]) rfl (n := 72) rfl ?_;simp only [List.length_cons,List.length_nil,List.replicate,List.cons_append,List.nil_append])
 (refine aJb ?_)
 refine W.le ?_ (Le_nil 3 3 3 1 true rfl rfl)
 simp only [List.set]
 have hst : ∀ i,i < l.length → sortI (l.take (i + 1)) = insI (l.getD i 0) (sortI (l.take i)) := fun i hi => sortI_take hi
 have hln : ∀ i,(sortI (l.take i)).length ≤ l.length := fun i => by have := sortI_len (l.take i);simp at this;omega
 have h0 : sortI (l.take 0) = [] := rfl
 have hlast : l.take l.length = l := List.take_of_length_le (by omega)
 rw [← hlast]
 generalize hE : (fun i => sortI (l.take i)) = E at *
 have hE' : ∀ i,sortI (l.take i) = E i := fun i => congrFun hE i
 simp only [hE'] at *
 clear hE hE'
 rw [hlast]
 ((refine W_seq (W_seqV ?_));intro K hK;(refine sJb ?_))
 (refine hK _ ?_;clear hK K)
 refine W_block (W_loop (fun t : {t : Nat // t ≤ l.length} =>
   ⟨((.sl (i64s l))::.any::.any::(.sref 3 0 (E t.1).length)::(.int .i64 t.1)::.any::.any::.any::.any::.any::.any::.any::.any::.any::.any::.any::.any::.any::.any::.any::.any::.any::.any::.any::.any::.any::.any::.any::.any::.any::.any::.any::.any::.any::.any::.any::.any::.any::.any::.any::.any::.any::.any::.any::.any::.any::.any::.any::.any::.any::.any::.any::.any::.any::.any::.any::.any::.any::.any::.any::.any::.any::.any::.any::.any::.any::.any::.any::.any::.any::.any::.any::[]),(.dead::.dead::.dead::(.arr 3 1 true (i64s (E t.1)))::.dead::.dead::.dead::.dead::.dead::.dead::.dead::.dead::.dead::.dead::.dead::.dead::.dead::.dead::.dead::.dead::.dead::.dead::.dead::.dead::.dead::.dead::.dead::.dead::.dead::.dead::.dead::.dead::.dead::.dead::.dead::.dead::.dead::.dead::.dead::.dead::.dead::.dead::.dead::.dead::.dead::.dead::.dead::.dead::.dead::.dead::.dead::.dead::.dead::.dead::.dead::.dead::.dead::.dead::.dead::.dead::.dead::.dead::.dead::.dead::.dead::.dead::.dead::.dead::.dead::.dead::.dead::.dead::[])⟩) (fun t => l.length - t.1)
   ⟨0,by omega⟩ (Le_of (by simp [leE,h0]) (by simp [h0,i64s])) fun t => ?_)
 obtain ⟨i,hi⟩ := t
 dsimp only
 by_cases hlt : i < l.length
 ·have hsi := hst i hlt
  have hlo := hln i
  have hlo1 := hln (i + 1)
  generalize hx : l.getD i 0 = x at *
  generalize E i = o at *
  refine W_seq ?_
  ((refine W_seqV ?_);intro K hK;(refine sJbX hlt ?_))
  (refine hK _ ?_;clear hK K)
  (refine W_ct rfl ?_)
  refine W_skip ?_
  simp only [thenW]
  refine W_seq ?_
  refine W_block ?_
  ((refine W_seqV ?_);intro K hK;(refine sJb ?_))
  (refine hK _ ?_;clear hK K)
  refine W_join (fun s' => ∃ k,k ≤ o.length ∧ (∀ j,j < k → o.getD j 0 < x) ∧ (k = o.length ∨ x ≤ o.getD k 0) ∧ Le [] s' ⟨((.sl (i64s l))::.any::.any::(.sref 3 0 o.length)::(.int .i64 i)::(.int .i64 k)::.any::.any::.any::.any::.any::.any::.any::.any::.any::.any::.any::.any::.any::.any::.any::.any::.any::.any::.any::.any::.any::.any::.any::.any::.any::.any::.any::.any::.any::.any::.any::.any::.any::.any::.any::.any::.any::.any::.any::.any::.any::.any::.any::.any::.any::.any::.any::.any::.any::.any::.any::.any::.any::.any::.any::.any::.any::.any::.any::.any::.any::.any::.any::.any::.any::.any::[]),(.dead::.dead::.dead::(.arr 3 1 true (i64s o))::.dead::.dead::.dead::.dead::.dead::.dead::.dead::.dead::.dead::.dead::.dead::.dead::.dead::.dead::.dead::.dead::.dead::.dead::.dead::.dead::.dead::.dead::.dead::.dead::.dead::.dead::.dead::.dead::.dead::.dead::.dead::.dead::.dead::.dead::.dead::.dead::.dead::.dead::.dead::.dead::.dead::.dead::.dead::.dead::.dead::.dead::.dead::.dead::.dead::.dead::.dead::.dead::.dead::.dead::.dead::.dead::.dead::.dead::.dead::.dead::.dead::.dead::.dead::.dead::.dead::.dead::.dead::.dead::[])⟩) ?_ ?_
  ·refine W_block (W_loop (fun t : {t : Nat // t ≤ o.length ∧ ∀ j,j < t → o.getD j 0 < x} =>
    ⟨((.sl (i64s l))::.any::.any::(.sref 3 0 o.length)::(.int .i64 i)::(.int .i64 t.1)::.any::.any::.any::.any::.any::.any::.any::.any::.any::.any::.any::.any::.any::.any::.any::.any::.any::.any::.any::.any::.any::.any::.any::.any::.any::.any::.any::.any::.any::.any::.any::.any::.any::.any::.any::.any::.any::.any::.any::.any::.any::.any::.any::.any::.any::.any::.any::.any::.any::.any::.any::.any::.any::.any::.any::.any::.any::.any::.any::.any::.any::.any::.any::.any::.any::.any::[]),(.dead::.dead::.dead::(.arr 3 1 true (i64s o))::.dead::.dead::.dead::.dead::.dead::.dead::.dead::.dead::.dead::.dead::.dead::.dead::.dead::.dead::.dead::.dead::.dead::.dead::.dead::.dead::.dead::.dead::.dead::.dead::.dead::.dead::.dead::.dead::.dead::.dead::.dead::.dead::.dead::.dead::.dead::.dead::.dead::.dead::.dead::.dead::.dead::.dead::.dead::.dead::.dead::.dead::.dead::.dead::.dead::.dead::.dead::.dead::.dead::.dead::.dead::.dead::.dead::.dead::.dead::.dead::.dead::.dead::.dead::.dead::.dead::.dead::.dead::.dead::[])⟩) (fun t => o.length - t.1)
    ⟨0,by omega,by simp⟩ (Le_of (by simp [leE]) (by simp)) fun t => ?_)
   obtain ⟨k,hk,hkl⟩ := t
   dsimp only
   by_cases hlk : k < o.length
   ·generalize hy : o.getD k 0 = y at *
    by_cases hyx : y < x
    ·refine W_seq ?_
     ((refine W_seqD mixed [] (by kernel_rfl) ?_);intro K hK;(refine sJbX (And.intro hlt (And.intro hlk (And.intro hx (And.intro hy hyx)))) ?_))
     (refine hK _ ?_;clear hK K)
     (refine W_ct rfl ?_)
     refine W_skip ?_
     simp only [blockW,thenW]
     refine W_block ?_
     ((refine W_regV ?_);intro K hK;(refine sJb ?_))
     (refine hK _ ?_;clear hK K)
     simp only [blockW,thenW]
     refine ⟨⟨k + 1,by omega,fun j hj => ?_⟩,Le_drop (by simp [leE]) (by simp [leH]) rfl rfl,?_⟩
     ·by_cases hjk : j = k
      ·rw [hjk,hy];exact hyx
      ·exact hkl j (by omega)
     ·dsimp only;omega
    ·refine W_seq ?_
     ((refine W_seqD mixed [] (by kernel_rfl) ?_);intro K hK;(refine sJbX (And.intro hlt (And.intro hlk (And.intro hx (And.intro hy hyx)))) ?_))
     (refine hK _ ?_;clear hK K)
     (refine W_cf rfl ?_)
     refine W_exit ?_
     simp only [thenW,blockW,if_true]
     exact ⟨k,hk,hkl,.inr (by rw [hy];omega),Le_of (by simp [leE]) (by simp)⟩
   ·refine W_seq ?_
    ((refine W_seqD mixed [] (by kernel_rfl) ?_);intro K hK;(refine sJbX (And.intro hlt hlk) ?_))
    (refine hK _ ?_;clear hK K)
    (refine W_cf rfl ?_)
    refine W_exit ?_
    simp only [thenW,blockW,if_true]
    exact ⟨k,hk,hkl,.inl (by omega),Le_of (by simp [leE]) (by simp)⟩
  rintro s' ⟨k,hk,hkl,hkx,hle⟩
  refine W.le ?_ hle
  clear hle s'
  have hins := insI_at hk hkl hkx
  rw [hins] at hsi
  by_cases heq : k < o.length ∧ o.getD k 0 = x
  ·rw [if_pos heq] at hsi
   obtain ⟨hlk,hyx⟩ := heq
   refine W_seq ?_
   have hxx : (x == x) = true := by simp
   ((refine W_seqD mixed [] (by kernel_rfl) ?_);intro K hK;(refine sJbX (And.intro hlt (And.intro hlk (And.intro hx (And.intro hyx hxx)))) ?_))
   (refine hK _ ?_;clear hK K)
   (refine W_ct rfl ?_)
   refine W_exit ?_
   simp only [thenW,blockW,if_true]
   ((refine W_regV ?_);intro K hK;(refine sJb ?_))
   (refine hK _ ?_;clear hK K)
   simp only [blockW,thenW]
   refine ⟨⟨i + 1,by omega⟩,Le_drop (by simp [leE,hsi]) (by simp [leH,hsi]) rfl rfl,?_⟩
   dsimp only
   omega
  ·rw [if_neg heq] at hsi
   refine W_join (fun s' => Le [] s' ⟨((.sl (i64s l))::.any::.any::(.sref 3 0 o.length)::(.int .i64 i)::(.int .i64 k)::.any::.any::.any::.any::.any::.any::.any::.any::.any::.any::.any::.any::.any::.any::.any::.any::.any::.any::.any::.any::.any::.any::.any::.any::.any::.any::.any::.any::.any::.any::.any::.any::.any::.any::.any::.any::.any::.any::.any::.any::.any::.any::.any::.any::.any::.any::.any::.any::.any::.any::.any::.any::.any::.any::.any::.any::.any::.any::.any::.any::.any::.any::.any::.any::.any::.any::[]),(.dead::.dead::.dead::(.arr 3 1 true (i64s o))::.dead::.dead::.dead::.dead::.dead::.dead::.dead::.dead::.dead::.dead::.dead::.dead::.dead::.dead::.dead::.dead::.dead::.dead::.dead::.dead::.dead::.dead::.dead::.dead::.dead::.dead::.dead::.dead::.dead::.dead::.dead::.dead::.dead::.dead::.dead::.dead::.dead::.dead::.dead::.dead::.dead::.dead::.dead::.dead::.dead::.dead::.dead::.dead::.dead::.dead::.dead::.dead::.dead::.dead::.dead::.dead::.dead::.dead::.dead::.dead::.dead::.dead::.dead::.dead::.dead::.dead::.dead::.dead::[])⟩) ?_ ?_
   ·by_cases hlk : k < o.length
    ·have hyx : ¬ o.getD k 0 = x := fun e => heq ⟨hlk,e⟩
     generalize hy : o.getD k 0 = y at *
     have hyb : (y == x) = false := by simp [hyx]
     refine W_seq ?_
     ((refine W_regD mixed [] (by kernel_rfl) ?_);intro K hK;(refine sJbX (And.intro hlt (And.intro hlk (And.intro hx (And.intro hy hyb)))) ?_))
     (refine hK _ ?_;clear hK K)
     (refine W_cf rfl ?_)
     refine W_skip ?_
     simp only [blockW,thenW]
     exact Le_of (by simp [leE]) (by simp)
    ·refine W_seq ?_
     ((refine W_regD mixed [] (by kernel_rfl) ?_);intro K hK;(refine sJbX (And.intro hlt hlk) ?_))
     (refine hK _ ?_;clear hK K)
     (refine W_cf rfl ?_)
     refine W_skip ?_
     simp only [blockW,thenW]
     exact Le_of (by simp [leE]) (by simp)
   intro s' hle
   refine W.le ?_ hle
   clear hle s'
   ((refine W_seqR ?_);intro K hK;(refine sJb ?_))
   (repeat refine aI ?_);refine hK _ ?_;clear hK K
   refine W_seq ?_
   ((refine W_seqV ?_);intro K hK;(refine sJb ?_))
   (refine hK _ ?_;clear hK K)
   refine W_block (W_loop (fun t : {t : Nat // k ≤ t ∧ t ≤ o.length} =>
    ⟨((.sl (i64s l))::.any::.any::(.sref 3 0 (o.length + 1))::(.int .i64 i)::(.int .i64 k)::(.int .i64 t.1)::.any::.any::.any::.any::.any::.any::.any::.any::.any::.any::.any::.any::.any::.any::.any::.any::.any::.any::.any::.any::.any::.any::.any::.any::.any::.any::.any::.any::.any::.any::.any::.any::.any::.any::.any::.any::.any::.any::.any::.any::.any::.any::.any::.any::.any::.any::.any::.any::.any::.any::.any::.any::.any::.any::.any::.any::.any::.any::.any::.any::.any::.any::.any::.any::.any::[]),(.dead::.dead::.dead::(.arr 3 1 true (i64s (shI o t.1)))::.dead::.dead::.dead::.dead::.dead::.dead::.dead::.dead::.dead::.dead::.dead::.dead::.dead::.dead::.dead::.dead::.dead::.dead::.dead::.dead::.dead::.dead::.dead::.dead::.dead::.dead::.dead::.dead::.dead::.dead::.dead::.dead::.dead::.dead::.dead::.dead::.dead::.dead::.dead::.dead::.dead::.dead::.dead::.dead::.dead::.dead::.dead::.dead::.dead::.dead::.dead::.dead::.dead::.dead::.dead::.dead::.dead::.dead::.dead::.dead::.dead::.dead::.dead::.dead::.dead::.dead::.dead::.dead::[])⟩) (fun t => t.1)
    ⟨o.length,by omega,by omega⟩ (Le_drop (by simp [leE]) (by simp [leH,shI_top,i64s]) rfl rfl) fun t => ?_)
   obtain ⟨j,hkj,hjo⟩ := t
   dsimp only
   have hsl := shI_len hjo
   generalize hc : shI o j = c at *
   by_cases hgt : k < j
   ·have hgt' : (k : Int) < j := by omega
    have hlow := shI_low (j := j - 1) hjo (by omega)
    have hstp := shI_step (out := o) (k := j - 1) (by omega)
    rw [show j - 1 + 1 = j by omega,hc] at hstp
    rw [hc] at hlow
    refine W_seq ?_
    ((refine W_seqV ?_);intro K hK;(refine sJbX hgt' ?_))
    (refine hK _ ?_;clear hK K)
    (refine W_ct rfl ?_)
    refine W_skip ?_
    simp only [thenW]
    refine W_seq ?_
    refine W_block ?_
    have h1 : j - 1 < c.length := by omega
    have h2 : j < c.length := by omega
    have h3 : (0 : Int) ≤ (j : Int) - 1 := by omega
    have h5 : ((j : Int) - 1) < ((o.length : Int) + 1) := by omega
    have h6 : (j : Int) < ((o.length : Int) + 1) := by omega
    have h7 : ((j : Int) - 1).toNat = j - 1 := by omega
    ((refine W_regV ?_);intro K hK;(refine sJbX (And.intro h1 (And.intro h2 (And.intro hlow (And.intro hstp (And.intro h3 (And.intro h5 (And.intro h6 h7))))))) ?_))
    (repeat refine aI ?_);refine hK _ ?_;clear hK K
    simp only [blockW,thenW]
    ((refine W_regV ?_);intro K hK;(refine sJb ?_))
    (refine hK _ ?_;clear hK K)
    simp only [blockW,thenW]
    refine ⟨⟨j - 1,by omega,by omega⟩,Le_drop (by simp [leE]) (by simp [leH]) rfl rfl,?_⟩
    dsimp only
    omega
   ·obtain rfl : j = k := by omega
    have hset := shI_set hk x
    rw [hc,← hsi] at hset
    refine W_seq ?_
    ((refine W_seqV ?_);intro K hK;(refine sJb ?_))
    (refine hK _ ?_;clear hK K)
    (refine W_cf rfl ?_)
    refine W_exit ?_
    simp only [thenW,blockW,if_true]
    have h2 : j < c.length := by omega
    have h6 : (j : Int) < ((o.length : Int) + 1) := by omega
    ((refine W_regV ?_);intro K hK;(refine sJbX (And.intro h2 (And.intro h6 (And.intro hlt (And.intro hx hset)))) ?_))
    (repeat refine aI ?_);refine hK _ ?_;clear hK K
    simp only [blockW,thenW]
    ((refine W_regV ?_);intro K hK;(refine sJb ?_))
    (refine hK _ ?_;clear hK K)
    simp only [blockW,thenW]
    refine ⟨⟨i + 1,by omega⟩,Le_drop (by simp [leE,hsi];omega) (by simp [leH,hsi]) rfl rfl,?_⟩
    dsimp only
    omega
 ·obtain rfl : i = l.length := by omega
  refine W_seq ?_
  ((refine W_seqV ?_);intro K hK;(refine sJb ?_))
  (refine hK _ ?_;clear hK K)
  (refine W_cf rfl ?_)
  refine W_exit ?_
  simp only [thenW,blockW,if_true]
  ((refine W_seqV ?_);intro K hK;(refine sJb ?_))
  (refine hK _ ?_;clear hK K)
  refine W_ret ?_
  (refine qG ?_;try exact True.intro);try (refine sJbV ?_;try exact True.intro)
theorem sJc {G G' : Prop} (h : G') (e : G = G' := by conv => lhs;simp (disch := omega) only [rowsOf,cNat,cN,St.ret,St.seth,Eff.app,Eff.wi,sepL,guardOf,St.known,objOf,List.set,sliceW,litW,copyW,lenOf,bnd,mxOk,ofCells,TI.isAgg,cellsOf,storable,AV.one,dead,laid,overlay,reduceCtorEq,Int.reduceLE,Int.reduceLT,Int.reduceSub,Int.reduceAdd,Nat.reduceMul,Int.reduceToNat,Nat.reducePow,Int.reduceNeg,Nat.reduceAdd,Nat.reduceLT,Nat.reduceLeDiff,sA,sB,cQ,rowM,rowQ,i64s_getD,i64s_length,i64s_all,i64s_take,i64s_drop,i64s_set,i64s_one,i64s_pure,i64s_append,tab_length,tab_drop,tab_take,tab_append,tab_nil,rowM_all,rowM_one,rowM_pure,rowQ_all,rowQ_one,rowQ_pure,List.take_length,List.length_append,sT]) : G := e.mpr h
theorem sJcX {G G' P : Prop} (p : P) (h : G') (e : P → G = G' := by intro p;conv => lhs;simp (disch := omega) only [rowsOf,cNat,cN,St.ret,St.seth,Eff.app,Eff.wi,sepL,guardOf,St.known,objOf,List.set,sliceW,litW,copyW,lenOf,bnd,mxOk,ofCells,TI.isAgg,cellsOf,storable,AV.one,dead,laid,overlay,reduceCtorEq,Int.reduceLE,Int.reduceLT,Int.reduceSub,Int.reduceAdd,Nat.reduceMul,Int.reduceToNat,Nat.reducePow,Int.reduceNeg,Nat.reduceAdd,Nat.reduceLT,Nat.reduceLeDiff,sA,sB,cQ,rowM,rowQ,i64s_getD,i64s_length,i64s_all,i64s_take,i64s_drop,i64s_set,i64s_one,i64s_pure,i64s_append,tab_length,tab_drop,tab_take,tab_append,tab_nil,rowM_all,rowM_one,rowM_pure,rowQ_all,rowQ_one,rowQ_pure,List.take_length,List.length_append,sT,p]) : G := (e p).mpr h
theorem sJcV {G G' : Prop} (h : G') (e : G = G' := by conv => lhs;simp (disch := omega) only [rowsOf,cNat,cN,St.ret,St.seth,Eff.app,Eff.wi,sepL,guardOf,St.known,objOf,List.set,sliceW,litW,copyW,lenOf,bnd,mxOk,ofCells,TI.isAgg,cellsOf,storable,AV.one,dead,laid,overlay,reduceCtorEq,Int.reduceLE,Int.reduceLT,Int.reduceSub,Int.reduceAdd,Nat.reduceMul,Int.reduceToNat,Nat.reducePow,Int.reduceNeg,Nat.reduceAdd,Nat.reduceLT,Nat.reduceLeDiff,sA,sB,cQ,rowM,rowQ,i64s_getD,i64s_length,i64s_all,i64s_take,i64s_drop,i64s_set,i64s_one,i64s_pure,i64s_append,tab_length,tab_drop,tab_take,tab_append,tab_nil,rowM_all,rowM_one,rowM_pure,rowQ_all,rowQ_one,rowQ_pure,List.take_length,List.length_append,sT,view_sref,viewRef,view_agg,views_cons,views_nil,view_bool,view_int,view_sl,view_nils,view_str,view_tup,view_nilif]) : G := e.mpr h
theorem aJc {G G' : Prop} (h : G') (f : Wr G' → G := by intro h;(repeat (first|(refine W_seqV fun K hK => ?_;(try (refine sJc ?_;try exact True.intro));(repeat refine aI ?_);refine hK _ ?_;clear hK K)|(refine W_seqR fun K hK => ?_;(try (refine sJc ?_;try exact True.intro));(repeat refine aI ?_);refine hK _ ?_;clear hK K)|(refine W_seqD mixed [] (by kernel_rfl) fun K hK => ?_;(try (refine sJc ?_;try exact True.intro));(repeat refine aI ?_);refine hK _ ?_;clear hK K)));exact h.out) : G := f ⟨h⟩
def vars (f : List (Int × RR)) : List Int := f.map (·.1)
theorem vars_len (f : List (Int × RR)) : (vars f).length = f.length := by simp [vars]
theorem vars_take {f : List (Int × RR)} {i : Nat} (h : i < f.length) : vars (f.take (i + 1)) = vars (f.take i) ++ [(f.getD i default).1] := by
 unfold vars
 rw [List.take_succ_eq_append_getElem h,List.map_append]
 simp [List.getD_eq_getElem?_getD,h]
theorem f6all_ok (f : List (Int × RR)) (hl : f.length < 1099511627776) :
  Pure Tryz.prog 124 [cF f,.sl []] (· = .sl (i64s (sortI (vars f)))) := by
 have hs := f6sorted_ok (vars f) (by rw [vars_len];omega)
 have hst : ∀ i,i < f.length → vars (f.take (i + 1)) = vars (f.take i) ++ [(f.getD i default).1] := fun i hi => vars_take hi
 have h0 : vars (f.take 0) = [] := rfl
 have hln : ∀ i,i ≤ f.length → (vars (f.take i)).length = i := fun i h => by rw [vars_len];simp;omega
 have hlast : vars (f.take f.length) = vars f := by rw [List.take_length]
 generalize hE : (fun i => vars (f.take i)) = E at *
 have hE' : ∀ i,vars (f.take i) = E i := fun i => congrFun hE i
 simp only [hE'] at *
 clear hE hE'
 generalize vars f = V at *
 (refine pureW Tryz.func124 rfl (rs := [Go.ResultVar.tmp 4]) rfl (n := 38) rfl ?_;simp only [List.length_cons,List.length_nil,List.replicate,List.cons_append,List.nil_append])
 simp only [cF]
 (refine aJc ?_)
 refine W.le ?_ (Le_nil 5 5 3 1 true rfl rfl)
 simp only [List.set]
 refine W_seq ?_
 ((refine W_seqV ?_);intro K hK;(refine sJc ?_))
 (refine hK _ ?_;clear hK K)
 refine W_block (W_loop (fun t : {t : Nat // t ≤ f.length} =>
   ⟨[.sl (tab rowM f),.sl [],.any,.any,.any,.sref 5 0 t.1,.int .i64 t.1,.any,.any,.any,.any,.any,.any,.any,.any,.any,.any,.any,.any,.any,.any,.any,.any,.any,.any,.any,.any,.any,.any,.any,.any,.any,.any,.any,.any,.any,.any,.any],[.dead,.dead,.dead,.dead,.dead,.arr 3 1 true (i64s (E t.1)),.dead,.dead,.dead,.dead,.dead,.dead,.dead,.dead,.dead,.dead,.dead,.dead,.dead,.dead,.dead,.dead,.dead,.dead,.dead,.dead,.dead,.dead,.dead,.dead,.dead,.dead,.dead,.dead,.dead,.dead,.dead,.dead]⟩) (fun t => f.length - t.1)
   ⟨0,by omega⟩ (Le_of (by simp [leE]) (by simp [h0,i64s])) fun t => ?_)
 obtain ⟨i,hi⟩ := t
 dsimp only
 by_cases hlt : i < f.length
 ·have hXi : (tab rowM f).getD i [] = rowM (f.getD i default) := tab_getD hlt
  have hsi := hst i hlt
  have hni := hln i (by omega)
  generalize f.getD i default = p at *
  simp only [rowM] at hXi
  generalize E i = o at *
  refine W_seq ?_
  ((refine W_seqV ?_);intro K hK;(refine sJcX hlt ?_))
  (refine hK _ ?_;clear hK K)
  (refine W_ct rfl ?_)
  refine W_skip ?_
  simp only [thenW]
  refine W_seq ?_
  refine W_block ?_
  ((refine W_regR ?_);intro K hK;(refine sJcX (And.intro hXi (And.intro hlt hni)) ?_))
  (repeat refine aI ?_);refine hK _ ?_;clear hK K
  simp only [blockW,thenW]
  ((refine W_regV ?_);intro K hK;(refine sJc ?_))
  (refine hK _ ?_;clear hK K)
  simp only [blockW,thenW]
  refine ⟨⟨i + 1,by omega⟩,Le_drop (by simp [leE]) (by simp [leH,hsi,i64s,List.take_of_length_le,hni]) rfl rfl,?_⟩
  dsimp only
  omega
 ·obtain rfl : i = f.length := by omega
  have hni := hln f.length (by omega)
  refine W_seq ?_
  ((refine W_seqV ?_);intro K hK;(refine sJc ?_))
  (refine hK _ ?_;clear hK K)
  (refine W_cf rfl ?_)
  refine W_exit ?_
  simp only [thenW,blockW,if_true]
  ((refine W_seq (W_seqV ?_));intro K hK;(refine sJc ?_))
  (refine hK _ ?_;clear hK K)
  refine W_block (W_loop (fun t : Unit =>
   ⟨[.sl (tab rowM f),.sl [],.any,.any,.any,.sref 5 0 f.length,.any,.int .i64 0,.any,.any,.any,.any,.any,.any,.any,.any,.any,.any,.any,.any,.any,.any,.any,.any,.any,.any,.any,.any,.any,.any,.any,.any,.any,.any,.any,.any,.any,.any],[.dead,.dead,.dead,.dead,.dead,.arr 3 1 true (i64s (E f.length)),.dead,.dead,.dead,.dead,.dead,.dead,.dead,.dead,.dead,.dead,.dead,.dead,.dead,.dead,.dead,.dead,.dead,.dead,.dead,.dead,.dead,.dead,.dead,.dead,.dead,.dead,.dead,.dead,.dead,.dead,.dead,.dead]⟩) (fun t => 0)
   () (Le_of (by simp [leE]) (by simp)) fun t => ?_)
  refine W_seq ?_
  ((refine W_seqV ?_);intro K hK;(refine sJc ?_))
  (refine hK _ ?_;clear hK K)
  (refine W_cf rfl ?_)
  refine W_exit ?_
  simp only [thenW,blockW,if_true]
  rw [hlast] at hni ⊢
  (refine W.le ?_ (Le_freeze 5 (rows := i64s V) rfl (by simp) (.inl rfl));simp only [St.freeze,List.map_cons,List.map_nil,List.set,if_true,if_false,Nat.reduceEqDiff,reduceCtorEq,List.drop_zero,u32s_take,u32s_drop,froz_any,froz_und,froz_int,froz_bool,froz_str,froz_nils,froz_sl,froz_ia,froz_nilp,froz_nilif,froz_nilfn,froz_nilmp,froz_gl,froz_sref,froz_ptr,froz_agg,froz_tup,froz_fn,froz_ifc,frozs_nil,frozs_cons,froz_dead,froz_arr,froz_mp,froz_it,froz_md,froz_map,froz_iter])
  rw [i64s_take,List.take_of_length_le (by omega)]
  ((refine W_seqV ?_);intro K hK;(refine sJc ?_))
  (refine ⟨by kernel_rfl,_,.pure rfl (hs),?_⟩;(try (refine sJc ?_)))
  (refine hK _ ?_;clear hK K)
  refine W_ret ?_
  (refine qG ?_;try exact True.intro)
theorem vars_vals (f : List (Int × RR)) : (vals f).map (·.1) = vars f := by simp [vals,vars]
theorem f6norm_ok (f : List (Int × RR)) {B : Nat} (hf : PF f B) (hB : B ≤ 8589934592) :
  Pure Tryz.prog 86 [cF f] (· = cL (normF (vals f))) := by
 have hall := f6all_ok f (by have := hf.len;omega)
 have hco := fun v => f6coef_ok f v hf hB
 have hsg : ∀ v,Pure Tryz.prog 90 [cQ (coef (vals f) v)] (· = .int .i64 (rs (coef (vals f) v))) := fun v => by
  have := f3sign_ok (qr (coef (vals f) v)) (qr_ok (by have := hf.coef v;omega))
  rwa [qr_v,qr_av] at this
 rw [← pick_norm,vars_vals]
 have hSl := sortI_len (vars f)
 have hfl := hf.len
 rw [vars_len] at hSl
 generalize sortI (vars f) = S at *
 have hst : ∀ i,i < S.length → pickF (vals f) (S.take (i + 1)) = pickF (vals f) (S.take i) ++ if coef (vals f) (S.getD i 0) = 0 then [] else [(S.getD i 0,coef (vals f) (S.getD i 0))] := fun i h => pickF_take h
 have h0 : pickF (vals f) (S.take 0) = [] := rfl
 have hln : ∀ i,(pickF (vals f) (S.take i)).length ≤ S.length := fun i => by have := pickF_len (vals f) (S.take i);simp at this;omega
 have hlast : pickF (vals f) (S.take S.length) = pickF (vals f) S := by rw [List.take_length]
 generalize hC : coef (vals f) = C at *
 rw [← hlast]
 generalize hE : (fun i => pickF (vals f) (S.take i)) = E at *
 have hE' : ∀ i,pickF (vals f) (S.take i) = E i := fun i => congrFun hE i
 simp only [hE'] at *
 clear hE hE' hlast hC
 (refine pureW Tryz.func86 rfl (rs := [Go.ResultVar.tmp 2]) rfl (n := 34) rfl ?_;simp only [List.length_cons,List.length_nil,List.replicate,List.cons_append,List.nil_append])
 simp only [cF] at *
 (refine aJc ?_)
 ((refine W_seqV ?_);intro K hK;(refine sJc ?_))
 (refine ⟨by kernel_rfl,_,.pure rfl (hall),?_⟩;(try (refine sJc ?_)))
 (refine hK _ ?_;clear hK K)
 refine W.le ?_ (Le_nil 3 3 55 4 true rfl rfl)
 simp only [List.set]
 ((refine W_seq (W_seqV ?_));intro K hK;(refine sJc ?_))
 (refine hK _ ?_;clear hK K)
 refine W_block (W_loop (fun t : {t : Nat // t ≤ S.length} =>
   ⟨[.sl (tab rowM f),.any,.any,.sref 3 0 (E t.1).length,.sl (i64s S),.int .i64 t.1,.any,.any,.any,.any,.any,.any,.any,.any,.any,.any,.any,.any,.any,.any,.any,.any,.any,.any,.any,.any,.any,.any,.any,.any,.any,.any,.any,.any],[.dead,.dead,.dead,.arr 55 4 true (tab rowQ (E t.1)),.dead,.dead,.dead,.dead,.dead,.dead,.dead,.dead,.dead,.dead,.dead,.dead,.dead,.dead,.dead,.dead,.dead,.dead,.dead,.dead,.dead,.dead,.dead,.dead,.dead,.dead,.dead,.dead,.dead,.dead]⟩) (fun t => S.length - t.1)
   ⟨0,by omega⟩ (Le_of (by simp [leE,h0]) (by simp [h0,tab])) fun t => ?_)
 obtain ⟨i,hi⟩ := t
 dsimp only
 by_cases hlt : i < S.length
 ·have hsi := hst i hlt
  have hli := hln i
  generalize hv : S.getD i 0 = v at *
  have hcv := hco v
  have hsv := hsg v
  have hne := rs_ne (C v)
  generalize E i = o at *
  generalize C v = q at *
  simp only [cQ] at hcv hsv
  refine W_seq ?_
  ((refine W_seqV ?_);intro K hK;(refine sJcX hlt ?_))
  (refine hK _ ?_;clear hK K)
  (refine W_ct rfl ?_)
  refine W_skip ?_
  simp only [thenW]
  refine W_seq ?_
  refine W_block ?_
  ((refine W_seqV ?_);intro K hK;(refine sJcX (And.intro hv hlt) ?_))
  (refine ⟨by kernel_rfl,_,.pure rfl (hcv),?_⟩;(try (refine sJc ?_)))
  (refine hK _ ?_;clear hK K)
  by_cases hq : q = 0
  ·have hneg : (rs q != 0) = false := hne.trans (by simp [hq])
   rw [if_pos hq,List.append_nil] at hsi
   ((refine W_seqV ?_);intro K hK;(refine sJcX hneg ?_))
   (refine ⟨by kernel_rfl,_,.pure rfl (hsv),?_⟩;(try (refine sJc ?_)))
   rw [hneg]
   (refine hK _ ?_;clear hK K)
   (refine W_cf rfl ?_)
   refine W_skip ?_
   simp only [blockW,thenW]
   ((refine W_regV ?_);intro K hK;(refine sJc ?_))
   (refine hK _ ?_;clear hK K)
   simp only [blockW,thenW]
   refine ⟨⟨i + 1,by omega⟩,Le_drop (by simp [leE,hsi]) (by simp [leH,hsi]) rfl rfl,?_⟩
   dsimp only
   omega
  ·have hneg : (rs q != 0) = true := hne.trans (by simp [hq])
   rw [if_neg hq] at hsi
   ((refine W_seqV ?_);intro K hK;(refine sJcX hneg ?_))
   (refine ⟨by kernel_rfl,_,.pure rfl (hsv),?_⟩;(try (refine sJc ?_)))
   rw [hneg]
   (refine hK _ ?_;clear hK K)
   (refine W_ct rfl ?_)
   ((refine W_regS mixed 8 [] (by kernel_rfl) ?_);intro K hK;(refine sJcX (And.intro hv hlt) ?_))
   (repeat refine aI ?_);refine hK _ ?_;clear hK K
   simp only [blockW,thenW]
   ((refine W_regV ?_);intro K hK;(refine sJc ?_))
   (refine hK _ ?_;clear hK K)
   simp only [blockW,thenW]
   refine ⟨⟨i + 1,by omega⟩,Le_drop (by simp [leE,hsi]) (by simp [leH,hsi,← tab_snoc,rowQ,tab_take,List.take_of_length_le]) rfl rfl,?_⟩
   dsimp only
   omega
 ·obtain rfl : i = S.length := by omega
  refine W_seq ?_
  ((refine W_seqV ?_);intro K hK;(refine sJc ?_))
  (refine hK _ ?_;clear hK K)
  (refine W_cf rfl ?_)
  refine W_exit ?_
  simp only [thenW,blockW,if_true]
  ((refine W_seqV ?_);intro K hK;(refine sJc ?_))
  (refine hK _ ?_;clear hK K)
  refine W_ret ?_
  (refine qG ?_;try exact True.intro);try (refine sJcV ?_;try exact True.intro)
  rfl
theorem sJd {G G' : Prop} (h : G') (e : G = G' := by conv => lhs;simp (disch := omega) only [rowsOf,cNat,cN,St.ret,St.seth,Eff.app,Eff.wi,sepL,guardOf,St.known,objOf,List.set,sliceW,litW,copyW,lenOf,bnd,mxOk,ofCells,TI.isAgg,cellsOf,storable,AV.one,dead,laid,overlay,reduceCtorEq,Int.reduceLE,Int.reduceLT,Int.reduceSub,Int.reduceAdd,Nat.reduceMul,Int.reduceToNat,Nat.reducePow,Int.reduceNeg,Nat.reduceAdd,Nat.reduceLT,Nat.reduceLeDiff,sA,sB,pos_succ,tab_getD_zero,cQ,rowM,rowQ,cF,tab_length,tab_drop,tab_take,tab_append,tab_nil,rowM_all,rowM_one,rowM_pure,rowQ_all,rowQ_one,rowQ_pure,List.take_length,List.length_append,sT]) : G := e.mpr h
theorem sJdX {G G' P : Prop} (p : P) (h : G') (e : P → G = G' := by intro p;conv => lhs;simp (disch := omega) only [rowsOf,cNat,cN,St.ret,St.seth,Eff.app,Eff.wi,sepL,guardOf,St.known,objOf,List.set,sliceW,litW,copyW,lenOf,bnd,mxOk,ofCells,TI.isAgg,cellsOf,storable,AV.one,dead,laid,overlay,reduceCtorEq,Int.reduceLE,Int.reduceLT,Int.reduceSub,Int.reduceAdd,Nat.reduceMul,Int.reduceToNat,Nat.reducePow,Int.reduceNeg,Nat.reduceAdd,Nat.reduceLT,Nat.reduceLeDiff,sA,sB,pos_succ,tab_getD_zero,cQ,rowM,rowQ,cF,tab_length,tab_drop,tab_take,tab_append,tab_nil,rowM_all,rowM_one,rowM_pure,rowQ_all,rowQ_one,rowQ_pure,List.take_length,List.length_append,sT,p]) : G := (e p).mpr h
theorem aJd {G G' : Prop} (h : G') (f : Wr G' → G := by intro h;(repeat (first|(refine W_seqV fun K hK => ?_;(try (refine sJd ?_;try exact True.intro));(repeat refine aI ?_);refine hK _ ?_;clear hK K)|(refine W_seqR fun K hK => ?_;(try (refine sJd ?_;try exact True.intro));(repeat refine aI ?_);refine hK _ ?_;clear hK K)|(refine W_seqD mixed [] (by kernel_rfl) fun K hK => ?_;(try (refine sJd ?_;try exact True.intro));(repeat refine aI ?_);refine hK _ ?_;clear hK K)));exact h.out) : G := f ⟨h⟩
theorem f6add_ok (f g : List (Int × RR)) {B C : Nat} (hf : PF f B) (hg : PF g C) (hl : f.length + g.length < 274877906944) (hs : B + C ≤ 8589934592) :
  Pure Tryz.prog 112 [cF f,cF g] (· = cL (normF (vals f ++ vals g))) := by
 have hn := f6norm_ok (f ++ g) (hf.append hg (by omega)) hs
 rw [vals_append] at hn
 have h1 := hf.len
 have h2 := hg.len
 generalize normF (vals f ++ vals g) = R at *
 simp only [cF,cL] at hn ⊢
 (refine pureW Tryz.func112 rfl (rs := [Go.ResultVar.tmp 4]) rfl (n := 14) rfl ?_;simp only [List.length_cons,List.length_nil,List.replicate,List.cons_append,List.nil_append])
 (refine aJd ?_)
 (refine W.le ?_ (Le_freeze 8 (rows := tab rowM (f ++ g)) rfl (by simp) (.inl rfl));simp only [St.freeze,List.map_cons,List.map_nil,List.set,if_true,if_false,Nat.reduceEqDiff,reduceCtorEq,List.drop_zero,u32s_take,u32s_drop,froz_any,froz_und,froz_int,froz_bool,froz_str,froz_nils,froz_sl,froz_ia,froz_nilp,froz_nilif,froz_nilfn,froz_nilmp,froz_gl,froz_sref,froz_ptr,froz_agg,froz_tup,froz_fn,froz_ifc,frozs_nil,frozs_cons,froz_dead,froz_arr,froz_mp,froz_it,froz_md,froz_map,froz_iter])
 rw [List.take_of_length_le (by simp [tab_length])]
 ((refine W_seqV ?_);intro K hK;(refine sJd ?_))
 (refine ⟨by kernel_rfl,_,.pure rfl (hn),?_⟩;(try (refine sJd ?_)))
 (refine hK _ ?_;clear hK K)
 refine W_ret ?_
 (refine qG ?_;try exact True.intro)
theorem f6scale_ok (r : RR) (f : List (Int × RR)) {B : Nat} (hr : r.ok) (hf : PF f B) (hb : ∀ p ∈ f,nb r.v + nb p.2.v < 8589934592) (hs : nb r.v + B ≤ 8589934592) :
  Pure Tryz.prog 113 [r.av,cF f] (· = cL (normF (scaleF r.v (vals f)))) := by
 have hn := f6norm_ok (rf (scaleF r.v (vals f))) (hf.scale (C := nb r.v) (fun p hp => by have := hb p hp;omega) (Nat.le_refl _)) hs
 rw [vals_rf,cF_rf] at hn
 have hfl := hf.len
 have hst : ∀ i,i < f.length → scaleF r.v (vals (f.take (i + 1))) = scaleF r.v (vals (f.take i)) ++ [((f.getD i default).1,r.v * (f.getD i default).2.v)] := fun i hi => by
  rw [List.take_succ_eq_append_getElem hi,vals_append]
  simp [scaleF,vals,List.getD_eq_getElem?_getD,hi]
 have hln : ∀ i,i ≤ f.length → (scaleF r.v (vals (f.take i))).length = i := fun i h => by simp [scaleF,vals];omega
 have h0 : scaleF r.v (vals (f.take 0)) = [] := rfl
 have hlast : scaleF r.v (vals (f.take f.length)) = scaleF r.v (vals f) := by rw [List.take_length]
 have hok : ∀ i,i < f.length → (f.getD i default).2.ok ∧ nb r.v + nb (f.getD i default).2.v < 8589934592 := fun i hi => by
  have hm : f.getD i default ∈ f := by simp [List.getD_eq_getElem?_getD,hi]
  exact ⟨hf.ok _ hm,hb _ hm⟩
 generalize normF (scaleF r.v (vals f)) = R at *
 rw [← hlast] at hn
 generalize hE : (fun i => scaleF r.v (vals (f.take i))) = E at *
 have hE' : ∀ i,scaleF r.v (vals (f.take i)) = E i := fun i => congrFun hE i
 simp only [hE'] at *
 clear hE hE' hlast
 simp only [cL] at hn ⊢
 simp only [RR.av]
 (refine pureW Tryz.func113 rfl (rs := [Go.ResultVar.tmp 4]) rfl (n := 31) rfl ?_;simp only [List.length_cons,List.length_nil,List.replicate,List.cons_append,List.nil_append])
 (refine aJd ?_)
 refine W.le ?_ (Le_nil 5 5 55 4 true rfl rfl)
 simp only [List.set]
 refine W_seq ?_
 ((refine W_seqV ?_);intro K hK;(refine sJd ?_))
 (refine hK _ ?_;clear hK K)
 refine W_block (W_loop (fun t : {t : Nat // t ≤ f.length} =>
   ⟨[.any,.sl (tab rowM f),.ptr 2 0 0,.any,.any,.sref 5 0 t.1,.int .i64 t.1,.any,.any,.any,.any,.any,.any,.any,.any,.any,.any,.any,.any,.any,.any,.any,.any,.any,.any,.any,.any,.any,.any,.any,.any],[.dead,.dead,.arr 53 3 false [[.bool r.neg,.sl (u32s r.num),.sl (u32s r.den)]],.dead,.dead,.arr 55 4 true (tab rowQ (E t.1)),.dead,.dead,.dead,.dead,.dead,.dead,.dead,.dead,.dead,.dead,.dead,.dead,.dead,.dead,.dead,.dead,.dead,.dead,.dead,.dead,.dead,.dead,.dead,.dead,.dead]⟩) (fun t => f.length - t.1)
   ⟨0,by omega⟩ (Le_of (by simp [leE]) (by simp [h0,tab])) fun t => ?_)
 obtain ⟨i,hi⟩ := t
 dsimp only
 by_cases hlt : i < f.length
 ·have hXi : (tab rowM f).getD i [] = rowM (f.getD i default) := tab_getD hlt
  have hsi := hst i hlt
  have hli := hln i (by omega)
  obtain ⟨hp1,hp2⟩ := hok i hlt
  generalize f.getD i default = p at *
  have hmul := f3mul_ok r p.2 hr hp1
  simp only [rowM] at hXi
  generalize r.v * p.2.v = m at *
  simp only [RR.av,cQ] at hmul
  generalize E i = o at *
  refine W_seq ?_
  ((refine W_seqV ?_);intro K hK;(refine sJdX hlt ?_))
  (refine hK _ ?_;clear hK K)
  (refine W_ct rfl ?_)
  refine W_skip ?_
  simp only [thenW]
  refine W_seq ?_
  refine W_block ?_
  ((refine W_regS mixed 15 [] (by kernel_rfl) ?_);intro K hK;(refine sJdX (And.intro hXi (And.intro hlt hli)) ?_))
  (refine ⟨by kernel_rfl,_,.pure rfl (hmul),?_⟩;(try (refine sJd ?_));(repeat refine aI ?_))
  (refine hK _ ?_;clear hK K)
  simp only [blockW,thenW]
  ((refine W_regV ?_);intro K hK;(refine sJd ?_))
  (refine hK _ ?_;clear hK K)
  simp only [blockW,thenW]
  refine ⟨⟨i + 1,by omega⟩,Le_drop (by simp [leE]) (by simp [leH,hsi,← tab_snoc,rowQ,tab_take,List.take_of_length_le,hli]) rfl rfl,?_⟩
  dsimp only
  omega
 ·obtain rfl : i = f.length := by omega
  have hli := hln f.length (by omega)
  refine W_seq ?_
  ((refine W_seqV ?_);intro K hK;(refine sJd ?_))
  (refine hK _ ?_;clear hK K)
  (refine W_cf rfl ?_)
  refine W_exit ?_
  simp only [thenW,blockW,if_true]
  (refine W.le ?_ (Le_freeze 5 (rows := tab rowQ (E f.length)) rfl (by simp) (.inl rfl));simp only [St.freeze,List.map_cons,List.map_nil,List.set,if_true,if_false,Nat.reduceEqDiff,reduceCtorEq,List.drop_zero,u32s_take,u32s_drop,froz_any,froz_und,froz_int,froz_bool,froz_str,froz_nils,froz_sl,froz_ia,froz_nilp,froz_nilif,froz_nilfn,froz_nilmp,froz_gl,froz_sref,froz_ptr,froz_agg,froz_tup,froz_fn,froz_ifc,frozs_nil,frozs_cons,froz_dead,froz_arr,froz_mp,froz_it,froz_md,froz_map,froz_iter])
  rw [List.take_of_length_le (by simp [tab_length,hli])]
  ((refine W_seqV ?_);intro K hK;(refine sJd ?_))
  (refine ⟨by kernel_rfl,_,.pure rfl (hn),?_⟩;(try (refine sJd ?_)))
  (refine hK _ ?_;clear hK K)
  refine W_ret ?_
  (refine qG ?_;try exact True.intro)
theorem norm_scale (c : Rat) (f : List (Int × Rat)) : normF (scaleF c f) = if c = 0 then [] else scaleF c (normF f) := by
 symm
 split
 ·rename_i h
  refine norm_of NF.nil fun v => ?_
  rw [coef_scale,h,Rat.zero_mul];rfl
 ·rename_i h
  refine norm_of ((NF.norm f).scale h) fun v => ?_
  rw [coef_scale,coef_scale,coef_norm]
theorem nb_m1' : nb (-1 : Rat) = 2 := nb_m1
theorem f6sub_ok (f g : List (Int × RR)) {B C : Nat} (hf : PF f B) (hg : PF g C) (hb : ∀ p ∈ g,nb p.2.v < 8589934000) (hl : f.length + g.length < 274877906944) (hs : B + C ≤ 8589934000) :
  Pure Tryz.prog 84 [cF f,cF g] (· = cL (subF (vals f) (vals g))) := by
 have hw := f3whole_ok (-1) (by omega) (by omega)
 have hsc := f6scale_ok (qr (-1)) g (qr_ok (by rw [nb_m1'];omega)) hg (by intro p hp;have := hb p hp;rw [qr_v,nb_m1'];omega) (by rw [qr_v,nb_m1'];omega)
 have hnz : ¬ ((-1 : Rat) = 0) := by decide
 rw [qr_v,norm_scale,if_neg hnz] at hsc
 have hnl := len_norm (vals g)
 rw [vals_length] at hnl
 have hm : PF (rf (scaleF (-1) (normF (vals g)))) (C + 1) := PF.rf_nf (NF.scale (NF.norm _) hnz) (fun v => by
  rw [coef_scale,coef_norm,show (-1 : Rat) * coef (vals g) v = -(coef (vals g) v) by grind,nb_neg]
  exact hg.coef v) (by omega) (by simp only [scaleF,List.length_map];omega)
 have hadd := f6add_ok f (rf (scaleF (-1) (normF (vals g)))) hf hm (by simp only [scaleF,rf,List.length_map];omega) (by omega)
 rw [vals_rf,cF_rf] at hadd
 change Pure _ _ _ (· = cL (subF (vals f) (vals g))) at hadd
 generalize subF (vals f) (vals g) = R at *
 have hqe : ((-1 : Int) : Rat) = -1 := rfl
 rw [hqe] at hw
 simp only [RR.av,qr] at hsc
 simp only [cQ] at hw
 generalize (-1 : Rat) = q at *
 simp only [cF,cL] at *
 (refine pureW Tryz.func84 rfl (rs := [Go.ResultVar.tmp 4]) rfl (n := 10) rfl ?_;simp only [List.length_cons,List.length_nil,List.replicate,List.cons_append,List.nil_append])
 (refine aJd ?_)
 ((refine W_seqV ?_);intro K hK;(refine sJd ?_))
 (refine ⟨by kernel_rfl,_,.pure rfl (hw),?_⟩;(try (refine sJd ?_)))
 (refine ⟨by kernel_rfl,_,.pure rfl (hsc),?_⟩;(try (refine sJd ?_)))
 (refine ⟨by kernel_rfl,_,.pure rfl (hadd),?_⟩;(try (refine sJd ?_)))
 (refine hK _ ?_;clear hK K)
 refine W_ret ?_
 (refine qG ?_;try exact True.intro)
end Go.Proofs.YtjmpajgjaefcjaaGreat.Vm
namespace Go.Proofs.YtjmpajgjaefcjaaGreat.Vm
open Go Go.RowKit
set_option maxRecDepth 100000
set_option linter.unusedVariables false
set_option linter.unusedSimpArgs false
end Go.Proofs.YtjmpajgjaefcjaaGreat.Vm
namespace Go.Proofs.YtjmpajgjaefcjaaGreat.Vm
open Go Go.RowKit
set_option maxRecDepth 100000
set_option linter.unusedVariables false
set_option linter.unusedSimpArgs false
end Go.Proofs.YtjmpajgjaefcjaaGreat.Vm
namespace Go.Proofs.YtjmpajgjaefcjaaGreat.Vm
open Go Go.RowKit
set_option maxRecDepth 100000
set_option linter.unusedVariables false
set_option linter.unusedSimpArgs false
structure At where
 name : ByteArray
 form : List (Int × RR)
 bound : RR
 strict : Bool
def At.cells (a : At) : List AV := [.str a.name,.sl (tab rowM a.form),.bool a.bound.neg,.sl (u32s a.bound.num),.sl (u32s a.bound.den),.bool a.strict]
structure AtOk (a : At) : Prop where
 form : FOk a.form 67108864
 nbs : nbs (vals a.form) ≤ 67108864
 bound : a.bound.ok
 nb : nb a.bound.v ≤ 67108864
structure Half where
 name : ByteArray
 shape : List (Int × Rat)
 truth : Bool
 down : Bool
 strict : Bool
 at_ : RR
def Half.cells (h : Half) : List AV := [.str h.name,.sl (tab rowQ h.shape),.bool h.truth,.bool h.down,.bool h.strict,.bool h.at_.neg,.sl (u32s h.at_.num),.sl (u32s h.at_.den)]
structure HalfOk (h : Half) : Prop where
 shape : Sz h.shape 268435456
 at_ : h.at_.ok
 nb : nb h.at_.v ≤ 268435456
def named (b : ByteArray) : Bool := !(b.toList == (ByteArray.mk #[]).toList)
def Half.alone (h : Half) : Bool := named h.name || decide (0 < h.shape.length) || h.truth
def together (a b : Half) : Bool :=
 if (!a.alone || !b.alone) = true then false
 else if (named a.name || named b.name) = true then !(a.name.toList == b.name.toList) || (a.truth == b.truth)
 else if ((cmpF a.shape b.shape != 0) || (a.down == b.down)) = true then true
 else decide ((if a.down then -(rs (a.at_.v - b.at_.v)) else rs (a.at_.v - b.at_.v)) < 0) || (((if a.down then -(rs (a.at_.v - b.at_.v)) else rs (a.at_.v - b.at_.v)) == 0) && !a.strict && !b.strict)
def saysH (a : At) (sign : Bool) : Half :=
 if named a.name = true then ⟨a.name,[],sign,false,false,zeroR⟩
 else match normF (vals a.form) with
  | [] => ⟨ByteArray.mk #[],[],(decide (0 < rs a.bound.v) || (rs a.bound.v == 0 && !a.strict)) == sign,false,false,zeroR⟩
  | p::l => ⟨ByteArray.mk #[],primeF (p::l),false,decide (0 < rs (primeC (p::l))) == sign,a.strict == sign,qr (a.bound.v / primeC (p::l))⟩
def rowC (c : List Int) : List AV := [.sl (i64s c)]
def prs : List (Int × Int) := [(1,2),(1,-2),(-1,2),(-1,-2)]
def holds2 (a b : At) (p : Int × Int) : Bool := !together (saysH a (decide (p.1 < 0))) (saysH b (decide (p.2 < 0)))
def relT (a b : At) (n : Nat) : List (List Int) := ((prs.take n).filter (holds2 a b)).map fun p => [p.1,p.2]
def asg (xs : List Rat) (v : Int) : Rat := if 0 ≤ v then xs.getD v.toNat 0 else 0
def nbl : List Rat → Nat
 | [] => 0
 | x::xs => nb x + nbl xs
theorem nbl_drop (xs : List Rat) {a k : Nat} (h : a ≤ k) : nbl (xs.drop k) ≤ nbl (xs.drop a) := by
 induction k with
 | zero => rw [show a = 0 by omega];exact Nat.le_refl _
 | succ k ih =>
  by_cases hk : a = k + 1
  ·subst hk;exact Nat.le_refl _
  ·refine Nat.le_trans ?_ (ih (by omega))
   by_cases hl : k < xs.length
   ·rw [List.drop_eq_getElem_cons hl,nbl];omega
   ·rw [List.drop_eq_nil_of_le (show xs.length ≤ k by omega),List.drop_eq_nil_of_le (by omega)]
    exact Nat.le_refl _
theorem nbl_at (xs : List Rat) {a k : Nat} (h : a ≤ k) (hk : k < xs.length) : nb (xs.getD k 0) + nbl (xs.drop (k + 1)) ≤ nbl (xs.drop a) := by
 refine Nat.le_trans ?_ (nbl_drop xs h)
 rw [List.drop_eq_getElem_cons hk,nbl]
 simp [List.getD_eq_getElem?_getD,hk]
def nbx (x : Int → Rat) : List (Int × Rat) → Nat
 | [] => 0
 | p::l => nb (x p.1) + nbx x l
theorem nbx_le (xs : List Rat) : ∀ (l : List (Int × Rat)) (a : Nat),NF l → (∀ p ∈ l,0 ≤ p.1 → (a : Int) ≤ p.1) → nbx (asg xs) l ≤ l.length + nbl (xs.drop a)
 | [],a,_,_ => by simp [nbx]
 | p::l,a,h,ha => by
  simp only [nbx,List.length_cons]
  by_cases hp : 0 ≤ p.1 ∧ p.1.toNat < xs.length
  ·have h1 := ha p List.mem_cons_self hp.1
   have h2 := nbl_at xs (a := a) (k := p.1.toNat) (by omega) hp.2
   have h3 := nbx_le xs l (p.1.toNat + 1) h.tail fun q hq _ => by have := h.head q hq;omega
   have h4 : asg xs p.1 = xs.getD p.1.toNat 0 := if_pos hp.1
   rw [h4]
   omega
  ·have h4 : asg xs p.1 = 0 := by
    unfold asg
    split
    ·rename_i h0
     have : ¬ p.1.toNat < xs.length := fun h => hp ⟨h0,h⟩
     rw [List.getD_eq_getElem?_getD,List.getElem?_eq_none (by omega)]
     rfl
    ·rfl
   have h3 := nbx_le xs l a h.tail fun q hq h0 => ha q (List.mem_cons_of_mem _ hq) h0
   rw [h4,nb_zero]
   omega
theorem nb_ev2 (x : Int → Rat) : ∀ l : List (Int × Rat),nb (ev2 x l) ≤ 1 + nbs l + nbx x l
 | [] => by simp [ev2,nb_zero,nbs,nbx]
 | p::l => by
  have h1 := nb_add (p.2 * x p.1) (ev2 x l)
  have h2 := nb_mul p.2 (x p.1)
  have h3 := nb_ev2 x l
  simp only [ev2,nbs,nbx]
  omega
theorem nb_value (xs : List Rat) (f : List (Int × Rat)) : nb (ev2 (asg xs) f) ≤ 1 + 2 * nbs f + nbl xs := by
 rw [← ev2_norm]
 have h1 := nb_ev2 (asg xs) (normF f)
 have h2 := nbx_le xs (normF f) 0 (NF.norm f) fun p _ h => by simpa using h
 rw [List.drop_zero] at h2
 have h3 := nbs_norm f
 have h4 := nbs_len (normF f)
 omega
theorem nb_asg (xs : List Rat) (v : Int) : nb (asg xs v) ≤ 1 + nbl xs := by
 unfold asg
 split
 ·by_cases h : v.toNat < xs.length
  ·have := nbl_at xs (a := 0) (k := v.toNat) (by omega) h
   rw [List.drop_zero] at this
   omega
  ·rw [List.getD_eq_getElem?_getD,List.getElem?_eq_none (by omega)]
   show nb 0 ≤ _
   rw [nb_zero];omega
 ·rw [nb_zero];omega
def inN (names : List ByteArray) (n : ByteArray) : Bool := names.any fun m => m.toList == n.toList
def truth (a : At) (xs : List Rat) (names : List ByteArray) : Bool :=
 if named a.name = true then inN names a.name
 else decide (rs (ev2 (asg xs) (vals a.form) - a.bound.v) < 0) || (rs (ev2 (asg xs) (vals a.form) - a.bound.v) == 0 && !a.strict)
def Half.so (h : Half) (xs : List Rat) (names : List ByteArray) : Bool :=
 if named h.name = true then inN names h.name == h.truth
 else if h.shape = [] then h.truth
 else if h.down = true then decide (ev2 (asg xs) h.shape < h.at_.v) || (decide (ev2 (asg xs) h.shape = h.at_.v) && !h.strict)
 else decide (h.at_.v < ev2 (asg xs) h.shape) || (decide (ev2 (asg xs) h.shape = h.at_.v) && !h.strict)
structure Half.fit (h : Half) : Prop where
 nf : NF h.shape
 up : h.shape = [] → h.down = false
def absQ (q : Rat) : Rat := if q < 0 then -q else q
structure DD where
 a : RR
 b : RR
def DD.cells (d : DD) : List AV := [.bool d.a.neg,.sl (u32s d.a.num),.sl (u32s d.a.den),.bool d.b.neg,.sl (u32s d.b.num),.sl (u32s d.b.den)]
def DD.av (d : DD) : AV := .agg d.cells
def DD.v (d : DD) : Rat × Rat := (d.a.v,d.b.v)
def DD.ok (d : DD) : Prop := d.a.ok ∧ d.b.ok
def dq (x : Rat × Rat) : DD := ⟨qr x.1,qr x.2⟩
def cD (x : Rat × Rat) : AV := .agg [.bool (decide (x.1.num < 0)),.sl (u32s (limbs x.1.num.natAbs)),.sl (u32s (limbs x.1.den)),.bool (decide (x.2.num < 0)),.sl (u32s (limbs x.2.num.natAbs)),.sl (u32s (limbs x.2.den))]
theorem dq_v (x : Rat × Rat) : (dq x).v = x := by simp [dq,DD.v,qr_v]
def nb2 (x : Rat × Rat) : Nat := max (nb x.1) (nb x.2)
theorem nb2_le {x : Rat × Rat} {k : Nat} (h1 : nb x.1 ≤ k) (h2 : nb x.2 ≤ k) : nb2 x ≤ k := Nat.max_le.2 ⟨h1,h2⟩
def dadd (x y : Rat × Rat) : Rat × Rat := (x.1 + y.1,x.2 + y.2)
def dsub (x y : Rat × Rat) : Rat × Rat := (x.1 - y.1,x.2 - y.2)
def dneg (x : Rat × Rat) : Rat × Rat := (-x.1,-x.2)
def dscale (c : Rat) (x : Rat × Rat) : Rat × Rat := (c * x.1,c * x.2)
def lexI (a b : Int) : Int := if a ≠ 0 then a else b
def dsg (x : Rat × Rat) : Int := lexI (rs x.1) (rs x.2)
theorem sLd {G G' : Prop} (h : G') (e : G = G' := by conv => lhs;simp (disch := omega) only [rowsOf,cNat,cN,St.ret,St.seth,Eff.app,Eff.wi,sepL,guardOf,St.known,objOf,List.set,sliceW,litW,copyW,lenOf,bnd,mxOk,ofCells,TI.isAgg,cellsOf,storable,AV.one,dead,laid,overlay,reduceCtorEq,Int.reduceLE,Int.reduceLT,Int.reduceSub,Int.reduceAdd,Nat.reduceMul,Int.reduceToNat,Nat.reducePow,Int.reduceNeg,Nat.reduceAdd,Nat.reduceLT,Nat.reduceLeDiff,sA,sB,cQ,rowM,rowQ,i64s_length,i64s_all,i64s_take,i64s_one,i64s_pure,i64s_append,tab_length,tab_getD_zero,List.take_length,List.length_append,tab_drop,tab_take,tab_append,tab_nil,rowM_all,rowM_one,rowM_pure,rowQ_all,rowQ_one,rowQ_pure,sT]) : G := e.mpr h
theorem sLdX {G G' P : Prop} (p : P) (h : G') (e : P → G = G' := by intro p;conv => lhs;simp (disch := omega) only [rowsOf,cNat,cN,St.ret,St.seth,Eff.app,Eff.wi,sepL,guardOf,St.known,objOf,List.set,sliceW,litW,copyW,lenOf,bnd,mxOk,ofCells,TI.isAgg,cellsOf,storable,AV.one,dead,laid,overlay,reduceCtorEq,Int.reduceLE,Int.reduceLT,Int.reduceSub,Int.reduceAdd,Nat.reduceMul,Int.reduceToNat,Nat.reducePow,Int.reduceNeg,Nat.reduceAdd,Nat.reduceLT,Nat.reduceLeDiff,sA,sB,cQ,rowM,rowQ,i64s_length,i64s_all,i64s_take,i64s_one,i64s_pure,i64s_append,tab_length,tab_getD_zero,List.take_length,List.length_append,tab_drop,tab_take,tab_append,tab_nil,rowM_all,rowM_one,rowM_pure,rowQ_all,rowQ_one,rowQ_pure,sT,p]) : G := (e p).mpr h
theorem sLdV {G G' : Prop} (h : G') (e : G = G' := by conv => lhs;simp (disch := omega) only [rowsOf,cNat,cN,St.ret,St.seth,Eff.app,Eff.wi,sepL,guardOf,St.known,objOf,List.set,sliceW,litW,copyW,lenOf,bnd,mxOk,ofCells,TI.isAgg,cellsOf,storable,AV.one,dead,laid,overlay,reduceCtorEq,Int.reduceLE,Int.reduceLT,Int.reduceSub,Int.reduceAdd,Nat.reduceMul,Int.reduceToNat,Nat.reducePow,Int.reduceNeg,Nat.reduceAdd,Nat.reduceLT,Nat.reduceLeDiff,sA,sB,cQ,rowM,rowQ,i64s_length,i64s_all,i64s_take,i64s_one,i64s_pure,i64s_append,tab_length,tab_getD_zero,List.take_length,List.length_append,tab_drop,tab_take,tab_append,tab_nil,rowM_all,rowM_one,rowM_pure,rowQ_all,rowQ_one,rowQ_pure,sT,view_sref,viewRef,view_agg,views_cons,views_nil,view_bool,view_int,view_sl,view_nils,view_str,view_tup,view_nilif]) : G := e.mpr h
theorem aLd {G G' : Prop} (h : G') (f : Wr G' → G := by intro h;(repeat (first|(refine W_seqV fun K hK => ?_;(try (refine sLd ?_;try exact True.intro));(repeat refine aI ?_);refine hK _ ?_;clear hK K)|(refine W_seqR fun K hK => ?_;(try (refine sLd ?_;try exact True.intro));(repeat refine aI ?_);refine hK _ ?_;clear hK K)|(refine W_seqD mixed [] (by kernel_rfl) fun K hK => ?_;(try (refine sLd ?_;try exact True.intro));(repeat refine aI ?_);refine hK _ ?_;clear hK K)));exact h.out) : G := f ⟨h⟩
theorem lcoef_ok (f : List (Int × RR)) (v : Int) {B : Nat} (hf : PF f B) (hB : B ≤ 8589934592) :
  Pure Tryz.prog 89 [cF f,.int .i64 v] (· = cQ (coef (vals f) v)) := by
 have hfl := hf.len
 have hvl : (vals f).length = f.length := by simp [vals]
 have hst : ∀ i,i < f.length → coef ((vals f).take (i + 1)) v = coef ((vals f).take i) v + if (f.getD i default).1 = v then (f.getD i default).2.v else 0 := fun i hi => by
  rw [coef_take _ _ (by omega)]
  have : (vals f).getD i default = ((f.getD i default).1,(f.getD i default).2.v) := by simp [vals,List.getD_eq_getElem?_getD,hi]
  rw [this]
 have hz : zeroR.ok ∧ zeroR.v = 0 := ⟨zeroR_ok,zeroR_v⟩
 have hnv : ∀ i,nb (coef ((vals f).take i) v) ≤ 8589934592 := fun i => Nat.le_trans (hf.pre i v) hB
 have hok : ∀ i,i < f.length → (f.getD i default).2.ok := fun i hi => hf.ok _ (by simp [List.getD_eq_getElem?_getD,hi])
 have hnr := rnorm_ok
 have hlast : coef ((vals f).take f.length) v = coef (vals f) v := by rw [← hvl,List.take_length]
 rw [← hlast]
 generalize hE : (fun i => coef ((vals f).take i) v) = E at *
 have hE' : ∀ i,coef ((vals f).take i) v = E i := fun i => congrFun hE i
 have h0 : E 0 = 0 := by rw [← hE];rfl
 simp only [hE'] at *
 clear hE hE' hlast
 (refine pureW Tryz.func89 rfl (rs := [Go.ResultVar.cell 4 53]) rfl (n := 26) rfl ?_;simp only [List.length_cons,List.length_nil,List.replicate,List.cons_append,List.nil_append])
 simp only [cF]
 (refine aLd ?_)
 refine W.le ?_ (Le_datas 5 rfl)
 simp only [List.set,List.map_cons,List.map_nil,AV.datas,AV.data]
 refine W_seq ?_
 ((refine W_seqV ?_);intro K hK;(refine sLd ?_))
 (refine hK _ ?_;clear hK K)
 refine W_block (W_loop (fun t : {t : Nat × RR // t.1 ≤ f.length ∧ t.2.ok ∧ t.2.v = E t.1} =>
   ⟨[.any,.int .i64 v,.any,.any,.ptr 4 0 0,.ptr 5 0 0,.any,.any,.any,.sl (tab rowM f),.int .i64 f.length,.int .i64 t.1.1,.any,.any,.any,.any,.any,.any,.any,.any,.any,.any,.any,.any,.any,.any],[.dead,.dead,.dead,.dead,.arr 53 3 false [[.bool false,.nils,.nils]],.arr 53 3 false [[.bool t.1.2.neg,.sl (u32s t.1.2.num),.sl (u32s t.1.2.den)]],.dead,.dead,.dead,.dead,.dead,.dead,.dead,.dead,.dead,.dead,.dead,.dead,.dead,.dead,.dead,.dead,.dead,.dead,.dead,.dead]⟩) (fun t => f.length - t.1.1)
   ⟨(0,zeroR),by omega,hz.1,by rw [hz.2,h0]⟩ (Le_of (by simp [leE]) (by simp [zeroR,u32s])) fun t => ?_)
 obtain ⟨⟨i,q⟩,hi,hq,hqv⟩ := t
 replace hqv : q.v = E i := hqv
 replace hq : q.ok := hq
 replace hi : i ≤ f.length := hi
 dsimp only
 by_cases hlt : i < f.length
 ·have hXi : (tab rowM f).getD i [] = rowM (f.getD i default) := tab_getD hlt
  have hsi := hst i hlt
  have hp1 := hok i hlt
  generalize f.getD i default = p at *
  simp only [rowM] at hXi
  refine W_seq ?_
  ((refine W_regV ?_);intro K hK;(refine sLdX hlt ?_))
  (refine hK _ ?_;clear hK K)
  (refine W_seq (W_ct rfl ?_))
  refine W_skip ?_
  simp only [thenW]
  refine W_seq ?_
  refine W_block ?_
  ((refine W_seqV ?_);intro K hK;(refine sLdX (And.intro hXi hlt) ?_))
  (refine hK _ ?_;clear hK K)
  by_cases hv : p.1 = v
  ·rw [if_pos hv,← hqv] at hsi
   have hadd := radd_ok q p.2 hq hp1
   have hb : (p.1 == v) = true := by simp [hv]
   have hnx := hnv (i + 1)
   rw [hsi] at hnx
   have hqo : (qr (q.v + p.2.v)).ok := qr_ok (by omega)
   have hqw : (qr (q.v + p.2.v)).v = E (i + 1) := by rw [qr_v,hsi]
   have hqa : cQ (q.v + p.2.v) = (qr (q.v + p.2.v)).av := (qr_av _).symm
   rw [hqa] at hadd
   generalize qr (q.v + p.2.v) = q' at *
   simp only [RR.av] at hadd
   ((refine W_seqV ?_);intro K hK;(refine sLdX (And.intro hXi (And.intro hlt hb)) ?_))
   (refine hK _ ?_;clear hK K)
   (refine W_ct rfl ?_)
   ((refine W_regV ?_);intro K hK;(refine sLdX (And.intro hXi hlt) ?_))
   (refine ⟨by kernel_rfl,_,.pure rfl (hadd),?_⟩;(try (refine sLd ?_)))
   (refine hK _ ?_;clear hK K)
   simp only [blockW,thenW]
   ((refine W_regV ?_);intro K hK;(refine sLd ?_))
   (refine hK _ ?_;clear hK K)
   simp only [blockW,thenW]
   refine ⟨⟨(i + 1,q'),by omega,hqo,hqw⟩,Le_drop (by simp [leE]) (by simp [leH]) rfl rfl,?_⟩
   dsimp only
   omega
  ·rw [if_neg hv,Rat.add_zero] at hsi
   have hb : (p.1 == v) = false := by simp [hv]
   ((refine W_seqV ?_);intro K hK;(refine sLdX hb ?_))
   (refine hK _ ?_;clear hK K)
   (refine W_cf rfl ?_)
   refine W_skip ?_
   simp only [blockW,thenW]
   ((refine W_regV ?_);intro K hK;(refine sLd ?_))
   (refine hK _ ?_;clear hK K)
   simp only [blockW,thenW]
   refine ⟨⟨(i + 1,q),by omega,hq,by rw [hqv,hsi]⟩,Le_drop (by simp [leE]) (by simp [leH]) rfl rfl,?_⟩
   dsimp only
   omega
 ·obtain rfl : i = f.length := by omega
  have hn := hnr q hq
  rw [hqv] at hn
  simp only [RR.av,cQ] at hn
  refine W_seq ?_
  ((refine W_regV ?_);intro K hK;(refine sLd ?_))
  (refine hK _ ?_;clear hK K)
  (refine W_seq (W_cf rfl ?_))
  refine W_exit ?_
  simp only [thenW,blockW,if_true]
  ((refine W_seqV ?_);intro K hK;(refine sLd ?_))
  (refine ⟨by kernel_rfl,_,.pure rfl (hn),?_⟩;(try (refine sLd ?_)))
  (refine hK _ ?_;clear hK K)
  refine W_ret ?_
  (refine qG ?_;try exact True.intro);try (refine sLdV ?_;try exact True.intro)
theorem lvars_ok (f : List (Int × RR)) {B : Nat} (h : FOk f B) (hB : B < 17179869184) : Pure Tryz.prog 109 [cF f] (· = .sl (i64s ((normF (vals f)).map (·.1)))) := by
 have hn := lnorm_ok f h hB
 have hl := len_norm (vals f)
 rw [vals_length] at hl
 have hfl := h.len
 generalize normF (vals f) = l at *
 have hst : ∀ i,i < l.length → (l.take (i + 1)).map (·.1) = (l.take i).map (·.1) ++ [(l.getD i default).1] := fun i hi => by
  rw [List.take_succ_eq_append_getElem hi,List.map_append]
  simp [List.getD_eq_getElem?_getD,hi]
 have hln : ∀ i,i ≤ l.length → ((l.take i).map (·.1)).length = i := fun i h => by simp;omega
 have h0 : (l.take 0).map (·.1) = [] := rfl
 have hlast : (l.take l.length).map (·.1) = l.map (·.1) := by rw [List.take_length]
 rw [← hlast]
 generalize hE : (fun i => (l.take i).map (·.1)) = E at *
 have hE' : ∀ i,(l.take i).map (·.1) = E i := fun i => congrFun hE i
 simp only [hE'] at *
 clear hE hE' hlast
 simp only [cF,cL] at hn ⊢
 (refine pureW Tryz.func109 rfl (rs := [Go.ResultVar.tmp 2]) rfl (n := 20) rfl ?_;simp only [List.length_cons,List.length_nil,List.replicate,List.cons_append,List.nil_append])
 (refine aLd ?_)
 refine W.le ?_ (Le_nil 3 3 3 1 true rfl rfl)
 simp only [List.set]
 refine W_seq ?_
 ((refine W_seqV ?_);intro K hK;(refine sLd ?_))
 (refine ⟨by kernel_rfl,_,.pure rfl (hn),?_⟩;(try (refine sLd ?_)))
 (refine hK _ ?_;clear hK K)
 refine W_block (W_loop (fun t : {t : Nat // t ≤ l.length} =>
   ⟨[.any,.any,.any,.sref 3 0 t.1,.any,.any,.any,.sl (tab rowQ l),.int .i64 l.length,.int .i64 t.1,.any,.any,.any,.any,.any,.any,.any,.any,.any,.any],[.dead,.dead,.dead,.arr 3 1 true (i64s (E t.1)),.dead,.dead,.dead,.dead,.dead,.dead,.dead,.dead,.dead,.dead,.dead,.dead,.dead,.dead,.dead,.dead]⟩) (fun t => l.length - t.1)
   ⟨0,by omega⟩ (Le_of (by simp [leE]) (by simp [h0,i64s])) fun t => ?_)
 obtain ⟨i,hi⟩ := t
 dsimp only
 by_cases hlt : i < l.length
 ·have hXi : (tab rowQ l).getD i [] = rowQ (l.getD i default) := tab_getD hlt
  have hsi := hst i hlt
  have hli := hln i (by omega)
  generalize l.getD i default = p at *
  generalize E i = o at *
  simp only [rowQ] at hXi
  refine W_seq ?_
  ((refine W_regV ?_);intro K hK;(refine sLdX hlt ?_))
  (refine hK _ ?_;clear hK K)
  (refine W_seq (W_ct rfl ?_))
  refine W_skip ?_
  simp only [thenW]
  refine W_seq ?_
  refine W_block ?_
  ((refine W_seqV ?_);intro K hK;(refine sLdX (And.intro hXi hlt) ?_))
  (refine hK _ ?_;clear hK K)
  ((refine W_regR ?_);intro K hK;(refine sLdX hli ?_))
  (repeat refine aI ?_);refine hK _ ?_;clear hK K
  simp only [blockW,thenW]
  ((refine W_regV ?_);intro K hK;(refine sLd ?_))
  (refine hK _ ?_;clear hK K)
  simp only [blockW,thenW]
  refine ⟨⟨i + 1,by omega⟩,Le_drop (by simp [leE]) (by simp [leH,hsi,i64s,List.take_of_length_le,hli]) rfl rfl,?_⟩
  dsimp only
  omega
 ·obtain rfl : i = l.length := by omega
  have hli := hln l.length (by omega)
  refine W_seq ?_
  ((refine W_regV ?_);intro K hK;(refine sLd ?_))
  (refine hK _ ?_;clear hK K)
  (refine W_seq (W_cf rfl ?_))
  refine W_exit ?_
  simp only [thenW,blockW,if_true]
  ((refine W_seqV ?_);intro K hK;(refine sLd ?_))
  (refine hK _ ?_;clear hK K)
  refine W_ret ?_
  (refine qG ?_;try exact True.intro);try (refine sLdV ?_;try exact True.intro)
  rw [List.take_of_length_le (by simp [i64s,hli])]
theorem sLe {G G' : Prop} (h : G') (e : G = G' := by conv => lhs;simp (disch := omega) only [rowsOf,cNat,cN,St.ret,St.seth,Eff.app,Eff.wi,sepL,guardOf,St.known,objOf,List.set,sliceW,litW,copyW,lenOf,bnd,mxOk,ofCells,TI.isAgg,cellsOf,storable,AV.one,dead,laid,overlay,reduceCtorEq,Int.reduceLE,Int.reduceLT,Int.reduceSub,Int.reduceAdd,Nat.reduceMul,Int.reduceToNat,Nat.reducePow,Int.reduceNeg,Nat.reduceAdd,Nat.reduceLT,Nat.reduceLeDiff,sA,sB,cQ,rowQ,tab_length,tab_getD_zero,List.take_length,List.length_append,tab_drop,tab_take,tab_append,tab_nil,rowQ_all,rowQ_one,rowQ_pure,AV.ren,sT]) : G := e.mpr h
theorem sLeX {G G' P : Prop} (p : P) (h : G') (e : P → G = G' := by intro p;conv => lhs;simp (disch := omega) only [rowsOf,cNat,cN,St.ret,St.seth,Eff.app,Eff.wi,sepL,guardOf,St.known,objOf,List.set,sliceW,litW,copyW,lenOf,bnd,mxOk,ofCells,TI.isAgg,cellsOf,storable,AV.one,dead,laid,overlay,reduceCtorEq,Int.reduceLE,Int.reduceLT,Int.reduceSub,Int.reduceAdd,Nat.reduceMul,Int.reduceToNat,Nat.reducePow,Int.reduceNeg,Nat.reduceAdd,Nat.reduceLT,Nat.reduceLeDiff,sA,sB,cQ,rowQ,tab_length,tab_getD_zero,List.take_length,List.length_append,tab_drop,tab_take,tab_append,tab_nil,rowQ_all,rowQ_one,rowQ_pure,AV.ren,sT,p]) : G := (e p).mpr h
theorem sLeV {G G' : Prop} (h : G') (e : G = G' := by conv => lhs;simp (disch := omega) only [rowsOf,cNat,cN,St.ret,St.seth,Eff.app,Eff.wi,sepL,guardOf,St.known,objOf,List.set,sliceW,litW,copyW,lenOf,bnd,mxOk,ofCells,TI.isAgg,cellsOf,storable,AV.one,dead,laid,overlay,reduceCtorEq,Int.reduceLE,Int.reduceLT,Int.reduceSub,Int.reduceAdd,Nat.reduceMul,Int.reduceToNat,Nat.reducePow,Int.reduceNeg,Nat.reduceAdd,Nat.reduceLT,Nat.reduceLeDiff,sA,sB,cQ,rowQ,tab_length,tab_getD_zero,List.take_length,List.length_append,tab_drop,tab_take,tab_append,tab_nil,rowQ_all,rowQ_one,rowQ_pure,AV.ren,sT,view_sref,viewRef,view_agg,views_cons,views_nil,view_bool,view_int,view_sl,view_nils,view_str,view_tup,view_nilif]) : G := e.mpr h
theorem aLe {G G' : Prop} (h : G') (f : Wr G' → G := by intro h;(repeat (first|(refine W_seqV fun K hK => ?_;(try (refine sLe ?_;try exact True.intro));(repeat refine aI ?_);refine hK _ ?_;clear hK K)|(refine W_seqR fun K hK => ?_;(try (refine sLe ?_;try exact True.intro));(repeat refine aI ?_);refine hK _ ?_;clear hK K)|(refine W_seqD mixed [] (by kernel_rfl) fun K hK => ?_;(try (refine sLe ?_;try exact True.intro));(repeat refine aI ?_);refine hK _ ?_;clear hK K)));exact h.out) : G := f ⟨h⟩
theorem without1_ok (p : Int × Rat) (v : Int) : Pure Tryz.prog 175 [.agg (rowQ p),.ia [.int .i64 v] 0] (· = .bool (p.1 == v)) := by
 (refine pureW Tryz.func175 rfl (rs := [Go.ResultVar.tmp 3]) rfl (n := 8) rfl ?_;simp only [List.length_cons,List.length_nil,List.replicate,List.cons_append,List.nil_append])
 simp only [rowQ]
 (refine aLe ?_)
 refine W_ret ?_
 (refine qG ?_;try exact True.intro);try (refine sLeV ?_;try exact True.intro)
def idxF (l : List (Int × Rat)) (v : Int) : Int :=
 match l with
 | [] => -1
 | p::l => if p.1 = v then 0 else (let r := idxF l v;if r < 0 then -1 else r + 1)
theorem idxF_spec (v : Int) : ∀ l : List (Int × Rat),(idxF l v = -1 ∧ ∀ p ∈ l,p.1 ≠ v) ∨ (∃ i : Nat,idxF l v = i ∧ i < l.length ∧ (l.getD i default).1 = v ∧ ∀ j,j < i → (l.getD j default).1 ≠ v)
 | [] => .inl ⟨rfl,by simp⟩
 | p::l => by
  unfold idxF
  by_cases h : p.1 = v
  ·rw [if_pos h]
   exact .inr ⟨0,rfl,by simp,by simpa using h,by omega⟩
  ·rw [if_neg h]
   rcases idxF_spec v l with ⟨h1,h2⟩ | ⟨i,h1,h2,h3,h4⟩
   ·left
    refine ⟨by simp [h1],fun q hq => ?_⟩
    rcases List.mem_cons.1 hq with rfl | hq
    ·exact h
    ·exact h2 q hq
   ·right
    refine ⟨i + 1,by simp only [h1];rw [if_neg (by omega)];omega,by simp;omega,by simpa using h3,fun j hj => ?_⟩
    cases j with
    | zero => simpa using h
    | succ j => simpa using h4 j (by omega)
theorem idx_ok (l : List (Int × Rat)) (v : Int) (hl : l.length < 1099511627776) : Pure Tryz.prog 212 [.sl (tab rowQ l),.fn (.func 175) [] [.ia [.int .i64 v] 0]] (· = .int .i64 (idxF l v)) := by
 have hsp := idxF_spec v l
 generalize idxF l v = r at *
 (refine pureW Tryz.func212 rfl (rs := [Go.ResultVar.tmp 4]) rfl (n := 19) rfl ?_;simp only [List.length_cons,List.length_nil,List.replicate,List.cons_append,List.nil_append])
 (refine aLe ?_)
 refine W_seq ?_
 ((refine W_seqV ?_);intro K hK;(refine sLe ?_))
 (refine hK _ ?_;clear hK K)
 refine W_block (W_loop (fun t : {t : Nat // t ≤ l.length ∧ ∀ j,j < t → (l.getD j default).1 ≠ v} =>
   ⟨[.sl (tab rowQ l),.fn (.func 175) [] [.ia [.int .i64 v] 0],.any,.any,.any,.any,.any,.int .i64 l.length,.int .i64 t.1,.any,.any,.any,.any,.any,.any,.any,.any,.any,.any],[.dead,.dead,.dead,.dead,.dead,.dead,.dead,.dead,.dead,.dead,.dead,.dead,.dead,.dead,.dead,.dead,.dead,.dead,.dead]⟩) (fun t => l.length - t.1)
   ⟨0,by omega,by omega⟩ (Le_of (by simp [leE]) (by simp)) fun t => ?_)
 obtain ⟨i,hi,hbe⟩ := t
 dsimp only
 by_cases hlt : i < l.length
 ·have hXi : (tab rowQ l).getD i [] = rowQ (l.getD i default) := tab_getD hlt
  have hw := without1_ok (l.getD i default) v
  have hme : l.getD i default ∈ l := by simp [List.getD_eq_getElem?_getD,hlt]
  generalize hp : l.getD i default = p at *
  simp only [rowQ] at hXi hw
  refine W_seq ?_
  ((refine W_regV ?_);intro K hK;(refine sLeX hlt ?_))
  (refine hK _ ?_;clear hK K)
  refine W_seq ?_
  (refine W_ct rfl ?_)
  refine W_skip ?_
  simp only [thenW]
  refine W_seq ?_
  refine W_block ?_
  ((refine W_seqV ?_);intro K hK;(refine sLe ?_))
  (refine hK _ ?_;clear hK K)
  by_cases hv : p.1 = v
  ·have hb : (p.1 == v) = true := by simp [hv]
   rw [hb] at hw
   have hr : r = i := by
    rcases hsp with ⟨h1,h2⟩ | ⟨k,h1,h2,h3,h4⟩
    ·exact absurd hv (h2 p hme)
    ·rcases Nat.lt_trichotomy k i with h | h | h
     ·exact absurd h3 (hbe k h)
     ·rw [h1,h]
     ·exact absurd (by rw [hp];exact hv) (h4 i h)
   subst hr
   ((refine W_seqV ?_);intro K hK;(refine sLeX (And.intro hXi hlt) ?_))
   (refine ⟨by kernel_rfl,_,.pure rfl (hw),?_⟩;(try (refine sLe ?_)))
   (refine hK _ ?_;clear hK K)
   (refine W_ct rfl ?_)
   ((refine W_seqV ?_);intro K hK;(refine sLe ?_))
   (refine hK _ ?_;clear hK K)
   refine W_ret ?_
   (refine qG ?_;try exact True.intro)
  ·have hb : (p.1 == v) = false := by simp [hv]
   rw [hb] at hw
   ((refine W_seqV ?_);intro K hK;(refine sLeX (And.intro hXi hlt) ?_))
   (refine ⟨by kernel_rfl,_,.pure rfl (hw),?_⟩;(try (refine sLe ?_)))
   (refine hK _ ?_;clear hK K)
   (refine W_cf rfl ?_)
   refine W_skip ?_
   simp only [blockW,thenW]
   ((refine W_regV ?_);intro K hK;(refine sLe ?_))
   (refine hK _ ?_;clear hK K)
   simp only [blockW,thenW]
   refine ⟨⟨i + 1,by omega,fun j hj => ?_⟩,Le_drop (by simp [leE]) (by simp [leH]) rfl rfl,?_⟩
   ·rcases Nat.lt_or_ge j i with h | h
    ·exact hbe j h
    ·rw [show j = i by omega,hp];exact hv
   ·dsimp only
    omega
 ·obtain rfl : i = l.length := by omega
  have hr : r = -1 := by
   rcases hsp with ⟨h1,h2⟩ | ⟨k,h1,h2,h3,h4⟩
   ·exact h1
   ·exact absurd h3 (hbe k h2)
  subst hr
  refine W_seq ?_
  ((refine W_regV ?_);intro K hK;(refine sLe ?_))
  (refine hK _ ?_;clear hK K)
  refine W_seq ?_
  (refine W_cf rfl ?_)
  refine W_exit ?_
  simp only [thenW,blockW,if_true]
  ((refine W_seqV ?_);intro K hK;(refine sLe ?_))
  (refine hK _ ?_;clear hK K)
  refine W_ret ?_
  (refine qG ?_;try exact True.intro)
def delF (l : List (Int × Rat)) (v : Int) : List (Int × Rat) := l.filter fun p => !(p.1 == v)
theorem delF_take {l : List (Int × Rat)} {v : Int} {i : Nat} (h : i < l.length) : delF (l.take (i + 1)) v = delF (l.take i) v ++ if (l.getD i default).1 = v then [] else [l.getD i default] := by
 unfold delF
 rw [List.take_succ_eq_append_getElem h,List.filter_append]
 have : l.getD i default = l[i] := by simp [List.getD_eq_getElem?_getD,h]
 rw [this]
 by_cases hv : l[i].1 = v
 ·have hb : (l[i].1 == v) = true := by simp [hv]
  simp [List.filter,hv]
 ·have hb : (l[i].1 == v) = false := by simp [hv]
  rw [List.filter_cons_of_pos (by simp [hb]),if_neg hv]
  simp
theorem delF_len (l : List (Int × Rat)) (v : Int) : (delF l v).length ≤ l.length := List.length_filter_le _ _
theorem delF_none {l : List (Int × Rat)} {v : Int} (h : ∀ p ∈ l,p.1 ≠ v) : delF l v = l := by
 unfold delF
 rw [List.filter_eq_self]
 intro p hp
 simp [h p hp]
theorem del_ok (l : List (Int × Rat)) (v : Int) (hl : l.length < 1099511627776) :
  Mut2 Tryz.prog 174 55 4 (tab rowQ l) 0 l.length [.fn (.func 175) [] [.ia [.int .i64 v] 0]]
   (fun r rows' => r = .sref 0 0 (delF l v).length ∧ rows'.take (delF l v).length = tab rowQ (delF l v)) := by
 have hix := idx_ok l v hl
 have hsp := idxF_spec v l
 generalize idxF l v = r at *
 have hview : Pure Tryz.prog 212 (views ((List.replicate 42 Ob.dead).set 0 (.arr 55 4 true (tab rowQ l))) 3 [.sref 0 0 l.length,.fn (.func 175) [] [.ia [.int .i64 v] 0]]) (· = .int .i64 r) := by
  simp only [views,view,List.replicate,List.set,List.getD_cons_zero,List.drop_zero]
  rw [List.take_of_length_le (by simp [tab_length])]
  exact hix
 simp only [List.replicate,List.set] at hview
 (refine mut2_of_W Tryz.func174 rfl (rs := [Go.ResultVar.tmp 4]) rfl (nt := 42) rfl (by decide) ?_;simp only [List.length_cons,List.length_nil,List.replicate,List.cons_append,List.nil_append,List.set,AV.datas,AV.data])
 (refine aLe ?_)
 ((refine W_seqR ?_);intro K hK;(refine sLe ?_))
 (refine ⟨by kernel_rfl,call_flat (hview) fun r hr => ⟨by subst hr;rfl,?_⟩⟩;subst hr;(refine sLe ?_;try exact True.intro))
 (refine hK _ ?_;clear hK K)
 clear hview hix
 rcases hsp with ⟨h1,h2⟩ | ⟨i,h1,h2,h3,h4⟩
 ·subst h1
  have hz : ((-1 : Int) == -1) = true := rfl
  have hd := delF_none h2
  refine W_seq ?_
  ((refine W_seqV ?_);intro K hK;(refine sLeX hz ?_))
  (refine hK _ ?_;clear hK K)
  (refine W_ct rfl ?_)
  ((refine W_seqV ?_);intro K hK;(refine sLe ?_))
  (refine hK _ ?_;clear hK K)
  refine W_ret ?_
  (refine qG ?_;try exact True.intro)
  rw [hd]
  exact ⟨tab rowQ l,rfl,.inr ⟨0,l.length,rfl⟩,rfl,List.take_of_length_le (by simp [tab_length])⟩
 ·subst h1
  have hz : ((i : Int) == -1) = false := by rw [beq_eq_false_iff_ne];omega
  have hd0 : delF (l.take (i + 1)) v = l.take i := by
   rw [delF_take h2,if_pos h3,List.append_nil]
   refine delF_none fun p hp => ?_
   obtain ⟨j,hj,rfl⟩ := List.mem_iff_getElem.1 hp
   have hjl : j < i := by simp at hj;omega
   have := h4 j hjl
   simpa [List.getD_eq_getElem?_getD,show j < l.length by omega] using this
  refine W_seq ?_
  ((refine W_seqV ?_);intro K hK;(refine sLeX hz ?_))
  (refine hK _ ?_;clear hK K)
  (refine W_cf rfl ?_)
  refine W_skip ?_
  simp only [thenW]
  refine W_seq ?_
  ((refine W_seqV ?_);intro K hK;(refine sLe ?_))
  (refine hK _ ?_;clear hK K)
  refine W_block (W_loop (fun t : {t : Nat × List (Int × Rat) // t.1 ≤ l.length ∧ t.2.length = l.length ∧ t.2.take (delF (l.take t.1) v).length = delF (l.take t.1) v ∧ t.2.drop t.1 = l.drop t.1 ∧ (delF (l.take t.1) v).length ≤ t.1} =>
   ⟨[.sref 0 0 l.length,.fn (.func 175) [] [.ia [.int .i64 v] 0],.any,.any,.any,.int .i64 (delF (l.take t.1.1) v).length,.int .i64 t.1.1,.any,.any,.any,.any,.any,.any,.any,.any,.any,.any,.any,.any,.any,.any,.any,.any,.any,.any,.any,.any,.any,.any,.any,.any,.any,.any,.any,.any,.any,.any,.any,.any,.any,.any,.any],[.arr 55 4 true (tab rowQ t.1.2),.dead,.dead,.dead,.dead,.dead,.dead,.dead,.dead,.dead,.dead,.dead,.dead,.dead,.dead,.dead,.dead,.dead,.dead,.dead,.dead,.dead,.dead,.dead,.dead,.dead,.dead,.dead,.dead,.dead,.dead,.dead,.dead,.dead,.dead,.dead,.dead,.dead,.dead,.dead,.dead,.dead]⟩) (fun t => l.length - t.1.1)
   ⟨(i + 1,l),by dsimp only;omega,rfl,by dsimp only;rw [hd0];simp,rfl,by dsimp only;rw [hd0];simp;omega⟩ (Le_of (by simp [leE,hd0];omega) (by simp)) fun t => ?_)
  obtain ⟨⟨j,c⟩,hj,hcl,hct,hcd,hkj⟩ := t
  replace hj : j ≤ l.length := hj
  replace hcl : c.length = l.length := hcl
  replace hct : c.take (delF (l.take j) v).length = delF (l.take j) v := hct
  replace hcd : c.drop j = l.drop j := hcd
  replace hkj : (delF (l.take j) v).length ≤ j := hkj
  dsimp only
  by_cases hlt : j < l.length
  ·have hdt := delF_take (v := v) hlt
   generalize hk : delF (l.take j) v = D at *
   have hcj : c.getD j default = l.getD j default := by
    have e1 : (c.drop j)[0]? = (l.drop j)[0]? := by rw [hcd]
    simpa [List.getD_eq_getElem?_getD] using congrArg (fun o => o.getD default) e1
   have hXi : (tab rowQ c).getD j [] = rowQ (c.getD j default) := tab_getD (by omega)
   rw [hcj] at hXi
   have hw := without1_ok (l.getD j default) v
   have hcs : ∀ x : Int × Rat,(tab rowQ c).set D.length (rowQ x) = tab rowQ (c.set D.length x) := fun x => tab_set c D.length x
   generalize l.getD j default = p at *
   have hcs1 := hcs p
   simp only [rowQ] at hXi hw hcs1
   have h5 : (j : Int) < (l.length : Int) := by omega
   have h6 : (D.length : Int) < (l.length : Int) := by omega
   have h7 : D.length < (tab rowQ c).length := by rw [tab_length];omega
   refine W_seq ?_
   ((refine W_seqV ?_);intro K hK;(refine sLeX h5 ?_))
   (refine hK _ ?_;clear hK K)
   (refine W_ct rfl ?_)
   refine W_skip ?_
   simp only [thenW]
   refine W_seq ?_
   refine W_block ?_
   ((refine W_seqV ?_);intro K hK;(refine sLeX (And.intro hXi h5) ?_))
   (repeat refine aI ?_);refine hK _ ?_;clear hK K
   have hYk : (tab rowQ c).getD D.length [] = rowQ (c.getD D.length default) := tab_getD (by omega)
   generalize c.getD D.length default = y at *
   simp only [rowQ] at hYk
   by_cases hv : p.1 = v
   ·have hb : (p.1 == v) = true := by simp [hv]
    rw [hb] at hw
    rw [if_pos hv,List.append_nil] at hdt
    ((refine W_seqV ?_);intro K hK;(refine sLe ?_))
    (refine ⟨by kernel_rfl,_,.pure rfl (hw),?_⟩;(try (refine sLe ?_)))
    (refine hK _ ?_;clear hK K)
    (refine W_cf rfl ?_)
    refine W_skip ?_
    simp only [blockW,thenW]
    ((refine W_regV ?_);intro K hK;(refine sLe ?_))
    (refine hK _ ?_;clear hK K)
    simp only [blockW,thenW]
    have hdn : c.drop (j + 1) = l.drop (j + 1) := by rw [← List.drop_drop,hcd,List.drop_drop]
    refine ⟨⟨(j + 1,c),by dsimp only;omega,hcl,by dsimp only;rw [hdt];exact hct,hdn,by dsimp only;rw [hdt];omega⟩,Le_drop (by simp [leE,hdt]) (by simp [leH]) rfl rfl,?_⟩
    dsimp only
    omega
   ·have hb : (p.1 == v) = false := by simp [hv]
    rw [hb] at hw
    rw [if_neg hv] at hdt
    ((refine W_seqV ?_);intro K hK;(refine sLe ?_))
    (refine ⟨by kernel_rfl,_,.pure rfl (hw),?_⟩;(try (refine sLe ?_)))
    (refine hK _ ?_;clear hK K)
    (refine W_ct rfl ?_)
    refine W_seq ?_
    ((refine W_regV ?_);intro K hK;(refine sLeX (And.intro hYk (And.intro h6 (And.intro h7 hcs1))) ?_))
    (repeat refine aI ?_);refine hK _ ?_;clear hK K
    simp only [thenW]
    ((refine W_regV ?_);intro K hK;(refine sLe ?_))
    (refine hK _ ?_;clear hK K)
    simp only [blockW,thenW]
    ((refine W_regV ?_);intro K hK;(refine sLe ?_))
    (refine hK _ ?_;clear hK K)
    simp only [blockW,thenW]
    have hln : (delF (l.take (j + 1)) v).length = D.length + 1 := by rw [hdt];simp
    have hdn : (c.set D.length p).drop (j + 1) = l.drop (j + 1) := by
     rw [List.drop_set_of_lt (by omega),← List.drop_drop,hcd,List.drop_drop]
    have htk : (c.set D.length p).take (D.length + 1) = D ++ [p] := by
     rw [List.take_succ_eq_append_getElem (by simp;omega),List.take_set_of_le (Nat.le_refl _),hct]
     simp
    refine ⟨⟨(j + 1,c.set D.length p),by dsimp only;omega,by simp [hcl],by dsimp only;rw [hln,hdt];exact htk,hdn,by dsimp only;rw [hln];omega⟩,Le_drop (by simp [leE,hln]) (by simp [leH]) rfl rfl,?_⟩
    dsimp only
    omega
  ·obtain rfl : j = l.length := by omega
   rw [List.take_length] at hct hkj ⊢
   generalize delF l v = D at *
   have h5 : (D.length : Int) ≤ (l.length : Int) := by omega
   have h6 : D.length + (l.length - D.length) ≤ (tab rowQ c).length := by rw [tab_length];omega
   refine W_seq ?_
   ((refine W_seqV ?_);intro K hK;(refine sLe ?_))
   (refine hK _ ?_;clear hK K)
   (refine W_cf rfl ?_)
   refine W_exit ?_
   simp only [thenW,blockW,if_true]
   ((refine W_seqR ?_);intro K hK;(refine sLeX (And.intro h5 h6) ?_))
   refine ⟨Nat.le_refl _,by omega,?_⟩
   refine hK _ ?_
   clear hK K
   rw [hct]
   generalize c.drop (D.length + (l.length - D.length)) = rest
   generalize List.replicate (l.length - D.length) [AV.int .i64 0,.bool false,.nils,.nils] = zs
   ((refine W_seqV ?_);intro K hK;(refine sLeX h5 ?_))
   (refine hK _ ?_;clear hK K)
   refine W_ret ?_
   (refine qG ?_;try exact True.intro)
   refine ⟨_,rfl,.inr ⟨0,D.length,by simp⟩,by simp,?_⟩
   rw [List.append_assoc,List.take_append_of_le_length (by rw [tab_length];omega),List.take_of_length_le (by rw [tab_length];omega)]
theorem lwithout_ok (f : List (Int × RR)) (v : Int) {B : Nat} (h : FOk f B) (hB : B < 17179869184) : Pure Tryz.prog 136 [cF f,.int .i64 v] (· = cL (delF (normF (vals f)) v)) := by
 have hn := lnorm_new f h hB
 have hl := len_norm (vals f)
 rw [vals_length] at hl
 have hfl := h.len
 have hd := del_ok (normF (vals f)) v (by omega)
 generalize normF (vals f) = l at *
 simp only [cF,cL] at hn ⊢
 (refine pureW Tryz.func136 rfl (rs := [Go.ResultVar.tmp 4]) rfl (n := 9) rfl ?_;simp only [List.length_cons,List.length_nil,List.replicate,List.cons_append,List.nil_append])
 (refine aLe ?_)
 refine W.le ?_ (Le_freeze 3 (rows := [[.int .i64 v]]) rfl (by simp) (.inr (fun r hr => by simp at hr;subst hr;rfl)))
 simp only [St.freeze,List.map_cons,List.map_nil,List.set,if_true,if_false,Nat.reduceEqDiff,reduceCtorEq,List.getD_cons_zero,froz_any,froz_und,froz_int,froz_bool,froz_str,froz_nils,froz_sl,froz_ia,froz_nilp,froz_nilif,froz_nilfn,froz_nilmp,froz_gl,froz_sref,froz_ptr,froz_agg,froz_tup,froz_fn,froz_ifc,frozs_nil,frozs_cons,froz_dead,froz_arr]
 ((refine W_seqR ?_);intro K hK;(refine sLe ?_))
 refine ⟨by kernel_rfl,?_⟩
 refine call_new 6 rfl rfl hn fun rows hr => ?_
 subst hr
 (refine sLe ?_;try exact True.intro)
 refine ⟨by kernel_rfl,?_⟩
 refine call_mut2C hd rfl rfl fun r rows' hr => ?_
 obtain ⟨rfl,hr⟩ := hr
 (refine sLe ?_;try exact True.intro)
 (refine hK _ ?_;clear hK K)
 refine W_ret ?_
 (refine qG ?_;try exact True.intro)
 rw [hr]
end Go.Proofs.YtjmpajgjaefcjaaGreat.Vm
namespace Go.Proofs.YtjmpajgjaefcjaaGreat.Vm
open Go Go.RowKit
set_option maxRecDepth 100000
set_option linter.unusedVariables false
set_option linter.unusedSimpArgs false
end Go.Proofs.YtjmpajgjaefcjaaGreat.Vm
namespace Go.Proofs.YtjmpajgjaefcjaaGreat.Vm
open Go Go.RowKit
set_option maxRecDepth 100000
set_option linter.unusedVariables false
set_option linter.unusedSimpArgs false
theorem sLf {G G' : Prop} (h : G') (e : G = G' := by conv => lhs;simp (disch := omega) only [rowsOf,cNat,cN,St.ret,St.seth,Eff.app,Eff.wi,sepL,guardOf,St.known,objOf,List.set,sliceW,litW,copyW,lenOf,bnd,mxOk,ofCells,TI.isAgg,cellsOf,storable,AV.one,dead,laid,overlay,reduceCtorEq,Int.reduceLE,Int.reduceLT,Int.reduceSub,Int.reduceAdd,Nat.reduceMul,Int.reduceToNat,Nat.reducePow,Int.reduceNeg,Nat.reduceAdd,Nat.reduceLT,Nat.reduceLeDiff,sA,sB,cQ,rowQ,rowM,tab_length,List.take_length,List.length_append,tab_drop,tab_take,tab_append,tab_nil,rowQ_all,rowQ_one,rowQ_pure,rowM_all,rowM_one,rowM_pure,sT]) : G := e.mpr h
theorem sLfV {G G' : Prop} (h : G') (e : G = G' := by conv => lhs;simp (disch := omega) only [rowsOf,cNat,cN,St.ret,St.seth,Eff.app,Eff.wi,sepL,guardOf,St.known,objOf,List.set,sliceW,litW,copyW,lenOf,bnd,mxOk,ofCells,TI.isAgg,cellsOf,storable,AV.one,dead,laid,overlay,reduceCtorEq,Int.reduceLE,Int.reduceLT,Int.reduceSub,Int.reduceAdd,Nat.reduceMul,Int.reduceToNat,Nat.reducePow,Int.reduceNeg,Nat.reduceAdd,Nat.reduceLT,Nat.reduceLeDiff,sA,sB,cQ,rowQ,rowM,tab_length,List.take_length,List.length_append,tab_drop,tab_take,tab_append,tab_nil,rowQ_all,rowQ_one,rowQ_pure,rowM_all,rowM_one,rowM_pure,sT,view_sref,viewRef,view_agg,views_cons,views_nil,view_bool,view_int,view_sl,view_nils,view_str,view_tup,view_nilif]) : G := e.mpr h
theorem aLf {G G' : Prop} (h : G') (f : Wr G' → G := by intro h;(repeat (first|(refine W_seqV fun K hK => ?_;(try (refine sLf ?_;try exact True.intro));(repeat refine aI ?_);refine hK _ ?_;clear hK K)|(refine W_seqR fun K hK => ?_;(try (refine sLf ?_;try exact True.intro));(repeat refine aI ?_);refine hK _ ?_;clear hK K)|(refine W_seqD mixed [] (by kernel_rfl) fun K hK => ?_;(try (refine sLf ?_;try exact True.intro));(repeat refine aI ?_);refine hK _ ?_;clear hK K)));exact h.out) : G := f ⟨h⟩
def affM (f : List (Int × RR)) (r : RR) : List AV := [.sl (tab rowM f),.bool r.neg,.sl (u32s r.num),.sl (u32s r.den)]
def affQ (f : List (Int × Rat)) (q : Rat) : List AV := [.sl (tab rowQ f),.bool (decide (q.num < 0)),.sl (u32s (limbs q.num.natAbs)),.sl (u32s (limbs q.den))]
theorem lplus_ok (f : List (Int × RR)) (r c : RR) (g : List (Int × RR)) (s : RR) {B C : Nat} (hf : FOk f B) (hg : FOk g C) (hr : r.ok) (hc : c.ok) (hs : s.ok) (h1 : B + (nb c.v + C) < 8589934592) (h2 : nb c.v + nb s.v < 17179869184) :
  Pure Tryz.prog 134 [.agg (affM f r),c.av,.agg (affM g s)] (· = .agg (affQ (normF (vals f ++ if c.v = 0 then [] else scaleF c.v (normF (vals g)))) (r.v + c.v * s.v))) := by
 have a1 := lscale_ok c g hc hg (by omega)
 have hsz : Sz (if c.v = 0 then [] else scaleF c.v (normF (vals g))) (nb c.v + C) := by
  split
  ·exact ⟨fun v => by simp [nbv],by simp⟩
  ·exact Sz.scale (NF.norm _) hg.sz.norm c.v
 have a2 := ladd_ok f (rf (if c.v = 0 then [] else scaleF c.v (normF (vals g)))) hf (FOk.rf hsz (by omega)) (by omega)
 rw [vals_rf,cF_rf] at a2
 have a3 := rmul_ok c s hc hs
 have a4 := radd_ok r (qr (c.v * s.v)) hr (qr_ok (by have := nb_mul c.v s.v;omega))
 rw [qr_v,qr_av] at a4
 generalize normF (vals f ++ _) = R at *
 generalize (if c.v = 0 then [] else _) = G at *
 generalize r.v + c.v * s.v = p at *
 generalize c.v * s.v = q at *
 obtain ⟨rn,rm,rd⟩ := r
 obtain ⟨cn,cm,cd⟩ := c
 obtain ⟨sn,sm,sd⟩ := s
 unfold affM affQ
 simp only [RR.av,cF,cL,cQ] at *
 (refine pureW Tryz.func134 rfl (rs := [Go.ResultVar.cell 6 121]) rfl (n := 22) rfl ?_;simp only [List.length_cons,List.length_nil,List.replicate,List.cons_append,List.nil_append])
 (refine aLf ?_)
 ((refine W_seqD mixed [] (by kernel_rfl) ?_);intro K hK;(refine sLf ?_))
 (refine ⟨by kernel_rfl,_,.pure rfl (a1),?_⟩;(try (refine sLf ?_)))
 (refine ⟨by kernel_rfl,_,.pure rfl (a2),?_⟩;(try (refine sLf ?_)))
 (refine ⟨by kernel_rfl,_,.pure rfl (a3),?_⟩;(try (refine sLf ?_)))
 (refine ⟨by kernel_rfl,_,.pure rfl (a4),?_⟩;(try (refine sLf ?_)))
 (refine hK _ ?_;clear hK K)
 refine W_ret ?_
 (refine qG ?_;try exact True.intro);try (refine sLfV ?_;try exact True.intro)
theorem delF_sz {l : List (Int × Rat)} {B : Nat} (h : Sz l B) (v : Int) : Sz (delF l v) B := by
 refine ⟨fun w => ?_,Nat.le_trans (delF_len l v) h.l⟩
 refine Nat.le_trans ?_ (h.b w)
 unfold delF
 induction l with
 | nil => exact Nat.le_refl _
 | cons p l ih =>
  have ih := ih ⟨fun w => by have := h.b w;simp only [nbv] at this;omega,by have := h.l;simp at this;omega⟩
  rw [List.filter_cons]
  split
  ·simp only [nbv];omega
  ·simp only [nbv];omega
structure BB where
 has : Bool
 at_ : DD
 why : Int
def BB.cells (b : BB) : List AV := [.bool b.has,.bool b.at_.a.neg,.sl (u32s b.at_.a.num),.sl (u32s b.at_.a.den),.bool b.at_.b.neg,.sl (u32s b.at_.b.num),.sl (u32s b.at_.b.den),.int .i64 b.why]
structure LL where
 lower : BB
 upper : BB
def LL.cells (l : LL) : List AV := [.bool l.lower.has,.bool l.lower.at_.a.neg,.sl (u32s l.lower.at_.a.num),.sl (u32s l.lower.at_.a.den),.bool l.lower.at_.b.neg,.sl (u32s l.lower.at_.b.num),.sl (u32s l.lower.at_.b.den),.int .i64 l.lower.why,
 .bool l.upper.has,.bool l.upper.at_.a.neg,.sl (u32s l.upper.at_.a.num),.sl (u32s l.upper.at_.a.den),.bool l.upper.at_.b.neg,.sl (u32s l.upper.at_.b.num),.sl (u32s l.upper.at_.b.den),.int .i64 l.upper.why]
def zeroD0 : DD := ⟨zeroR,zeroR⟩
def zeroB : BB := ⟨false,zeroD0,0⟩
def zeroL : LL := ⟨zeroB,zeroB⟩
instance : Inhabited LL := ⟨zeroL⟩
def rowL (l : LL) : List AV := l.cells
def limOf (ls : List LL) (v : Int) : LL := if 0 ≤ v ∧ v < (ls.length : Int) then ls.getD v.toNat default else zeroL
def pickB (u : Bool) (c : Rat) (l : LL) : BB := if (decide (0 < rs c) == u) = true then l.upper else l.lower
def sideF (u : Bool) (ls : List LL) : AV := .fn (.func (if u then 184 else 183)) [.agg [.sl (tab rowL ls)]] []
abbrev TR := List (Int × List (Int × RR))
abbrev TM := List (Int × List (Int × Rat))
def rowT (r : Int × List (Int × RR)) : List AV := [.int .i64 r.1,.sl (tab rowM r.2)]
def rowU (r : Int × List (Int × Rat)) : List AV := [.int .i64 r.1,.sl (tab rowQ r.2)]
def cT (n : Int) (t : TR) : AV := .agg [.int .i64 n,.sl (tab rowT t)]
def cU (n : Int) (M : TM) : AV := .agg [.int .i64 n,.sl (tab rowU M)]
theorem rowT_all (f : TR) : AllLen 2 (tab rowT f) := tab_all (k := 2) (fun _ => rfl) f
theorem rowT_one (f : TR) : AllOne (tab rowT f) := tab_one (fun _ => rfl) f
theorem rowT_pure (f : TR) : AllPure (tab rowT f) := tab_pure (fun _ => rfl) f
theorem rowU_all (f : TM) : AllLen 2 (tab rowU f) := tab_all (k := 2) (fun _ => rfl) f
theorem rowU_one (f : TM) : AllOne (tab rowU f) := tab_one (fun _ => rfl) f
theorem rowU_pure (f : TM) : AllPure (tab rowU f) := tab_pure (fun _ => rfl) f
def nrmT (t : TR) : TM := t.map fun r => (r.1,normF (vals r.2))
def keys {α : Type} (M : List (Int × α)) : List Int := M.map (·.1)
theorem keys_len {α : Type} (M : List (Int × α)) : (keys M).length = M.length := by simp [keys]
theorem keys_append {α : Type} (M N : List (Int × α)) : keys (M ++ N) = keys M ++ keys N := by simp [keys]
theorem nrmT_len (t : TR) : (nrmT t).length = t.length := by simp [nrmT]
theorem nrmT_getD {t : TR} {i : Nat} (h : i < t.length) : (nrmT t).getD i default = ((t.getD i default).1,normF (vals (t.getD i default).2)) := by
 simp [nrmT,List.getD_eq_getElem?_getD,h]
theorem take_snoc {α : Type} [Inhabited α] {l : List α} {i : Nat} (h : i < l.length) : l.take (i + 1) = l.take i ++ [l.getD i default] := by
 rw [List.take_succ_eq_append_getElem h]
 simp [List.getD_eq_getElem?_getD,h]
theorem getD_mem {α : Type} [Inhabited α] {l : List α} {i : Nat} (h : i < l.length) : l.getD i default ∈ l := by
 simp [List.getD_eq_getElem?_getD,h]
theorem mem_getD {α : Type} [Inhabited α] {l : List α} {x : α} (h : x ∈ l) : ∃ i,i < l.length ∧ l.getD i default = x := by
 obtain ⟨i,hi,he⟩ := List.getElem_of_mem h
 exact ⟨i,hi,by simp [List.getD_eq_getElem?_getD,hi,he]⟩
def inR (n v : Int) : Bool := decide (0 ≤ v) && decide (v < n)
theorem inR_iff {n v : Int} : inR n v = true ↔ 0 ≤ v ∧ v < n := by simp [inR]
def keysOk (n : Int) (l : List Int) : Bool := decide l.Nodup && l.all (inR n)
def formOk (n : Int) (K : List Int) (f : List (Int × Rat)) : Bool := f.all fun p => inR n p.1 && !K.contains p.1
def goodB (n : Int) (M : TM) : Bool := decide (0 ≤ n) && decide (n ≤ 65536) && keysOk n (keys M) && M.all fun r => formOk n (keys M) r.2
structure GT (n : Int) (M : TM) : Prop where
 lo : 0 ≤ n
 hi : n ≤ 65536
 nodup : (keys M).Nodup
 range : ∀ b ∈ keys M,0 ≤ b ∧ b < n
 free : ∀ r ∈ M,∀ p ∈ r.2,(0 ≤ p.1 ∧ p.1 < n) ∧ p.1 ∉ keys M
theorem gt_iff {n : Int} {M : TM} : goodB n M = true ↔ GT n M := by
 simp only [goodB,keysOk,formOk,Bool.and_eq_true,decide_eq_true_eq,List.all_eq_true,inR_iff,Bool.not_eq_true',List.contains_iff_mem,Bool.eq_false_iff,ne_eq]
 constructor
 ·rintro ⟨⟨⟨h1,h2⟩,h3,h4⟩,h5⟩
  exact ⟨h1,h2,h3,h4,h5⟩
 ·rintro ⟨h1,h2,h3,h4,h5⟩
  exact ⟨⟨⟨h1,h2⟩,h3,h4⟩,h5⟩
def idxM (M : TM) (k : Int) : Option Nat := M.findIdx? fun r => r.1 == k
def lookM (M : TM) (k : Int) : Option (List (Int × Rat)) := (M.find? fun r => r.1 == k).map (·.2)
theorem idx_none {M : TM} {k : Int} (h : idxM M k = none) : k ∉ keys M ∧ lookM M k = none := by
 unfold idxM at h
 rw [List.findIdx?_eq_none_iff] at h
 constructor
 ·intro hk
  simp only [keys,List.mem_map] at hk
  obtain ⟨r,hr,rfl⟩ := hk
  have := h r hr
  simp at this
 ·unfold lookM
  rw [List.find?_eq_none.2 fun r hr => by rw [h r hr];simp]
  rfl
theorem idx_some {M : TM} {k : Int} {j : Nat} (h : idxM M k = some j) : j < M.length ∧ (M.getD j default).1 = k ∧ lookM M k = some (M.getD j default).2 ∧ k ∈ keys M := by
 unfold idxM at h
 have h1 := List.findIdx?_eq_some_iff_getElem.1 h
 obtain ⟨h2,h3,h4⟩ := h1
 have h5 : M.getD j default = M[j] := by simp [List.getD_eq_getElem?_getD,h2]
 have h6 : (M[j]).1 = k := by simpa using h3
 refine ⟨h2,by rw [h5];exact h6,?_,by rw [← h6];exact List.mem_map.2 ⟨_,List.getElem_mem h2,rfl⟩⟩
 unfold lookM
 have hf : M.find? (fun r => r.1 == k) = some (M[j]) := List.find?_eq_some_iff_getElem.2 ⟨h3,j,h2,rfl,fun i hi => by simpa using h4 i hi⟩
 rw [hf,h5]
 rfl
theorem look_mem {M : TM} {k : Int} {g : List (Int × Rat)} (h : lookM M k = some g) : (k,g) ∈ M := by
 unfold lookM at h
 cases hf : M.find? fun r => r.1 == k with
 | none => rw [hf] at h;cases h
 | some r =>
  rw [hf] at h
  cases h
  have h1 := List.mem_of_find?_eq_some hf
  have h2 := List.find?_some hf
  simp at h2
  rw [← h2]
  exact h1
theorem look_of {M : TM} (hn : (keys M).Nodup) {k : Int} {g : List (Int × Rat)} (h : (k,g) ∈ M) : lookM M k = some g := by
 induction M with
 | nil => cases h
 | cons r M ih =>
  simp only [keys,List.map_cons,List.nodup_cons] at hn
  unfold lookM
  rw [List.find?_cons]
  rcases List.mem_cons.1 h with rfl | h1
  ·simp
  ·have : (r.1 == k) = false := by
    rw [beq_eq_false_iff_ne]
    rintro rfl
    exact hn.1 (List.mem_map.2 ⟨_,h1,rfl⟩)
   rw [this]
   exact ih hn.2 h1
theorem look_none {M : TM} {k : Int} (h : k ∉ keys M) : lookM M k = none := by
 unfold lookM
 rw [List.find?_eq_none.2 fun r hr => ?_]
 ·rfl
 ·simp only [beq_iff_eq]
  rintro rfl
  exact h (List.mem_map.2 ⟨_,hr,rfl⟩)
theorem look_mem_keys {M : TM} {k : Int} {g : List (Int × Rat)} (h : lookM M k = some g) : k ∈ keys M := List.mem_map.2 ⟨_,look_mem h,rfl⟩
def sortK (l : List Int) : List Int := l.mergeSort fun x y => decide (x ≤ y)
def sortM (M : TM) : TM := (sortK (keys M)).map fun b => (b,(lookM M b).getD [])
theorem sortK_perm (l : List Int) : (sortK l).Perm l := List.mergeSort_perm _ _
theorem sortK_le (l : List Int) : (sortK l).Pairwise (· ≤ ·) := by
 have := List.pairwise_mergeSort (le := fun x y : Int => decide (x ≤ y)) (fun a b c h1 h2 => by simp at *;omega) (fun a b => by simp;omega) l
 exact this.imp fun h => by simpa using h
theorem sorted_ext {l m : List Int} (h : l.Perm m) (hl : l.Pairwise (· ≤ ·)) (hm : m.Pairwise (· ≤ ·)) : l = m :=
 List.Perm.eq_of_pairwise (fun a b _ _ h1 h2 => by omega) hl hm h
theorem sortK_of {l m : List Int} (h : l.Perm m) : sortK l = sortK m :=
 sorted_ext ((sortK_perm l).trans (h.trans (sortK_perm m).symm)) (sortK_le l) (sortK_le m)
theorem sortK_lt {l : List Int} (h : l.Nodup) : (sortK l).Pairwise (· < ·) := by
 have h1 := sortK_le l
 have h2 : (sortK l).Nodup := (sortK_perm l).nodup_iff.2 h
 exact (h1.and h2).imp fun ⟨h,h'⟩ => by omega
theorem sortK_len (l : List Int) : (sortK l).length = l.length := (sortK_perm l).length_eq
theorem mem_sortK {l : List Int} {x : Int} : x ∈ sortK l ↔ x ∈ l := (sortK_perm l).mem_iff
theorem sortM_len (M : TM) : (sortM M).length = M.length := by simp [sortM,sortK_len,keys_len]
def putF (f : List (Int × Rat)) (v : Int) (g : List (Int × Rat)) : List (Int × Rat) := normF (delF (normF f) v ++ if coef f v = 0 then [] else scaleF (coef f v) (normF g))
theorem coef_del (l : List (Int × Rat)) (v x : Int) : coef (delF l v) x = if x = v then 0 else coef l x := by
 induction l with
 | nil => simp [delF,coef]
 | cons p l ih =>
  unfold delF at ih ⊢
  rw [List.filter_cons]
  by_cases hp : p.1 = v
  ·simp only [hp,beq_self_eq_true,Bool.not_true,Bool.false_eq_true,if_false,ih,coef]
   by_cases hx : x = v
   ·simp [hx]
   ·rw [if_neg hx,if_neg hx,if_neg (by omega),Rat.zero_add]
  ·have : (!(p.1 == v)) = true := by simp [hp]
   simp only [this,if_true,coef,ih]
   by_cases hx : x = v
   ·subst hx
    rw [if_neg hp,if_pos rfl,if_pos rfl,Rat.zero_add]
   ·rw [if_neg hx,if_neg hx]
theorem coef_nil (x : Int) : coef [] x = 0 := rfl
theorem coef_ifscale (c : Rat) (g : List (Int × Rat)) (x : Int) : coef (if c = 0 then [] else scaleF c g) x = c * coef g x := by
 split
 ·rename_i h;rw [h,coef_nil,Rat.zero_mul]
 ·rw [coef_scale]
theorem coef_put (f : List (Int × Rat)) (v : Int) (g : List (Int × Rat)) (x : Int) : coef (putF f v g) x = (if x = v then 0 else coef f x) + coef f v * coef g x := by
 unfold putF
 rw [coef_norm,coef_append,coef_del,coef_norm,coef_ifscale,coef_norm]
theorem NF.put (f : List (Int × Rat)) (v : Int) (g : List (Int × Rat)) : NF (putF f v g) := NF.norm _
theorem Sz.put {f g : List (Int × Rat)} {B C : Nat} (hf : Sz f B) (hg : Sz g C) (v : Int) : Sz (putF f v g) (B + (nb (coef f v) + C)) := by
 unfold putF
 refine Sz.norm (Sz.append (delF_sz hf.norm v) ?_)
 split
 ·exact ⟨fun v => by simp [nbv],by simp⟩
 ·exact (hg.norm).scale (NF.norm g) _
def exprP (M : TM) (f : List (Int × Rat)) (vs : List Int) (h : List (Int × Rat)) : List (Int × Rat) :=
 vs.foldl (fun h v => match lookM M v with | some g => putF h v g | none => h) h
def sumM (c : Int → Rat) (x : Int) : TM → Rat
 | [] => 0
 | r::M => c r.1 * coef r.2 x + sumM c x M
structure Expr (M : TM) (f e : List (Int × Rat)) : Prop where
 nf : NF e
 co : ∀ x,coef e x = (if x ∈ keys M then 0 else coef f x) + sumM (coef f) x M
theorem Expr.ext {M : TM} {f d e : List (Int × Rat)} (h : Expr M f d) (h' : Expr M f e) : d = e := NF.ext h.nf h'.nf fun v => (h.co v).trans (h'.co v).symm
theorem sumM_zero (c : Int → Rat) (x : Int) : ∀ M : TM,(∀ r ∈ M,c r.1 = 0 ∨ coef r.2 x = 0) → sumM c x M = 0
 | [],_ => rfl
 | r::M,h => by
  rw [sumM,sumM_zero c x M fun q hq => h q (List.mem_cons_of_mem _ hq)]
  rcases h r List.mem_cons_self with h | h <;> rw [h] <;> simp [Rat.zero_mul,Rat.mul_zero,Rat.add_zero]
theorem sumM_congr {c d : Int → Rat} (x : Int) : ∀ M : TM,(∀ b ∈ keys M,c b = d b) → sumM c x M = sumM d x M
 | [],_ => rfl
 | r::M,h => by
  rw [sumM,sumM,sumM_congr x M fun b hb => h b (by simp only [keys,List.map_cons,List.mem_cons];exact .inr hb),h r.1 (by simp [keys])]
theorem sumM_ins {c d : Int → Rat} (x : Int) {v : Int} {g : List (Int × Rat)} : ∀ M : TM,(keys M).Nodup → (v,g) ∈ M → (∀ b,b ≠ v → d b = c b) → c v = 0 → sumM d x M = sumM c x M + d v * coef g x
 | [],_,h,_,_ => by cases h
 | r::M,hn,h,hd,hc => by
  simp only [keys,List.map_cons,List.nodup_cons] at hn
  rw [sumM,sumM]
  rcases List.mem_cons.1 h with rfl | h
  ·rw [sumM_congr (c := d) (d := c) x M fun b hb => hd b fun he => hn.1 (he ▸ hb),hc]
   grind
  ·have hr : r.1 ≠ v := fun he => hn.1 (List.mem_map.2 ⟨_,h,he.symm⟩)
   rw [sumM_ins x M hn.2 h hd hc,hd _ hr]
   grind
theorem free_coef {n : Int} {M : TM} (h : GT n M) {r : Int × List (Int × Rat)} (hr : r ∈ M) {b : Int} (hb : b ∈ keys M) : coef r.2 b = 0 :=
 coef_none fun p hp he => (h.free r hr p hp).2 (he ▸ hb)
theorem sumM_basic {n : Int} {M : TM} (h : GT n M) (c : Int → Rat) {b : Int} (hb : b ∈ keys M) : sumM c b M = 0 := sumM_zero c b M fun r hr => .inr (free_coef h hr hb)
theorem exprP_go {n : Int} {M : TM} (hg : GT n M) (f : List (Int × Rat)) : ∀ (vs dn : List Int) (h : List (Int × Rat)),NF h → vs.Nodup → (∀ v ∈ vs,v ∉ dn) →
  (∀ x,coef h x = (if x ∈ keys M ∧ x ∈ dn then 0 else coef f x) + sumM (fun b => if b ∈ dn then coef f b else 0) x M) →
  NF (exprP M f vs h) ∧ ∀ x,coef (exprP M f vs h) x = (if x ∈ keys M ∧ (x ∈ dn ∨ x ∈ vs) then 0 else coef f x) + sumM (fun b => if b ∈ dn ∨ b ∈ vs then coef f b else 0) x M
 | [],dn,h,hn,_,_,hc => ⟨hn,fun x => by simpa [exprP] using hc x⟩
 | v::vs,dn,h,hn,hv,hd,hc => by
  rw [List.nodup_cons] at hv
  have hvd : v ∉ dn := hd v List.mem_cons_self
  have key : NF (match lookM M v with | some g => putF h v g | none => h) ∧ ∀ x,coef (match lookM M v with | some g => putF h v g | none => h) x = (if x ∈ keys M ∧ x ∈ v::dn then 0 else coef f x) + sumM (fun b => if b ∈ v::dn then coef f b else 0) x M := by
   cases hl : lookM M v with
   | none =>
    have hk : v ∉ keys M := fun hk => by
     obtain ⟨r,hr,rfl⟩ := List.mem_map.1 hk
     rw [look_of hg.nodup (g := r.2) hr] at hl
     cases hl
    refine ⟨hn,fun x => ?_⟩
    dsimp only
    rw [hc x]
    congr 1
    ·by_cases hx : x = v
     ·subst hx;simp [hk]
     ·simp [hx]
    ·refine sumM_congr x M fun b hb => ?_
     have : b ≠ v := fun he => hk (he ▸ hb)
     simp [this]
   | some g =>
    have hm := look_mem hl
    have hk := look_mem_keys hl
    refine ⟨NF.put _ _ _,fun x => ?_⟩
    dsimp only
    have h1 : coef h v = coef f v := by
     rw [hc v,sumM_basic hg _ hk]
     simp [hvd,Rat.add_zero]
    rw [coef_put,h1]
    have h2 := sumM_ins (c := fun b => if b ∈ dn then coef f b else 0) (d := fun b => if b ∈ v::dn then coef f b else 0) x M hg.nodup hm (fun b hb => by simp [hb]) (by simp [hvd])
    rw [h2]
    by_cases hx : x = v
    ·subst hx
     have h3 : coef g x = 0 := free_coef hg hm hk
     have h4 := sumM_basic hg (fun b => if b ∈ dn then coef f b else 0) hk
     rw [h3,h4]
     simp [hk,Rat.add_zero,Rat.mul_zero]
    ·rw [if_neg hx,hc x]
     simp only [List.mem_cons,hx,false_or,true_or,if_true]
     grind
  obtain ⟨k1,k2⟩ := key
  have := exprP_go hg f vs (v::dn) _ k1 hv.2 (fun w hw hm => by
   rcases List.mem_cons.1 hm with rfl | hm
   ·exact hv.1 hw
   ·exact hd w (List.mem_cons_of_mem _ hw) hm) k2
  refine ⟨this.1,fun x => ?_⟩
  have h5 := this.2 x
  unfold exprP at h5 ⊢
  rw [List.foldl_cons,h5]
  congr 1
  ·simp only [List.mem_cons]
   grind
  ·refine sumM_congr x M fun b _ => ?_
   simp only [List.mem_cons]
   grind
theorem exprP_ok {n : Int} {M : TM} (hg : GT n M) (f : List (Int × Rat)) : Expr M f (exprP M f (keys (normF f)) (normF f)) := by
 have hnd : (keys (normF f)).Nodup := by
  have := (NF.norm f).lt
  unfold keys
  rw [List.Nodup,List.pairwise_map]
  exact this.imp fun h => by omega
 have h := exprP_go hg f (keys (normF f)) [] (normF f) (NF.norm f) hnd (by simp) fun x => by
  rw [coef_norm,sumM_zero _ x M fun r _ => .inl (by simp)]
  simp [Rat.add_zero]
 refine ⟨h.1,fun x => ?_⟩
 rw [h.2 x]
 have hz : ∀ b,b ∉ keys (normF f) → coef f b = 0 := fun b hb => by
  rw [← coef_norm]
  exact coef_none fun p hp he => hb (List.mem_map.2 ⟨p,hp,he⟩)
 congr 1
 ·by_cases hx : x ∈ keys (normF f)
  ·simp [hx]
  ·simp [hx,hz x hx]
 ·refine sumM_congr x M fun b _ => ?_
  by_cases hb : b ∈ keys (normF f)
  ·simp [hb]
  ·simp [hb,hz b hb]
def stepR (f out : List (Int × Rat)) (r : Int × List (Int × Rat)) : List (Int × Rat) := normF (subF out [(r.1,coef f r.1)] ++ normF (scaleF (coef f r.1) r.2))
theorem coef_stepR (f out : List (Int × Rat)) (r : Int × List (Int × Rat)) (x : Int) : coef (stepR f out r) x = coef out x - (if x = r.1 then coef f r.1 else 0) + coef f r.1 * coef r.2 x := by
 unfold stepR
 rw [coef_norm,coef_append,coef_sub,coef_norm,coef_scale]
 simp only [coef,Rat.add_zero]
 by_cases h : x = r.1
 ·rw [if_pos h,if_pos h.symm]
 ·rw [if_neg h,if_neg (Ne.symm h)]
theorem exprR_go (f : List (Int × Rat)) : ∀ (M : TM) (out : List (Int × Rat)),NF out → (keys M).Nodup → NF (M.foldl (stepR f) out) ∧ ∀ x,coef (M.foldl (stepR f) out) x = coef out x - (if x ∈ keys M then coef f x else 0) + sumM (coef f) x M
 | [],out,h,_ => ⟨h,fun x => by simp [keys,sumM,Rat.add_zero];grind⟩
 | r::M,out,h,hn => by
  simp only [keys,List.map_cons,List.nodup_cons] at hn
  have ih := exprR_go f M (stepR f out r) (NF.norm _) hn.2
  refine ⟨ih.1,fun x => ?_⟩
  rw [List.foldl_cons,ih.2 x,coef_stepR,sumM]
  simp only [keys,List.map_cons,List.mem_cons]
  by_cases hx : x = r.1
  ·subst hx
   have : r.1 ∉ M.map (·.1) := hn.1
   simp [this]
   grind
  ·simp only [hx,if_false,false_or]
   grind
theorem exprR_ok {M : TM} (hn : (keys M).Nodup) (f : List (Int × Rat)) : Expr M f (M.foldl (stepR f) (normF f)) := by
 have h := exprR_go f M (normF f) (NF.norm f) hn
 refine ⟨h.1,fun x => ?_⟩
 rw [h.2 x,coef_norm]
 split <;> grind
def rowD (d : DD) : List AV := d.cells
instance : Inhabited DD := ⟨zeroD0⟩
def valD (ds : List DD) (v : Int) : DD := if 0 ≤ v ∧ v < (ds.length : Int) then ds.getD v.toNat default else zeroD0
structure DsOk (ds : List DD) : Prop where
 ok : ∀ d ∈ ds,d.ok
 sa : nbl (ds.map fun d => d.a.v) ≤ 67108864
 sb : nbl (ds.map fun d => d.b.v) ≤ 67108864
def evd (ds : List DD) (f : List (Int × Rat)) : Rat × Rat := (ev2 (asg (ds.map fun d => d.a.v)) f,ev2 (asg (ds.map fun d => d.b.v)) f)
theorem nbs_pre (f : List (Int × Rat)) (i : Nat) : nbs (f.take i) ≤ nbs f := by
 induction f generalizing i with
 | nil => simp
 | cons p f ih =>
  cases i with
  | zero => simp [nbs]
  | succ i => have := ih i;simp only [List.take_succ_cons,nbs];omega
theorem asg_val (g : DD → Rat) (hg : g zeroD0 = 0) (ds : List DD) (v : Int) : asg (ds.map g) v = g (valD ds v) := by
 unfold asg valD
 by_cases h0 : 0 ≤ v
 ·rw [if_pos h0]
  by_cases h1 : v < (ds.length : Int)
  ·rw [if_pos ⟨h0,h1⟩]
   have h3 : v.toNat < ds.length := by omega
   simp [List.getD_eq_getElem?_getD,h3]
  ·rw [if_neg (fun h => h1 h.2),List.getD_eq_getElem?_getD,List.getElem?_eq_none (by rw [List.length_map];omega),hg];rfl
 ·rw [if_neg h0,if_neg (fun h => h0 h.1),hg]
theorem valD_ok {ds : List DD} (h : DsOk ds) (v : Int) : (valD ds v).ok ∧ nb2 (valD ds v).v ≤ 67108865 := by
 have h1 := nb_asg (ds.map fun d => d.a.v) v
 have h2 := nb_asg (ds.map fun d => d.b.v) v
 rw [asg_val (fun d => d.a.v) zeroR_v] at h1
 rw [asg_val (fun d => d.b.v) zeroR_v] at h2
 refine ⟨?_,nb2_le (by have := h.sa;show nb (valD ds v).a.v ≤ _;omega) (by have := h.sb;show nb (valD ds v).b.v ≤ _;omega)⟩
 unfold valD
 split
 ·rename_i hv
  have h3 : v.toNat < ds.length := by omega
  exact h.ok _ (by simp [List.getD_eq_getElem?_getD,h3])
 ·exact ⟨zeroR_ok,zeroR_ok⟩
theorem evd_nb {ds : List DD} (h : DsOk ds) (f : List (Int × Rat)) (hs : nbs f ≤ 68157440) (i : Nat) : nb2 (evd ds (f.take i)) ≤ 203423745 := by
 have h1 := nb_value (ds.map fun d => d.a.v) (f.take i)
 have h2 := nb_value (ds.map fun d => d.b.v) (f.take i)
 have h3 := nbs_pre f i
 have h4 := h.sa
 have h5 := h.sb
 exact nb2_le (by show nb (ev2 _ _) ≤ _;omega) (by show nb (ev2 _ _) ≤ _;omega)
theorem evd_gen {ds : List DD} (h : DsOk ds) (f : List (Int × Rat)) (hs : nbs f ≤ 68157440) : (∀ i,nb2 (evd ds (f.take i)) ≤ 4294967296) ∧ (∀ v,(valD ds v).ok ∧ nb2 (valD ds v).v ≤ 4294967296) :=
 ⟨fun i => Nat.le_trans (evd_nb h f hs i) (by omega),fun v => ⟨(valD_ok h v).1,Nat.le_trans (valD_ok h v).2 (by omega)⟩⟩
theorem nbs_each {f : List (Int × Rat)} (h : nbs f ≤ 4294967296) : f.length ≤ 4294967296 ∧ ∀ p ∈ f,nb p.2 ≤ 4294967296 :=
 ⟨Nat.le_trans (nbs_len f) h,fun p hp => Nat.le_trans (Nat.le_trans (nbv_mem hp) (nbv_le_nbs _ _)) h⟩
end Go.Proofs.YtjmpajgjaefcjaaGreat.Vm
namespace Go.Proofs.YtjmpajgjaefcjaaGreat.Vm
open Go Go.RowKit
set_option linter.unusedVariables false
set_option linter.unusedSimpArgs false
def SortInts (P : Program) (g : FuncId) : Prop :=
 (∀ (blk off cap : Nat) (zs : List Int) (w : World),Go.Sort.Holds (Value.int .i64) w blk off zs.toArray → blk < w.heap.size → zs.length < 4611686018427387904 →
  Calls P g #[.slice (some ⟨blk,off,none⟩) zs.length cap] w fun e w' => e = .returned (.tuple #[]) ∧ ∃ n os,w' = Go.Sort.grow (Go.Sort.putRow (Value.int .i64) (Go.Sort.ahead w n) blk off (zs.mergeSort fun x y => decide (x ≤ y)).toArray) os) ∧
 (∀ (p : Option Addr) (cap : Nat) (w : World),Calls P g #[.slice p 0 cap] w fun e w' => e = .returned (.tuple #[]) ∧ w' = w)
theorem rpR_ints {w : World} {A : Nat → Prop} {ρ : Pl} : ∀ (l : List Int) (vss : List (List Value)),RpR w A ρ (l.map fun x => [AV.int .i64 x]) vss ↔ vss = l.map fun x => [Value.int .i64 x]
 | [],vss => by simp [RpR]
 | x::l,vss => by
  simp only [List.map_cons,RpR,Rps,Rp,rpR_ints l]
  constructor
  ·rintro ⟨vs,uss,rfl,⟨v,us,rfl,rfl,rfl⟩,rfl⟩
   rfl
  ·rintro rfl
   exact ⟨_,_,rfl,⟨_,_,rfl,rfl,rfl⟩,rfl⟩
theorem flat_ints (l : List Int) : (l.map fun x => [Value.int .i64 x]).flatten = l.map (Value.int .i64) := by
 induction l with
 | nil => rfl
 | cons x l ih => simp [ih]
theorem put_ints (l m : List Int) (rest : List Value) (h : m.length = l.length) :
  Go.Sort.putCells (Value.int .i64) 0 m.toArray (l.map (Value.int .i64) ++ rest).toArray = (m.map (Value.int .i64) ++ rest).toArray := by
 unfold Go.Sort.putCells
 apply Array.ext_getElem?
 intro k
 rw [Array.getElem?_mapIdx]
 simp only [List.size_toArray,Nat.zero_le,true_and,Nat.zero_add,Nat.sub_zero,List.getElem?_toArray]
 by_cases hk : k < m.length
 ·rw [List.getElem?_append_left (by simp;omega),List.getElem?_append_left (by simp;omega)]
  simp only [hk,if_true,List.getElem?_map]
  have h1 : l[k]? = some (l[k]'(by omega)) := by simp
  have h2 : m[k]? = some (m[k]'hk) := by simp
  rw [h1,h2]
  simp [List.getElem?_eq_getElem hk]
 ·simp only [hk,if_false]
  rw [List.getElem?_append_right (by simp;omega),List.getElem?_append_right (by simp;omega)]
  simp [h]
theorem call_sort_of {P : Program} {g : FuncId} (hs : SortInts P g) {pins : List Nat} {s : St} {i : Nat} {T : TypeId} {l : List Int} {K : AV → St → Prop} (hi : s.hp[i]? = some (.arr T 1 true (l.map fun x => [AV.int .i64 x]))) (hl : l.length < 4611686018427387904)
  (hk : K (.tup []) (s.seth i (.arr T 1 true ((l.mergeSort fun x y => decide (x ≤ y)).map fun x => [AV.int .i64 x])))) : CallOk P pins g [.sref i 0 l.length] s K := by
 intro fr ρ a w vals hp hr hv
 have hil : i < s.hp.length := (List.getElem?_eq_some_iff.1 hi).1
 have hob : s.hp.getD i .dead = .arr T 1 true (l.map fun x => [AV.int .i64 x]) := by simp [List.getD_eq_getElem?_getD,hi]
 simp only [Rps] at hv
 obtain ⟨v,us,rfl,hv,rfl⟩ := hv
 have htup : ∀ w' ρ',Rp w' (Av fr.F ρ') ρ' (.tup []) (.tuple #[]) := fun w' ρ' => by
  simp only [Rp,Rps]
  exact ⟨[],rfl,rfl⟩
 have hnil : l = [] → s.seth i (.arr T 1 true ((l.mergeSort fun x y => decide (x ≤ y)).map fun x => [AV.int .i64 x])) = s := by
  rintro rfl
  unfold St.seth
  have : s.hp.set i (.arr T 1 true []) = s.hp := by
   refine List.ext_getElem? fun j => ?_
   rw [List.getElem?_set]
   split
   ·rename_i hj;subst hj;rw [hi];rfl
   ·rfl
  simp [this]
 by_cases h0 : l = []
 ·have hvs : ∃ p cap,v = .slice p 0 cap := by
   subst h0
   simp only [Rp] at hv
   rcases hv with ⟨_,_,_,rfl⟩ | ⟨b,s',cap,len,x,_,_,rfl,_⟩
   ·exact ⟨_,_,rfl⟩
   ·exact ⟨_,_,rfl⟩
  obtain ⟨p,cap,rfl⟩ := hvs
  refine (hs.2 p cap w).mono fun e w' he => ?_
  obtain ⟨rfl,rfl⟩ := he
  rw [hnil h0] at hk
  exact ⟨_,_,s,ρ,rfl,hk,hr,htup _ _⟩
 ·have hlen : 0 < l.length := by cases l with | nil => exact absurd rfl h0 | cons _ _ => simp
  have ho := hr.heap i
  rw [hob] at ho
  simp only [Rp] at hv
  rcases hv with ⟨_,_,h1,_⟩ | ⟨b,s',cap,len,x,h1,h2,rfl,h3⟩
  ·omega
  ·rw [h1] at ho
   obtain ⟨rfl,hlen',vss,rest,hb,hrr,hal,hfl,hcap,hmax⟩ := ho
   rw [rpR_ints] at hrr
   subst hrr
   obtain rfl := h3 (.inr trivial)
   rw [Nat.zero_mul,Nat.sub_zero]
   rw [flat_ints] at hb hfl
   have hbw : b < w.heap.size := (Array.getElem?_eq_some_iff.1 hb).1
   have hH : Go.Sort.Holds (Value.int .i64) w b 0 l.toArray := by
    intro j hj
    have hj' : j < l.length := by simpa using hj
    have hc : (l.map (Value.int .i64) ++ rest)[j]? = some (.int .i64 l[j]) := by
     rw [List.getElem?_append_left (by simpa using hj'),List.getElem?_map,List.getElem?_eq_getElem hj']
     rfl
    constructor
    ·unfold World.cell?
     simp only [Nat.zero_add,hb]
     simp [hc,hj']
    ·unfold World.frozen?
     simp [hb]
   refine (hs.1 b 0 cap l w hH hbw hl).mono fun e w' he => ?_
   obtain ⟨rfl,n,os,rfl⟩ := he
   have hm : (l.mergeSort fun x y => decide (x ≤ y)).length = l.length := List.length_mergeSort _
   generalize (l.mergeSort fun x y => decide (x ≤ y)) = m at *
   have hp' : ρ i = some (.blk b 1 cap (l.map fun x => [AV.int .i64 x]).length) := by rw [h1,hlen']
   have hset := hr.setObj hi hp' (rows' := m.map fun x => [AV.int .i64 x]) (vss := m.map fun x => [Value.int .i64 x]) (rest := rest) ((rpR_ints _ _).2 rfl) (by intro r hr;obtain ⟨x,_,rfl⟩ := List.mem_map.1 hr;rfl) (by rw [flat_ints];simp only [List.length_append,List.length_map] at hfl ⊢;omega) (by simp [hm])
   rw [flat_ints] at hset
   have hbel : Below (w.setRow b (m.map (Value.int .i64) ++ rest).toArray).heap.size (w.setRow b (m.map (Value.int .i64) ++ rest).toArray) (Go.Sort.grow (Go.Sort.putRow (Value.int .i64) (Go.Sort.ahead w n) b 0 m.toArray) os) := by
    refine ⟨rfl,rfl,rfl,?_,fun k hk => ?_⟩
    ·simp [Go.Sort.grow,Go.Sort.putRow,Go.Sort.mapBlock,Go.Sort.ahead]
    ·have hk' : k < w.heap.size := by simpa using hk
     show (w.heap.modify b _ ++ os)[k]? = _
     rw [Array.getElem?_append_left (by simpa using hk'),Array.getElem?_modify]
     by_cases hkb : b = k
     ·subst hkb
      rw [if_pos rfl,setRow_heap_same _ hb,hb]
      simp only [Option.map_some,Go.Sort.onCells]
      rw [put_ints l m rest hm]
     ·rw [if_neg hkb,setRow_other _ _ _ _ (Ne.symm hkb)]
   exact ⟨_,_,_,ρ,rfl,hk,(hset.below hbel).1,htup _ _⟩
end Go.Proofs.YtjmpajgjaefcjaaGreat.Vm
namespace Go.Proofs.YtjmpajgjaefcjaaGreat.Vm
open Go Go.RowKit
set_option maxRecDepth 100000
set_option linter.unusedVariables false
set_option linter.unusedSimpArgs false
theorem findA_cons {q : IntKind} {k a : Int} {x : AV} {l : List AV} {rs : List (List AV)} {i : Nat} : findA (.int q) (.int .i64 k) ((.int .i64 a::l)::rs) i = if k = a then some (some i) else findA (.int q) (.int .i64 k) rs (i + 1) := by
 rw [findA]
 simp only [if_true]
theorem findA_go (q : IntKind) (k : Int) : ∀ (M : TM) (i : Nat),findA (.int q) (.int .i64 k) (tab rowU M) i = some ((idxM M k).map (· + i))
 | [],i => rfl
 | r::M,i => by
  have ih := findA_go q k M (i + 1)
  rw [tab_cons]
  show findA (.int q) (.int .i64 k) ((.int .i64 r.1::[.sl (tab rowQ r.2)])::tab rowU M) i = _
  rw [findA_cons (x := .any),ih]
  unfold idxM
  rw [List.findIdx?_cons]
  by_cases h : k = r.1
  ·rw [if_pos h]
   simp [h]
  ·rw [if_neg h]
   have : (r.1 == k) = false := by simp;omega
   rw [this]
   simp only [Bool.false_eq_true,if_false,Option.map_map]
   congr 2
   funext x
   simp only [Function.comp]
   omega
theorem findA_tab {q : IntKind} {k : Int} {M : TM} : findA (.int q) (.int .i64 k) (tab rowU M) 0 = some (idxM M k) := by
 rw [findA_go]
 simp
theorem rowU_getD {M : TM} {j : Nat} (h : j < M.length) : (tab rowU M).getD j [] = rowU (M.getD j default) := tab_getD h
theorem range_snoc (n : Nat) : List.range n ++ [n] = List.range (n + 1) := List.range_succ.symm
theorem range_get {n j x : Nat} (h : (List.range n)[j]? = some x) : j < n ∧ x = j := by
 rw [List.getElem?_eq_some_iff] at h
 obtain ⟨h1,h2⟩ := h
 simp at h1 h2
 exact ⟨h1,h2.symm⟩
theorem nodup_range_le {n : Nat} {s : List Nat} (hn : s.Nodup) (h : ∀ x ∈ s,x < n) : s.length ≤ n := by
 have := hn.length_le_of_subset (l₂ := List.range n) (fun x hx => List.mem_range.2 (h x hx))
 simpa using this
theorem pure_sl {rows : List (List AV)} : (AV.sl rows).pure = true := rfl
def atB (bs : List Nat) (M : TM) (x : Nat) : Int × List (Int × Rat) := M.getD (bs.idxOf x) default
theorem atB_of {bs : List Nat} (hn : bs.Nodup) {M : TM} {j x : Nat} (h : bs[j]? = some x) : atB bs M x = M.getD j default := by
 obtain ⟨h1,h2⟩ := List.getElem?_eq_some_iff.1 h
 unfold atB
 rw [← h2,List.Nodup.idxOf_getElem hn]
theorem map_atB {bs : List Nat} (hn : bs.Nodup) {M : TM} (hl : bs.length = M.length) : bs.map (atB bs M) = M := by
 refine List.ext_getElem (by simpa using hl) fun j h1 h2 => ?_
 rw [List.getElem_map,atB_of hn (j := j) (by simp at h1;simp [h1])]
 simp [List.getD_eq_getElem?_getD,h2]
theorem seen_perm {bs seen : List Nat} (hn : bs.Nodup) (hs : seen.Nodup) (h1 : ∀ x ∈ seen,x ∈ bs) (h2 : ∀ x ∈ bs,x ∈ seen) : seen.Perm bs :=
 (List.perm_ext_iff_of_nodup hs hn).2 fun x => ⟨h1 x,h2 x⟩
theorem seen_rows {bs seen : List Nat} {M : TM} (hn : bs.Nodup) (hl : bs.length = M.length) (hs : seen.Nodup) (h1 : ∀ x ∈ seen,x ∈ bs) (h2 : ∀ x ∈ bs,x ∈ seen) : (seen.map (atB bs M)).Perm M := by
 have := (seen_perm hn hs h1 h2).map (atB bs M)
 rwa [map_atB hn hl] at this
theorem seen_keys {bs seen : List Nat} {M : TM} (hn : bs.Nodup) (hl : bs.length = M.length) (hs : seen.Nodup) (h1 : ∀ x ∈ seen,x ∈ bs) (h2 : ∀ x ∈ bs,x ∈ seen) : (seen.map fun x => (atB bs M x).1).Perm (keys M) := by
 have := (seen_rows hn hl hs h1 h2).map (·.1)
 rwa [List.map_map] at this
theorem seen_le {bs seen : List Nat} (hs : seen.Nodup) (h1 : ∀ x ∈ seen,x ∈ bs) : seen.length ≤ bs.length := hs.length_le_of_subset h1
structure Seen (bs : List Nat) (seen : List Nat) : Prop where
 nodup : seen.Nodup
 sub : ∀ x ∈ seen,x ∈ bs
theorem Seen.nil (bs : List Nat) : Seen bs [] := ⟨List.nodup_nil,by simp⟩
theorem Seen.snoc {bs seen : List Nat} (h : Seen bs seen) {j x : Nat} (hj : bs[j]? = some x) (hx : x ∉ seen) : Seen bs (seen ++ [x]) := by
 refine ⟨?_,fun y hy => ?_⟩
 ·rw [List.nodup_append]
  refine ⟨h.nodup,by simp,?_⟩
  rintro a ha b hb rfl
  simp at hb
  subst hb
  exact hx ha
 ·rcases List.mem_append.1 hy with hy | hy
  ·exact h.sub y hy
  ·simp at hy;subst hy;exact List.mem_of_getElem? hj
theorem Seen.lt {bs seen : List Nat} (h : Seen bs seen) {j x : Nat} (hj : bs[j]? = some x) (hx : x ∉ seen) : bs.length - (seen ++ [x]).length < bs.length - seen.length := by
 have := seen_le (h.snoc hj hx).nodup (h.snoc hj hx).sub
 simp at *
 omega
theorem births_lt {bs : List Nat} {j x : Nat} (h : bs[j]? = some x) : j < bs.length := (List.getElem?_eq_some_iff.1 h).1
def wholeF (b : Int) (f : List (Int × Rat)) : List (Int × Rat) := subF f [(b,1)]
def solvF (b : Int) (f : List (Int × Rat)) (o : Int) : List (Int × Rat) := scaleF (-(coef (wholeF b f) o)⁻¹) (delF (wholeF b f) o)
def pivP (M : TM) (at_ : Nat) (o : Int) (g : List (Int × Rat)) : TM := (M.eraseIdx at_).map (fun r => (r.1,putF r.2 o g)) ++ [(o,g)]
def pivR (M : TM) (at_ : Nat) (o : Int) (g : List (Int × Rat)) : TM := (M.take at_).map (fun r => (r.1,putF r.2 o g)) ++ (o,g)::(M.drop (at_ + 1)).map (fun r => (r.1,putF r.2 o g))
end Go.Proofs.YtjmpajgjaefcjaaGreat.Vm
