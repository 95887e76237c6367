/-
  The law TableauSays holds of the given program, for all arguments of bulk at most 1048576: no further conditions.
-/
import Derived.Test.YtjmpajgjaefcjaaGreatSays7
import Derived.Orders
import Derived.Below
import Derived.Laws.AppendOwn
import Derived.Laws.MakeOwn
import Derived.Laws.CopyRow
import Derived.Laws.Rows
import Derived.Laws.Cells
import Derived.Tactics
import Derived.Laws.BitsLemmas
import Derived.Maps.Range
import Derived.Carry
import Derived.Test.YtjmpajgjaefcjaaGreatProg
import Derived.Sort.Row
import Derived.Sort.Grow
import Derived.Shelf.Sort.Plain
import Derived.Shelf.Slices.In.SortNone
import Derived.Ground.NamesProg
import Derived.Test.YtjmpajgjaefcjaaGreatRows
import Derived.WalkKit
import Derived.ProofKit
import Derived.OpenShut
import Derived.JoinedCond

namespace Go.Proofs.YtjmpajgjaefcjaaGreat.Vm
open Go Go.RowKit
set_option maxRecDepth 100000
set_option linter.unusedVariables false
set_option linter.unusedSimpArgs false
theorem sVi {G G' : Prop} (h : G') (e : G = G' := by conv => lhs;simp (disch := omega) only [rowsOf,cNat,cN,St.ret,St.seth,Eff.app,Eff.wi,sepL,guardOf,St.known,objOf,List.set,sliceW,litW,copyW,lenOf,bnd,mxOk,ofCells,TI.isAgg,cellsOf,storable,AV.one,dead,laid,overlay,reduceCtorEq,Int.reduceLE,Int.reduceLT,Int.reduceSub,Int.reduceAdd,Nat.reduceMul,Int.reduceToNat,Nat.reducePow,Int.reduceNeg,Nat.reduceAdd,Nat.reduceLT,Nat.reduceLeDiff,sA,sB,Nat.reduceEqDiff,cellsX_all,cellsX_one,cellsX_pure,cQ,cD,rowQ,rowU,rowT,rowM,tab_length,List.take_length,tab_drop,tab_take,tab_nil,rowD_all,rowD_one,rowD_pure,rowT_all,rowT_one,rowT_pure,rowU_all,rowU_one,rowU_pure,rowQ_all,rowQ_one,rowQ_pure,rowM_all,rowM_one,rowM_pure,sT]) : G := e.mpr h
theorem sViX {G G' P : Prop} (p : P) (h : G') (e : P → G = G' := by intro p;conv => lhs;simp (disch := omega) only [rowsOf,cNat,cN,St.ret,St.seth,Eff.app,Eff.wi,sepL,guardOf,St.known,objOf,List.set,sliceW,litW,copyW,lenOf,bnd,mxOk,ofCells,TI.isAgg,cellsOf,storable,AV.one,dead,laid,overlay,reduceCtorEq,Int.reduceLE,Int.reduceLT,Int.reduceSub,Int.reduceAdd,Nat.reduceMul,Int.reduceToNat,Nat.reducePow,Int.reduceNeg,Nat.reduceAdd,Nat.reduceLT,Nat.reduceLeDiff,sA,sB,Nat.reduceEqDiff,cellsX_all,cellsX_one,cellsX_pure,cQ,cD,rowQ,rowU,rowT,rowM,tab_length,List.take_length,tab_drop,tab_take,tab_nil,rowD_all,rowD_one,rowD_pure,rowT_all,rowT_one,rowT_pure,rowU_all,rowU_one,rowU_pure,rowQ_all,rowQ_one,rowQ_pure,rowM_all,rowM_one,rowM_pure,sT,p]) : G := (e p).mpr h
theorem aVi {G G' : Prop} (h : G') (f : Wr G' → G := by intro h;(repeat (first|(refine W_seqV fun K hK => ?_;(try (refine sVi ?_;try exact True.intro));(repeat refine aI ?_);refine hK _ ?_;clear hK K)|(refine W_seqR fun K hK => ?_;(try (refine sVi ?_;try exact True.intro));(repeat refine aI ?_);refine hK _ ?_;clear hK K)|(refine W_seqD mixed [] (by kernel_rfl) fun K hK => ?_;(try (refine sVi ?_;try exact True.intro));(repeat refine aI ?_);refine hK _ ?_;clear hK K)));exact h.out) : G := f ⟨h⟩
theorem lookM_snoc (A : TM) (r : Int × List (Int × Rat)) (v : Int) : lookM (A ++ [r]) v = (lookM A v).or (if r.1 = v then some r.2 else none) := by
 unfold lookM
 rw [List.find?_append]
 cases A.find? (fun r => r.1 == v) with
 | some q => rfl
 | none =>
  by_cases h : r.1 = v
  ·simp [h]
  ·simp [h]
theorem ext_step {M : TM} (hn : (keys M).Nodup) {ds : List DD} {k : Nat} (hk : k < M.length) (h0 : 0 ≤ (M.getD k default).1) (h1 : (M.getD k default).1 < (ds.length : Int)) :
  extL (M.take (k + 1)) ds = (extL (M.take k) ds).set (M.getD k default).1.toNat (evd ds (M.getD k default).2) := by
 have hb : lookM (M.take k) (M.getD k default).1 = none := look_none fun hm => by
  have h2 : keys M = keys (M.take k) ++ keys (M.drop k) := by rw [← keys_append,List.take_append_drop]
  have h3 : (M.getD k default).1 ∈ keys (M.drop k) := List.mem_map.2 ⟨M.getD k default,by
   rw [List.drop_eq_getElem_cons hk,show M.getD k default = M[k] by simp [List.getD_eq_getElem?_getD,hk]]
   exact List.mem_cons_self,rfl⟩
  rw [h2,List.nodup_append] at hn
  exact hn.2.2 _ hm _ h3 rfl
 refine List.ext_getElem (by simp [extL]) fun j g1 g2 => ?_
 have hj : j < ds.length := by simpa [extL] using g1
 rw [List.getElem_set]
 have e1 : ∀ N : TM,∀ h : j < (extL N ds).length,(extL N ds)[j] = extR N ds j := fun N h => by simp [extL]
 rw [e1,e1]
 rw [take_snoc hk]
 unfold extR
 rw [lookM_snoc]
 by_cases hbj : (M.getD k default).1 = (j : Int)
 ·rw [if_pos hbj,if_pos (by omega),← hbj,hb]
  rfl
 ·rw [if_neg hbj,if_neg (by omega),Option.or_none]
theorem evd_norm (ds : List DD) (f : List (Int × Rat)) : evd ds (normF f) = evd ds f := by
 unfold evd
 rw [ev2_norm,ev2_norm]
set_option maxHeartbeats 8000000 in
theorem r7ext_ok (n : Int) (t : TR) (ds : List DD) (hT : TOk t) (hd : DsOk ds) (hl : ds.length < 1099511627776) : Pure Tryz.prog 34 [cT n t,.sl (tab rowD ds)] (· = extV n t ds) := by
 have a1 := r7check_ok n t hT
 have hlen := hT.len
 have hml := nrmT_len t
 have hgt : goodB n (nrmT t) = true → GT n (nrmT t) := gt_iff.1
 have hrow : ∀ k,k < t.length → ∃ b f,(tab rowT t).getD k [] = [.int .i64 b,.sl (tab rowM f)] ∧ (nrmT t).getD k default = (b,normF (vals f)) ∧ Pure Tryz.prog 37 [.sl (tab rowM f),.sl (tab rowD ds)] (· = cD (evd ds (normF (vals f)))) := fun k hk =>
  ⟨(t.getD k default).1,(t.getD k default).2,tab_getD hk,nrmT_getD hk,by
   rw [evd_norm]
   exact deltasM_ok ds _ hd (hT.ok _ (getD_mem hk)) (hT.nbs (getD_mem hk))⟩
 have hna : ∀ i,i < ds.length → Pure Tryz.prog 76 [(ds.getD i default).a.av] (· = cQ (ds.getD i default).a.v) ∧ Pure Tryz.prog 76 [(ds.getD i default).b.av] (· = cQ (ds.getD i default).b.v) := fun i hi =>
  ⟨f3norm_ok _ (hd.ok _ (getD_mem hi)).1,f3norm_ok _ (hd.ok _ (getD_mem hi)).2⟩
 unfold extV
 unfold cT at *
 generalize goodB n (nrmT t) = gb at *
 generalize nrmT t = M at *
 cases gb
 ·simp only [Bool.false_eq_true,if_false] at a1 ⊢
  (refine pureW Tryz.func34 rfl (rs := [Go.ResultVar.tmp 4,Go.ResultVar.tmp 5]) rfl (n := 69) rfl ?_;simp only [List.length_cons,List.length_nil,List.replicate,List.cons_append,List.nil_append])
  (refine aVi ?_)
  ((refine W_seq (W_seqV ?_));intro K hK;(refine sVi ?_))
  (refine ⟨by kernel_rfl,_,.pure rfl (a1),?_⟩;(try (refine sVi ?_)))
  (refine hK _ ?_;clear hK K)
  (repeat' (first | (exfalso;simp at h;done) | (refine W_seqV fun K hK => ?_;(try (refine sVi ?_));refine hK _ ?_;clear hK K) | (refine W_ret ?_;(refine qG ?_;try exact True.intro)) | (refine W_cond rfl (fun h => ?_) (fun h => ?_) <;> (try simp only [cond_true,cond_false,ne_eq,cB] at h))))
 simp only [if_true] at a1 ⊢
 have hgt := hgt rfl
 by_cases hn : (ds.length : Int) = n
 rotate_left
 ·rw [if_neg hn]
  have hnb : ((ds.length : Int) != n) = true := bne_iff_ne.2 hn
  (refine pureW Tryz.func34 rfl (rs := [Go.ResultVar.tmp 4,Go.ResultVar.tmp 5]) rfl (n := 69) rfl ?_;simp only [List.length_cons,List.length_nil,List.replicate,List.cons_append,List.nil_append])
  (refine aVi ?_)
  ((refine W_seq (W_seqV ?_));intro K hK;(refine sVi ?_))
  (refine ⟨by kernel_rfl,_,.pure rfl (a1),?_⟩;(try (refine sVi ?_)))
  (refine hK _ ?_;clear hK K)
  refine W_seq ?_
  ((refine W_regV ?_);intro K hK;(refine sVi ?_))
  (refine hK _ ?_;clear hK K)
  (refine W_cf rfl ?_)
  refine W_skip ?_
  simp only [thenW]
  refine W_seq ?_
  ((refine W_seqV ?_);intro K hK;(refine sViX hnb ?_))
  (refine hK _ ?_;clear hK K)
  (repeat' (first | (exfalso;simp at h;done) | (refine W_seqV fun K hK => ?_;(try (refine sVi ?_));refine hK _ ?_;clear hK K) | (refine W_ret ?_;(refine qG ?_;try exact True.intro)) | (refine W_cond rfl (fun h => ?_) (fun h => ?_) <;> (try simp only [cond_true,cond_false,ne_eq,cB] at h))))
 rw [if_pos hn]
 subst hn
 have hnb : ((ds.length : Int) != (ds.length : Int)) = false := by simp
 (refine pureW Tryz.func34 rfl (rs := [Go.ResultVar.tmp 4,Go.ResultVar.tmp 5]) rfl (n := 69) rfl ?_;simp only [List.length_cons,List.length_nil,List.replicate,List.cons_append,List.nil_append])
 (refine aVi ?_)
 ((refine W_seq (W_seqV ?_));intro K hK;(refine sVi ?_))
 (refine ⟨by kernel_rfl,_,.pure rfl (a1),?_⟩;(try (refine sVi ?_)))
 (refine hK _ ?_;clear hK K)
 refine W_seq ?_
 ((refine W_regV ?_);intro K hK;(refine sVi ?_))
 (refine hK _ ?_;clear hK K)
 (refine W_cf rfl ?_)
 refine W_skip ?_
 simp only [thenW]
 refine W_seq ?_
 ((refine W_seqV ?_);intro K hK;(refine sViX hnb ?_))
 (refine hK _ ?_;clear hK K)
 (refine W_cf rfl ?_)
 refine W_skip ?_
 simp only [thenW]
 ((refine W_seqR ?_);intro K hK;(refine sVi ?_))
 (repeat refine aI ?_);refine hK _ ?_;clear hK K
 have hst : ∀ i : Nat,(List.range (i + 1)).map (extR [] ds) = (List.range i).map (extR [] ds) ++ [extR [] ds i] := fun i => by rw [List.range_succ,List.map_append];rfl
 have hz : (List.range 0).map (extR [] ds) = [] := rfl
 have hln : ∀ i : Nat,((List.range i).map (extR [] ds)).length = i := fun i => by simp
 have hF : ∀ i : Nat,extR [] ds i = (ds.getD i default).v := fun i => rfl
 have hX0 : (List.range ds.length).map (extR [] ds) = extL (M.take 0) ds := rfl
 have hXs := fun k hk h0 h1 => ext_step hgt.nodup (ds := ds) (k := k) hk h0 h1
 have hXa : extL (M.take t.length) ds = extL M ds := by rw [← hml,List.take_length]
 have hXl : ∀ k,(extL (M.take k) ds).length = ds.length := fun k => extL_len _ _
 have hrg : ∀ k,k < t.length → 0 ≤ (M.getD k default).1 ∧ (M.getD k default).1 < (ds.length : Int) := fun k hk => hgt.range _ (List.mem_map.2 ⟨_,getD_mem (by omega),rfl⟩)
 rw [← hXa]
 clear hXa hgt
 generalize extR [] ds = F at *
 generalize hE : (fun i : Nat => (List.range i).map F) = E at *
 have hE' : ∀ i : Nat,(List.range i).map F = E i := fun i => congrFun hE i
 simp only [hE'] at *
 clear hE hE'
 generalize hX : (fun k : Nat => extL (M.take k) ds) = X at *
 have hX' : ∀ k : Nat,extL (M.take k) ds = X k := fun k => congrFun hX k
 simp only [hX'] at *
 clear hX hX'
 have hfill : ∀ i z,i < ds.length → (tab cellsX (E i) ++ List.replicate (ds.length - i) z).set i (cellsX (F i)) = tab cellsX (E (i + 1)) ++ List.replicate (ds.length - (i + 1)) z ∧ (tab cellsX (E i) ++ List.replicate (ds.length - i) z).getD i [] = z := fun i z hi => by
  have h1 : (tab cellsX (E i)).length = i := by rw [tab_length,hln]
  obtain ⟨k,hk⟩ : ∃ k,ds.length - i = k + 1 := ⟨ds.length - i - 1,by omega⟩
  have hk2 : ds.length - (i + 1) = k := by omega
  have h2 := set_fill (tab cellsX (E i)) z (cellsX (F i)) k
  rw [h1] at h2
  rw [hk,hk2,h2,hst,← tab_snoc]
  refine ⟨rfl,?_⟩
  rw [List.getD_eq_getElem?_getD,List.getElem?_append_right (by omega),h1,Nat.sub_self,List.replicate_succ]
  rfl
 have hlen2 : ∀ i z,i ≤ ds.length → (tab cellsX (E i) ++ List.replicate (ds.length - i) z).length = ds.length := fun i z hi => by rw [List.length_append,tab_length,hln,List.length_replicate];omega
 refine W_seq ?_
 refine W_seq ?_
 ((refine W_regV ?_);intro K hK;(refine sVi ?_))
 (refine hK _ ?_;clear hK K)
 generalize hzz : [AV.bool false,AV.nils,AV.nils,AV.bool false,AV.nils,AV.nils] = zz at *
 have hzl : zz.length = 6 := by rw [← hzz];rfl
 have hzd : List.drop 6 zz = [] := by rw [← hzz];rfl
 refine W_block (W_loop (fun s : {i : Nat // i ≤ ds.length} =>
   ⟨(.any::(.sl (tab rowD ds))::(.ptr 2 0 0)::.any::.any::.any::.any::(.sref 22 0 ds.length)::(.int .i64 s.1)::.any::.any::.any::.any::.any::.any::.any::.any::.any::.any::.any::.any::.any::.any::.any::.any::.any::.any::.any::.any::.any::.any::.any::.any::.any::.any::.any::.any::.any::.any::.any::.any::.any::.any::.any::.any::.any::.any::.any::.any::.any::.any::.any::.any::.any::.any::.any::.any::.any::.any::.any::.any::.any::.any::.any::.any::.any::.any::.any::.any::[]),(.dead::.dead::(.arr 24 2 false [[.int .i64 (ds.length : Int),.sl (tab rowT t)]])::.dead::.dead::.dead::.dead::.dead::.dead::.dead::.dead::.dead::.dead::.dead::.dead::.dead::.dead::.dead::.dead::.dead::.dead::.dead::(.arr 58 6 true (tab cellsX (E s.1) ++ List.replicate (ds.length - s.1) zz))::.dead::.dead::.dead::.dead::.dead::.dead::.dead::.dead::.dead::.dead::.dead::.dead::.dead::.dead::.dead::.dead::.dead::.dead::.dead::.dead::.dead::.dead::.dead::.dead::.dead::.dead::.dead::.dead::.dead::.dead::.dead::.dead::.dead::.dead::.dead::.dead::.dead::.dead::.dead::.dead::.dead::.dead::.dead::.dead::.dead::.dead::[])⟩) (fun s => ds.length - s.1)
   ⟨0,by omega⟩ (Le_drop (by simp [leE]) (by simp [leH,hz,tab]) rfl rfl) fun s => ?_)
 obtain ⟨i,hi⟩ := s
 dsimp only
 by_cases hlt : i < ds.length
 ·obtain ⟨hf1,hf2⟩ := hfill i zz hlt
  have hf3 := hlen2 i zz hi
  obtain ⟨hc1,hc2⟩ := hna i hlt
  have hYi : (tab rowD ds).getD i [] = rowD (ds.getD i default) := tab_getD hlt
  have hFi := hF i
  generalize tab cellsX (E i) ++ List.replicate (ds.length - i) zz = R at *
  generalize hR' : tab cellsX (E (i + 1)) ++ List.replicate (ds.length - (i + 1)) zz = R' at *
  generalize ds.getD i default = y at *
  simp only [DD.v] at hFi
  simp only [rowD,DD.cells] at hYi
  generalize y.a.v = x1 at *
  generalize y.b.v = x2 at *
  simp only [cQ,RR.av] at hc1 hc2
  refine W_seq ?_
  ((refine W_seqV ?_);intro K hK;(refine sViX hlt ?_))
  (refine hK _ ?_;clear hK K)
  (refine W_ct rfl ?_)
  refine W_skip ?_
  simp only [thenW]
  refine W_seq ?_
  refine W_block ?_
  ((refine W_regS mixed 15 [] (by kernel_rfl) ?_);intro K hK;(refine sViX (And.intro hlt (And.intro hYi (And.intro hf3 (And.intro hf2 (And.intro hzl hzd))))) ?_))
  (refine ⟨by kernel_rfl,_,.pure rfl (hc1),?_⟩;(try (refine sVi ?_)))
  (refine ⟨by kernel_rfl,_,.pure rfl (hc2),?_⟩;(try (refine sVi ?_));(repeat refine aI ?_))
  (refine sViX (And.intro hlt (And.intro hf3 (And.intro hf2 (And.intro hzl hzd)))) ?_;try exact True.intro)
  (refine hK _ ?_;clear hK K)
  simp only [blockW,thenW]
  ((refine W_regV ?_);intro K hK;(refine sVi ?_))
  (refine hK _ ?_;clear hK K)
  simp only [blockW,thenW]
  refine ⟨⟨i + 1,by omega⟩,Le_drop (by simp [leE]) (by simp [leH,hR',← hf1,hFi,cellsX,DD.cells,dq,qr]) rfl rfl,?_⟩
  dsimp only
  omega
 ·obtain rfl : i = ds.length := by omega
  rw [Nat.sub_self,List.replicate_zero,List.append_nil]
  rw [hX0]
  refine W_seq ?_
  ((refine W_seqV ?_);intro K hK;(refine sVi ?_))
  (refine hK _ ?_;clear hK K)
  (refine W_cf rfl ?_)
  refine W_exit ?_
  simp only [thenW,blockW,if_true]
  refine W_seq ?_
  ((refine W_seqV ?_);intro K hK;(refine sVi ?_))
  (refine hK _ ?_;clear hK K)
  refine W_block (W_loop (fun s : {k : Nat // k ≤ t.length} =>
   ⟨(.any::(.sl (tab rowD ds))::(.ptr 2 0 0)::.any::.any::.any::.any::(.sref 22 0 ds.length)::.any::(.int .i64 s.1)::.any::.any::.any::.any::.any::.any::.any::.any::.any::.any::.any::.any::.any::.any::.any::.any::.any::.any::.any::.any::.any::.any::.any::.any::.any::.any::.any::.any::.any::.any::.any::.any::.any::.any::.any::.any::.any::.any::.any::.any::.any::.any::.any::.any::.any::.any::.any::.any::.any::.any::.any::.any::.any::.any::.any::.any::.any::.any::.any::[]),(.dead::.dead::(.arr 24 2 false [[.int .i64 (ds.length : Int),.sl (tab rowT t)]])::.dead::.dead::.dead::.dead::.dead::.dead::.dead::.dead::.dead::.dead::.dead::.dead::.dead::.dead::.dead::.dead::.dead::.dead::.dead::(.arr 58 6 true (tab cellsX (X s.1)))::.dead::.dead::.dead::.dead::.dead::.dead::.dead::.dead::.dead::.dead::.dead::.dead::.dead::.dead::.dead::.dead::.dead::.dead::.dead::.dead::.dead::.dead::.dead::.dead::.dead::.dead::.dead::.dead::.dead::.dead::.dead::.dead::.dead::.dead::.dead::.dead::.dead::.dead::.dead::.dead::.dead::.dead::.dead::.dead::.dead::.dead::[])⟩) (fun s => t.length - s.1)
   ⟨0,by omega⟩ (Le_drop (by simp [leE]) (by simp [leH]) rfl rfl) fun s => ?_)
  obtain ⟨k,hk⟩ := s
  dsimp only
  by_cases hlt : k < t.length
  ·obtain ⟨b,f,hti,hMk,hc⟩ := hrow k hlt
   obtain ⟨hb0,hb1⟩ := hrg k hlt
   have hxs := hXs k (by omega) hb0 hb1
   have hXk := hXl k
   have hlb : (M.getD k default).1.toNat < ds.length := by omega
   have hcb : tab cellsX (X (k + 1)) = (tab cellsX (X k)).set b.toNat (cellsX (evd ds (M.getD k default).2)) := by
    rw [hxs,hMk]
    simp [tab,List.map_set]
   have hXb : (tab cellsX (X k)).getD b.toNat [] = cellsX ((X k).getD b.toNat default) := tab_getD (by rw [hXk];rw [hMk] at hlb;exact hlb)
   have hRl : (tab cellsX (X k)).length = ds.length := by rw [tab_length,hXk]
   rw [hMk] at hb0 hb1 hcb
   dsimp only at hb0 hb1 hcb
   generalize evd ds (normF (vals f)) = x at *
   generalize (X k).getD b.toNat default = yy at *
   generalize tab cellsX (X k) = R at *
   simp only [cellsX,dq,qr,DD.cells] at hXb
   simp only [cD] at hc
   refine W_seq ?_
   ((refine W_seqV ?_);intro K hK;(refine sViX hlt ?_))
   (refine hK _ ?_;clear hK K)
   (refine W_ct rfl ?_)
   refine W_skip ?_
   simp only [thenW]
   refine W_seq ?_
   refine W_block ?_
   ((refine W_regS mixed 15 [] (by kernel_rfl) ?_);intro K hK;(refine sViX (And.intro hlt (And.intro hti (And.intro hb0 (And.intro hb1 (And.intro hRl hXb))))) ?_))
   (refine ⟨by kernel_rfl,_,.pure rfl (hc),?_⟩;(try (refine sVi ?_));(repeat refine aI ?_))
   (refine sViX (And.intro hb0 (And.intro hb1 (And.intro hRl hXb))) ?_;try exact True.intro)
   (refine hK _ ?_;clear hK K)
   simp only [blockW,thenW]
   ((refine W_regV ?_);intro K hK;(refine sVi ?_))
   (refine hK _ ?_;clear hK K)
   simp only [blockW,thenW]
   refine ⟨⟨k + 1,by omega⟩,Le_drop (by simp [leE]) (by simp [leH,hcb,cellsX,DD.cells,dq,qr]) rfl rfl,?_⟩
   dsimp only
   omega
  ·obtain rfl : k = t.length := by omega
   have hXk := hXl t.length
   generalize X t.length = oo at *
   refine W_seq ?_
   ((refine W_seqV ?_);intro K hK;(refine sVi ?_))
   (refine hK _ ?_;clear hK K)
   (refine W_cf rfl ?_)
   refine W_exit ?_
   simp only [thenW,blockW,if_true]
   rw [← hXk]
   (refine W.le ?_ (Le_freeze 22 (rows := tab cellsX oo) rfl (by simp) (.inl rfl));simp only [St.freeze,List.map_cons,List.map_nil,List.set,if_true,if_false,Nat.reduceEqDiff,reduceCtorEq,List.drop_zero,u32s_take,u32s_drop,froz_any,froz_und,froz_int,froz_bool,froz_str,froz_nils,froz_sl,froz_ia,froz_nilp,froz_nilif,froz_nilfn,froz_nilmp,froz_gl,froz_sref,froz_ptr,froz_agg,froz_tup,froz_fn,froz_ifc,frozs_nil,frozs_cons,froz_dead,froz_arr,froz_mp,froz_it,froz_md,froz_map,froz_iter])
   (repeat' (first | (refine W_seqV fun K hK => ?_;(try (refine sVi ?_));refine hK _ ?_;clear hK K) | (refine W_ret ?_;(refine qG ?_;try exact True.intro))))
end Go.Proofs.YtjmpajgjaefcjaaGreat.Vm
namespace Go.Proofs.YtjmpajgjaefcjaaGreat.Vm
open Go Go.RowKit
set_option maxRecDepth 100000
set_option linter.unusedVariables false
set_option linter.unusedSimpArgs false
end Go.Proofs.YtjmpajgjaefcjaaGreat.Vm
namespace Go.Proofs.YtjmpajgjaefcjaaGreat.Vm
open Go Go.RowKit
set_option maxRecDepth 100000
set_option linter.unusedVariables false
set_option linter.unusedSimpArgs false
theorem ev2_stepR (x : Int → Rat) (f out : List (Int × Rat)) (r : Int × List (Int × Rat)) (h : x r.1 = ev2 x r.2) : ev2 x (stepR f out r) = ev2 x out := by
 unfold stepR
 rw [ev2_norm,ev2_append,ev2_sub,ev2_norm,ev2_scale,← h]
 simp only [ev2]
 grind
theorem ev2_fold (x : Int → Rat) (f : List (Int × Rat)) : ∀ (M : TM) (out : List (Int × Rat)),(∀ r ∈ M,x r.1 = ev2 x r.2) → ev2 x (M.foldl (stepR f) out) = ev2 x out
 | [],_,_ => rfl
 | r::M,out,h => by
  rw [List.foldl_cons,ev2_fold x f M _ fun q hq => h q (List.mem_cons_of_mem _ hq),ev2_stepR x f out r (h r List.mem_cons_self)]
theorem ev2_expr (x : Int → Rat) {n : Int} {M : TM} (hg : GT n M) (hx : ∀ r ∈ M,x r.1 = ev2 x r.2) (f : List (Int × Rat)) : ev2 x (exprT M f) = ev2 x f := by
 have h : M.foldl (stepR f) (normF f) = exprT M f := (exprR_ok hg.nodup _).ext (exprP_ok hg _)
 rw [← h,ev2_fold x f M _ hx,ev2_norm]
theorem ev2_same {x y : Int → Rat} : ∀ {f : List (Int × Rat)},(∀ p ∈ f,x p.1 = y p.1) → ev2 x f = ev2 y f
 | [],_ => rfl
 | p::f,h => by
  simp only [ev2]
  rw [h p List.mem_cons_self,ev2_same fun q hq => h q (List.mem_cons_of_mem _ hq)]
theorem mul_den (q : Rat) : q * (q.den : Rat) = (q.num : Rat) := by
 have h0 : (q.den : Rat) ≠ 0 := fun h => by
  rw [show (0 : Rat) = ((0 : Nat) : Rat) from rfl,Rat.natCast_inj] at h
  exact q.den_nz h
 have h : q = (q.num : Rat) / (q.den : Rat) := by
  have := Rat.mkRat_self q
  rw [Rat.mkRat_eq_div] at this
  simpa using this.symm
 calc q * (q.den : Rat) = (q.num : Rat) / (q.den : Rat) * (q.den : Rat) := by rw [← h]
  _ = _ := Rat.div_mul_cancel h0
def Ht (D m : Nat) (q : Rat) : Prop := ∃ k : Int,q * (D : Rat) = (k : Rat) ∧ k.natAbs ≤ m
theorem Ht.zero (D m : Nat) : Ht D m 0 := ⟨0,by simp,by simp⟩
theorem Ht.mono {D m m' : Nat} {q : Rat} (h : Ht D m q) (hm : m ≤ m') : Ht D m' q := by
 obtain ⟨k,h1,h2⟩ := h
 exact ⟨k,h1,by omega⟩
theorem Ht.add {D m m' : Nat} {q r : Rat} (h : Ht D m q) (h' : Ht D m' r) : Ht D (m + m') (q + r) := by
 obtain ⟨k,h1,h2⟩ := h
 obtain ⟨l,h3,h4⟩ := h'
 exact ⟨k + l,by rw [Rat.add_mul,h1,h3];simp,by omega⟩
theorem Ht.neg {D m : Nat} {q : Rat} (h : Ht D m q) : Ht D m (-q) := by
 obtain ⟨k,h1,h2⟩ := h
 exact ⟨-k,by rw [Rat.neg_mul,h1];simp,by omega⟩
theorem Ht.sub {D m m' : Nat} {q r : Rat} (h : Ht D m q) (h' : Ht D m' r) : Ht D (m + m') (q - r) := by
 rw [Rat.sub_eq_add_neg]
 exact h.add h'.neg
theorem Ht.mul {D E m m' : Nat} {q r : Rat} (h : Ht D m q) (h' : Ht E m' r) : Ht (D * E) (m * m') (q * r) := by
 obtain ⟨k,h1,h2⟩ := h
 obtain ⟨l,h3,h4⟩ := h'
 refine ⟨k * l,?_,by rw [Int.natAbs_mul];exact Nat.mul_le_mul h2 h4⟩
 have : q * r * ((D * E : Nat) : Rat) = (q * (D : Rat)) * (r * (E : Rat)) := by
  rw [Rat.natCast_mul];grind
 rw [this,h1,h3,Rat.intCast_mul]
theorem Ht.wide {D m : Nat} {q : Rat} (h : Ht D m q) (E : Nat) : Ht (D * E) (m * E) q := by
 obtain ⟨k,h1,h2⟩ := h
 refine ⟨k * E,?_,by rw [Int.natAbs_mul];exact Nat.mul_le_mul h2 (by simp)⟩
 rw [Rat.natCast_mul,← Rat.mul_assoc,h1,Rat.intCast_mul]
 rfl
theorem Ht.wide' {D m : Nat} {q : Rat} (h : Ht D m q) (E : Nat) : Ht (E * D) (E * m) q := by
 rw [Nat.mul_comm E D,Nat.mul_comm E m]
 exact h.wide E
theorem Ht.H {D m : Nat} {q : Rat} (h : Ht D m q) (hD : 0 < D) : Vm.H q ≤ m + D := by
 obtain ⟨k,h1,h2⟩ := h
 have h0 : (D : Rat) ≠ 0 := fun h => by
  rw [show (0 : Rat) = ((0 : Nat) : Rat) from rfl,Rat.natCast_inj] at h
  omega
 have : q = mkRat k D := by
  rw [Rat.mkRat_eq_div,← h1]
  have := Rat.mul_div_cancel (a := q) h0
  simpa using this.symm
 rw [this]
 exact Nat.le_trans (H_mkRat _ (by omega)) (by omega)
theorem Ht.nb {D m k : Nat} {q : Rat} (h : Ht D m q) (hD : 0 < D) (h1 : D < 2 ^ k) (h2 : m < 2 ^ k) : Vm.nb q ≤ k + 1 := by
 refine nb_le (Nat.lt_of_le_of_lt (h.H hD) ?_)
 rw [Nat.pow_succ]
 omega
theorem Ht.self (q : Rat) : Ht q.den (Vm.H q) q := ⟨q.num,mul_den q,by unfold Vm.H;omega⟩
def dnf : List (Int × Rat) → Nat
 | [] => 1
 | p::f => p.2.den * dnf f
def htf : List (Int × Rat) → Nat
 | [] => 1
 | p::f => Vm.H p.2 * htf f
theorem dnf_pos : ∀ f,0 < dnf f
 | [] => by simp [dnf]
 | p::f => Nat.mul_pos p.2.den_pos (dnf_pos f)
theorem dnf_le : ∀ f,dnf f ≤ htf f
 | [] => by simp [dnf,htf]
 | p::f => Nat.mul_le_mul (by unfold Vm.H;omega) (dnf_le f)
theorem htf_lt : ∀ f,htf f < 2 ^ (nbs f + 1)
 | [] => by simp [htf,nbs]
 | p::f => by
  have h1 := H_lt p.2
  have h2 := htf_lt f
  simp only [htf,nbs]
  rw [Nat.add_assoc,Nat.pow_add]
  exact Nat.mul_lt_mul_of_lt_of_le h1 (Nat.le_of_lt h2) (Nat.pow_pos (by omega))
theorem Ht.ev {x : Int → Rat} {E m : Nat} : ∀ (f : List (Int × Rat)),(∀ p ∈ f,Ht E m (x p.1)) → Ht (dnf f * E) (htf f * m) (ev2 x f)
 | [],_ => Ht.zero _ _
 | p::f,h => by
  have ih := Ht.ev f fun q hq => h q (List.mem_cons_of_mem _ hq)
  obtain ⟨k,h1,h2⟩ := h p List.mem_cons_self
  obtain ⟨l,h3,h4⟩ := ih
  have h5 : p.2 * (p.2.den : Rat) = (p.2.num : Rat) := mul_den _
  refine ⟨p.2.num * (dnf f : Int) * k + p.2.den * l,?_,?_⟩
  ·simp only [ev2,dnf]
   rw [Rat.natCast_mul] at h3
   rw [Rat.natCast_mul,Rat.natCast_mul,Rat.intCast_add,Rat.intCast_mul,Rat.intCast_mul,Rat.intCast_mul,← h1,← h3,← h5]
   simp only [Rat.intCast_natCast]
   grind
  ·refine Nat.le_trans (natAbs_add_le _ _) ?_
   rw [Int.natAbs_mul,Int.natAbs_mul,Int.natAbs_mul,Int.natAbs_natCast,Int.natAbs_natCast]
   simp only [htf]
   have h6 : p.2.num.natAbs * dnf f * k.natAbs ≤ p.2.num.natAbs * htf f * m := Nat.mul_le_mul (Nat.mul_le_mul_left _ (dnf_le f)) h2
   have h7 : p.2.den * l.natAbs ≤ p.2.den * (htf f * m) := Nat.mul_le_mul_left _ h4
   have h8 : Vm.H p.2 * htf f * m = p.2.num.natAbs * htf f * m + p.2.den * (htf f * m) := by
    unfold Vm.H
    rw [Nat.add_mul,Nat.add_mul,Nat.mul_assoc p.2.den]
   omega
theorem Ht.evn {x : Int → Rat} {D E m n : Nat} : ∀ (f : List (Int × Rat)),(∀ p ∈ f,Ht D n p.2 ∧ Ht E m (x p.1)) → Ht (D * E) (f.length * (n * m)) (ev2 x f)
 | [],_ => Ht.zero _ _
 | p::f,h => by
  have ih := Ht.evn f fun q hq => h q (List.mem_cons_of_mem _ hq)
  have h1 := h p List.mem_cons_self
  simp only [ev2,List.length_cons]
  have h2 := (h1.1.mul h1.2).add ih
  exact h2.mono (by rw [Nat.add_mul];omega)
def dnM : TM → Nat
 | [] => 1
 | r::M => dnf r.2 * dnM M
def htM : TM → Nat
 | [] => 1
 | r::M => htf r.2 * htM M
theorem dnM_pos : ∀ M,0 < dnM M
 | [] => by simp [dnM]
 | r::M => Nat.mul_pos (dnf_pos _) (dnM_pos M)
theorem dnM_le : ∀ M,dnM M ≤ htM M
 | [] => by simp [dnM,htM]
 | r::M => Nat.mul_le_mul (dnf_le _) (dnM_le M)
theorem htM_lt : ∀ M,htM M < 2 ^ (tb M + 1)
 | [] => by simp [htM,tb]
 | r::M => by
  have h1 := htf_lt r.2
  have h2 := htM_lt M
  have h3 : tb (r::M) = nbs r.2 + 1 + tb M := by simp only [tb];try omega
  simp only [htM]
  rw [h3,Nat.add_assoc (nbs r.2 + 1),Nat.pow_add]
  exact Nat.mul_lt_mul_of_lt_of_le h1 (Nat.le_of_lt h2) (Nat.pow_pos (by omega))
theorem Ht.ofM {q : Rat} {E m : Nat} {r : Int × List (Int × Rat)} : ∀ {M : TM},r ∈ M → Ht (dnf r.2 * E) (htf r.2 * m) q → Ht (dnM M * E) (htM M * m) q
 | [],h,_ => by cases h
 | s::M,h,hq => by
  simp only [dnM,htM]
  rcases List.mem_cons.1 h with rfl | h
  ·have h1 := hq.wide (dnM M)
   rw [Nat.mul_right_comm (dnf r.2) E,Nat.mul_right_comm (htf r.2) m] at h1
   exact h1.mono (Nat.mul_le_mul_right _ (Nat.mul_le_mul_left _ (dnM_le M)))
  ·have h1 := (Ht.ofM h hq).wide' (dnf s.2)
   rw [← Nat.mul_assoc,← Nat.mul_assoc] at h1
   exact h1.mono (Nat.mul_le_mul_right _ (Nat.mul_le_mul_right _ (dnf_le _)))
theorem coef_ev2 (v : Int) : ∀ f : List (Int × Rat),coef f v = ev2 (fun w => if w = v then 1 else 0) f
 | [] => rfl
 | p::f => by
  rw [coef,ev2,coef_ev2 v f]
  congr 1
  split <;> simp [Rat.mul_one,Rat.mul_zero]
theorem Ht.one (m : Nat) (h : 1 ≤ m) : Ht 1 m 1 := ⟨1,by simp,by simpa using h⟩
theorem Ht.coef (f : List (Int × Rat)) (v : Int) : Ht (dnf f) (htf f) (Vm.coef f v) := by
 rw [coef_ev2]
 have := Ht.ev (x := fun w => if w = v then 1 else 0) (E := 1) (m := 1) f fun p _ => by
  split
  ·exact Ht.one 1 (Nat.le_refl _)
  ·exact Ht.zero _ _
 simpa using this
def putX (M : TM) (x b : Int) : Rat := match lookM M b with | some g => Vm.coef g x | none => if b = x then 1 else 0
theorem ev2_add (x y : Int → Rat) : ∀ f : List (Int × Rat),ev2 (fun v => x v + y v) f = ev2 x f + ev2 y f
 | [] => by simp [ev2,Rat.add_zero]
 | p::f => by simp only [ev2];rw [ev2_add x y f];grind
theorem ev2_zero : ∀ (x : Int → Rat) (f : List (Int × Rat)),(∀ p ∈ f,x p.1 = 0) → ev2 x f = 0
 | x,[],_ => rfl
 | x,p::f,h => by simp only [ev2];rw [ev2_zero x f fun q hq => h q (List.mem_cons_of_mem _ hq),h p List.mem_cons_self];grind
theorem ev2_mul (x : Int → Rat) (c : Rat) : ∀ f : List (Int × Rat),ev2 (fun v => x v * c) f = ev2 x f * c
 | [] => by simp [ev2]
 | p::f => by simp only [ev2];rw [ev2_mul x c f];grind
theorem sumM_ev (f : List (Int × Rat)) (x : Int) : ∀ M : TM,(keys M).Nodup → sumM (Vm.coef f) x M = ev2 (fun b => match lookM M b with | some g => Vm.coef g x | none => 0) f
 | [],_ => by
  rw [ev2_zero]
  ·rfl
  ·intro p _;simp [lookM]
 | r::M,hn => by
  simp only [keys,List.map_cons,List.nodup_cons] at hn
  rw [sumM,sumM_ev f x M hn.2,coef_ev2,← ev2_mul,← ev2_add]
  refine ev2_same fun p _ => ?_
  have hl : lookM (r::M) p.1 = if r.1 = p.1 then some r.2 else lookM M p.1 := by
   unfold lookM
   rw [List.find?_cons]
   by_cases h : r.1 = p.1
   ·rw [if_pos h,h];simp
   ·have h' : (r.1 == p.1) = false := by simpa using h
    rw [if_neg h,h']
  rw [hl]
  by_cases h : r.1 = p.1
  ·rw [if_pos h,if_pos h.symm]
   have : lookM M p.1 = none := look_none (by rw [← h];exact hn.1)
   rw [this]
   dsimp only
   grind
  ·rw [if_neg h,if_neg (Ne.symm h)]
   grind
theorem coef_exprT {n : Int} {M : TM} (hg : GT n M) (f : List (Int × Rat)) (x : Int) : Vm.coef (exprT M f) x = ev2 (putX M x) f := by
 rw [show Vm.coef (exprT M f) x = _ from (exprP_ok hg f).co x,sumM_ev f x M hg.nodup]
 have h1 : (if x ∈ keys M then 0 else Vm.coef f x) = ev2 (fun b => if x ∈ keys M then 0 else if b = x then 1 else 0) f := by
  split
  ·rw [ev2_zero];intro p _;rfl
  ·exact coef_ev2 x f
 rw [h1,← ev2_add]
 refine ev2_same fun p _ => ?_
 unfold putX
 cases hl : lookM M p.1 with
 | some g =>
  have hk := look_mem_keys hl
  dsimp only
  by_cases hx : x ∈ keys M
  ·rw [if_pos hx,Rat.zero_add]
  ·rw [if_neg hx,if_neg (fun he : p.1 = x => hx (he ▸ hk)),Rat.zero_add]
 | none =>
  dsimp only
  have hk : p.1 ∉ keys M := fun hk => by
   obtain ⟨r,hr,he⟩ := List.mem_map.1 hk
   rw [← he,look_of hg.nodup (g := r.2) hr] at hl
   cases hl
  rw [Rat.add_zero]
  by_cases hx : x ∈ keys M
  ·rw [if_pos hx,if_neg (fun he : p.1 = x => hk (he ▸ hx))]
  ·rw [if_neg hx]
theorem Ht.expr {n : Int} {M : TM} (hg : GT n M) (f : List (Int × Rat)) (x : Int) : Ht (dnf f * dnM M) (htf f * htM M) (Vm.coef (exprT M f) x) := by
 rw [coef_exprT hg]
 refine Ht.ev f fun p _ => ?_
 unfold putX
 split
 ·rename_i g hl
  have := Ht.ofM (E := 1) (m := 1) (look_mem hl) (by have := Ht.coef g x;simpa using this)
  simpa using this
 ·split
  ·have := (Ht.one 1 (Nat.le_refl _)).wide' (dnM M)
   rw [Nat.mul_one] at this
   exact this.mono (by have := dnM_le M;omega)
  ·exact Ht.zero _ _
def keptD (M : TM) (ds : List DD) : List DD := (extL M ds).map dq
theorem tab_kept (l : List (Rat × Rat)) : tab cellsX l = tab rowD (l.map dq) := by simp [tab,cellsX,rowD]
theorem keptD_len (M : TM) (ds : List DD) : (keptD M ds).length = ds.length := by simp [keptD,extL_len]
def asgP (pr : Rat × Rat → Rat) (ds : List DD) : Int → Rat := asg (ds.map fun d => pr d.v)
theorem evd_fst (ds : List DD) (f : List (Int × Rat)) : (evd ds f).1 = ev2 (asgP Prod.fst ds) f := rfl
theorem evd_snd (ds : List DD) (f : List (Int × Rat)) : (evd ds f).2 = ev2 (asgP Prod.snd ds) f := rfl
theorem asgP_in (pr : Rat × Rat → Rat) (ds : List DD) {v : Int} (h0 : 0 ≤ v) (h1 : v < (ds.length : Int)) : asgP pr ds v = pr (ds.getD v.toNat default).v := by
 unfold asgP asg
 rw [if_pos h0]
 have h2 : v.toNat < ds.length := by omega
 simp [List.getD_eq_getElem?_getD,h2]
theorem asgP_out (pr : Rat × Rat → Rat) (ds : List DD) {v : Int} (h : ¬ (0 ≤ v ∧ v < (ds.length : Int))) : asgP pr ds v = 0 := by
 unfold asgP asg
 split
 ·rw [List.getD_eq_getElem?_getD,List.getElem?_eq_none (by rw [List.length_map];omega)];rfl
 ·rfl
theorem kept_getD (M : TM) (ds : List DD) {i : Nat} (h : i < ds.length) : (keptD M ds).getD i default = dq (extR M ds i) := by
 simp [keptD,extL,List.getD_eq_getElem?_getD,h]
theorem kept_free (pr : Rat × Rat → Rat) {M : TM} (ds : List DD) {v : Int} (hv : v ∉ keys M) : asgP pr (keptD M ds) v = asgP pr ds v := by
 by_cases h : 0 ≤ v ∧ v < (ds.length : Int)
 ·rw [asgP_in pr _ h.1 (by rw [keptD_len];exact h.2),asgP_in pr _ h.1 h.2,kept_getD M ds (by omega),dq_v]
  unfold extR
  rw [show ((v.toNat : Nat) : Int) = v by omega,look_none hv]
 ·rw [asgP_out pr _ (by rw [keptD_len];exact h),asgP_out pr _ h]
theorem kept_basic (pr : Rat × Rat → Rat) {M : TM} {ds : List DD} (hg : GT (ds.length : Int) M) {r : Int × List (Int × Rat)} (hr : r ∈ M) : asgP pr (keptD M ds) r.1 = pr (evd ds r.2) := by
 have hb := hg.range r.1 (List.mem_map.2 ⟨r,hr,rfl⟩)
 rw [asgP_in pr _ hb.1 (by rw [keptD_len];exact hb.2),kept_getD M ds (by omega),dq_v]
 unfold extR
 rw [show ((r.1.toNat : Nat) : Int) = r.1 by omega,look_of hg.nodup (g := r.2) hr]
theorem kept_ev {M : TM} {ds : List DD} (pr : Rat × Rat → Rat) {f : List (Int × Rat)} (hf : ∀ p ∈ f,p.1 ∉ keys M) : ev2 (asgP pr (keptD M ds)) f = ev2 (asgP pr ds) f :=
 ev2_same fun p hp => kept_free pr ds (hf p hp)
theorem kept_rows1 {M : TM} {ds : List DD} (hg : GT (ds.length : Int) M) : ∀ r ∈ M,asgP Prod.fst (keptD M ds) r.1 = ev2 (asgP Prod.fst (keptD M ds)) r.2 := fun r hr => by
 rw [kept_basic _ hg hr,kept_ev _ fun p hp => (hg.free r hr p hp).2];rfl
theorem kept_rows2 {M : TM} {ds : List DD} (hg : GT (ds.length : Int) M) : ∀ r ∈ M,asgP Prod.snd (keptD M ds) r.1 = ev2 (asgP Prod.snd (keptD M ds)) r.2 := fun r hr => by
 rw [kept_basic _ hg hr,kept_ev _ fun p hp => (hg.free r hr p hp).2];rfl
theorem kept_expr {M : TM} {ds : List DD} (hg : GT (ds.length : Int) M) (f : List (Int × Rat)) : evd (keptD M ds) (exprT M f) = evd (keptD M ds) f :=
 Prod.ext (ev2_expr _ hg (kept_rows1 hg) f) (ev2_expr _ hg (kept_rows2 hg) f)
def lift0 (xs : List Rat) : List (Int × Rat) := xs.map fun x => (0,x)
theorem nbs_lift : ∀ xs : List Rat,nbs (lift0 xs) = nbl xs
 | [] => rfl
 | x::xs => by show nb x + nbs (lift0 xs) = _;rw [nbs_lift xs];rfl
theorem Ht.mem {p : Int × Rat} : ∀ {f : List (Int × Rat)},p ∈ f → Ht (dnf f) (htf f) p.2
 | [],h => by cases h
 | q::f,h => by
  simp only [dnf,htf]
  rcases List.mem_cons.1 h with rfl | h
  ·exact ((Ht.self p.2).wide (dnf f)).mono (Nat.mul_le_mul_left _ (dnf_le f))
  ·exact ((Ht.mem h).wide' q.2.den).mono (Nat.mul_le_mul_right _ (by unfold Vm.H;omega))
theorem Ht.asg (xs : List Rat) (v : Int) : Ht (dnf (lift0 xs)) (htf (lift0 xs)) (Vm.asg xs v) := by
 unfold Vm.asg
 split
 ·by_cases h : v.toNat < xs.length
  ·exact Ht.mem (p := (0,xs.getD v.toNat 0)) (List.mem_map.2 ⟨_,by simp [List.getD_eq_getElem?_getD,h],rfl⟩)
  ·rw [List.getD_eq_getElem?_getD,List.getElem?_eq_none (by omega)]
   exact Ht.zero _ _
 ·exact Ht.zero _ _
theorem mul_lt_pow {a b j k : Nat} (h : a < 2 ^ j) (h' : b < 2 ^ k) : a * b < 2 ^ (j + k) := by
 rw [Nat.pow_add]
 exact Nat.mul_lt_mul_of_lt_of_le h (Nat.le_of_lt h') (Nat.pow_pos (by omega))
theorem dnf_lt (f : List (Int × Rat)) : dnf f < 2 ^ (nbs f + 1) := Nat.lt_of_le_of_lt (dnf_le f) (htf_lt f)
theorem dnM_lt (M : TM) : dnM M < 2 ^ (tb M + 1) := Nat.lt_of_le_of_lt (dnM_le M) (htM_lt M)
theorem pow_up {a j k : Nat} (h : a < 2 ^ j) (hk : j ≤ k) : a < 2 ^ k := Nat.lt_of_lt_of_le h (Nat.pow_le_pow_right (by omega) hk)
theorem Ht.kept {M : TM} {ds : List DD} (hg : GT (ds.length : Int) M) (pr : Rat × Rat → Rat) (hp : pr = Prod.fst ∨ pr = Prod.snd) (v : Int) :
  Ht (dnM M * dnf (lift0 (ds.map fun d => pr d.v))) (htM M * htf (lift0 (ds.map fun d => pr d.v))) (asgP pr (keptD M ds) v) := by
 by_cases hv : v ∈ keys M
 ·obtain ⟨r,hr,rfl⟩ := List.mem_map.1 hv
  rw [kept_basic pr hg hr]
  refine Ht.ofM hr ?_
  have : pr (evd ds r.2) = ev2 (asgP pr ds) r.2 := by rcases hp with rfl | rfl <;> rfl
  rw [this]
  exact Ht.ev r.2 fun p _ => Ht.asg _ _
 ·rw [kept_free pr ds hv]
  exact ((Ht.asg _ v).wide' (dnM M)).mono (Nat.mul_le_mul_right _ (dnM_le M))
theorem DsOk.half {ds : List DD} (h : DsOk ds) (pr : Rat × Rat → Rat) (hp : pr = Prod.fst ∨ pr = Prod.snd) : nbs (lift0 (ds.map fun d => pr d.v)) ≤ 67108864 := by
 rw [nbs_lift]
 rcases hp with rfl | rfl
 ·exact h.sa
 ·exact h.sb
theorem kept_nb {M : TM} {ds : List DD} (hg : GT (ds.length : Int) M) (hd : DsOk ds) (hM : tb M ≤ 68157440) (pr : Rat × Rat → Rat) (hp : pr = Prod.fst ∨ pr = Prod.snd) (v : Int) : nb (asgP pr (keptD M ds) v) ≤ 135266307 := by
 have h1 := hd.half pr hp
 refine Nat.le_trans ((Ht.kept hg pr hp v).nb (k := tb M + 1 + (nbs (lift0 (ds.map fun d => pr d.v)) + 1)) (Nat.mul_pos (dnM_pos _) (dnf_pos _)) (mul_lt_pow (dnM_lt _) (dnf_lt _)) (mul_lt_pow (htM_lt _) (htf_lt _))) (by omega)
theorem kept_nbf {M : TM} {ds : List DD} (hg : GT (ds.length : Int) M) (hd : DsOk ds) (hM : tb M ≤ 68157440) (pr : Rat × Rat → Rat) (hp : pr = Prod.fst ∨ pr = Prod.snd) {f : List (Int × Rat)} (hf : nbs f ≤ 68157440) : nb (ev2 (asgP pr (keptD M ds)) f) ≤ 203423748 := by
 have h1 := hd.half pr hp
 refine Nat.le_trans ((Ht.ev f fun p _ => Ht.kept hg pr hp p.1).nb (k := nbs f + 1 + (tb M + 1 + (nbs (lift0 (ds.map fun d => pr d.v)) + 1))) (Nat.mul_pos (dnf_pos _) (Nat.mul_pos (dnM_pos _) (dnf_pos _))) (mul_lt_pow (dnf_lt _) (mul_lt_pow (dnM_lt _) (dnf_lt _))) (mul_lt_pow (htf_lt _) (mul_lt_pow (htM_lt _) (htf_lt _)))) (by omega)
theorem NF.coef_mem {g : List (Int × Rat)} (h : NF g) {p : Int × Rat} (hp : p ∈ g) : coef g p.1 = p.2 := by
 induction g with
 | nil => cases hp
 | cons q g ih =>
  rcases List.mem_cons.1 hp with rfl | hp
  ·exact h.coef_head
  ·have h1 := h.head p hp
   rw [coef,if_neg (by omega),Rat.zero_add,ih h.tail hp]
theorem exprT_range {n : Int} {M : TM} (hg : GT n M) {f : List (Int × Rat)} (hk : knownB n (normF f) = true) : ∀ p ∈ exprT M f,(0 ≤ p.1 ∧ p.1 < n) ∧ p.1 ∉ keys M := fun p hp => by
 have he := exprP_ok hg f
 have hn := he.nf
 have hc : coef (exprT M f) p.1 = p.2 := hn.coef_mem hp
 have hz := hn.nz p hp
 have hco : coef (exprT M f) p.1 = _ := he.co p.1
 constructor
 ·refine Classical.byContradiction fun hr => hz ?_
  rw [← hc,hco,coef_out hk hr,sumM_out hg _ hr]
  split <;> simp [Rat.add_zero]
 ·intro hb
  apply hz
  rw [← hc,hco,if_pos hb,sumM_basic hg _ hb,Rat.add_zero]
theorem exprT_len {n : Int} {M : TM} (hg : GT n M) {f : List (Int × Rat)} (hk : knownB n (normF f) = true) : (exprT M f).length ≤ 65536 :=
 nf_len (exprP_ok hg f).nf hg.hi fun p hp => (exprT_range hg hk p hp).1
theorem kept_nbg {M : TM} {ds : List DD} (hg : GT (ds.length : Int) M) (hd : DsOk ds) (hM : tb M ≤ 68157440) (pr : Rat × Rat → Rat) (hp : pr = Prod.fst ∨ pr = Prod.snd) {f : List (Int × Rat)} (hf : nbs f ≤ 68157440) (hk : knownB (ds.length : Int) (normF f) = true) (i : Nat) : nb (ev2 (asgP pr (keptD M ds)) ((exprT M f).take i)) ≤ 271581210 := by
 have h1 := hd.half pr hp
 have hl : ((exprT M f).take i).length < 2 ^ 17 := by have := exprT_len hg hk;rw [List.length_take];omega
 have hh := Ht.evn (x := asgP pr (keptD M ds)) (D := dnf f * dnM M) (n := htf f * htM M) ((exprT M f).take i) fun p hp' => ⟨by
  have := Ht.expr hg f p.1
  rwa [NF.coef_mem (g := exprT M f) (exprP_ok hg f).nf (List.mem_of_mem_take hp')] at this,Ht.kept hg pr hp p.1⟩
 refine Nat.le_trans (hh.nb (k := 17 + ((nbs f + 1 + (tb M + 1)) + (tb M + 1 + (nbs (lift0 (ds.map fun d => pr d.v)) + 1)))) (Nat.mul_pos (Nat.mul_pos (dnf_pos _) (dnM_pos _)) (Nat.mul_pos (dnM_pos _) (dnf_pos _)))
  (pow_up (mul_lt_pow (mul_lt_pow (dnf_lt _) (dnM_lt _)) (mul_lt_pow (dnM_lt _) (dnf_lt _))) (by omega))
  (mul_lt_pow hl (mul_lt_pow (mul_lt_pow (htf_lt _) (htM_lt _)) (mul_lt_pow (htM_lt _) (htf_lt _))))) (by omega)
theorem nbs_exprT {n : Int} {M : TM} (hg : GT n M) (hM : tb M ≤ 68157440) {f : List (Int × Rat)} (hf : nbs f ≤ 68157440) (hk : knownB n (normF f) = true) : ∀ p ∈ exprT M f,nb p.2 ≤ 136314883 := fun p hp => by
 have := Ht.expr hg f p.1
 rw [NF.coef_mem (g := exprT M f) (exprP_ok hg f).nf hp] at this
 exact Nat.le_trans (this.nb (k := nbs f + 1 + (tb M + 1)) (Nat.mul_pos (dnf_pos _) (dnM_pos _)) (mul_lt_pow (dnf_lt _) (dnM_lt _)) (mul_lt_pow (htf_lt _) (htM_lt _))) (by omega)
end Go.Proofs.YtjmpajgjaefcjaaGreat.Vm
namespace Go.Proofs.YtjmpajgjaefcjaaGreat.Vm
open Go Go.RowKit
set_option maxRecDepth 100000
set_option linter.unusedVariables false
set_option linter.unusedSimpArgs false
end Go.Proofs.YtjmpajgjaefcjaaGreat.Vm
namespace Go.Proofs.YtjmpajgjaefcjaaGreat.Vm
open Go Go.RowKit
set_option maxRecDepth 100000
set_option linter.unusedVariables false
set_option linter.unusedSimpArgs false
theorem FormOk.pf {f : List (Int × RR)} (h : FormOk f) : PF f 68157441 := by
 have := h.sz
 exact (h.fok.pf (by omega)).mono (by omega)
theorem sortK_snoc {l : List Int} (hn : l.Nodup) {n : Int} (h : ∀ x ∈ l,x < n) : sortK (l ++ [n]) = sortK l ++ [n] := by
 refine sorted_ext ((sortK_perm _).trans ((sortK_perm l).symm.append_right [n])) (sortK_le _) ?_
 rw [List.pairwise_append]
 refine ⟨sortK_le l,by simp,fun a ha b hb => ?_⟩
 simp at hb
 subst hb
 have := h a (mem_sortK.1 ha)
 omega
theorem look_snoc {M : TM} {n b : Int} {g : List (Int × Rat)} (hb : b ∈ keys M) : lookM (M ++ [(n,g)]) b = lookM M b := by
 obtain ⟨j,h1,h2,h3,h4,h5⟩ := look_idx hb
 rw [h4]
 unfold lookM at h4 ⊢
 rw [List.find?_append]
 cases hf : M.find? fun r => r.1 == b with
 | none => rw [hf] at h4;cases h4
 | some r => rw [hf] at h4;simpa using h4
theorem sortM_snoc {M : TM} (hn : (keys M).Nodup) {n : Int} (h : ∀ x ∈ keys M,x < n) (g : List (Int × Rat)) : sortM (M ++ [(n,g)]) = sortM M ++ [(n,g)] := by
 unfold sortM
 rw [keys_append,show keys [(n,g)] = [n] from rfl,sortK_snoc hn h,List.map_append]
 congr 1
 ·refine List.map_congr_left fun b hb => ?_
  rw [look_snoc (mem_sortK.1 hb)]
 ·have hnn : n ∉ keys M := fun hm => by have := h n hm;omega
  have hnd : (keys (M ++ [(n,g)])).Nodup := by
   rw [keys_append,List.nodup_append]
   refine ⟨hn,by simp [keys],?_⟩
   rintro a ha b hb rfl
   simp [keys] at hb
   subst hb
   exact hnn ha
  simp only [List.map_cons,List.map_nil]
  rw [look_of hnd (g := g) (by simp)]
  rfl
theorem sUf {G G' : Prop} (h : G') (e : G = G' := by conv => lhs;simp (disch := omega) only [rowsOf,cNat,cN,St.ret,St.seth,Eff.app,Eff.wi,sepL,guardOf,St.known,objOf,List.set,sliceW,litW,copyW,lenOf,bnd,mxOk,ofCells,TI.isAgg,cellsOf,storable,AV.one,dead,laid,overlay,reduceCtorEq,Int.reduceLE,Int.reduceLT,Int.reduceSub,Int.reduceAdd,Nat.reduceMul,Int.reduceToNat,Nat.reducePow,Int.reduceNeg,Nat.reduceAdd,Nat.reduceLT,Nat.reduceLeDiff,sA,sB,Nat.reduceEqDiff,cQ,rowQ,rowU,rowT,rowM,i64s_getD,i64s_length,i64s_all,tab_length,tab_drop,tab_take,tab_append,tab_nil,rowT_all,rowT_one,rowT_pure,rowU_all,rowU_one,rowU_pure,rowQ_all,rowQ_one,rowQ_pure,rowM_all,rowM_one,rowM_pure,List.take_length,List.length_append,sT]) : G := e.mpr h
theorem sUfX {G G' P : Prop} (p : P) (h : G') (e : P → G = G' := by intro p;conv => lhs;simp (disch := omega) only [rowsOf,cNat,cN,St.ret,St.seth,Eff.app,Eff.wi,sepL,guardOf,St.known,objOf,List.set,sliceW,litW,copyW,lenOf,bnd,mxOk,ofCells,TI.isAgg,cellsOf,storable,AV.one,dead,laid,overlay,reduceCtorEq,Int.reduceLE,Int.reduceLT,Int.reduceSub,Int.reduceAdd,Nat.reduceMul,Int.reduceToNat,Nat.reducePow,Int.reduceNeg,Nat.reduceAdd,Nat.reduceLT,Nat.reduceLeDiff,sA,sB,Nat.reduceEqDiff,cQ,rowQ,rowU,rowT,rowM,i64s_getD,i64s_length,i64s_all,tab_length,tab_drop,tab_take,tab_append,tab_nil,rowT_all,rowT_one,rowT_pure,rowU_all,rowU_one,rowU_pure,rowQ_all,rowQ_one,rowQ_pure,rowM_all,rowM_one,rowM_pure,List.take_length,List.length_append,sT,p]) : G := (e p).mpr h
theorem sUfV {G G' : Prop} (h : G') (e : G = G' := by conv => lhs;simp (disch := omega) only [rowsOf,cNat,cN,St.ret,St.seth,Eff.app,Eff.wi,sepL,guardOf,St.known,objOf,List.set,sliceW,litW,copyW,lenOf,bnd,mxOk,ofCells,TI.isAgg,cellsOf,storable,AV.one,dead,laid,overlay,reduceCtorEq,Int.reduceLE,Int.reduceLT,Int.reduceSub,Int.reduceAdd,Nat.reduceMul,Int.reduceToNat,Nat.reducePow,Int.reduceNeg,Nat.reduceAdd,Nat.reduceLT,Nat.reduceLeDiff,sA,sB,Nat.reduceEqDiff,cQ,rowQ,rowU,rowT,rowM,i64s_getD,i64s_length,i64s_all,tab_length,tab_drop,tab_take,tab_append,tab_nil,rowT_all,rowT_one,rowT_pure,rowU_all,rowU_one,rowU_pure,rowQ_all,rowQ_one,rowQ_pure,rowM_all,rowM_one,rowM_pure,List.take_length,List.length_append,sT,view_sref,viewRef,view_agg,views_cons,views_nil,view_bool,view_int,view_sl,view_nils,view_str,view_tup,view_nilif]) : G := e.mpr h
theorem aUf {G G' : Prop} (h : G') (f : Wr G' → G := by intro h;(repeat (first|(refine W_seqV fun K hK => ?_;(try (refine sUf ?_;try exact True.intro));(repeat refine aI ?_);refine hK _ ?_;clear hK K)|(refine W_seqR fun K hK => ?_;(try (refine sUf ?_;try exact True.intro));(repeat refine aI ?_);refine hK _ ?_;clear hK K)|(refine W_seqD mixed [] (by kernel_rfl) fun K hK => ?_;(try (refine sUf ?_;try exact True.intro));(repeat refine aI ?_);refine hK _ ?_;clear hK K)));exact h.out) : G := f ⟨h⟩
theorem len_neI (n : Nat) : ((n : Int) != (n : Int)) = false := by simp
theorem int_neI (n : Int) : (n != n) = false := by simp
theorem bool_eqI (b : Bool) : (b == b) = true := by simp
theorem f1same_ok (l : List Nat) (h : l.length < 1099511627776) : Pure Tryz.prog 114 [.sl (u32s l),.sl (u32s l)] (· = .bool true) := by
 have hz := len_neI l.length
 (refine pureW Tryz.func114 rfl (rs := [Go.ResultVar.tmp 4]) rfl (n := 26) rfl ?_;simp only [List.length_cons,List.length_nil,List.replicate,List.cons_append,List.nil_append])
 (refine aUf ?_)
 refine W_seq ?_
 ((refine W_seqV ?_);intro K hK;(refine sUfX hz ?_))
 (refine hK _ ?_;clear hK K)
 (refine W_cf rfl ?_)
 refine W_skip ?_
 simp only [thenW]
 refine W_seq ?_
 ((refine W_seqV ?_);intro K hK;(refine sUf ?_))
 (refine hK _ ?_;clear hK K)
 refine W_block (W_loop (fun t : {t : Nat // t ≤ l.length} =>
   ⟨[.sl (u32s l),.sl (u32s l),.any,.any,.any,.int .i64 t.1,.any,.any,.any,.any,.any,.any,.any,.any,.any,.any,.any,.any,.any,.any,.any,.any,.any,.any,.any,.any],[.dead,.dead,.dead,.dead,.dead,.dead,.dead,.dead,.dead,.dead,.dead,.dead,.dead,.dead,.dead,.dead,.dead,.dead,.dead,.dead,.dead,.dead,.dead,.dead,.dead,.dead]⟩) (fun t => l.length - t.1)
   ⟨0,by omega⟩ (Le_of (by simp [leE]) (by simp)) fun t => ?_)
 obtain ⟨i,hi⟩ := t
 dsimp only
 by_cases hlt : i < l.length
 ·generalize hx : l.getD i 0 = x
  have hzx := len_neI x
  refine W_seq ?_
  ((refine W_seqV ?_);intro K hK;(refine sUfX hlt ?_))
  (refine hK _ ?_;clear hK K)
  (refine W_ct rfl ?_)
  refine W_skip ?_
  simp only [thenW]
  refine W_seq ?_
  refine W_block ?_
  ((refine W_seqD mixed [] (by kernel_rfl) ?_);intro K hK;(refine sUfX (And.intro hlt (And.intro hx hzx)) ?_))
  (refine hK _ ?_;clear hK K)
  (refine W_cf rfl ?_)
  refine W_skip ?_
  simp only [blockW,thenW]
  ((refine W_regV ?_);intro K hK;(refine sUf ?_))
  (refine hK _ ?_;clear hK K)
  simp only [blockW,thenW]
  refine ⟨⟨i + 1,by omega⟩,Le_drop (by simp [leE]) (by simp [leH]) rfl rfl,?_⟩
  dsimp only
  omega
 ·obtain rfl : i = l.length := by omega
  refine W_seq ?_
  ((refine W_seqV ?_);intro K hK;(refine sUf ?_))
  (refine hK _ ?_;clear hK K)
  (refine W_cf rfl ?_)
  refine W_exit ?_
  simp only [thenW,blockW,if_true]
  (repeat' (first | (refine W_seqV fun K hK => ?_;(try (refine sUf ?_));refine hK _ ?_;clear hK K) | (refine W_ret ?_;(refine qG ?_;try exact True.intro))))
theorem f3same_ok (r : RR) (h : r.ok) : Pure Tryz.prog 72 [r.av,r.av] (· = .bool true) := by
 have h1 := f1same_ok r.num (by have := h.nl;omega)
 have h2 := f1same_ok r.den (by have := h.dl;omega)
 have hb := bool_eqI r.neg
 obtain ⟨neg,n,d⟩ := r
 simp only [RR.av] at *
 (refine pureW Tryz.func72 rfl (rs := [Go.ResultVar.tmp 4]) rfl (n := 28) rfl ?_;simp only [List.length_cons,List.length_nil,List.replicate,List.cons_append,List.nil_append])
 (refine aUf ?_)
 ((refine W_seqV ?_);intro K hK;(refine sUfX hb ?_))
 (refine ⟨by kernel_rfl,_,.pure rfl (h1),?_⟩;(try (refine sUf ?_)))
 (refine ⟨by kernel_rfl,_,.pure rfl (h2),?_⟩;(try (refine sUf ?_)))
 (refine hK _ ?_;clear hK K)
 refine W_ret ?_
 (refine qG ?_;try exact True.intro);try (refine sUfV ?_;try exact True.intro)
theorem r7sameForm_ok (f : List (Int × RR)) (h : ∀ p ∈ f,p.2.ok) (hl : f.length < 1099511627776) : Pure Tryz.prog 27 [cF f,cF f] (· = .bool true) := by
 have hz := len_neI f.length
 have hs : ∀ i,i < f.length → Pure Tryz.prog 72 [(f.getD i default).2.av,(f.getD i default).2.av] (· = .bool true) := fun i hi => f3same_ok _ (h _ (getD_mem hi))
 simp only [cF,RR.av] at *
 (refine pureW Tryz.func27 rfl (rs := [Go.ResultVar.tmp 4]) rfl (n := 42) rfl ?_;simp only [List.length_cons,List.length_nil,List.replicate,List.cons_append,List.nil_append])
 (refine aUf ?_)
 ((refine W_seq (W_seqV ?_));intro K hK;(refine sUfX hz ?_))
 (refine hK _ ?_;clear hK K)
 (refine W_cf rfl ?_)
 refine W_skip ?_
 simp only [thenW]
 refine W_seq ?_
 ((refine W_seqV ?_);intro K hK;(refine sUf ?_))
 (refine hK _ ?_;clear hK K)
 refine W_block (W_loop (fun t : {t : Nat // t ≤ f.length} =>
   ⟨[.sl (tab rowM f),.sl (tab rowM f),.any,.any,.any,.int .i64 t.1,.any,.any,.any,.any,.any,.any,.any,.any,.any,.any,.any,.any,.any,.any,.any,.any,.any,.any,.any,.any,.any,.any,.any,.any,.any,.any,.any,.any,.any,.any,.any,.any,.any,.any,.any,.any],[.dead,.dead,.dead,.dead,.dead,.dead,.dead,.dead,.dead,.dead,.dead,.dead,.dead,.dead,.dead,.dead,.dead,.dead,.dead,.dead,.dead,.dead,.dead,.dead,.dead,.dead,.dead,.dead,.dead,.dead,.dead,.dead,.dead,.dead,.dead,.dead,.dead,.dead,.dead,.dead,.dead,.dead]⟩) (fun t => f.length - t.1)
   ⟨0,by omega⟩ (Le_of (by simp [leE]) (by simp)) fun t => ?_)
 obtain ⟨i,hi⟩ := t
 dsimp only
 by_cases hlt : i < f.length
 ·have hfi : (tab rowM f).getD i [] = rowM (f.getD i default) := tab_getD hlt
  have hsi := hs i hlt
  generalize f.getD i default = p at *
  obtain ⟨v,neg,n,d⟩ := p
  simp only [rowM] at hfi
  dsimp only at *
  have hzx := int_neI v
  refine W_seq ?_
  ((refine W_seqV ?_);intro K hK;(refine sUfX hlt ?_))
  (refine hK _ ?_;clear hK K)
  (refine W_ct rfl ?_)
  refine W_skip ?_
  simp only [thenW]
  refine W_seq ?_
  refine W_block ?_
  ((refine W_seqD mixed [] (by kernel_rfl) ?_);intro K hK;(refine sUfX (And.intro hlt (And.intro hfi hzx)) ?_))
  (refine ⟨by kernel_rfl,_,.pure rfl (hsi),?_⟩;(try (refine sUf ?_)))
  (refine hK _ ?_;clear hK K)
  (refine W_cf rfl ?_)
  refine W_skip ?_
  simp only [blockW,thenW]
  ((refine W_regV ?_);intro K hK;(refine sUf ?_))
  (refine hK _ ?_;clear hK K)
  simp only [blockW,thenW]
  refine ⟨⟨i + 1,by omega⟩,Le_drop (by simp [leE]) (by simp [leH]) rfl rfl,?_⟩
  dsimp only
  omega
 ·obtain rfl : i = f.length := by omega
  refine W_seq ?_
  ((refine W_seqV ?_);intro K hK;(refine sUf ?_))
  (refine hK _ ?_;clear hK K)
  (refine W_cf rfl ?_)
  refine W_exit ?_
  simp only [thenW,blockW,if_true]
  (repeat' (first | (refine W_seqV fun K hK => ?_;(try (refine sUf ?_));refine hK _ ?_;clear hK K) | (refine W_ret ?_;(refine qG ?_;try exact True.intro))))
structure TS (t : TR) : Prop where
 ok : ∀ r ∈ t,∀ p ∈ r.2,p.2.ok
 fl : ∀ r ∈ t,r.2.length < 1099511627776
 len : t.length < 1099511627776
theorem TOk.ts {t : TR} (h : TOk t) : TS t := ⟨h.ok,fun r hr => by have := nbs_len (vals r.2);have := h.nbs hr;rw [vals_length] at *;omega,by have := h.len;omega⟩
theorem r7alike_ok (n : Int) (t : TR) (h : TS t) : Pure Tryz.prog 65 [cT n t,cT n t] (· = .bool true) := by
 have hz := len_neI t.length
 have hzn := int_neI n
 have hlen := h.len
 have hs : ∀ i,i < t.length → Pure Tryz.prog 27 [cF (t.getD i default).2,cF (t.getD i default).2] (· = .bool true) := fun i hi => r7sameForm_ok _ (h.ok _ (getD_mem hi)) (h.fl _ (getD_mem hi))
 simp only [cF,cT] at *
 (refine pureW Tryz.func65 rfl (rs := [Go.ResultVar.tmp 4]) rfl (n := 56) rfl ?_;simp only [List.length_cons,List.length_nil,List.replicate,List.cons_append,List.nil_append])
 (refine aUf ?_)
 ((refine W_seq (W_seqV ?_));intro K hK;(refine sUfX (And.intro hz hzn) ?_))
 (refine hK _ ?_;clear hK K)
 (refine W_cf rfl ?_)
 refine W_skip ?_
 simp only [thenW]
 refine W_seq ?_
 ((refine W_seqV ?_);intro K hK;(refine sUf ?_))
 (refine hK _ ?_;clear hK K)
 refine W_block (W_loop (fun s : {i : Nat // i ≤ t.length} =>
   ⟨[.any,.any,.ptr 2 0 0,.ptr 3 0 0,.any,.int .i64 s.1,.any,.any,.any,.any,.any,.any,.any,.any,.any,.any,.any,.any,.any,.any,.any,.any,.any,.any,.any,.any,.any,.any,.any,.any,.any,.any,.any,.any,.any,.any,.any,.any,.any,.any,.any,.any,.any,.any,.any,.any,.any,.any,.any,.any,.any,.any,.any,.any,.any,.any],[.dead,.dead,.arr 24 2 false [[.int .i64 n,.sl (tab rowT t)]],.arr 24 2 false [[.int .i64 n,.sl (tab rowT t)]],.dead,.dead,.dead,.dead,.dead,.dead,.dead,.dead,.dead,.dead,.dead,.dead,.dead,.dead,.dead,.dead,.dead,.dead,.dead,.dead,.dead,.dead,.dead,.dead,.dead,.dead,.dead,.dead,.dead,.dead,.dead,.dead,.dead,.dead,.dead,.dead,.dead,.dead,.dead,.dead,.dead,.dead,.dead,.dead,.dead,.dead,.dead,.dead,.dead,.dead,.dead,.dead]⟩) (fun s => t.length - s.1)
   ⟨0,by omega⟩ (Le_drop (by simp [leE]) (by simp [leH]) rfl rfl) fun s => ?_)
 obtain ⟨i,hi⟩ := s
 dsimp only
 by_cases hlt : i < t.length
 ·have hti : (tab rowT t).getD i [] = rowT (t.getD i default) := tab_getD hlt
  have hsi := hs i hlt
  generalize t.getD i default = r at *
  obtain ⟨b,f⟩ := r
  simp only [rowT] at hti
  dsimp only at *
  have hzx := int_neI b
  refine W_seq ?_
  ((refine W_seqV ?_);intro K hK;(refine sUfX hlt ?_))
  (refine hK _ ?_;clear hK K)
  (refine W_ct rfl ?_)
  refine W_skip ?_
  simp only [thenW]
  refine W_seq ?_
  refine W_block ?_
  ((refine W_seqD mixed [] (by kernel_rfl) ?_);intro K hK;(refine sUfX (And.intro hlt (And.intro hti hzx)) ?_))
  (refine ⟨by kernel_rfl,_,.pure rfl (hsi),?_⟩;(try (refine sUf ?_)))
  (refine hK _ ?_;clear hK K)
  (refine W_cf rfl ?_)
  refine W_skip ?_
  simp only [blockW,thenW]
  ((refine W_regV ?_);intro K hK;(refine sUf ?_))
  (refine hK _ ?_;clear hK K)
  simp only [blockW,thenW]
  refine ⟨⟨i + 1,by omega⟩,Le_drop (by simp [leE]) (by simp [leH]) rfl rfl,?_⟩
  dsimp only
  omega
 ·obtain rfl : i = t.length := by omega
  refine W_seq ?_
  ((refine W_seqV ?_);intro K hK;(refine sUf ?_))
  (refine hK _ ?_;clear hK K)
  (refine W_cf rfl ?_)
  refine W_exit ?_
  simp only [thenW,blockW,if_true]
  (repeat' (first | (refine W_seqV fun K hK => ?_;(try (refine sUf ?_));refine hK _ ?_;clear hK K) | (refine W_ret ?_;(refine qG ?_;try exact True.intro))))
theorem lalike_ok (n : Int) (t : TR) (h : TS t) : Pure Tryz.prog 20 [cT n t,cT n t] (· = .bool true) := by
 have a := r7alike_ok n t h
 unfold cT at *
 (refine pureW Tryz.func20 rfl (rs := [Go.ResultVar.tmp 4]) rfl (n := 8) rfl ?_;simp only [List.length_cons,List.length_nil,List.replicate,List.cons_append,List.nil_append])
 (refine aUf ?_)
 ((refine W_seqV ?_);intro K hK;(refine sUf ?_))
 (refine ⟨by kernel_rfl,_,.pure rfl (a),?_⟩;(try (refine sUf ?_)))
 (refine hK _ ?_;clear hK K)
 refine W_ret ?_
 (refine qG ?_;try exact True.intro);try (refine sUfV ?_;try exact True.intro)
def rfT (M : TM) : TR := M.map fun r => (r.1,rf r.2)
theorem cU_rf (n : Int) (M : TM) : cT n (rfT M) = cU n M := by
 unfold cT cU rfT
 congr 4
 unfold tab
 rw [List.map_map]
 refine List.map_congr_left fun r _ => ?_
 simp only [Function.comp,rowT,rowU]
 rw [tab_rf]
theorem MOk.ts {M : TM} {B : Nat} (h : MOk M B) (hB : B < 17179869184) : TS (rfT M) := by
 refine ⟨fun r hr p hp => ?_,fun r hr => ?_,by simp only [rfT,List.length_map];exact h.len⟩
 ·obtain ⟨q,hq,rfl⟩ := List.mem_map.1 hr
  obtain ⟨x,hx,rfl⟩ := List.mem_map.1 hp
  have := (h.sz q hq).mem hx
  exact qr_ok (by omega)
 ·obtain ⟨q,hq,rfl⟩ := List.mem_map.1 hr
  have := (h.sz q hq).l
  simp only [rf,List.length_map]
  omega
theorem mnat_ok (l : List Nat) (h : l.length < 1099511627776) : Pure Tryz.prog 111 [.sl (u32s l)] (· = .sl (u32s l)) := by
 (refine pureW Tryz.func111 rfl (rs := [Go.ResultVar.tmp 2]) rfl (n := 19) rfl ?_;simp only [List.length_cons,List.length_nil,List.replicate,List.cons_append,List.nil_append])
 (refine aUf ?_)
 refine W.le ?_ (Le_nil 3 3 128 1 true rfl rfl)
 simp only [List.set]
 refine W_seq ?_
 ((refine W_seqV ?_);intro K hK;(refine sUf ?_))
 (refine hK _ ?_;clear hK K)
 refine W_block (W_loop (fun t : {t : Nat // t ≤ l.length} =>
   ⟨[.sl (u32s l),.any,.any,.sref 3 0 t.1,.int .i64 t.1,.any,.any,.any,.any,.any,.any,.any,.any,.any,.any,.any,.any,.any,.any],[.dead,.dead,.dead,.arr 128 1 true (u32s (l.take t.1)),.dead,.dead,.dead,.dead,.dead,.dead,.dead,.dead,.dead,.dead,.dead,.dead,.dead,.dead,.dead]⟩) (fun t => l.length - t.1)
   ⟨0,by omega⟩ (Le_drop (by simp [leE]) (by simp [leH,u32s]) rfl rfl) fun t => ?_)
 obtain ⟨i,hi⟩ := t
 dsimp only
 have htl : (l.take i).length = i := by rw [List.length_take];omega
 by_cases hlt : i < l.length
 ·have hst : l.take (i + 1) = l.take i ++ [l.getD i 0] := by
   rw [List.take_succ_eq_append_getElem hlt]
   simp [List.getD_eq_getElem?_getD,hlt]
  generalize hx : l.getD i 0 = x at *
  generalize hP : l.take i = P at *
  refine W_seq ?_
  ((refine W_seqV ?_);intro K hK;(refine sUfX hlt ?_))
  (refine hK _ ?_;clear hK K)
  (refine W_ct rfl ?_)
  refine W_skip ?_
  simp only [thenW]
  refine W_seq ?_
  refine W_block ?_
  refine W_regR fun K hK => ?_
  (refine sUfX (And.intro hx (And.intro hlt htl)) ?_;try exact True.intro)
  (repeat refine aI ?_)
  refine hK _ ?_
  clear hK K
  simp only [blockW,thenW]
  ((refine W_regV ?_);intro K hK;(refine sUf ?_))
  (refine hK _ ?_;clear hK K)
  simp only [blockW,thenW]
  refine ⟨⟨i + 1,by omega⟩,Le_drop (by simp [leE]) (by simp [leH,hst,u32s,List.take_of_length_le,htl]) rfl rfl,?_⟩
  dsimp only
  omega
 ·obtain rfl : i = l.length := by omega
  rw [List.take_length]
  refine W_seq ?_
  ((refine W_seqV ?_);intro K hK;(refine sUf ?_))
  (refine hK _ ?_;clear hK K)
  (refine W_cf rfl ?_)
  refine W_exit ?_
  simp only [thenW,blockW,if_true]
  (refine W.le ?_ (Le_freeze 3 (rows := u32s l) rfl (by simp) (.inl rfl));simp only [St.freeze,List.map_cons,List.map_nil,List.set,if_true,if_false,Nat.reduceEqDiff,reduceCtorEq,List.drop_zero,u32s_take,u32s_drop,froz_any,froz_und,froz_int,froz_bool,froz_str,froz_nils,froz_sl,froz_ia,froz_nilp,froz_nilif,froz_nilfn,froz_nilmp,froz_gl,froz_sref,froz_ptr,froz_agg,froz_tup,froz_fn,froz_ifc,frozs_nil,frozs_cons,froz_dead,froz_arr,froz_mp,froz_it,froz_md,froz_map,froz_iter])
  (repeat' (first | (refine W_seqV fun K hK => ?_;(try (refine sUf ?_));refine hK _ ?_;clear hK K) | (refine W_ret ?_;(refine qG ?_;try exact True.intro))))
theorem mint_ok (neg : Bool) (l : List Nat) (h : l.length < 1099511627776) : Pure Tryz.prog 110 [.agg [.bool neg,.sl (u32s l)]] (· = .agg [.bool neg,.sl (u32s l)]) := by
 have a := mnat_ok l h
 (refine pureW Tryz.func110 rfl (rs := [Go.ResultVar.cell 2 51]) rfl (n := 9) rfl ?_;simp only [List.length_cons,List.length_nil,List.replicate,List.cons_append,List.nil_append])
 (refine aUf ?_)
 ((refine W_seqS mixed 6 [] (by kernel_rfl) ?_);intro K hK;(refine sUf ?_))
 (refine ⟨by kernel_rfl,_,.pure rfl (a),?_⟩;(try (refine sUf ?_)))
 (refine hK _ ?_;clear hK K)
 refine W_ret ?_
 (refine qG ?_;try exact True.intro);try (refine sUfV ?_;try exact True.intro)
theorem mrat_ok (r : RR) (h : r.ok) : Pure Tryz.prog 68 [r.av] (· = r.av) := by
 have a1 := mint_ok r.neg r.num (by have := h.nl;omega)
 have a2 := mnat_ok r.den (by have := h.dl;omega)
 obtain ⟨neg,n,d⟩ := r
 simp only [RR.av] at *
 (refine pureW Tryz.func68 rfl (rs := [Go.ResultVar.cell 2 53]) rfl (n := 10) rfl ?_;simp only [List.length_cons,List.length_nil,List.replicate,List.cons_append,List.nil_append])
 (refine aUf ?_)
 ((refine W_seqS mixed 7 [] (by kernel_rfl) ?_);intro K hK;(refine sUf ?_))
 (refine ⟨by kernel_rfl,_,.pure rfl (a1),?_⟩;(try (refine sUf ?_)))
 (refine ⟨by kernel_rfl,_,.pure rfl (a2),?_⟩;(try (refine sUf ?_)))
 (refine hK _ ?_;clear hK K)
 refine W_ret ?_
 (refine qG ?_;try exact True.intro);try (refine sUfV ?_;try exact True.intro)
theorem mform_ok (f : List (Int × RR)) (h : ∀ p ∈ f,p.2.ok) (hl : f.length < 1099511627776) : Pure Tryz.prog 22 [cF f] (· = cF f) := by
 have hs : ∀ i,i < f.length → Pure Tryz.prog 68 [(f.getD i default).2.av] (· = (f.getD i default).2.av) := fun i hi => mrat_ok _ (h _ (getD_mem hi))
 have hst : ∀ i,i < f.length → f.take (i + 1) = f.take i ++ [f.getD i default] := fun i hi => take_snoc hi
 simp only [cF,RR.av] at *
 (refine pureW Tryz.func22 rfl (rs := [Go.ResultVar.tmp 2]) rfl (n := 27) rfl ?_;simp only [List.length_cons,List.length_nil,List.replicate,List.cons_append,List.nil_append])
 (refine aUf ?_)
 refine W.le ?_ (Le_nil 3 3 55 4 true rfl rfl)
 simp only [List.set]
 refine W_seq ?_
 ((refine W_seqV ?_);intro K hK;(refine sUf ?_))
 (refine hK _ ?_;clear hK K)
 refine W_block (W_loop (fun t : {t : Nat // t ≤ f.length} =>
   ⟨[.sl (tab rowM f),.any,.any,.sref 3 0 t.1,.int .i64 t.1,.any,.any,.any,.any,.any,.any,.any,.any,.any,.any,.any,.any,.any,.any,.any,.any,.any,.any,.any,.any,.any,.any],[.dead,.dead,.dead,.arr 55 4 true (tab rowM (f.take t.1)),.dead,.dead,.dead,.dead,.dead,.dead,.dead,.dead,.dead,.dead,.dead,.dead,.dead,.dead,.dead,.dead,.dead,.dead,.dead,.dead,.dead,.dead,.dead]⟩) (fun t => f.length - t.1)
   ⟨0,by omega⟩ (Le_drop (by simp [leE]) (by simp [leH,tab]) rfl rfl) fun t => ?_)
 obtain ⟨i,hi⟩ := t
 dsimp only
 have htl : (f.take i).length = i := by rw [List.length_take];omega
 by_cases hlt : i < f.length
 ·have hfi : (tab rowM f).getD i [] = rowM (f.getD i default) := tab_getD hlt
  have hsi := hs i hlt
  have hsti := hst i hlt
  generalize f.getD i default = p at *
  obtain ⟨v,neg,n,d⟩ := p
  simp only [rowM] at hfi
  dsimp only at *
  generalize f.take i = P at *
  refine W_seq ?_
  ((refine W_seqV ?_);intro K hK;(refine sUfX hlt ?_))
  (refine hK _ ?_;clear hK K)
  (refine W_ct rfl ?_)
  refine W_skip ?_
  simp only [thenW]
  refine W_seq ?_
  refine W_block ?_
  ((refine W_regS mixed 14 [] (by kernel_rfl) ?_);intro K hK;(refine sUfX (And.intro hlt hfi) ?_))
  (refine ⟨by kernel_rfl,_,.pure rfl (hsi),?_⟩;(try (refine sUf ?_));(repeat refine aI ?_))
  (refine hK _ ?_;clear hK K)
  simp only [blockW,thenW]
  ((refine W_regV ?_);intro K hK;(refine sUf ?_))
  (refine hK _ ?_;clear hK K)
  simp only [blockW,thenW]
  refine ⟨⟨i + 1,by omega⟩,Le_drop (by simp [leE]) (by simp [leH,hsti,← tab_snoc,rowM,tab_take,List.take_of_length_le,htl]) rfl rfl,?_⟩
  dsimp only
  omega
 ·obtain rfl : i = f.length := by omega
  rw [List.take_length]
  refine W_seq ?_
  ((refine W_seqV ?_);intro K hK;(refine sUf ?_))
  (refine hK _ ?_;clear hK K)
  (refine W_cf rfl ?_)
  refine W_exit ?_
  simp only [thenW,blockW,if_true]
  (refine W.le ?_ (Le_freeze 3 (rows := tab rowM f) rfl (by simp) (.inl rfl));simp only [St.freeze,List.map_cons,List.map_nil,List.set,if_true,if_false,Nat.reduceEqDiff,reduceCtorEq,List.drop_zero,u32s_take,u32s_drop,froz_any,froz_und,froz_int,froz_bool,froz_str,froz_nils,froz_sl,froz_ia,froz_nilp,froz_nilif,froz_nilfn,froz_nilmp,froz_gl,froz_sref,froz_ptr,froz_agg,froz_tup,froz_fn,froz_ifc,frozs_nil,frozs_cons,froz_dead,froz_arr,froz_mp,froz_it,froz_md,froz_map,froz_iter])
  (repeat' (first | (refine W_seqV fun K hK => ?_;(try (refine sUf ?_));refine hK _ ?_;clear hK K) | (refine W_ret ?_;(refine qG ?_;try exact True.intro))))
theorem ltwin_ok (n : Int) (t : TR) (h : TS t) : Pure Tryz.prog 18 [cT n t] (· = cT n t) := by
 have hlen := h.len
 have hs : ∀ i,i < t.length → Pure Tryz.prog 22 [cF (t.getD i default).2] (· = cF (t.getD i default).2) := fun i hi => mform_ok _ (h.ok _ (getD_mem hi)) (h.fl _ (getD_mem hi))
 have hst : ∀ i,i < t.length → t.take (i + 1) = t.take i ++ [t.getD i default] := fun i hi => take_snoc hi
 simp only [cF,cT] at *
 (refine pureW Tryz.func18 rfl (rs := [Go.ResultVar.cell 2 24]) rfl (n := 35) rfl ?_;simp only [List.length_cons,List.length_nil,List.replicate,List.cons_append,List.nil_append])
 (refine aUf ?_)
 refine W.le ?_ (Le_nilO 3 0 1 32 84 2 true rfl rfl rfl rfl)
 simp only [List.set]
 refine W_seq ?_
 ((refine W_seqV ?_);intro K hK;(refine sUf ?_))
 (refine hK _ ?_;clear hK K)
 refine W_block (W_loop (fun s : {i : Nat // i ≤ t.length} =>
   ⟨[.any,.ptr 1 0 0,.ptr 2 0 0,.ptr 3 0 0,.int .i64 s.1,.any,.any,.any,.any,.any,.any,.any,.any,.any,.any,.any,.any,.any,.any,.any,.any,.any,.any,.any,.any,.any,.any,.any,.any,.any,.any,.any,.any,.any,.any],[.dead,.arr 24 2 false [[.int .i64 n,.sl (tab rowT t)]],.arr 24 2 false [[.int .i64 0,.nils]],.arr 24 2 false [[.int .i64 n,.sref 32 0 s.1]],.dead,.dead,.dead,.dead,.dead,.dead,.dead,.dead,.dead,.dead,.dead,.dead,.dead,.dead,.dead,.dead,.dead,.dead,.dead,.dead,.dead,.dead,.dead,.dead,.dead,.dead,.dead,.dead,.arr 84 2 true (tab rowT (t.take s.1)),.dead,.dead]⟩) (fun s => t.length - s.1)
   ⟨0,by omega⟩ (Le_drop (by simp [leE]) (by simp [leH,tab]) rfl rfl) fun s => ?_)
 obtain ⟨i,hi⟩ := s
 dsimp only
 have htl : (t.take i).length = i := by rw [List.length_take];omega
 by_cases hlt : i < t.length
 ·have hti : (tab rowT t).getD i [] = rowT (t.getD i default) := tab_getD hlt
  have hsi := hs i hlt
  have hsti := hst i hlt
  generalize t.getD i default = r at *
  obtain ⟨b,f⟩ := r
  simp only [rowT] at hti
  dsimp only at *
  generalize t.take i = P at *
  refine W_seq ?_
  ((refine W_seqV ?_);intro K hK;(refine sUfX hlt ?_))
  (refine hK _ ?_;clear hK K)
  (refine W_ct rfl ?_)
  refine W_skip ?_
  simp only [thenW]
  refine W_seq ?_
  refine W_block ?_
  ((refine W_regS mixed 17 [] (by kernel_rfl) ?_);intro K hK;(refine sUfX (And.intro hlt hti) ?_))
  (refine ⟨by kernel_rfl,_,.pure rfl (hsi),?_⟩;(try (refine sUf ?_));(repeat refine aI ?_))
  (refine hK _ ?_;clear hK K)
  simp only [blockW,thenW]
  ((refine W_regV ?_);intro K hK;(refine sUf ?_))
  (refine hK _ ?_;clear hK K)
  simp only [blockW,thenW]
  refine ⟨⟨i + 1,by omega⟩,Le_drop (by simp [leE]) (by simp [leH,hsti,← tab_snoc,rowT,tab_take,List.take_of_length_le,htl]) rfl rfl,?_⟩
  dsimp only
  omega
 ·obtain rfl : i = t.length := by omega
  rw [List.take_length]
  refine W_seq ?_
  ((refine W_seqV ?_);intro K hK;(refine sUf ?_))
  (refine hK _ ?_;clear hK K)
  (refine W_cf rfl ?_)
  refine W_exit ?_
  simp only [thenW,blockW,if_true]
  (repeat' (first | (refine W_seqV fun K hK => ?_;(try (refine sUf ?_));refine hK _ ?_;clear hK K) | (refine W_ret ?_;(refine qG ?_))))
  (try (refine sUfV ?_;try exact True.intro))
theorem sUg {G G' : Prop} (h : G') (e : G = G' := by conv => lhs;simp (disch := omega) only [rowsOf,cNat,cN,St.ret,St.seth,Eff.app,Eff.wi,sepL,guardOf,St.known,objOf,List.set,sliceW,litW,copyW,lenOf,bnd,mxOk,ofCells,TI.isAgg,cellsOf,storable,AV.one,dead,laid,overlay,reduceCtorEq,Int.reduceLE,Int.reduceLT,Int.reduceSub,Int.reduceAdd,Nat.reduceMul,Int.reduceToNat,Nat.reducePow,Int.reduceNeg,Nat.reduceAdd,Nat.reduceLT,Nat.reduceLeDiff,sA,sB,Nat.reduceEqDiff,beq_self_eq_true,Int.reduceBEq,Int.reduceBNe,cQ,rowQ,rowU,rowT,rowM,i64s_getD,i64s_length,i64s_all,tab_length,tab_drop,tab_take,tab_append,tab_nil,rowT_all,rowT_one,rowT_pure,rowU_all,rowU_one,rowU_pure,rowQ_all,rowQ_one,rowQ_pure,rowM_all,rowM_one,rowM_pure,List.take_length,List.length_append,sT]) : G := e.mpr h
theorem sUgV {G G' : Prop} (h : G') (e : G = G' := by conv => lhs;simp (disch := omega) only [rowsOf,cNat,cN,St.ret,St.seth,Eff.app,Eff.wi,sepL,guardOf,St.known,objOf,List.set,sliceW,litW,copyW,lenOf,bnd,mxOk,ofCells,TI.isAgg,cellsOf,storable,AV.one,dead,laid,overlay,reduceCtorEq,Int.reduceLE,Int.reduceLT,Int.reduceSub,Int.reduceAdd,Nat.reduceMul,Int.reduceToNat,Nat.reducePow,Int.reduceNeg,Nat.reduceAdd,Nat.reduceLT,Nat.reduceLeDiff,sA,sB,Nat.reduceEqDiff,beq_self_eq_true,Int.reduceBEq,Int.reduceBNe,cQ,rowQ,rowU,rowT,rowM,i64s_getD,i64s_length,i64s_all,tab_length,tab_drop,tab_take,tab_append,tab_nil,rowT_all,rowT_one,rowT_pure,rowU_all,rowU_one,rowU_pure,rowQ_all,rowQ_one,rowQ_pure,rowM_all,rowM_one,rowM_pure,List.take_length,List.length_append,sT,view_sref,viewRef,view_agg,views_cons,views_nil,view_bool,view_int,view_sl,view_nils,view_str,view_tup,view_nilif]) : G := e.mpr h
theorem aUg {G G' : Prop} (h : G') (f : Wr G' → G := by intro h;(repeat (first|(refine W_seqV fun K hK => ?_;(try (refine sUg ?_;try exact True.intro));(repeat refine aI ?_);refine hK _ ?_;clear hK K)|(refine W_seqR fun K hK => ?_;(try (refine sUg ?_;try exact True.intro));(repeat refine aI ?_);refine hK _ ?_;clear hK K)|(refine W_seqD mixed [] (by kernel_rfl) fun K hK => ?_;(try (refine sUg ?_;try exact True.intro));(repeat refine aI ?_);refine hK _ ?_;clear hK K)));exact h.out) : G := f ⟨h⟩
theorem lmono_ok (v c : Int) (h1 : -9223372036854775808 ≤ c) (h2 : c < 9223372036854775808) : Pure Tryz.prog 69 [.int .i64 v,.int .i64 c] (· = .agg (rowQ (v,(c : Rat)))) := by
 have a := f3whole_ok c h1 h2
 simp only [rowQ,cQ] at *
 (refine pureW Tryz.func69 rfl (rs := [Go.ResultVar.cell 4 55]) rfl (n := 9) rfl ?_;simp only [List.length_cons,List.length_nil,List.replicate,List.cons_append,List.nil_append])
 (refine aUg ?_)
 ((refine W_seqV ?_);intro K hK;(refine sUg ?_))
 (refine ⟨by kernel_rfl,_,.pure rfl (a),?_⟩;(try (refine sUg ?_)))
 (refine hK _ ?_;clear hK K)
 refine W_ret ?_
 (refine qG ?_;try exact True.intro);try (refine sUgV ?_;try exact True.intro)
theorem norm01 : normF [(1,(1 : Rat)),(0,1)] = [(0,1),(1,1)] := by
 refine NF.ext (NF.norm _) (NF.cons (NF.cons NF.nil (by decide) (by simp)) (by decide) (by simp)) fun v => ?_
 rw [coef_norm]
 simp only [coef]
 grind
theorem expr_nil (f : List (Int × Rat)) : exprT [] f = normF f := by
 unfold exprT exprP
 have : ∀ (l : List Int) (h : List (Int × Rat)),l.foldl (fun h v => match lookM [] v with | some g => putF h v g | none => h) h = h := by
  intro l
  induction l with
  | nil => intro h;rfl
  | cons x l ih => intro h;rw [List.foldl_cons];exact ih h
 exact this _ _
theorem lives_ok : Pure Tryz.prog 24 [] (· = .bool true) := by
 have a1 := tnew_ok 2
 have e1 : newR 2 = .tup [.agg [.int .i64 2,.sl []],.int .i64 0] := rfl
 rw [e1] at a1
 have m11 := lmono_ok 1 1 (by omega) (by omega)
 have m01 := lmono_ok 0 1 (by omega) (by omega)
 have h1e : ((1 : Int) : Rat) = 1 := rfl
 rw [h1e] at m11 m01
 have hfo : FormOk (rf [(1,(1 : Rat)),(0,1)]) := by
  refine ⟨fun p hp => ?_,?_⟩
  ·obtain ⟨q,hq,rfl⟩ := List.mem_map.1 hp
   refine qr_ok ?_
   simp only [List.mem_cons,List.mem_nil_iff,or_false] at hq
   rcases hq with rfl | rfl <;> simp only [nb_one] <;> omega
  ·rw [vals_rf]
   simp only [nbs,nb_one]
   omega
 have hto : TOk [] := ⟨by simp,by simp [tb]⟩
 have a2 := tdefine_ok 2 [] (rf [(1,(1 : Rat)),(0,1)]) hto hfo
 have hg : goodB 2 [] = true := by decide
 have hn : nrmT [] = [] := rfl
 have e2 : defV 2 [] (rf [(1,(1 : Rat)),(0,1)]) = .tup [cU 3 [(2,[(0,1),(1,1)])],.int .i64 2,.int .i64 0] := by
  unfold defV
  rw [hn,hg,vals_rf,expr_nil,norm01]
  have hk : knownB 2 [(0,(1 : Rat)),(1,1)] = true := by simp [knownB,inR]
  rw [hk]
  simp only [if_true]
  rw [if_neg (by omega),sortM_snoc (by simp [keys]) (by simp [keys]),show sortM [] = [] by simp [sortM,sortK,keys]]
  rfl
 rw [e2] at a2
 have hts : TS (rfT [(2,[(0,(1 : Rat)),(1,1)])]) := by
  refine MOk.ts (B := 100) ⟨fun r hr => ?_,fun r hr => ?_,by simp⟩ (by omega)
  ·simp at hr;subst hr
   exact NF.cons (NF.cons NF.nil (by decide) (by simp)) (by decide) (by simp)
  ·simp at hr;subst hr
   refine (Sz.of _).mono ?_
   simp only [nbs,nb_one]
   omega
 have a3 := lalike_ok 3 _ hts
 rw [cU_rf] at a3
 have ht0 : tab rowT [] = [] := rfl
 have ht1 : tab rowM (rf [(1,(1 : Rat)),(0,1)]) = [rowQ (1,1),rowQ (0,1)] := by rw [tab_rf];rfl
 have ht2 : tab rowU [(2,[(0,(1 : Rat)),(1,1)])] = [[.int .i64 2,.sl [rowQ (0,1),rowQ (1,1)]]] := rfl
 have q1 : rowQ (1,(1 : Rat)) = [.int .i64 1,.bool (decide ((1 : Rat).num < 0)),.sl (u32s (limbs (1 : Rat).num.natAbs)),.sl (u32s (limbs (1 : Rat).den))] := rfl
 have q0 : rowQ (0,(1 : Rat)) = [.int .i64 0,.bool (decide ((1 : Rat).num < 0)),.sl (u32s (limbs (1 : Rat).num.natAbs)),.sl (u32s (limbs (1 : Rat).den))] := rfl
 simp only [cT,cU,cF,ht0,ht1,ht2] at a2 a3
 rw [q1,q0] at a2 a3
 rw [q1] at m11
 rw [q0] at m01
 clear e1 e2 hfo hto hg hn hts ht0 ht1 ht2 q1 q0 h1e
 generalize (1 : Rat) = one at *
 (refine pureW Tryz.func24 rfl (rs := [Go.ResultVar.tmp 0]) rfl (n := 35) rfl ?_;simp only [List.length_cons,List.length_nil,List.replicate,List.cons_append,List.nil_append])
 (refine aUg ?_)
 ((refine W_seqV ?_);intro K hK;(refine sUg ?_))
 (refine ⟨by kernel_rfl,_,.pure rfl (a1),?_⟩;(try (refine sUg ?_)))
 (refine hK _ ?_;clear hK K)
 (repeat' (first | (exfalso;simp at h;done) | (refine W_seqV fun K hK => ?_;(try (refine sUg ?_));refine hK _ ?_;clear hK K) | refine W_skip ?_ | (refine W_cond rfl (fun h => ?_) (fun h => ?_) <;> (try simp only [cond_true,cond_false,ne_eq,cB] at h)) | refine W_seq ?_))
 ((refine W_regD mixed [] (by kernel_rfl) ?_);intro K hK;(refine sUg ?_))
 (refine ⟨by kernel_rfl,_,.pure rfl (m11),?_⟩;(try (refine sUg ?_)))
 (refine ⟨by kernel_rfl,_,.pure rfl (m01),?_⟩;(try (refine sUg ?_));(repeat refine aI ?_))
 (refine ⟨by kernel_rfl,_,.pure rfl (a2),?_⟩;(try (refine sUg ?_)))
 (refine hK _ ?_;clear hK K)
 ((refine W_seqD mixed [] (by kernel_rfl) ?_);intro K hK;(refine sUg ?_))
 (refine ⟨by kernel_rfl,_,.pure rfl (m01),?_⟩;(try (refine sUg ?_)))
 (refine ⟨by kernel_rfl,_,.pure rfl (m11),?_⟩;(try (refine sUg ?_));(repeat refine aI ?_))
 (refine ⟨by kernel_rfl,_,.pure rfl (a3),?_⟩;(try (refine sUg ?_)))
 (refine hK _ ?_;clear hK K)
 (repeat' (refine W_ret ?_;(refine qG ?_;try exact True.intro)))
theorem MOk.expr {t : TR} (hT : TOk t) {n : Int} (hg : goodB n (nrmT t) = true) {f : List (Int × RR)} (hf : FormOk f) (hk : knownB n (normF (vals f)) = true) : NF (exprT (nrmT t) (vals f)) ∧ Sz (exprT (nrmT t) (vals f)) 536870912 := by
 have hp := exprP_pre (gt_iff.1 hg) hk (keys (normF (vals f))).length
 rw [List.take_length] at hp
 have := hf.sz
 have := hT.tb
 exact ⟨hp.1,hp.2.mono (by omega)⟩
theorem FormOk.len {f : List (Int × RR)} (h : FormOk f) : f.length ≤ 68157440 := by have := nbs_len (vals f);have := h.sz;rw [vals_length] at *;omega
end Go.Proofs.YtjmpajgjaefcjaaGreat.Vm
namespace Go.Proofs.YtjmpajgjaefcjaaGreat.Vm
open Go Go.RowKit
set_option maxRecDepth 100000
set_option linter.unusedVariables false
set_option linter.unusedSimpArgs false
end Go.Proofs.YtjmpajgjaefcjaaGreat.Vm
namespace Go.Proofs.YtjmpajgjaefcjaaGreat.Vm
open Go Go.RowKit
set_option maxRecDepth 100000
set_option linter.unusedVariables false
set_option linter.unusedSimpArgs false
theorem sVq {G G' : Prop} (h : G') (e : G = G' := by conv => lhs;simp (disch := omega) only [rowsOf,cNat,cN,St.ret,St.seth,Eff.app,Eff.wi,sepL,guardOf,St.known,objOf,List.set,sliceW,litW,copyW,lenOf,bnd,mxOk,ofCells,TI.isAgg,cellsOf,storable,AV.one,dead,laid,overlay,reduceCtorEq,Int.reduceLE,Int.reduceLT,Int.reduceSub,Int.reduceAdd,Nat.reduceMul,Int.reduceToNat,Nat.reducePow,Int.reduceNeg,Nat.reduceAdd,Nat.reduceLT,Nat.reduceLeDiff,sA,sB,Nat.reduceEqDiff,beq_self_eq_true,Int.reduceBEq,Int.reduceBNe,cellsX_all,cellsX_one,cellsX_pure,cQ,rowU,rowT,rowM,tab_length,List.take_length,tab_drop,tab_take,tab_append,tab_nil,List.length_append,rowD_all,rowD_one,rowD_pure,rowT_all,rowT_one,rowT_pure,rowU_all,rowU_one,rowU_pure,rowQ_all,rowQ_one,rowQ_pure,rowM_all,rowM_one,rowM_pure,sT]) : G := e.mpr h
theorem sVqX {G G' P : Prop} (p : P) (h : G') (e : P → G = G' := by intro p;conv => lhs;simp (disch := omega) only [rowsOf,cNat,cN,St.ret,St.seth,Eff.app,Eff.wi,sepL,guardOf,St.known,objOf,List.set,sliceW,litW,copyW,lenOf,bnd,mxOk,ofCells,TI.isAgg,cellsOf,storable,AV.one,dead,laid,overlay,reduceCtorEq,Int.reduceLE,Int.reduceLT,Int.reduceSub,Int.reduceAdd,Nat.reduceMul,Int.reduceToNat,Nat.reducePow,Int.reduceNeg,Nat.reduceAdd,Nat.reduceLT,Nat.reduceLeDiff,sA,sB,Nat.reduceEqDiff,beq_self_eq_true,Int.reduceBEq,Int.reduceBNe,cellsX_all,cellsX_one,cellsX_pure,cQ,rowU,rowT,rowM,tab_length,List.take_length,tab_drop,tab_take,tab_append,tab_nil,List.length_append,rowD_all,rowD_one,rowD_pure,rowT_all,rowT_one,rowT_pure,rowU_all,rowU_one,rowU_pure,rowQ_all,rowQ_one,rowQ_pure,rowM_all,rowM_one,rowM_pure,sT,p]) : G := (e p).mpr h
theorem sVqV {G G' : Prop} (h : G') (e : G = G' := by conv => lhs;simp (disch := omega) only [rowsOf,cNat,cN,St.ret,St.seth,Eff.app,Eff.wi,sepL,guardOf,St.known,objOf,List.set,sliceW,litW,copyW,lenOf,bnd,mxOk,ofCells,TI.isAgg,cellsOf,storable,AV.one,dead,laid,overlay,reduceCtorEq,Int.reduceLE,Int.reduceLT,Int.reduceSub,Int.reduceAdd,Nat.reduceMul,Int.reduceToNat,Nat.reducePow,Int.reduceNeg,Nat.reduceAdd,Nat.reduceLT,Nat.reduceLeDiff,sA,sB,Nat.reduceEqDiff,beq_self_eq_true,Int.reduceBEq,Int.reduceBNe,cellsX_all,cellsX_one,cellsX_pure,cQ,rowU,rowT,rowM,tab_length,List.take_length,tab_drop,tab_take,tab_append,tab_nil,List.length_append,rowD_all,rowD_one,rowD_pure,rowT_all,rowT_one,rowT_pure,rowU_all,rowU_one,rowU_pure,rowQ_all,rowQ_one,rowQ_pure,rowM_all,rowM_one,rowM_pure,sT,view_sref,viewRef,view_agg,views_cons,views_nil,view_bool,view_int,view_sl,view_nils,view_str,view_tup,view_nilif]) : G := e.mpr h
theorem aVq {G G' : Prop} (h : G') (f : Wr G' → G := by intro h;(repeat (first|(refine W_seqV fun K hK => ?_;(try (refine sVq ?_;try exact True.intro));(repeat refine aI ?_);refine hK _ ?_;clear hK K)|(refine W_seqR fun K hK => ?_;(try (refine sVq ?_;try exact True.intro));(repeat refine aI ?_);refine hK _ ?_;clear hK K)|(refine W_seqD mixed [] (by kernel_rfl) fun K hK => ?_;(try (refine sVq ?_;try exact True.intro));(repeat refine aI ?_);refine hK _ ?_;clear hK K)));exact h.out) : G := f ⟨h⟩
theorem keptD_ok {M : TM} {ds : List DD} (hg : GT (ds.length : Int) M) (hd : DsOk ds) (hM : tb M ≤ 68157440) (v : Int) : (valD (keptD M ds) v).ok ∧ nb2 (valD (keptD M ds) v).v ≤ 135266307 := by
 have h1 := kept_nb hg hd hM Prod.fst (.inl rfl) v
 have h2 := kept_nb hg hd hM Prod.snd (.inr rfl) v
 unfold asgP at h1 h2
 rw [asg_val (fun d => Prod.fst d.v) zeroR_v] at h1
 rw [asg_val (fun d => Prod.snd d.v) zeroR_v] at h2
 refine ⟨?_,nb2_le h1 h2⟩
 unfold valD at h1 h2 ⊢
 by_cases hv : 0 ≤ v ∧ v < ((keptD M ds).length : Int)
 ·rw [if_pos hv] at h1 h2 ⊢
  have h3 : v.toNat < (keptD M ds).length := by omega
  have h4 : ∃ x,(keptD M ds).getD v.toNat default = dq x := by
   rw [keptD_len] at h3
   exact ⟨_,kept_getD M ds h3⟩
  obtain ⟨x,hx⟩ := h4
  rw [hx,dq_v] at h1 h2
  rw [hx]
  exact dq_ok (Nat.lt_of_le_of_lt (nb2_le h1 h2) (by omega))
 ·rw [if_neg hv]
  exact ⟨zeroR_ok,zeroR_ok⟩
theorem dsg_self (x : Rat × Rat) : dsg (dsub x x) = 0 := by
 have h : dsub x x = (0,0) := by simp [dsub];constructor <;> grind
 rw [h];simp [dsg];decide
theorem says_core {M : TM} {ds : List DD} (hg : GT (ds.length : Int) M) (hd : DsOk ds) (hM : tb M ≤ 68157440) {f : List (Int × RR)} (hf : FormOk f) (hs : nbs (vals f) ≤ 68157440) (hk : knownB (ds.length : Int) (normF (vals f)) = true) :
  ∃ x,Pure Tryz.prog 37 [cL (exprT M (vals f)),.sl (tab cellsX (extL M ds))] (· = cD x) ∧ Pure Tryz.prog 37 [cF f,.sl (tab cellsX (extL M ds))] (· = cD x) ∧ Pure Tryz.prog 36 [cD x,cD x] (· = .int .i64 0) := by
 have hv := fun v => keptD_ok hg hd hM v
 have hvo : ∀ v,(valD (keptD M ds) v).ok ∧ nb2 (valD (keptD M ds) v).v ≤ 4294967296 := fun v => ⟨(hv v).1,Nat.le_trans (hv v).2 (by omega)⟩
 have hpre : ∀ i,nbs ((vals f).take i) ≤ 68157440 := fun i => Nat.le_trans (nbs_pre _ i) hs
 have hn1 : ∀ i,nb2 (evd (keptD M ds) ((vals f).take i)) ≤ 203423748 := fun i => nb2_le (by rw [evd_fst];exact kept_nbf hg hd hM _ (.inl rfl) (hpre i)) (by rw [evd_snd];exact kept_nbf hg hd hM _ (.inr rfl) (hpre i))
 have hn2 : ∀ i,nb2 (evd (keptD M ds) ((exprT M (vals f)).take i)) ≤ 271581210 := fun i => nb2_le (by rw [evd_fst];exact kept_nbg hg hd hM _ (.inl rfl) hs hk i) (by rw [evd_snd];exact kept_nbg hg hd hM _ (.inr rfl) hs hk i)
 have b1 := deltas_gen (keptD M ds) (exprT M (vals f)) (fun i => Nat.le_trans (hn2 i) (by omega)) hvo (by have := exprT_len hg hk;omega) (fun p hp => by have := nbs_exprT hg hM hs hk p hp;omega)
 have b2 := deltasM_gen (keptD M ds) f (fun i => Nat.le_trans (hn1 i) (by omega)) hvo hf.ok (nbs_each (by omega)).1 (nbs_eachM (by omega))
 rw [kept_expr hg] at b1
 have hx := hn1 (vals f).length
 rw [List.take_length] at hx
 generalize evd (keptD M ds) (vals f) = x at *
 have b3 := f5cmp_ok (dq x) (dq x) (dq_ok (by omega)) (dq_ok (by omega)) (by rw [dq_v];have := nb2_sub x x;omega)
 rw [dq_v,dq_av,dsg_self] at b3
 rw [show tab rowD (keptD M ds) = tab cellsX (extL M ds) from (tab_kept _).symm] at b1 b2
 exact ⟨x,b1,b2,b3⟩
theorem says_bad (n : Int) (t : TR) (f : List (Int × RR)) (ds : List DD) (h : ¬((goodB n (nrmT t) = true ∧ knownB n (normF (vals f)) = true) ∧ (ds.length : Int) = n)) :
  (exprV n t f = .tup [.sl [],.int .i64 70] ∧ extV n t ds = .tup [.sl [],.int .i64 70]) ∨ (exprV n t f = .tup [.sl [],.int .i64 61] ∧ ((∃ l,extV n t ds = .tup [.sl l,.int .i64 0]) ∨ extV n t ds = .tup [.sl [],.int .i64 1])) ∨
   ((∃ g,exprV n t f = .tup [.sl (tab rowQ g),.int .i64 0] ∧ g.length ≤ 65536) ∧ extV n t ds = .tup [.sl [],.int .i64 1]) := by
 unfold exprV extV
 by_cases hg : goodB n (nrmT t) = true
 ·rw [if_pos hg,if_pos hg]
  by_cases hk : knownB n (normF (vals f)) = true
  ·rw [if_pos hk,if_neg fun h' => h ⟨⟨hg,hk⟩,h'⟩]
   exact .inr (.inr ⟨⟨_,rfl,exprT_len (gt_iff.1 hg) hk⟩,rfl⟩)
  ·rw [if_neg hk]
   refine .inr (.inl ⟨rfl,?_⟩)
   split
   ·exact .inl ⟨_,rfl⟩
   ·exact .inr rfl
 ·rw [if_neg hg,if_neg hg]
  exact .inl ⟨rfl,rfl⟩
theorem says_law (n : Int) (t : TR) (f : List (Int × RR)) (ds : List DD) (hT : TOk t) (hf : FormOk f) (hs : nbs (vals f) ≤ 68157440) (hd : DsOk ds) (hl : ds.length < 1099511627776) : Pure Tryz.prog 6 [cT n t,cF f,.sl (tab rowD ds)] (· = .bool true) := by
 have a1 := ltwin_ok n t hT.ts
 have a2 := mform_ok f hf.ok (by have := nbs_len (vals f);rw [vals_length] at this;omega)
 have hli := lives_ok
 have b1 := texpress_ok n t f hT hf
 have b2 := r7ext_ok n t ds hT hd hl
 by_cases hall : (goodB n (nrmT t) = true ∧ knownB n (normF (vals f)) = true) ∧ (ds.length : Int) = n
 ·obtain ⟨⟨hg,hk⟩,hn⟩ := hall
  subst hn
  have hgt := gt_iff.1 hg
  obtain ⟨x,c1,c2,c3⟩ := says_core hgt hd hT.tb hf hs hk
  have hrow : ∀ i,i < (exprT (nrmT t) (vals f)).length → Pure Tryz.prog 35 [cT (ds.length : Int) t,.int .i64 ((exprT (nrmT t) (vals f)).getD i default).1] (· = .tup [.sl [],.int .i64 71]) := fun i hi => by
   have h1 := trow_ok (ds.length : Int) t ((exprT (nrmT t) (vals f)).getD i default).1 hT
   have h2 := exprT_range hgt hk _ (getD_mem hi)
   unfold rowV at h1
   rw [if_pos hg,if_neg (by omega),look_none h2.2] at h1
   exact h1
  unfold exprV at b1
  rw [if_pos hg,if_pos hk] at b1
  unfold extV at b2
  rw [if_pos hg,if_pos rfl] at b2
  have hel := exprT_len hgt hk
  generalize exprT (nrmT t) (vals f) = e at *
  generalize extL (nrmT t) ds = l at *
  simp only [cT,cF,cL,cD] at *
  (refine pureW Tryz.func6 rfl (rs := [Go.ResultVar.tmp 6]) rfl (n := 70) rfl ?_;simp only [List.length_cons,List.length_nil,List.replicate,List.cons_append,List.nil_append])
  (refine aVq ?_)
  ((refine W_seqV ?_);intro K hK;(refine sVq ?_))
  (refine ⟨by kernel_rfl,_,.pure rfl (a1),?_⟩;(try (refine sVq ?_)))
  (refine ⟨by kernel_rfl,_,.pure rfl (a2),?_⟩;(try (refine sVq ?_)))
  (refine ⟨by kernel_rfl,_,.pure rfl (b1),?_⟩;(try (refine sVq ?_)))
  (refine hK _ ?_;clear hK K)
  ((refine W_seq (W_seqV ?_));intro K hK;(refine sVq ?_))
  (refine ⟨by kernel_rfl,_,.pure rfl (hli),?_⟩;(try (refine sVq ?_)))
  (refine hK _ ?_;clear hK K)
  (refine W_cf rfl ?_)
  refine W_skip ?_
  simp only [thenW]
  ((refine W_seqV ?_);intro K hK;(refine sVq ?_))
  (refine ⟨by kernel_rfl,_,.pure rfl (b2),?_⟩;(try (refine sVq ?_)))
  (refine hK _ ?_;clear hK K)
  ((refine W_seq (W_seqV ?_));intro K hK;(refine sVq ?_))
  (refine hK _ ?_;clear hK K)
  (refine W_cf rfl ?_)
  refine W_skip ?_
  simp only [thenW]
  refine W_seq ?_
  ((refine W_seqV ?_);intro K hK;(refine sVq ?_))
  (refine hK _ ?_;clear hK K)
  refine W_block (W_loop (fun s : {i : Nat // i ≤ e.length} =>
   ⟨(.any::(.sl (tab rowM f))::.any::(.ptr 3 0 0)::.any::.any::.any::(.sl (tab rowQ e))::.any::(.sl (tab cellsX l))::.any::(.int .i64 s.1)::.any::.any::.any::.any::.any::.any::.any::.any::.any::.any::.any::.any::.any::.any::.any::.any::.any::.any::.any::.any::.any::.any::.any::.any::.any::.any::.any::.any::.any::.any::.any::.any::.any::.any::.any::.any::.any::.any::.any::.any::.any::.any::.any::.any::.any::.any::.any::.any::.any::.any::.any::.any::.any::.any::.any::.any::.any::.any::[]),(.dead::.dead::.dead::(.arr 24 2 false [[.int .i64 (ds.length : Int),.sl (tab rowT t)]])::.dead::.dead::.dead::.dead::.dead::.dead::.dead::.dead::.dead::.dead::.dead::.dead::.dead::.dead::.dead::.dead::.dead::.dead::.dead::.dead::.dead::.dead::.dead::.dead::.dead::.dead::.dead::.dead::.dead::.dead::.dead::.dead::.dead::.dead::.dead::.dead::.dead::.dead::.dead::.dead::.dead::.dead::.dead::.dead::.dead::.dead::.dead::.dead::.dead::.dead::.dead::.dead::.dead::.dead::.dead::.dead::.dead::.dead::.dead::.dead::.dead::.dead::.dead::.dead::.dead::.dead::[])⟩) (fun s => e.length - s.1)
   ⟨0,by omega⟩ (Le_drop (by simp [leE]) (by simp [leH]) rfl rfl) fun s => ?_)
  obtain ⟨i,hi⟩ := s
  dsimp only
  by_cases hlt : i < e.length
  ·have hXi : (tab rowQ e).getD i [] = rowQ (e.getD i default) := tab_getD hlt
   have hr := hrow i hlt
   generalize e.getD i default = m at *
   obtain ⟨v,c⟩ := m
   simp only [rowQ] at hXi
   dsimp only at hr
   refine W_seq ?_
   ((refine W_seqV ?_);intro K hK;(refine sVqX hlt ?_))
   (refine hK _ ?_;clear hK K)
   (refine W_ct rfl ?_)
   refine W_skip ?_
   simp only [thenW]
   refine W_seq ?_
   refine W_block ?_
   ((refine W_seqD mixed [] (by kernel_rfl) ?_);intro K hK;(refine sVqX (And.intro hlt hXi) ?_))
   (refine ⟨by kernel_rfl,_,.pure rfl (a1),?_⟩;(try (refine sVq ?_)))
   (refine ⟨by kernel_rfl,_,.pure rfl (hr),?_⟩;(try (refine sVq ?_)))
   (refine hK _ ?_;clear hK K)
   ((refine W_seqV ?_);intro K hK;(refine sVq ?_))
   (refine hK _ ?_;clear hK K)
   (refine W_cf rfl ?_)
   refine W_skip ?_
   simp only [blockW,thenW]
   ((refine W_regV ?_);intro K hK;(refine sVq ?_))
   (refine hK _ ?_;clear hK K)
   simp only [blockW,thenW]
   refine ⟨⟨i + 1,by omega⟩,Le_drop (by simp [leE]) (by simp [leH]) rfl rfl,?_⟩
   dsimp only
   omega
  ·obtain rfl : i = e.length := by omega
   refine W_seq ?_
   ((refine W_seqV ?_);intro K hK;(refine sVq ?_))
   (refine hK _ ?_;clear hK K)
   (refine W_cf rfl ?_)
   refine W_exit ?_
   simp only [thenW,blockW,if_true]
   ((refine W_seqV ?_);intro K hK;(refine sVq ?_))
   (refine ⟨by kernel_rfl,_,.pure rfl (c1),?_⟩;(try (refine sVq ?_)))
   (refine ⟨by kernel_rfl,_,.pure rfl (c2),?_⟩;(try (refine sVq ?_)))
   (refine ⟨by kernel_rfl,_,.pure rfl (c3),?_⟩;(try (refine sVq ?_)))
   (refine hK _ ?_;clear hK K)
   refine W_ret ?_
   (refine qG ?_;try exact True.intro);try (refine sVqV ?_;try exact True.intro)
 ·rcases says_bad n t f ds hall with ⟨h1,h2⟩ | ⟨h1,⟨l,h2⟩ | h2⟩ | ⟨⟨g,h1,hgl⟩,h2⟩
  rotate_right
  by_cases hz0 : g.length = 0
  ·obtain rfl : g = [] := List.length_eq_zero_iff.1 hz0
   rw [h1] at b1
   rw [h2] at b2
   simp only [cT,cF] at *
   (refine pureW Tryz.func6 rfl (rs := [Go.ResultVar.tmp 6]) rfl (n := 70) rfl ?_;simp only [List.length_cons,List.length_nil,List.replicate,List.cons_append,List.nil_append])
   (refine aVq ?_)
   ((refine W_seqV ?_);intro K hK;(refine sVq ?_))
   (refine ⟨by kernel_rfl,_,.pure rfl (a1),?_⟩;(try (refine sVq ?_)))
   (refine ⟨by kernel_rfl,_,.pure rfl (a2),?_⟩;(try (refine sVq ?_)))
   (refine ⟨by kernel_rfl,_,.pure rfl (b1),?_⟩;(try (refine sVq ?_)))
   (refine hK _ ?_;clear hK K)
   ((refine W_seq (W_seqV ?_));intro K hK;(refine sVq ?_))
   (refine ⟨by kernel_rfl,_,.pure rfl (hli),?_⟩;(try (refine sVq ?_)))
   (refine hK _ ?_;clear hK K)
   (refine W_cf rfl ?_)
   refine W_skip ?_
   simp only [thenW]
   ((refine W_seqV ?_);intro K hK;(refine sVq ?_))
   (refine ⟨by kernel_rfl,_,.pure rfl (b2),?_⟩;(try (refine sVq ?_)))
   (refine hK _ ?_;clear hK K)
   ((refine W_seq (W_seqV ?_));intro K hK;(refine sVq ?_))
   (refine hK _ ?_;clear hK K)
   (repeat' (first | (exfalso;simp at h;done) | (refine W_seqV fun K hK => ?_;(try (refine sVq ?_));refine hK _ ?_;clear hK K) | (refine W_ret ?_;(refine qG ?_;try exact True.intro)) | (refine W_cond rfl (fun h => ?_) (fun h => ?_) <;> (try simp only [cond_true,cond_false,ne_eq,cB] at h))))
  have hz : ((g.length : Int) == 0) = false := beq_eq_false_iff_ne.2 (by omega)
  ·rw [h1] at b1
   rw [h2] at b2
   simp only [cT,cF] at *
   (refine pureW Tryz.func6 rfl (rs := [Go.ResultVar.tmp 6]) rfl (n := 70) rfl ?_;simp only [List.length_cons,List.length_nil,List.replicate,List.cons_append,List.nil_append])
   (refine aVq ?_)
   ((refine W_seqV ?_);intro K hK;(refine sVq ?_))
   (refine ⟨by kernel_rfl,_,.pure rfl (a1),?_⟩;(try (refine sVq ?_)))
   (refine ⟨by kernel_rfl,_,.pure rfl (a2),?_⟩;(try (refine sVq ?_)))
   (refine ⟨by kernel_rfl,_,.pure rfl (b1),?_⟩;(try (refine sVq ?_)))
   (refine hK _ ?_;clear hK K)
   ((refine W_seq (W_seqV ?_));intro K hK;(refine sVq ?_))
   (refine ⟨by kernel_rfl,_,.pure rfl (hli),?_⟩;(try (refine sVq ?_)))
   (refine hK _ ?_;clear hK K)
   (refine W_cf rfl ?_)
   refine W_skip ?_
   simp only [thenW]
   ((refine W_seqV ?_);intro K hK;(refine sVq ?_))
   (refine ⟨by kernel_rfl,_,.pure rfl (b2),?_⟩;(try (refine sVq ?_)))
   (refine hK _ ?_;clear hK K)
   ((refine W_seq (W_seqV ?_));intro K hK;(refine sVq ?_))
   (refine hK _ ?_;clear hK K)
   (refine W_ct rfl ?_)
   ((refine W_seqV ?_);intro K hK;(refine sVqX hz ?_))
   (refine hK _ ?_;clear hK K)
   (repeat' (refine W_ret ?_;(refine qG ?_;try exact True.intro)))
  all_goals
   rw [h1] at b1
   rw [h2] at b2
   simp only [cT,cF] at *
   (refine pureW Tryz.func6 rfl (rs := [Go.ResultVar.tmp 6]) rfl (n := 70) rfl ?_;simp only [List.length_cons,List.length_nil,List.replicate,List.cons_append,List.nil_append])
   (refine aVq ?_)
   ((refine W_seqV ?_);intro K hK;(refine sVq ?_))
   (refine ⟨by kernel_rfl,_,.pure rfl (a1),?_⟩;(try (refine sVq ?_)))
   (refine ⟨by kernel_rfl,_,.pure rfl (a2),?_⟩;(try (refine sVq ?_)))
   (refine ⟨by kernel_rfl,_,.pure rfl (b1),?_⟩;(try (refine sVq ?_)))
   (refine hK _ ?_;clear hK K)
   ((refine W_seq (W_seqV ?_));intro K hK;(refine sVq ?_))
   (refine ⟨by kernel_rfl,_,.pure rfl (hli),?_⟩;(try (refine sVq ?_)))
   (refine hK _ ?_;clear hK K)
   (refine W_cf rfl ?_)
   refine W_skip ?_
   simp only [thenW]
   ((refine W_seqV ?_);intro K hK;(refine sVq ?_))
   (refine ⟨by kernel_rfl,_,.pure rfl (b2),?_⟩;(try (refine sVq ?_)))
   (refine hK _ ?_;clear hK K)
   ((refine W_seq (W_seqV ?_));intro K hK;(refine sVq ?_))
   (refine hK _ ?_;clear hK K)
   (repeat' (first | (exfalso;simp at h;done) | (refine W_seqV fun K hK => ?_;(try (refine sVq ?_));refine hK _ ?_;clear hK K) | (refine W_ret ?_;(refine qG ?_;try exact True.intro)) | (refine W_cond rfl (fun h => ?_) (fun h => ?_) <;> (try simp only [cond_true,cond_false,ne_eq,cB] at h))))
end Go.Proofs.YtjmpajgjaefcjaaGreat.Vm
namespace Go.Proofs.YtjmpajgjaefcjaaGreat.Vm
open Go Go.RowKit
set_option linter.unusedVariables false
set_option linter.unusedSimpArgs false
section
variable {H : Type} {encH : TypeId × Value → H} {P : Program} {w : World}
def Opens (encH : TypeId × Value → H) (P : Program) (w : World) (t : TypeId) {α : Type} (e : α → List AV) (good : α → Prop) (wt : α → Nat) : Prop :=
 ∀ (fuel : Nat) (cs : List Value) (x : DataW H × List MemPlace),DataW.trod encH P w 0 (fun _ => true) true fuel t cs = some x → ∃ a,Rps w (fun _ => False) noPl (e a) cs ∧ good a ∧ wt a ≤ Rows.uptoBulk x.1
theorem Opens.bool {t : TypeId} (ht : P.underlying t = some .bool) : Opens encH P w t (fun b : Bool => [.bool b]) (fun _ => True) (fun _ => 1) := by
 intro fuel cs x h
 obtain ⟨b,rfl,rfl⟩ := DataW.trod_bool ht h
 exact ⟨b,⟨_,_,rfl,rfl,rfl⟩,trivial,by simp [Rows.uptoBulk]⟩
theorem Opens.i64 {t : TypeId} (ht : P.underlying t = some (.int .i64)) : Opens encH P w t (fun n : Int => [.int .i64 n]) (fun n => -9223372036854775808 ≤ n ∧ n ≤ 9223372036854775807) (fun _ => 1) := by
 intro fuel cs x h
 obtain ⟨n,rfl,rfl,hw⟩ := DataW.trod_int ht h
 exact ⟨n,⟨_,_,rfl,rfl,rfl⟩,bounds_i64 hw,by simp [Rows.uptoBulk]⟩
theorem Opens.u32 {t : TypeId} (ht : P.underlying t = some (.int .u32)) : Opens encH P w t (fun n : Nat => [.int .u32 (n : Int)]) (fun n => n < 4294967296) (fun _ => 1) := by
 intro fuel cs x h
 obtain ⟨n,rfl,rfl,hw⟩ := DataW.trod_int ht h
 obtain ⟨h1,h2⟩ := bounds_u32 hw
 refine ⟨n.toNat,⟨_,_,rfl,?_,rfl⟩,by omega,by simp [Rows.uptoBulk]⟩
 show Value.int .u32 n = _
 rw [Int.toNat_of_nonneg h1]
theorem Opens.str {t : TypeId} (ht : P.underlying t = some .string) : Opens encH P w t (fun s : ByteArray => [.str s]) (fun _ => True) (fun s => s.size + 1) := by
 intro fuel cs x h
 obtain ⟨s,rfl,rfl,hs⟩ := DataW.trod_string ht h
 refine ⟨s,⟨_,_,rfl,rfl,rfl⟩,trivial,?_⟩
 simp only [Rows.uptoBulk]
 have : s.data.toList.length = s.size := by rw [Array.length_toList];rfl
 omega
theorem Opens.map {t : TypeId} {α β : Type} {e : α → List AV} {good : α → Prop} {wt : α → Nat} (h : Opens encH P w t e good wt) {e' : β → List AV} {good' : β → Prop} {wt' : β → Nat} (f : α → β)
  (he : ∀ a,e' (f a) = e a) (hg : ∀ a,good a → good' (f a)) (hw : ∀ a,wt' (f a) ≤ wt a) : Opens encH P w t e' good' wt' := by
 intro fuel cs x hx
 obtain ⟨a,h1,h2,h3⟩ := h fuel cs x hx
 exact ⟨f a,by rw [he];exact h1,hg a h2,Nat.le_trans (hw a) h3⟩
theorem Opens.two {t : TypeId} {f0 f1 : Field} (ht : P.underlying t = some (.struct #[f0,f1])) (o0 : f0.offset = 0) (o1 : f1.offset = P.cellsOf f0.type) (hl : P.cellsOf t = P.cellsOf f0.type + P.cellsOf f1.type)
  {α β : Type} {e0 : α → List AV} {g0 : α → Prop} {w0 : α → Nat} {e1 : β → List AV} {g1 : β → Prop} {w1 : β → Nat} (h0 : Opens encH P w f0.type e0 g0 w0) (h1 : Opens encH P w f1.type e1 g1 w1) :
  Opens encH P w t (fun p : α × β => e0 p.1 ++ e1 p.2) (fun p => g0 p.1 ∧ g1 p.2) (fun p => w0 p.1 + w1 p.2 + 1) := by
 intro fuel cs x h
 obtain ⟨xs,n,_,rfl,hlen,hxs,hf⟩ := DataW.trod_struct ht h
 match xs,hxs with
 | [y0,y1],_ =>
  obtain ⟨a,r0,q0,b0⟩ := h0 _ _ _ (hf 0 f0 rfl)
  obtain ⟨b,r1,q1,b1⟩ := h1 _ _ _ (hf 1 f1 rfl)
  refine ⟨(a,b),?_,⟨q0,q1⟩,?_⟩
  ·have := r0.append r1
   rw [o0,o1,List.drop_zero,List.take_of_length_le (l := cs.drop _) (by rw [List.length_drop];omega),List.take_append_drop] at this
   exact this
  ·simp only [List.map_cons,List.map_nil,Rows.uptoBulk,Rows.uptoBulkAll]
   omega
def sumW {α : Type} (wt : α → Nat) : List α → Nat
 | [] => 0
 | x::l => wt x + sumW wt l
theorem sumW_snoc {α : Type} (wt : α → Nat) (l : List α) (x : α) : sumW wt (l ++ [x]) = sumW wt l + wt x := by
 induction l with
 | nil => simp [sumW]
 | cons y l ih => simp only [List.cons_append,sumW,ih];omega
theorem bulk_append (l r : List (DataW H)) : Rows.uptoBulkAll (l ++ r) = Rows.uptoBulkAll l + Rows.uptoBulkAll r := by
 induction l with
 | nil => simp [Rows.uptoBulkAll]
 | cons x l ih => simp only [List.cons_append,Rows.uptoBulkAll,ih];omega
theorem Opens.slice {t e : TypeId} (ht : P.underlying t = some (.slice e)) (hpos : 0 < P.cellsOf e) {α : Type} {enc : α → List AV} {good : α → Prop} {wt : α → Nat} (he : Opens encH P w e enc good wt) :
  Opens encH P w t (fun l : List α => [.sl (tab enc l)]) (fun l => ∀ x ∈ l,good x) (fun l => sumW wt l + 1) := by
 intro fuel cs x h
 rcases DataW.trod_slice ht h with ⟨rfl,rfl⟩ | ⟨a,len,cap,elems,rest,n,_,rfl,rfl,hb,hlc,hcm,hlen,hel,_,_⟩
 ·exact ⟨[],⟨_,_,rfl,⟨none,0,rfl,Nat.le_refl _,by decide,.inl rfl⟩,rfl⟩,by simp,by simp [Rows.uptoBulk,sumW]⟩
 ·obtain ⟨b,o,spot⟩ := a
  have step : ∀ m,m ≤ len → ∃ (l : List α) (vss : List (List Value)),l.length = m ∧ vss.flatten.length = m * P.cellsOf e ∧ RpR w (fun _ => False) noPl (tab enc l) vss ∧ (∀ x ∈ l,good x) ∧ sumW wt l ≤ Rows.uptoBulkAll ((elems.take m).map (·.1)) ∧
    (0 < m → spot = none ∧ b < w.heap.size) ∧ CellsAt w b o vss.flatten := by
   intro m
   induction m with
   | zero => exact fun _ => ⟨[],[],rfl,by simp,rfl,by simp,by simp [sumW,Rows.uptoBulkAll],by omega,fun j u hj => by simp at hj⟩
   | succ m ih =>
    intro hm
    obtain ⟨l,vss,h1,h2,h3,h4,h5,h6,h7⟩ := ih (by omega)
    have hi := hel m (by omega)
    have hg : elems[m]? = some (elems[m]'(by omega)) := by simp
    rw [hg] at hi
    obtain ⟨cs',hc,hd⟩ := Option.bind_eq_some_iff.1 hi
    obtain ⟨_,hcl,hcell⟩ := World.cells?_some hc
    obtain ⟨y,hy1,hy2,hy3⟩ := he _ _ _ hd
    obtain ⟨c0,hc0⟩ : ∃ c0,cs'[0]? = some c0 := ⟨cs'[0]'(by omega),by simp⟩
    have g0 : w.cell? (((⟨b,o,spot⟩ : Addr).add (m * P.cellsOf e)).add 0) = some c0 := by rw [hcell 0 hpos,hc0]
    have hsp : spot = none ∧ b < w.heap.size := by
     have hs : spot = none := by
      cases m with
      | zero => have := World.cell?_spot g0;simpa [Addr.add] using this
      | succ m => exact (h6 (by omega)).1
     refine ⟨hs,?_⟩
     have : ((⟨b,o,spot⟩ : Addr).add (m * P.cellsOf e)).add 0 = ⟨b,o + m * P.cellsOf e,none⟩ := by rw [hs,WideShapes.add_plain,WideShapes.add_plain];rfl
     rw [this] at g0
     unfold World.cell? at g0
     split at g0
     ·rename_i heq
      exact (Array.getElem?_eq_some_iff.1 heq).1
     ·cases g0
    obtain ⟨hs,hbs⟩ := hsp
    subst hs
    refine ⟨l ++ [y],vss ++ [cs'],by simp [h1],?_,?_,?_,?_,fun _ => ⟨rfl,hbs⟩,?_⟩
    ·rw [List.flatten_append,List.length_append,h2,Nat.succ_mul]
     simp [hcl]
    ·rw [← tab_snoc]
     exact h3.append ⟨_,_,rfl,hy1,rfl⟩
    ·intro x hx
     rcases List.mem_append.1 hx with hx | hx
     ·exact h4 x hx
     ·rw [List.mem_singleton] at hx;subst hx;exact hy2
    ·rw [sumW_snoc,List.take_add_one,hg,List.map_append,bulk_append]
     simp only [Option.toList_some,List.map_cons,List.map_nil,Rows.uptoBulkAll]
     omega
    ·intro j u hj
     rw [List.flatten_append] at hj
     by_cases hjl : j < vss.flatten.length
     ·rw [List.getElem?_append_left hjl] at hj
      exact h7 j u hj
     ·rw [List.getElem?_append_right (by omega)] at hj
      simp only [List.flatten_cons,List.flatten_nil,List.append_nil] at hj
      have hlt : j - vss.flatten.length < cs'.length := (List.getElem?_eq_some_iff.1 hj).1
      have := hcell (j - vss.flatten.length) (by omega)
      rw [WideShapes.add_plain,WideShapes.add_plain,hj] at this
      rw [← this]
      congr 2
      omega
  obtain ⟨l,vss,h1,h2,h3,h4,h5,h6,h7⟩ := step len (Nat.le_refl _)
  have htl : (tab enc l).length = len := by rw [tab_length,h1]
  refine ⟨l,⟨_,_,rfl,⟨some ⟨b,o,spot⟩,cap,by rw [htl],by rw [htl];exact hlc,hcm,?_⟩,rfl⟩,h4,?_⟩
  ·by_cases h0 : 0 < len
   ·obtain ⟨rfl,hbs⟩ := h6 h0
    exact .inr ⟨b,o,vss,rfl,fun h => h,hbs,h7,h3⟩
   ·left
    have : l = [] := List.eq_nil_of_length_eq_zero (by omega)
    rw [this];rfl
  ·rw [List.take_of_length_le (by omega)] at h5
   simp only [Rows.uptoBulk]
   omega
end
section
variable {H : Type} {encH : TypeId × Value → H} {w : World}
theorem sumW_one (l : List Nat) : sumW (fun _ => 1) l = l.length := by
 induction l with
 | nil => rfl
 | cons x l ih => simp only [sumW,ih,List.length_cons];omega
theorem opens_nat : Opens encH Tryz.prog w 49 (fun l : List Nat => [.sl (u32s l)]) Limbs (fun l => l.length + 1) :=
 (Opens.slice Tryz.underlying49 (by show 0 < Tryz.prog.cellsOf 128;rw [show Tryz.prog.cellsOf 128 = 1 by kernel_rfl];decide) (Opens.u32 Tryz.underlying128)).map id (fun _ => rfl) (fun _ h => h) (fun l => by show l.length + 1 ≤ sumW (fun _ => 1) l + 1;rw [sumW_one];exact Nat.le_refl _)
theorem opens_int : Opens encH Tryz.prog w 51 (fun p : Bool × List Nat => [.bool p.1,.sl (u32s p.2)]) (fun p => Limbs p.2) (fun p => p.2.length + 3) :=
 (Opens.two Tryz.underlying51 rfl (by kernel_rfl) (by kernel_rfl) (Opens.bool Tryz.underlying4) opens_nat).map id (fun _ => rfl) (fun _ h => h.2) (fun l => by simp only [id];omega)
def RR.good (r : RR) : Prop := Limbs r.num ∧ Limbs r.den
def RR.wt (r : RR) : Nat := r.num.length + r.den.length + 5
theorem RR.bits_wt (r : RR) : r.bits ≤ 32 * r.wt := by unfold RR.bits RR.wt;omega
theorem opens_rat : Opens encH Tryz.prog w 53 rowR RR.good RR.wt :=
 (Opens.two Tryz.underlying53 rfl (by kernel_rfl) (by kernel_rfl) opens_int opens_nat).map (fun p => (⟨p.1.1,p.1.2,p.2⟩ : RR)) (fun _ => rfl) (fun _ h => h) (fun l => by simp only [RR.wt];omega)
def mono_wt (p : Int × RR) : Nat := p.2.wt + 2
theorem opens_mono : Opens encH Tryz.prog w 55 rowM (fun p : Int × RR => (-9223372036854775808 ≤ p.1 ∧ p.1 ≤ 9223372036854775807) ∧ p.2.good) mono_wt :=
 (Opens.two Tryz.underlying55 rfl (by kernel_rfl) (by kernel_rfl) (Opens.i64 Tryz.underlying3) opens_rat).map id (fun _ => rfl) (fun _ h => h) (fun l => by simp only [id,mono_wt];omega)
def form_good (f : List (Int × RR)) : Prop := ∀ p ∈ f,(-9223372036854775808 ≤ p.1 ∧ p.1 ≤ 9223372036854775807) ∧ p.2.good
def form_wt (f : List (Int × RR)) : Nat := sumW mono_wt f + 1
theorem opens_form : Opens encH Tryz.prog w 26 (fun f => [cF f]) form_good form_wt :=
 Opens.slice Tryz.underlying26 (by show 0 < Tryz.prog.cellsOf 55;rw [show Tryz.prog.cellsOf 55 = 4 by kernel_rfl];decide) opens_mono
def At.good (a : At) : Prop := form_good a.form ∧ a.bound.good
def At.wt (a : At) : Nat := a.name.size + form_wt a.form + a.bound.wt + 3
end
theorem RR.good.ok {r : RR} (h : r.good) (hb : r.wt ≤ 1048576) : r.ok := ⟨h.1,h.2,by unfold RR.wt at hb;omega,by unfold RR.wt at hb;omega⟩
theorem RR.good.nb {r : RR} (h : r.good) : nb r.v ≤ 32 * r.wt := Nat.le_trans (nb_v r h.1 h.2) r.bits_wt
theorem form_nbs : ∀ {f : List (Int × RR)},form_good f → nbs (vals f) ≤ 32 * sumW mono_wt f
 | [],_ => by simp [vals,nbs]
 | p::f,h => by
  have h1 := (h p List.mem_cons_self).2.nb
  have h2 := form_nbs (f := f) fun q hq => h q (List.mem_cons_of_mem _ hq)
  simp only [vals,List.map_cons,nbs,sumW,mono_wt] at *
  omega
theorem sumW_mem {α : Type} {wt : α → Nat} {l : List α} {x : α} (h : x ∈ l) : wt x ≤ sumW wt l := by
 induction l with
 | nil => cases h
 | cons y l ih =>
  simp only [sumW]
  rcases List.mem_cons.1 h with rfl | h
  ·omega
  ·have := ih h;omega
theorem form_ok {f : List (Int × RR)} (h : form_good f) (hb : form_wt f ≤ 1048576) : FOk f 67108864 ∧ nbs (vals f) ≤ 67108864 := by
 have h1 := form_nbs h
 unfold form_wt at hb
 refine ⟨⟨fun p hp => (h p hp).2.ok ?_,(Sz.of _).mono (by omega)⟩,by omega⟩
 have := sumW_mem (wt := mono_wt) hp
 unfold mono_wt at this hb
 omega
theorem At.good.ok {a : At} (h : a.good) (hb : a.wt ≤ 1048576) : AtOk a := by
 unfold At.wt at hb
 obtain ⟨h1,h2⟩ := form_ok h.1 (by omega)
 refine ⟨h1,h2,h.2.ok (by omega),?_⟩
 have := h.2.nb
 omega
theorem sumW_len {α : Type} {wt : α → Nat} (h : ∀ x,1 ≤ wt x) (l : List α) : l.length ≤ sumW wt l := by
 induction l with
 | nil => simp [sumW]
 | cons x l ih => have := h x;simp only [List.length_cons,sumW];omega
section
variable {H : Type} {encH : TypeId × Value → H} {P : Program} {w : World}
theorem rps_some {α : Type} {t : TypeId} {e : α → List AV} {good : α → Prop} {wt : α → Nat} (h : Opens encH P w t e good wt) {v : Value} {d : DataW H} {p : List MemPlace} (hd : DataW.Trod encH P w 0 (fun _ => true) true t v d p) :
  ∃ a,Rps w (fun _ => False) noPl (e a) v.cells.toList ∧ good a ∧ wt a ≤ Rows.uptoBulk d := by
 obtain ⟨fuel,hf⟩ := hd
 exact h fuel _ _ hf
theorem par_struct {α : Type} {t : TypeId} {fs : Array Field} (ht : P.underlying t = some (.struct fs)) {e : α → List AV} {good : α → Prop} {wt : α → Nat} (h : Opens encH P w t e good wt) {base : Nat} {v : Value} (hok : Value.okWide P w .any base t v) {d : DataW H} {p : List MemPlace} (hd : DataW.Trod encH P w 0 (fun _ => true) true t v d p) :
  ∃ a,Rp w (fun _ => False) noPl (.agg (e a)) v ∧ good a ∧ wt a ≤ Rows.uptoBulk d := by
 unfold Value.okWide at hok
 rw [ht] at hok
 obtain ⟨cs,rfl,_,_⟩ := hok
 obtain ⟨a,h1,h2,h3⟩ := rps_some h hd
 exact ⟨a,⟨cs.toList,by simp,h1⟩,h2,h3⟩
theorem par_slice {α : Type} {t el : TypeId} (ht : P.underlying t = some (.slice el)) {e : α → AV} {good : α → Prop} {wt : α → Nat} (h : Opens encH P w t (fun a => [e a]) good wt) {base : Nat} {v : Value} (hok : Value.okWide P w .any base t v) {d : DataW H} {p : List MemPlace} (hd : DataW.Trod encH P w 0 (fun _ => true) true t v d p) :
  ∃ a,Rp w (fun _ => False) noPl (e a) v ∧ good a ∧ wt a ≤ Rows.uptoBulk d := by
 unfold Value.okWide at hok
 rw [ht] at hok
 unfold Cell.okWide at hok
 rw [ht] at hok
 obtain ⟨a,h1,h2,h3⟩ := rps_some h hd
 obtain ⟨u,us,e1,e2,e3⟩ := h1
 have e4 : us = [] := e3
 subst e4
 cases v <;> simp only [Value.cells] at e1 <;> first
  | (simp only [Cell.ok,ht] at hok;done)
  | (have e5 := (List.cons.inj e1).1;subst e5;exact ⟨a,e2,h2,h3⟩)
end
end Go.Proofs.YtjmpajgjaefcjaaGreat.Vm
namespace Go.Proofs.YtjmpajgjaefcjaaGreat.Vm
open Go Go.RowKit
set_option maxRecDepth 100000
set_option linter.unusedVariables false
set_option linter.unusedSimpArgs false
section
variable {H : Type} {encH : TypeId × Value → H} {w : World}
def row_good (r : Int × List (Int × RR)) : Prop := form_good r.2
def row_wt (r : Int × List (Int × RR)) : Nat := form_wt r.2
theorem opens_rowT : Opens encH Tryz.prog w 84 rowT row_good row_wt :=
 (Opens.two Tryz.underlying84 (by kernel_rfl) (by kernel_rfl) (by kernel_rfl) (Opens.i64 Tryz.underlying3) opens_form).map id (fun p => rfl) (fun _ h => h.2) (fun p => by simp only [id,row_wt];omega)
def tab_good (p : Int × TR) : Prop := ∀ r ∈ p.2,row_good r
def tab_wt (p : Int × TR) : Nat := sumW row_wt p.2 + 1
theorem opens_rowsT : Opens encH Tryz.prog w 22 (fun t : TR => [.sl (tab rowT t)]) (fun t => ∀ r ∈ t,row_good r) (fun t => sumW row_wt t + 1) :=
 Opens.slice Tryz.underlying22 (by show 0 < Tryz.prog.cellsOf 84;rw [show Tryz.prog.cellsOf 84 = 2 by kernel_rfl];decide) opens_rowT
def cellsT (p : Int × TR) : List AV := [.int .i64 p.1,.sl (tab rowT p.2)]
theorem opens_tab : Opens encH Tryz.prog w 24 cellsT tab_good tab_wt :=
 (Opens.two Tryz.underlying24 (by kernel_rfl) (by kernel_rfl) (by kernel_rfl) (Opens.i64 Tryz.underlying3) opens_rowsT).map id (fun p => rfl) (fun _ h => h.2) (fun p => by simp only [id,tab_wt];omega)
end
theorem tab_tb : ∀ {t : TR},(∀ r ∈ t,row_good r) → tb (t.map fun r => (r.1,vals r.2)) ≤ 33 * sumW row_wt t
 | [],_ => Nat.le_refl _
 | r::t,h => by
  have h1 := tab_tb (t := t) fun x hx => h x (List.mem_cons_of_mem _ hx)
  have h2 := form_nbs (h r List.mem_cons_self)
  simp only [List.map_cons,tb,sumW,row_wt,form_wt] at *
  omega
theorem tab_ok {p : Int × TR} (h : tab_good p) (hb : tab_wt p ≤ 1048576) : TOk p.2 := by
 unfold tab_wt at hb
 refine ⟨fun r hr q hq => (form_ok (h r hr) ?_).1.1 q hq,?_⟩
 ·have := sumW_mem (wt := row_wt) hr
  have e : form_wt r.2 = row_wt r := rfl
  omega
 ·have := tab_tb h
  omega
theorem fm_ok {f : List (Int × RR)} (h : form_good f) (hb : form_wt f ≤ 1048576) : FormOk f := ⟨(form_ok h hb).1.1,by have := (form_ok h hb).2;omega⟩
section
variable {H : Type} {encH : TypeId × Value → H} {w : World}
def DD.good (d : DD) : Prop := d.a.good ∧ d.b.good
def DD.wt (d : DD) : Nat := d.a.wt + d.b.wt
theorem opens_delta : Opens encH Tryz.prog w 58 DD.cells DD.good DD.wt :=
 (Opens.two Tryz.underlying58 (by kernel_rfl) (by kernel_rfl) (by kernel_rfl) opens_rat opens_rat).map (fun p => (⟨p.1,p.2⟩ : DD)) (fun p => rfl) (fun _ h => h) (fun p => by simp only [DD.wt];omega)
theorem opens_deltas : Opens encH Tryz.prog w 44 (fun l : List DD => [.sl (tab rowD l)]) (fun l => ∀ x ∈ l,x.good) (fun l => sumW DD.wt l + 1) :=
 Opens.slice (enc := rowD) Tryz.underlying44 (by show 0 < Tryz.prog.cellsOf 58;rw [show Tryz.prog.cellsOf 58 = 6 by kernel_rfl];decide) opens_delta
end
theorem DD.good.ok {d : DD} (h : d.good) (hb : d.wt ≤ 1048576) : d.ok := ⟨h.1.ok (by unfold DD.wt at hb;omega),h.2.ok (by unfold DD.wt at hb;omega)⟩
theorem DD.good.nb {d : DD} (h : d.good) : nb2 d.v ≤ 32 * d.wt := by
 unfold DD.wt
 exact nb2_le (Nat.le_trans h.1.nb (by omega)) (Nat.le_trans h.2.nb (by omega))
theorem nbl_ds (g : DD → Rat) (hg : ∀ d : DD,d.good → nb (g d) ≤ 32 * d.wt) : ∀ {ds : List DD},(∀ x ∈ ds,x.good) → nbl (ds.map g) ≤ 32 * sumW DD.wt ds
 | [],_ => Nat.le_refl _
 | d::ds,h => by
  have h1 := nbl_ds g hg (ds := ds) fun x hx => h x (List.mem_cons_of_mem _ hx)
  have h2 := hg d (h d List.mem_cons_self)
  simp only [List.map_cons,nbl,sumW] at *
  omega
theorem deltas_good {ds : List DD} (h : ∀ x ∈ ds,x.good) (hb : sumW DD.wt ds ≤ 1048576) : DsOk ds := by
 refine ⟨fun d hd => ?_,?_,?_⟩
 ·have hw : d.wt ≤ sumW DD.wt ds := sumW_mem (wt := DD.wt) hd
  exact (h d hd).ok (by omega)
 ·have := nbl_ds (fun d => d.a.v) (fun d hd => Nat.le_trans (nb2_1 d.v) hd.nb) h
  omega
 ·have := nbl_ds (fun d => d.b.v) (fun d hd => Nat.le_trans (nb2_2 d.v) hd.nb) h
  omega
end Go.Proofs.YtjmpajgjaefcjaaGreat.Vm
namespace Go.Proofs.YtjmpajgjaefcjaaGreat.Vm
open Go Go.RowKit Go.ChangeShapes Go.WideShapes Go.ChangeAt
set_option maxRecDepth 100000
set_option linter.unusedVariables false
def joinedRest (P : Program) (fn : Func) (s : ChangeSpec) (c : OpenClaim) : Bool :=
 (c.wf (OpenSpec.ofChange s)) && (fn.params.all (P.readableRec ·)) && (namedTie P c.named s.vars) && ((c.stops == [])) && ((c.knobs == [])) && ((c.maps == (fn.params.toList ++ s.plain.varTypes P).any (P.mapsRec ·))) && ((c.ifaces == (fn.params.toList ++ s.plain.varTypes P).any (P.ifacesRec ·))) && ((c.mapsOut == P.mapsAmong fn.resultTypes.toList)) && ((c.loops == (fn.params.toList ++ s.plain.varTypes P).any (P.loopsFrom ·))) && ((c.wideKeys == (fn.params.toList ++ s.plain.varTypes P ++ fn.resultTypes.toList).any (P.wideKeysFrom ·))) && (s.vars.all (P.varReadable ·)) && (fn.resultTypes.all (fun t => P.readableRec t && decide (t < P.types.size))) && ((c.ifacesOut == fn.resultTypes.toList.any (P.ifacesRec ·))) && ((c.loopsOut == fn.resultTypes.toList.any (P.loopsFrom ·))) && (c.shortTexts.isNone) && ((c.kinds == (if c.domain.isEmpty then [] else fn.params.toList.map fun t => match P.underlying t with|some (.int k) => some k|_ => none))) && ((c.pinned == c.pinnedBy)) && ((c.veiled == (fn.params.toList ++ s.plain.varTypes P ++ fn.resultTypes.toList).any (P.veiledRec ·))) && (c.veiledFits P fn.params.toList (fn.params.toList ++ s.plain.varTypes P ++ fn.resultTypes.toList))
theorem joined_of {P : Program} {f : FuncId} {fn : Func} {s : ChangeSpec} {c : OpenClaim} (h1 : (laidOutB P) = true) (h2 : (mapsRowed P) = true) (h6 : ((P.stops == [])) = true) (h8 : ((P.stopKnobs == [])) = true) (h24 : (P.stopsHeard) = true) (h25 : (P.mayEnter) = true) (h9 : ((c.inPlace == P.inPlace f)) = true) (h10 : ((c.unfollowed == P.unfollowed f)) = true) (h11 : ((c.recurses == P.recurses f)) = true) (h12 : ((c.named == P.varsNamed f)) = true) (h22 : ((c.plainKeys == P.plainKeys)) = true) (h26 : ((c.lifted == P.liftsFinal)) = true) (h27 : ((P.make == some c.make)) = true)
  (h : joinedRest P fn s c = true) : joinedFacts P f fn s c = true := by
 unfold joinedRest at h
 unfold joinedFacts
 simp only [Bool.and_eq_true] at h ⊢
 obtain ⟨⟨⟨⟨⟨⟨⟨⟨⟨⟨⟨⟨⟨⟨⟨⟨⟨⟨r0,r3⟩,r4⟩,r5⟩,r7⟩,r13⟩,r14⟩,r15⟩,r16⟩,r17⟩,r18⟩,r19⟩,r20⟩,r21⟩,r23⟩,r28⟩,r29⟩,r30⟩,r31⟩ := h
 exact ⟨⟨⟨⟨⟨⟨⟨⟨⟨⟨⟨⟨⟨⟨⟨⟨⟨⟨⟨⟨⟨⟨⟨⟨⟨⟨⟨⟨⟨⟨⟨r0,h1⟩,h2⟩,r3⟩,r4⟩,r5⟩,h6⟩,r7⟩,h8⟩,h9⟩,h10⟩,h11⟩,h12⟩,r13⟩,r14⟩,r15⟩,r16⟩,r17⟩,r18⟩,r19⟩,r20⟩,r21⟩,h22⟩,r23⟩,h24⟩,h25⟩,h26⟩,h27⟩,r28⟩,r29⟩,r30⟩,r31⟩
def plainClaim : OpenClaim := { program := "", sum := "", func := "", spec := "" }
theorem pf_laid : laidOutB Tryz.prog = true := by kernel_rfl
theorem pf_maps : mapsRowed Tryz.prog = true := by kernel_rfl
theorem pf_stops : (Tryz.prog.stops == []) = true := by kernel_rfl
theorem pf_knobs : (Tryz.prog.stopKnobs == []) = true := by kernel_rfl
theorem pf_heard : Tryz.prog.stopsHeard = true := by kernel_rfl
theorem pf_enter : Tryz.prog.mayEnter = true := by kernel_rfl
theorem pf_keys : (plainClaim.plainKeys == Tryz.prog.plainKeys) = true := by kernel_rfl
theorem pf_lifts : (plainClaim.lifted == Tryz.prog.liftsFinal) = true := by kernel_rfl
theorem pf_make : (Tryz.prog.make == some plainClaim.make) = true := by kernel_rfl
theorem pf_own : ownKnob Tryz.prog.godebug = none := by kernel_rfl
end Go.Proofs.YtjmpajgjaefcjaaGreat.Vm
namespace Go.Proofs.YtjmpajgjaefcjaaGreat.Vm
open Go Go.RowKit Go.ChangeShapes Go.WideShapes Go.ChangeAt
set_option maxRecDepth 100000
set_option linter.unusedVariables false
set_option linter.unusedSimpArgs false
namespace tableauSays_
theorem own : ownKnob Tryz.prog.godebug = none := pf_own
theorem laidOut : laidOutB Tryz.prog = true := pf_laid
theorem pf_place : (Rows.tableauSaysUptoRow.inPlace == Tryz.prog.inPlace 6) = true := by kernel_rfl
theorem pf_foll : (Rows.tableauSaysUptoRow.unfollowed == Tryz.prog.unfollowed 6) = true := by kernel_rfl
theorem pf_rec : (Rows.tableauSaysUptoRow.recurses == Tryz.prog.recurses 6) = true := by kernel_rfl
theorem pf_nam : (Rows.tableauSaysUptoRow.named == Tryz.prog.varsNamed 6) = true := by kernel_rfl
theorem pf_rest : joinedRest Tryz.prog Tryz.f6 (Rows.OpenSpec.upto Rows.tableauSaysSpec).bare Rows.tableauSaysUptoRow = true := by kernel_rfl
theorem facts : joinedFacts Tryz.prog 6 Tryz.f6 (Rows.OpenSpec.upto Rows.tableauSaysSpec).bare Rows.tableauSaysUptoRow = true := joined_of pf_laid pf_maps pf_stops pf_knobs pf_heard pf_enter pf_place pf_foll pf_rec pf_nam pf_keys pf_lifts pf_make pf_rest
theorem contract (H : Type) (encH : TypeId × Value → H) (W : World) (base : Nat) (args : Array Value) (ds gs : List (DataW H)) (before : List MemPlace)
  (hval : ∀ (j : Nat) t v,Tryz.f6.params[j]? = some t → args[j]? = some v → Value.okWide Tryz.prog W .any base t v)
  (hW : DataW.Whole encH Tryz.prog Tryz.f6.params.toList Rows.tableauSaysSpec.vars false W args.toList ds gs before) (hk : Rows.uptoSmall H (ds ++ gs) = true) :
  Calls Tryz.prog 6 args W fun e W' => ∃ v,e = .returned v ∧ Rows.tableauSaysSpec.post encH Tryz.prog Tryz.f6 false true false false W args v W' := by
 have hW' := hW
 obtain ⟨p,q,hA0,hV,rfl,hfz,hnd⟩ := hW
 have hA : DataW.TrodAll encH Tryz.prog W 0 (fun _ => true) true Tryz.f6.params.toList args.toList ds p := hA0
 rw [Tryz.params6] at hA hval
 obtain ⟨v0,v1,v2,d0,d1,d2,p0,p1,p2,rfl,rfl,rfl,h0,h1,h2⟩ := trodAll_three hA
 obtain ⟨rfl,rfl⟩ := trodVars_none hV
 simp only [List.append_nil] at hW' hk
 have hlt : ∀ x ∈ p0 ++ p1 ++ p2,x.block < W.heap.size := fun x hx => hW'.lt x (by simpa using hx)
 obtain ⟨a0,r0,g0,b0⟩ := par_struct Tryz.underlying24 opens_tab (hval 0 24 v0 rfl rfl) h0
 obtain ⟨a1,r1,g1,b1⟩ := par_slice Tryz.underlying26 opens_form (hval 1 26 v1 rfl rfl) h1
 obtain ⟨a2,r2,g2,b2⟩ := par_slice Tryz.underlying44 opens_deltas (hval 2 44 v2 rfl rfl) h2
 have hbulk : Rows.uptoBulkAll [d0,d1,d2] ≤ 1048576 := of_decide_eq_true hk
 simp only [Rows.uptoBulkAll] at hbulk
 have hlaw := says_law a0.1 a0.2 a1 a2 (tab_ok g0 (by omega)) (fm_ok g1 (by omega)) (fm_ok g1 (by omega)).sz (deltas_good g2 (by omega)) (by have := sumW_len (wt := DD.wt) (fun a => by unfold DD.wt RR.wt;omega) a2;omega)
 refine (hlaw W [v0,v1,v2] (fun _ => False) (fun _ h => h.elim) ⟨_,_,rfl,r0,_,_,rfl,r1,_,_,rfl,r2,rfl⟩).mono fun e W' he => ?_
 obtain ⟨v,r,rfl,rfl,hbel,hrp⟩ := he
 have hv : v = .bool true := hrp
 subst hv
 exact ⟨_,rfl,⟨_,_,_,[],_,[],hW',trodAll_mk1 (shut_bool Tryz.underlying4 _),trodAll_mk3 (Below.trod laidOut (by kernel_rfl) (of_decide_eq_true (by kernel_rfl)) h0 hbel (fun x hx => hlt x (by simp [hx]))) (Below.trod laidOut (by kernel_rfl) (of_decide_eq_true (by kernel_rfl)) h1 hbel (fun x hx => hlt x (by simp [hx]))) (Below.trod laidOut (by kernel_rfl) (of_decide_eq_true (by kernel_rfl)) h2 hbel (fun x hx => hlt x (by simp [hx]))),rfl,hbel.frame _,fun h => by cases h⟩⟩
theorem lifted (os : Os) (started : os.Started) (H : Type) (enc : TypeId × Value → H) (F : Stop.Interp) :
  ReturnsInHanded {} Tryz.checked os 6 .any ((Rows.OpenSpec.upto Rows.tableauSaysSpec).pre6 enc Tryz.prog Tryz.f6 Rows.tableauSaysUptoRow.domain false) (((Rows.OpenSpec.upto Rows.tableauSaysSpec).at F).post enc Tryz.prog Tryz.f6 false true false false) := by
 refine returnsInHanded_of_cond (C := Tryz.checked) (s := Rows.OpenSpec.upto Rows.tableauSaysSpec) (k := Rows.uptoSmall) rfl own started (by kernel_rfl) Tryz.func6
  (OpenSpec.witness (enc := enc) (C := Tryz.checked) (s := Rows.OpenSpec.upto Rows.tableauSaysSpec) (k := Rows.uptoSmall) rfl false ⟨#[],#[.agg #[.int .i64 0,.slice none 0 0],.slice none 0 0,.slice none 0 0],[]⟩ 8 (by kernel_rfl) (by kernel_rfl) (by kernel_rfl)
   (x := ([.agg [.lit (.int .i64 0),.nil],.nil,.nil],[],[])) (by kernel_rfl) rfl (by kernel_rfl)) ?_
 intro W base args ds gs before hval hW _ hk _
 exact contract H enc W base args ds gs before hval hW hk
end tableauSays_
theorem tableauSays_holds : Rows.TableauSaysUptoSaid :=
 OpenClaim.holds_of_cond 6 Tryz.f6 rfl rfl rfl rfl rfl rfl rfl ⟨rfl,rfl,rfl,rfl,rfl⟩ rfl rfl rfl rfl rfl (by kernel_rfl) Tryz.func6 tableauSays_.facts
  (of_decide_eq_true (by kernel_rfl)) (by unfold Func.isWrapper;first | (rw [if_pos (by decide +kernel)];kernel_rfl) | (rw [if_neg (by decide +kernel)];exact ⟨rfl,rfl⟩))
  (fun os started H enc _ F => tableauSays_.lifted os started H enc F)
end Go.Proofs.YtjmpajgjaefcjaaGreat.Vm
