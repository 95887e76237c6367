/-
  Part 8 of 9 of a proof.
-/
import Derived.Test.YtjmpajgjaefcjaaGreatPlys7
import Derived.Orders
import Derived.Below
import Derived.Laws.AppendOwn
import Derived.Laws.MakeOwn
import Derived.Laws.CopyRow
import Derived.Laws.Rows
import Derived.Laws.Cells
import Derived.Tactics
import Derived.Laws.BitsLemmas
import Derived.Maps.Range
import Derived.Carry
import Derived.Test.YtjmpajgjaefcjaaGreatProg
import Derived.Sort.Row
import Derived.Sort.Grow
import Derived.Shelf.Sort.Plain
import Derived.Shelf.Slices.In.SortNone
import Derived.Ground.NamesProg
set_option linter.unusedVariables false
set_option linter.unusedSimpArgs false
set_option maxRecDepth 100000

namespace Go.Proofs.YtjmpajgjaefcjaaGreat.Vm
open Go Go.RowKit
theorem sUb {G G':Prop} (h:G') (e:G=G':=by conv=>lhs;simp (disch:=omega) only [rowsOf,cNat,cN,St.ret,St.seth,Eff.app,Eff.wi,sepL,guardOf,St.known,objOf,List.set,sliceW,litW,copyW,lenOf,bnd,mxOk,ofCells,TI.isAgg,cellsOf,storable,AV.one,dead,laid,overlay,reduceCtorEq,Int.reduceLE,Int.reduceLT,Int.reduceSub,Int.reduceAdd,Nat.reduceMul,Int.reduceToNat,Nat.reducePow,Int.reduceNeg,Nat.reduceAdd,Nat.reduceLT,Nat.reduceLeDiff,sA,sB,Nat.reduceEqDiff,cQ,rowQ,rowU,rowT,rowM,i64s_getD,i64s_length,i64s_all,i64s_take,i64s_drop,i64s_set,i64s_one,i64s_pure,i64s_append,tab_length,tab_drop,tab_take,tab_append,tab_nil,rowT_all,rowT_one,rowT_pure,rowU_all,rowU_one,rowU_pure,rowQ_all,rowQ_one,rowQ_pure,rowM_all,rowM_one,rowM_pure,List.take_length,List.length_append,sT]):G:=e.mpr h
theorem sUbX {G G' P:Prop} (p:P) (h:G') (e:P→G=G':=by intro p;conv=>lhs;simp (disch:=omega) only [rowsOf,cNat,cN,St.ret,St.seth,Eff.app,Eff.wi,sepL,guardOf,St.known,objOf,List.set,sliceW,litW,copyW,lenOf,bnd,mxOk,ofCells,TI.isAgg,cellsOf,storable,AV.one,dead,laid,overlay,reduceCtorEq,Int.reduceLE,Int.reduceLT,Int.reduceSub,Int.reduceAdd,Nat.reduceMul,Int.reduceToNat,Nat.reducePow,Int.reduceNeg,Nat.reduceAdd,Nat.reduceLT,Nat.reduceLeDiff,sA,sB,Nat.reduceEqDiff,cQ,rowQ,rowU,rowT,rowM,i64s_getD,i64s_length,i64s_all,i64s_take,i64s_drop,i64s_set,i64s_one,i64s_pure,i64s_append,tab_length,tab_drop,tab_take,tab_append,tab_nil,rowT_all,rowT_one,rowT_pure,rowU_all,rowU_one,rowU_pure,rowQ_all,rowQ_one,rowQ_pure,rowM_all,rowM_one,rowM_pure,List.take_length,List.length_append,sT,p]):G:=(e p).mpr h
theorem aUb {G G':Prop} (h:G') (f:Wr G'→G:=by intro h;(repeat (first|(refine W_seqV fun K hK=>?_;(try (refine sUb ?_;try exact True.intro));(repeat refine aI ?_);refine hK _ ?_;clear hK K)|(refine W_seqR fun K hK=>?_;(try (refine sUb ?_;try exact True.intro));(repeat refine aI ?_);refine hK _ ?_;clear hK K)|(refine W_seqD mixed [] (by kernel_rfl) fun K hK=>?_;(try (refine sUb ?_;try exact True.intro));(repeat refine aI ?_);refine hK _ ?_;clear hK K)));exact h.out):G:=f ⟨h⟩
def rowOk (n:Int) (M:TM) (j:Nat):Prop:=inR n (M.getD j default).1=true∧idxM M (M.getD j default).1=some j∧knownB n (M.getD j default).2=true
theorem GT.rok {n:Int} {M:TM} (h:GT n M) {j:Nat} (hj:j<M.length):rowOk n M j:=by
 have hm:=getD_mem (l:=M) hj
 refine ⟨inR_iff.2 (h.range _ (List.mem_map.2 ⟨_,hm,rfl⟩)),idx_nodup h.nodup hj,?_⟩
 unfold knownB
 rw [List.all_eq_true]
 exact fun p hp=>inR_iff.2 (h.free _ hm p hp).1
theorem GT.of {n:Int} {M:TM} (h0:0≤n) (h1:n≤65536) (h:∀ j,j<M.length→rowOk n M j) (hf:∀ j,j<M.length→∀ p∈(M.getD j default).2,idxM M p.1=none):GT n M:=by
 refine ⟨h0,h1,?_,fun b hb=>?_,fun r hr p hp=>?_⟩
 ·rw [List.Nodup,List.pairwise_iff_getElem]
  intro i j hi hj hij he
  have hi':i<M.length:=by rwa [keys_len] at hi
  have hj':j<M.length:=by rwa [keys_len] at hj
  have e1:=(h i hi').2.1
  have e2:=(h j hj').2.1
  have:(M.getD i default).1=(M.getD j default).1:=by
   simp only [keys,List.getElem_map] at he
   simp [List.getD_eq_getElem?_getD,hi',hj',he]
  rw [this,e2] at e1
  cases e1
  omega
 ·obtain ⟨r,hr,rfl⟩:=List.mem_map.1 hb
  obtain ⟨j,hj,rfl⟩:=mem_getD hr
  exact inR_iff.1 (h j hj).1
 ·obtain ⟨j,hj,rfl⟩:=mem_getD hr
  have h2:=(h j hj).2.2
  unfold knownB at h2
  refine ⟨inR_iff.1 (List.all_eq_true.1 h2 p hp),(idx_none (hf j hj p hp)).1⟩
theorem rowI_some {M:TM} {v:Int} {k:Nat} (h:idxM M v=some k):rowI M v=(k:Int):=by unfold rowI;rw [h]
theorem rowI_none {M:TM} {v:Int} (h:idxM M v=none):rowI M v = -1:=by unfold rowI;rw [h]
theorem TG.pf {t:TR} (h:TG t) {r:Int × List (Int × RR)} (hr:r∈t):PF r.2 536870913:=((h.form hr).pf (by omega)).mono (by omega)
set_option maxHeartbeats 4000000 in
theorem r7check_ok (n:Int) (t:TR) (hT:TG t):Pure Tryz.prog 31 [cT n t] (· = .int .i64 (if goodB n (nrmT t) then 0 else 70)):=by
 have hml:=nrmT_len t
 have hlen:=hT.len
 have hgT:GT n (nrmT t)→goodB n (nrmT t)=true:=gt_iff.2
 have hgF:¬ GT n (nrmT t)→goodB n (nrmT t)=false:=fun h=>by
  rw [Bool.eq_false_iff]
  exact fun h'=>h (gt_iff.1 h')
 have hnd:=fun i (hi:i<t.length)=>nrmT_getD hi
 have his:=fun v=>r7is_ok n t v
 have hro:=fun v=>r7row_ok n t v (by omega)
 have hkn:∀ i,i<t.length→Pure Tryz.prog 70 [cT n t,cF (t.getD i default).2] (· = .bool (knownB n (normF (vals (t.getD i default).2)))):=fun i hi=>r7knows_ok n t _ (hT.pf (getD_mem hi)) (by omega)
 have hva:∀ i,i<t.length→Pure Tryz.prog 75 [cF (t.getD i default).2] (· = .sl (i64s (keys (normF (vals (t.getD i default).2))))):=fun i hi=>r6vars_ok _ (hT.pf (getD_mem hi)) (by omega)
 have hrok:=fun (h:GT n (nrmT t)) j hj=>h.rok (j:=j) hj
 have hof:=fun h0 h1=>GT.of (n:=n) (M:=nrmT t) h0 h1
 have hfree:GT n (nrmT t)→∀ i,i<(nrmT t).length→∀ v∈keys ((nrmT t).getD i default).2,idxM (nrmT t) v=none:=fun h i hi v hv=>by
  obtain ⟨p,hp,rfl⟩:=List.mem_map.1 hv
  have:=(h.free _ (getD_mem hi) p hp).2
  cases hx:idxM (nrmT t) p.1 with
  | none=>rfl
  | some j=>exact absurd (idx_some hx).2.2.2 this
 have hvl:∀ i,i<t.length→(keys ((nrmT t).getD i default).2).length<1099511627776:=fun i hi=>by
  have:=(hT.mok.sz _ (getD_mem (show i<(nrmT t).length by omega))).l
  rw [keys_len]
  omega
 clear hT
 unfold cT at *
 generalize goodB n (nrmT t)=gb at *
 generalize nrmT t=M at *
 by_cases h1:n<0
 ·rw [hgF fun h=>by have:=h.lo;omega]
  simp only [Bool.false_eq_true,if_false]
  (refine pureW Tryz.func31 rfl (rs:=[Go.ResultVar.tmp 2]) rfl (n:=81) rfl ?_;simp only [List.length_cons,List.length_nil,List.replicate,List.cons_append,List.nil_append])
  (refine aUb ?_)
  ((refine W_seq (W_seqV ?_));intro K hK;(refine sUbX h1 ?_))
  (refine hK _ ?_;clear hK K)
  (repeat' (first | (exfalso;simp at h;done) | (refine W_seqV fun K hK=>?_;(try (refine sUb ?_));refine hK _ ?_;clear hK K) | (refine W_ret ?_;(refine qG ?_;try exact True.intro)) | (refine W_cond rfl (fun h=>?_) (fun h=>?_) <;> (try simp only [cond_true,cond_false,ne_eq,cB] at h))))
 by_cases h2:65536<n
 ·rw [hgF fun h=>by have:=h.hi;omega]
  simp only [Bool.false_eq_true,if_false]
  (refine pureW Tryz.func31 rfl (rs:=[Go.ResultVar.tmp 2]) rfl (n:=81) rfl ?_;simp only [List.length_cons,List.length_nil,List.replicate,List.cons_append,List.nil_append])
  (refine aUb ?_)
  ((refine W_seq (W_seqV ?_));intro K hK;(refine sUbX (And.intro h1 h2) ?_))
  (refine hK _ ?_;clear hK K)
  (repeat' (first | (exfalso;simp at h;done) | (refine W_seqV fun K hK=>?_;(try (refine sUb ?_));refine hK _ ?_;clear hK K) | (refine W_ret ?_;(refine qG ?_;try exact True.intro)) | (refine W_cond rfl (fun h=>?_) (fun h=>?_) <;> (try simp only [cond_true,cond_false,ne_eq,cB] at h))))
 (refine pureW Tryz.func31 rfl (rs:=[Go.ResultVar.tmp 2]) rfl (n:=81) rfl ?_;simp only [List.length_cons,List.length_nil,List.replicate,List.cons_append,List.nil_append])
 (refine aUb ?_)
 ((refine W_seq (W_seqV ?_));intro K hK;(refine sUbX (And.intro h1 h2) ?_))
 (refine hK _ ?_;clear hK K)
 (refine W_cf rfl ?_)
 refine W_skip ?_
 simp only [thenW]
 refine W_seq ?_
 ((refine W_seqV ?_);intro K hK;(refine sUb ?_))
 (refine hK _ ?_;clear hK K)
 refine W_block (W_loop (fun s:{i:Nat // i≤t.length∧∀ j,j<i→rowOk n M j} =>
   ((fun (a_:AV) (d_:Ob)=>(⟨(a_::(.ptr 1 0 0)::a_::(.int .i64 s.1)::a_::a_::a_::a_::a_::a_::a_::a_::a_::a_::a_::a_::a_::a_::a_::a_::a_::a_::a_::a_::a_::a_::a_::a_::a_::a_::a_::a_::a_::a_::a_::a_::a_::a_::a_::a_::a_::a_::a_::a_::a_::a_::a_::a_::a_::a_::a_::a_::a_::a_::a_::a_::a_::a_::a_::a_::a_::a_::a_::a_::a_::a_::a_::a_::a_::a_::a_::a_::a_::a_::a_::a_::a_::a_::a_::a_::a_::[]),(d_::(.arr 24 2 false [[.int .i64 n,.sl (tab rowT t)]])::d_::d_::d_::d_::d_::d_::d_::d_::d_::d_::d_::d_::d_::d_::d_::d_::d_::d_::d_::d_::d_::d_::d_::d_::d_::d_::d_::d_::d_::d_::d_::d_::d_::d_::d_::d_::d_::d_::d_::d_::d_::d_::d_::d_::d_::d_::d_::d_::d_::d_::d_::d_::d_::d_::d_::d_::d_::d_::d_::d_::d_::d_::d_::d_::d_::d_::d_::d_::d_::d_::d_::d_::d_::d_::d_::d_::d_::d_::d_::[])⟩:St)) .any .dead)) (fun s=>t.length-s.1)
   ⟨0,by omega,by omega⟩ (Le_drop (by simp [leE]) (by simp [leH]) rfl rfl) fun s=>?_)
 obtain ⟨i,hi,hpre⟩:=s
 dsimp only
 by_cases hlt:i<t.length
 ·have hti:(tab rowT t).getD i []=rowT (t.getD i default):=tab_getD hlt
  have hbad:¬ rowOk n M i→gb=false:=fun h=>hgF fun h'=>h (hrok h' i (by omega))
  have hpr:rowOk n M i→∀ j,j<i+1→rowOk n M j:=fun h j hj=>by
   by_cases hji:j=i
   ·subst hji;exact h
   ·exact hpre j (by omega)
  have hdef:rowOk n M i=(inR n (M.getD i default).1=true∧idxM M (M.getD i default).1=some i∧knownB n (M.getD i default).2=true):=rfl
  have hexi:∃ k,idxM M (M.getD i default).1=some k:=by
   obtain ⟨k,hk,_⟩:=look_idx (M:=M) (b:=(M.getD i default).1) (List.mem_map.2 ⟨_,getD_mem (by omega),rfl⟩)
   exact ⟨k,hk⟩
  have hki:=hkn i hlt
  rw [hnd i hlt] at hdef hexi
  generalize t.getD i default=r at *
  obtain ⟨b,f⟩:=r
  simp only [rowT] at hti
  dsimp only at *
  have hib:=his b
  have hrb:=hro b
  obtain ⟨k,hk⟩:=hexi
  rw [rowI_some hk] at hrb
  rw [hk] at hdef
  refine W_seq ?_
  ((refine W_seqV ?_);intro K hK;(refine sUbX hlt ?_))
  (refine hK _ ?_;clear hK K)
  (refine W_ct rfl ?_)
  refine W_skip ?_
  simp only [thenW]
  refine W_seq ?_
  refine W_block ?_
  simp only [cF] at *
  generalize inR n b=ib at *
  generalize knownB n (normF (vals f))=kb at *
  cases ib
  ·rw [hbad (by rw [hdef];simp)]
   simp only [Bool.false_eq_true,if_false]
   ((refine W_seqD mixed [] (by kernel_rfl) ?_);intro K hK;(refine sUbX (And.intro hti hlt) ?_))
   (refine ⟨by kernel_rfl,_,.pure rfl (hib),?_⟩;(try (refine sUb ?_)))
   (refine hK _ ?_;clear hK K)
   (repeat' (first | (exfalso;simp at h;done) | (refine W_seqV fun K hK=>?_;(try (refine sUb ?_));refine hK _ ?_;clear hK K) | (refine W_ret ?_;(refine qG ?_;try exact True.intro)) | (refine W_cond rfl (fun h=>?_) (fun h=>?_) <;> (try simp only [cond_true,cond_false,ne_eq,cB] at h))))
  by_cases hki2:k=i
  ·have hnb:((k:Int) != (i:Int))=false:=by simp [hki2]
   cases kb
   ·rw [hbad (by rw [hdef];simp)]
    simp only [Bool.false_eq_true,if_false]
    ((refine W_seqD mixed [] (by kernel_rfl) ?_);intro K hK;(refine sUbX (And.intro hti hlt) ?_))
    (refine ⟨by kernel_rfl,_,.pure rfl (hib),?_⟩;(try (refine sUb ?_));(repeat refine aI ?_))
    (refine sUbX (And.intro hti hlt) ?_;try exact True.intro)
    (refine ⟨by kernel_rfl,_,.pure rfl (hrb),?_⟩;(try (refine sUb ?_)))
    rw [hnb]
    (refine sUbX (And.intro hti hlt) ?_;try exact True.intro)
    (refine ⟨by kernel_rfl,_,.pure rfl (hki),?_⟩;(try (refine sUb ?_)))
    (refine hK _ ?_;clear hK K)
    (repeat' (first | (exfalso;simp at h;done) | (refine W_seqV fun K hK=>?_;(try (refine sUb ?_));refine hK _ ?_;clear hK K) | (refine W_ret ?_;(refine qG ?_;try exact True.intro)) | (refine W_cond rfl (fun h=>?_) (fun h=>?_) <;> (try simp only [cond_true,cond_false,ne_eq,cB] at h))))
   ·((refine W_seqD mixed [] (by kernel_rfl) ?_);intro K hK;(refine sUbX (And.intro hti hlt) ?_))
    (refine ⟨by kernel_rfl,_,.pure rfl (hib),?_⟩;(try (refine sUb ?_));(repeat refine aI ?_))
    (refine sUbX (And.intro hti hlt) ?_;try exact True.intro)
    (refine ⟨by kernel_rfl,_,.pure rfl (hrb),?_⟩;(try (refine sUb ?_)))
    rw [hnb]
    (refine sUbX (And.intro hti hlt) ?_;try exact True.intro)
    (refine ⟨by kernel_rfl,_,.pure rfl (hki),?_⟩;(try (refine sUb ?_)))
    (refine hK _ ?_;clear hK K)
    (refine W_cf rfl ?_)
    refine W_skip ?_
    simp only [thenW,blockW]
    ((refine W_regV ?_);intro K hK;(refine sUb ?_))
    (refine hK _ ?_;clear hK K)
    simp only [blockW,thenW]
    refine ⟨⟨i+1,by omega,hpr (by rw [hdef];simp [hki2])⟩,Le_drop (by simp [leE]) (by simp [leH]) rfl rfl,?_⟩
    dsimp only
    omega
  ·have hnb:((k:Int) != (i:Int))=true:=by simp;omega
   rw [hbad (by rw [hdef];simp;intro h;exact absurd h hki2)]
   simp only [Bool.false_eq_true,if_false]
   ((refine W_seqD mixed [] (by kernel_rfl) ?_);intro K hK;(refine sUbX (And.intro hti hlt) ?_))
   (refine ⟨by kernel_rfl,_,.pure rfl (hib),?_⟩;(try (refine sUb ?_));(repeat refine aI ?_))
   (refine sUbX (And.intro hti hlt) ?_;try exact True.intro)
   (refine ⟨by kernel_rfl,_,.pure rfl (hrb),?_⟩;(try (refine sUb ?_)))
   rw [hnb]
   (refine sUbX (And.intro hti hlt) ?_;try exact True.intro)
   (refine hK _ ?_;clear hK K)
   (repeat' (first | (exfalso;simp at h;done) | (refine W_seqV fun K hK=>?_;(try (refine sUb ?_));refine hK _ ?_;clear hK K) | (refine W_ret ?_;(refine qG ?_;try exact True.intro)) | (refine W_cond rfl (fun h=>?_) (fun h=>?_) <;> (try simp only [cond_true,cond_false,ne_eq,cB] at h))))
 ·obtain rfl:i=t.length:=by omega
  refine W_seq ?_
  ((refine W_seqV ?_);intro K hK;(refine sUb ?_))
  (refine hK _ ?_;clear hK K)
  (refine W_cf rfl ?_)
  refine W_exit ?_
  simp only [thenW,blockW,if_true]
  refine W_seq ?_
  ((refine W_seqV ?_);intro K hK;(refine sUb ?_))
  (refine hK _ ?_;clear hK K)
  refine W_block (W_loop (fun s:{i:Nat // i≤t.length∧∀ j,j<i→∀ v∈keys (M.getD j default).2,idxM M v=none} =>
   ((fun (a_:AV) (d_:Ob)=>(⟨(a_::(.ptr 1 0 0)::a_::a_::(.int .i64 s.1)::a_::a_::a_::a_::a_::a_::a_::a_::a_::a_::a_::a_::a_::a_::a_::a_::a_::a_::a_::a_::a_::a_::a_::a_::a_::a_::a_::a_::a_::a_::a_::a_::a_::a_::a_::a_::a_::a_::a_::a_::a_::a_::a_::a_::a_::a_::a_::a_::a_::a_::a_::a_::a_::a_::a_::a_::a_::a_::a_::a_::a_::a_::a_::a_::a_::a_::a_::a_::a_::a_::a_::a_::a_::a_::a_::a_::[]),(d_::(.arr 24 2 false [[.int .i64 n,.sl (tab rowT t)]])::d_::d_::d_::d_::d_::d_::d_::d_::d_::d_::d_::d_::d_::d_::d_::d_::d_::d_::d_::d_::d_::d_::d_::d_::d_::d_::d_::d_::d_::d_::d_::d_::d_::d_::d_::d_::d_::d_::d_::d_::d_::d_::d_::d_::d_::d_::d_::d_::d_::d_::d_::d_::d_::d_::d_::d_::d_::d_::d_::d_::d_::d_::d_::d_::d_::d_::d_::d_::d_::d_::d_::d_::d_::d_::d_::d_::d_::d_::d_::[])⟩:St)) .any .dead)) (fun s=>t.length-s.1)
   ⟨0,by omega,by omega⟩ (Le_drop (by simp [leE]) (by simp [leH]) rfl rfl) fun s=>?_)
  obtain ⟨i,hi,hpr2⟩:=s
  dsimp only
  by_cases hlt:i<t.length
  ·have hti:(tab rowT t).getD i []=rowT (t.getD i default):=tab_getD hlt
   have hnx:(∀ v∈keys (M.getD i default).2,idxM M v=none)→∀ j,j<i+1→∀ v∈keys (M.getD j default).2,idxM M v=none:=fun h j hj=>by
    by_cases hji:j=i
    ·subst hji;exact h
    ·exact hpr2 j (by omega)
   have hbad:∀ v∈keys (M.getD i default).2,idxM M v≠none→gb=false:=fun v hv h=>hgF fun h'=>h (hfree h' i (by omega) v hv)
   have hvi:=hva i hlt
   have hvll:=hvl i hlt
   rw [hnd i hlt] at hnx hbad hvll
   generalize t.getD i default=r at *
   obtain ⟨b,f⟩:=r
   simp only [rowT] at hti
   dsimp only at *
   simp only [cF] at *
   generalize keys (normF (vals f))=V at *
   refine W_seq ?_
   ((refine W_seqV ?_);intro K hK;(refine sUbX hlt ?_))
   (refine hK _ ?_;clear hK K)
   (refine W_ct rfl ?_)
   refine W_skip ?_
   simp only [thenW]
   refine W_seq ?_
   refine W_block ?_
   ((refine W_seqV ?_);intro K hK;(refine sUbX (And.intro hti hlt) ?_))
   (refine ⟨by kernel_rfl,_,.pure rfl (hvi),?_⟩;(try (refine sUb ?_)))
   (refine hK _ ?_;clear hK K)
   refine W_seq ?_
   ((refine W_regV ?_);intro K hK;(refine sUb ?_))
   (refine hK _ ?_;clear hK K)
   refine W_block (W_loop (fun s:{k:Nat // k≤V.length∧∀ j,j<k→idxM M (V.getD j 0)=none} =>
    ((fun (a_:AV) (d_:Ob)=>(⟨(a_::(.ptr 1 0 0)::a_::a_::(.int .i64 i)::(.sl (i64s V))::(.int .i64 s.1)::a_::a_::a_::a_::a_::a_::a_::a_::a_::a_::a_::a_::a_::a_::a_::a_::a_::a_::a_::a_::a_::a_::a_::a_::a_::a_::a_::a_::a_::a_::a_::a_::a_::a_::a_::a_::a_::a_::a_::a_::a_::a_::a_::a_::a_::a_::a_::a_::a_::a_::a_::a_::a_::a_::a_::a_::a_::a_::a_::a_::a_::a_::a_::a_::a_::a_::a_::a_::a_::a_::a_::a_::a_::a_::[]),(d_::(.arr 24 2 false [[.int .i64 n,.sl (tab rowT t)]])::d_::d_::d_::d_::d_::d_::d_::d_::d_::d_::d_::d_::d_::d_::d_::d_::d_::d_::d_::d_::d_::d_::d_::d_::d_::d_::d_::d_::d_::d_::d_::d_::d_::d_::d_::d_::d_::d_::d_::d_::d_::d_::d_::d_::d_::d_::d_::d_::d_::d_::d_::d_::d_::d_::d_::d_::d_::d_::d_::d_::d_::d_::d_::d_::d_::d_::d_::d_::d_::d_::d_::d_::d_::d_::d_::d_::d_::d_::d_::[])⟩:St)) .any .dead)) (fun s=>V.length-s.1)
    ⟨0,by omega,by omega⟩ (Le_drop (by simp [leE]) (by simp [leH]) rfl rfl) fun s=>?_)
   obtain ⟨k,hk,hpr3⟩:=s
   dsimp only
   by_cases hlk:k<V.length
   ·have hvm:V.getD k 0∈V:=by simp [List.getD_eq_getElem?_getD,hlk]
    have hbk:=hbad _ hvm
    have hnk:idxM M (V.getD k 0)=none→∀ j,j<k+1→idxM M (V.getD j 0)=none:=fun h j hj=>by
     by_cases hji:j=k
     ·subst hji;exact h
     ·exact hpr3 j (by omega)
    generalize hv:V.getD k 0=v at *
    have hrv:=hro v
    refine W_seq ?_
    ((refine W_seqV ?_);intro K hK;(refine sUbX hlk ?_))
    (refine hK _ ?_;clear hK K)
    (refine W_ct rfl ?_)
    refine W_skip ?_
    simp only [thenW]
    refine W_seq ?_
    refine W_block ?_
    cases hx:idxM M v with
    | some j =>
     rw [hbk (by rw [hx];simp)]
     rw [rowI_some hx] at hrv
     simp only [Bool.false_eq_true,if_false]
     ((refine W_seqD mixed [] (by kernel_rfl) ?_);intro K hK;(refine sUbX (And.intro hv hlk) ?_))
     (refine ⟨by kernel_rfl,_,.pure rfl (hrv),?_⟩;(try (refine sUb ?_)))
     (refine hK _ ?_;clear hK K)
     (repeat' (first | (exfalso;simp at h;done) | (refine W_seqV fun K hK=>?_;(try (refine sUb ?_));refine hK _ ?_;clear hK K) | (refine W_ret ?_;(refine qG ?_;try exact True.intro)) | (refine W_cond rfl (fun h=>?_) (fun h=>?_) <;> (try simp only [cond_true,cond_false,ne_eq,cB] at h))))
    | none =>
     rw [rowI_none hx] at hrv
     ((refine W_seqD mixed [] (by kernel_rfl) ?_);intro K hK;(refine sUbX (And.intro hv hlk) ?_))
     (refine ⟨by kernel_rfl,_,.pure rfl (hrv),?_⟩;(try (refine sUb ?_)))
     (refine hK _ ?_;clear hK K)
     (refine W_cf rfl ?_)
     refine W_skip ?_
     simp only [thenW,blockW]
     ((refine W_regV ?_);intro K hK;(refine sUb ?_))
     (refine hK _ ?_;clear hK K)
     simp only [blockW,thenW]
     refine ⟨⟨k+1,by omega,hnk hx⟩,Le_drop (by simp [leE]) (by simp [leH]) rfl rfl,?_⟩
     dsimp only
     omega
   ·obtain rfl:k=V.length:=by omega
    refine W_seq ?_
    ((refine W_seqV ?_);intro K hK;(refine sUb ?_))
    (refine hK _ ?_;clear hK K)
    (refine W_cf rfl ?_)
    refine W_exit ?_
    simp only [thenW,blockW,if_true]
    ((refine W_regV ?_);intro K hK;(refine sUb ?_))
    (refine hK _ ?_;clear hK K)
    simp only [thenW,blockW]
    refine ⟨⟨i+1,by omega,hnx fun v hv=>?_⟩,Le_drop (by simp [leE]) (by simp [leH]) rfl rfl,?_⟩
    ·obtain ⟨j,hj,rfl⟩:=List.getElem_of_mem hv
     have:=hpr3 j hj
     rwa [show V.getD j 0=V[j] by simp [List.getD_eq_getElem?_getD,hj]] at this
    ·dsimp only
     omega
  ·obtain rfl:i=t.length:=by omega
   have hG:GT n M:=hof (by omega) (by omega) (fun j hj=>hpre j (by omega)) fun j hj p hp=>hpr2 j (by omega) p.1 (List.mem_map.2 ⟨p,hp,rfl⟩)
   rw [hgT hG]
   refine W_seq ?_
   ((refine W_seqV ?_);intro K hK;(refine sUb ?_))
   (refine hK _ ?_;clear hK K)
   (refine W_cf rfl ?_)
   refine W_exit ?_
   simp only [thenW,blockW,if_true]
   (repeat' (first | (refine W_seqV fun K hK=>?_;(try (refine sUb ?_));refine hK _ ?_;clear hK K) | (refine W_ret ?_;(refine qG ?_;try exact True.intro))))
def NewSV (base:Nat) (w:World) (F:Nat→Prop) (T:TypeId) (k:Nat) (pre:List AV) (rows:List (List AV)) (v:Value):Prop :=
 ∃ vs x,v = .agg (vs++[x]).toArray∧Rps w F noPl pre vs∧NewA base w F T k rows x
def NewS (P:Program) (g:FuncId) (args:List AV) (T:TypeId) (k:Nat) (pre:List AV) (R:List (List AV)→Prop):Prop :=
 pre.all AV.flat=true∧∀ (w:World) (vals:List Value) (F:Nat→Prop),(∀ k,F k→k<w.heap.size)→Rps w F noPl args vals →
  Calls P g vals.toArray w fun e w'=>∃ v rows,e = .returned v∧R rows∧Below w.heap.size w w'∧NewSV w.heap.size w' F T k pre rows v
theorem flats_any {w w':World} {A A':Nat→Prop} {ρ ρ':Pl}:∀ (l:List AV) {vs:List Value},l.all AV.flat=true→Rps w A ρ l vs→Rps w' A' ρ' l vs
 | [],_,_,h=>by simpa only [Rps] using h
 | x::l,vs,hf,h=>by
  simp only [List.all_cons,Bool.and_eq_true] at hf
  simp only [Rps] at h ⊢
  obtain ⟨v,us,h1,h2,h3⟩:=h
  exact ⟨v,us,h1,flat_any x hf.1 h2,flats_any l hf.2 h3⟩
def newSK (T:TypeId) (k:Nat) (pre:List AV) (R:List (List AV)→Prop) (hp:List Ob):AV→Prop
 | .agg cells=>∃ x,cells=pre++[x]∧newK T k R hp x
 | _=>False
def newSQ (P:Program) (rs:List ResultVar) (T:TypeId) (k:Nat) (pre:List AV) (R:List (List AV)→Prop):Exit→St→Prop
 | .normal,s=>resW P s rs fun xs=>newSK T k pre R s.hp (asOne xs)
 | .ret,s=>resW P s rs fun xs=>newSK T k pre R s.hp (asOne xs)
 | _,_=>False
theorem newK_A {fr:Fr} {ρ:Pl} {s:St} {a:Act} {w:World} (hr:Rep fr ρ s a w) (hpins:fr.pins=[]) {T:TypeId} {k:Nat} {R:List (List AV)→Prop} {x:AV} {v:Value} (h1:newK T k R s.hp x) (h3:Rp w (Av fr.F ρ) ρ x v) :
  ∃ rows,R rows∧NewA fr.base w fr.F T k rows v:=by
 cases x with
 | nils =>
  simp only [Rp] at h3
  exact ⟨[],h1,.inl ⟨h3,rfl⟩⟩
 | sref i off n =>
  obtain ⟨rows,rfl,rfl,hi,hR⟩:=h1
  have ho:=hr.heap i
  rw [show s.hp.getD i .dead = .arr T k true rows by simp [List.getD_eq_getElem?_getD,hi]] at ho
  simp only [Rp] at h3
  rcases h3 with ⟨g1,g2,g3,g4⟩ | ⟨b,s',cap,len,x,g1,g2,g3,g4⟩
  ·exact ⟨rows,hR,.inl ⟨g4,List.eq_nil_of_length_eq_zero g3⟩⟩
  ·rw [g1] at ho
   obtain ⟨e1,e2,vss,rest,e3,e4,e5⟩:=ho
   subst e1
   have hx0:=g4 (.inr trivial)
   rw [Nat.zero_mul] at hx0
   subst hx0
   refine ⟨rows,hR,.inr ⟨b,cap,?_,by rw [g3,Nat.sub_zero],vss,rest,e3,?_,e5⟩⟩
   ·rcases hr.mine i _ b g1 rfl with h4 | h4
    ·exact h4
    ·exact absurd h4.1 (by simp [hpins])
   ·exact RpR.later (ρ:=noPl) _ ⟨Nat.le_refl _,fun c _ hc=>by
     rcases hc with hc | rfl
     ·exact .inl hc
     ·exact .inr ⟨i,_,g1,rfl⟩,fun _ _ _=>rfl,fun _ _ h=>h⟩ e4
 | _=>exact h1.elim
theorem newS_of_W {P:Program} {g:FuncId} {fn:Func} {c:Code} {args:List AV} {T:TypeId} {k:Nat} {pre:List AV} {R:List (List AV)→Prop} (hf:P.funcs[g]?=some fn) (hb:fn.body=some c) {rs:List ResultVar} (hrs:fn.results.toList=rs) {nt:Nat} (hn:fn.ntmps=nt) (hpre:pre.all AV.flat=true)
  (h:W P [] c (newSQ P rs T k pre R) ⟨args++List.replicate (nt-args.length) .und,List.replicate nt .dead⟩):NewS P g args T k pre R:=by
 subst hrs;subst hn
 refine ⟨hpre,fun w vals F hF hv=>?_⟩
 have hlen:=hv.length
 refine calls_of_wp hf hb ?_
 let fr:Fr:=⟨w.heap.size,w,F,fun _=>False,[],noPl,fun _ _ h=>h⟩
 have hA:Av F noPl=F:=by
  funext k
  simp [Av,noPl]
 have hrep:Rep fr noPl ⟨args++List.replicate (fn.ntmps-args.length) .und,List.replicate fn.ntmps .dead⟩ { tmps:=vals.toArray++Array.replicate (fn.ntmps-vals.toArray.size) undef,defers:=[] } w:=by
  refine { keep:=⟨rfl,rfl,rfl,Nat.le_refl _,fun _ _ _=>rfl⟩,base:=Nat.le_refl _,defers:=rfl,heap:=fun i=>?_,inj:=(fun i j p q b hi=>by cases hi),mine:=(fun i p b hi=>by cases hi),fF:=hF,pin:=(fun i hi=>by cases hi),env:=?_ }
  ·show HRo _ _ _ ((List.replicate fn.ntmps Ob.dead).getD i .dead) _
   rw [show (List.replicate fn.ntmps Ob.dead).getD i .dead = .dead by
    rw [List.getD_eq_getElem?_getD,List.getElem?_replicate];split <;> rfl]
   rfl
  ·show Rps w (Av F noPl) noPl _ _
   rw [hA]
   have h1:(vals.toArray++Array.replicate (fn.ntmps-vals.toArray.size) undef).toList=vals++List.replicate (fn.ntmps-args.length) undef:=by
    simp [hlen]
   rw [h1]
   refine hv.append (Rps.mk (by simp) fun i x v hx hv=>?_)
   rw [List.getElem?_replicate] at hx hv
   split at hx
   ·rename_i hi;rw [if_pos hi] at hv;cases hx;cases hv;simp only [Rp]
   ·cases hx
 refine Code.wp_mono (fun e a' w' he=>?_) (h fr noPl _ w rfl hrep)
 obtain ⟨s,ρ,hq,hr⟩:=he
 have fin:resW P s fn.results.toList (fun xs=>newSK T k pre R s.hp (asOne xs))→a'.defers=[]∧∃ v,(results fn a'.tmps).run P w' = .ok v w'∧∃ v2 rows,Ending.returned v = .returned v2∧R rows∧Below w.heap.size w w'∧NewSV w.heap.size w' F T k pre rows v2:=by
  intro hk
  obtain ⟨xs,v,h1,h2,h3⟩:=results_sound hr fn hk
  have hbel:Below w.heap.size w w':=⟨hr.keep.os,hr.keep.tape,hr.keep.output,hr.keep.size,fun k hk=>hr.keep.block k hk (fun h=>h)⟩
  refine ⟨hr.defers,v,h2,?_⟩
  cases hx:asOne xs with
  | agg cells =>
   rw [hx] at h1 h3
   obtain ⟨x,rfl,hkx⟩:=h1
   simp only [Rp] at h3
   obtain ⟨vs0,rfl,h4⟩:=h3
   obtain ⟨vs,us,rfl,h5,h6⟩:=h4.of_append
   simp only [Rps] at h6
   obtain ⟨y,_,rfl,h7,rfl⟩:=h6
   obtain ⟨rows,hR,hN⟩:=newK_A hr rfl hkx h7
   exact ⟨_,rows,rfl,hR,hbel,vs,y,rfl,flats_any _ hpre h5,hN⟩
  | _=>rw [hx] at h1;exact h1.elim
 cases e with
 | normal=>exact fin hq
 | ret=>exact fin hq
 | _=>exact hq.elim
theorem call_newS {P:Program} {pins:List Nat} {g:FuncId} {avs:List AV} {s:St} {K:AV→St→Prop} {T:TypeId} {k:Nat} {pre:List AV} {R:List (List AV)→Prop} (d:Nat) (hd:s.hp[d]?=some .dead) (ha:AV.pures avs=true) (hnew:NewS P g (AV.datas avs) T k pre R)
  (hk:∀ rows,R rows→K (.agg (pre++[.sref d 0 rows.length])) (s.seth d (.arr T k true rows))):CallOk P pins g avs s K:=by
 intro fr ρ a w vals hp hr hv
 refine (hnew.2 w vals (Av fr.F ρ) ?_ (Rps.data avs (Rps.pure noPl avs ha hv))).mono fun e w' he=>?_
 ·rintro k (hk | ⟨i,p,h1,h2⟩)
  ·exact Nat.lt_of_lt_of_le (hr.fF k hk) hr.base
  ·exact hr.lt h1 h2
 obtain ⟨v,rows,h1,h2,h3,vs,x,rfl,h4,h5⟩:=he
 obtain ⟨ρ',h6,h7⟩:=hr.adopt h3 hd h5
 refine ⟨_,_,_,ρ',h1,hk rows h2,h6,?_⟩
 simp only [Rp]
 refine ⟨_,rfl,Rps.append (flats_any _ hnew.1 h4) ?_⟩
 simp only [Rps]
 exact ⟨_,_,rfl,h7,rfl⟩
theorem NewS.pure {P:Program} {g:FuncId} {args:List AV} {T:TypeId} {k:Nat} {pre:List AV} {R:List (List AV)→Prop} (h:NewS P g args T k pre R):Pure P g args (fun r=>∃ rows,R rows∧r = .agg (pre++[.sl rows])):=by
 intro w vals F hF hv
 refine (h.2 w vals F hF hv).mono fun e w' he=>?_
 obtain ⟨v,rows,h1,h2,h3,vs,x,rfl,h5,h4⟩:=he
 refine ⟨_,_,h1,⟨rows,h2,rfl⟩,h3,?_⟩
 simp only [Rp]
 refine ⟨_,rfl,h5.append ?_⟩
 simp only [Rps,Rp]
 refine ⟨_,_,rfl,?_,rfl⟩
 rcases h4 with ⟨rfl,rfl⟩ | ⟨b,cap,hb,rfl,vss,rest,e1,e2,e3,e4,e5,e6⟩
 ·exact ⟨none,0,by simp,by simp,by simp [maxLen],.inl rfl⟩
 ·refine ⟨_,cap,rfl,e5,e6,.inr ⟨b,0,vss,rfl,fun hFb=>?_,(Array.getElem?_eq_some_iff.1 e1).1,?_,RpR.later (ρ:=noPl) _ ⟨Nat.le_refl _,fun c _ hc => .inl hc,fun _ _ _=>rfl,fun _ _ h=>h⟩ e2⟩⟩
  ·have:=hF b hFb
   omega
  ·intro j u hj
   have h5:=(List.getElem?_eq_some_iff.1 hj).1
   simp only [World.cell?,Nat.zero_add]
   rw [e1]
   simp [List.getElem?_append_left h5,hj]
end Go.Proofs.YtjmpajgjaefcjaaGreat.Vm
/-
  The reference's tableaus: the rows by rising variables.
-/
namespace Go.Proofs.YtjmpajgjaefcjaaGreat.Vm
open Go Go.RowKit
theorem sUc {G G' : Prop} (h : G') (e : G = G' := by conv => lhs; simp (disch := omega) only [rowsOf, cNat, cN, St.ret, St.seth, Eff.app, Eff.wi, sepL, guardOf, St.known, objOf, List.set, sliceW, litW, copyW, lenOf, bnd, mxOk, ofCells, TI.isAgg, cellsOf, storable, AV.one, dead, laid, overlay, reduceCtorEq, Int.reduceLE, Int.reduceLT, Int.reduceSub, Int.reduceAdd, Nat.reduceMul, Int.reduceToNat, Nat.reducePow, Int.reduceNeg, Nat.reduceAdd, Nat.reduceLT, Nat.reduceLeDiff, sA, sB, Nat.reduceEqDiff, cQ, rowQ, rowU, rowT, rowM, i64s_getD, i64s_length, i64s_all, tab_length, tab_drop, tab_take, tab_append, tab_nil, rowT_all, rowT_one, rowT_pure, rowU_all, rowU_one, rowU_pure, rowQ_all, rowQ_one, rowQ_pure, rowM_all, rowM_one, rowM_pure, List.take_length, List.length_append, sT]) : G := e.mpr h
theorem sUcX {G G' P : Prop} (p : P) (h : G') (e : P → G = G' := by intro p; conv => lhs; simp (disch := omega) only [rowsOf, cNat, cN, St.ret, St.seth, Eff.app, Eff.wi, sepL, guardOf, St.known, objOf, List.set, sliceW, litW, copyW, lenOf, bnd, mxOk, ofCells, TI.isAgg, cellsOf, storable, AV.one, dead, laid, overlay, reduceCtorEq, Int.reduceLE, Int.reduceLT, Int.reduceSub, Int.reduceAdd, Nat.reduceMul, Int.reduceToNat, Nat.reducePow, Int.reduceNeg, Nat.reduceAdd, Nat.reduceLT, Nat.reduceLeDiff, sA, sB, Nat.reduceEqDiff, cQ, rowQ, rowU, rowT, rowM, i64s_getD, i64s_length, i64s_all, tab_length, tab_drop, tab_take, tab_append, tab_nil, rowT_all, rowT_one, rowT_pure, rowU_all, rowU_one, rowU_pure, rowQ_all, rowQ_one, rowQ_pure, rowM_all, rowM_one, rowM_pure, List.take_length, List.length_append, sT, p]) : G := (e p).mpr h
theorem aUc {G G' : Prop} (h : G') (f : Wr G' → G := by intro h; (repeat (first | (refine W_seqV fun K hK => ?_; (try (refine sUc ?_; try exact True.intro)); (repeat refine aI ?_); refine hK _ ?_; clear hK K) | (refine W_seqR fun K hK => ?_; (try (refine sUc ?_; try exact True.intro)); (repeat refine aI ?_); refine hK _ ?_; clear hK K) | (refine W_seqD mixed [] (by kernel_rfl) fun K hK => ?_; (try (refine sUc ?_; try exact True.intro)); (repeat refine aI ?_); refine hK _ ?_; clear hK K))); exact h.out) : G := f ⟨h⟩

def lastK (l : List Int) (k : Nat) : Int := if k = 0 then -1 else l.getD (k - 1) 0
theorem lastK_succ (l : List Int) (k : Nat) : lastK l (k + 1) = l.getD k 0 := by simp [lastK]
theorem next_least {l : List Int} (hl : l.Pairwise (· < ·)) (h0 : ∀ x ∈ l, 0 ≤ x) {k : Nat} (hk : k < l.length) : lastK l k < l.getD k 0 ∧ ∀ x ∈ l, lastK l k < x → l.getD k 0 ≤ x := by
  rw [List.pairwise_iff_getElem] at hl
  have hg : ∀ i (h : i < l.length), l.getD i 0 = l[i] := fun i h => by simp [List.getD_eq_getElem?_getD, h]
  unfold lastK
  rw [hg k hk]
  constructor
  · split
    · have := h0 l[k] (List.getElem_mem hk); omega
    · rw [hg (k - 1) (by omega)]
      exact hl (k - 1) k (by omega) hk (by omega)
  · intro x hx hlt
    obtain ⟨j, hj, rfl⟩ := List.getElem_of_mem hx
    by_cases hjk : j < k
    · exfalso
      rw [if_neg (by omega), hg (k - 1) (by omega)] at hlt
      by_cases h1 : j = k - 1
      · subst h1; omega
      · have := hl j (k - 1) hj (by omega) (by omega)
        omega
    · by_cases h1 : j = k
      · subst h1; omega
      · have := hl k j hk hj (by omega)
        omega
/-- The least of the first i that is above last: where it stands. -/
def Least (M : TM) (last : Int) (i : Nat) (a : Int) : Prop := (a = -1 ∧ ∀ j, j < i → (M.getD j default).1 ≤ last) ∨ ∃ m : Nat, a = (m : Int) ∧ m < i ∧ last < (M.getD m default).1 ∧ ∀ j, j < i → last < (M.getD j default).1 → (M.getD m default).1 ≤ (M.getD j default).1
set_option maxHeartbeats 4000000 in
theorem r7sorted_gen (n : Int) (t : TR) (hlen : t.length ≤ 68157440) (hpf : ∀ r ∈ t, PF r.2 8589934592) (hnod : (keys (nrmT t)).Nodup) (hpos : ∀ b ∈ keys (nrmT t), 0 ≤ b) : NewS Tryz.prog 64 [cT n t] 84 2 [.int .i64 n] (· = tab rowU (sortM (nrmT t))) := by
  have hml := nrmT_len t
  have hnd := fun i (hi : i < t.length) => nrmT_getD hi
  have hno : ∀ i, i < t.length → Pure Tryz.prog 86 [cF (t.getD i default).2] (· = cL (normF (vals (t.getD i default).2))) := fun i hi => f6norm_ok _ (hpf _ (getD_mem hi)) (by omega)
  have hll : (sortK (keys (nrmT t))).length = t.length := by rw [sortK_len, keys_len, hml]
  have hlast := fun k (hk : k < (sortK (keys (nrmT t))).length) => next_least (sortK_lt hnod) (fun x hx => hpos x (mem_sortK.1 hx)) hk
  have hkm : ∀ k, k < (sortK (keys (nrmT t))).length → ∃ j, j < (nrmT t).length ∧ ((nrmT t).getD j default).1 = (sortK (keys (nrmT t))).getD k 0 := fun k hk => by
    have : (sortK (keys (nrmT t))).getD k 0 ∈ keys (nrmT t) := mem_sortK.1 (by simp [List.getD_eq_getElem?_getD, hk])
    obtain ⟨j, _, h2, h3, _⟩ := look_idx this
    exact ⟨j, h2, h3⟩
  have hmk : ∀ m, m < (nrmT t).length → ((nrmT t).getD m default).1 ∈ sortK (keys (nrmT t)) := fun m hm => mem_sortK.2 (List.mem_map.2 ⟨_, getD_mem hm, rfl⟩)
  have hst : ∀ k m, k < (sortK (keys (nrmT t))).length → m < (nrmT t).length → ((nrmT t).getD m default).1 = (sortK (keys (nrmT t))).getD k 0 → (sortM (nrmT t)).take (k + 1) = (sortM (nrmT t)).take k ++ [(nrmT t).getD m default] := fun k m hk hm he => by
    rw [take_snoc (by rw [sortM_len, hml, ← hll]; exact hk), sortM_getD hk, ← he]
    have := idx_nodup hnod hm
    rw [(idx_some this).2.2.1]
    rfl
  have h0 : (sortM (nrmT t)).take 0 = [] := rfl
  have hall : (sortM (nrmT t)).take t.length = sortM (nrmT t) := by rw [← hml, ← sortM_len, List.take_length]
  have hln : ∀ i, i ≤ t.length → ((sortM (nrmT t)).take i).length = i := fun i hi => by rw [List.length_take, sortM_len]; omega
  clear hpf hnod hpos
  unfold cT at *
  rw [← hall]
  clear hall
  generalize hE : (fun i => (sortM (nrmT t)).take i) = E at *
  have hE' : ∀ i, (sortM (nrmT t)).take i = E i := fun i => congrFun hE i
  simp only [hE'] at *
  clear hE hE'
  generalize sortK (keys (nrmT t)) = l at *
  generalize nrmT t = M at *
  (refine newS_of_W (T := 84) (k := 2) (pre := [.int .i64 n]) Tryz.func64 rfl (rs := [Go.ResultVar.cell 2 24]) rfl (nt := 73) rfl rfl ?_; simp only [List.length_cons, List.length_nil, List.replicate, List.cons_append, List.nil_append])
  (refine aUc ?_)
  refine W.le ?_ (Le_nilO 3 0 1 70 84 2 true rfl rfl rfl rfl)
  simp only [List.set]
  refine W_seq ?_
  refine W_block (W_loop (fun s : {k : Nat // k ≤ t.length} =>
      ⟨(.any :: (.ptr 1 0 0) :: (.ptr 2 0 0) :: (.ptr 3 0 0) :: (.int .i64 (lastK l s.1)) :: .any :: .any :: .any :: .any :: .any :: .any :: .any :: .any :: .any :: .any :: .any :: .any :: .any :: .any :: .any :: .any :: .any :: .any :: .any :: .any :: .any :: .any :: .any :: .any :: .any :: .any :: .any :: .any :: .any :: .any :: .any :: .any :: .any :: .any :: .any :: .any :: .any :: .any :: .any :: .any :: .any :: .any :: .any :: .any :: .any :: .any :: .any :: .any :: .any :: .any :: .any :: .any :: .any :: .any :: .any :: .any :: .any :: .any :: .any :: .any :: .any :: .any :: .any :: .any :: .any :: .any :: .any :: .any :: []),
       (.dead :: (.arr 24 2 false [[.int .i64 n, .sl (tab rowT t)]]) :: (.arr 24 2 false [[.int .i64 0, .nils]]) :: (.arr 24 2 false [[.int .i64 n, .sref 70 0 s.1]]) :: .dead :: .dead :: .dead :: .dead :: .dead :: .dead :: .dead :: .dead :: .dead :: .dead :: .dead :: .dead :: .dead :: .dead :: .dead :: .dead :: .dead :: .dead :: .dead :: .dead :: .dead :: .dead :: .dead :: .dead :: .dead :: .dead :: .dead :: .dead :: .dead :: .dead :: .dead :: .dead :: .dead :: .dead :: .dead :: .dead :: .dead :: .dead :: .dead :: .dead :: .dead :: .dead :: .dead :: .dead :: .dead :: .dead :: .dead :: .dead :: .dead :: .dead :: .dead :: .dead :: .dead :: .dead :: .dead :: .dead :: .dead :: .dead :: .dead :: .dead :: .dead :: .dead :: .dead :: .dead :: .dead :: .dead :: (.arr 84 2 true (tab rowU (E s.1))) :: .dead :: .dead :: [])⟩) (fun s => t.length - s.1)
      ⟨0, by omega⟩ (Le_drop (by simp [leE, lastK]) (by simp [leH, h0, tab]) rfl rfl) fun s => ?_)
  obtain ⟨k, hk⟩ := s
  dsimp only
  by_cases hlt : k < t.length
  · obtain ⟨hgt, hleast⟩ := hlast k (by omega)
    have hstk := hst k
    have hlk := hln k (by omega)
    obtain ⟨j0, hj0, hj1⟩ := hkm k (by omega)
    have hls := lastK_succ l k
    generalize hlv : l.getD k 0 = v at *
    generalize hla : lastK l k = last at *
    generalize hE1 : E (k + 1) = o' at *
    generalize E k = o at *
    refine W_seq ?_
    ((refine W_seqV ?_); intro K hK; (refine sUcX hlt ?_))
    (refine hK _ ?_; clear hK K)
    (refine W_cond rfl (fun _ => ?_) (fun h => by cases h))
    refine W_skip ?_
    simp only [thenW]
    refine W_block ?_
    (refine aUc ?_)
    refine W_seq ?_
    ((refine W_seqV ?_); intro K hK; (refine sUc ?_))
    (refine hK _ ?_; clear hK K)
    refine W_block (W_loop (fun s : {p : Nat × Int // p.1 ≤ t.length ∧ Least M last p.1 p.2} =>
      ⟨(.any :: (.ptr 1 0 0) :: (.ptr 2 0 0) :: (.ptr 3 0 0) :: (.int .i64 last) :: (.int .i64 s.1.2) :: (.int .i64 s.1.1) :: .any :: .any :: .any :: .any :: .any :: .any :: .any :: .any :: .any :: .any :: .any :: .any :: .any :: .any :: .any :: .any :: .any :: .any :: .any :: .any :: .any :: .any :: .any :: .any :: .any :: .any :: .any :: .any :: .any :: .any :: .any :: .any :: .any :: .any :: .any :: .any :: .any :: .any :: .any :: .any :: .any :: .any :: .any :: .any :: .any :: .any :: .any :: .any :: .any :: .any :: .any :: .any :: .any :: .any :: .any :: .any :: .any :: .any :: .any :: .any :: .any :: .any :: .any :: .any :: .any :: .any :: []),
       (.dead :: (.arr 24 2 false [[.int .i64 n, .sl (tab rowT t)]]) :: (.arr 24 2 false [[.int .i64 0, .nils]]) :: (.arr 24 2 false [[.int .i64 n, .sref 70 0 k]]) :: .dead :: .dead :: .dead :: .dead :: .dead :: .dead :: .dead :: .dead :: .dead :: .dead :: .dead :: .dead :: .dead :: .dead :: .dead :: .dead :: .dead :: .dead :: .dead :: .dead :: .dead :: .dead :: .dead :: .dead :: .dead :: .dead :: .dead :: .dead :: .dead :: .dead :: .dead :: .dead :: .dead :: .dead :: .dead :: .dead :: .dead :: .dead :: .dead :: .dead :: .dead :: .dead :: .dead :: .dead :: .dead :: .dead :: .dead :: .dead :: .dead :: .dead :: .dead :: .dead :: .dead :: .dead :: .dead :: .dead :: .dead :: .dead :: .dead :: .dead :: .dead :: .dead :: .dead :: .dead :: .dead :: .dead :: (.arr 84 2 true (tab rowU o)) :: .dead :: .dead :: [])⟩) (fun s => t.length - s.1.1)
      ⟨(0, -1), by omega, .inl ⟨rfl, by omega⟩⟩ (Le_drop (by simp [leE]) (by simp [leH]) rfl rfl) fun s => ?_)
    obtain ⟨⟨i, a⟩, hi, ha⟩ := s
    dsimp only at *
    by_cases hil : i < t.length
    · have hti : (tab rowT t).getD i [] = rowT (t.getD i default) := tab_getD hil
      have hMi : (M.getD i default).1 = (t.getD i default).1 := by rw [hnd i hil]
      have hno1 : (M.getD i default).1 ≤ last → Least M last i a → Least M last (i + 1) a := fun h1 h2 => by
        rcases h2 with ⟨h3, h4⟩ | ⟨m, h3, h4, h5, h6⟩
        · exact .inl ⟨h3, fun j hj => by
            by_cases hji : j = i
            · subst hji; exact h1
            · exact h4 j (by omega)⟩
        · exact .inr ⟨m, h3, by omega, h5, fun j hj hl => by
            by_cases hji : j = i
            · subst hji; omega
            · exact h6 j (by omega) hl⟩
      have hnew : last < (M.getD i default).1 → (∀ j, j < i → last < (M.getD j default).1 → (M.getD i default).1 ≤ (M.getD j default).1) → Least M last (i + 1) (i : Int) := fun h1 h2 =>
        .inr ⟨i, rfl, by omega, h1, fun j hj hl => by
          by_cases hji : j = i
          · subst hji; exact Int.le_refl _
          · exact h2 j (by omega) hl⟩
      have hold : ∀ m : Nat, m < i → last < (M.getD m default).1 → (∀ j, j < i → last < (M.getD j default).1 → (M.getD m default).1 ≤ (M.getD j default).1) → (M.getD m default).1 ≤ (M.getD i default).1 → Least M last (i + 1) (m : Int) := fun m h1 h2 h3 h4 =>
        .inr ⟨m, rfl, by omega, h2, fun j hj hl => by
          by_cases hji : j = i
          · subst hji; exact h4
          · exact h3 j (by omega) hl⟩
      rw [hMi] at hno1 hnew hold
      generalize t.getD i default = r at *
      obtain ⟨b, f⟩ := r
      simp only [rowT] at hti
      dsimp only at *
      refine W_seq ?_
      ((refine W_seqV ?_); intro K hK; (refine sUcX hil ?_))
      (refine hK _ ?_; clear hK K)
      (refine W_cond rfl (fun _ => ?_) (fun h => by cases h))
      refine W_skip ?_
      simp only [thenW]
      refine W_seq ?_
      refine W_block ?_
      refine W_seq ?_
      by_cases c1 : last < b
      · rcases ha with ⟨rfl, hle⟩ | ⟨m, rfl, hm, hmgt, hmle⟩
        · ((refine W_regD mixed [] (by kernel_rfl) ?_); intro K hK; (refine sUcX (And.intro hti (And.intro hil c1)) ?_))
          (refine hK _ ?_; clear hK K)
          simp only [thenW]
          (refine W_cond rfl (fun _ => ?_) (fun h => by cases h))
          ((refine W_regV ?_); intro K hK; (refine sUc ?_))
          (refine hK _ ?_; clear hK K)
          simp only [thenW, blockW]
          ((refine W_regV ?_); intro K hK; (refine sUc ?_))
          (refine hK _ ?_; clear hK K)
          simp only [blockW, thenW]
          refine ⟨⟨(i + 1, (i : Int)), by dsimp only; omega, hnew c1 fun j hj hl => by have := hle j hj; omega⟩, Le_drop (by simp [leE]) (by simp [leH]) rfl rfl, ?_⟩
          dsimp only
          omega
        · have hXm : (tab rowT t).getD m [] = rowT (t.getD m default) := tab_getD (by omega)
          have hMm : (M.getD m default).1 = (t.getD m default).1 := by rw [hnd m (by omega)]
          have hm0 : ¬ ((m : Int) < 0) := by omega
          have hmt : m < t.length := by omega
          have hold2 := hold m hm hmgt hmle
          rw [hMm] at hold2 hmgt hmle
          generalize t.getD m default = r2 at *
          obtain ⟨b2, f2⟩ := r2
          simp only [rowT] at hXm
          dsimp only at *
          by_cases c2 : b < b2
          · ((refine W_regD mixed [] (by kernel_rfl) ?_); intro K hK; (refine sUcX (And.intro hti (And.intro hil (And.intro c1 (And.intro hXm (And.intro hmt (And.intro hm0 c2)))))) ?_))
            (refine hK _ ?_; clear hK K)
            simp only [thenW]
            (refine W_cond rfl (fun _ => ?_) (fun h => by cases h))
            ((refine W_regV ?_); intro K hK; (refine sUc ?_))
            (refine hK _ ?_; clear hK K)
            simp only [thenW, blockW]
            ((refine W_regV ?_); intro K hK; (refine sUc ?_))
            (refine hK _ ?_; clear hK K)
            simp only [blockW, thenW]
            refine ⟨⟨(i + 1, (i : Int)), by dsimp only; omega, hnew c1 fun j hj hl => by have := hmle j hj hl; omega⟩, Le_drop (by simp [leE]) (by simp [leH]) rfl rfl, ?_⟩
            dsimp only
            omega
          · ((refine W_regD mixed [] (by kernel_rfl) ?_); intro K hK; (refine sUcX (And.intro hti (And.intro hil (And.intro c1 (And.intro hXm (And.intro hmt (And.intro hm0 c2)))))) ?_))
            (refine hK _ ?_; clear hK K)
            simp only [thenW]
            (refine W_cond rfl (fun h => by cases h) (fun _ => ?_))
            refine W_skip ?_
            simp only [thenW, blockW]
            ((refine W_regV ?_); intro K hK; (refine sUc ?_))
            (refine hK _ ?_; clear hK K)
            simp only [blockW, thenW]
            refine ⟨⟨(i + 1, (m : Int)), by dsimp only; omega, hold2 (by omega)⟩, Le_drop (by simp [leE]) (by simp [leH]) rfl rfl, ?_⟩
            dsimp only
            omega
      · ((refine W_regD mixed [] (by kernel_rfl) ?_); intro K hK; (refine sUcX (And.intro hti (And.intro hil c1)) ?_))
        (refine hK _ ?_; clear hK K)
        simp only [thenW]
        (refine W_cond rfl (fun h => by cases h) (fun _ => ?_))
        refine W_skip ?_
        simp only [thenW, blockW]
        ((refine W_regV ?_); intro K hK; (refine sUc ?_))
        (refine hK _ ?_; clear hK K)
        simp only [blockW, thenW]
        refine ⟨⟨(i + 1, a), by dsimp only; omega, hno1 (by omega) ha⟩, Le_drop (by simp [leE]) (by simp [leH]) rfl rfl, ?_⟩
        dsimp only
        omega
    · obtain rfl : i = t.length := by omega
      obtain ⟨m, rfl, hm, hmgt, hmle⟩ : ∃ m : Nat, a = (m : Int) ∧ m < t.length ∧ last < (M.getD m default).1 ∧ ∀ j, j < t.length → last < (M.getD j default).1 → (M.getD m default).1 ≤ (M.getD j default).1 := by
        rcases ha with ⟨_, h⟩ | h
        · have := h j0 (by omega)
          omega
        · exact h
      have hmv : (M.getD m default).1 = v := by
        have e1 := hmle j0 (by omega) (by omega)
        have e2 := hleast _ (hmk m (by omega)) hmgt
        omega
      have hst2 := hstk m (by omega) (by omega) hmv
      have hXm : (tab rowT t).getD m [] = rowT (t.getD m default) := tab_getD hm
      have hnom := hno m hm
      rw [hnd m hm] at hst2 hmv
      generalize t.getD m default = r2 at *
      obtain ⟨b2, f2⟩ := r2
      simp only [rowT] at hXm
      dsimp only at *
      simp only [cF, cL] at hnom
      subst hmv
      refine W_seq ?_
      ((refine W_seqV ?_); intro K hK; (refine sUc ?_))
      (refine hK _ ?_; clear hK K)
      (refine W_cond rfl (fun h => by cases h) (fun _ => ?_))
      refine W_exit ?_
      simp only [thenW, blockW, if_true]
      ((refine W_seqV ?_); intro K hK; (refine sUcX (And.intro hXm hm) ?_))
      (refine hK _ ?_; clear hK K)
      ((refine W_regS mixed 12 [] (by kernel_rfl) ?_); intro K hK; (refine sUcX (And.intro hXm hm) ?_))
      (refine ⟨by kernel_rfl, _, .pure rfl (hnom), ?_⟩; (try (refine sUc ?_)); (repeat refine aI ?_))
      (refine hK _ ?_; clear hK K)
      simp only [thenW, blockW]
      refine ⟨⟨k + 1, by omega⟩, Le_drop (by simp [leE, hls]) (by simp [leH, hE1, hst2, ← tab_snoc, rowU, tab_take, List.take_of_length_le, hlk]) rfl rfl, ?_⟩
      dsimp only
      omega
  · obtain rfl : k = t.length := by omega
    refine W_seq ?_
    ((refine W_seqV ?_); intro K hK; (refine sUc ?_))
    (refine hK _ ?_; clear hK K)
    (refine W_cond rfl (fun h => by cases h) (fun _ => ?_))
    refine W_exit ?_
    simp only [thenW, blockW, if_true]
    have hlk := hln t.length (Nat.le_refl _)
    generalize E t.length = o at *
    (refine aUc ?_)
    refine W_ret ?_
    (simp only [thenW, blockW, newSQ, resW, resV, asOne_one, List.getD_cons_zero, List.getD_cons_succ, newSK])
    (refine sUc ?_; try exact True.intro)
    skip
    exact ⟨_, rfl, _, rfl, by rw [tab_length, hlk], rfl, rfl⟩
theorem r7sorted_new (n : Int) (t : TR) (hT : TG t) (hnod : (keys (nrmT t)).Nodup) (hpos : ∀ b ∈ keys (nrmT t), 0 ≤ b) : NewS Tryz.prog 64 [cT n t] 84 2 [.int .i64 n] (· = tab rowU (sortM (nrmT t))) :=
  r7sorted_gen n t hT.len (fun r hr => (hT.pf hr).mono (by omega)) hnod hpos
theorem r7sorted_ok (n : Int) (t : TR) (hT : TG t) (hnod : (keys (nrmT t)).Nodup) (hpos : ∀ b ∈ keys (nrmT t), 0 ≤ b) : Pure Tryz.prog 64 [cT n t] (· = cU n (sortM (nrmT t))) :=
  (r7sorted_new n t hT hnod hpos).pure.mono fun r ⟨rows, h1, h2⟩ => by
    subst h1
    exact h2
end Go.Proofs.YtjmpajgjaefcjaaGreat.Vm

namespace Go.Proofs.YtjmpajgjaefcjaaGreat.Vm
open Go Go.RowKit
theorem sUd {G G':Prop} (h:G') (e:G=G':=by conv=>lhs;simp (disch:=omega) only [rowsOf,cNat,cN,St.ret,St.seth,Eff.app,Eff.wi,sepL,guardOf,St.known,objOf,List.set,sliceW,litW,copyW,lenOf,bnd,mxOk,ofCells,TI.isAgg,cellsOf,storable,AV.one,dead,laid,overlay,reduceCtorEq,Int.reduceLE,Int.reduceLT,Int.reduceSub,Int.reduceAdd,Nat.reduceMul,Int.reduceToNat,Nat.reducePow,Int.reduceNeg,Nat.reduceAdd,Nat.reduceLT,Nat.reduceLeDiff,sA,sB,Nat.reduceEqDiff,cQ,rowQ,rowU,rowT,rowM,i64s_getD,i64s_length,i64s_all,tab_length,tab_drop,tab_take,tab_append,tab_nil,rowT_all,rowT_one,rowT_pure,rowU_all,rowU_one,rowU_pure,rowQ_all,rowQ_one,rowQ_pure,rowM_all,rowM_one,rowM_pure,List.take_length,List.length_append,sT]):G:=e.mpr h
theorem sUdX {G G' P:Prop} (p:P) (h:G') (e:P→G=G':=by intro p;conv=>lhs;simp (disch:=omega) only [rowsOf,cNat,cN,St.ret,St.seth,Eff.app,Eff.wi,sepL,guardOf,St.known,objOf,List.set,sliceW,litW,copyW,lenOf,bnd,mxOk,ofCells,TI.isAgg,cellsOf,storable,AV.one,dead,laid,overlay,reduceCtorEq,Int.reduceLE,Int.reduceLT,Int.reduceSub,Int.reduceAdd,Nat.reduceMul,Int.reduceToNat,Nat.reducePow,Int.reduceNeg,Nat.reduceAdd,Nat.reduceLT,Nat.reduceLeDiff,sA,sB,Nat.reduceEqDiff,cQ,rowQ,rowU,rowT,rowM,i64s_getD,i64s_length,i64s_all,tab_length,tab_drop,tab_take,tab_append,tab_nil,rowT_all,rowT_one,rowT_pure,rowU_all,rowU_one,rowU_pure,rowQ_all,rowQ_one,rowQ_pure,rowM_all,rowM_one,rowM_pure,List.take_length,List.length_append,sT,p]):G:=(e p).mpr h
theorem sUdV {G G':Prop} (h:G') (e:G=G':=by conv=>lhs;simp (disch:=omega) only [rowsOf,cNat,cN,St.ret,St.seth,Eff.app,Eff.wi,sepL,guardOf,St.known,objOf,List.set,sliceW,litW,copyW,lenOf,bnd,mxOk,ofCells,TI.isAgg,cellsOf,storable,AV.one,dead,laid,overlay,reduceCtorEq,Int.reduceLE,Int.reduceLT,Int.reduceSub,Int.reduceAdd,Nat.reduceMul,Int.reduceToNat,Nat.reducePow,Int.reduceNeg,Nat.reduceAdd,Nat.reduceLT,Nat.reduceLeDiff,sA,sB,Nat.reduceEqDiff,cQ,rowQ,rowU,rowT,rowM,i64s_getD,i64s_length,i64s_all,tab_length,tab_drop,tab_take,tab_append,tab_nil,rowT_all,rowT_one,rowT_pure,rowU_all,rowU_one,rowU_pure,rowQ_all,rowQ_one,rowQ_pure,rowM_all,rowM_one,rowM_pure,List.take_length,List.length_append,sT,view_sref,viewRef,view_agg,views_cons,views_nil,view_bool,view_int,view_sl,view_nils,view_str,view_tup,view_nilif]):G:=e.mpr h
theorem aUd {G G':Prop} (h:G') (f:Wr G'→G:=by intro h;(repeat (first|(refine W_seqV fun K hK=>?_;(try (refine sUd ?_;try exact True.intro));(repeat refine aI ?_);refine hK _ ?_;clear hK K)|(refine W_seqR fun K hK=>?_;(try (refine sUd ?_;try exact True.intro));(repeat refine aI ?_);refine hK _ ?_;clear hK K)|(refine W_seqD mixed [] (by kernel_rfl) fun K hK=>?_;(try (refine sUd ?_;try exact True.intro));(repeat refine aI ?_);refine hK _ ?_;clear hK K)));exact h.out):G:=f ⟨h⟩
theorem r7new_ok (n:Int):Pure Tryz.prog 29 [.int .i64 n] (·=newR n):=by
 unfold newR cU
 have hz:tab rowU []=[]:=rfl
 rw [hz]
 by_cases h1:n<0
 ·rw [if_pos h1]
  (refine pureW Tryz.func29 rfl (rs:=[Go.ResultVar.cell 2 24,Go.ResultVar.tmp 3]) rfl (n:=12) rfl ?_;simp only [List.length_cons,List.length_nil,List.replicate,List.cons_append,List.nil_append])
  (refine aUd ?_)
  ((refine W_seq (W_seqV ?_));intro K hK;(refine sUdX h1 ?_))
  (refine hK _ ?_;clear hK K)
  (repeat' (first | (exfalso;simp at h;done) | (refine W_seqV fun K hK=>?_;(try (refine sUd ?_));refine hK _ ?_;clear hK K) | (refine W_ret ?_;(refine qG ?_)) | (refine W_cond rfl (fun h=>?_) (fun h=>?_) <;> (try simp only [cond_true,cond_false,ne_eq,cB] at h))))
  (try (refine sUdV ?_;try exact True.intro))
 ·rw [if_neg h1]
  by_cases h2:65536<n
  ·rw [if_pos h2]
   (refine pureW Tryz.func29 rfl (rs:=[Go.ResultVar.cell 2 24,Go.ResultVar.tmp 3]) rfl (n:=12) rfl ?_;simp only [List.length_cons,List.length_nil,List.replicate,List.cons_append,List.nil_append])
   (refine aUd ?_)
   ((refine W_seq (W_seqV ?_));intro K hK;(refine sUdX h1 ?_))
   (refine hK _ ?_;clear hK K)
   (repeat' (first | (exfalso;simp at h;done) | (refine W_seqV fun K hK=>?_;(try (refine sUd ?_));(repeat refine aI ?_);refine hK _ ?_;clear hK K) | refine W_skip ?_ | (refine W_ret ?_;(refine qG ?_)) | (refine W_cond rfl (fun h=>?_) (fun h=>?_) <;> (try simp only [cond_true,cond_false,ne_eq,cB] at h)) | refine W_seq ?_))
   ·(try (refine sUdV ?_;try exact True.intro))
   ·exact absurd h2 (by omega)
  ·rw [if_neg h2]
   (refine pureW Tryz.func29 rfl (rs:=[Go.ResultVar.cell 2 24,Go.ResultVar.tmp 3]) rfl (n:=12) rfl ?_;simp only [List.length_cons,List.length_nil,List.replicate,List.cons_append,List.nil_append])
   (refine aUd ?_)
   ((refine W_seq (W_seqV ?_));intro K hK;(refine sUdX h1 ?_))
   (refine hK _ ?_;clear hK K)
   (repeat' (first | (exfalso;simp at h;done) | (refine W_seqV fun K hK=>?_;(try (refine sUd ?_));(repeat refine aI ?_);refine hK _ ?_;clear hK K) | refine W_skip ?_ | (refine W_ret ?_;(refine qG ?_)) | (refine W_cond rfl (fun h=>?_) (fun h=>?_) <;> (try simp only [cond_true,cond_false,ne_eq,cB] at h)) | refine W_seq ?_))
   ·exact absurd h h2
   ·(try (refine sUdV ?_;try exact True.intro))
theorem TG.sorted {t:TR} (h:TG t) {n:Int} (hg:goodB n (nrmT t)=true):Pure Tryz.prog 64 [cT n t] (·=cU n (sortM (nrmT t))) :=
 r7sorted_ok n t h (gt_iff.1 hg).nodup fun b hb=>((gt_iff.1 hg).range b hb).1
theorem foldl_take {α β:Type} [Inhabited α] (g:β→α→β) (b:β) {l:List α} {i:Nat} (h:i<l.length):(l.take (i+1)).foldl g b=g ((l.take i).foldl g b) (l.getD i default):=take_succ_foldl g b h
theorem stepR_pre {n:Int} {M:TM} (hg:GT n M) {f:List (Int × RR)} (hf:knownB n (normF (vals f))=true) (hx:ExOk M f) (i:Nat) :
  NF ((M.take i).foldl (stepR (vals f)) (normF (vals f)))∧(∀ x,nb (coef ((M.take i).foldl (stepR (vals f)) (normF (vals f))) x)≤536870912)∧((M.take i).foldl (stepR (vals f)) (normF (vals f))).length≤65536:=by
 have hk:(keys (M.take i)).Nodup:=keys_take hg.nodup i
 have h:=exprR_go (vals f) (M.take i) (normF (vals f)) (NF.norm _) hk
 have hc:∀ x,coef ((M.take i).foldl (stepR (vals f)) (normF (vals f))) x=(coef (vals f) x-if x∈keys (M.take i) then coef (vals f) x else 0)+sumM (coef (vals f)) x (M.take i):=fun x=>by rw [h.2 x,coef_norm]
 refine ⟨h.1,fun x=>?_,nf_len h.1 hg.hi (range_of_coef h.1 fun x hx=>?_)⟩
 ·rw [hc x]
  have hy:(coef (vals f) x-if x∈keys (M.take i) then coef (vals f) x else 0)=coef (vals f) x∨(coef (vals f) x-if x∈keys (M.take i) then coef (vals f) x else 0)=0:=by
   split
   ·right;grind
   ·left;grind
  exact hx.co i x _ _ (fun b => .inl rfl) hy
 ·rw [hc x,coef_out hf hx,sumM_zero _ x _ fun r hr => .inr (coef_none fun p hp he=>hx (he ▸ (hg.free r (List.mem_of_mem_take hr) p hp).1))]
  split <;> grind
theorem stepR_raw (f out:List (Int × Rat)) (b:Int) (g:List (Int × Rat)):stepR f out (b,normF g)=normF (subF out [(b,coef f b)]++normF (scaleF (coef f b) g)):=by
 unfold stepR
 refine NF.ext (NF.norm _) (NF.norm _) fun v=>?_
 simp only [coef_norm,coef_append,coef_scale]
theorem r7expr_ok (n:Int) (t:TR) (f:List (Int × RR)) (hT:TG t) (hg:GT n (nrmT t)) (hx:ExOk (nrmT t) f) (hk:knownB n (normF (vals f))=true) :
  Pure Tryz.prog 71 [cT n t,cF f] (·=cL (exprT (nrmT t) (vals f))):=by
 have hml:=nrmT_len t
 have hlen:=hT.len
 have hpf:PF f (1+536870912):=hx.fok.pf (by omega)
 have a1:=f6norm_ok f hpf (by omega)
 have hco:∀ b,Pure Tryz.prog 91 [cF f,.int .i64 b] (·=cQ (coef (vals f) b)):=fun b=>f6coef_ok f b hpf (by omega)
 have hnc:∀ b,nb (coef (vals f) b)≤1+536870912:=fun b=>by
  have:=nb_coef (vals f) b
  have:=hx.fok.sz.b b
  omega
 have hstep:∀ i,i<t.length→∃ S G,Pure Tryz.prog 84 [cL (((nrmT t).take i).foldl (stepR (vals f)) (normF (vals f))),cL [((t.getD i default).1,coef (vals f) (t.getD i default).1)]] (·=cL S) ∧
   Pure Tryz.prog 113 [cQ (coef (vals f) (t.getD i default).1),cF (t.getD i default).2] (·=cL G) ∧
   Pure Tryz.prog 112 [cL S,cL G] (·=cL (((nrmT t).take (i+1)).foldl (stepR (vals f)) (normF (vals f)))):=by
  intro i hi
  obtain ⟨h1,h2,h3⟩:=stepR_pre hg hk hx i
  have hc:=hnc (t.getD i default).1
  have hrm:=getD_mem hi
  have hrp:=hT.pf hrm
  have hrs:=hT.sz _ hrm
  have hpo:=PF.rf_nf h1 h2 (by omega) (by omega)
  have hpb:PF (rf [((t.getD i default).1,coef (vals f) (t.getD i default).1)]) (2+536870912):=by
   refine (FOk.pf (B:=1+536870912) (FOk.rf ⟨fun v=>?_,?_⟩ (by omega)) (by omega)).mono (by omega)
   ·simp only [nbv];split <;> omega
   ·simp
  have hb1:∀ p∈rf [((t.getD i default).1,coef (vals f) (t.getD i default).1)],nb p.2.v<8589934000:=fun p hp=>by
   simp only [rf,List.map_cons,List.map_nil,List.mem_singleton] at hp
   subst hp
   rw [qr_v]
   omega
  have s1:=f6sub_ok (rf _) (rf [((t.getD i default).1,coef (vals f) (t.getD i default).1)]) hpo hpb hb1 (by simp [rf];omega) (by omega)
  rw [vals_rf,vals_rf,cF_rf,cF_rf] at s1
  have hb2:∀ p∈(t.getD i default).2,nb (qr (coef (vals f) (t.getD i default).1)).v+nb p.2.v<8589934592:=fun p hp=>by
   rw [qr_v]
   have:=nbv_mem (l:=vals (t.getD i default).2) (p:=(p.1,p.2.v)) (List.mem_map.2 ⟨p,hp,rfl⟩)
   have:=hrs.b p.1
   simp only at *
   omega
  have s2:=f6scale_ok (qr (coef (vals f) (t.getD i default).1)) (t.getD i default).2 (qr_ok (by omega)) hrp hb2 (by rw [qr_v];omega)
  rw [qr_v,qr_av] at s2
  refine ⟨_,_,s1,s2,?_⟩
  have hso:∀ x,nb (coef (subF ((((nrmT t).take i).foldl (stepR (vals f)) (normF (vals f)))) [((t.getD i default).1,coef (vals f) (t.getD i default).1)]) x)≤536870912+(2+536870912):=fun x=>by
   rw [coef_sub]
   have e1:=nb_sub (coef (((nrmT t).take i).foldl (stepR (vals f)) (normF (vals f))) x) (coef [((t.getD i default).1,coef (vals f) (t.getD i default).1)] x)
   have e2:=h2 x
   have e3:nb (coef [((t.getD i default).1,coef (vals f) (t.getD i default).1)] x)≤2+536870912:=by
    simp only [coef,Rat.add_zero]
    split
    ·omega
    ·rw [nb_zero];omega
   omega
  have hsg:∀ x,nb (coef (normF (scaleF (coef (vals f) (t.getD i default).1) (vals (t.getD i default).2))) x)≤1+536870912+(1+536870912):=fun x=>by
   rw [coef_norm,coef_scale]
   have e1:=nb_mul (coef (vals f) (t.getD i default).1) (coef (vals (t.getD i default).2) x)
   have e2:=nb_coef (vals (t.getD i default).2) x
   have e3:=hrs.b x
   omega
  have hl1:(subF ((((nrmT t).take i).foldl (stepR (vals f)) (normF (vals f)))) [((t.getD i default).1,coef (vals f) (t.getD i default).1)]).length≤65537:=by
   unfold subF
   have e1:=len_norm ((((nrmT t).take i).foldl (stepR (vals f)) (normF (vals f)))++negF (normF [((t.getD i default).1,coef (vals f) (t.getD i default).1)]))
   have e2:=len_norm [((t.getD i default).1,coef (vals f) (t.getD i default).1)]
   simp only [List.length_append,negF,scaleF,List.length_map,List.length_cons,List.length_nil] at *
   omega
  have hl2:(normF (scaleF (coef (vals f) (t.getD i default).1) (vals (t.getD i default).2))).length<1073741824:=by
   have e1:=len_norm (scaleF (coef (vals f) (t.getD i default).1) (vals (t.getD i default).2))
   have e2:=hrs.l
   simp only [scaleF,List.length_map] at *
   omega
  have p1:=PF.rf_nf (NF.sub _ _) hso (by omega) (by omega)
  have p2:=PF.rf_nf (NF.norm _) hsg (by omega) (by omega)
  have s3:=f6add_ok (rf _) (rf _) p1 p2 (by simp only [rf,List.length_map];omega) (by omega)
  rw [vals_rf,vals_rf,cF_rf,cF_rf] at s3
  rw [foldl_take _ _ (by omega),nrmT_getD hi,stepR_raw]
  exact s3
 have hres:(nrmT t).foldl (stepR (vals f)) (normF (vals f))=exprT (nrmT t) (vals f):=(exprR_ok hg.nodup _).ext (exprP_ok hg _)
 have hall:((nrmT t).take t.length).foldl (stepR (vals f)) (normF (vals f))=exprT (nrmT t) (vals f):=by rw [← hml,List.take_length,hres]
 have h0:((nrmT t).take 0).foldl (stepR (vals f)) (normF (vals f))=normF (vals f):=rfl
 rw [← hall]
 clear hall hres hT hg hk hnc
 generalize hE:(fun i=>((nrmT t).take i).foldl (stepR (vals f)) (normF (vals f)))=E at *
 have hE':∀ i,((nrmT t).take i).foldl (stepR (vals f)) (normF (vals f))=E i:=fun i=>congrFun hE i
 simp only [hE'] at *
 clear hE hE'
 generalize normF (vals f)=F0 at *
 subst h0
 generalize coef (vals f)=C at *
 unfold cT at *
 simp only [cF,cL] at *
 (refine pureW Tryz.func71 rfl (rs:=[Go.ResultVar.tmp 4]) rfl (n:=44) rfl ?_;simp only [List.length_cons,List.length_nil,List.replicate,List.cons_append,List.nil_append])
 (refine aUd ?_)
 ((refine W_seqV ?_);intro K hK;(refine sUd ?_))
 (refine ⟨by kernel_rfl,_,.pure rfl (a1),?_⟩;(try (refine sUd ?_)))
 (refine hK _ ?_;clear hK K)
 refine W_seq ?_
 ((refine W_seqV ?_);intro K hK;(refine sUd ?_))
 (refine hK _ ?_;clear hK K)
 refine W_block (W_loop (fun s:{i:Nat // i≤t.length} =>
   ⟨[.any,.sl (tab rowM f),.ptr 2 0 0,.any,.any,.sl (tab rowQ (E s.1)),.int .i64 s.1,.any,.any,.any,.any,.any,.any,.any,.any,.any,.any,.any,.any,.any,.any,.any,.any,.any,.any,.any,.any,.any,.any,.any,.any,.any,.any,.any,.any,.any,.any,.any,.any,.any,.any,.any,.any,.any],[.dead,.dead,.arr 24 2 false [[.int .i64 n,.sl (tab rowT t)]],.dead,.dead,.dead,.dead,.dead,.dead,.dead,.dead,.dead,.dead,.dead,.dead,.dead,.dead,.dead,.dead,.dead,.dead,.dead,.dead,.dead,.dead,.dead,.dead,.dead,.dead,.dead,.dead,.dead,.dead,.dead,.dead,.dead,.dead,.dead,.dead,.dead,.dead,.dead,.dead,.dead]⟩) (fun s=>t.length-s.1)
   ⟨0,by omega⟩ (Le_drop (by simp [leE]) (by simp [leH]) rfl rfl) fun s=>?_)
 obtain ⟨i,hi⟩:=s
 dsimp only
 by_cases hlt:i<t.length
 ·have hti:(tab rowT t).getD i []=rowT (t.getD i default):=tab_getD hlt
  obtain ⟨S,G,s1,s2,s3⟩:=hstep i hlt
  have hcb:=hco (t.getD i default).1
  generalize t.getD i default=r at *
  obtain ⟨b,g⟩:=r
  simp only [rowT] at hti
  dsimp only at *
  generalize hE1:E (i+1)=o' at *
  generalize E i=o at *
  generalize C b=c at *
  have ht:tab rowQ [(b,c)]=[[.int .i64 b,.bool (decide (c.num<0)),.sl (u32s (limbs c.num.natAbs)),.sl (u32s (limbs c.den))]]:=rfl
  simp only [cQ,ht] at s1 s2 hcb
  refine W_seq ?_
  ((refine W_seqV ?_);intro K hK;(refine sUdX hlt ?_))
  (refine hK _ ?_;clear hK K)
  (refine W_ct rfl ?_)
  refine W_skip ?_
  simp only [thenW]
  refine W_seq ?_
  refine W_block ?_
  ((refine W_seqV ?_);intro K hK;(refine sUdX (And.intro hti hlt) ?_))
  (refine hK _ ?_;clear hK K)
  ((refine W_seqV ?_);intro K hK;(refine sUd ?_))
  (refine ⟨by kernel_rfl,_,.pure rfl (hcb),?_⟩;(try (refine sUd ?_)))
  (refine hK _ ?_;clear hK K)
  ((refine W_seqV ?_);intro K hK;(refine sUd ?_))
  ((repeat refine aI ?_);refine ⟨by kernel_rfl,_,.pure rfl (s1),?_⟩;(try (refine sUd ?_)))
  (refine hK _ ?_;clear hK K)
  ((refine W_regD mixed [] (by kernel_rfl) ?_);intro K hK;(refine sUdX (And.intro hti hlt) ?_))
  (refine ⟨by kernel_rfl,_,.pure rfl (s2),?_⟩;(try (refine sUd ?_)))
  (refine ⟨by kernel_rfl,_,.pure rfl (s3),?_⟩;(try (refine sUd ?_)))
  (refine hK _ ?_;clear hK K)
  simp only [thenW,blockW]
  ((refine W_regV ?_);intro K hK;(refine sUd ?_))
  (refine hK _ ?_;clear hK K)
  simp only [blockW,thenW]
  refine ⟨⟨i+1,by omega⟩,Le_drop (by simp [leE,hE1]) (by simp [leH]) rfl rfl,?_⟩
  dsimp only
  omega
 ·obtain rfl:i=t.length:=by omega
  refine W_seq ?_
  ((refine W_seqV ?_);intro K hK;(refine sUd ?_))
  (refine hK _ ?_;clear hK K)
  (refine W_cf rfl ?_)
  refine W_exit ?_
  simp only [thenW,blockW,if_true]
  (repeat' (first | (refine W_seqV fun K hK=>?_;(try (refine sUd ?_));refine hK _ ?_;clear hK K) | (refine W_ret ?_;(refine qG ?_;try exact True.intro))))
theorem inR_in {n v:Int} (h:¬ v<0) (h2:¬ n≤v):inR n v=true:=inR_iff.2 (by omega)
theorem nat_ltI (j:Nat):decide ((j:Int)<0)=false:=by simp
theorem nat_geI (j:Nat):decide (0≤(j:Int))=true:=by simp
def belowK (l:List Int):Nat→Nat
 | 0=>0
 | v+1=>if (v:Int)∈l then belowK l v+1 else belowK l v
def cellsO:Option DD→List AV
 | none=>[.bool false,.nils,.nils,.bool false,.nils,.nils]
 | some d=>d.cells
structure EvOk (M:TM) (ds:List DD):Prop where
 vo:∀ v,(valD ds v).ok∧nb2 (valD ds v).v≤4294967296
 ro:∀ r∈M,r.2.length≤4294967296∧(∀ p∈r.2,nb p.2≤4294967296)∧∀ i,nb2 (evd ds (r.2.take i))≤4294967296
theorem valD_getD {ds:List DD} {i:Nat} (h:i<ds.length):valD ds (i:Int)=ds.getD i default:=by
 unfold valD
 rw [if_pos ⟨by omega,by omega⟩,Int.toNat_natCast]
theorem EvOk.mem {M:TM} {ds:List DD} (h:EvOk M ds):∀ d∈ds,d.ok∧nb2 d.v≤4294967296:=fun d hd=>by
 obtain ⟨i,hi,rfl⟩:=mem_getD hd
 rw [← valD_getD hi]
 exact h.vo _
theorem DsOk.ev {ds:List DD} (h:DsOk ds) {M:TM} (hM:∀ r∈M,nbs r.2≤68157440):EvOk M ds :=
 ⟨fun v=>⟨(valD_ok h v).1,Nat.le_trans (valD_ok h v).2 (by omega)⟩,fun r hr=>by
  have hs:=hM r hr
  have:=nbs_each (f:=r.2) (by omega)
  exact ⟨this.1,this.2,(evd_gen h r.2 hs).1⟩⟩
def NewTV (base:Nat) (w:World) (F:Nat→Prop) (T:TypeId) (k:Nat) (post:List AV) (rows:List (List AV)) (v:Value):Prop :=
 ∃ vs x,v = .tuple (x::vs).toArray∧Rps w F noPl post vs∧NewA base w F T k rows x
def NewT (P:Program) (g:FuncId) (args:List AV) (T:TypeId) (k:Nat) (post:List AV) (R:List (List AV)→Prop):Prop :=
 post.all AV.flat=true∧∀ (w:World) (vals:List Value) (F:Nat→Prop),(∀ k,F k→k<w.heap.size)→Rps w F noPl args vals →
  Calls P g vals.toArray w fun e w'=>∃ v rows,e = .returned v∧R rows∧Below w.heap.size w w'∧NewTV w.heap.size w' F T k post rows v
def newTK (T:TypeId) (k:Nat) (post:List AV) (R:List (List AV)→Prop) (hp:List Ob):AV→Prop
 | .tup cells=>∃ x,cells=x::post∧newK T k R hp x
 | _=>False
def newTQ (P:Program) (rs:List ResultVar) (T:TypeId) (k:Nat) (post:List AV) (R:List (List AV)→Prop):Exit→St→Prop
 | .normal,s=>resW P s rs fun xs=>newTK T k post R s.hp (asOne xs)
 | .ret,s=>resW P s rs fun xs=>newTK T k post R s.hp (asOne xs)
 | _,_=>False
theorem NewT.pure {P:Program} {g:FuncId} {args:List AV} {T:TypeId} {k:Nat} {post:List AV} {R:List (List AV)→Prop} (h:NewT P g args T k post R):Pure P g args (fun r=>∃ rows,R rows∧r = .tup (.sl rows::post)):=by
 intro w vals F hF hv
 refine (h.2 w vals F hF hv).mono fun e w' he=>?_
 obtain ⟨v,rows,h1,h2,h3,vs,x,rfl,h5,h4⟩:=he
 refine ⟨_,_,h1,⟨rows,h2,rfl⟩,h3,?_⟩
 simp only [Rp,Rps]
 refine ⟨_,rfl,_,_,rfl,?_,h5⟩
 rcases h4 with ⟨rfl,rfl⟩ | ⟨b,cap,hb,rfl,vss,rest,e1,e2,e3,e4,e5,e6⟩
 ·exact ⟨none,0,by simp,by simp,by simp [maxLen],.inl rfl⟩
 ·refine ⟨_,cap,rfl,e5,e6,.inr ⟨b,0,vss,rfl,fun hFb=>?_,(Array.getElem?_eq_some_iff.1 e1).1,?_,RpR.later (ρ:=noPl) _ ⟨Nat.le_refl _,fun c _ hc => .inl hc,fun _ _ _=>rfl,fun _ _ h=>h⟩ e2⟩⟩
  ·have:=hF b hFb
   omega
  ·intro j u hj
   have h5:=(List.getElem?_eq_some_iff.1 hj).1
   simp only [World.cell?,Nat.zero_add]
   rw [e1]
   simp [List.getElem?_append_left h5,hj]
def cellsX (x:Rat × Rat):List AV:=(dq x).cells
def extR (M:TM) (ds:List DD) (i:Nat):Rat × Rat:=match lookM M i with | some g=>evd ds g | none=>(ds.getD i default).v
def extL (M:TM) (ds:List DD):List (Rat × Rat):=(List.range ds.length).map (extR M ds)
def extV (n:Int) (t:TR) (ds:List DD):AV:=if goodB n (nrmT t) then if (ds.length:Int)=n then .tup [.sl (tab cellsX (extL (nrmT t) ds)),.int .i64 0] else .tup [.sl [],.int .i64 1] else .tup [.sl [],.int .i64 70]
theorem TOk.ev {t:TR} (hT:TOk t) {ds:List DD} (hd:DsOk ds):EvOk (nrmT t) ds:=hd.ev fun r hr=>by have:=tb_mem hr;have:=hT.tb;omega
def eqAt (M:TM) (ds:List DD) (i:Nat):Bool:=dsg (dsub (extR M ds i) (ds.getD i default).v) == 0
def eqTo (M:TM) (ds:List DD) (k:Nat):Bool:=(List.range k).all (eqAt M ds)
def holdsV (n:Int) (t:TR) (ds:List DD):AV:=if goodB n (nrmT t) then if (ds.length:Int)=n then .tup [.bool (eqTo (nrmT t) ds ds.length),.int .i64 0] else .tup [.bool false,.int .i64 1] else .tup [.bool false,.int .i64 70]
theorem extL_len (M:TM) (ds:List DD):(extL M ds).length=ds.length:=by simp [extL]
end Go.Proofs.YtjmpajgjaefcjaaGreat.Vm
namespace Go.Proofs.YtjmpajgjaefcjaaGreat.Vm
open Go Go.RowKit
end Go.Proofs.YtjmpajgjaefcjaaGreat.Vm
namespace Go.Proofs.YtjmpajgjaefcjaaGreat.Vm
open Go Go.RowKit
end Go.Proofs.YtjmpajgjaefcjaaGreat.Vm
namespace Go.Proofs.YtjmpajgjaefcjaaGreat.Vm
open Go Go.RowKit
theorem ev2_same {x y:Int→Rat}:∀ {f:List (Int × Rat)},(∀ p∈f,x p.1=y p.1)→ev2 x f=ev2 y f
 | [],_=>rfl
 | p::f,h=>by
  simp only [ev2]
  rw [h p List.mem_cons_self,ev2_same fun q hq=>h q (List.mem_cons_of_mem _ hq)]
theorem mul_den (q:Rat):q*(q.den:Rat)=(q.num:Rat):=by
 have h0:(q.den:Rat)≠0:=fun h=>by
  rw [show (0:Rat)=((0:Nat):Rat) from rfl,Rat.natCast_inj] at h
  exact q.den_nz h
 have h:q=(q.num:Rat) / (q.den:Rat):=by
  have:=Rat.mkRat_self q
  rw [Rat.mkRat_eq_div] at this
  simpa using this.symm
 calc q*(q.den:Rat)=(q.num:Rat) / (q.den:Rat)*(q.den:Rat):=by rw [← h]
  _=_:=Rat.div_mul_cancel h0
def Ht (D m:Nat) (q:Rat):Prop:=∃ k:Int,q*(D:Rat)=(k:Rat)∧k.natAbs≤m
theorem Ht.zero (D m:Nat):Ht D m 0:=⟨0,by simp,by simp⟩
theorem Ht.mono {D m m':Nat} {q:Rat} (h:Ht D m q) (hm:m≤m'):Ht D m' q:=by
 obtain ⟨k,h1,h2⟩:=h
 exact ⟨k,h1,by omega⟩
theorem Ht.add {D m m':Nat} {q r:Rat} (h:Ht D m q) (h':Ht D m' r):Ht D (m+m') (q+r):=by
 obtain ⟨k,h1,h2⟩:=h
 obtain ⟨l,h3,h4⟩:=h'
 exact ⟨k+l,by rw [Rat.add_mul,h1,h3];simp,by omega⟩
theorem Ht.neg {D m:Nat} {q:Rat} (h:Ht D m q):Ht D m (-q):=by
 obtain ⟨k,h1,h2⟩:=h
 exact ⟨-k,by rw [Rat.neg_mul,h1];simp,by omega⟩
theorem Ht.sub {D m m':Nat} {q r:Rat} (h:Ht D m q) (h':Ht D m' r):Ht D (m+m') (q-r):=by
 rw [Rat.sub_eq_add_neg]
 exact h.add h'.neg
theorem Ht.mul {D E m m':Nat} {q r:Rat} (h:Ht D m q) (h':Ht E m' r):Ht (D*E) (m*m') (q*r):=by
 obtain ⟨k,h1,h2⟩:=h
 obtain ⟨l,h3,h4⟩:=h'
 refine ⟨k*l,?_,by rw [Int.natAbs_mul];exact Nat.mul_le_mul h2 h4⟩
 have:q*r*((D*E:Nat):Rat)=(q*(D:Rat))*(r*(E:Rat)):=by
  rw [Rat.natCast_mul];grind
 rw [this,h1,h3,Rat.intCast_mul]
theorem Ht.wide {D m:Nat} {q:Rat} (h:Ht D m q) (E:Nat):Ht (D*E) (m*E) q:=by
 obtain ⟨k,h1,h2⟩:=h
 refine ⟨k*E,?_,by rw [Int.natAbs_mul];exact Nat.mul_le_mul h2 (by simp)⟩
 rw [Rat.natCast_mul,← Rat.mul_assoc,h1,Rat.intCast_mul]
 rfl
theorem Ht.wide' {D m:Nat} {q:Rat} (h:Ht D m q) (E:Nat):Ht (E*D) (E*m) q:=by
 rw [Nat.mul_comm E D,Nat.mul_comm E m]
 exact h.wide E
theorem Ht.H {D m:Nat} {q:Rat} (h:Ht D m q) (hD:0<D):Vm.H q≤m+D:=by
 obtain ⟨k,h1,h2⟩:=h
 have h0:(D:Rat)≠0:=fun h=>by
  rw [show (0:Rat)=((0:Nat):Rat) from rfl,Rat.natCast_inj] at h
  omega
 have:q=mkRat k D:=by
  rw [Rat.mkRat_eq_div,← h1]
  have:=Rat.mul_div_cancel (a:=q) h0
  simpa using this.symm
 rw [this]
 exact Nat.le_trans (H_mkRat _ (by omega)) (by omega)
theorem Ht.nb {D m k:Nat} {q:Rat} (h:Ht D m q) (hD:0<D) (h1:D<2^k) (h2:m<2^k):Vm.nb q≤k+1:=by
 refine nb_le (Nat.lt_of_le_of_lt (h.H hD) ?_)
 rw [Nat.pow_succ]
 omega
theorem Ht.self (q:Rat):Ht q.den (Vm.H q) q:=⟨q.num,mul_den q,by unfold Vm.H;omega⟩
def dnf:List (Int × Rat)→Nat
 | []=>1
 | p::f=>p.2.den*dnf f
def htf:List (Int × Rat)→Nat
 | []=>1
 | p::f=>Vm.H p.2*htf f
theorem dnf_pos:∀ f,0<dnf f
 | []=>by simp [dnf]
 | p::f=>Nat.mul_pos p.2.den_pos (dnf_pos f)
theorem dnf_le:∀ f,dnf f≤htf f
 | []=>by simp [dnf,htf]
 | p::f=>Nat.mul_le_mul (by unfold Vm.H;omega) (dnf_le f)
theorem htf_lt:∀ f,htf f<2^(nbs f+1)
 | []=>by simp [htf,nbs]
 | p::f=>by
  have h1:=H_lt p.2
  have h2:=htf_lt f
  simp only [htf,nbs]
  rw [Nat.add_assoc,Nat.pow_add]
  exact Nat.mul_lt_mul_of_lt_of_le h1 (Nat.le_of_lt h2) (Nat.pow_pos (by omega))
theorem Ht.ev {x:Int→Rat} {E m:Nat}:∀ (f:List (Int × Rat)),(∀ p∈f,Ht E m (x p.1))→Ht (dnf f*E) (htf f*m) (ev2 x f)
 | [],_=>Ht.zero _ _
 | p::f,h=>by
  have ih:=Ht.ev f fun q hq=>h q (List.mem_cons_of_mem _ hq)
  obtain ⟨k,h1,h2⟩:=h p List.mem_cons_self
  obtain ⟨l,h3,h4⟩:=ih
  have h5:p.2*(p.2.den:Rat)=(p.2.num:Rat):=mul_den _
  refine ⟨p.2.num*(dnf f:Int)*k+p.2.den*l,?_,?_⟩
  ·simp only [ev2,dnf]
   rw [Rat.natCast_mul] at h3
   rw [Rat.natCast_mul,Rat.natCast_mul,Rat.intCast_add,Rat.intCast_mul,Rat.intCast_mul,Rat.intCast_mul,← h1,← h3,← h5]
   simp only [Rat.intCast_natCast]
   grind
  ·refine Nat.le_trans (natAbs_add_le _ _) ?_
   rw [Int.natAbs_mul,Int.natAbs_mul,Int.natAbs_mul,Int.natAbs_natCast,Int.natAbs_natCast]
   simp only [htf]
   have h6:p.2.num.natAbs*dnf f*k.natAbs≤p.2.num.natAbs*htf f*m:=Nat.mul_le_mul (Nat.mul_le_mul_left _ (dnf_le f)) h2
   have h7:p.2.den*l.natAbs≤p.2.den*(htf f*m):=Nat.mul_le_mul_left _ h4
   have h8:Vm.H p.2*htf f*m=p.2.num.natAbs*htf f*m+p.2.den*(htf f*m):=by
    unfold Vm.H
    rw [Nat.add_mul,Nat.add_mul,Nat.mul_assoc p.2.den]
   omega
def dnM:TM→Nat
 | []=>1
 | r::M=>dnf r.2*dnM M
def htM:TM→Nat
 | []=>1
 | r::M=>htf r.2*htM M
theorem dnM_pos:∀ M,0<dnM M
 | []=>by simp [dnM]
 | r::M=>Nat.mul_pos (dnf_pos _) (dnM_pos M)
theorem dnM_le:∀ M,dnM M≤htM M
 | []=>by simp [dnM,htM]
 | r::M=>Nat.mul_le_mul (dnf_le _) (dnM_le M)
theorem htM_lt:∀ M,htM M<2^(tb M+1)
 | []=>by simp [htM,tb]
 | r::M=>by
  have h1:=htf_lt r.2
  have h2:=htM_lt M
  have h3:tb (r::M)=nbs r.2+1+tb M:=by simp only [tb];try omega
  simp only [htM]
  rw [h3,Nat.add_assoc (nbs r.2+1),Nat.pow_add]
  exact Nat.mul_lt_mul_of_lt_of_le h1 (Nat.le_of_lt h2) (Nat.pow_pos (by omega))
theorem Ht.ofM {q:Rat} {E m:Nat} {r:Int × List (Int × Rat)}:∀ {M:TM},r∈M→Ht (dnf r.2*E) (htf r.2*m) q→Ht (dnM M*E) (htM M*m) q
 | [],h,_=>by cases h
 | s::M,h,hq=>by
  simp only [dnM,htM]
  rcases List.mem_cons.1 h with rfl | h
  ·have h1:=hq.wide (dnM M)
   rw [Nat.mul_right_comm (dnf r.2) E,Nat.mul_right_comm (htf r.2) m] at h1
   exact h1.mono (Nat.mul_le_mul_right _ (Nat.mul_le_mul_left _ (dnM_le M)))
  ·have h1:=(Ht.ofM h hq).wide' (dnf s.2)
   rw [← Nat.mul_assoc,← Nat.mul_assoc] at h1
   exact h1.mono (Nat.mul_le_mul_right _ (Nat.mul_le_mul_right _ (dnf_le _)))
theorem coef_ev2 (v:Int):∀ f:List (Int × Rat),coef f v=ev2 (fun w=>if w=v then 1 else 0) f
 | []=>rfl
 | p::f=>by
  rw [coef,ev2,coef_ev2 v f]
  congr 1
  split <;> simp [Rat.mul_one,Rat.mul_zero]
theorem Ht.one (m:Nat) (h:1≤m):Ht 1 m 1:=⟨1,by simp,by simpa using h⟩
theorem Ht.coef (f:List (Int × Rat)) (v:Int):Ht (dnf f) (htf f) (Vm.coef f v):=by
 rw [coef_ev2]
 have:=Ht.ev (x:=fun w=>if w=v then 1 else 0) (E:=1) (m:=1) f fun p _=>by
  split
  ·exact Ht.one 1 (Nat.le_refl _)
  ·exact Ht.zero _ _
 simpa using this
def putX (M:TM) (x b:Int):Rat:=match lookM M b with | some g=>Vm.coef g x | none=>if b=x then 1 else 0
theorem ev2_add (x y:Int→Rat):∀ f:List (Int × Rat),ev2 (fun v=>x v+y v) f=ev2 x f+ev2 y f
 | []=>by simp [ev2,Rat.add_zero]
 | p::f=>by simp only [ev2];rw [ev2_add x y f];grind
theorem ev2_zero:∀ (x:Int→Rat) (f:List (Int × Rat)),(∀ p∈f,x p.1=0)→ev2 x f=0
 | x,[],_=>rfl
 | x,p::f,h=>by simp only [ev2];rw [ev2_zero x f fun q hq=>h q (List.mem_cons_of_mem _ hq),h p List.mem_cons_self];grind
theorem ev2_mul (x:Int→Rat) (c:Rat):∀ f:List (Int × Rat),ev2 (fun v=>x v*c) f=ev2 x f*c
 | []=>by simp [ev2]
 | p::f=>by simp only [ev2];rw [ev2_mul x c f];grind
theorem sumM_ev (f:List (Int × Rat)) (x:Int):∀ M:TM,(keys M).Nodup→sumM (Vm.coef f) x M=ev2 (fun b=>match lookM M b with | some g=>Vm.coef g x | none=>0) f
 | [],_=>by
  rw [ev2_zero]
  ·rfl
  ·intro p _;simp [lookM]
 | r::M,hn=>by
  simp only [keys,List.map_cons,List.nodup_cons] at hn
  rw [sumM,sumM_ev f x M hn.2,coef_ev2,← ev2_mul,← ev2_add]
  refine ev2_same fun p _=>?_
  have hl:lookM (r::M) p.1=if r.1=p.1 then some r.2 else lookM M p.1:=by
   unfold lookM
   rw [List.find?_cons]
   by_cases h:r.1=p.1
   ·rw [if_pos h,h];simp
   ·have h':(r.1 == p.1)=false:=by simpa using h
    rw [if_neg h,h']
  rw [hl]
  by_cases h:r.1=p.1
  ·rw [if_pos h,if_pos h.symm]
   have:lookM M p.1=none:=look_none (by rw [← h];exact hn.1)
   rw [this]
   dsimp only
   grind
  ·rw [if_neg h,if_neg (Ne.symm h)]
   grind
theorem coef_exprT {n:Int} {M:TM} (hg:GT n M) (f:List (Int × Rat)) (x:Int):Vm.coef (exprT M f) x=ev2 (putX M x) f:=by
 rw [show Vm.coef (exprT M f) x=_ from (exprP_ok hg f).co x,sumM_ev f x M hg.nodup]
 have h1:(if x∈keys M then 0 else Vm.coef f x)=ev2 (fun b=>if x∈keys M then 0 else if b=x then 1 else 0) f:=by
  split
  ·rw [ev2_zero];intro p _;rfl
  ·exact coef_ev2 x f
 rw [h1,← ev2_add]
 refine ev2_same fun p _=>?_
 unfold putX
 cases hl:lookM M p.1 with
 | some g =>
  have hk:=look_mem_keys hl
  dsimp only
  by_cases hx:x∈keys M
  ·rw [if_pos hx,Rat.zero_add]
  ·rw [if_neg hx,if_neg (fun he:p.1=x=>hx (he ▸ hk)),Rat.zero_add]
 | none =>
  dsimp only
  have hk:p.1∉keys M:=fun hk=>by
   obtain ⟨r,hr,he⟩:=List.mem_map.1 hk
   rw [← he,look_of hg.nodup (g:=r.2) hr] at hl
   cases hl
  rw [Rat.add_zero]
  by_cases hx:x∈keys M
  ·rw [if_pos hx,if_neg (fun he:p.1=x=>hk (he ▸ hx))]
  ·rw [if_neg hx]
theorem Ht.expr {n:Int} {M:TM} (hg:GT n M) (f:List (Int × Rat)) (x:Int):Ht (dnf f*dnM M) (htf f*htM M) (Vm.coef (exprT M f) x):=by
 rw [coef_exprT hg]
 refine Ht.ev f fun p _=>?_
 unfold putX
 split
 ·rename_i g hl
  have:=Ht.ofM (E:=1) (m:=1) (look_mem hl) (by have:=Ht.coef g x;simpa using this)
  simpa using this
 ·split
  ·have:=(Ht.one 1 (Nat.le_refl _)).wide' (dnM M)
   rw [Nat.mul_one] at this
   exact this.mono (by have:=dnM_le M;omega)
  ·exact Ht.zero _ _
def sig:Nat→(Nat→Rat)→Rat
 | 0,_=>0
 | n+1,f=>sig n f+f n
theorem sig_congr {f g:Nat→Rat}:∀ {n:Nat},(∀ i,i<n→f i=g i)→sig n f=sig n g
 | 0,_=>rfl
 | n+1,h=>by rw [sig,sig,sig_congr fun i hi=>h i (by omega),h n (by omega)]
theorem sig_zero {f:Nat→Rat} {n:Nat} (h:∀ i,i<n→f i=0):sig n f=0:=by
 rw [sig_congr h]
 induction n with
 | zero=>rfl
 | succ n ih=>rw [sig,ih fun i hi=>h i (by omega),Rat.add_zero]
theorem sig_add (f g:Nat→Rat):∀ n,sig n (fun i=>f i+g i)=sig n f+sig n g
 | 0=>by simp [sig,Rat.add_zero]
 | n+1=>by rw [sig,sig,sig,sig_add f g n];grind
theorem sig_mul (c:Rat) (f:Nat→Rat):∀ n,sig n (fun i=>c*f i)=c*sig n f
 | 0=>by simp [sig,Rat.mul_zero]
 | n+1=>by rw [sig,sig,sig_mul c f n];grind
def dl (i j:Nat):Rat:=if i=j then 1 else 0
theorem sig_dl (f:Nat→Rat) (k:Nat):∀ n,sig n (fun i=>f i*dl i k)=if k<n then f k else 0
 | 0=>rfl
 | n+1=>by
  rw [sig,sig_dl f k n]
  unfold dl
  by_cases h:n=k
  ·subst h;simp [Rat.zero_add,Rat.mul_one]
  ·rw [if_neg h,Rat.mul_zero,Rat.add_zero]
   by_cases h2:k<n
   ·rw [if_pos h2,if_pos (by omega)]
   ·rw [if_neg h2,if_neg (by omega)]
def skip (k j:Nat):Nat:=if j<k then j else j+1
section
variable {q p:Nat} {A B:Nat→Nat→Rat}
end
theorem sumM_sig (c:Int→Rat) (x:Int) (M:TM):sumM c x M=sig M.length fun i=>c (M.getD i default).1*coef (M.getD i default).2 x:=by
 have key:∀ i,i≤M.length→sumM c x (M.take i)=sig i fun i=>c (M.getD i default).1*coef (M.getD i default).2 x:=by
  intro i
  induction i with
  | zero=>intro _;rfl
  | succ i ih =>
   intro hi
   rw [take_snoc (show i<M.length by omega),sig,← ih (by omega)]
   have ha:∀ (M N:TM),sumM c x (M++N)=sumM c x M+sumM c x N:=by
    intro M N
    induction M with
    | nil=>simp [sumM,Rat.zero_add]
    | cons r M ih=>simp only [List.cons_append,sumM,ih,Rat.add_assoc]
   rw [ha]
   simp [sumM,Rat.add_zero]
 have:=key M.length (Nat.le_refl _)
 rwa [List.take_length] at this
def zc (r:Int × List (Int × Rat)) (x:Int):Rat:=coef r.2 x-if x=r.1 then 1 else 0
def follB (M N:TM):Bool:=N.all fun r=>(exprT M (wholeF r.1 r.2)).isEmpty
theorem coef_wholeZ (b:Int) (f:List (Int × Rat)) (x:Int):coef (wholeF b f) x=zc (b,f) x:=by
 unfold wholeF zc
 rw [coef_sub]
 simp only [coef,Rat.add_zero]
 by_cases h:b=x
 ·rw [if_pos h,if_pos h.symm]
 ·rw [if_neg h,if_neg (Ne.symm h)]
theorem empty_iff {n:Int} {M:TM} (hg:GT n M) (f:List (Int × Rat)):(exprT M f).isEmpty=true↔∀ x,coef f x = - sig M.length fun i=>coef f (M.getD i default).1*zc (M.getD i default) x:=by
 have he:=exprP_ok hg f
 have hco:∀ x,coef (exprT M f) x=(coef f x)+sig M.length fun i=>coef f (M.getD i default).1*zc (M.getD i default) x:=fun x=>by
  rw [show coef (exprT M f) x=_ from he.co x,sumM_sig]
  have h1:(sig M.length fun i=>coef f (M.getD i default).1*zc (M.getD i default) x)=(sig M.length fun i=>coef f (M.getD i default).1*coef (M.getD i default).2 x)+sig M.length fun i => - (coef f (M.getD i default).1*if x=(M.getD i default).1 then 1 else 0):=by
   rw [← sig_add]
   exact sig_congr fun i _=>by unfold zc;grind
  rw [h1]
  have h2:(sig M.length fun i => - (coef f (M.getD i default).1*if x=(M.getD i default).1 then 1 else 0))=if x∈keys M then-coef f x else 0:=by
   by_cases hx:x∈keys M
   ·rw [if_pos hx]
    obtain ⟨j,hj1,hj2,hj3,hj4,_⟩:=look_idx hx
    have h3:(sig M.length fun i => - (coef f (M.getD i default).1*if x=(M.getD i default).1 then 1 else 0))=sig M.length fun i=>(- coef f x)*dl i j:=sig_congr fun i hi=>by
     unfold dl
     by_cases hij:i=j
     ·subst hij;rw [if_pos rfl,hj3,if_pos rfl];grind
     ·rw [if_neg hij,if_neg fun h=>hij ?_]
      ·grind
      ·have h4:(keys M).Nodup:=hg.nodup
       have h5:(keys M)[i]?=(keys M)[j]?:=by
        simp only [keys,List.getElem?_map]
        rw [List.getElem?_eq_getElem hi,List.getElem?_eq_getElem hj2]
        simp only [Option.map_some,Option.some.injEq]
        rw [show M[i]=M.getD i default by simp [List.getD_eq_getElem?_getD,hi],show M[j]=M.getD j default by simp [List.getD_eq_getElem?_getD,hj2],hj3]
        exact h.symm
       exact (List.getElem?_inj (by rw [keys_len];exact hi) h4).1 h5
    rw [h3,sig_dl (fun _ => - coef f x),if_pos hj2]
   ·rw [if_neg hx]
    exact sig_zero fun i hi=>by
     rw [if_neg fun h:x=(M.getD i default).1=>hx (h ▸ List.mem_map.2 ⟨_,getD_mem hi,rfl⟩)];grind
  rw [h2]
  split <;> grind
 constructor
 ·intro h x
  have h1:exprT M f=[]:=List.isEmpty_iff.1 h
  have:=hco x
  rw [h1,coef_nil] at this
  grind
 ·intro h
  rw [List.isEmpty_iff]
  refine NF.ext he.nf NF.nil fun x=>?_
  rw [hco x,h x,coef_nil]
  grind
theorem follB_iff {n:Int} {M N:TM} (hg:GT n M):follB M N=true↔∀ j,j<N.length→∀ x,zc (N.getD j default) x = - sig M.length fun i=>zc (N.getD j default) (M.getD i default).1*zc (M.getD i default) x:=by
 unfold follB
 rw [List.all_eq_true]
 constructor
 ·intro h j hj x
  have:=(empty_iff hg _).1 (h _ (getD_mem hj)) x
  simp only [coef_wholeZ] at this
  exact this
 ·intro h r hr
  obtain ⟨j,hj,rfl⟩:=mem_getD hr
  rw [empty_iff hg]
  intro x
  simp only [coef_wholeZ]
  exact h j hj x
theorem zc_basic {n:Int} {N:TM} (hg:GT n N) {j k:Nat} (hj:j<N.length) (hk:k<N.length):zc (N.getD j default) (N.getD k default).1 = - dl j k:=by
 unfold zc dl
 rw [free_coef hg (getD_mem hj) (List.mem_map.2 ⟨_,getD_mem hk,rfl⟩)]
 by_cases h:j=k
 ·subst h;simp;grind
 ·rw [if_neg h,if_neg fun he=>h ?_]
  ·grind
  ·have h5:(keys N)[k]?=(keys N)[j]?:=by
    simp only [keys,List.getElem?_map]
    rw [List.getElem?_eq_getElem hj,List.getElem?_eq_getElem hk]
    simp only [Option.map_some,Option.some.injEq]
    rw [show N[k]=N.getD k default by simp [List.getD_eq_getElem?_getD,hk],show N[j]=N.getD j default by simp [List.getD_eq_getElem?_getD,hj],he]
   exact ((List.getElem?_inj (by rw [keys_len];exact hk) hg.nodup).1 h5).symm
def keptD (M:TM) (ds:List DD):List DD:=(extL M ds).map dq
theorem keptD_len (M:TM) (ds:List DD):(keptD M ds).length=ds.length:=by simp [keptD,extL_len]
def asgP (pr:Rat × Rat→Rat) (ds:List DD):Int→Rat:=asg (ds.map fun d=>pr d.v)
theorem asgP_in (pr:Rat × Rat→Rat) (ds:List DD) {v:Int} (h0:0≤v) (h1:v<(ds.length:Int)):asgP pr ds v=pr (ds.getD v.toNat default).v:=by
 unfold asgP asg
 rw [if_pos h0]
 have h2:v.toNat<ds.length:=by omega
 simp [List.getD_eq_getElem?_getD,h2]
theorem asgP_out (pr:Rat × Rat→Rat) (ds:List DD) {v:Int} (h:¬ (0≤v∧v<(ds.length:Int))):asgP pr ds v=0:=by
 unfold asgP asg
 split
 ·rw [List.getD_eq_getElem?_getD,List.getElem?_eq_none (by rw [List.length_map];omega)];rfl
 ·rfl
theorem kept_getD (M:TM) (ds:List DD) {i:Nat} (h:i<ds.length):(keptD M ds).getD i default=dq (extR M ds i):=by
 simp [keptD,extL,List.getD_eq_getElem?_getD,h]
theorem kept_free (pr:Rat × Rat→Rat) {M:TM} (ds:List DD) {v:Int} (hv:v∉keys M):asgP pr (keptD M ds) v=asgP pr ds v:=by
 by_cases h:0≤v∧v<(ds.length:Int)
 ·rw [asgP_in pr _ h.1 (by rw [keptD_len];exact h.2),asgP_in pr _ h.1 h.2,kept_getD M ds (by omega),dq_v]
  unfold extR
  rw [show ((v.toNat:Nat):Int)=v by omega,look_none hv]
 ·rw [asgP_out pr _ (by rw [keptD_len];exact h),asgP_out pr _ h]
theorem kept_basic (pr:Rat × Rat→Rat) {M:TM} {ds:List DD} (hg:GT (ds.length:Int) M) {r:Int × List (Int × Rat)} (hr:r∈M):asgP pr (keptD M ds) r.1=pr (evd ds r.2):=by
 have hb:=hg.range r.1 (List.mem_map.2 ⟨r,hr,rfl⟩)
 rw [asgP_in pr _ hb.1 (by rw [keptD_len];exact hb.2),kept_getD M ds (by omega),dq_v]
 unfold extR
 rw [show ((r.1.toNat:Nat):Int)=r.1 by omega,look_of hg.nodup (g:=r.2) hr]
def lift0 (xs:List Rat):List (Int × Rat):=xs.map fun x=>(0,x)
theorem nbs_lift:∀ xs:List Rat,nbs (lift0 xs)=nbl xs
 | []=>rfl
 | x::xs=>by show nb x+nbs (lift0 xs)=_;rw [nbs_lift xs];rfl
theorem Ht.mem {p:Int × Rat}:∀ {f:List (Int × Rat)},p∈f→Ht (dnf f) (htf f) p.2
 | [],h=>by cases h
 | q::f,h=>by
  simp only [dnf,htf]
  rcases List.mem_cons.1 h with rfl | h
  ·exact ((Ht.self p.2).wide (dnf f)).mono (Nat.mul_le_mul_left _ (dnf_le f))
  ·exact ((Ht.mem h).wide' q.2.den).mono (Nat.mul_le_mul_right _ (by unfold Vm.H;omega))
theorem Ht.asg (xs:List Rat) (v:Int):Ht (dnf (lift0 xs)) (htf (lift0 xs)) (Vm.asg xs v):=by
 unfold Vm.asg
 split
 ·by_cases h:v.toNat<xs.length
  ·exact Ht.mem (p:=(0,xs.getD v.toNat 0)) (List.mem_map.2 ⟨_,by simp [List.getD_eq_getElem?_getD,h],rfl⟩)
  ·rw [List.getD_eq_getElem?_getD,List.getElem?_eq_none (by omega)]
   exact Ht.zero _ _
 ·exact Ht.zero _ _
theorem mul_lt_pow {a b j k:Nat} (h:a<2^j) (h':b<2^k):a*b<2^(j+k):=by
 rw [Nat.pow_add]
 exact Nat.mul_lt_mul_of_lt_of_le h (Nat.le_of_lt h') (Nat.pow_pos (by omega))
theorem dnf_lt (f:List (Int × Rat)):dnf f<2^(nbs f+1):=Nat.lt_of_le_of_lt (dnf_le f) (htf_lt f)
theorem dnM_lt (M:TM):dnM M<2^(tb M+1):=Nat.lt_of_le_of_lt (dnM_le M) (htM_lt M)
theorem pow_up {a j k:Nat} (h:a<2^j) (hk:j≤k):a<2^k:=Nat.lt_of_lt_of_le h (Nat.pow_le_pow_right (by omega) hk)
theorem Ht.kept {M:TM} {ds:List DD} (hg:GT (ds.length:Int) M) (pr:Rat × Rat→Rat) (hp:pr=Prod.fst∨pr=Prod.snd) (v:Int) :
  Ht (dnM M*dnf (lift0 (ds.map fun d=>pr d.v))) (htM M*htf (lift0 (ds.map fun d=>pr d.v))) (asgP pr (keptD M ds) v):=by
 by_cases hv:v∈keys M
 ·obtain ⟨r,hr,rfl⟩:=List.mem_map.1 hv
  rw [kept_basic pr hg hr]
  refine Ht.ofM hr ?_
  have:pr (evd ds r.2)=ev2 (asgP pr ds) r.2:=by rcases hp with rfl | rfl <;> rfl
  rw [this]
  exact Ht.ev r.2 fun p _=>Ht.asg _ _
 ·rw [kept_free pr ds hv]
  exact ((Ht.asg _ v).wide' (dnM M)).mono (Nat.mul_le_mul_right _ (dnM_le M))
theorem DsOk.half {ds:List DD} (h:DsOk ds) (pr:Rat × Rat→Rat) (hp:pr=Prod.fst∨pr=Prod.snd):nbs (lift0 (ds.map fun d=>pr d.v))≤67108864:=by
 rw [nbs_lift]
 rcases hp with rfl | rfl
 ·exact h.sa
 ·exact h.sb
theorem NF.coef_mem {g:List (Int × Rat)} (h:NF g) {p:Int × Rat} (hp:p∈g):coef g p.1=p.2:=by
 induction g with
 | nil=>cases hp
 | cons q g ih =>
  rcases List.mem_cons.1 hp with rfl | hp
  ·exact h.coef_head
  ·have h1:=h.head p hp
   rw [coef,if_neg (by omega),Rat.zero_add,ih h.tail hp]
structure FollOk (M N:TM):Prop where
 sz:∀ r∈N,Sz r.2 536870912
 ex:∀ r∈N,ExOk M (rf (wholeF r.1 r.2))
def sameV (n:Int) (t:TR) (m:Int) (u:TR):AV:=if goodB n (nrmT t)&&goodB m (nrmT u) then if n=m then .tup [.bool (follB (nrmT t) (nrmT u)&&follB (nrmT u) (nrmT t)),.int .i64 0] else .tup [.bool false,.int .i64 1] else .tup [.bool false,.int .i64 70]
theorem sVc {G G':Prop} (h:G') (e:G=G':=by conv=>lhs;simp (disch:=omega) only [rowsOf,cNat,cN,St.ret,St.seth,Eff.app,Eff.wi,sepL,guardOf,St.known,objOf,List.set,sliceW,litW,copyW,lenOf,bnd,mxOk,ofCells,TI.isAgg,cellsOf,storable,AV.one,dead,laid,overlay,reduceCtorEq,Int.reduceLE,Int.reduceLT,Int.reduceSub,Int.reduceAdd,Nat.reduceMul,Int.reduceToNat,Nat.reducePow,Int.reduceNeg,Nat.reduceAdd,Nat.reduceLT,Nat.reduceLeDiff,sA,sB,Nat.reduceEqDiff,cQ,rowQ,rowU,rowT,rowM,i64s_getD,i64s_length,i64s_all,i64s_take,i64s_drop,i64s_set,i64s_one,i64s_pure,i64s_append,tab_length,tab_drop,tab_take,tab_append,tab_nil,rowT_all,rowT_one,rowT_pure,rowU_all,rowU_one,rowU_pure,rowQ_all,rowQ_one,rowQ_pure,rowM_all,rowM_one,rowM_pure,List.take_length,List.length_append,sT]):G:=e.mpr h
theorem sVcX {G G' P:Prop} (p:P) (h:G') (e:P→G=G':=by intro p;conv=>lhs;simp (disch:=omega) only [rowsOf,cNat,cN,St.ret,St.seth,Eff.app,Eff.wi,sepL,guardOf,St.known,objOf,List.set,sliceW,litW,copyW,lenOf,bnd,mxOk,ofCells,TI.isAgg,cellsOf,storable,AV.one,dead,laid,overlay,reduceCtorEq,Int.reduceLE,Int.reduceLT,Int.reduceSub,Int.reduceAdd,Nat.reduceMul,Int.reduceToNat,Nat.reducePow,Int.reduceNeg,Nat.reduceAdd,Nat.reduceLT,Nat.reduceLeDiff,sA,sB,Nat.reduceEqDiff,cQ,rowQ,rowU,rowT,rowM,i64s_getD,i64s_length,i64s_all,i64s_take,i64s_drop,i64s_set,i64s_one,i64s_pure,i64s_append,tab_length,tab_drop,tab_take,tab_append,tab_nil,rowT_all,rowT_one,rowT_pure,rowU_all,rowU_one,rowU_pure,rowQ_all,rowQ_one,rowQ_pure,rowM_all,rowM_one,rowM_pure,List.take_length,List.length_append,sT,p]):G:=(e p).mpr h
theorem sVcV {G G':Prop} (h:G') (e:G=G':=by conv=>lhs;simp (disch:=omega) only [rowsOf,cNat,cN,St.ret,St.seth,Eff.app,Eff.wi,sepL,guardOf,St.known,objOf,List.set,sliceW,litW,copyW,lenOf,bnd,mxOk,ofCells,TI.isAgg,cellsOf,storable,AV.one,dead,laid,overlay,reduceCtorEq,Int.reduceLE,Int.reduceLT,Int.reduceSub,Int.reduceAdd,Nat.reduceMul,Int.reduceToNat,Nat.reducePow,Int.reduceNeg,Nat.reduceAdd,Nat.reduceLT,Nat.reduceLeDiff,sA,sB,Nat.reduceEqDiff,cQ,rowQ,rowU,rowT,rowM,i64s_getD,i64s_length,i64s_all,i64s_take,i64s_drop,i64s_set,i64s_one,i64s_pure,i64s_append,tab_length,tab_drop,tab_take,tab_append,tab_nil,rowT_all,rowT_one,rowT_pure,rowU_all,rowU_one,rowU_pure,rowQ_all,rowQ_one,rowQ_pure,rowM_all,rowM_one,rowM_pure,List.take_length,List.length_append,sT,view_sref,viewRef,view_agg,views_cons,views_nil,view_bool,view_int,view_sl,view_nils,view_str,view_tup,view_nilif]):G:=e.mpr h
theorem aVc {G G':Prop} (h:G') (f:Wr G'→G:=by intro h;(repeat (first|(refine W_seqV fun K hK=>?_;(try (refine sVc ?_;try exact True.intro));(repeat refine aI ?_);refine hK _ ?_;clear hK K)|(refine W_seqR fun K hK=>?_;(try (refine sVc ?_;try exact True.intro));(repeat refine aI ?_);refine hK _ ?_;clear hK K)|(refine W_seqD mixed [] (by kernel_rfl) fun K hK=>?_;(try (refine sVc ?_;try exact True.intro));(repeat refine aI ?_);refine hK _ ?_;clear hK K)));exact h.out):G:=f ⟨h⟩
def delM (l:List (Int × RR)) (v:Int):List (Int × RR):=l.filter fun p=>!(p.1 == v)
theorem delM_take {l:List (Int × RR)} {v:Int} {i:Nat} (h:i<l.length):delM (l.take (i+1)) v=delM (l.take i) v++if (l.getD i default).1=v then [] else [l.getD i default]:=by
 unfold delM
 rw [List.take_succ_eq_append_getElem h,List.filter_append]
 have:l.getD i default=l[i]:=by simp [List.getD_eq_getElem?_getD,h]
 rw [this]
 congr 1
 by_cases hv:l[i].1=v
 ·simp [hv]
 ·simp [hv]
theorem vals_delM (l:List (Int × RR)) (v:Int):vals (delM l v)=delF (vals l) v:=by
 unfold vals delM delF
 rw [List.filter_map]
 rfl
theorem delM_len (l:List (Int × RR)) (v:Int):(delM l v).length≤l.length:=List.length_filter_le _ _
theorem FOk.del {f:List (Int × RR)} {B:Nat} (h:FOk f B) (v:Int):FOk (delM f v) B :=
 ⟨fun p hp=>h.ok p (List.mem_filter.1 hp).1,by rw [vals_delM];exact delF_sz h.sz v⟩
theorem froz_arrF {i:Nat} {rows rs:List (List AV)} {T:TypeId} {k:Nat}:Ob.froz i rows (.arr T k false rs) = .arr T k false (rs.map (AV.frozs i rows)):=rfl
def solvA (f:List (Int × RR)) (r:RR) (v:Int):AV:=if coef (vals f) v=0 then .tup [.agg [.sl [],.bool false,.sl [],.sl []],.int .i64 61] else
 .tup [.agg (affQ (normF (scaleF (-(coef (vals f) v)⁻¹) (delF (vals f) v))) (-(coef (vals f) v)⁻¹*r.v)),.int .i64 0]
theorem r6solve_ok (f:List (Int × RR)) (r:RR) (v:Int) {B:Nat} (hf:FOk f B) (hB:B<1073741824) (hr:r.ok) :
  Pure Tryz.prog 96 [.agg (affM f r),.int .i64 v] (·=solvA f r v):=by
 have b0:=f6coef_ok f v (hf.pf (by omega)) (by omega)
 have hnc:nb (coef (vals f) v)≤1+B:=(hf.pf (by omega)).coef v
 have b1:=f3inv_ok (qr (coef (vals f) v)) (qr_ok (by omega))
 rw [qr_v] at b1
 have b2:=f3neg_ok (qr (coef (vals f) v)⁻¹) (qr_ok (by rw [nb_inv];omega))
 rw [qr_v] at b2
 have hnn:nb (-(coef (vals f) v)⁻¹)≤1+B:=by rw [nb_neg,nb_inv];exact hnc
 have hd:=hf.del v
 have b3:=f6scale_ok (qr (-(coef (vals f) v)⁻¹)) (delM f v) (qr_ok (by omega)) (hd.pf (by omega)) (fun p hp=>by
  have:=hd.sz.mem (p:=(p.1,p.2.v)) (List.mem_map.2 ⟨p,hp,rfl⟩)
  rw [qr_v]
  simp only at this
  omega) (by rw [qr_v];omega)
 rw [qr_v,vals_delM] at b3
 have b4:=f3mul_ok (qr (-(coef (vals f) v)⁻¹)) r (qr_ok (by omega)) hr
 rw [qr_v] at b4
 have hl:f.length<1099511627776:=by have:=hf.sz.l;rw [vals_length] at this;omega
 have hdl:∀ i,(delM (f.take i) v).length≤f.length:=fun i=>by
  have:=delM_len (f.take i) v
  rw [List.length_take] at this
  omega
 have hst:=fun i (h:i<f.length)=>delM_take (v:=v) h
 have h0:delM (f.take 0) v=[]:=rfl
 have hall:delM (f.take f.length) v=delM f v:=by rw [List.take_length]
 rw [← hall] at b3
 unfold solvA affM affQ
 generalize delF (vals f) v=D at *
 generalize coef (vals f) v=q at *
 generalize hE:(fun i=>delM (f.take i) v)=E at *
 have hE':∀ i,delM (f.take i) v=E i:=fun i=>congrFun hE i
 simp only [hE'] at *
 clear hE hE'
 simp only [qr_av] at b1 b2 b3 b4
 by_cases hq:q=0
 ·subst hq
  simp only [if_true] at b1 ⊢
  simp only [noQ,cQ,cF,cL,RR.av] at *
  (refine pureW Tryz.func96 rfl (rs:=[Go.ResultVar.cell 4 121,Go.ResultVar.tmp 5]) rfl (n:=55) rfl ?_;simp only [List.length_cons,List.length_nil,List.replicate,List.cons_append,List.nil_append])
  (refine aVc ?_)
  ((refine W_seqV ?_);intro K hK;(refine sVc ?_))
  (refine ⟨by kernel_rfl,_,.pure rfl (b0),?_⟩;(try (refine sVc ?_)))
  (refine ⟨by kernel_rfl,_,.pure rfl (b1),?_⟩;(try (refine sVc ?_)))
  (refine hK _ ?_;clear hK K)
  (repeat' (first | (exfalso;simp at h;done) | (refine W_seqV fun K hK=>?_;(try (refine sVc ?_));refine hK _ ?_;clear hK K) | (refine W_ret ?_;(refine qG ?_)) | (refine W_cond rfl (fun h=>?_) (fun h=>?_) <;> (try simp only [cond_true,cond_false,ne_eq,cB] at h)) | refine W_seq ?_))
  (try (refine sVcV ?_;try exact True.intro))
 ·rw [if_neg hq] at b1 ⊢
  generalize -q⁻¹=c at *
  generalize q⁻¹=j at *
  generalize normF (scaleF c D)=G at *
  generalize c*r.v=m at *
  simp only [cQE,cQ,cF,cL,RR.av] at *
  (refine pureW Tryz.func96 rfl (rs:=[Go.ResultVar.cell 4 121,Go.ResultVar.tmp 5]) rfl (n:=55) rfl ?_;simp only [List.length_cons,List.length_nil,List.replicate,List.cons_append,List.nil_append])
  (refine aVc ?_)
  ((refine W_seqV ?_);intro K hK;(refine sVc ?_))
  (refine ⟨by kernel_rfl,_,.pure rfl (b0),?_⟩;(try (refine sVc ?_)))
  (refine ⟨by kernel_rfl,_,.pure rfl (b1),?_⟩;(try (refine sVc ?_)))
  (refine hK _ ?_;clear hK K)
  (repeat' (first | (exfalso;simp at h;done) | (refine W_seqV fun K hK=>?_;(try (refine sVc ?_));refine hK _ ?_;clear hK K) | refine W_skip ?_ | (refine W_cond rfl (fun h=>?_) (fun h=>?_) <;> (try simp only [cond_true,cond_false,ne_eq,cB] at h)) | refine W_seq ?_))
  ((refine W_regV ?_);intro K hK;(refine sVc ?_))
  (refine ⟨by kernel_rfl,_,.pure rfl (b2),?_⟩;(try (refine sVc ?_)))
  (refine hK _ ?_;clear hK K)
  ((refine W_seqV ?_);intro K hK;(refine sVc ?_))
  (refine hK _ ?_;clear hK K)
  refine W.le ?_ (Le_nil 9 9 55 4 true rfl rfl)
  simp only [List.set]
  refine W_seq ?_
  ((refine W_seqV ?_);intro K hK;(refine sVc ?_))
  (refine hK _ ?_;clear hK K)
  refine W_block (W_loop (fun s:{i:Nat // i≤f.length} =>
   ⟨[.any,.int .i64 v,.ptr 2 0 0,.any,.ptr 4 0 0,.any,.any,.any,.ptr 8 0 0,.sref 9 0 (E s.1).length,.int .i64 s.1,.any,.any,.any,.any,.any,.any,.any,.any,.any,.any,.any,.any,.any,.any,.any,.any,.any,.any,.any,.any,.any,.any,.any,.any,.any,.any,.any,.any,.any,.any,.any,.any,.any,.any,.any,.any,.any,.any,.any,.any,.any,.any,.any,.any],[.dead,.dead,.arr 121 4 false [[.sl (tab rowM f),.bool r.neg,.sl (u32s r.num),.sl (u32s r.den)]],.dead,.arr 121 4 false [[.nils,.bool false,.nils,.nils]],.dead,.dead,.dead,.arr 53 3 false [[.bool (decide (c.num<0)),.sl (u32s (limbs c.num.natAbs)),.sl (u32s (limbs c.den))]],.arr 55 4 true (tab rowM (E s.1)),.dead,.dead,.dead,.dead,.dead,.dead,.dead,.dead,.dead,.dead,.dead,.dead,.dead,.dead,.dead,.dead,.dead,.dead,.dead,.dead,.dead,.dead,.dead,.dead,.dead,.dead,.dead,.dead,.dead,.dead,.dead,.dead,.dead,.dead,.dead,.dead,.dead,.dead,.dead,.dead,.dead,.dead,.dead,.dead,.dead]⟩) (fun s=>f.length-s.1)
   ⟨0,by omega⟩ (Le_drop (by simp [leE,h0]) (by simp [leH,h0,tab]) rfl rfl) fun s=>?_)
  obtain ⟨i,hi⟩:=s
  dsimp only
  by_cases hlt:i<f.length
  ·have hfi:(tab rowM f).getD i []=rowM (f.getD i default):=tab_getD hlt
   have hsi:=hst i hlt
   have hdi:=hdl i
   generalize f.getD i default=p at *
   generalize hE1:E (i+1)=o' at *
   generalize E i=o at *
   obtain ⟨w,neg,nn,dd⟩:=p
   simp only [rowM] at hfi
   dsimp only at *
   refine W_seq ?_
   ((refine W_seqV ?_);intro K hK;(refine sVcX hlt ?_))
   (refine hK _ ?_;clear hK K)
   (refine W_ct rfl ?_)
   refine W_skip ?_
   simp only [thenW]
   refine W_seq ?_
   refine W_block ?_
   refine W_seq ?_
   by_cases hw:w=v
   ·have hwb:(w != v)=false:=by simp [hw]
    rw [if_pos hw,List.append_nil] at hsi
    ((refine W_regV ?_);intro K hK;(refine sVcX (And.intro hlt (And.intro hfi hwb)) ?_))
    (refine hK _ ?_;clear hK K)
    simp only [thenW]
    (refine W_cf rfl ?_)
    refine W_skip ?_
    simp only [thenW,blockW]
    ((refine W_regV ?_);intro K hK;(refine sVc ?_))
    (refine hK _ ?_;clear hK K)
    simp only [blockW,thenW]
    refine ⟨⟨i+1,by omega⟩,Le_drop (by simp [leE,hE1,hsi]) (by simp [leH,hE1,hsi]) rfl rfl,?_⟩
    dsimp only
    omega
   ·have hwb:(w != v)=true:=by simp [hw]
    rw [if_neg hw] at hsi
    ((refine W_regV ?_);intro K hK;(refine sVcX (And.intro hlt (And.intro hfi hwb)) ?_))
    (refine hK _ ?_;clear hK K)
    simp only [thenW]
    (refine W_ct rfl ?_)
    refine W_regR fun K hK=>?_
    (refine sVcX (And.intro hfi hlt) ?_;try exact True.intro)
    (repeat refine aI ?_)
    refine hK _ ?_
    clear hK K
    simp only [thenW,blockW]
    ((refine W_regV ?_);intro K hK;(refine sVc ?_))
    (refine hK _ ?_;clear hK K)
    simp only [blockW,thenW]
    refine ⟨⟨i+1,by omega⟩,Le_drop (by simp [leE,hE1,hsi]) (by simp [leH,hE1,hsi,← tab_snoc,rowM,tab_take,List.take_of_length_le]) rfl rfl,?_⟩
    dsimp only
    omega
  ·obtain rfl:i=f.length:=by omega
   have hdi:=hdl f.length
   generalize E f.length=o at *
   refine W_seq ?_
   ((refine W_seqV ?_);intro K hK;(refine sVc ?_))
   (refine hK _ ?_;clear hK K)
   (refine W_cf rfl ?_)
   refine W_exit ?_
   simp only [thenW,blockW,if_true]
   (refine W.le ?_ (Le_freeze 9 (rows:=tab rowM o) rfl (by simp) (.inl rfl));simp only [St.freeze,List.map_cons,List.map_nil,List.set,if_true,if_false,Nat.reduceEqDiff,reduceCtorEq,List.drop_zero,u32s_take,u32s_drop,froz_any,froz_und,froz_int,froz_bool,froz_str,froz_nils,froz_sl,froz_ia,froz_nilp,froz_nilif,froz_nilfn,froz_nilmp,froz_gl,froz_sref,froz_ptr,froz_agg,froz_tup,froz_fn,froz_ifc,frozs_nil,frozs_cons,froz_dead,froz_arr,froz_mp,froz_it,froz_md,froz_map,froz_iter])
   simp only [froz_arrF,List.map_cons,List.map_nil,frozs_cons,frozs_nil,froz_bool,froz_sl,froz_nils,froz_int]
   ((refine W_seqD mixed [] (by kernel_rfl) ?_);intro K hK;(refine sVcX hdi ?_))
   (refine ⟨by kernel_rfl,_,.pure rfl (b3),?_⟩;(try (refine sVc ?_)))
   (refine ⟨by kernel_rfl,_,.pure rfl (b4),?_⟩;(try (refine sVc ?_)))
   (refine hK _ ?_;clear hK K)
   (repeat' (refine W_ret ?_;(refine qG ?_)))
   (try (refine sVcV ?_;try exact True.intro))
def subsA (f:List (Int × RR)) (r:RR) (v:Int) (g:List (Int × RR)) (s:RR):AV := .agg (affQ (normF (delF (vals f) v++normF (scaleF (coef (vals f) v) (vals g)))) (r.v+coef (vals f) v*s.v))
theorem r6subst_ok (f:List (Int × RR)) (r:RR) (v:Int) (g:List (Int × RR)) (s:RR) {B C:Nat} (hf:FOk f B) (hg:FOk g C) (hr:r.ok) (hs:s.ok) (hB:B<1073741824) (hC:C<2147483648) (hgn:NF (vals g)) (hz:nb s.v<1073741824) :
  Pure Tryz.prog 97 [.agg (affM f r),.int .i64 v,.agg (affM g s)] (·=subsA f r v g s):=by
 have b0:=f6coef_ok f v (hf.pf (by omega)) (by omega)
 have hnc:nb (coef (vals f) v)≤1+B:=(hf.pf (by omega)).coef v
 have hd:=hf.del v
 have b1:=f6scale_ok (qr (coef (vals f) v)) g (qr_ok (by omega)) (hg.pf (by omega)) (fun p hp=>by
  have:=hg.sz.mem (p:=(p.1,p.2.v)) (List.mem_map.2 ⟨p,hp,rfl⟩)
  rw [qr_v]
  simp only at this
  omega) (by rw [qr_v];omega)
 rw [qr_v] at b1
 have hgs:Sz (normF (scaleF (coef (vals f) v) (vals g))) (1+B+C):=((hg.sz.scale hgn (coef (vals f) v)).norm).mono (by omega)
 have hgf:=FOk.rf hgs (by omega)
 have hdl0:(delM f v).length≤B:=by have:=hd.sz.l;rwa [vals_length] at this
 have hgl0:(rf (normF (scaleF (coef (vals f) v) (vals g)))).length≤1+B+C:=by have:=hgf.sz.l;rwa [vals_length] at this
 have b2:=f6add_ok (delM f v) (rf (normF (scaleF (coef (vals f) v) (vals g)))) (hd.pf (by omega)) (hgf.pf (by omega)) (by omega) (by omega)
 rw [vals_rf,cF_rf,vals_delM] at b2
 have b3:=f3mul_ok (qr (coef (vals f) v)) s (qr_ok (by omega)) hs
 rw [qr_v] at b3
 have hnm:=nb_mul (coef (vals f) v) s.v
 have b4:=f3add_ok r (qr (coef (vals f) v*s.v)) hr (qr_ok (by omega))
 rw [qr_v] at b4
 have hl:f.length<1099511627776:=by have:=hf.sz.l;rw [vals_length] at this;omega
 have hdl:∀ i,(delM (f.take i) v).length≤f.length:=fun i=>by
  have:=delM_len (f.take i) v
  rw [List.length_take] at this
  omega
 have hst:=fun i (h:i<f.length)=>delM_take (v:=v) h
 have h0:delM (f.take 0) v=[]:=rfl
 have hall:delM (f.take f.length) v=delM f v:=by rw [List.take_length]
 rw [← hall] at b2
 clear hgs hgf hd hf hdl0 hgl0
 unfold subsA affM affQ
 generalize delF (vals f) v=D at *
 generalize coef (vals f) v=c at *
 generalize normF (scaleF c (vals g))=X at *
 generalize normF (D++X)=G at *
 generalize c*s.v=m at *
 generalize r.v+m=a at *
 generalize hE:(fun i=>delM (f.take i) v)=E at *
 have hE':∀ i,delM (f.take i) v=E i:=fun i=>congrFun hE i
 simp only [hE'] at *
 clear hE hE'
 simp only [qr_av] at b1 b2 b3 b4
 simp only [cQ,cF,cL,RR.av] at *
 (refine pureW Tryz.func97 rfl (rs:=[Go.ResultVar.cell 6 121]) rfl (n:=51) rfl ?_;simp only [List.length_cons,List.length_nil,List.replicate,List.cons_append,List.nil_append])
 (refine aVc ?_)
 ((refine W_seqV ?_);intro K hK;(refine sVc ?_))
 (refine ⟨by kernel_rfl,_,.pure rfl (b0),?_⟩;(try (refine sVc ?_)))
 (refine hK _ ?_;clear hK K)
 ((refine W_seqV ?_);intro K hK;(refine sVc ?_))
 (refine hK _ ?_;clear hK K)
 refine W.le ?_ (Le_nil 8 8 55 4 true rfl rfl)
 simp only [List.set]
 refine W_seq ?_
 ((refine W_seqV ?_);intro K hK;(refine sVc ?_))
 (refine hK _ ?_;clear hK K)
 refine W_block (W_loop (fun z:{i:Nat // i≤f.length} =>
  ⟨[.any,.int .i64 v,.any,.ptr 3 0 0,.any,.ptr 5 0 0,.ptr 6 0 0,.ptr 7 0 0,.sref 8 0 (E z.1).length,.int .i64 z.1,.any,.any,.any,.any,.any,.any,.any,.any,.any,.any,.any,.any,.any,.any,.any,.any,.any,.any,.any,.any,.any,.any,.any,.any,.any,.any,.any,.any,.any,.any,.any,.any,.any,.any,.any,.any,.any,.any,.any,.any,.any],[.dead,.dead,.dead,.arr 121 4 false [[.sl (tab rowM f),.bool r.neg,.sl (u32s r.num),.sl (u32s r.den)]],.dead,.arr 121 4 false [[.sl (tab rowM g),.bool s.neg,.sl (u32s s.num),.sl (u32s s.den)]],.arr 121 4 false [[.nils,.bool false,.nils,.nils]],.arr 53 3 false [[.bool (decide (c.num<0)),.sl (u32s (limbs c.num.natAbs)),.sl (u32s (limbs c.den))]],.arr 55 4 true (tab rowM (E z.1)),.dead,.dead,.dead,.dead,.dead,.dead,.dead,.dead,.dead,.dead,.dead,.dead,.dead,.dead,.dead,.dead,.dead,.dead,.dead,.dead,.dead,.dead,.dead,.dead,.dead,.dead,.dead,.dead,.dead,.dead,.dead,.dead,.dead,.dead,.dead,.dead,.dead,.dead,.dead,.dead,.dead,.dead]⟩) (fun z=>f.length-z.1)
  ⟨0,by omega⟩ (Le_drop (by simp [leE,h0]) (by simp [leH,h0,tab]) rfl rfl) fun z=>?_)
 obtain ⟨i,hi⟩:=z
 dsimp only
 by_cases hlt:i<f.length
 ·have hfi:(tab rowM f).getD i []=rowM (f.getD i default):=tab_getD hlt
  have hsi:=hst i hlt
  have hdi:=hdl i
  generalize f.getD i default=p at *
  generalize hE1:E (i+1)=o' at *
  generalize E i=o at *
  obtain ⟨w,neg,nn,dd⟩:=p
  simp only [rowM] at hfi
  dsimp only at *
  refine W_seq ?_
  ((refine W_seqV ?_);intro K hK;(refine sVcX hlt ?_))
  (refine hK _ ?_;clear hK K)
  (refine W_ct rfl ?_)
  refine W_skip ?_
  simp only [thenW]
  refine W_seq ?_
  refine W_block ?_
  refine W_seq ?_
  by_cases hw:w=v
  ·have hwb:(w != v)=false:=by simp [hw]
   rw [if_pos hw,List.append_nil] at hsi
   ((refine W_regV ?_);intro K hK;(refine sVcX (And.intro hlt (And.intro hfi hwb)) ?_))
   (refine hK _ ?_;clear hK K)
   simp only [thenW]
   (refine W_cf rfl ?_)
   refine W_skip ?_
   simp only [thenW,blockW]
   ((refine W_regV ?_);intro K hK;(refine sVc ?_))
   (refine hK _ ?_;clear hK K)
   simp only [blockW,thenW]
   refine ⟨⟨i+1,by omega⟩,Le_drop (by simp [leE,hE1,hsi]) (by simp [leH,hE1,hsi]) rfl rfl,?_⟩
   dsimp only
   omega
  ·have hwb:(w != v)=true:=by simp [hw]
   rw [if_neg hw] at hsi
   ((refine W_regV ?_);intro K hK;(refine sVcX (And.intro hlt (And.intro hfi hwb)) ?_))
   (refine hK _ ?_;clear hK K)
   simp only [thenW]
   (refine W_ct rfl ?_)
   refine W_regR fun K hK=>?_
   (refine sVcX (And.intro hfi hlt) ?_;try exact True.intro)
   (repeat refine aI ?_)
   refine hK _ ?_
   clear hK K
   simp only [thenW,blockW]
   ((refine W_regV ?_);intro K hK;(refine sVc ?_))
   (refine hK _ ?_;clear hK K)
   simp only [blockW,thenW]
   refine ⟨⟨i+1,by omega⟩,Le_drop (by simp [leE,hE1,hsi]) (by simp [leH,hE1,hsi,← tab_snoc,rowM,tab_take,List.take_of_length_le]) rfl rfl,?_⟩
   dsimp only
   omega
 ·obtain rfl:i=f.length:=by omega
  have hdi:=hdl f.length
  generalize E f.length=o at *
  refine W_seq ?_
  ((refine W_seqV ?_);intro K hK;(refine sVc ?_))
  (refine hK _ ?_;clear hK K)
  (refine W_cf rfl ?_)
  refine W_exit ?_
  simp only [thenW,blockW,if_true]
  (refine W.le ?_ (Le_freeze 8 (rows:=tab rowM o) rfl (by simp) (.inl rfl));simp only [St.freeze,List.map_cons,List.map_nil,List.set,if_true,if_false,Nat.reduceEqDiff,reduceCtorEq,List.drop_zero,u32s_take,u32s_drop,froz_any,froz_und,froz_int,froz_bool,froz_str,froz_nils,froz_sl,froz_ia,froz_nilp,froz_nilif,froz_nilfn,froz_nilmp,froz_gl,froz_sref,froz_ptr,froz_agg,froz_tup,froz_fn,froz_ifc,frozs_nil,frozs_cons,froz_dead,froz_arr,froz_mp,froz_it,froz_md,froz_map,froz_iter])
  simp only [froz_arrF,List.map_cons,List.map_nil,frozs_cons,frozs_nil,froz_bool,froz_sl,froz_nils,froz_int]
  ((refine W_seqD mixed [] (by kernel_rfl) ?_);intro K hK;(refine sVcX hdi ?_))
  (refine ⟨by kernel_rfl,_,.pure rfl (b1),?_⟩;(try (refine sVc ?_)))
  (refine ⟨by kernel_rfl,_,.pure rfl (b2),?_⟩;(try (refine sVc ?_)))
  (refine ⟨by kernel_rfl,_,.pure rfl (b3),?_⟩;(try (refine sVc ?_)))
  (refine ⟨by kernel_rfl,_,.pure rfl (b4),?_⟩;(try (refine sVc ?_)))
  (refine hK _ ?_;clear hK K)
  (repeat' (refine W_ret ?_;(refine qG ?_)))
  (try (refine sVcV ?_;try exact True.intro))
theorem sUe {G G':Prop} (h:G') (e:G=G':=by conv=>lhs;simp (disch:=omega) only [rowsOf,cNat,cN,St.ret,St.seth,Eff.app,Eff.wi,sepL,guardOf,St.known,objOf,List.set,sliceW,litW,copyW,lenOf,bnd,mxOk,ofCells,TI.isAgg,cellsOf,storable,AV.one,dead,laid,overlay,reduceCtorEq,Int.reduceLE,Int.reduceLT,Int.reduceSub,Int.reduceAdd,Nat.reduceMul,Int.reduceToNat,Nat.reducePow,Int.reduceNeg,Nat.reduceAdd,Nat.reduceLT,Nat.reduceLeDiff,sA,sB,Nat.reduceEqDiff,cQ,rowQ,rowU,rowT,rowM,i64s_getD,i64s_length,i64s_all,tab_length,tab_drop,tab_take,tab_append,tab_nil,rowT_all,rowT_one,rowT_pure,rowU_all,rowU_one,rowU_pure,rowQ_all,rowQ_one,rowQ_pure,rowM_all,rowM_one,rowM_pure,List.take_length,List.length_append,sT]):G:=e.mpr h
theorem sUeX {G G' P:Prop} (p:P) (h:G') (e:P→G=G':=by intro p;conv=>lhs;simp (disch:=omega) only [rowsOf,cNat,cN,St.ret,St.seth,Eff.app,Eff.wi,sepL,guardOf,St.known,objOf,List.set,sliceW,litW,copyW,lenOf,bnd,mxOk,ofCells,TI.isAgg,cellsOf,storable,AV.one,dead,laid,overlay,reduceCtorEq,Int.reduceLE,Int.reduceLT,Int.reduceSub,Int.reduceAdd,Nat.reduceMul,Int.reduceToNat,Nat.reducePow,Int.reduceNeg,Nat.reduceAdd,Nat.reduceLT,Nat.reduceLeDiff,sA,sB,Nat.reduceEqDiff,cQ,rowQ,rowU,rowT,rowM,i64s_getD,i64s_length,i64s_all,tab_length,tab_drop,tab_take,tab_append,tab_nil,rowT_all,rowT_one,rowT_pure,rowU_all,rowU_one,rowU_pure,rowQ_all,rowQ_one,rowQ_pure,rowM_all,rowM_one,rowM_pure,List.take_length,List.length_append,sT,p]):G:=(e p).mpr h
theorem sUeV {G G':Prop} (h:G') (e:G=G':=by conv=>lhs;simp (disch:=omega) only [rowsOf,cNat,cN,St.ret,St.seth,Eff.app,Eff.wi,sepL,guardOf,St.known,objOf,List.set,sliceW,litW,copyW,lenOf,bnd,mxOk,ofCells,TI.isAgg,cellsOf,storable,AV.one,dead,laid,overlay,reduceCtorEq,Int.reduceLE,Int.reduceLT,Int.reduceSub,Int.reduceAdd,Nat.reduceMul,Int.reduceToNat,Nat.reducePow,Int.reduceNeg,Nat.reduceAdd,Nat.reduceLT,Nat.reduceLeDiff,sA,sB,Nat.reduceEqDiff,cQ,rowQ,rowU,rowT,rowM,i64s_getD,i64s_length,i64s_all,tab_length,tab_drop,tab_take,tab_append,tab_nil,rowT_all,rowT_one,rowT_pure,rowU_all,rowU_one,rowU_pure,rowQ_all,rowQ_one,rowQ_pure,rowM_all,rowM_one,rowM_pure,List.take_length,List.length_append,sT,view_sref,viewRef,view_agg,views_cons,views_nil,view_bool,view_int,view_sl,view_nils,view_str,view_tup,view_nilif]):G:=e.mpr h
theorem aUe {G G':Prop} (h:G') (f:Wr G'→G:=by intro h;(repeat (first|(refine W_seqV fun K hK=>?_;(try (refine sUe ?_;try exact True.intro));(repeat refine aI ?_);refine hK _ ?_;clear hK K)|(refine W_seqR fun K hK=>?_;(try (refine sUe ?_;try exact True.intro));(repeat refine aI ?_);refine hK _ ?_;clear hK K)|(refine W_seqD mixed [] (by kernel_rfl) fun K hK=>?_;(try (refine sUe ?_;try exact True.intro));(repeat refine aI ?_);refine hK _ ?_;clear hK K)));exact h.out):G:=f ⟨h⟩
theorem FormOk.pf {f:List (Int × RR)} (h:FormOk f):PF f 68157441:=by
 have:=h.sz
 exact (h.fok.pf (by omega)).mono (by omega)
theorem r7express_g (n:Int) (t:TR) (f:List (Int × RR)) (hT:TG t) (hf:FOk f 536870912) (hx:goodB n (nrmT t)=true→knownB n (normF (vals f))=true→ExOk (nrmT t) f):Pure Tryz.prog 26 [cT n t,cF f] (·=exprV n t f):=by
 have a1:=r7check_ok n t hT
 have a2:=r7knows_ok n t f (hf.pf (by omega)) (by omega)
 have a3:=fun (hg:goodB n (nrmT t)=true) hk=>r7expr_ok n t f hT (gt_iff.1 hg) (hx hg hk) hk
 unfold exprV
 unfold cT at *
 generalize exprT (nrmT t) (vals f)=R at *
 generalize goodB n (nrmT t)=gb at *
 generalize knownB n (normF (vals f))=kb at *
 simp only [cF,cL] at *
 cases gb
 ·simp only [Bool.false_eq_true,if_false] at a1 ⊢
  (refine pureW Tryz.func26 rfl (rs:=[Go.ResultVar.tmp 4,Go.ResultVar.tmp 5]) rfl (n:=19) rfl ?_;simp only [List.length_cons,List.length_nil,List.replicate,List.cons_append,List.nil_append])
  (refine aUe ?_)
  ((refine W_seq (W_seqV ?_));intro K hK;(refine sUe ?_))
  (refine ⟨by kernel_rfl,_,.pure rfl (a1),?_⟩;(try (refine sUe ?_)))
  (refine hK _ ?_;clear hK K)
  (repeat' (first | (exfalso;simp at h;done) | (refine W_seqV fun K hK=>?_;(try (refine sUe ?_));refine hK _ ?_;clear hK K) | (refine W_ret ?_;(refine qG ?_;try exact True.intro)) | (refine W_cond rfl (fun h=>?_) (fun h=>?_) <;> (try simp only [cond_true,cond_false,ne_eq,cB] at h))))
 simp only [if_true] at a1 ⊢
 cases kb
 ·simp only [Bool.false_eq_true,if_false]
  (refine pureW Tryz.func26 rfl (rs:=[Go.ResultVar.tmp 4,Go.ResultVar.tmp 5]) rfl (n:=19) rfl ?_;simp only [List.length_cons,List.length_nil,List.replicate,List.cons_append,List.nil_append])
  (refine aUe ?_)
  ((refine W_seq (W_seqV ?_));intro K hK;(refine sUe ?_))
  (refine ⟨by kernel_rfl,_,.pure rfl (a1),?_⟩;(try (refine sUe ?_)))
  (refine hK _ ?_;clear hK K)
  (repeat' (first | (exfalso;simp at h;done) | (refine W_seqV fun K hK=>?_;(try (refine sUe ?_));refine hK _ ?_;clear hK K) | refine W_skip ?_ | (refine W_cond rfl (fun h=>?_) (fun h=>?_) <;> (try simp only [cond_true,cond_false,ne_eq,cB] at h)) | refine W_seq ?_))
  ((refine W_regV ?_);intro K hK;(refine sUe ?_))
  (refine ⟨by kernel_rfl,_,.pure rfl (a2),?_⟩;(try (refine sUe ?_)))
  (refine hK _ ?_;clear hK K)
  (repeat' (first | (exfalso;simp at h;done) | (refine W_seqV fun K hK=>?_;(try (refine sUe ?_));refine hK _ ?_;clear hK K) | (refine W_ret ?_;(refine qG ?_;try exact True.intro)) | (refine W_cond rfl (fun h=>?_) (fun h=>?_) <;> (try simp only [cond_true,cond_false,ne_eq,cB] at h))))
 ·simp only [if_true]
  have a3':=a3 rfl rfl
  (refine pureW Tryz.func26 rfl (rs:=[Go.ResultVar.tmp 4,Go.ResultVar.tmp 5]) rfl (n:=19) rfl ?_;simp only [List.length_cons,List.length_nil,List.replicate,List.cons_append,List.nil_append])
  (refine aUe ?_)
  ((refine W_seq (W_seqV ?_));intro K hK;(refine sUe ?_))
  (refine ⟨by kernel_rfl,_,.pure rfl (a1),?_⟩;(try (refine sUe ?_)))
  (refine hK _ ?_;clear hK K)
  (repeat' (first | (exfalso;simp at h;done) | (refine W_seqV fun K hK=>?_;(try (refine sUe ?_));refine hK _ ?_;clear hK K) | refine W_skip ?_ | (refine W_cond rfl (fun h=>?_) (fun h=>?_) <;> (try simp only [cond_true,cond_false,ne_eq,cB] at h)) | refine W_seq ?_))
  ((refine W_regV ?_);intro K hK;(refine sUe ?_))
  (refine ⟨by kernel_rfl,_,.pure rfl (a2),?_⟩;(try (refine sUe ?_)))
  (refine hK _ ?_;clear hK K)
  (repeat' (first | (exfalso;simp at h;done) | refine W_skip ?_ | (refine W_cond rfl (fun h=>?_) (fun h=>?_) <;> (try simp only [cond_true,cond_false,ne_eq,cB] at h)) | refine W_seq ?_))
  ((refine W_regV ?_);intro K hK;(refine sUe ?_))
  (refine ⟨by kernel_rfl,_,.pure rfl (a3'),?_⟩;(try (refine sUe ?_)))
  (refine hK _ ?_;clear hK K)
  (repeat' (refine W_ret ?_;(refine qG ?_;try exact True.intro)))
theorem sortK_snoc {l:List Int} (hn:l.Nodup) {n:Int} (h:∀ x∈l,x<n):sortK (l++[n])=sortK l++[n]:=by
 refine sorted_ext ((sortK_perm _).trans ((sortK_perm l).symm.append_right [n])) (sortK_le _) ?_
 rw [List.pairwise_append]
 refine ⟨sortK_le l,by simp,fun a ha b hb=>?_⟩
 simp at hb
 subst hb
 have:=h a (mem_sortK.1 ha)
 omega
theorem look_snoc {M:TM} {n b:Int} {g:List (Int × Rat)} (hb:b∈keys M):lookM (M++[(n,g)]) b=lookM M b:=by
 obtain ⟨j,h1,h2,h3,h4,h5⟩:=look_idx hb
 rw [h4]
 unfold lookM at h4 ⊢
 rw [List.find?_append]
 cases hf:M.find? fun r=>r.1 == b with
 | none=>rw [hf] at h4;cases h4
 | some r=>rw [hf] at h4;simpa using h4
theorem sortM_snoc {M:TM} (hn:(keys M).Nodup) {n:Int} (h:∀ x∈keys M,x<n) (g:List (Int × Rat)):sortM (M++[(n,g)])=sortM M++[(n,g)]:=by
 unfold sortM
 rw [keys_append,show keys [(n,g)]=[n] from rfl,sortK_snoc hn h,List.map_append]
 congr 1
 ·refine List.map_congr_left fun b hb=>?_
  rw [look_snoc (mem_sortK.1 hb)]
 ·have hnn:n∉keys M:=fun hm=>by have:=h n hm;omega
  have hnd:(keys (M++[(n,g)])).Nodup:=by
   rw [keys_append,List.nodup_append]
   refine ⟨hn,by simp [keys],?_⟩
   rintro a ha b hb rfl
   simp [keys] at hb
   subst hb
   exact hnn ha
  simp only [List.map_cons,List.map_nil]
  rw [look_of hnd (g:=g) (by simp)]
  rfl
theorem r7define_g (n:Int) (t:TR) (f:List (Int × RR)) (hT:TG t) (hf:FOk f 536870912) (hx:goodB n (nrmT t)=true→knownB n (normF (vals f))=true→ExOk (nrmT t) f):Pure Tryz.prog 23 [cT n t,cF f] (·=defV n t f):=by
 have a1:=r7express_g n t f hT hf hx
 have hml:=nrmT_len t
 have hlen:=hT.len
 have a2:=fun hg:goodB n (nrmT t)=true=>r7sorted_new n t hT (gt_iff.1 hg).nodup fun b hb=>((gt_iff.1 hg).range b hb).1
 have hsn:=fun hg:goodB n (nrmT t)=true=>sortM_snoc (gt_iff.1 hg).nodup (fun x hx=>((gt_iff.1 hg).range x hx).2) (exprT (nrmT t) (vals f)) (n:=n)
 have hgn:goodB n (nrmT t)=true→0≤n∧n≤65536:=fun h=>⟨(gt_iff.1 h).lo,(gt_iff.1 h).hi⟩
 have hsl:(sortM (nrmT t)).length=t.length:=by rw [sortM_len,hml]
 unfold exprV at a1
 unfold defV
 unfold cT cU at *
 have hz:tab rowU []=[]:=rfl
 rw [hz]
 generalize exprT (nrmT t) (vals f)=R at *
 generalize goodB n (nrmT t)=gb at *
 generalize knownB n (normF (vals f))=kb at *
 simp only [cF,cL] at *
 cases gb
 ·simp only [Bool.false_eq_true,if_false] at a1 ⊢
  (refine pureW Tryz.func23 rfl (rs:=[Go.ResultVar.cell 4 24,Go.ResultVar.tmp 5,Go.ResultVar.tmp 6]) rfl (n:=42) rfl ?_;simp only [List.length_cons,List.length_nil,List.replicate,List.cons_append,List.nil_append])
  (refine aUe ?_)
  ((refine W_seqV ?_);intro K hK;(refine sUe ?_))
  (refine ⟨by kernel_rfl,_,.pure rfl (a1),?_⟩;(try (refine sUe ?_)))
  (refine hK _ ?_;clear hK K)
  (repeat' (first | (exfalso;simp at h;done) | (refine W_seqV fun K hK=>?_;(try (refine sUe ?_));refine hK _ ?_;clear hK K) | (refine W_ret ?_;(refine qG ?_)) | (refine W_cond rfl (fun h=>?_) (fun h=>?_) <;> (try simp only [cond_true,cond_false,ne_eq,cB] at h)) | refine W_seq ?_))
  (try (refine sUeV ?_;try exact True.intro))
 simp only [if_true] at a1 ⊢
 cases kb
 ·simp only [Bool.false_eq_true,if_false] at a1 ⊢
  (refine pureW Tryz.func23 rfl (rs:=[Go.ResultVar.cell 4 24,Go.ResultVar.tmp 5,Go.ResultVar.tmp 6]) rfl (n:=42) rfl ?_;simp only [List.length_cons,List.length_nil,List.replicate,List.cons_append,List.nil_append])
  (refine aUe ?_)
  ((refine W_seqV ?_);intro K hK;(refine sUe ?_))
  (refine ⟨by kernel_rfl,_,.pure rfl (a1),?_⟩;(try (refine sUe ?_)))
  (refine hK _ ?_;clear hK K)
  (repeat' (first | (exfalso;simp at h;done) | (refine W_seqV fun K hK=>?_;(try (refine sUe ?_));refine hK _ ?_;clear hK K) | (refine W_ret ?_;(refine qG ?_)) | (refine W_cond rfl (fun h=>?_) (fun h=>?_) <;> (try simp only [cond_true,cond_false,ne_eq,cB] at h)) | refine W_seq ?_))
  (try (refine sUeV ?_;try exact True.intro))
 simp only [if_true] at a1 ⊢
 obtain ⟨hn0,hn1⟩:=hgn rfl
 have a2':=a2 rfl
 rw [hsn rfl]
 generalize sortM (nrmT t)=N at *
 by_cases hn:n=65536
 ·rw [if_pos hn]
  (refine pureW Tryz.func23 rfl (rs:=[Go.ResultVar.cell 4 24,Go.ResultVar.tmp 5,Go.ResultVar.tmp 6]) rfl (n:=42) rfl ?_;simp only [List.length_cons,List.length_nil,List.replicate,List.cons_append,List.nil_append])
  (refine aUe ?_)
  ((refine W_seqV ?_);intro K hK;(refine sUe ?_))
  (refine ⟨by kernel_rfl,_,.pure rfl (a1),?_⟩;(try (refine sUe ?_)))
  (refine hK _ ?_;clear hK K)
  (repeat' (first | (exfalso;simp at h;done) | (refine W_seqV fun K hK=>?_;(try (refine sUe ?_));(repeat refine aI ?_);refine hK _ ?_;clear hK K) | refine W_skip ?_ | (refine W_ret ?_;(refine qG ?_)) | (refine W_cond rfl (fun h=>?_) (fun h=>?_) <;> (try simp only [cond_true,cond_false,ne_eq,cB] at h)) | refine W_seq ?_))
  ·(try (refine sUeV ?_;try exact True.intro))
  ·exact absurd hn h
 ·rw [if_neg hn]
  have hw:IntKind.wrap .i64 (n+1)=n+1:=wrap_i64 (by omega) (by omega)
  (refine pureW Tryz.func23 rfl (rs:=[Go.ResultVar.cell 4 24,Go.ResultVar.tmp 5,Go.ResultVar.tmp 6]) rfl (n:=42) rfl ?_;simp only [List.length_cons,List.length_nil,List.replicate,List.cons_append,List.nil_append])
  (refine aUe ?_)
  ((refine W_seqV ?_);intro K hK;(refine sUe ?_))
  (refine ⟨by kernel_rfl,_,.pure rfl (a1),?_⟩;(try (refine sUe ?_)))
  (refine hK _ ?_;clear hK K)
  (repeat' (first | (exfalso;simp at h;done) | (refine W_seqV fun K hK=>?_;(try (refine sUe ?_));(repeat refine aI ?_);refine hK _ ?_;clear hK K) | refine W_skip ?_ | (refine W_ret ?_;(refine qG ?_)) | (refine W_cond rfl (fun h=>?_) (fun h=>?_) <;> (try simp only [cond_true,cond_false,ne_eq,cB] at h)) | refine W_seq ?_))
  ·exact absurd h hn
  ·(refine W_regR fun K hK=>?_;(refine sUe ?_;try exact True.intro))
   refine ⟨by kernel_rfl,call_newS 25 rfl rfl a2' (fun rows h=>?_)⟩
   subst h
   (refine sUe ?_;try exact True.intro)
   (refine hK _ ?_;clear hK K)
   simp only [thenW]
   ((refine W_seqV ?_);intro K hK;(refine sUeX hw ?_))
   (refine hK _ ?_;clear hK K)
   ((refine W_seqR ?_);intro K hK;(refine sUe ?_))
   (repeat refine aI ?_);refine hK _ ?_;clear hK K
   ((refine W_seqD mixed [(2,3)] (by kernel_rfl) ?_);intro K hK;(refine sUe ?_))
   (repeat refine aI ?_);refine hK _ ?_;clear hK K
   refine W_ret ?_
   (refine qG ?_;try exact True.intro);try (refine sUeV ?_;try exact True.intro)
   rw [List.take_of_length_le (by simp [tab]),← tab_snoc]
   rfl
theorem sUf {G G':Prop} (h:G') (e:G=G':=by conv=>lhs;simp (disch:=omega) only [rowsOf,cNat,cN,St.ret,St.seth,Eff.app,Eff.wi,sepL,guardOf,St.known,objOf,List.set,sliceW,litW,copyW,lenOf,bnd,mxOk,ofCells,TI.isAgg,cellsOf,storable,AV.one,dead,laid,overlay,reduceCtorEq,Int.reduceLE,Int.reduceLT,Int.reduceSub,Int.reduceAdd,Nat.reduceMul,Int.reduceToNat,Nat.reducePow,Int.reduceNeg,Nat.reduceAdd,Nat.reduceLT,Nat.reduceLeDiff,sA,sB,Nat.reduceEqDiff,cQ,rowQ,rowU,rowT,rowM,i64s_getD,i64s_length,i64s_all,tab_length,tab_drop,tab_take,tab_append,tab_nil,rowT_all,rowT_one,rowT_pure,rowU_all,rowU_one,rowU_pure,rowQ_all,rowQ_one,rowQ_pure,rowM_all,rowM_one,rowM_pure,List.take_length,List.length_append,sT]):G:=e.mpr h
theorem sUfX {G G' P:Prop} (p:P) (h:G') (e:P→G=G':=by intro p;conv=>lhs;simp (disch:=omega) only [rowsOf,cNat,cN,St.ret,St.seth,Eff.app,Eff.wi,sepL,guardOf,St.known,objOf,List.set,sliceW,litW,copyW,lenOf,bnd,mxOk,ofCells,TI.isAgg,cellsOf,storable,AV.one,dead,laid,overlay,reduceCtorEq,Int.reduceLE,Int.reduceLT,Int.reduceSub,Int.reduceAdd,Nat.reduceMul,Int.reduceToNat,Nat.reducePow,Int.reduceNeg,Nat.reduceAdd,Nat.reduceLT,Nat.reduceLeDiff,sA,sB,Nat.reduceEqDiff,cQ,rowQ,rowU,rowT,rowM,i64s_getD,i64s_length,i64s_all,tab_length,tab_drop,tab_take,tab_append,tab_nil,rowT_all,rowT_one,rowT_pure,rowU_all,rowU_one,rowU_pure,rowQ_all,rowQ_one,rowQ_pure,rowM_all,rowM_one,rowM_pure,List.take_length,List.length_append,sT,p]):G:=(e p).mpr h
theorem sUfV {G G':Prop} (h:G') (e:G=G':=by conv=>lhs;simp (disch:=omega) only [rowsOf,cNat,cN,St.ret,St.seth,Eff.app,Eff.wi,sepL,guardOf,St.known,objOf,List.set,sliceW,litW,copyW,lenOf,bnd,mxOk,ofCells,TI.isAgg,cellsOf,storable,AV.one,dead,laid,overlay,reduceCtorEq,Int.reduceLE,Int.reduceLT,Int.reduceSub,Int.reduceAdd,Nat.reduceMul,Int.reduceToNat,Nat.reducePow,Int.reduceNeg,Nat.reduceAdd,Nat.reduceLT,Nat.reduceLeDiff,sA,sB,Nat.reduceEqDiff,cQ,rowQ,rowU,rowT,rowM,i64s_getD,i64s_length,i64s_all,tab_length,tab_drop,tab_take,tab_append,tab_nil,rowT_all,rowT_one,rowT_pure,rowU_all,rowU_one,rowU_pure,rowQ_all,rowQ_one,rowQ_pure,rowM_all,rowM_one,rowM_pure,List.take_length,List.length_append,sT,view_sref,viewRef,view_agg,views_cons,views_nil,view_bool,view_int,view_sl,view_nils,view_str,view_tup,view_nilif]):G:=e.mpr h
theorem aUf {G G':Prop} (h:G') (f:Wr G'→G:=by intro h;(repeat (first|(refine W_seqV fun K hK=>?_;(try (refine sUf ?_;try exact True.intro));(repeat refine aI ?_);refine hK _ ?_;clear hK K)|(refine W_seqR fun K hK=>?_;(try (refine sUf ?_;try exact True.intro));(repeat refine aI ?_);refine hK _ ?_;clear hK K)|(refine W_seqD mixed [] (by kernel_rfl) fun K hK=>?_;(try (refine sUf ?_;try exact True.intro));(repeat refine aI ?_);refine hK _ ?_;clear hK K)));exact h.out):G:=f ⟨h⟩
theorem len_neI (n:Nat):((n:Int) != (n:Int))=false:=by simp
theorem int_neI (n:Int):(n != n)=false:=by simp
theorem bool_eqI (b:Bool):(b == b)=true:=by simp
theorem f1same_ok (l:List Nat) (h:l.length<1099511627776):Pure Tryz.prog 114 [.sl (u32s l),.sl (u32s l)] (· = .bool true):=by
 have hz:=len_neI l.length
 (refine pureW Tryz.func114 rfl (rs:=[Go.ResultVar.tmp 4]) rfl (n:=26) rfl ?_;simp only [List.length_cons,List.length_nil,List.replicate,List.cons_append,List.nil_append])
 (refine aUf ?_)
 refine W_seq ?_
 ((refine W_seqV ?_);intro K hK;(refine sUfX hz ?_))
 (refine hK _ ?_;clear hK K)
 (refine W_cf rfl ?_)
 refine W_skip ?_
 simp only [thenW]
 refine W_seq ?_
 ((refine W_seqV ?_);intro K hK;(refine sUf ?_))
 (refine hK _ ?_;clear hK K)
 refine W_block (W_loop (fun t:{t:Nat // t≤l.length} =>
   ⟨[.sl (u32s l),.sl (u32s l),.any,.any,.any,.int .i64 t.1,.any,.any,.any,.any,.any,.any,.any,.any,.any,.any,.any,.any,.any,.any,.any,.any,.any,.any,.any,.any],[.dead,.dead,.dead,.dead,.dead,.dead,.dead,.dead,.dead,.dead,.dead,.dead,.dead,.dead,.dead,.dead,.dead,.dead,.dead,.dead,.dead,.dead,.dead,.dead,.dead,.dead]⟩) (fun t=>l.length-t.1)
   ⟨0,by omega⟩ (Le_of (by simp [leE]) (by simp)) fun t=>?_)
 obtain ⟨i,hi⟩:=t
 dsimp only
 by_cases hlt:i<l.length
 ·generalize hx:l.getD i 0=x
  have hzx:=len_neI x
  refine W_seq ?_
  ((refine W_seqV ?_);intro K hK;(refine sUfX hlt ?_))
  (refine hK _ ?_;clear hK K)
  (refine W_ct rfl ?_)
  refine W_skip ?_
  simp only [thenW]
  refine W_seq ?_
  refine W_block ?_
  ((refine W_seqD mixed [] (by kernel_rfl) ?_);intro K hK;(refine sUfX (And.intro hlt (And.intro hx hzx)) ?_))
  (refine hK _ ?_;clear hK K)
  (refine W_cf rfl ?_)
  refine W_skip ?_
  simp only [blockW,thenW]
  ((refine W_regV ?_);intro K hK;(refine sUf ?_))
  (refine hK _ ?_;clear hK K)
  simp only [blockW,thenW]
  refine ⟨⟨i+1,by omega⟩,Le_drop (by simp [leE]) (by simp [leH]) rfl rfl,?_⟩
  dsimp only
  omega
 ·obtain rfl:i=l.length:=by omega
  refine W_seq ?_
  ((refine W_seqV ?_);intro K hK;(refine sUf ?_))
  (refine hK _ ?_;clear hK K)
  (refine W_cf rfl ?_)
  refine W_exit ?_
  simp only [thenW,blockW,if_true]
  (repeat' (first | (refine W_seqV fun K hK=>?_;(try (refine sUf ?_));refine hK _ ?_;clear hK K) | (refine W_ret ?_;(refine qG ?_;try exact True.intro))))
theorem f3same_ok (r:RR) (h:r.ok):Pure Tryz.prog 72 [r.av,r.av] (· = .bool true):=by
 have h1:=f1same_ok r.num (by have:=h.nl;omega)
 have h2:=f1same_ok r.den (by have:=h.dl;omega)
 have hb:=bool_eqI r.neg
 obtain ⟨neg,n,d⟩:=r
 simp only [RR.av] at *
 (refine pureW Tryz.func72 rfl (rs:=[Go.ResultVar.tmp 4]) rfl (n:=28) rfl ?_;simp only [List.length_cons,List.length_nil,List.replicate,List.cons_append,List.nil_append])
 (refine aUf ?_)
 ((refine W_seqV ?_);intro K hK;(refine sUfX hb ?_))
 (refine ⟨by kernel_rfl,_,.pure rfl (h1),?_⟩;(try (refine sUf ?_)))
 (refine ⟨by kernel_rfl,_,.pure rfl (h2),?_⟩;(try (refine sUf ?_)))
 (refine hK _ ?_;clear hK K)
 refine W_ret ?_
 (refine qG ?_;try exact True.intro);try (refine sUfV ?_;try exact True.intro)
theorem r7sameForm_ok (f:List (Int × RR)) (h:∀ p∈f,p.2.ok) (hl:f.length<1099511627776):Pure Tryz.prog 27 [cF f,cF f] (· = .bool true):=by
 have hz:=len_neI f.length
 have hs:∀ i,i<f.length→Pure Tryz.prog 72 [(f.getD i default).2.av,(f.getD i default).2.av] (· = .bool true):=fun i hi=>f3same_ok _ (h _ (getD_mem hi))
 simp only [cF,RR.av] at *
 (refine pureW Tryz.func27 rfl (rs:=[Go.ResultVar.tmp 4]) rfl (n:=42) rfl ?_;simp only [List.length_cons,List.length_nil,List.replicate,List.cons_append,List.nil_append])
 (refine aUf ?_)
 ((refine W_seq (W_seqV ?_));intro K hK;(refine sUfX hz ?_))
 (refine hK _ ?_;clear hK K)
 (refine W_cf rfl ?_)
 refine W_skip ?_
 simp only [thenW]
 refine W_seq ?_
 ((refine W_seqV ?_);intro K hK;(refine sUf ?_))
 (refine hK _ ?_;clear hK K)
 refine W_block (W_loop (fun t:{t:Nat // t≤f.length} =>
   ⟨[.sl (tab rowM f),.sl (tab rowM f),.any,.any,.any,.int .i64 t.1,.any,.any,.any,.any,.any,.any,.any,.any,.any,.any,.any,.any,.any,.any,.any,.any,.any,.any,.any,.any,.any,.any,.any,.any,.any,.any,.any,.any,.any,.any,.any,.any,.any,.any,.any,.any],[.dead,.dead,.dead,.dead,.dead,.dead,.dead,.dead,.dead,.dead,.dead,.dead,.dead,.dead,.dead,.dead,.dead,.dead,.dead,.dead,.dead,.dead,.dead,.dead,.dead,.dead,.dead,.dead,.dead,.dead,.dead,.dead,.dead,.dead,.dead,.dead,.dead,.dead,.dead,.dead,.dead,.dead]⟩) (fun t=>f.length-t.1)
   ⟨0,by omega⟩ (Le_of (by simp [leE]) (by simp)) fun t=>?_)
 obtain ⟨i,hi⟩:=t
 dsimp only
 by_cases hlt:i<f.length
 ·have hfi:(tab rowM f).getD i []=rowM (f.getD i default):=tab_getD hlt
  have hsi:=hs i hlt
  generalize f.getD i default=p at *
  obtain ⟨v,neg,n,d⟩:=p
  simp only [rowM] at hfi
  dsimp only at *
  have hzx:=int_neI v
  refine W_seq ?_
  ((refine W_seqV ?_);intro K hK;(refine sUfX hlt ?_))
  (refine hK _ ?_;clear hK K)
  (refine W_ct rfl ?_)
  refine W_skip ?_
  simp only [thenW]
  refine W_seq ?_
  refine W_block ?_
  ((refine W_seqD mixed [] (by kernel_rfl) ?_);intro K hK;(refine sUfX (And.intro hlt (And.intro hfi hzx)) ?_))
  (refine ⟨by kernel_rfl,_,.pure rfl (hsi),?_⟩;(try (refine sUf ?_)))
  (refine hK _ ?_;clear hK K)
  (refine W_cf rfl ?_)
  refine W_skip ?_
  simp only [blockW,thenW]
  ((refine W_regV ?_);intro K hK;(refine sUf ?_))
  (refine hK _ ?_;clear hK K)
  simp only [blockW,thenW]
  refine ⟨⟨i+1,by omega⟩,Le_drop (by simp [leE]) (by simp [leH]) rfl rfl,?_⟩
  dsimp only
  omega
 ·obtain rfl:i=f.length:=by omega
  refine W_seq ?_
  ((refine W_seqV ?_);intro K hK;(refine sUf ?_))
  (refine hK _ ?_;clear hK K)
  (refine W_cf rfl ?_)
  refine W_exit ?_
  simp only [thenW,blockW,if_true]
  (repeat' (first | (refine W_seqV fun K hK=>?_;(try (refine sUf ?_));refine hK _ ?_;clear hK K) | (refine W_ret ?_;(refine qG ?_;try exact True.intro))))
structure TS (t:TR):Prop where
 ok:∀ r∈t,∀ p∈r.2,p.2.ok
 fl:∀ r∈t,r.2.length<1099511627776
 len:t.length<1099511627776
theorem TOk.ts {t:TR} (h:TOk t):TS t:=⟨h.ok,fun r hr=>by have:=nbs_len (vals r.2);have:=h.nbs hr;rw [vals_length] at *;omega,by have:=h.len;omega⟩
theorem r7alike_ok (n:Int) (t:TR) (h:TS t):Pure Tryz.prog 65 [cT n t,cT n t] (· = .bool true):=by
 have hz:=len_neI t.length
 have hzn:=int_neI n
 have hlen:=h.len
 have hs:∀ i,i<t.length→Pure Tryz.prog 27 [cF (t.getD i default).2,cF (t.getD i default).2] (· = .bool true):=fun i hi=>r7sameForm_ok _ (h.ok _ (getD_mem hi)) (h.fl _ (getD_mem hi))
 simp only [cF,cT] at *
 (refine pureW Tryz.func65 rfl (rs:=[Go.ResultVar.tmp 4]) rfl (n:=56) rfl ?_;simp only [List.length_cons,List.length_nil,List.replicate,List.cons_append,List.nil_append])
 (refine aUf ?_)
 ((refine W_seq (W_seqV ?_));intro K hK;(refine sUfX (And.intro hz hzn) ?_))
 (refine hK _ ?_;clear hK K)
 (refine W_cf rfl ?_)
 refine W_skip ?_
 simp only [thenW]
 refine W_seq ?_
 ((refine W_seqV ?_);intro K hK;(refine sUf ?_))
 (refine hK _ ?_;clear hK K)
 refine W_block (W_loop (fun s:{i:Nat // i≤t.length} =>
   ⟨[.any,.any,.ptr 2 0 0,.ptr 3 0 0,.any,.int .i64 s.1,.any,.any,.any,.any,.any,.any,.any,.any,.any,.any,.any,.any,.any,.any,.any,.any,.any,.any,.any,.any,.any,.any,.any,.any,.any,.any,.any,.any,.any,.any,.any,.any,.any,.any,.any,.any,.any,.any,.any,.any,.any,.any,.any,.any,.any,.any,.any,.any,.any,.any],[.dead,.dead,.arr 24 2 false [[.int .i64 n,.sl (tab rowT t)]],.arr 24 2 false [[.int .i64 n,.sl (tab rowT t)]],.dead,.dead,.dead,.dead,.dead,.dead,.dead,.dead,.dead,.dead,.dead,.dead,.dead,.dead,.dead,.dead,.dead,.dead,.dead,.dead,.dead,.dead,.dead,.dead,.dead,.dead,.dead,.dead,.dead,.dead,.dead,.dead,.dead,.dead,.dead,.dead,.dead,.dead,.dead,.dead,.dead,.dead,.dead,.dead,.dead,.dead,.dead,.dead,.dead,.dead,.dead,.dead]⟩) (fun s=>t.length-s.1)
   ⟨0,by omega⟩ (Le_drop (by simp [leE]) (by simp [leH]) rfl rfl) fun s=>?_)
 obtain ⟨i,hi⟩:=s
 dsimp only
 by_cases hlt:i<t.length
 ·have hti:(tab rowT t).getD i []=rowT (t.getD i default):=tab_getD hlt
  have hsi:=hs i hlt
  generalize t.getD i default=r at *
  obtain ⟨b,f⟩:=r
  simp only [rowT] at hti
  dsimp only at *
  have hzx:=int_neI b
  refine W_seq ?_
  ((refine W_seqV ?_);intro K hK;(refine sUfX hlt ?_))
  (refine hK _ ?_;clear hK K)
  (refine W_ct rfl ?_)
  refine W_skip ?_
  simp only [thenW]
  refine W_seq ?_
  refine W_block ?_
  ((refine W_seqD mixed [] (by kernel_rfl) ?_);intro K hK;(refine sUfX (And.intro hlt (And.intro hti hzx)) ?_))
  (refine ⟨by kernel_rfl,_,.pure rfl (hsi),?_⟩;(try (refine sUf ?_)))
  (refine hK _ ?_;clear hK K)
  (refine W_cf rfl ?_)
  refine W_skip ?_
  simp only [blockW,thenW]
  ((refine W_regV ?_);intro K hK;(refine sUf ?_))
  (refine hK _ ?_;clear hK K)
  simp only [blockW,thenW]
  refine ⟨⟨i+1,by omega⟩,Le_drop (by simp [leE]) (by simp [leH]) rfl rfl,?_⟩
  dsimp only
  omega
 ·obtain rfl:i=t.length:=by omega
  refine W_seq ?_
  ((refine W_seqV ?_);intro K hK;(refine sUf ?_))
  (refine hK _ ?_;clear hK K)
  (refine W_cf rfl ?_)
  refine W_exit ?_
  simp only [thenW,blockW,if_true]
  (repeat' (first | (refine W_seqV fun K hK=>?_;(try (refine sUf ?_));refine hK _ ?_;clear hK K) | (refine W_ret ?_;(refine qG ?_;try exact True.intro))))
theorem lalike_ok (n:Int) (t:TR) (h:TS t):Pure Tryz.prog 20 [cT n t,cT n t] (· = .bool true):=by
 have a:=r7alike_ok n t h
 unfold cT at *
 (refine pureW Tryz.func20 rfl (rs:=[Go.ResultVar.tmp 4]) rfl (n:=8) rfl ?_;simp only [List.length_cons,List.length_nil,List.replicate,List.cons_append,List.nil_append])
 (refine aUf ?_)
 ((refine W_seqV ?_);intro K hK;(refine sUf ?_))
 (refine ⟨by kernel_rfl,_,.pure rfl (a),?_⟩;(try (refine sUf ?_)))
 (refine hK _ ?_;clear hK K)
 refine W_ret ?_
 (refine qG ?_;try exact True.intro);try (refine sUfV ?_;try exact True.intro)
def rfT (M:TM):TR:=M.map fun r=>(r.1,rf r.2)
theorem cU_rf (n:Int) (M:TM):cT n (rfT M)=cU n M:=by
 unfold cT cU rfT
 congr 4
 unfold tab
 rw [List.map_map]
 refine List.map_congr_left fun r _=>?_
 simp only [Function.comp,rowT,rowU]
 rw [tab_rf]
theorem nrm_rf {M:TM} (h:∀ r∈M,NF r.2):nrmT (rfT M)=M:=by
 unfold nrmT rfT
 rw [List.map_map]
 refine (List.map_congr_left fun r hr=>?_).trans (List.map_id M)
 simp only [Function.comp,vals_rf]
 rw [norm_self (h r hr)]
 rfl
theorem MOk.ts {M:TM} {B:Nat} (h:MOk M B) (hB:B<17179869184):TS (rfT M):=by
 refine ⟨fun r hr p hp=>?_,fun r hr=>?_,by simp only [rfT,List.length_map];exact h.len⟩
 ·obtain ⟨q,hq,rfl⟩:=List.mem_map.1 hr
  obtain ⟨x,hx,rfl⟩:=List.mem_map.1 hp
  have:=(h.sz q hq).mem hx
  exact qr_ok (by omega)
 ·obtain ⟨q,hq,rfl⟩:=List.mem_map.1 hr
  have:=(h.sz q hq).l
  simp only [rf,List.length_map]
  omega
theorem mnat_ok (l:List Nat) (h:l.length<1099511627776):Pure Tryz.prog 111 [.sl (u32s l)] (· = .sl (u32s l)):=by
 (refine pureW Tryz.func111 rfl (rs:=[Go.ResultVar.tmp 2]) rfl (n:=19) rfl ?_;simp only [List.length_cons,List.length_nil,List.replicate,List.cons_append,List.nil_append])
 (refine aUf ?_)
 refine W.le ?_ (Le_nil 3 3 128 1 true rfl rfl)
 simp only [List.set]
 refine W_seq ?_
 ((refine W_seqV ?_);intro K hK;(refine sUf ?_))
 (refine hK _ ?_;clear hK K)
 refine W_block (W_loop (fun t:{t:Nat // t≤l.length} =>
   ⟨[.sl (u32s l),.any,.any,.sref 3 0 t.1,.int .i64 t.1,.any,.any,.any,.any,.any,.any,.any,.any,.any,.any,.any,.any,.any,.any],[.dead,.dead,.dead,.arr 128 1 true (u32s (l.take t.1)),.dead,.dead,.dead,.dead,.dead,.dead,.dead,.dead,.dead,.dead,.dead,.dead,.dead,.dead,.dead]⟩) (fun t=>l.length-t.1)
   ⟨0,by omega⟩ (Le_drop (by simp [leE]) (by simp [leH,u32s]) rfl rfl) fun t=>?_)
 obtain ⟨i,hi⟩:=t
 dsimp only
 have htl:(l.take i).length=i:=by rw [List.length_take];omega
 by_cases hlt:i<l.length
 ·have hst:l.take (i+1)=l.take i++[l.getD i 0]:=by
   rw [List.take_succ_eq_append_getElem hlt]
   simp [List.getD_eq_getElem?_getD,hlt]
  generalize hx:l.getD i 0=x at *
  generalize hP:l.take i=P at *
  refine W_seq ?_
  ((refine W_seqV ?_);intro K hK;(refine sUfX hlt ?_))
  (refine hK _ ?_;clear hK K)
  (refine W_ct rfl ?_)
  refine W_skip ?_
  simp only [thenW]
  refine W_seq ?_
  refine W_block ?_
  refine W_regR fun K hK=>?_
  (refine sUfX (And.intro hx (And.intro hlt htl)) ?_;try exact True.intro)
  (repeat refine aI ?_)
  refine hK _ ?_
  clear hK K
  simp only [blockW,thenW]
  ((refine W_regV ?_);intro K hK;(refine sUf ?_))
  (refine hK _ ?_;clear hK K)
  simp only [blockW,thenW]
  refine ⟨⟨i+1,by omega⟩,Le_drop (by simp [leE]) (by simp [leH,hst,u32s,List.take_of_length_le,htl]) rfl rfl,?_⟩
  dsimp only
  omega
 ·obtain rfl:i=l.length:=by omega
  rw [List.take_length]
  refine W_seq ?_
  ((refine W_seqV ?_);intro K hK;(refine sUf ?_))
  (refine hK _ ?_;clear hK K)
  (refine W_cf rfl ?_)
  refine W_exit ?_
  simp only [thenW,blockW,if_true]
  (refine W.le ?_ (Le_freeze 3 (rows:=u32s l) rfl (by simp) (.inl rfl));simp only [St.freeze,List.map_cons,List.map_nil,List.set,if_true,if_false,Nat.reduceEqDiff,reduceCtorEq,List.drop_zero,u32s_take,u32s_drop,froz_any,froz_und,froz_int,froz_bool,froz_str,froz_nils,froz_sl,froz_ia,froz_nilp,froz_nilif,froz_nilfn,froz_nilmp,froz_gl,froz_sref,froz_ptr,froz_agg,froz_tup,froz_fn,froz_ifc,frozs_nil,frozs_cons,froz_dead,froz_arr,froz_mp,froz_it,froz_md,froz_map,froz_iter])
  (repeat' (first | (refine W_seqV fun K hK=>?_;(try (refine sUf ?_));refine hK _ ?_;clear hK K) | (refine W_ret ?_;(refine qG ?_;try exact True.intro))))
theorem mint_ok (neg:Bool) (l:List Nat) (h:l.length<1099511627776):Pure Tryz.prog 110 [.agg [.bool neg,.sl (u32s l)]] (· = .agg [.bool neg,.sl (u32s l)]):=by
 have a:=mnat_ok l h
 (refine pureW Tryz.func110 rfl (rs:=[Go.ResultVar.cell 2 51]) rfl (n:=9) rfl ?_;simp only [List.length_cons,List.length_nil,List.replicate,List.cons_append,List.nil_append])
 (refine aUf ?_)
 ((refine W_seqS mixed 6 [] (by kernel_rfl) ?_);intro K hK;(refine sUf ?_))
 (refine ⟨by kernel_rfl,_,.pure rfl (a),?_⟩;(try (refine sUf ?_)))
 (refine hK _ ?_;clear hK K)
 refine W_ret ?_
 (refine qG ?_;try exact True.intro);try (refine sUfV ?_;try exact True.intro)
theorem mrat_ok (r:RR) (h:r.ok):Pure Tryz.prog 68 [r.av] (·=r.av):=by
 have a1:=mint_ok r.neg r.num (by have:=h.nl;omega)
 have a2:=mnat_ok r.den (by have:=h.dl;omega)
 obtain ⟨neg,n,d⟩:=r
 simp only [RR.av] at *
 (refine pureW Tryz.func68 rfl (rs:=[Go.ResultVar.cell 2 53]) rfl (n:=10) rfl ?_;simp only [List.length_cons,List.length_nil,List.replicate,List.cons_append,List.nil_append])
 (refine aUf ?_)
 ((refine W_seqS mixed 7 [] (by kernel_rfl) ?_);intro K hK;(refine sUf ?_))
 (refine ⟨by kernel_rfl,_,.pure rfl (a1),?_⟩;(try (refine sUf ?_)))
 (refine ⟨by kernel_rfl,_,.pure rfl (a2),?_⟩;(try (refine sUf ?_)))
 (refine hK _ ?_;clear hK K)
 refine W_ret ?_
 (refine qG ?_;try exact True.intro);try (refine sUfV ?_;try exact True.intro)
theorem mform_ok (f:List (Int × RR)) (h:∀ p∈f,p.2.ok) (hl:f.length<1099511627776):Pure Tryz.prog 22 [cF f] (·=cF f):=by
 have hs:∀ i,i<f.length→Pure Tryz.prog 68 [(f.getD i default).2.av] (·=(f.getD i default).2.av):=fun i hi=>mrat_ok _ (h _ (getD_mem hi))
 have hst:∀ i,i<f.length→f.take (i+1)=f.take i++[f.getD i default]:=fun i hi=>take_snoc hi
 simp only [cF,RR.av] at *
 (refine pureW Tryz.func22 rfl (rs:=[Go.ResultVar.tmp 2]) rfl (n:=27) rfl ?_;simp only [List.length_cons,List.length_nil,List.replicate,List.cons_append,List.nil_append])
 (refine aUf ?_)
 refine W.le ?_ (Le_nil 3 3 55 4 true rfl rfl)
 simp only [List.set]
 refine W_seq ?_
 ((refine W_seqV ?_);intro K hK;(refine sUf ?_))
 (refine hK _ ?_;clear hK K)
 refine W_block (W_loop (fun t:{t:Nat // t≤f.length} =>
   ⟨[.sl (tab rowM f),.any,.any,.sref 3 0 t.1,.int .i64 t.1,.any,.any,.any,.any,.any,.any,.any,.any,.any,.any,.any,.any,.any,.any,.any,.any,.any,.any,.any,.any,.any,.any],[.dead,.dead,.dead,.arr 55 4 true (tab rowM (f.take t.1)),.dead,.dead,.dead,.dead,.dead,.dead,.dead,.dead,.dead,.dead,.dead,.dead,.dead,.dead,.dead,.dead,.dead,.dead,.dead,.dead,.dead,.dead,.dead]⟩) (fun t=>f.length-t.1)
   ⟨0,by omega⟩ (Le_drop (by simp [leE]) (by simp [leH,tab]) rfl rfl) fun t=>?_)
 obtain ⟨i,hi⟩:=t
 dsimp only
 have htl:(f.take i).length=i:=by rw [List.length_take];omega
 by_cases hlt:i<f.length
 ·have hfi:(tab rowM f).getD i []=rowM (f.getD i default):=tab_getD hlt
  have hsi:=hs i hlt
  have hsti:=hst i hlt
  generalize f.getD i default=p at *
  obtain ⟨v,neg,n,d⟩:=p
  simp only [rowM] at hfi
  dsimp only at *
  generalize f.take i=P at *
  refine W_seq ?_
  ((refine W_seqV ?_);intro K hK;(refine sUfX hlt ?_))
  (refine hK _ ?_;clear hK K)
  (refine W_ct rfl ?_)
  refine W_skip ?_
  simp only [thenW]
  refine W_seq ?_
  refine W_block ?_
  ((refine W_regS mixed 14 [] (by kernel_rfl) ?_);intro K hK;(refine sUfX (And.intro hlt hfi) ?_))
  (refine ⟨by kernel_rfl,_,.pure rfl (hsi),?_⟩;(try (refine sUf ?_));(repeat refine aI ?_))
  (refine hK _ ?_;clear hK K)
  simp only [blockW,thenW]
  ((refine W_regV ?_);intro K hK;(refine sUf ?_))
  (refine hK _ ?_;clear hK K)
  simp only [blockW,thenW]
  refine ⟨⟨i+1,by omega⟩,Le_drop (by simp [leE]) (by simp [leH,hsti,← tab_snoc,rowM,tab_take,List.take_of_length_le,htl]) rfl rfl,?_⟩
  dsimp only
  omega
 ·obtain rfl:i=f.length:=by omega
  rw [List.take_length]
  refine W_seq ?_
  ((refine W_seqV ?_);intro K hK;(refine sUf ?_))
  (refine hK _ ?_;clear hK K)
  (refine W_cf rfl ?_)
  refine W_exit ?_
  simp only [thenW,blockW,if_true]
  (refine W.le ?_ (Le_freeze 3 (rows:=tab rowM f) rfl (by simp) (.inl rfl));simp only [St.freeze,List.map_cons,List.map_nil,List.set,if_true,if_false,Nat.reduceEqDiff,reduceCtorEq,List.drop_zero,u32s_take,u32s_drop,froz_any,froz_und,froz_int,froz_bool,froz_str,froz_nils,froz_sl,froz_ia,froz_nilp,froz_nilif,froz_nilfn,froz_nilmp,froz_gl,froz_sref,froz_ptr,froz_agg,froz_tup,froz_fn,froz_ifc,frozs_nil,frozs_cons,froz_dead,froz_arr,froz_mp,froz_it,froz_md,froz_map,froz_iter])
  (repeat' (first | (refine W_seqV fun K hK=>?_;(try (refine sUf ?_));refine hK _ ?_;clear hK K) | (refine W_ret ?_;(refine qG ?_;try exact True.intro))))
theorem sUg {G G':Prop} (h:G') (e:G=G':=by conv=>lhs;simp (disch:=omega) only [rowsOf,cNat,cN,St.ret,St.seth,Eff.app,Eff.wi,sepL,guardOf,St.known,objOf,List.set,sliceW,litW,copyW,lenOf,bnd,mxOk,ofCells,TI.isAgg,cellsOf,storable,AV.one,dead,laid,overlay,reduceCtorEq,Int.reduceLE,Int.reduceLT,Int.reduceSub,Int.reduceAdd,Nat.reduceMul,Int.reduceToNat,Nat.reducePow,Int.reduceNeg,Nat.reduceAdd,Nat.reduceLT,Nat.reduceLeDiff,sA,sB,Nat.reduceEqDiff,beq_self_eq_true,Int.reduceBEq,Int.reduceBNe,cQ,rowQ,rowU,rowT,rowM,i64s_getD,i64s_length,i64s_all,tab_length,tab_drop,tab_take,tab_append,tab_nil,rowT_all,rowT_one,rowT_pure,rowU_all,rowU_one,rowU_pure,rowQ_all,rowQ_one,rowQ_pure,rowM_all,rowM_one,rowM_pure,List.take_length,List.length_append,sT]):G:=e.mpr h
theorem sUgV {G G':Prop} (h:G') (e:G=G':=by conv=>lhs;simp (disch:=omega) only [rowsOf,cNat,cN,St.ret,St.seth,Eff.app,Eff.wi,sepL,guardOf,St.known,objOf,List.set,sliceW,litW,copyW,lenOf,bnd,mxOk,ofCells,TI.isAgg,cellsOf,storable,AV.one,dead,laid,overlay,reduceCtorEq,Int.reduceLE,Int.reduceLT,Int.reduceSub,Int.reduceAdd,Nat.reduceMul,Int.reduceToNat,Nat.reducePow,Int.reduceNeg,Nat.reduceAdd,Nat.reduceLT,Nat.reduceLeDiff,sA,sB,Nat.reduceEqDiff,beq_self_eq_true,Int.reduceBEq,Int.reduceBNe,cQ,rowQ,rowU,rowT,rowM,i64s_getD,i64s_length,i64s_all,tab_length,tab_drop,tab_take,tab_append,tab_nil,rowT_all,rowT_one,rowT_pure,rowU_all,rowU_one,rowU_pure,rowQ_all,rowQ_one,rowQ_pure,rowM_all,rowM_one,rowM_pure,List.take_length,List.length_append,sT,view_sref,viewRef,view_agg,views_cons,views_nil,view_bool,view_int,view_sl,view_nils,view_str,view_tup,view_nilif]):G:=e.mpr h
theorem aUg {G G':Prop} (h:G') (f:Wr G'→G:=by intro h;(repeat (first|(refine W_seqV fun K hK=>?_;(try (refine sUg ?_;try exact True.intro));(repeat refine aI ?_);refine hK _ ?_;clear hK K)|(refine W_seqR fun K hK=>?_;(try (refine sUg ?_;try exact True.intro));(repeat refine aI ?_);refine hK _ ?_;clear hK K)|(refine W_seqD mixed [] (by kernel_rfl) fun K hK=>?_;(try (refine sUg ?_;try exact True.intro));(repeat refine aI ?_);refine hK _ ?_;clear hK K)));exact h.out):G:=f ⟨h⟩
theorem lmono_ok (v c:Int) (h1 : -9223372036854775808≤c) (h2:c<9223372036854775808):Pure Tryz.prog 69 [.int .i64 v,.int .i64 c] (· = .agg (rowQ (v,(c:Rat)))):=by
 have a:=f3whole_ok c h1 h2
 simp only [rowQ,cQ] at *
 (refine pureW Tryz.func69 rfl (rs:=[Go.ResultVar.cell 4 55]) rfl (n:=9) rfl ?_;simp only [List.length_cons,List.length_nil,List.replicate,List.cons_append,List.nil_append])
 (refine aUg ?_)
 ((refine W_seqV ?_);intro K hK;(refine sUg ?_))
 (refine ⟨by kernel_rfl,_,.pure rfl (a),?_⟩;(try (refine sUg ?_)))
 (refine hK _ ?_;clear hK K)
 refine W_ret ?_
 (refine qG ?_;try exact True.intro);try (refine sUgV ?_;try exact True.intro)
theorem norm01:normF [(1,(1:Rat)),(0,1)]=[(0,1),(1,1)]:=by
 refine NF.ext (NF.norm _) (NF.cons (NF.cons NF.nil (by decide) (by simp)) (by decide) (by simp)) fun v=>?_
 rw [coef_norm]
 simp only [coef]
 grind
theorem expr_nil (f:List (Int × Rat)):exprT [] f=normF f:=by
 unfold exprT exprP
 have:∀ (l:List Int) (h:List (Int × Rat)),l.foldl (fun h v=>match lookM [] v with | some g=>putF h v g | none=>h) h=h:=by
  intro l
  induction l with
  | nil=>intro h;rfl
  | cons x l ih=>intro h;rw [List.foldl_cons];exact ih h
 exact this _ _
theorem lives_ok:Pure Tryz.prog 24 [] (· = .bool true):=by
 have a1:=tnew_ok 2
 have e1:newR 2 = .tup [.agg [.int .i64 2,.sl []],.int .i64 0]:=rfl
 rw [e1] at a1
 have m11:=lmono_ok 1 1 (by omega) (by omega)
 have m01:=lmono_ok 0 1 (by omega) (by omega)
 have h1e:((1:Int):Rat)=1:=rfl
 rw [h1e] at m11 m01
 have hfo:FormOk (rf [(1,(1:Rat)),(0,1)]):=by
  refine ⟨fun p hp=>?_,?_⟩
  ·obtain ⟨q,hq,rfl⟩:=List.mem_map.1 hp
   refine qr_ok ?_
   simp only [List.mem_cons,List.mem_nil_iff,or_false] at hq
   rcases hq with rfl | rfl <;> simp only [nb_one] <;> omega
  ·rw [vals_rf]
   simp only [nbs,nb_one]
   omega
 have hto:TOk []:=⟨by simp,by simp [tb]⟩
 have a2:=tdefine_ok 2 [] (rf [(1,(1:Rat)),(0,1)]) hto hfo
 have hg:goodB 2 []=true:=by decide
 have hn:nrmT []=[]:=rfl
 have e2:defV 2 [] (rf [(1,(1:Rat)),(0,1)]) = .tup [cU 3 [(2,[(0,1),(1,1)])],.int .i64 2,.int .i64 0]:=by
  unfold defV
  rw [hn,hg,vals_rf,expr_nil,norm01]
  have hk:knownB 2 [(0,(1:Rat)),(1,1)]=true:=by simp [knownB,inR]
  rw [hk]
  simp only [if_true]
  rw [if_neg (by omega),sortM_snoc (by simp [keys]) (by simp [keys]),show sortM []=[] by simp [sortM,sortK,keys]]
  rfl
 rw [e2] at a2
 have hts:TS (rfT [(2,[(0,(1:Rat)),(1,1)])]):=by
  refine MOk.ts (B:=100) ⟨fun r hr=>?_,fun r hr=>?_,by simp⟩ (by omega)
  ·simp at hr;subst hr
   exact NF.cons (NF.cons NF.nil (by decide) (by simp)) (by decide) (by simp)
  ·simp at hr;subst hr
   refine (Sz.of _).mono ?_
   simp only [nbs,nb_one]
   omega
 have a3:=lalike_ok 3 _ hts
 rw [cU_rf] at a3
 have ht0:tab rowT []=[]:=rfl
 have ht1:tab rowM (rf [(1,(1:Rat)),(0,1)])=[rowQ (1,1),rowQ (0,1)]:=by rw [tab_rf];rfl
 have ht2:tab rowU [(2,[(0,(1:Rat)),(1,1)])]=[[.int .i64 2,.sl [rowQ (0,1),rowQ (1,1)]]]:=rfl
 have q1:rowQ (1,(1:Rat))=[.int .i64 1,.bool (decide ((1:Rat).num<0)),.sl (u32s (limbs (1:Rat).num.natAbs)),.sl (u32s (limbs (1:Rat).den))]:=rfl
 have q0:rowQ (0,(1:Rat))=[.int .i64 0,.bool (decide ((1:Rat).num<0)),.sl (u32s (limbs (1:Rat).num.natAbs)),.sl (u32s (limbs (1:Rat).den))]:=rfl
 simp only [cT,cU,cF,ht0,ht1,ht2] at a2 a3
 rw [q1,q0] at a2 a3
 rw [q1] at m11
 rw [q0] at m01
 clear e1 e2 hfo hto hg hn hts ht0 ht1 ht2 q1 q0 h1e
 generalize (1:Rat)=one at *
 (refine pureW Tryz.func24 rfl (rs:=[Go.ResultVar.tmp 0]) rfl (n:=35) rfl ?_;simp only [List.length_cons,List.length_nil,List.replicate,List.cons_append,List.nil_append])
 (refine aUg ?_)
 ((refine W_seqV ?_);intro K hK;(refine sUg ?_))
 (refine ⟨by kernel_rfl,_,.pure rfl (a1),?_⟩;(try (refine sUg ?_)))
 (refine hK _ ?_;clear hK K)
 (repeat' (first | (exfalso;simp at h;done) | (refine W_seqV fun K hK=>?_;(try (refine sUg ?_));refine hK _ ?_;clear hK K) | refine W_skip ?_ | (refine W_cond rfl (fun h=>?_) (fun h=>?_) <;> (try simp only [cond_true,cond_false,ne_eq,cB] at h)) | refine W_seq ?_))
 ((refine W_regD mixed [] (by kernel_rfl) ?_);intro K hK;(refine sUg ?_))
 (refine ⟨by kernel_rfl,_,.pure rfl (m11),?_⟩;(try (refine sUg ?_)))
 (refine ⟨by kernel_rfl,_,.pure rfl (m01),?_⟩;(try (refine sUg ?_));(repeat refine aI ?_))
 (refine ⟨by kernel_rfl,_,.pure rfl (a2),?_⟩;(try (refine sUg ?_)))
 (refine hK _ ?_;clear hK K)
 ((refine W_seqD mixed [] (by kernel_rfl) ?_);intro K hK;(refine sUg ?_))
 (refine ⟨by kernel_rfl,_,.pure rfl (m01),?_⟩;(try (refine sUg ?_)))
 (refine ⟨by kernel_rfl,_,.pure rfl (m11),?_⟩;(try (refine sUg ?_));(repeat refine aI ?_))
 (refine ⟨by kernel_rfl,_,.pure rfl (a3),?_⟩;(try (refine sUg ?_)))
 (refine hK _ ?_;clear hK K)
 (repeat' (refine W_ret ?_;(refine qG ?_;try exact True.intro)))
theorem MOk.expr {M:TM} {n:Int} (hg:GT n M) {f:List (Int × RR)} (hx:ExOk M f) (hk:knownB n (normF (vals f))=true):NF (exprT M (vals f))∧Sz (exprT M (vals f)) 536936448:=by
 have hp:=exprP_preG hg hk hx (keys (normF (vals f))).length
 rw [List.take_length] at hp
 exact ⟨hp.1,hp.2.mono (by omega)⟩
theorem FormOk.len {f:List (Int × RR)} (h:FormOk f):f.length≤68157440:=by have:=nbs_len (vals f);have:=h.sz;rw [vals_length] at *;omega
theorem tb_of_foll {M:TM} (h:tb M≤68157440):∀ r∈M,Sz r.2 536870912:=fun r hr=>(Sz.of _).mono (by have:=tb_mem hr;omega)
theorem nbs_negF (f:List (Int × Rat)):nbs (negF f)≤3*nbs f:=by
 unfold negF scaleF
 induction f with
 | nil=>simp [nbs]
 | cons p f ih =>
  simp only [List.map_cons,nbs]
  have h1:=nb_mul (-1) p.2
  have h2:nb (-1:Rat)=2:=nb_m1
  have h3:=nb_pos p.2
  omega
theorem nbs_whole (b:Int) (f:List (Int × Rat)):nbs (wholeF b f)≤nbs f+6:=by
 unfold wholeF subF
 have h1:=nbs_norm (f++negF (normF [(b,1)]))
 have h2:=nbs_append f (negF (normF [(b,1)]))
 have h3:=nbs_negF (normF [(b,1)])
 have h4:=nbs_norm [(b,(1:Rat))]
 have h5:nbs [(b,(1:Rat))]=2:=by simp [nbs,nb_one]
 omega
theorem FollOk.of {M N:TM} (hn:(keys M).Nodup) (hM:tb M≤68157440) (hN:tb N≤68157440):FollOk M N :=
 ⟨tb_of_foll (by omega),fun r hr=>by
  have h1:=nbs_whole r.1 r.2
  have h2:=tb_mem hr
  have h3:vals (rf (wholeF r.1 r.2))=wholeF r.1 r.2:=vals_rf _
  refine ⟨FOk.rf ((Sz.of _).mono (by omega)) (by omega),fun r hr=>(Sz.of _).mono (by have:=tb_mem hr;omega),fun i x y c hc hy=>?_⟩
  rw [h3] at hc hy
  have:=nb_expr (keys_take hn i) (wholeF r.1 r.2) hc hy
  have:=tb_take M i
  omega⟩
end Go.Proofs.YtjmpajgjaefcjaaGreat.Vm
