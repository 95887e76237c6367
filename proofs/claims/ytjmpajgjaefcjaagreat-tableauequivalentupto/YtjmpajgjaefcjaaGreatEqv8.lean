/-
  Part 8 of 9 of a proof.
-/
import Derived.Test.YtjmpajgjaefcjaaGreatEqv7
import Derived.Orders
import Derived.Below
import Derived.Laws.AppendOwn
import Derived.Laws.MakeOwn
import Derived.Laws.CopyRow
import Derived.Laws.Rows
import Derived.Laws.Cells
import Derived.Tactics
import Derived.Laws.BitsLemmas
import Derived.Maps.Range
import Derived.Carry
import Derived.Test.YtjmpajgjaefcjaaGreatProg
import Derived.Sort.Row
import Derived.Sort.Grow
import Derived.Shelf.Sort.Plain
import Derived.Shelf.Slices.In.SortNone
import Derived.Ground.NamesProg
set_option linter.unusedVariables false
set_option linter.unusedSimpArgs false
set_option maxRecDepth 100000

namespace Go.Proofs.YtjmpajgjaefcjaaGreat.Vm
open Go Go.RowKit
theorem sUb {G G':Prop} (h:G') (e:G=G':=by conv=>lhs;simp (disch:=omega) only [rowsOf,cNat,cN,St.ret,St.seth,Eff.app,Eff.wi,sepL,guardOf,St.known,objOf,List.set,sliceW,litW,copyW,lenOf,bnd,mxOk,ofCells,TI.isAgg,cellsOf,storable,AV.one,dead,laid,overlay,reduceCtorEq,Int.reduceLE,Int.reduceLT,Int.reduceSub,Int.reduceAdd,Nat.reduceMul,Int.reduceToNat,Nat.reducePow,Int.reduceNeg,Nat.reduceAdd,Nat.reduceLT,Nat.reduceLeDiff,sA,sB,Nat.reduceEqDiff,cQ,rowQ,rowU,rowT,rowM,i64s_getD,i64s_length,i64s_all,i64s_take,i64s_drop,i64s_set,i64s_one,i64s_pure,i64s_append,tab_length,tab_drop,tab_take,tab_append,tab_nil,rowT_all,rowT_one,rowT_pure,rowU_all,rowU_one,rowU_pure,rowQ_all,rowQ_one,rowQ_pure,rowM_all,rowM_one,rowM_pure,List.take_length,List.length_append,sT]):G:=e.mpr h
theorem sUbX {G G' P:Prop} (p:P) (h:G') (e:P→G=G':=by intro p;conv=>lhs;simp (disch:=omega) only [rowsOf,cNat,cN,St.ret,St.seth,Eff.app,Eff.wi,sepL,guardOf,St.known,objOf,List.set,sliceW,litW,copyW,lenOf,bnd,mxOk,ofCells,TI.isAgg,cellsOf,storable,AV.one,dead,laid,overlay,reduceCtorEq,Int.reduceLE,Int.reduceLT,Int.reduceSub,Int.reduceAdd,Nat.reduceMul,Int.reduceToNat,Nat.reducePow,Int.reduceNeg,Nat.reduceAdd,Nat.reduceLT,Nat.reduceLeDiff,sA,sB,Nat.reduceEqDiff,cQ,rowQ,rowU,rowT,rowM,i64s_getD,i64s_length,i64s_all,i64s_take,i64s_drop,i64s_set,i64s_one,i64s_pure,i64s_append,tab_length,tab_drop,tab_take,tab_append,tab_nil,rowT_all,rowT_one,rowT_pure,rowU_all,rowU_one,rowU_pure,rowQ_all,rowQ_one,rowQ_pure,rowM_all,rowM_one,rowM_pure,List.take_length,List.length_append,sT,p]):G:=(e p).mpr h
theorem aUb {G G':Prop} (h:G') (f:Wr G'→G:=by intro h;(repeat (first|(refine W_seqV fun K hK=>?_;(try (refine sUb ?_;try exact True.intro));(repeat refine aI ?_);refine hK _ ?_;clear hK K)|(refine W_seqR fun K hK=>?_;(try (refine sUb ?_;try exact True.intro));(repeat refine aI ?_);refine hK _ ?_;clear hK K)|(refine W_seqD mixed [] (by kernel_rfl) fun K hK=>?_;(try (refine sUb ?_;try exact True.intro));(repeat refine aI ?_);refine hK _ ?_;clear hK K)));exact h.out):G:=f ⟨h⟩
def rowOk (n:Int) (M:TM) (j:Nat):Prop:=inR n (M.getD j default).1=true∧idxM M (M.getD j default).1=some j∧knownB n (M.getD j default).2=true
theorem GT.rok {n:Int} {M:TM} (h:GT n M) {j:Nat} (hj:j<M.length):rowOk n M j:=by
 have hm:=getD_mem (l:=M) hj
 refine ⟨inR_iff.2 (h.range _ (List.mem_map.2 ⟨_,hm,rfl⟩)),idx_nodup h.nodup hj,?_⟩
 unfold knownB
 rw [List.all_eq_true]
 exact fun p hp=>inR_iff.2 (h.free _ hm p hp).1
theorem GT.of {n:Int} {M:TM} (h0:0≤n) (h1:n≤65536) (h:∀ j,j<M.length→rowOk n M j) (hf:∀ j,j<M.length→∀ p∈(M.getD j default).2,idxM M p.1=none):GT n M:=by
 refine ⟨h0,h1,?_,fun b hb=>?_,fun r hr p hp=>?_⟩
 ·rw [List.Nodup,List.pairwise_iff_getElem]
  intro i j hi hj hij he
  have hi':i<M.length:=by rwa [keys_len] at hi
  have hj':j<M.length:=by rwa [keys_len] at hj
  have e1:=(h i hi').2.1
  have e2:=(h j hj').2.1
  have:(M.getD i default).1=(M.getD j default).1:=by
   simp only [keys,List.getElem_map] at he
   simp [List.getD_eq_getElem?_getD,hi',hj',he]
  rw [this,e2] at e1
  cases e1
  omega
 ·obtain ⟨r,hr,rfl⟩:=List.mem_map.1 hb
  obtain ⟨j,hj,rfl⟩:=mem_getD hr
  exact inR_iff.1 (h j hj).1
 ·obtain ⟨j,hj,rfl⟩:=mem_getD hr
  have h2:=(h j hj).2.2
  unfold knownB at h2
  refine ⟨inR_iff.1 (List.all_eq_true.1 h2 p hp),(idx_none (hf j hj p hp)).1⟩
theorem rowI_some {M:TM} {v:Int} {k:Nat} (h:idxM M v=some k):rowI M v=(k:Int):=by unfold rowI;rw [h]
theorem rowI_none {M:TM} {v:Int} (h:idxM M v=none):rowI M v = -1:=by unfold rowI;rw [h]
theorem TG.pf {t:TR} (h:TG t) {r:Int × List (Int × RR)} (hr:r∈t):PF r.2 536870913:=((h.form hr).pf (by omega)).mono (by omega)
set_option maxHeartbeats 4000000 in
theorem r7check_ok (n:Int) (t:TR) (hT:TG t):Pure Tryz.prog 31 [cT n t] (· = .int .i64 (if goodB n (nrmT t) then 0 else 70)):=by
 have hml:=nrmT_len t
 have hlen:=hT.len
 have hgT:GT n (nrmT t)→goodB n (nrmT t)=true:=gt_iff.2
 have hgF:¬ GT n (nrmT t)→goodB n (nrmT t)=false:=fun h=>by
  rw [Bool.eq_false_iff]
  exact fun h'=>h (gt_iff.1 h')
 have hnd:=fun i (hi:i<t.length)=>nrmT_getD hi
 have his:=fun v=>r7is_ok n t v
 have hro:=fun v=>r7row_ok n t v (by omega)
 have hkn:∀ i,i<t.length→Pure Tryz.prog 70 [cT n t,cF (t.getD i default).2] (· = .bool (knownB n (normF (vals (t.getD i default).2)))):=fun i hi=>r7knows_ok n t _ (hT.pf (getD_mem hi)) (by omega)
 have hva:∀ i,i<t.length→Pure Tryz.prog 75 [cF (t.getD i default).2] (· = .sl (i64s (keys (normF (vals (t.getD i default).2))))):=fun i hi=>r6vars_ok _ (hT.pf (getD_mem hi)) (by omega)
 have hrok:=fun (h:GT n (nrmT t)) j hj=>h.rok (j:=j) hj
 have hof:=fun h0 h1=>GT.of (n:=n) (M:=nrmT t) h0 h1
 have hfree:GT n (nrmT t)→∀ i,i<(nrmT t).length→∀ v∈keys ((nrmT t).getD i default).2,idxM (nrmT t) v=none:=fun h i hi v hv=>by
  obtain ⟨p,hp,rfl⟩:=List.mem_map.1 hv
  have:=(h.free _ (getD_mem hi) p hp).2
  cases hx:idxM (nrmT t) p.1 with
  | none=>rfl
  | some j=>exact absurd (idx_some hx).2.2.2 this
 have hvl:∀ i,i<t.length→(keys ((nrmT t).getD i default).2).length<1099511627776:=fun i hi=>by
  have:=(hT.mok.sz _ (getD_mem (show i<(nrmT t).length by omega))).l
  rw [keys_len]
  omega
 clear hT
 unfold cT at *
 generalize goodB n (nrmT t)=gb at *
 generalize nrmT t=M at *
 by_cases h1:n<0
 ·rw [hgF fun h=>by have:=h.lo;omega]
  simp only [Bool.false_eq_true,if_false]
  (refine pureW Tryz.func31 rfl (rs:=[Go.ResultVar.tmp 2]) rfl (n:=81) rfl ?_;simp only [List.length_cons,List.length_nil,List.replicate,List.cons_append,List.nil_append])
  (refine aUb ?_)
  ((refine W_seq (W_seqV ?_));intro K hK;(refine sUbX h1 ?_))
  (refine hK _ ?_;clear hK K)
  (repeat' (first | (exfalso;simp at h;done) | (refine W_seqV fun K hK=>?_;(try (refine sUb ?_));refine hK _ ?_;clear hK K) | (refine W_ret ?_;(refine qG ?_;try exact True.intro)) | (refine W_cond rfl (fun h=>?_) (fun h=>?_) <;> (try simp only [cond_true,cond_false,ne_eq,cB] at h))))
 by_cases h2:65536<n
 ·rw [hgF fun h=>by have:=h.hi;omega]
  simp only [Bool.false_eq_true,if_false]
  (refine pureW Tryz.func31 rfl (rs:=[Go.ResultVar.tmp 2]) rfl (n:=81) rfl ?_;simp only [List.length_cons,List.length_nil,List.replicate,List.cons_append,List.nil_append])
  (refine aUb ?_)
  ((refine W_seq (W_seqV ?_));intro K hK;(refine sUbX (And.intro h1 h2) ?_))
  (refine hK _ ?_;clear hK K)
  (repeat' (first | (exfalso;simp at h;done) | (refine W_seqV fun K hK=>?_;(try (refine sUb ?_));refine hK _ ?_;clear hK K) | (refine W_ret ?_;(refine qG ?_;try exact True.intro)) | (refine W_cond rfl (fun h=>?_) (fun h=>?_) <;> (try simp only [cond_true,cond_false,ne_eq,cB] at h))))
 (refine pureW Tryz.func31 rfl (rs:=[Go.ResultVar.tmp 2]) rfl (n:=81) rfl ?_;simp only [List.length_cons,List.length_nil,List.replicate,List.cons_append,List.nil_append])
 (refine aUb ?_)
 ((refine W_seq (W_seqV ?_));intro K hK;(refine sUbX (And.intro h1 h2) ?_))
 (refine hK _ ?_;clear hK K)
 (refine W_cf rfl ?_)
 refine W_skip ?_
 simp only [thenW]
 refine W_seq ?_
 ((refine W_seqV ?_);intro K hK;(refine sUb ?_))
 (refine hK _ ?_;clear hK K)
 refine W_block (W_loop (fun s:{i:Nat // i≤t.length∧∀ j,j<i→rowOk n M j} =>
   ((fun (a_:AV) (d_:Ob)=>(⟨(a_::(.ptr 1 0 0)::a_::(.int .i64 s.1)::a_::a_::a_::a_::a_::a_::a_::a_::a_::a_::a_::a_::a_::a_::a_::a_::a_::a_::a_::a_::a_::a_::a_::a_::a_::a_::a_::a_::a_::a_::a_::a_::a_::a_::a_::a_::a_::a_::a_::a_::a_::a_::a_::a_::a_::a_::a_::a_::a_::a_::a_::a_::a_::a_::a_::a_::a_::a_::a_::a_::a_::a_::a_::a_::a_::a_::a_::a_::a_::a_::a_::a_::a_::a_::a_::a_::a_::[]),(d_::(.arr 24 2 false [[.int .i64 n,.sl (tab rowT t)]])::d_::d_::d_::d_::d_::d_::d_::d_::d_::d_::d_::d_::d_::d_::d_::d_::d_::d_::d_::d_::d_::d_::d_::d_::d_::d_::d_::d_::d_::d_::d_::d_::d_::d_::d_::d_::d_::d_::d_::d_::d_::d_::d_::d_::d_::d_::d_::d_::d_::d_::d_::d_::d_::d_::d_::d_::d_::d_::d_::d_::d_::d_::d_::d_::d_::d_::d_::d_::d_::d_::d_::d_::d_::d_::d_::d_::d_::d_::d_::[])⟩:St)) .any .dead)) (fun s=>t.length-s.1)
   ⟨0,by omega,by omega⟩ (Le_drop (by simp [leE]) (by simp [leH]) rfl rfl) fun s=>?_)
 obtain ⟨i,hi,hpre⟩:=s
 dsimp only
 by_cases hlt:i<t.length
 ·have hti:(tab rowT t).getD i []=rowT (t.getD i default):=tab_getD hlt
  have hbad:¬ rowOk n M i→gb=false:=fun h=>hgF fun h'=>h (hrok h' i (by omega))
  have hpr:rowOk n M i→∀ j,j<i+1→rowOk n M j:=fun h j hj=>by
   by_cases hji:j=i
   ·subst hji;exact h
   ·exact hpre j (by omega)
  have hdef:rowOk n M i=(inR n (M.getD i default).1=true∧idxM M (M.getD i default).1=some i∧knownB n (M.getD i default).2=true):=rfl
  have hexi:∃ k,idxM M (M.getD i default).1=some k:=by
   obtain ⟨k,hk,_⟩:=look_idx (M:=M) (b:=(M.getD i default).1) (List.mem_map.2 ⟨_,getD_mem (by omega),rfl⟩)
   exact ⟨k,hk⟩
  have hki:=hkn i hlt
  rw [hnd i hlt] at hdef hexi
  generalize t.getD i default=r at *
  obtain ⟨b,f⟩:=r
  simp only [rowT] at hti
  dsimp only at *
  have hib:=his b
  have hrb:=hro b
  obtain ⟨k,hk⟩:=hexi
  rw [rowI_some hk] at hrb
  rw [hk] at hdef
  refine W_seq ?_
  ((refine W_seqV ?_);intro K hK;(refine sUbX hlt ?_))
  (refine hK _ ?_;clear hK K)
  (refine W_ct rfl ?_)
  refine W_skip ?_
  simp only [thenW]
  refine W_seq ?_
  refine W_block ?_
  simp only [cF] at *
  generalize inR n b=ib at *
  generalize knownB n (normF (vals f))=kb at *
  cases ib
  ·rw [hbad (by rw [hdef];simp)]
   simp only [Bool.false_eq_true,if_false]
   ((refine W_seqD mixed [] (by kernel_rfl) ?_);intro K hK;(refine sUbX (And.intro hti hlt) ?_))
   (refine ⟨by kernel_rfl,_,.pure rfl (hib),?_⟩;(try (refine sUb ?_)))
   (refine hK _ ?_;clear hK K)
   (repeat' (first | (exfalso;simp at h;done) | (refine W_seqV fun K hK=>?_;(try (refine sUb ?_));refine hK _ ?_;clear hK K) | (refine W_ret ?_;(refine qG ?_;try exact True.intro)) | (refine W_cond rfl (fun h=>?_) (fun h=>?_) <;> (try simp only [cond_true,cond_false,ne_eq,cB] at h))))
  by_cases hki2:k=i
  ·have hnb:((k:Int) != (i:Int))=false:=by simp [hki2]
   cases kb
   ·rw [hbad (by rw [hdef];simp)]
    simp only [Bool.false_eq_true,if_false]
    ((refine W_seqD mixed [] (by kernel_rfl) ?_);intro K hK;(refine sUbX (And.intro hti hlt) ?_))
    (refine ⟨by kernel_rfl,_,.pure rfl (hib),?_⟩;(try (refine sUb ?_));(repeat refine aI ?_))
    (refine sUbX (And.intro hti hlt) ?_;try exact True.intro)
    (refine ⟨by kernel_rfl,_,.pure rfl (hrb),?_⟩;(try (refine sUb ?_)))
    rw [hnb]
    (refine sUbX (And.intro hti hlt) ?_;try exact True.intro)
    (refine ⟨by kernel_rfl,_,.pure rfl (hki),?_⟩;(try (refine sUb ?_)))
    (refine hK _ ?_;clear hK K)
    (repeat' (first | (exfalso;simp at h;done) | (refine W_seqV fun K hK=>?_;(try (refine sUb ?_));refine hK _ ?_;clear hK K) | (refine W_ret ?_;(refine qG ?_;try exact True.intro)) | (refine W_cond rfl (fun h=>?_) (fun h=>?_) <;> (try simp only [cond_true,cond_false,ne_eq,cB] at h))))
   ·((refine W_seqD mixed [] (by kernel_rfl) ?_);intro K hK;(refine sUbX (And.intro hti hlt) ?_))
    (refine ⟨by kernel_rfl,_,.pure rfl (hib),?_⟩;(try (refine sUb ?_));(repeat refine aI ?_))
    (refine sUbX (And.intro hti hlt) ?_;try exact True.intro)
    (refine ⟨by kernel_rfl,_,.pure rfl (hrb),?_⟩;(try (refine sUb ?_)))
    rw [hnb]
    (refine sUbX (And.intro hti hlt) ?_;try exact True.intro)
    (refine ⟨by kernel_rfl,_,.pure rfl (hki),?_⟩;(try (refine sUb ?_)))
    (refine hK _ ?_;clear hK K)
    (refine W_cf rfl ?_)
    refine W_skip ?_
    simp only [thenW,blockW]
    ((refine W_regV ?_);intro K hK;(refine sUb ?_))
    (refine hK _ ?_;clear hK K)
    simp only [blockW,thenW]
    refine ⟨⟨i+1,by omega,hpr (by rw [hdef];simp [hki2])⟩,Le_drop (by simp [leE]) (by simp [leH]) rfl rfl,?_⟩
    dsimp only
    omega
  ·have hnb:((k:Int) != (i:Int))=true:=by simp;omega
   rw [hbad (by rw [hdef];simp;intro h;exact absurd h hki2)]
   simp only [Bool.false_eq_true,if_false]
   ((refine W_seqD mixed [] (by kernel_rfl) ?_);intro K hK;(refine sUbX (And.intro hti hlt) ?_))
   (refine ⟨by kernel_rfl,_,.pure rfl (hib),?_⟩;(try (refine sUb ?_));(repeat refine aI ?_))
   (refine sUbX (And.intro hti hlt) ?_;try exact True.intro)
   (refine ⟨by kernel_rfl,_,.pure rfl (hrb),?_⟩;(try (refine sUb ?_)))
   rw [hnb]
   (refine sUbX (And.intro hti hlt) ?_;try exact True.intro)
   (refine hK _ ?_;clear hK K)
   (repeat' (first | (exfalso;simp at h;done) | (refine W_seqV fun K hK=>?_;(try (refine sUb ?_));refine hK _ ?_;clear hK K) | (refine W_ret ?_;(refine qG ?_;try exact True.intro)) | (refine W_cond rfl (fun h=>?_) (fun h=>?_) <;> (try simp only [cond_true,cond_false,ne_eq,cB] at h))))
 ·obtain rfl:i=t.length:=by omega
  refine W_seq ?_
  ((refine W_seqV ?_);intro K hK;(refine sUb ?_))
  (refine hK _ ?_;clear hK K)
  (refine W_cf rfl ?_)
  refine W_exit ?_
  simp only [thenW,blockW,if_true]
  refine W_seq ?_
  ((refine W_seqV ?_);intro K hK;(refine sUb ?_))
  (refine hK _ ?_;clear hK K)
  refine W_block (W_loop (fun s:{i:Nat // i≤t.length∧∀ j,j<i→∀ v∈keys (M.getD j default).2,idxM M v=none} =>
   ((fun (a_:AV) (d_:Ob)=>(⟨(a_::(.ptr 1 0 0)::a_::a_::(.int .i64 s.1)::a_::a_::a_::a_::a_::a_::a_::a_::a_::a_::a_::a_::a_::a_::a_::a_::a_::a_::a_::a_::a_::a_::a_::a_::a_::a_::a_::a_::a_::a_::a_::a_::a_::a_::a_::a_::a_::a_::a_::a_::a_::a_::a_::a_::a_::a_::a_::a_::a_::a_::a_::a_::a_::a_::a_::a_::a_::a_::a_::a_::a_::a_::a_::a_::a_::a_::a_::a_::a_::a_::a_::a_::a_::a_::a_::a_::[]),(d_::(.arr 24 2 false [[.int .i64 n,.sl (tab rowT t)]])::d_::d_::d_::d_::d_::d_::d_::d_::d_::d_::d_::d_::d_::d_::d_::d_::d_::d_::d_::d_::d_::d_::d_::d_::d_::d_::d_::d_::d_::d_::d_::d_::d_::d_::d_::d_::d_::d_::d_::d_::d_::d_::d_::d_::d_::d_::d_::d_::d_::d_::d_::d_::d_::d_::d_::d_::d_::d_::d_::d_::d_::d_::d_::d_::d_::d_::d_::d_::d_::d_::d_::d_::d_::d_::d_::d_::d_::d_::d_::[])⟩:St)) .any .dead)) (fun s=>t.length-s.1)
   ⟨0,by omega,by omega⟩ (Le_drop (by simp [leE]) (by simp [leH]) rfl rfl) fun s=>?_)
  obtain ⟨i,hi,hpr2⟩:=s
  dsimp only
  by_cases hlt:i<t.length
  ·have hti:(tab rowT t).getD i []=rowT (t.getD i default):=tab_getD hlt
   have hnx:(∀ v∈keys (M.getD i default).2,idxM M v=none)→∀ j,j<i+1→∀ v∈keys (M.getD j default).2,idxM M v=none:=fun h j hj=>by
    by_cases hji:j=i
    ·subst hji;exact h
    ·exact hpr2 j (by omega)
   have hbad:∀ v∈keys (M.getD i default).2,idxM M v≠none→gb=false:=fun v hv h=>hgF fun h'=>h (hfree h' i (by omega) v hv)
   have hvi:=hva i hlt
   have hvll:=hvl i hlt
   rw [hnd i hlt] at hnx hbad hvll
   generalize t.getD i default=r at *
   obtain ⟨b,f⟩:=r
   simp only [rowT] at hti
   dsimp only at *
   simp only [cF] at *
   generalize keys (normF (vals f))=V at *
   refine W_seq ?_
   ((refine W_seqV ?_);intro K hK;(refine sUbX hlt ?_))
   (refine hK _ ?_;clear hK K)
   (refine W_ct rfl ?_)
   refine W_skip ?_
   simp only [thenW]
   refine W_seq ?_
   refine W_block ?_
   ((refine W_seqV ?_);intro K hK;(refine sUbX (And.intro hti hlt) ?_))
   (refine ⟨by kernel_rfl,_,.pure rfl (hvi),?_⟩;(try (refine sUb ?_)))
   (refine hK _ ?_;clear hK K)
   refine W_seq ?_
   ((refine W_regV ?_);intro K hK;(refine sUb ?_))
   (refine hK _ ?_;clear hK K)
   refine W_block (W_loop (fun s:{k:Nat // k≤V.length∧∀ j,j<k→idxM M (V.getD j 0)=none} =>
    ((fun (a_:AV) (d_:Ob)=>(⟨(a_::(.ptr 1 0 0)::a_::a_::(.int .i64 i)::(.sl (i64s V))::(.int .i64 s.1)::a_::a_::a_::a_::a_::a_::a_::a_::a_::a_::a_::a_::a_::a_::a_::a_::a_::a_::a_::a_::a_::a_::a_::a_::a_::a_::a_::a_::a_::a_::a_::a_::a_::a_::a_::a_::a_::a_::a_::a_::a_::a_::a_::a_::a_::a_::a_::a_::a_::a_::a_::a_::a_::a_::a_::a_::a_::a_::a_::a_::a_::a_::a_::a_::a_::a_::a_::a_::a_::a_::a_::a_::a_::a_::[]),(d_::(.arr 24 2 false [[.int .i64 n,.sl (tab rowT t)]])::d_::d_::d_::d_::d_::d_::d_::d_::d_::d_::d_::d_::d_::d_::d_::d_::d_::d_::d_::d_::d_::d_::d_::d_::d_::d_::d_::d_::d_::d_::d_::d_::d_::d_::d_::d_::d_::d_::d_::d_::d_::d_::d_::d_::d_::d_::d_::d_::d_::d_::d_::d_::d_::d_::d_::d_::d_::d_::d_::d_::d_::d_::d_::d_::d_::d_::d_::d_::d_::d_::d_::d_::d_::d_::d_::d_::d_::d_::d_::[])⟩:St)) .any .dead)) (fun s=>V.length-s.1)
    ⟨0,by omega,by omega⟩ (Le_drop (by simp [leE]) (by simp [leH]) rfl rfl) fun s=>?_)
   obtain ⟨k,hk,hpr3⟩:=s
   dsimp only
   by_cases hlk:k<V.length
   ·have hvm:V.getD k 0∈V:=by simp [List.getD_eq_getElem?_getD,hlk]
    have hbk:=hbad _ hvm
    have hnk:idxM M (V.getD k 0)=none→∀ j,j<k+1→idxM M (V.getD j 0)=none:=fun h j hj=>by
     by_cases hji:j=k
     ·subst hji;exact h
     ·exact hpr3 j (by omega)
    generalize hv:V.getD k 0=v at *
    have hrv:=hro v
    refine W_seq ?_
    ((refine W_seqV ?_);intro K hK;(refine sUbX hlk ?_))
    (refine hK _ ?_;clear hK K)
    (refine W_ct rfl ?_)
    refine W_skip ?_
    simp only [thenW]
    refine W_seq ?_
    refine W_block ?_
    cases hx:idxM M v with
    | some j =>
     rw [hbk (by rw [hx];simp)]
     rw [rowI_some hx] at hrv
     simp only [Bool.false_eq_true,if_false]
     ((refine W_seqD mixed [] (by kernel_rfl) ?_);intro K hK;(refine sUbX (And.intro hv hlk) ?_))
     (refine ⟨by kernel_rfl,_,.pure rfl (hrv),?_⟩;(try (refine sUb ?_)))
     (refine hK _ ?_;clear hK K)
     (repeat' (first | (exfalso;simp at h;done) | (refine W_seqV fun K hK=>?_;(try (refine sUb ?_));refine hK _ ?_;clear hK K) | (refine W_ret ?_;(refine qG ?_;try exact True.intro)) | (refine W_cond rfl (fun h=>?_) (fun h=>?_) <;> (try simp only [cond_true,cond_false,ne_eq,cB] at h))))
    | none =>
     rw [rowI_none hx] at hrv
     ((refine W_seqD mixed [] (by kernel_rfl) ?_);intro K hK;(refine sUbX (And.intro hv hlk) ?_))
     (refine ⟨by kernel_rfl,_,.pure rfl (hrv),?_⟩;(try (refine sUb ?_)))
     (refine hK _ ?_;clear hK K)
     (refine W_cf rfl ?_)
     refine W_skip ?_
     simp only [thenW,blockW]
     ((refine W_regV ?_);intro K hK;(refine sUb ?_))
     (refine hK _ ?_;clear hK K)
     simp only [blockW,thenW]
     refine ⟨⟨k+1,by omega,hnk hx⟩,Le_drop (by simp [leE]) (by simp [leH]) rfl rfl,?_⟩
     dsimp only
     omega
   ·obtain rfl:k=V.length:=by omega
    refine W_seq ?_
    ((refine W_seqV ?_);intro K hK;(refine sUb ?_))
    (refine hK _ ?_;clear hK K)
    (refine W_cf rfl ?_)
    refine W_exit ?_
    simp only [thenW,blockW,if_true]
    ((refine W_regV ?_);intro K hK;(refine sUb ?_))
    (refine hK _ ?_;clear hK K)
    simp only [thenW,blockW]
    refine ⟨⟨i+1,by omega,hnx fun v hv=>?_⟩,Le_drop (by simp [leE]) (by simp [leH]) rfl rfl,?_⟩
    ·obtain ⟨j,hj,rfl⟩:=List.getElem_of_mem hv
     have:=hpr3 j hj
     rwa [show V.getD j 0=V[j] by simp [List.getD_eq_getElem?_getD,hj]] at this
    ·dsimp only
     omega
  ·obtain rfl:i=t.length:=by omega
   have hG:GT n M:=hof (by omega) (by omega) (fun j hj=>hpre j (by omega)) fun j hj p hp=>hpr2 j (by omega) p.1 (List.mem_map.2 ⟨p,hp,rfl⟩)
   rw [hgT hG]
   refine W_seq ?_
   ((refine W_seqV ?_);intro K hK;(refine sUb ?_))
   (refine hK _ ?_;clear hK K)
   (refine W_cf rfl ?_)
   refine W_exit ?_
   simp only [thenW,blockW,if_true]
   (repeat' (first | (refine W_seqV fun K hK=>?_;(try (refine sUb ?_));refine hK _ ?_;clear hK K) | (refine W_ret ?_;(refine qG ?_;try exact True.intro))))
def NewSV (base:Nat) (w:World) (F:Nat→Prop) (T:TypeId) (k:Nat) (pre:List AV) (rows:List (List AV)) (v:Value):Prop :=
 ∃ vs x,v = .agg (vs++[x]).toArray∧Rps w F noPl pre vs∧NewA base w F T k rows x
def NewS (P:Program) (g:FuncId) (args:List AV) (T:TypeId) (k:Nat) (pre:List AV) (R:List (List AV)→Prop):Prop :=
 pre.all AV.flat=true∧∀ (w:World) (vals:List Value) (F:Nat→Prop),(∀ k,F k→k<w.heap.size)→Rps w F noPl args vals →
  Calls P g vals.toArray w fun e w'=>∃ v rows,e = .returned v∧R rows∧Below w.heap.size w w'∧NewSV w.heap.size w' F T k pre rows v
theorem flats_any {w w':World} {A A':Nat→Prop} {ρ ρ':Pl}:∀ (l:List AV) {vs:List Value},l.all AV.flat=true→Rps w A ρ l vs→Rps w' A' ρ' l vs
 | [],_,_,h=>by simpa only [Rps] using h
 | x::l,vs,hf,h=>by
  simp only [List.all_cons,Bool.and_eq_true] at hf
  simp only [Rps] at h ⊢
  obtain ⟨v,us,h1,h2,h3⟩:=h
  exact ⟨v,us,h1,flat_any x hf.1 h2,flats_any l hf.2 h3⟩
def newSK (T:TypeId) (k:Nat) (pre:List AV) (R:List (List AV)→Prop) (hp:List Ob):AV→Prop
 | .agg cells=>∃ x,cells=pre++[x]∧newK T k R hp x
 | _=>False
def newSQ (P:Program) (rs:List ResultVar) (T:TypeId) (k:Nat) (pre:List AV) (R:List (List AV)→Prop):Exit→St→Prop
 | .normal,s=>resW P s rs fun xs=>newSK T k pre R s.hp (asOne xs)
 | .ret,s=>resW P s rs fun xs=>newSK T k pre R s.hp (asOne xs)
 | _,_=>False
theorem newK_A {fr:Fr} {ρ:Pl} {s:St} {a:Act} {w:World} (hr:Rep fr ρ s a w) (hpins:fr.pins=[]) {T:TypeId} {k:Nat} {R:List (List AV)→Prop} {x:AV} {v:Value} (h1:newK T k R s.hp x) (h3:Rp w (Av fr.F ρ) ρ x v) :
  ∃ rows,R rows∧NewA fr.base w fr.F T k rows v:=by
 cases x with
 | nils =>
  simp only [Rp] at h3
  exact ⟨[],h1,.inl ⟨h3,rfl⟩⟩
 | sref i off n =>
  obtain ⟨rows,rfl,rfl,hi,hR⟩:=h1
  have ho:=hr.heap i
  rw [show s.hp.getD i .dead = .arr T k true rows by simp [List.getD_eq_getElem?_getD,hi]] at ho
  simp only [Rp] at h3
  rcases h3 with ⟨g1,g2,g3,g4⟩ | ⟨b,s',cap,len,x,g1,g2,g3,g4⟩
  ·exact ⟨rows,hR,.inl ⟨g4,List.eq_nil_of_length_eq_zero g3⟩⟩
  ·rw [g1] at ho
   obtain ⟨e1,e2,vss,rest,e3,e4,e5⟩:=ho
   subst e1
   have hx0:=g4 (.inr trivial)
   rw [Nat.zero_mul] at hx0
   subst hx0
   refine ⟨rows,hR,.inr ⟨b,cap,?_,by rw [g3,Nat.sub_zero],vss,rest,e3,?_,e5⟩⟩
   ·rcases hr.mine i _ b g1 rfl with h4 | h4
    ·exact h4
    ·exact absurd h4.1 (by simp [hpins])
   ·exact RpR.later (ρ:=noPl) _ ⟨Nat.le_refl _,fun c _ hc=>by
     rcases hc with hc | rfl
     ·exact .inl hc
     ·exact .inr ⟨i,_,g1,rfl⟩,fun _ _ _=>rfl,fun _ _ h=>h⟩ e4
 | _=>exact h1.elim
theorem newS_of_W {P:Program} {g:FuncId} {fn:Func} {c:Code} {args:List AV} {T:TypeId} {k:Nat} {pre:List AV} {R:List (List AV)→Prop} (hf:P.funcs[g]?=some fn) (hb:fn.body=some c) {rs:List ResultVar} (hrs:fn.results.toList=rs) {nt:Nat} (hn:fn.ntmps=nt) (hpre:pre.all AV.flat=true)
  (h:W P [] c (newSQ P rs T k pre R) ⟨args++List.replicate (nt-args.length) .und,List.replicate nt .dead⟩):NewS P g args T k pre R:=by
 subst hrs;subst hn
 refine ⟨hpre,fun w vals F hF hv=>?_⟩
 have hlen:=hv.length
 refine calls_of_wp hf hb ?_
 let fr:Fr:=⟨w.heap.size,w,F,fun _=>False,[],noPl,fun _ _ h=>h⟩
 have hA:Av F noPl=F:=by
  funext k
  simp [Av,noPl]
 have hrep:Rep fr noPl ⟨args++List.replicate (fn.ntmps-args.length) .und,List.replicate fn.ntmps .dead⟩ { tmps:=vals.toArray++Array.replicate (fn.ntmps-vals.toArray.size) undef,defers:=[] } w:=by
  refine { keep:=⟨rfl,rfl,rfl,Nat.le_refl _,fun _ _ _=>rfl⟩,base:=Nat.le_refl _,defers:=rfl,heap:=fun i=>?_,inj:=(fun i j p q b hi=>by cases hi),mine:=(fun i p b hi=>by cases hi),fF:=hF,pin:=(fun i hi=>by cases hi),env:=?_ }
  ·show HRo _ _ _ ((List.replicate fn.ntmps Ob.dead).getD i .dead) _
   rw [show (List.replicate fn.ntmps Ob.dead).getD i .dead = .dead by
    rw [List.getD_eq_getElem?_getD,List.getElem?_replicate];split <;> rfl]
   rfl
  ·show Rps w (Av F noPl) noPl _ _
   rw [hA]
   have h1:(vals.toArray++Array.replicate (fn.ntmps-vals.toArray.size) undef).toList=vals++List.replicate (fn.ntmps-args.length) undef:=by
    simp [hlen]
   rw [h1]
   refine hv.append (Rps.mk (by simp) fun i x v hx hv=>?_)
   rw [List.getElem?_replicate] at hx hv
   split at hx
   ·rename_i hi;rw [if_pos hi] at hv;cases hx;cases hv;simp only [Rp]
   ·cases hx
 refine Code.wp_mono (fun e a' w' he=>?_) (h fr noPl _ w rfl hrep)
 obtain ⟨s,ρ,hq,hr⟩:=he
 have fin:resW P s fn.results.toList (fun xs=>newSK T k pre R s.hp (asOne xs))→a'.defers=[]∧∃ v,(results fn a'.tmps).run P w' = .ok v w'∧∃ v2 rows,Ending.returned v = .returned v2∧R rows∧Below w.heap.size w w'∧NewSV w.heap.size w' F T k pre rows v2:=by
  intro hk
  obtain ⟨xs,v,h1,h2,h3⟩:=results_sound hr fn hk
  have hbel:Below w.heap.size w w':=⟨hr.keep.os,hr.keep.tape,hr.keep.output,hr.keep.size,fun k hk=>hr.keep.block k hk (fun h=>h)⟩
  refine ⟨hr.defers,v,h2,?_⟩
  cases hx:asOne xs with
  | agg cells =>
   rw [hx] at h1 h3
   obtain ⟨x,rfl,hkx⟩:=h1
   simp only [Rp] at h3
   obtain ⟨vs0,rfl,h4⟩:=h3
   obtain ⟨vs,us,rfl,h5,h6⟩:=h4.of_append
   simp only [Rps] at h6
   obtain ⟨y,_,rfl,h7,rfl⟩:=h6
   obtain ⟨rows,hR,hN⟩:=newK_A hr rfl hkx h7
   exact ⟨_,rows,rfl,hR,hbel,vs,y,rfl,flats_any _ hpre h5,hN⟩
  | _=>rw [hx] at h1;exact h1.elim
 cases e with
 | normal=>exact fin hq
 | ret=>exact fin hq
 | _=>exact hq.elim
theorem NewS.pure {P:Program} {g:FuncId} {args:List AV} {T:TypeId} {k:Nat} {pre:List AV} {R:List (List AV)→Prop} (h:NewS P g args T k pre R):Pure P g args (fun r=>∃ rows,R rows∧r = .agg (pre++[.sl rows])):=by
 intro w vals F hF hv
 refine (h.2 w vals F hF hv).mono fun e w' he=>?_
 obtain ⟨v,rows,h1,h2,h3,vs,x,rfl,h5,h4⟩:=he
 refine ⟨_,_,h1,⟨rows,h2,rfl⟩,h3,?_⟩
 simp only [Rp]
 refine ⟨_,rfl,h5.append ?_⟩
 simp only [Rps,Rp]
 refine ⟨_,_,rfl,?_,rfl⟩
 rcases h4 with ⟨rfl,rfl⟩ | ⟨b,cap,hb,rfl,vss,rest,e1,e2,e3,e4,e5,e6⟩
 ·exact ⟨none,0,by simp,by simp,by simp [maxLen],.inl rfl⟩
 ·refine ⟨_,cap,rfl,e5,e6,.inr ⟨b,0,vss,rfl,fun hFb=>?_,(Array.getElem?_eq_some_iff.1 e1).1,?_,RpR.later (ρ:=noPl) _ ⟨Nat.le_refl _,fun c _ hc => .inl hc,fun _ _ _=>rfl,fun _ _ h=>h⟩ e2⟩⟩
  ·have:=hF b hFb
   omega
  ·intro j u hj
   have h5:=(List.getElem?_eq_some_iff.1 hj).1
   simp only [World.cell?,Nat.zero_add]
   rw [e1]
   simp [List.getElem?_append_left h5,hj]
end Go.Proofs.YtjmpajgjaefcjaaGreat.Vm
/-
  The reference's tableaus: the rows by rising variables.
-/
namespace Go.Proofs.YtjmpajgjaefcjaaGreat.Vm
open Go Go.RowKit
theorem sUc {G G' : Prop} (h : G') (e : G = G' := by conv => lhs; simp (disch := omega) only [rowsOf, cNat, cN, St.ret, St.seth, Eff.app, Eff.wi, sepL, guardOf, St.known, objOf, List.set, sliceW, litW, copyW, lenOf, bnd, mxOk, ofCells, TI.isAgg, cellsOf, storable, AV.one, dead, laid, overlay, reduceCtorEq, Int.reduceLE, Int.reduceLT, Int.reduceSub, Int.reduceAdd, Nat.reduceMul, Int.reduceToNat, Nat.reducePow, Int.reduceNeg, Nat.reduceAdd, Nat.reduceLT, Nat.reduceLeDiff, sA, sB, Nat.reduceEqDiff, cQ, rowQ, rowU, rowT, rowM, i64s_getD, i64s_length, i64s_all, tab_length, tab_drop, tab_take, tab_append, tab_nil, rowT_all, rowT_one, rowT_pure, rowU_all, rowU_one, rowU_pure, rowQ_all, rowQ_one, rowQ_pure, rowM_all, rowM_one, rowM_pure, List.take_length, List.length_append, sT]) : G := e.mpr h
theorem sUcX {G G' P : Prop} (p : P) (h : G') (e : P → G = G' := by intro p; conv => lhs; simp (disch := omega) only [rowsOf, cNat, cN, St.ret, St.seth, Eff.app, Eff.wi, sepL, guardOf, St.known, objOf, List.set, sliceW, litW, copyW, lenOf, bnd, mxOk, ofCells, TI.isAgg, cellsOf, storable, AV.one, dead, laid, overlay, reduceCtorEq, Int.reduceLE, Int.reduceLT, Int.reduceSub, Int.reduceAdd, Nat.reduceMul, Int.reduceToNat, Nat.reducePow, Int.reduceNeg, Nat.reduceAdd, Nat.reduceLT, Nat.reduceLeDiff, sA, sB, Nat.reduceEqDiff, cQ, rowQ, rowU, rowT, rowM, i64s_getD, i64s_length, i64s_all, tab_length, tab_drop, tab_take, tab_append, tab_nil, rowT_all, rowT_one, rowT_pure, rowU_all, rowU_one, rowU_pure, rowQ_all, rowQ_one, rowQ_pure, rowM_all, rowM_one, rowM_pure, List.take_length, List.length_append, sT, p]) : G := (e p).mpr h
theorem aUc {G G' : Prop} (h : G') (f : Wr G' → G := by intro h; (repeat (first | (refine W_seqV fun K hK => ?_; (try (refine sUc ?_; try exact True.intro)); (repeat refine aI ?_); refine hK _ ?_; clear hK K) | (refine W_seqR fun K hK => ?_; (try (refine sUc ?_; try exact True.intro)); (repeat refine aI ?_); refine hK _ ?_; clear hK K) | (refine W_seqD mixed [] (by kernel_rfl) fun K hK => ?_; (try (refine sUc ?_; try exact True.intro)); (repeat refine aI ?_); refine hK _ ?_; clear hK K))); exact h.out) : G := f ⟨h⟩

def lastK (l : List Int) (k : Nat) : Int := if k = 0 then -1 else l.getD (k - 1) 0
theorem lastK_succ (l : List Int) (k : Nat) : lastK l (k + 1) = l.getD k 0 := by simp [lastK]
theorem next_least {l : List Int} (hl : l.Pairwise (· < ·)) (h0 : ∀ x ∈ l, 0 ≤ x) {k : Nat} (hk : k < l.length) : lastK l k < l.getD k 0 ∧ ∀ x ∈ l, lastK l k < x → l.getD k 0 ≤ x := by
  rw [List.pairwise_iff_getElem] at hl
  have hg : ∀ i (h : i < l.length), l.getD i 0 = l[i] := fun i h => by simp [List.getD_eq_getElem?_getD, h]
  unfold lastK
  rw [hg k hk]
  constructor
  · split
    · have := h0 l[k] (List.getElem_mem hk); omega
    · rw [hg (k - 1) (by omega)]
      exact hl (k - 1) k (by omega) hk (by omega)
  · intro x hx hlt
    obtain ⟨j, hj, rfl⟩ := List.getElem_of_mem hx
    by_cases hjk : j < k
    · exfalso
      rw [if_neg (by omega), hg (k - 1) (by omega)] at hlt
      by_cases h1 : j = k - 1
      · subst h1; omega
      · have := hl j (k - 1) hj (by omega) (by omega)
        omega
    · by_cases h1 : j = k
      · subst h1; omega
      · have := hl k j hk hj (by omega)
        omega
/-- The least of the first i that is above last: where it stands. -/
def Least (M : TM) (last : Int) (i : Nat) (a : Int) : Prop := (a = -1 ∧ ∀ j, j < i → (M.getD j default).1 ≤ last) ∨ ∃ m : Nat, a = (m : Int) ∧ m < i ∧ last < (M.getD m default).1 ∧ ∀ j, j < i → last < (M.getD j default).1 → (M.getD m default).1 ≤ (M.getD j default).1
set_option maxHeartbeats 4000000 in
theorem r7sorted_gen (n : Int) (t : TR) (hlen : t.length ≤ 68157440) (hpf : ∀ r ∈ t, PF r.2 8589934592) (hnod : (keys (nrmT t)).Nodup) (hpos : ∀ b ∈ keys (nrmT t), 0 ≤ b) : NewS Tryz.prog 64 [cT n t] 84 2 [.int .i64 n] (· = tab rowU (sortM (nrmT t))) := by
  have hml := nrmT_len t
  have hnd := fun i (hi : i < t.length) => nrmT_getD hi
  have hno : ∀ i, i < t.length → Pure Tryz.prog 86 [cF (t.getD i default).2] (· = cL (normF (vals (t.getD i default).2))) := fun i hi => f6norm_ok _ (hpf _ (getD_mem hi)) (by omega)
  have hll : (sortK (keys (nrmT t))).length = t.length := by rw [sortK_len, keys_len, hml]
  have hlast := fun k (hk : k < (sortK (keys (nrmT t))).length) => next_least (sortK_lt hnod) (fun x hx => hpos x (mem_sortK.1 hx)) hk
  have hkm : ∀ k, k < (sortK (keys (nrmT t))).length → ∃ j, j < (nrmT t).length ∧ ((nrmT t).getD j default).1 = (sortK (keys (nrmT t))).getD k 0 := fun k hk => by
    have : (sortK (keys (nrmT t))).getD k 0 ∈ keys (nrmT t) := mem_sortK.1 (by simp [List.getD_eq_getElem?_getD, hk])
    obtain ⟨j, _, h2, h3, _⟩ := look_idx this
    exact ⟨j, h2, h3⟩
  have hmk : ∀ m, m < (nrmT t).length → ((nrmT t).getD m default).1 ∈ sortK (keys (nrmT t)) := fun m hm => mem_sortK.2 (List.mem_map.2 ⟨_, getD_mem hm, rfl⟩)
  have hst : ∀ k m, k < (sortK (keys (nrmT t))).length → m < (nrmT t).length → ((nrmT t).getD m default).1 = (sortK (keys (nrmT t))).getD k 0 → (sortM (nrmT t)).take (k + 1) = (sortM (nrmT t)).take k ++ [(nrmT t).getD m default] := fun k m hk hm he => by
    rw [take_snoc (by rw [sortM_len, hml, ← hll]; exact hk), sortM_getD hk, ← he]
    have := idx_nodup hnod hm
    rw [(idx_some this).2.2.1]
    rfl
  have h0 : (sortM (nrmT t)).take 0 = [] := rfl
  have hall : (sortM (nrmT t)).take t.length = sortM (nrmT t) := by rw [← hml, ← sortM_len, List.take_length]
  have hln : ∀ i, i ≤ t.length → ((sortM (nrmT t)).take i).length = i := fun i hi => by rw [List.length_take, sortM_len]; omega
  clear hpf hnod hpos
  unfold cT at *
  rw [← hall]
  clear hall
  generalize hE : (fun i => (sortM (nrmT t)).take i) = E at *
  have hE' : ∀ i, (sortM (nrmT t)).take i = E i := fun i => congrFun hE i
  simp only [hE'] at *
  clear hE hE'
  generalize sortK (keys (nrmT t)) = l at *
  generalize nrmT t = M at *
  (refine newS_of_W (T := 84) (k := 2) (pre := [.int .i64 n]) Tryz.func64 rfl (rs := [Go.ResultVar.cell 2 24]) rfl (nt := 73) rfl rfl ?_; simp only [List.length_cons, List.length_nil, List.replicate, List.cons_append, List.nil_append])
  (refine aUc ?_)
  refine W.le ?_ (Le_nilO 3 0 1 70 84 2 true rfl rfl rfl rfl)
  simp only [List.set]
  refine W_seq ?_
  refine W_block (W_loop (fun s : {k : Nat // k ≤ t.length} =>
      ⟨(.any :: (.ptr 1 0 0) :: (.ptr 2 0 0) :: (.ptr 3 0 0) :: (.int .i64 (lastK l s.1)) :: .any :: .any :: .any :: .any :: .any :: .any :: .any :: .any :: .any :: .any :: .any :: .any :: .any :: .any :: .any :: .any :: .any :: .any :: .any :: .any :: .any :: .any :: .any :: .any :: .any :: .any :: .any :: .any :: .any :: .any :: .any :: .any :: .any :: .any :: .any :: .any :: .any :: .any :: .any :: .any :: .any :: .any :: .any :: .any :: .any :: .any :: .any :: .any :: .any :: .any :: .any :: .any :: .any :: .any :: .any :: .any :: .any :: .any :: .any :: .any :: .any :: .any :: .any :: .any :: .any :: .any :: .any :: .any :: []),
       (.dead :: (.arr 24 2 false [[.int .i64 n, .sl (tab rowT t)]]) :: (.arr 24 2 false [[.int .i64 0, .nils]]) :: (.arr 24 2 false [[.int .i64 n, .sref 70 0 s.1]]) :: .dead :: .dead :: .dead :: .dead :: .dead :: .dead :: .dead :: .dead :: .dead :: .dead :: .dead :: .dead :: .dead :: .dead :: .dead :: .dead :: .dead :: .dead :: .dead :: .dead :: .dead :: .dead :: .dead :: .dead :: .dead :: .dead :: .dead :: .dead :: .dead :: .dead :: .dead :: .dead :: .dead :: .dead :: .dead :: .dead :: .dead :: .dead :: .dead :: .dead :: .dead :: .dead :: .dead :: .dead :: .dead :: .dead :: .dead :: .dead :: .dead :: .dead :: .dead :: .dead :: .dead :: .dead :: .dead :: .dead :: .dead :: .dead :: .dead :: .dead :: .dead :: .dead :: .dead :: .dead :: .dead :: .dead :: (.arr 84 2 true (tab rowU (E s.1))) :: .dead :: .dead :: [])⟩) (fun s => t.length - s.1)
      ⟨0, by omega⟩ (Le_drop (by simp [leE, lastK]) (by simp [leH, h0, tab]) rfl rfl) fun s => ?_)
  obtain ⟨k, hk⟩ := s
  dsimp only
  by_cases hlt : k < t.length
  · obtain ⟨hgt, hleast⟩ := hlast k (by omega)
    have hstk := hst k
    have hlk := hln k (by omega)
    obtain ⟨j0, hj0, hj1⟩ := hkm k (by omega)
    have hls := lastK_succ l k
    generalize hlv : l.getD k 0 = v at *
    generalize hla : lastK l k = last at *
    generalize hE1 : E (k + 1) = o' at *
    generalize E k = o at *
    refine W_seq ?_
    ((refine W_seqV ?_); intro K hK; (refine sUcX hlt ?_))
    (refine hK _ ?_; clear hK K)
    (refine W_cond rfl (fun _ => ?_) (fun h => by cases h))
    refine W_skip ?_
    simp only [thenW]
    refine W_block ?_
    (refine aUc ?_)
    refine W_seq ?_
    ((refine W_seqV ?_); intro K hK; (refine sUc ?_))
    (refine hK _ ?_; clear hK K)
    refine W_block (W_loop (fun s : {p : Nat × Int // p.1 ≤ t.length ∧ Least M last p.1 p.2} =>
      ⟨(.any :: (.ptr 1 0 0) :: (.ptr 2 0 0) :: (.ptr 3 0 0) :: (.int .i64 last) :: (.int .i64 s.1.2) :: (.int .i64 s.1.1) :: .any :: .any :: .any :: .any :: .any :: .any :: .any :: .any :: .any :: .any :: .any :: .any :: .any :: .any :: .any :: .any :: .any :: .any :: .any :: .any :: .any :: .any :: .any :: .any :: .any :: .any :: .any :: .any :: .any :: .any :: .any :: .any :: .any :: .any :: .any :: .any :: .any :: .any :: .any :: .any :: .any :: .any :: .any :: .any :: .any :: .any :: .any :: .any :: .any :: .any :: .any :: .any :: .any :: .any :: .any :: .any :: .any :: .any :: .any :: .any :: .any :: .any :: .any :: .any :: .any :: .any :: []),
       (.dead :: (.arr 24 2 false [[.int .i64 n, .sl (tab rowT t)]]) :: (.arr 24 2 false [[.int .i64 0, .nils]]) :: (.arr 24 2 false [[.int .i64 n, .sref 70 0 k]]) :: .dead :: .dead :: .dead :: .dead :: .dead :: .dead :: .dead :: .dead :: .dead :: .dead :: .dead :: .dead :: .dead :: .dead :: .dead :: .dead :: .dead :: .dead :: .dead :: .dead :: .dead :: .dead :: .dead :: .dead :: .dead :: .dead :: .dead :: .dead :: .dead :: .dead :: .dead :: .dead :: .dead :: .dead :: .dead :: .dead :: .dead :: .dead :: .dead :: .dead :: .dead :: .dead :: .dead :: .dead :: .dead :: .dead :: .dead :: .dead :: .dead :: .dead :: .dead :: .dead :: .dead :: .dead :: .dead :: .dead :: .dead :: .dead :: .dead :: .dead :: .dead :: .dead :: .dead :: .dead :: .dead :: .dead :: (.arr 84 2 true (tab rowU o)) :: .dead :: .dead :: [])⟩) (fun s => t.length - s.1.1)
      ⟨(0, -1), by omega, .inl ⟨rfl, by omega⟩⟩ (Le_drop (by simp [leE]) (by simp [leH]) rfl rfl) fun s => ?_)
    obtain ⟨⟨i, a⟩, hi, ha⟩ := s
    dsimp only at *
    by_cases hil : i < t.length
    · have hti : (tab rowT t).getD i [] = rowT (t.getD i default) := tab_getD hil
      have hMi : (M.getD i default).1 = (t.getD i default).1 := by rw [hnd i hil]
      have hno1 : (M.getD i default).1 ≤ last → Least M last i a → Least M last (i + 1) a := fun h1 h2 => by
        rcases h2 with ⟨h3, h4⟩ | ⟨m, h3, h4, h5, h6⟩
        · exact .inl ⟨h3, fun j hj => by
            by_cases hji : j = i
            · subst hji; exact h1
            · exact h4 j (by omega)⟩
        · exact .inr ⟨m, h3, by omega, h5, fun j hj hl => by
            by_cases hji : j = i
            · subst hji; omega
            · exact h6 j (by omega) hl⟩
      have hnew : last < (M.getD i default).1 → (∀ j, j < i → last < (M.getD j default).1 → (M.getD i default).1 ≤ (M.getD j default).1) → Least M last (i + 1) (i : Int) := fun h1 h2 =>
        .inr ⟨i, rfl, by omega, h1, fun j hj hl => by
          by_cases hji : j = i
          · subst hji; exact Int.le_refl _
          · exact h2 j (by omega) hl⟩
      have hold : ∀ m : Nat, m < i → last < (M.getD m default).1 → (∀ j, j < i → last < (M.getD j default).1 → (M.getD m default).1 ≤ (M.getD j default).1) → (M.getD m default).1 ≤ (M.getD i default).1 → Least M last (i + 1) (m : Int) := fun m h1 h2 h3 h4 =>
        .inr ⟨m, rfl, by omega, h2, fun j hj hl => by
          by_cases hji : j = i
          · subst hji; exact h4
          · exact h3 j (by omega) hl⟩
      rw [hMi] at hno1 hnew hold
      generalize t.getD i default = r at *
      obtain ⟨b, f⟩ := r
      simp only [rowT] at hti
      dsimp only at *
      refine W_seq ?_
      ((refine W_seqV ?_); intro K hK; (refine sUcX hil ?_))
      (refine hK _ ?_; clear hK K)
      (refine W_cond rfl (fun _ => ?_) (fun h => by cases h))
      refine W_skip ?_
      simp only [thenW]
      refine W_seq ?_
      refine W_block ?_
      refine W_seq ?_
      by_cases c1 : last < b
      · rcases ha with ⟨rfl, hle⟩ | ⟨m, rfl, hm, hmgt, hmle⟩
        · ((refine W_regD mixed [] (by kernel_rfl) ?_); intro K hK; (refine sUcX (And.intro hti (And.intro hil c1)) ?_))
          (refine hK _ ?_; clear hK K)
          simp only [thenW]
          (refine W_cond rfl (fun _ => ?_) (fun h => by cases h))
          ((refine W_regV ?_); intro K hK; (refine sUc ?_))
          (refine hK _ ?_; clear hK K)
          simp only [thenW, blockW]
          ((refine W_regV ?_); intro K hK; (refine sUc ?_))
          (refine hK _ ?_; clear hK K)
          simp only [blockW, thenW]
          refine ⟨⟨(i + 1, (i : Int)), by dsimp only; omega, hnew c1 fun j hj hl => by have := hle j hj; omega⟩, Le_drop (by simp [leE]) (by simp [leH]) rfl rfl, ?_⟩
          dsimp only
          omega
        · have hXm : (tab rowT t).getD m [] = rowT (t.getD m default) := tab_getD (by omega)
          have hMm : (M.getD m default).1 = (t.getD m default).1 := by rw [hnd m (by omega)]
          have hm0 : ¬ ((m : Int) < 0) := by omega
          have hmt : m < t.length := by omega
          have hold2 := hold m hm hmgt hmle
          rw [hMm] at hold2 hmgt hmle
          generalize t.getD m default = r2 at *
          obtain ⟨b2, f2⟩ := r2
          simp only [rowT] at hXm
          dsimp only at *
          by_cases c2 : b < b2
          · ((refine W_regD mixed [] (by kernel_rfl) ?_); intro K hK; (refine sUcX (And.intro hti (And.intro hil (And.intro c1 (And.intro hXm (And.intro hmt (And.intro hm0 c2)))))) ?_))
            (refine hK _ ?_; clear hK K)
            simp only [thenW]
            (refine W_cond rfl (fun _ => ?_) (fun h => by cases h))
            ((refine W_regV ?_); intro K hK; (refine sUc ?_))
            (refine hK _ ?_; clear hK K)
            simp only [thenW, blockW]
            ((refine W_regV ?_); intro K hK; (refine sUc ?_))
            (refine hK _ ?_; clear hK K)
            simp only [blockW, thenW]
            refine ⟨⟨(i + 1, (i : Int)), by dsimp only; omega, hnew c1 fun j hj hl => by have := hmle j hj hl; omega⟩, Le_drop (by simp [leE]) (by simp [leH]) rfl rfl, ?_⟩
            dsimp only
            omega
          · ((refine W_regD mixed [] (by kernel_rfl) ?_); intro K hK; (refine sUcX (And.intro hti (And.intro hil (And.intro c1 (And.intro hXm (And.intro hmt (And.intro hm0 c2)))))) ?_))
            (refine hK _ ?_; clear hK K)
            simp only [thenW]
            (refine W_cond rfl (fun h => by cases h) (fun _ => ?_))
            refine W_skip ?_
            simp only [thenW, blockW]
            ((refine W_regV ?_); intro K hK; (refine sUc ?_))
            (refine hK _ ?_; clear hK K)
            simp only [blockW, thenW]
            refine ⟨⟨(i + 1, (m : Int)), by dsimp only; omega, hold2 (by omega)⟩, Le_drop (by simp [leE]) (by simp [leH]) rfl rfl, ?_⟩
            dsimp only
            omega
      · ((refine W_regD mixed [] (by kernel_rfl) ?_); intro K hK; (refine sUcX (And.intro hti (And.intro hil c1)) ?_))
        (refine hK _ ?_; clear hK K)
        simp only [thenW]
        (refine W_cond rfl (fun h => by cases h) (fun _ => ?_))
        refine W_skip ?_
        simp only [thenW, blockW]
        ((refine W_regV ?_); intro K hK; (refine sUc ?_))
        (refine hK _ ?_; clear hK K)
        simp only [blockW, thenW]
        refine ⟨⟨(i + 1, a), by dsimp only; omega, hno1 (by omega) ha⟩, Le_drop (by simp [leE]) (by simp [leH]) rfl rfl, ?_⟩
        dsimp only
        omega
    · obtain rfl : i = t.length := by omega
      obtain ⟨m, rfl, hm, hmgt, hmle⟩ : ∃ m : Nat, a = (m : Int) ∧ m < t.length ∧ last < (M.getD m default).1 ∧ ∀ j, j < t.length → last < (M.getD j default).1 → (M.getD m default).1 ≤ (M.getD j default).1 := by
        rcases ha with ⟨_, h⟩ | h
        · have := h j0 (by omega)
          omega
        · exact h
      have hmv : (M.getD m default).1 = v := by
        have e1 := hmle j0 (by omega) (by omega)
        have e2 := hleast _ (hmk m (by omega)) hmgt
        omega
      have hst2 := hstk m (by omega) (by omega) hmv
      have hXm : (tab rowT t).getD m [] = rowT (t.getD m default) := tab_getD hm
      have hnom := hno m hm
      rw [hnd m hm] at hst2 hmv
      generalize t.getD m default = r2 at *
      obtain ⟨b2, f2⟩ := r2
      simp only [rowT] at hXm
      dsimp only at *
      simp only [cF, cL] at hnom
      subst hmv
      refine W_seq ?_
      ((refine W_seqV ?_); intro K hK; (refine sUc ?_))
      (refine hK _ ?_; clear hK K)
      (refine W_cond rfl (fun h => by cases h) (fun _ => ?_))
      refine W_exit ?_
      simp only [thenW, blockW, if_true]
      ((refine W_seqV ?_); intro K hK; (refine sUcX (And.intro hXm hm) ?_))
      (refine hK _ ?_; clear hK K)
      ((refine W_regS mixed 12 [] (by kernel_rfl) ?_); intro K hK; (refine sUcX (And.intro hXm hm) ?_))
      (refine ⟨by kernel_rfl, _, .pure rfl (hnom), ?_⟩; (try (refine sUc ?_)); (repeat refine aI ?_))
      (refine hK _ ?_; clear hK K)
      simp only [thenW, blockW]
      refine ⟨⟨k + 1, by omega⟩, Le_drop (by simp [leE, hls]) (by simp [leH, hE1, hst2, ← tab_snoc, rowU, tab_take, List.take_of_length_le, hlk]) rfl rfl, ?_⟩
      dsimp only
      omega
  · obtain rfl : k = t.length := by omega
    refine W_seq ?_
    ((refine W_seqV ?_); intro K hK; (refine sUc ?_))
    (refine hK _ ?_; clear hK K)
    (refine W_cond rfl (fun h => by cases h) (fun _ => ?_))
    refine W_exit ?_
    simp only [thenW, blockW, if_true]
    have hlk := hln t.length (Nat.le_refl _)
    generalize E t.length = o at *
    (refine aUc ?_)
    refine W_ret ?_
    (simp only [thenW, blockW, newSQ, resW, resV, asOne_one, List.getD_cons_zero, List.getD_cons_succ, newSK])
    (refine sUc ?_; try exact True.intro)
    skip
    exact ⟨_, rfl, _, rfl, by rw [tab_length, hlk], rfl, rfl⟩
theorem r7sorted_new (n : Int) (t : TR) (hT : TG t) (hnod : (keys (nrmT t)).Nodup) (hpos : ∀ b ∈ keys (nrmT t), 0 ≤ b) : NewS Tryz.prog 64 [cT n t] 84 2 [.int .i64 n] (· = tab rowU (sortM (nrmT t))) :=
  r7sorted_gen n t hT.len (fun r hr => (hT.pf hr).mono (by omega)) hnod hpos
theorem r7sorted_ok (n : Int) (t : TR) (hT : TG t) (hnod : (keys (nrmT t)).Nodup) (hpos : ∀ b ∈ keys (nrmT t), 0 ≤ b) : Pure Tryz.prog 64 [cT n t] (· = cU n (sortM (nrmT t))) :=
  (r7sorted_new n t hT hnod hpos).pure.mono fun r ⟨rows, h1, h2⟩ => by
    subst h1
    exact h2
end Go.Proofs.YtjmpajgjaefcjaaGreat.Vm

namespace Go.Proofs.YtjmpajgjaefcjaaGreat.Vm
open Go Go.RowKit
theorem TG.sorted {t:TR} (h:TG t) {n:Int} (hg:goodB n (nrmT t)=true):Pure Tryz.prog 64 [cT n t] (·=cU n (sortM (nrmT t))) :=
 r7sorted_ok n t h (gt_iff.1 hg).nodup fun b hb=>((gt_iff.1 hg).range b hb).1
def belowK (l:List Int):Nat→Nat
 | 0=>0
 | v+1=>if (v:Int)∈l then belowK l v+1 else belowK l v
theorem sVf {G G':Prop} (h:G') (e:G=G':=by conv=>lhs;simp (disch:=omega) only [rowsOf,cNat,cN,St.ret,St.seth,Eff.app,Eff.wi,sepL,guardOf,St.known,objOf,List.set,sliceW,litW,copyW,lenOf,bnd,mxOk,ofCells,TI.isAgg,cellsOf,storable,AV.one,dead,laid,overlay,reduceCtorEq,Int.reduceLE,Int.reduceLT,Int.reduceSub,Int.reduceAdd,Nat.reduceMul,Int.reduceToNat,Nat.reducePow,Int.reduceNeg,Nat.reduceAdd,Nat.reduceLT,Nat.reduceLeDiff,sA,sB,Nat.reduceEqDiff,cQ,cD,tab_length,List.take_length,tab_drop,tab_take,tab_nil,rowD_all,rowD_one,rowD_pure,rowQ_all,rowQ_one,rowQ_pure,rowM_all,rowM_one,rowM_pure,sT]):G:=e.mpr h
theorem sVfX {G G' P:Prop} (p:P) (h:G') (e:P→G=G':=by intro p;conv=>lhs;simp (disch:=omega) only [rowsOf,cNat,cN,St.ret,St.seth,Eff.app,Eff.wi,sepL,guardOf,St.known,objOf,List.set,sliceW,litW,copyW,lenOf,bnd,mxOk,ofCells,TI.isAgg,cellsOf,storable,AV.one,dead,laid,overlay,reduceCtorEq,Int.reduceLE,Int.reduceLT,Int.reduceSub,Int.reduceAdd,Nat.reduceMul,Int.reduceToNat,Nat.reducePow,Int.reduceNeg,Nat.reduceAdd,Nat.reduceLT,Nat.reduceLeDiff,sA,sB,Nat.reduceEqDiff,cQ,cD,tab_length,List.take_length,tab_drop,tab_take,tab_nil,rowD_all,rowD_one,rowD_pure,rowQ_all,rowQ_one,rowQ_pure,rowM_all,rowM_one,rowM_pure,sT,p]):G:=(e p).mpr h
theorem sVfV {G G':Prop} (h:G') (e:G=G':=by conv=>lhs;simp (disch:=omega) only [rowsOf,cNat,cN,St.ret,St.seth,Eff.app,Eff.wi,sepL,guardOf,St.known,objOf,List.set,sliceW,litW,copyW,lenOf,bnd,mxOk,ofCells,TI.isAgg,cellsOf,storable,AV.one,dead,laid,overlay,reduceCtorEq,Int.reduceLE,Int.reduceLT,Int.reduceSub,Int.reduceAdd,Nat.reduceMul,Int.reduceToNat,Nat.reducePow,Int.reduceNeg,Nat.reduceAdd,Nat.reduceLT,Nat.reduceLeDiff,sA,sB,Nat.reduceEqDiff,cQ,cD,tab_length,List.take_length,tab_drop,tab_take,tab_nil,rowD_all,rowD_one,rowD_pure,rowQ_all,rowQ_one,rowQ_pure,rowM_all,rowM_one,rowM_pure,sT,view_sref,viewRef,view_agg,views_cons,views_nil,view_bool,view_int,view_sl,view_nils,view_str,view_tup,view_nilif]):G:=e.mpr h
theorem aVf {G G':Prop} (h:G') (f:Wr G'→G:=by intro h;(repeat (first|(refine W_seqV fun K hK=>?_;(try (refine sVf ?_;try exact True.intro));(repeat refine aI ?_);refine hK _ ?_;clear hK K)|(refine W_seqR fun K hK=>?_;(try (refine sVf ?_;try exact True.intro));(repeat refine aI ?_);refine hK _ ?_;clear hK K)|(refine W_seqD mixed [] (by kernel_rfl) fun K hK=>?_;(try (refine sVf ?_;try exact True.intro));(repeat refine aI ?_);refine hK _ ?_;clear hK K)));exact h.out):G:=f ⟨h⟩
theorem dnorm_ok (d:DD) (h:d.ok):Pure Tryz.prog 99 [d.av] (·=cD d.v):=by
 have h1:=rnorm_ok d.a h.1
 have h2:=rnorm_ok d.b h.2
 obtain ⟨⟨n,x,y⟩,⟨m,z,w⟩⟩:=d
 simp only [DD.av,DD.cells,DD.v,RR.av] at *
 generalize RR.v _=p at *
 generalize RR.v _=q at *
 simp only [cD,cQ] at *
 (refine pureW Tryz.func99 rfl (rs:=[Go.ResultVar.cell 2 58]) rfl (n:=10) rfl ?_;simp only [List.length_cons,List.length_nil,List.replicate,List.cons_append,List.nil_append])
 (refine aVf ?_)
 ((refine W_seqD mixed [] (by kernel_rfl) ?_);intro K hK;(refine sVf ?_))
 (refine ⟨by kernel_rfl,_,.pure rfl (h1),?_⟩;(try (refine sVf ?_)))
 (refine ⟨by kernel_rfl,_,.pure rfl (h2),?_⟩;(try (refine sVf ?_)))
 (refine hK _ ?_;clear hK K)
 refine W_ret ?_
 (refine qG ?_;try exact True.intro);try (refine sVfV ?_;try exact True.intro)
def cellsO:Option DD→List AV
 | none=>[.bool false,.nils,.nils,.bool false,.nils,.nils]
 | some d=>d.cells
theorem zeroD0_ok:zeroD0.ok:=⟨zeroR_ok,zeroR_ok⟩
set_option maxHeartbeats 8000000 in
theorem ldeltas_gen (ds:List DD) (f:List (Int × Rat)) (hnv:∀ i,nb2 (evd ds (f.take i))≤4294967296) (hvo:∀ v,(valD ds v).ok∧nb2 (valD ds v).v≤4294967296) (hel:f.length≤4294967296) (hmem:∀ p∈f,nb p.2≤4294967296):Pure Tryz.prog 98 [.sl (tab rowQ f),.sl (tab rowD ds)] (·=cD (evd ds f)):=by
 have hE0:evd ds (f.take 0)=(0,0):=rfl
 have hEl:evd ds (f.take f.length)=evd ds f:=by rw [List.take_length]
 have hst:=fun i hi=>@evd_step ds f i hi
 rw [← hEl]
 generalize hEA:(fun i=>evd ds (f.take i))=EA at *
 have hEA':∀ i,evd ds (f.take i)=EA i:=fun i=>congrFun hEA i
 simp only [hEA'] at *
 clear hEA hEA' hEl
 have hu0:u32s []=[]:=rfl
 (refine pureW Tryz.func98 rfl (rs:=[Go.ResultVar.cell 4 58]) rfl (n:=38) rfl ?_;simp only [List.length_cons,List.length_nil,List.replicate,List.cons_append,List.nil_append])
 (refine aVf ?_)
 refine W_seq ?_
 ((refine W_seqV ?_);intro K hK;(refine sVf ?_))
 (refine hK _ ?_;clear hK K)
 refine W_block (W_loop (fun s:{p:Nat × Option DD // p.1≤f.length∧(p.2.getD zeroD0).ok∧(p.2.getD zeroD0).v=EA p.1} =>
   ⟨[.any,.sl (tab rowD ds),.any,.any,.ptr 4 0 0,.ptr 5 0 0,.any,.any,.any,.sl (tab rowQ f),.int .i64 f.length,.int .i64 s.1.1,.any,.any,.any,.any,.any,.any,.any,.any,.any,.any,.any,.any,.any,.any,.any,.any,.any,.any,.any,.any,.any,.any,.any,.any,.any,.any],[.dead,.dead,.dead,.dead,.arr 58 6 false [[.bool false,.nils,.nils,.bool false,.nils,.nils]],.arr 58 6 false [cellsO s.1.2],.dead,.dead,.dead,.dead,.dead,.dead,.dead,.dead,.dead,.dead,.dead,.dead,.dead,.dead,.dead,.dead,.dead,.dead,.dead,.dead,.dead,.dead,.dead,.dead,.dead,.dead,.dead,.dead,.dead,.dead,.dead,.dead]⟩) (fun s=>f.length-s.1.1)
   ⟨(0,none),by simp,zeroD0_ok,by show zeroD0.v=_;rw [zeroD0_v',hE0]⟩ (Le_drop (by simp [leE]) (by simp [leH,cellsO]) rfl rfl) fun s=>?_)
 obtain ⟨⟨i,od⟩,hi,hdo,hdv⟩:=s
 dsimp only at *
 rcases od with _ | d
 ·have hdo:zeroD0.ok:=hdo
  have hdv:zeroD0.v=EA i:=hdv
  simp only [cellsO]
  by_cases hlt:i<f.length
  ·have hXi:(tab rowQ f).getD i []=rowQ (f.getD i default):=tab_getD hlt
   have hsi:=hst i hlt
   have hni:=hnv i
   have hni1:=hnv (i+1)
   have hem:=hmem (f.getD i default) (getD_mem hlt)
   generalize f.getD i default=m at *
   obtain ⟨v,c⟩:=m
   dsimp only at *
   obtain ⟨hv1,hv2⟩:=hvo v
   simp only [rowQ] at hXi
   refine W_seq ?_
   ((refine W_regV ?_);intro K hK;(refine sVfX hlt ?_))
   (refine hK _ ?_;clear hK K)
   (refine W_seq (W_ct rfl ?_))
   refine W_skip ?_
   simp only [thenW]
   refine W_seq ?_
   refine W_block ?_
   ((refine W_seqV ?_);intro K hK;(refine sVfX (And.intro hlt hXi) ?_))
   (refine hK _ ?_;clear hK K)
   by_cases hv0:0≤v
   ·by_cases hv3:v<(ds.length:Int)
    ·have hYi:(tab rowD ds).getD v.toNat []=rowD (ds.getD v.toNat default):=tab_getD (by omega)
     have hvd:valD ds v=ds.getD v.toNat default:=if_pos ⟨hv0,hv3⟩
     rw [hvd] at hsi hv1 hv2
     generalize ds.getD v.toNat default=y at *
     have hsc:=dscale_ok (qr c) y (qr_ok (by omega)) hv1
     rw [qr_v] at hsc
     have hsn:=nb2_scale c y.v
     have had:=dadd_ok zeroD0 (dq (dscale c y.v)) hdo (dq_ok (by omega))
     rw [dq_v,hdv,← hsi,dq_av] at had
     generalize dscale c y.v=dm at *
     simp only [rowD,DD.cells] at hYi
     simp only [RR.av,qr,cD,DD.av,DD.cells,zeroD0,zeroR,hu0] at hsc had
     ((refine W_seqV ?_);intro K hK;(refine sVfX (And.intro hv0 hv3) ?_))
     (refine hK _ ?_;clear hK K)
     (refine W_ct rfl ?_)
     ((refine W_regD mixed [] (by kernel_rfl) ?_);intro K hK;(refine sVfX (And.intro hYi (And.intro hv0 hv3)) ?_))
     (refine ⟨by kernel_rfl,_,.pure rfl (hsc),?_⟩;(try (refine sVf ?_)))
     (refine ⟨by kernel_rfl,_,.pure rfl (had),?_⟩;(try (refine sVf ?_)))
     (refine hK _ ?_;clear hK K)
     simp only [blockW,thenW]
     ((refine W_regV ?_);intro K hK;(refine sVf ?_))
     (refine hK _ ?_;clear hK K)
     simp only [blockW,thenW]
     refine ⟨⟨(i+1,some (dq (EA (i+1)))),by dsimp only;omega,dq_ok (by omega),by show (dq (EA (i+1))).v=_;rw [dq_v]⟩,Le_drop (by simp [leE]) (by simp [leH,cellsO,DD.cells,dq,qr]) rfl rfl,?_⟩
     dsimp only
     omega
    ·have hvd:valD ds v=zeroD0:=if_neg fun h=>hv3 h.2
     have hnx:EA (i+1)=EA i:=by
      rw [hsi,hvd,zeroD0_v'];simp [dadd,dscale,Rat.mul_zero,Rat.add_zero]
     ((refine W_seqV ?_);intro K hK;(refine sVfX (And.intro hv0 hv3) ?_))
     (refine hK _ ?_;clear hK K)
     (refine W_cf rfl ?_)
     refine W_skip ?_
     simp only [blockW,thenW]
     ((refine W_regV ?_);intro K hK;(refine sVf ?_))
     (refine hK _ ?_;clear hK K)
     simp only [blockW,thenW]
     refine ⟨⟨(i+1,none),by dsimp only;omega,hdo,by show zeroD0.v=_;rw [hnx];exact hdv⟩,Le_drop (by simp [leE]) (by simp [leH,cellsO]) rfl rfl,?_⟩
     dsimp only
     omega
   ·have hvd:valD ds v=zeroD0:=if_neg fun h=>hv0 h.1
    have hnx:EA (i+1)=EA i:=by
     rw [hsi,hvd,zeroD0_v'];simp [dadd,dscale,Rat.mul_zero,Rat.add_zero]
    ((refine W_seqV ?_);intro K hK;(refine sVfX hv0 ?_))
    (refine hK _ ?_;clear hK K)
    (refine W_cf rfl ?_)
    refine W_skip ?_
    simp only [blockW,thenW]
    ((refine W_regV ?_);intro K hK;(refine sVf ?_))
    (refine hK _ ?_;clear hK K)
    simp only [blockW,thenW]
    refine ⟨⟨(i+1,none),by dsimp only;omega,hdo,by show zeroD0.v=_;rw [hnx];exact hdv⟩,Le_drop (by simp [leE]) (by simp [leH,cellsO]) rfl rfl,?_⟩
    dsimp only
    omega
  ·obtain rfl:i=f.length:=by omega
   have hno:=dnorm_ok zeroD0 hdo
   rw [hdv] at hno
   simp only [DD.av,DD.cells,cD,zeroD0,zeroR,hu0] at hno
   refine W_seq ?_
   ((refine W_regV ?_);intro K hK;(refine sVf ?_))
   (refine hK _ ?_;clear hK K)
   (refine W_seq (W_cf rfl ?_))
   refine W_exit ?_
   simp only [thenW,blockW,if_true]
   ((refine W_seqV ?_);intro K hK;(refine sVf ?_))
   (refine ⟨by kernel_rfl,_,.pure rfl (hno),?_⟩;(try (refine sVf ?_)))
   (refine hK _ ?_;clear hK K)
   refine W_ret ?_
   (refine qG ?_;try exact True.intro);try (refine sVfV ?_;try exact True.intro)
 ·have hdo:d.ok:=hdo
  have hdv:d.v=EA i:=hdv
  simp only [cellsO,DD.cells]
  by_cases hlt:i<f.length
  ·have hXi:(tab rowQ f).getD i []=rowQ (f.getD i default):=tab_getD hlt
   have hsi:=hst i hlt
   have hni:=hnv i
   have hni1:=hnv (i+1)
   have hem:=hmem (f.getD i default) (getD_mem hlt)
   generalize f.getD i default=m at *
   obtain ⟨v,c⟩:=m
   dsimp only at *
   obtain ⟨hv1,hv2⟩:=hvo v
   simp only [rowQ] at hXi
   refine W_seq ?_
   ((refine W_regV ?_);intro K hK;(refine sVfX hlt ?_))
   (refine hK _ ?_;clear hK K)
   (refine W_seq (W_ct rfl ?_))
   refine W_skip ?_
   simp only [thenW]
   refine W_seq ?_
   refine W_block ?_
   ((refine W_seqV ?_);intro K hK;(refine sVfX (And.intro hlt hXi) ?_))
   (refine hK _ ?_;clear hK K)
   by_cases hv0:0≤v
   ·by_cases hv3:v<(ds.length:Int)
    ·have hYi:(tab rowD ds).getD v.toNat []=rowD (ds.getD v.toNat default):=tab_getD (by omega)
     have hvd:valD ds v=ds.getD v.toNat default:=if_pos ⟨hv0,hv3⟩
     rw [hvd] at hsi hv1 hv2
     generalize ds.getD v.toNat default=y at *
     have hsc:=dscale_ok (qr c) y (qr_ok (by omega)) hv1
     rw [qr_v] at hsc
     have hsn:=nb2_scale c y.v
     have had:=dadd_ok d (dq (dscale c y.v)) hdo (dq_ok (by omega))
     rw [dq_v,hdv,← hsi,dq_av] at had
     generalize dscale c y.v=dm at *
     simp only [rowD,DD.cells] at hYi
     simp only [RR.av,qr,cD,DD.av,DD.cells] at hsc had
     ((refine W_seqV ?_);intro K hK;(refine sVfX (And.intro hv0 hv3) ?_))
     (refine hK _ ?_;clear hK K)
     (refine W_ct rfl ?_)
     ((refine W_regD mixed [] (by kernel_rfl) ?_);intro K hK;(refine sVfX (And.intro hYi (And.intro hv0 hv3)) ?_))
     (refine ⟨by kernel_rfl,_,.pure rfl (hsc),?_⟩;(try (refine sVf ?_)))
     (refine ⟨by kernel_rfl,_,.pure rfl (had),?_⟩;(try (refine sVf ?_)))
     (refine hK _ ?_;clear hK K)
     simp only [blockW,thenW]
     ((refine W_regV ?_);intro K hK;(refine sVf ?_))
     (refine hK _ ?_;clear hK K)
     simp only [blockW,thenW]
     refine ⟨⟨(i+1,some (dq (EA (i+1)))),by dsimp only;omega,dq_ok (by omega),by show (dq (EA (i+1))).v=_;rw [dq_v]⟩,Le_drop (by simp [leE]) (by simp [leH,cellsO,DD.cells,dq,qr]) rfl rfl,?_⟩
     dsimp only
     omega
    ·have hvd:valD ds v=zeroD0:=if_neg fun h=>hv3 h.2
     have hnx:EA (i+1)=EA i:=by
      rw [hsi,hvd,zeroD0_v'];simp [dadd,dscale,Rat.mul_zero,Rat.add_zero]
     ((refine W_seqV ?_);intro K hK;(refine sVfX (And.intro hv0 hv3) ?_))
     (refine hK _ ?_;clear hK K)
     (refine W_cf rfl ?_)
     refine W_skip ?_
     simp only [blockW,thenW]
     ((refine W_regV ?_);intro K hK;(refine sVf ?_))
     (refine hK _ ?_;clear hK K)
     simp only [blockW,thenW]
     refine ⟨⟨(i+1,some d),by dsimp only;omega,hdo,by show d.v=_;rw [hnx];exact hdv⟩,Le_drop (by simp [leE]) (by simp [leH,cellsO]) rfl rfl,?_⟩
     dsimp only
     omega
   ·have hvd:valD ds v=zeroD0:=if_neg fun h=>hv0 h.1
    have hnx:EA (i+1)=EA i:=by
     rw [hsi,hvd,zeroD0_v'];simp [dadd,dscale,Rat.mul_zero,Rat.add_zero]
    ((refine W_seqV ?_);intro K hK;(refine sVfX hv0 ?_))
    (refine hK _ ?_;clear hK K)
    (refine W_cf rfl ?_)
    refine W_skip ?_
    simp only [blockW,thenW]
    ((refine W_regV ?_);intro K hK;(refine sVf ?_))
    (refine hK _ ?_;clear hK K)
    simp only [blockW,thenW]
    refine ⟨⟨(i+1,some d),by dsimp only;omega,hdo,by show d.v=_;rw [hnx];exact hdv⟩,Le_drop (by simp [leE]) (by simp [leH,cellsO]) rfl rfl,?_⟩
    dsimp only
    omega
  ·obtain rfl:i=f.length:=by omega
   have hno:=dnorm_ok d hdo
   rw [hdv] at hno
   simp only [DD.av,DD.cells,cD] at hno
   refine W_seq ?_
   ((refine W_regV ?_);intro K hK;(refine sVf ?_))
   (refine hK _ ?_;clear hK K)
   (refine W_seq (W_cf rfl ?_))
   refine W_exit ?_
   simp only [thenW,blockW,if_true]
   ((refine W_seqV ?_);intro K hK;(refine sVf ?_))
   (refine ⟨by kernel_rfl,_,.pure rfl (hno),?_⟩;(try (refine sVf ?_)))
   (refine hK _ ?_;clear hK K)
   refine W_ret ?_
   (refine qG ?_;try exact True.intro);try (refine sVfV ?_;try exact True.intro)
structure EvOk (M:TM) (ds:List DD):Prop where
 vo:∀ v,(valD ds v).ok∧nb2 (valD ds v).v≤4294967296
 ro:∀ r∈M,r.2.length≤4294967296∧(∀ p∈r.2,nb p.2≤4294967296)∧∀ i,nb2 (evd ds (r.2.take i))≤4294967296
theorem valD_getD {ds:List DD} {i:Nat} (h:i<ds.length):valD ds (i:Int)=ds.getD i default:=by
 unfold valD
 rw [if_pos ⟨by omega,by omega⟩,Int.toNat_natCast]
theorem EvOk.mem {M:TM} {ds:List DD} (h:EvOk M ds):∀ d∈ds,d.ok∧nb2 d.v≤4294967296:=fun d hd=>by
 obtain ⟨i,hi,rfl⟩:=mem_getD hd
 rw [← valD_getD hi]
 exact h.vo _
theorem DsOk.ev {ds:List DD} (h:DsOk ds) {M:TM} (hM:∀ r∈M,nbs r.2≤68157440):EvOk M ds :=
 ⟨fun v=>⟨(valD_ok h v).1,Nat.le_trans (valD_ok h v).2 (by omega)⟩,fun r hr=>by
  have hs:=hM r hr
  have:=nbs_each (f:=r.2) (by omega)
  exact ⟨this.1,this.2,(evd_gen h r.2 hs).1⟩⟩
theorem ldeltas_ev {M:TM} {ds:List DD} (h:EvOk M ds) {r:Int × List (Int × Rat)} (hr:r∈M):Pure Tryz.prog 98 [.sl (tab rowQ r.2),.sl (tab rowD ds)] (·=cD (evd ds r.2)) :=
 ldeltas_gen ds r.2 (h.ro r hr).2.2 h.vo (h.ro r hr).1 (h.ro r hr).2.1
def NewTV (base:Nat) (w:World) (F:Nat→Prop) (T:TypeId) (k:Nat) (post:List AV) (rows:List (List AV)) (v:Value):Prop :=
 ∃ vs x,v = .tuple (x::vs).toArray∧Rps w F noPl post vs∧NewA base w F T k rows x
def NewT (P:Program) (g:FuncId) (args:List AV) (T:TypeId) (k:Nat) (post:List AV) (R:List (List AV)→Prop):Prop :=
 post.all AV.flat=true∧∀ (w:World) (vals:List Value) (F:Nat→Prop),(∀ k,F k→k<w.heap.size)→Rps w F noPl args vals →
  Calls P g vals.toArray w fun e w'=>∃ v rows,e = .returned v∧R rows∧Below w.heap.size w w'∧NewTV w.heap.size w' F T k post rows v
def newTK (T:TypeId) (k:Nat) (post:List AV) (R:List (List AV)→Prop) (hp:List Ob):AV→Prop
 | .tup cells=>∃ x,cells=x::post∧newK T k R hp x
 | _=>False
def newTQ (P:Program) (rs:List ResultVar) (T:TypeId) (k:Nat) (post:List AV) (R:List (List AV)→Prop):Exit→St→Prop
 | .normal,s=>resW P s rs fun xs=>newTK T k post R s.hp (asOne xs)
 | .ret,s=>resW P s rs fun xs=>newTK T k post R s.hp (asOne xs)
 | _,_=>False
theorem newT_of_W {P:Program} {g:FuncId} {fn:Func} {c:Code} {args:List AV} {T:TypeId} {k:Nat} {post:List AV} {R:List (List AV)→Prop} (hf:P.funcs[g]?=some fn) (hb:fn.body=some c) {rs:List ResultVar} (hrs:fn.results.toList=rs) {nt:Nat} (hn:fn.ntmps=nt) (hpost:post.all AV.flat=true)
  (h:W P [] c (newTQ P rs T k post R) ⟨args++List.replicate (nt-args.length) .und,List.replicate nt .dead⟩):NewT P g args T k post R:=by
 subst hrs;subst hn
 refine ⟨hpost,fun w vals F hF hv=>?_⟩
 have hlen:=hv.length
 refine calls_of_wp hf hb ?_
 let fr:Fr:=⟨w.heap.size,w,F,fun _=>False,[],noPl,fun _ _ h=>h⟩
 have hA:Av F noPl=F:=by
  funext k
  simp [Av,noPl]
 have hrep:Rep fr noPl ⟨args++List.replicate (fn.ntmps-args.length) .und,List.replicate fn.ntmps .dead⟩ { tmps:=vals.toArray++Array.replicate (fn.ntmps-vals.toArray.size) undef,defers:=[] } w:=by
  refine { keep:=⟨rfl,rfl,rfl,Nat.le_refl _,fun _ _ _=>rfl⟩,base:=Nat.le_refl _,defers:=rfl,heap:=fun i=>?_,inj:=(fun i j p q b hi=>by cases hi),mine:=(fun i p b hi=>by cases hi),fF:=hF,pin:=(fun i hi=>by cases hi),env:=?_ }
  ·show HRo _ _ _ ((List.replicate fn.ntmps Ob.dead).getD i .dead) _
   rw [show (List.replicate fn.ntmps Ob.dead).getD i .dead = .dead by
    rw [List.getD_eq_getElem?_getD,List.getElem?_replicate];split <;> rfl]
   rfl
  ·show Rps w (Av F noPl) noPl _ _
   rw [hA]
   have h1:(vals.toArray++Array.replicate (fn.ntmps-vals.toArray.size) undef).toList=vals++List.replicate (fn.ntmps-args.length) undef:=by
    simp [hlen]
   rw [h1]
   refine hv.append (Rps.mk (by simp) fun i x v hx hv=>?_)
   rw [List.getElem?_replicate] at hx hv
   split at hx
   ·rename_i hi;rw [if_pos hi] at hv;cases hx;cases hv;simp only [Rp]
   ·cases hx
 refine Code.wp_mono (fun e a' w' he=>?_) (h fr noPl _ w rfl hrep)
 obtain ⟨s,ρ,hq,hr⟩:=he
 have fin:resW P s fn.results.toList (fun xs=>newTK T k post R s.hp (asOne xs))→a'.defers=[]∧∃ v,(results fn a'.tmps).run P w' = .ok v w'∧∃ v2 rows,Ending.returned v = .returned v2∧R rows∧Below w.heap.size w w'∧NewTV w.heap.size w' F T k post rows v2:=by
  intro hk
  obtain ⟨xs,v,h1,h2,h3⟩:=results_sound hr fn hk
  have hbel:Below w.heap.size w w':=⟨hr.keep.os,hr.keep.tape,hr.keep.output,hr.keep.size,fun k hk=>hr.keep.block k hk (fun h=>h)⟩
  refine ⟨hr.defers,v,h2,?_⟩
  cases hx:asOne xs with
  | tup cells =>
   rw [hx] at h1 h3
   obtain ⟨x,rfl,hkx⟩:=h1
   simp only [Rp,Rps] at h3
   obtain ⟨vs0,rfl,y,us,rfl,h7,h5⟩:=h3
   obtain ⟨rows,hR,hN⟩:=newK_A hr rfl hkx h7
   exact ⟨_,rows,rfl,hR,hbel,us,y,rfl,flats_any _ hpost h5,hN⟩
  | _=>rw [hx] at h1;exact h1.elim
 cases e with
 | normal=>exact fin hq
 | ret=>exact fin hq
 | _=>exact hq.elim
theorem NewT.pure {P:Program} {g:FuncId} {args:List AV} {T:TypeId} {k:Nat} {post:List AV} {R:List (List AV)→Prop} (h:NewT P g args T k post R):Pure P g args (fun r=>∃ rows,R rows∧r = .tup (.sl rows::post)):=by
 intro w vals F hF hv
 refine (h.2 w vals F hF hv).mono fun e w' he=>?_
 obtain ⟨v,rows,h1,h2,h3,vs,x,rfl,h5,h4⟩:=he
 refine ⟨_,_,h1,⟨rows,h2,rfl⟩,h3,?_⟩
 simp only [Rp,Rps]
 refine ⟨_,rfl,_,_,rfl,?_,h5⟩
 rcases h4 with ⟨rfl,rfl⟩ | ⟨b,cap,hb,rfl,vss,rest,e1,e2,e3,e4,e5,e6⟩
 ·exact ⟨none,0,by simp,by simp,by simp [maxLen],.inl rfl⟩
 ·refine ⟨_,cap,rfl,e5,e6,.inr ⟨b,0,vss,rfl,fun hFb=>?_,(Array.getElem?_eq_some_iff.1 e1).1,?_,RpR.later (ρ:=noPl) _ ⟨Nat.le_refl _,fun c _ hc => .inl hc,fun _ _ _=>rfl,fun _ _ h=>h⟩ e2⟩⟩
  ·have:=hF b hFb
   omega
  ·intro j u hj
   have h5:=(List.getElem?_eq_some_iff.1 hj).1
   simp only [World.cell?,Nat.zero_add]
   rw [e1]
   simp [List.getElem?_append_left h5,hj]
theorem sVg {G G':Prop} (h:G') (e:G=G':=by conv=>lhs;simp (disch:=omega) only [rowsOf,cNat,cN,St.ret,St.seth,Eff.app,Eff.wi,sepL,guardOf,St.known,objOf,List.set,sliceW,litW,copyW,lenOf,bnd,mxOk,ofCells,TI.isAgg,cellsOf,storable,AV.one,dead,laid,overlay,reduceCtorEq,Int.reduceLE,Int.reduceLT,Int.reduceSub,Int.reduceAdd,Nat.reduceMul,Int.reduceToNat,Nat.reducePow,Int.reduceNeg,Nat.reduceAdd,Nat.reduceLT,Nat.reduceLeDiff,sA,sB,Nat.reduceEqDiff,cellsX_all,cellsX_one,cellsX_pure,cQ,cD,rowQ,rowU,rowT,rowM,tab_length,List.take_length,tab_drop,tab_take,tab_nil,rowD_all,rowD_one,rowD_pure,rowT_all,rowT_one,rowT_pure,rowU_all,rowU_one,rowU_pure,rowQ_all,rowQ_one,rowQ_pure,rowM_all,rowM_one,rowM_pure,findA_tab,range_snoc,pure_sl,sT]):G:=e.mpr h
theorem sVgX {G G' P:Prop} (p:P) (h:G') (e:P→G=G':=by intro p;conv=>lhs;simp (disch:=omega) only [rowsOf,cNat,cN,St.ret,St.seth,Eff.app,Eff.wi,sepL,guardOf,St.known,objOf,List.set,sliceW,litW,copyW,lenOf,bnd,mxOk,ofCells,TI.isAgg,cellsOf,storable,AV.one,dead,laid,overlay,reduceCtorEq,Int.reduceLE,Int.reduceLT,Int.reduceSub,Int.reduceAdd,Nat.reduceMul,Int.reduceToNat,Nat.reducePow,Int.reduceNeg,Nat.reduceAdd,Nat.reduceLT,Nat.reduceLeDiff,sA,sB,Nat.reduceEqDiff,cellsX_all,cellsX_one,cellsX_pure,cQ,cD,rowQ,rowU,rowT,rowM,tab_length,List.take_length,tab_drop,tab_take,tab_nil,rowD_all,rowD_one,rowD_pure,rowT_all,rowT_one,rowT_pure,rowU_all,rowU_one,rowU_pure,rowQ_all,rowQ_one,rowQ_pure,rowM_all,rowM_one,rowM_pure,findA_tab,range_snoc,pure_sl,sT,p]):G:=(e p).mpr h
theorem aVg {G G':Prop} (h:G') (f:Wr G'→G:=by intro h;(repeat (first|(refine W_seqV fun K hK=>?_;(try (refine sVg ?_;try exact True.intro));(repeat refine aI ?_);refine hK _ ?_;clear hK K)|(refine W_seqR fun K hK=>?_;(try (refine sVg ?_;try exact True.intro));(repeat refine aI ?_);refine hK _ ?_;clear hK K)|(refine W_seqD mixed [] (by kernel_rfl) fun K hK=>?_;(try (refine sVg ?_;try exact True.intro));(repeat refine aI ?_);refine hK _ ?_;clear hK K)));exact h.out):G:=f ⟨h⟩
def cellsX (x:Rat × Rat):List AV:=(dq x).cells
theorem cellsX_all (f:List (Rat × Rat)):AllLen 6 (tab cellsX f):=tab_all (k:=6) (fun _=>rfl) f
theorem cellsX_one (f:List (Rat × Rat)):AllOne (tab cellsX f):=tab_one (fun _=>rfl) f
theorem cellsX_pure (f:List (Rat × Rat)):AllPure (tab cellsX f):=tab_pure (fun _=>rfl) f
def extR (M:TM) (ds:List DD) (i:Nat):Rat × Rat:=match lookM M i with | some g=>evd ds g | none=>(ds.getD i default).v
def extL (M:TM) (ds:List DD):List (Rat × Rat):=(List.range ds.length).map (extR M ds)
def extV (n:Int) (t:TR) (ds:List DD):AV:=if goodB n (nrmT t) then if (ds.length:Int)=n then .tup [.sl (tab cellsX (extL (nrmT t) ds)),.int .i64 0] else .tup [.sl [],.int .i64 1] else .tup [.sl [],.int .i64 70]
theorem set_fill {α:Type} (A:List α) (z x:α) (k:Nat):(A++List.replicate (k+1) z).set A.length x=A++[x]++List.replicate k z:=by
 rw [List.set_append_right _ _ (Nat.le_refl _),Nat.sub_self,List.replicate_succ,List.set_cons_zero,List.append_assoc]
 rfl
theorem text_new (t:TR) (ds:List DD) (hT:TG t) (hd:EvOk (nrmT t) ds) (hl:ds.length<1099511627776) (hg:goodB (ds.length:Int) (nrmT t)=true) :
  NewT Tryz.prog 50 [cT (ds.length:Int) t,.sl (tab rowD ds)] 58 6 [.int .i64 0] (·=tab cellsX (extL (nrmT t) ds)):=by
 have a1:=hT.load (ds.length:Int)
 have hM:=hT.mok
 unfold loadV at a1
 rw [if_pos hg] at a1
 unfold cT at *
 have hld:∀ i g,lookM (nrmT t) i=some g→Pure Tryz.prog 98 [.sl (tab rowQ g),.sl (tab rowD ds)] (·=cD (evd ds g)):=fun i g h =>
  ldeltas_ev hd (look_mem h)
 have hnd:∀ i,i<ds.length→Pure Tryz.prog 99 [(ds.getD i default).av] (·=cD (ds.getD i default).v):=fun i hi=>dnorm_ok _ (hd.mem _ (getD_mem hi)).1
 clear hg hM hd hT
 generalize nrmT t=M at *
 have hnb:((ds.length:Int) != (ds.length:Int))=false:=by simp
 (refine newT_of_W (T:=58) (k:=6) (post:=[.int .i64 0]) Tryz.func50 rfl (rs:=[Go.ResultVar.tmp 4,Go.ResultVar.tmp 5]) rfl (nt:=57) rfl rfl ?_;simp only [List.length_cons,List.length_nil,List.replicate,List.cons_append,List.nil_append])
 (refine aVg ?_)
 ((refine W_seqV ?_);intro K hK;(refine sVg ?_))
 (refine ⟨by kernel_rfl,_,.pure rfl (a1),?_⟩;(try (refine sVg ?_)))
 (refine hK _ ?_;clear hK K)
 refine W_seq ?_
 refine W_block ?_
 ((refine W_seqV ?_);intro K hK;(refine sVg ?_))
 (refine hK _ ?_;clear hK K)
 (refine W_cf rfl ?_)
 ((refine W_seqV ?_);intro K hK;(refine sVgX hnb ?_))
 (refine hK _ ?_;clear hK K)
 (refine W_cf rfl ?_)
 refine W_skip ?_
 simp only [thenW,blockW]
 ((refine W_seqR ?_);intro K hK;(refine sVg ?_))
 (repeat refine aI ?_);refine hK _ ?_;clear hK K
 have hst:∀ i:Nat,(List.range (i+1)).map (extR M ds)=(List.range i).map (extR M ds)++[extR M ds i]:=fun i=>by rw [List.range_succ,List.map_append];rfl
 have hz:(List.range 0).map (extR M ds)=[]:=rfl
 have hln:∀ i:Nat,((List.range i).map (extR M ds)).length=i:=fun i=>by simp
 unfold extL
 have hex1:∀ (i:Nat) g,lookM M i=some g→extR M ds i=evd ds g:=fun i g h=>by unfold extR;rw [h]
 have hex2:∀ (i:Nat),lookM M i=none→extR M ds i=(ds.getD i default).v:=fun i h=>by unfold extR;rw [h]
 generalize hF:extR M ds=F at *
 generalize hE:(fun i:Nat=>(List.range i).map F)=E at *
 have hE':∀ i:Nat,(List.range i).map F=E i:=fun i=>congrFun hE i
 simp only [hE'] at *
 clear hE hE' hF
 have hfill:∀ i z,i<ds.length→(tab cellsX (E i)++List.replicate (ds.length-i) z).set i (cellsX (F i))=tab cellsX (E (i+1))++List.replicate (ds.length-(i+1)) z∧(tab cellsX (E i)++List.replicate (ds.length-i) z).getD i []=z:=fun i z hi=>by
  have h1:(tab cellsX (E i)).length=i:=by rw [tab_length,hln]
  obtain ⟨k,hk⟩:∃ k,ds.length-i=k+1:=⟨ds.length-i-1,by omega⟩
  have hk2:ds.length-(i+1)=k:=by omega
  have h2:=set_fill (tab cellsX (E i)) z (cellsX (F i)) k
  rw [h1] at h2
  rw [hk,hk2,h2,hst,← tab_snoc]
  refine ⟨rfl,?_⟩
  rw [List.getD_eq_getElem?_getD,List.getElem?_append_right (by omega),h1,Nat.sub_self,List.replicate_succ]
  rfl
 have hlen:∀ i z,i≤ds.length→(tab cellsX (E i)++List.replicate (ds.length-i) z).length=ds.length:=fun i z hi=>by rw [List.length_append,tab_length,hln,List.length_replicate];omega
 refine W_seq ?_
 ((refine W_seqV ?_);intro K hK;(refine sVg ?_))
 (refine hK _ ?_;clear hK K)
 generalize hzz:[AV.bool false,AV.nils,AV.nils,AV.bool false,AV.nils,AV.nils]=zz at *
 have hzl:zz.length=6:=by rw [← hzz];rfl
 have hzd:List.drop 6 zz=[]:=by rw [← hzz];rfl
 refine W_block (W_loop (fun s:{i:Nat // i≤ds.length} =>
   ⟨[.any,.sl (tab rowD ds),.any,.any,.any,.any,.md t.length (List.range t.length) (tab rowU M),.any,.sref 28 0 ds.length,.any,.any,.any,.any,.any,.any,.any,.any,.any,.any,.any,.any,.any,.any,.any,.any,.any,.any,.any,.any,.any,.int .i64 ds.length,.int .i64 s.1,.any,.any,.any,.any,.any,.any,.any,.any,.any,.any,.any,.any,.any,.any,.any,.any,.any,.any,.any,.any,.any,.any,.any,.any,.any],[.dead,.dead,.dead,.dead,.dead,.dead,.dead,.dead,.dead,.dead,.dead,.dead,.dead,.dead,.dead,.dead,.dead,.dead,.dead,.dead,.dead,.dead,.dead,.dead,.dead,.dead,.dead,.dead,.arr 58 6 true (tab cellsX (E s.1)++List.replicate (ds.length-s.1) zz),.dead,.dead,.dead,.dead,.dead,.dead,.dead,.dead,.dead,.dead,.dead,.dead,.dead,.dead,.dead,.dead,.dead,.dead,.dead,.dead,.dead,.dead,.dead,.dead,.dead,.dead,.dead,.dead]⟩) (fun s=>ds.length-s.1)
   ⟨0,by omega⟩ (Le_drop (by simp [leE]) (by simp [leH,hz,tab]) rfl rfl) fun s=>?_)
 obtain ⟨i,hi⟩:=s
 dsimp only
 by_cases hlt:i<ds.length
 ·obtain ⟨hf1,hf2⟩:=hfill i zz hlt
  have hf3:=hlen i zz hi
  generalize tab cellsX (E i)++List.replicate (ds.length-i) zz=R at *
  generalize hR':tab cellsX (E (i+1))++List.replicate (ds.length-(i+1)) zz=R' at *
  refine W_seq ?_
  ((refine W_regV ?_);intro K hK;(refine sVgX hlt ?_))
  (refine hK _ ?_;clear hK K)
  (refine W_seq (W_ct rfl ?_))
  refine W_skip ?_
  simp only [thenW]
  refine W_seq ?_
  refine W_block ?_
  ((refine W_seqV ?_);intro K hK;(refine sVg ?_))
  (refine hK _ ?_;clear hK K)
  cases hid:idxM M (i:Int) with
  | some j =>
   obtain ⟨hj1,hj2,hj3,hj4⟩:=idx_some hid
   have hXj:(tab rowU M).getD j []=rowU (M.getD j default):=rowU_getD hj1
   have hc:=hld _ _ hj3
   have hx:=hex1 i _ hj3
   generalize M.getD j default=q at *
   obtain ⟨w,g⟩:=q
   dsimp only at *
   generalize evd ds g=x at *
   simp only [rowU] at hXj
   simp only [cD] at hc
   ((refine W_seqV ?_);intro K hK;(refine sVgX (And.intro hid hXj) ?_))
   (refine hK _ ?_;clear hK K)
   ((refine W_seqV ?_);intro K hK;(refine sVg ?_))
   (refine hK _ ?_;clear hK K)
   (refine W_ct rfl ?_)
   ((refine W_regV ?_);intro K hK;(refine sVgX (And.intro hlt (And.intro hf3 (And.intro hf2 (And.intro hzl hzd)))) ?_))
   (refine ⟨by kernel_rfl,_,.pure rfl (hc),?_⟩;(try (refine sVg ?_));(repeat refine aI ?_))
   (refine sVgX (And.intro hlt (And.intro hf3 (And.intro hf2 (And.intro hzl hzd)))) ?_;try exact True.intro)
   (refine hK _ ?_;clear hK K)
   simp only [blockW,thenW]
   ((refine W_regV ?_);intro K hK;(refine sVg ?_))
   (refine hK _ ?_;clear hK K)
   simp only [blockW,thenW]
   refine ⟨⟨i+1,by omega⟩,Le_drop (by simp [leE]) (by simp [leH,hR',← hf1,hx,cellsX,DD.cells,dq,qr]) rfl rfl,?_⟩
   dsimp only
   omega
  | none =>
   have hx:=hex2 i (idx_none hid).2
   have hc:=hnd i hlt
   have hYi:(tab rowD ds).getD i []=rowD (ds.getD i default):=tab_getD hlt
   generalize hyy:ds.getD i default=y at *
   generalize y.v=x at *
   simp only [rowD,DD.cells] at hYi
   simp only [cD,DD.av,DD.cells] at hc
   ((refine W_seqV ?_);intro K hK;(refine sVgX hid ?_))
   (refine hK _ ?_;clear hK K)
   ((refine W_seqV ?_);intro K hK;(refine sVg ?_))
   (refine hK _ ?_;clear hK K)
   (refine W_cf rfl ?_)
   ((refine W_regV ?_);intro K hK;(refine sVgX (And.intro hlt (And.intro hYi (And.intro hf3 (And.intro hf2 (And.intro hzl hzd))))) ?_))
   (refine ⟨by kernel_rfl,_,.pure rfl (hc),?_⟩;(try (refine sVg ?_));(repeat refine aI ?_))
   (refine sVgX (And.intro hlt (And.intro hf3 (And.intro hf2 (And.intro hzl hzd)))) ?_;try exact True.intro)
   (refine hK _ ?_;clear hK K)
   simp only [blockW,thenW]
   ((refine W_regV ?_);intro K hK;(refine sVg ?_))
   (refine hK _ ?_;clear hK K)
   simp only [blockW,thenW]
   refine ⟨⟨i+1,by omega⟩,Le_drop (by simp [leE]) (by simp [leH,hR',← hf1,hx,cellsX,DD.cells,dq,qr]) rfl rfl,?_⟩
   dsimp only
   omega
 ·obtain rfl:i=ds.length:=by omega
  rw [Nat.sub_self,List.replicate_zero,List.append_nil]
  have hll:=hln ds.length
  generalize E ds.length=oo at *
  refine W_seq ?_
  ((refine W_regV ?_);intro K hK;(refine sVg ?_))
  (refine hK _ ?_;clear hK K)
  (refine W_seq (W_cf rfl ?_))
  refine W_exit ?_
  simp only [thenW,blockW,if_true]
  refine W_seq ?_
  ((refine W_regV ?_);intro K hK;(refine sVg ?_))
  (refine hK _ ?_;clear hK K)
  refine W_ret ?_
  (simp only [thenW,blockW,newTQ,resW,resV,asOne_two,List.getD_cons_zero,List.getD_cons_succ,newTK])
  exact ⟨_,rfl,_,rfl,by rw [tab_length,hll],rfl,rfl⟩
theorem text_g (n:Int) (t:TR) (ds:List DD) (hT:TG t) (hd:EvOk (nrmT t) ds) (hl:ds.length<1099511627776):Pure Tryz.prog 50 [cT n t,.sl (tab rowD ds)] (·=extV n t ds):=by
 have a1:=hT.load n
 have hM:=hT.mok
 unfold loadV at a1
 unfold extV
 unfold cT at *
 have hld:∀ i g,lookM (nrmT t) i=some g→Pure Tryz.prog 98 [.sl (tab rowQ g),.sl (tab rowD ds)] (·=cD (evd ds g)):=fun i g h =>
  ldeltas_ev hd (look_mem h)
 have hnd:∀ i,i<ds.length→Pure Tryz.prog 99 [(ds.getD i default).av] (·=cD (ds.getD i default).v):=fun i hi=>dnorm_ok _ (hd.mem _ (getD_mem hi)).1
 have hpu:goodB n (nrmT t)=true→(ds.length:Int)=n→Pure Tryz.prog 50 [.agg [.int .i64 n,.sl (tab rowT t)],.sl (tab rowD ds)] (· = .tup [.sl (tab cellsX (extL (nrmT t) ds)),.int .i64 0]):=fun h1 h2=>by
  subst h2
  exact (text_new t ds hT hd hl h1).pure.mono fun r ⟨rows,h1,h2⟩=>by
   subst h1
   exact h2
 generalize goodB n (nrmT t)=gb at *
 generalize nrmT t=M at *
 cases gb
 ·simp only [Bool.false_eq_true,if_false] at a1 ⊢
  (refine pureW Tryz.func50 rfl (rs:=[Go.ResultVar.tmp 4,Go.ResultVar.tmp 5]) rfl (n:=57) rfl ?_;simp only [List.length_cons,List.length_nil,List.replicate,List.cons_append,List.nil_append])
  (refine aVg ?_)
  ((refine W_seqV ?_);intro K hK;(refine sVg ?_))
  (refine ⟨by kernel_rfl,_,.pure rfl (a1),?_⟩;(try (refine sVg ?_)))
  (refine hK _ ?_;clear hK K)
  (repeat' (first | (exfalso;simp at h;done) | refine W_block ?_ | (refine W_seqV fun K hK=>?_;(try (refine sVg ?_));refine hK _ ?_;clear hK K) | (refine W_ret ?_;(refine qG ?_;try exact True.intro)) | (refine W_cond rfl (fun h=>?_) (fun h=>?_) <;> (try simp only [cond_true,cond_false,ne_eq,cB] at h)) | refine W_seq ?_))
 simp only [if_true] at a1 ⊢
 by_cases hn:(ds.length:Int)=n
 rotate_left
 ·rw [if_neg hn]
  have hnb:((ds.length:Int) != n)=true:=bne_iff_ne.2 hn
  (refine pureW Tryz.func50 rfl (rs:=[Go.ResultVar.tmp 4,Go.ResultVar.tmp 5]) rfl (n:=57) rfl ?_;simp only [List.length_cons,List.length_nil,List.replicate,List.cons_append,List.nil_append])
  (refine aVg ?_)
  ((refine W_seqV ?_);intro K hK;(refine sVg ?_))
  (refine ⟨by kernel_rfl,_,.pure rfl (a1),?_⟩;(try (refine sVg ?_)))
  (refine hK _ ?_;clear hK K)
  refine W_seq ?_
  refine W_block ?_
  ((refine W_seqV ?_);intro K hK;(refine sVg ?_))
  (refine hK _ ?_;clear hK K)
  (refine W_cf rfl ?_)
  ((refine W_seqV ?_);intro K hK;(refine sVgX hnb ?_))
  (refine hK _ ?_;clear hK K)
  (repeat' (first | (exfalso;simp at h;done) | (refine W_seqV fun K hK=>?_;(try (refine sVg ?_));refine hK _ ?_;clear hK K) | (refine W_ret ?_;(refine qG ?_;try exact True.intro)) | (refine W_cond rfl (fun h=>?_) (fun h=>?_) <;> (try simp only [cond_true,cond_false,ne_eq,cB] at h))))
 rw [if_pos hn]
 exact hpu rfl hn
theorem TOk.ev {t:TR} (hT:TOk t) {ds:List DD} (hd:DsOk ds):EvOk (nrmT t) ds:=hd.ev fun r hr=>by have:=tb_mem hr;have:=hT.tb;omega
theorem sVh {G G':Prop} (h:G') (e:G=G':=by conv=>lhs;simp (disch:=omega) only [rowsOf,cNat,cN,St.ret,St.seth,Eff.app,Eff.wi,sepL,guardOf,St.known,objOf,List.set,sliceW,litW,copyW,lenOf,bnd,mxOk,ofCells,TI.isAgg,cellsOf,storable,AV.one,dead,laid,overlay,reduceCtorEq,Int.reduceLE,Int.reduceLT,Int.reduceSub,Int.reduceAdd,Nat.reduceMul,Int.reduceToNat,Nat.reducePow,Int.reduceNeg,Nat.reduceAdd,Nat.reduceLT,Nat.reduceLeDiff,sA,sB,Nat.reduceEqDiff,cellsX_all,cellsX_one,cellsX_pure,cQ,cD,rowQ,rowU,rowT,rowM,tab_length,List.take_length,tab_drop,tab_take,tab_nil,rowD_all,rowD_one,rowD_pure,rowT_all,rowT_one,rowT_pure,rowU_all,rowU_one,rowU_pure,rowQ_all,rowQ_one,rowQ_pure,rowM_all,rowM_one,rowM_pure,sT]):G:=e.mpr h
theorem sVhX {G G' P:Prop} (p:P) (h:G') (e:P→G=G':=by intro p;conv=>lhs;simp (disch:=omega) only [rowsOf,cNat,cN,St.ret,St.seth,Eff.app,Eff.wi,sepL,guardOf,St.known,objOf,List.set,sliceW,litW,copyW,lenOf,bnd,mxOk,ofCells,TI.isAgg,cellsOf,storable,AV.one,dead,laid,overlay,reduceCtorEq,Int.reduceLE,Int.reduceLT,Int.reduceSub,Int.reduceAdd,Nat.reduceMul,Int.reduceToNat,Nat.reducePow,Int.reduceNeg,Nat.reduceAdd,Nat.reduceLT,Nat.reduceLeDiff,sA,sB,Nat.reduceEqDiff,cellsX_all,cellsX_one,cellsX_pure,cQ,cD,rowQ,rowU,rowT,rowM,tab_length,List.take_length,tab_drop,tab_take,tab_nil,rowD_all,rowD_one,rowD_pure,rowT_all,rowT_one,rowT_pure,rowU_all,rowU_one,rowU_pure,rowQ_all,rowQ_one,rowQ_pure,rowM_all,rowM_one,rowM_pure,sT,p]):G:=(e p).mpr h
theorem aVh {G G':Prop} (h:G') (f:Wr G'→G:=by intro h;(repeat (first|(refine W_seqV fun K hK=>?_;(try (refine sVh ?_;try exact True.intro));(repeat refine aI ?_);refine hK _ ?_;clear hK K)|(refine W_seqR fun K hK=>?_;(try (refine sVh ?_;try exact True.intro));(repeat refine aI ?_);refine hK _ ?_;clear hK K)|(refine W_seqD mixed [] (by kernel_rfl) fun K hK=>?_;(try (refine sVh ?_;try exact True.intro));(repeat refine aI ?_);refine hK _ ?_;clear hK K)));exact h.out):G:=f ⟨h⟩
def eqAt (M:TM) (ds:List DD) (i:Nat):Bool:=dsg (dsub (extR M ds i) (ds.getD i default).v) == 0
def eqTo (M:TM) (ds:List DD) (k:Nat):Bool:=(List.range k).all (eqAt M ds)
def holdsV (n:Int) (t:TR) (ds:List DD):AV:=if goodB n (nrmT t) then if (ds.length:Int)=n then .tup [.bool (eqTo (nrmT t) ds ds.length),.int .i64 0] else .tup [.bool false,.int .i64 1] else .tup [.bool false,.int .i64 70]
theorem extL_getD {M:TM} {ds:List DD} {i:Nat} (h:i<ds.length):(extL M ds).getD i default=extR M ds i:=by
 unfold extL
 simp [List.getD_eq_getElem?_getD,h]
theorem extL_len (M:TM) (ds:List DD):(extL M ds).length=ds.length:=by simp [extL]
theorem extR_nb {M:TM} {ds:List DD} (hd:EvOk M ds) {i:Nat} (hi:i<ds.length):nb2 (extR M ds i)≤4294967296:=by
 unfold extR
 cases h:lookM M i with
 | some g =>
  have h1:=(hd.ro _ (look_mem h)).2.2 g.length
  rwa [List.take_length] at h1
 | none =>
  have h1:=(hd.vo (i:Int)).2
  rw [valD_getD hi] at h1
  show nb2 (ds.getD i default).v≤_
  omega
theorem eqTo_step (M:TM) (ds:List DD) (k:Nat):eqTo M ds (k+1)=(eqTo M ds k&&eqAt M ds k):=by
 unfold eqTo
 rw [List.range_succ,List.all_append]
 simp
theorem eqTo_false {M:TM} {ds:List DD} {k:Nat} (hk:eqAt M ds k=false):∀ {m:Nat},k<m→eqTo M ds m=false
 | 0,h=>absurd h (Nat.not_lt_zero _)
 | m+1,h=>by
  rw [eqTo_step]
  by_cases hm:k=m
  ·subst hm;rw [hk,Bool.and_false]
  ·rw [eqTo_false hk (by omega),Bool.false_and]
theorem tholds_g (n:Int) (t:TR) (ds:List DD) (hT:TG t) (hd:EvOk (nrmT t) ds) (hl:ds.length<1099511627776):Pure Tryz.prog 53 [cT n t,.sl (tab rowD ds)] (·=holdsV n t ds):=by
 have a1:=text_g n t ds hT hd hl
 have hnb:=fun i (hi:i<ds.length)=>extR_nb (M:=nrmT t) hd hi
 have hcmp:∀ i,i<ds.length→Pure Tryz.prog 101 [(dq (extR (nrmT t) ds i)).av,(ds.getD i default).av] (· = .int .i64 (dsg (dsub (extR (nrmT t) ds i) (ds.getD i default).v))):=fun i hi=>by
  have:=dcmp_ok (dq (extR (nrmT t) ds i)) (ds.getD i default) (dq_ok (by have:=hnb i hi;omega)) (hd.mem _ (getD_mem hi)).1
  rwa [dq_v] at this
 unfold extV at a1
 unfold holdsV
 unfold cT at *
 generalize goodB n (nrmT t)=gb at *
 generalize nrmT t=M at *
 cases gb
 ·simp only [Bool.false_eq_true,if_false] at a1 ⊢
  (refine pureW Tryz.func53 rfl (rs:=[Go.ResultVar.tmp 4,Go.ResultVar.tmp 5]) rfl (n:=34) rfl ?_;simp only [List.length_cons,List.length_nil,List.replicate,List.cons_append,List.nil_append])
  (refine aVh ?_)
  ((refine W_seqV ?_);intro K hK;(refine sVh ?_))
  (refine ⟨by kernel_rfl,_,.pure rfl (a1),?_⟩;(try (refine sVh ?_)))
  (refine hK _ ?_;clear hK K)
  (repeat' (first | (exfalso;simp at h;done) | (refine W_seqV fun K hK=>?_;(try (refine sVh ?_));refine hK _ ?_;clear hK K) | (refine W_ret ?_;(refine qG ?_;try exact True.intro)) | (refine W_cond rfl (fun h=>?_) (fun h=>?_) <;> (try simp only [cond_true,cond_false,ne_eq,cB] at h)) | refine W_seq ?_))
 simp only [if_true] at a1 ⊢
 by_cases hn:(ds.length:Int)=n
 rotate_left
 ·rw [if_neg hn] at a1 ⊢
  (refine pureW Tryz.func53 rfl (rs:=[Go.ResultVar.tmp 4,Go.ResultVar.tmp 5]) rfl (n:=34) rfl ?_;simp only [List.length_cons,List.length_nil,List.replicate,List.cons_append,List.nil_append])
  (refine aVh ?_)
  ((refine W_seqV ?_);intro K hK;(refine sVh ?_))
  (refine ⟨by kernel_rfl,_,.pure rfl (a1),?_⟩;(try (refine sVh ?_)))
  (refine hK _ ?_;clear hK K)
  (repeat' (first | (exfalso;simp at h;done) | (refine W_seqV fun K hK=>?_;(try (refine sVh ?_));refine hK _ ?_;clear hK K) | (refine W_ret ?_;(refine qG ?_;try exact True.intro)) | (refine W_cond rfl (fun h=>?_) (fun h=>?_) <;> (try simp only [cond_true,cond_false,ne_eq,cB] at h)) | refine W_seq ?_))
 rw [if_pos hn] at a1 ⊢
 have hXl:=extL_len M ds
 have hXi:∀ i,i<ds.length→(tab cellsX (extL M ds)).getD i []=cellsX (extR M ds i):=fun i hi=>by
  rw [← extL_getD hi]
  exact tab_getD (by rw [hXl];exact hi)
 have heq:∀ i,eqAt M ds i=(dsg (dsub (extR M ds i) (ds.getD i default).v) == 0):=fun i=>rfl
 have hst:=eqTo_step M ds
 have hfa:=fun k (hk:eqAt M ds k=false)=>@eqTo_false M ds k hk ds.length
 have h0:eqTo M ds 0=true:=rfl
 generalize eqTo M ds=T at *
 generalize eqAt M ds=Q at *
 generalize extL M ds=X at *
 generalize extR M ds=F at *
 have hXc:(tab cellsX X).length=ds.length:=by rw [tab_length,hXl]
 have hRA:=cellsX_all X
 generalize tab cellsX X=R at *
 (refine pureW Tryz.func53 rfl (rs:=[Go.ResultVar.tmp 4,Go.ResultVar.tmp 5]) rfl (n:=34) rfl ?_;simp only [List.length_cons,List.length_nil,List.replicate,List.cons_append,List.nil_append])
 (refine aVh ?_)
 ((refine W_seqV ?_);intro K hK;(refine sVh ?_))
 (refine ⟨by kernel_rfl,_,.pure rfl (a1),?_⟩;(try (refine sVh ?_)))
 (refine hK _ ?_;clear hK K)
 (repeat' (first | (exfalso;simp at h;done) | refine W_block ?_ | (refine W_seqV fun K hK=>?_;(try (refine sVh ?_));refine hK _ ?_;clear hK K) | refine W_skip ?_ | (refine W_cond rfl (fun h=>?_) (fun h=>?_) <;> (try simp only [cond_true,cond_false,ne_eq,cB] at h)) | refine W_seq ?_))
 refine W_loop (fun s:{i:Nat // i≤ds.length∧T i=true} =>
   ⟨[.any,.sl (tab rowD ds),.any,.any,.any,.any,.sl R,.any,.any,.any,.any,.any,.any,.any,.any,.any,.any,.any,.any,.int .i64 ds.length,.int .i64 s.1,.any,.any,.any,.any,.any,.any,.any,.any,.any,.any,.any,.any,.any],[.dead,.dead,.dead,.dead,.dead,.dead,.dead,.dead,.dead,.dead,.dead,.dead,.dead,.dead,.dead,.dead,.dead,.dead,.dead,.dead,.dead,.dead,.dead,.dead,.dead,.dead,.dead,.dead,.dead,.dead,.dead,.dead,.dead,.dead]⟩) (fun s=>ds.length-s.1)
   ⟨0,by omega,h0⟩ (Le_drop (by simp [leE,hXc]) (by simp [leH]) rfl rfl) fun s=>?_
 obtain ⟨i,hi,hTi⟩:=s
 dsimp only
 by_cases hlt:i<ds.length
 ·have hXj:=hXi i hlt
  have hYi:(tab rowD ds).getD i []=rowD (ds.getD i default):=tab_getD hlt
  have hRl:i<R.length:=by omega
  have hc:=hcmp i hlt
  have hq:=heq i
  have hs:=hst i
  have hf:=hfa i
  generalize ds.getD i default=y at *
  generalize F i=x at *
  generalize dsg (dsub x y.v)=z at *
  simp only [rowD,cellsX,dq,qr,DD.cells] at hYi hXj
  simp only [cD,DD.av,dq,qr,DD.cells] at hc
  refine W_seq ?_
  ((refine W_regV ?_);intro K hK;(refine sVhX hlt ?_))
  (refine hK _ ?_;clear hK K)
  (refine W_seq (W_ct rfl ?_))
  refine W_skip ?_
  simp only [thenW]
  refine W_seq ?_
  refine W_block ?_
  ((refine W_seqV ?_);intro K hK;(refine sVh ?_))
  (refine hK _ ?_;clear hK K)
  refine W_seq ?_
  by_cases hz:z=0
  ·have hzb:(z != 0)=false:=by simp [hz]
   have hzq:Q i=true:=by rw [hq];simp [hz]
   rw [hzq,hTi] at hs
   ((refine W_regD mixed [] (by kernel_rfl) ?_);intro K hK;(refine sVhX (And.intro hXj (And.intro hYi (And.intro hlt (And.intro hRl hRA)))) ?_))
   (refine ⟨by kernel_rfl,_,.pure rfl (hc),?_⟩;(try (refine sVh ?_)))
   rw [hzb]
   (refine hK _ ?_;clear hK K)
   (refine W_cf rfl ?_)
   refine W_skip ?_
   simp only [blockW,thenW]
   ((refine W_regV ?_);intro K hK;(refine sVh ?_))
   (refine hK _ ?_;clear hK K)
   simp only [blockW,thenW]
   refine ⟨⟨i+1,by omega,by rw [hs];rfl⟩,Le_drop (by simp [leE]) (by simp [leH]) rfl rfl,?_⟩
   dsimp only
   omega
  ·have hzb:(z != 0)=true:=by simp [hz]
   have hzq:Q i=false:=by rw [hq];simp [hz]
   rw [hf hzq hlt]
   ((refine W_regD mixed [] (by kernel_rfl) ?_);intro K hK;(refine sVhX (And.intro hXj (And.intro hYi (And.intro hlt (And.intro hRl hRA)))) ?_))
   (refine ⟨by kernel_rfl,_,.pure rfl (hc),?_⟩;(try (refine sVh ?_)))
   rw [hzb]
   (refine hK _ ?_;clear hK K)
   (refine W_ct rfl ?_)
   (repeat' (first | (refine W_seqV fun K hK=>?_;(try (refine sVh ?_));refine hK _ ?_;clear hK K) | (refine W_ret ?_;(refine qG ?_;try exact True.intro))))
 ·obtain rfl:i=ds.length:=by omega
  rw [hTi]
  refine W_seq ?_
  ((refine W_regV ?_);intro K hK;(refine sVh ?_))
  (refine hK _ ?_;clear hK K)
  (refine W_seq (W_cf rfl ?_))
  refine W_exit ?_
  simp only [thenW,blockW,if_true]
  (repeat' (first | (refine W_seqV fun K hK=>?_;(try (refine sVh ?_));refine hK _ ?_;clear hK K) | (refine W_ret ?_;(refine qG ?_;try exact True.intro))))
theorem sVi {G G':Prop} (h:G') (e:G=G':=by conv=>lhs;simp (disch:=omega) only [rowsOf,cNat,cN,St.ret,St.seth,Eff.app,Eff.wi,sepL,guardOf,St.known,objOf,List.set,sliceW,litW,copyW,lenOf,bnd,mxOk,ofCells,TI.isAgg,cellsOf,storable,AV.one,dead,laid,overlay,reduceCtorEq,Int.reduceLE,Int.reduceLT,Int.reduceSub,Int.reduceAdd,Nat.reduceMul,Int.reduceToNat,Nat.reducePow,Int.reduceNeg,Nat.reduceAdd,Nat.reduceLT,Nat.reduceLeDiff,sA,sB,Nat.reduceEqDiff,cellsX_all,cellsX_one,cellsX_pure,cQ,cD,rowQ,rowU,rowT,rowM,tab_length,List.take_length,tab_drop,tab_take,tab_nil,rowD_all,rowD_one,rowD_pure,rowT_all,rowT_one,rowT_pure,rowU_all,rowU_one,rowU_pure,rowQ_all,rowQ_one,rowQ_pure,rowM_all,rowM_one,rowM_pure,sT]):G:=e.mpr h
theorem sViX {G G' P:Prop} (p:P) (h:G') (e:P→G=G':=by intro p;conv=>lhs;simp (disch:=omega) only [rowsOf,cNat,cN,St.ret,St.seth,Eff.app,Eff.wi,sepL,guardOf,St.known,objOf,List.set,sliceW,litW,copyW,lenOf,bnd,mxOk,ofCells,TI.isAgg,cellsOf,storable,AV.one,dead,laid,overlay,reduceCtorEq,Int.reduceLE,Int.reduceLT,Int.reduceSub,Int.reduceAdd,Nat.reduceMul,Int.reduceToNat,Nat.reducePow,Int.reduceNeg,Nat.reduceAdd,Nat.reduceLT,Nat.reduceLeDiff,sA,sB,Nat.reduceEqDiff,cellsX_all,cellsX_one,cellsX_pure,cQ,cD,rowQ,rowU,rowT,rowM,tab_length,List.take_length,tab_drop,tab_take,tab_nil,rowD_all,rowD_one,rowD_pure,rowT_all,rowT_one,rowT_pure,rowU_all,rowU_one,rowU_pure,rowQ_all,rowQ_one,rowQ_pure,rowM_all,rowM_one,rowM_pure,sT,p]):G:=(e p).mpr h
theorem aVi {G G':Prop} (h:G') (f:Wr G'→G:=by intro h;(repeat (first|(refine W_seqV fun K hK=>?_;(try (refine sVi ?_;try exact True.intro));(repeat refine aI ?_);refine hK _ ?_;clear hK K)|(refine W_seqR fun K hK=>?_;(try (refine sVi ?_;try exact True.intro));(repeat refine aI ?_);refine hK _ ?_;clear hK K)|(refine W_seqD mixed [] (by kernel_rfl) fun K hK=>?_;(try (refine sVi ?_;try exact True.intro));(repeat refine aI ?_);refine hK _ ?_;clear hK K)));exact h.out):G:=f ⟨h⟩
theorem lookM_snoc (A:TM) (r:Int × List (Int × Rat)) (v:Int):lookM (A++[r]) v=(lookM A v).or (if r.1=v then some r.2 else none):=by
 unfold lookM
 rw [List.find?_append]
 cases A.find? (fun r=>r.1 == v) with
 | some q=>rfl
 | none =>
  by_cases h:r.1=v
  ·simp [h]
  ·simp [h]
theorem ext_step {M:TM} (hn:(keys M).Nodup) {ds:List DD} {k:Nat} (hk:k<M.length) (h0:0≤(M.getD k default).1) (h1:(M.getD k default).1<(ds.length:Int)) :
  extL (M.take (k+1)) ds=(extL (M.take k) ds).set (M.getD k default).1.toNat (evd ds (M.getD k default).2):=by
 have hb:lookM (M.take k) (M.getD k default).1=none:=look_none fun hm=>by
  have h2:keys M=keys (M.take k)++keys (M.drop k):=by rw [← keys_append,List.take_append_drop]
  have h3:(M.getD k default).1∈keys (M.drop k):=List.mem_map.2 ⟨M.getD k default,by
   rw [List.drop_eq_getElem_cons hk,show M.getD k default=M[k] by simp [List.getD_eq_getElem?_getD,hk]]
   exact List.mem_cons_self,rfl⟩
  rw [h2,List.nodup_append] at hn
  exact hn.2.2 _ hm _ h3 rfl
 refine List.ext_getElem (by simp [extL]) fun j g1 g2=>?_
 have hj:j<ds.length:=by simpa [extL] using g1
 rw [List.getElem_set]
 have e1:∀ N:TM,∀ h:j<(extL N ds).length,(extL N ds)[j]=extR N ds j:=fun N h=>by simp [extL]
 rw [e1,e1]
 rw [take_snoc hk]
 unfold extR
 rw [lookM_snoc]
 by_cases hbj:(M.getD k default).1=(j:Int)
 ·rw [if_pos hbj,if_pos (by omega),← hbj,hb]
  rfl
 ·rw [if_neg hbj,if_neg (by omega),Option.or_none]
theorem evd_norm (ds:List DD) (f:List (Int × Rat)):evd ds (normF f)=evd ds f:=by
 unfold evd
 rw [ev2_norm,ev2_norm]
set_option maxHeartbeats 8000000 in
theorem r7ext_g (n:Int) (t:TR) (ds:List DD) (hT:TG t) (hd:EvOk (t.map fun r=>(r.1,vals r.2)) ds) (hl:ds.length<1099511627776):Pure Tryz.prog 34 [cT n t,.sl (tab rowD ds)] (·=extV n t ds):=by
 have a1:=r7check_ok n t hT
 have hlen:=hT.len
 have hml:=nrmT_len t
 have hgt:goodB n (nrmT t)=true→GT n (nrmT t):=gt_iff.1
 have hrow:∀ k,k<t.length→∃ b f,(tab rowT t).getD k []=[.int .i64 b,.sl (tab rowM f)]∧(nrmT t).getD k default=(b,normF (vals f))∧Pure Tryz.prog 37 [.sl (tab rowM f),.sl (tab rowD ds)] (·=cD (evd ds (normF (vals f)))):=fun k hk =>
  ⟨(t.getD k default).1,(t.getD k default).2,tab_getD hk,nrmT_getD hk,by
   rw [evd_norm]
   have hr:=hd.ro ((t.getD k default).1,vals (t.getD k default).2) (List.mem_map.2 ⟨_,getD_mem hk,rfl⟩)
   exact deltasM_gen ds _ hr.2.2 hd.vo (hT.ok _ (getD_mem hk)) hr.1 fun p hp=>hr.2.1 (p.1,p.2.v) (List.mem_map.2 ⟨p,hp,rfl⟩)⟩
 have hna:∀ i,i<ds.length→Pure Tryz.prog 76 [(ds.getD i default).a.av] (·=cQ (ds.getD i default).a.v)∧Pure Tryz.prog 76 [(ds.getD i default).b.av] (·=cQ (ds.getD i default).b.v):=fun i hi =>
  ⟨f3norm_ok _ (hd.mem _ (getD_mem hi)).1.1,f3norm_ok _ (hd.mem _ (getD_mem hi)).1.2⟩
 unfold extV
 unfold cT at *
 generalize goodB n (nrmT t)=gb at *
 generalize nrmT t=M at *
 cases gb
 ·simp only [Bool.false_eq_true,if_false] at a1 ⊢
  (refine pureW Tryz.func34 rfl (rs:=[Go.ResultVar.tmp 4,Go.ResultVar.tmp 5]) rfl (n:=69) rfl ?_;simp only [List.length_cons,List.length_nil,List.replicate,List.cons_append,List.nil_append])
  (refine aVi ?_)
  ((refine W_seq (W_seqV ?_));intro K hK;(refine sVi ?_))
  (refine ⟨by kernel_rfl,_,.pure rfl (a1),?_⟩;(try (refine sVi ?_)))
  (refine hK _ ?_;clear hK K)
  (repeat' (first | (exfalso;simp at h;done) | (refine W_seqV fun K hK=>?_;(try (refine sVi ?_));refine hK _ ?_;clear hK K) | (refine W_ret ?_;(refine qG ?_;try exact True.intro)) | (refine W_cond rfl (fun h=>?_) (fun h=>?_) <;> (try simp only [cond_true,cond_false,ne_eq,cB] at h))))
 simp only [if_true] at a1 ⊢
 have hgt:=hgt rfl
 by_cases hn:(ds.length:Int)=n
 rotate_left
 ·rw [if_neg hn]
  have hnb:((ds.length:Int) != n)=true:=bne_iff_ne.2 hn
  (refine pureW Tryz.func34 rfl (rs:=[Go.ResultVar.tmp 4,Go.ResultVar.tmp 5]) rfl (n:=69) rfl ?_;simp only [List.length_cons,List.length_nil,List.replicate,List.cons_append,List.nil_append])
  (refine aVi ?_)
  ((refine W_seq (W_seqV ?_));intro K hK;(refine sVi ?_))
  (refine ⟨by kernel_rfl,_,.pure rfl (a1),?_⟩;(try (refine sVi ?_)))
  (refine hK _ ?_;clear hK K)
  refine W_seq ?_
  ((refine W_regV ?_);intro K hK;(refine sVi ?_))
  (refine hK _ ?_;clear hK K)
  (refine W_cf rfl ?_)
  refine W_skip ?_
  simp only [thenW]
  refine W_seq ?_
  ((refine W_seqV ?_);intro K hK;(refine sViX hnb ?_))
  (refine hK _ ?_;clear hK K)
  (repeat' (first | (exfalso;simp at h;done) | (refine W_seqV fun K hK=>?_;(try (refine sVi ?_));refine hK _ ?_;clear hK K) | (refine W_ret ?_;(refine qG ?_;try exact True.intro)) | (refine W_cond rfl (fun h=>?_) (fun h=>?_) <;> (try simp only [cond_true,cond_false,ne_eq,cB] at h))))
 rw [if_pos hn]
 subst hn
 have hnb:((ds.length:Int) != (ds.length:Int))=false:=by simp
 (refine pureW Tryz.func34 rfl (rs:=[Go.ResultVar.tmp 4,Go.ResultVar.tmp 5]) rfl (n:=69) rfl ?_;simp only [List.length_cons,List.length_nil,List.replicate,List.cons_append,List.nil_append])
 (refine aVi ?_)
 ((refine W_seq (W_seqV ?_));intro K hK;(refine sVi ?_))
 (refine ⟨by kernel_rfl,_,.pure rfl (a1),?_⟩;(try (refine sVi ?_)))
 (refine hK _ ?_;clear hK K)
 refine W_seq ?_
 ((refine W_regV ?_);intro K hK;(refine sVi ?_))
 (refine hK _ ?_;clear hK K)
 (refine W_cf rfl ?_)
 refine W_skip ?_
 simp only [thenW]
 refine W_seq ?_
 ((refine W_seqV ?_);intro K hK;(refine sViX hnb ?_))
 (refine hK _ ?_;clear hK K)
 (refine W_cf rfl ?_)
 refine W_skip ?_
 simp only [thenW]
 ((refine W_seqR ?_);intro K hK;(refine sVi ?_))
 (repeat refine aI ?_);refine hK _ ?_;clear hK K
 have hst:∀ i:Nat,(List.range (i+1)).map (extR [] ds)=(List.range i).map (extR [] ds)++[extR [] ds i]:=fun i=>by rw [List.range_succ,List.map_append];rfl
 have hz:(List.range 0).map (extR [] ds)=[]:=rfl
 have hln:∀ i:Nat,((List.range i).map (extR [] ds)).length=i:=fun i=>by simp
 have hF:∀ i:Nat,extR [] ds i=(ds.getD i default).v:=fun i=>rfl
 have hX0:(List.range ds.length).map (extR [] ds)=extL (M.take 0) ds:=rfl
 have hXs:=fun k hk h0 h1=>ext_step hgt.nodup (ds:=ds) (k:=k) hk h0 h1
 have hXa:extL (M.take t.length) ds=extL M ds:=by rw [← hml,List.take_length]
 have hXl:∀ k,(extL (M.take k) ds).length=ds.length:=fun k=>extL_len _ _
 have hrg:∀ k,k<t.length→0≤(M.getD k default).1∧(M.getD k default).1<(ds.length:Int):=fun k hk=>hgt.range _ (List.mem_map.2 ⟨_,getD_mem (by omega),rfl⟩)
 rw [← hXa]
 clear hXa hgt
 generalize extR [] ds=F at *
 generalize hE:(fun i:Nat=>(List.range i).map F)=E at *
 have hE':∀ i:Nat,(List.range i).map F=E i:=fun i=>congrFun hE i
 simp only [hE'] at *
 clear hE hE'
 generalize hX:(fun k:Nat=>extL (M.take k) ds)=X at *
 have hX':∀ k:Nat,extL (M.take k) ds=X k:=fun k=>congrFun hX k
 simp only [hX'] at *
 clear hX hX'
 have hfill:∀ i z,i<ds.length→(tab cellsX (E i)++List.replicate (ds.length-i) z).set i (cellsX (F i))=tab cellsX (E (i+1))++List.replicate (ds.length-(i+1)) z∧(tab cellsX (E i)++List.replicate (ds.length-i) z).getD i []=z:=fun i z hi=>by
  have h1:(tab cellsX (E i)).length=i:=by rw [tab_length,hln]
  obtain ⟨k,hk⟩:∃ k,ds.length-i=k+1:=⟨ds.length-i-1,by omega⟩
  have hk2:ds.length-(i+1)=k:=by omega
  have h2:=set_fill (tab cellsX (E i)) z (cellsX (F i)) k
  rw [h1] at h2
  rw [hk,hk2,h2,hst,← tab_snoc]
  refine ⟨rfl,?_⟩
  rw [List.getD_eq_getElem?_getD,List.getElem?_append_right (by omega),h1,Nat.sub_self,List.replicate_succ]
  rfl
 have hlen2:∀ i z,i≤ds.length→(tab cellsX (E i)++List.replicate (ds.length-i) z).length=ds.length:=fun i z hi=>by rw [List.length_append,tab_length,hln,List.length_replicate];omega
 refine W_seq ?_
 refine W_seq ?_
 ((refine W_regV ?_);intro K hK;(refine sVi ?_))
 (refine hK _ ?_;clear hK K)
 generalize hzz:[AV.bool false,AV.nils,AV.nils,AV.bool false,AV.nils,AV.nils]=zz at *
 have hzl:zz.length=6:=by rw [← hzz];rfl
 have hzd:List.drop 6 zz=[]:=by rw [← hzz];rfl
 refine W_block (W_loop (fun s:{i:Nat // i≤ds.length} =>
   ((fun (a_:AV) (d_:Ob)=>(⟨(a_::(.sl (tab rowD ds))::(.ptr 2 0 0)::a_::a_::a_::a_::(.sref 22 0 ds.length)::(.int .i64 s.1)::a_::a_::a_::a_::a_::a_::a_::a_::a_::a_::a_::a_::a_::a_::a_::a_::a_::a_::a_::a_::a_::a_::a_::a_::a_::a_::a_::a_::a_::a_::a_::a_::a_::a_::a_::a_::a_::a_::a_::a_::a_::a_::a_::a_::a_::a_::a_::a_::a_::a_::a_::a_::a_::a_::a_::a_::a_::a_::a_::a_::[]),(d_::d_::(.arr 24 2 false [[.int .i64 (ds.length:Int),.sl (tab rowT t)]])::d_::d_::d_::d_::d_::d_::d_::d_::d_::d_::d_::d_::d_::d_::d_::d_::d_::d_::d_::(.arr 58 6 true (tab cellsX (E s.1)++List.replicate (ds.length-s.1) zz))::d_::d_::d_::d_::d_::d_::d_::d_::d_::d_::d_::d_::d_::d_::d_::d_::d_::d_::d_::d_::d_::d_::d_::d_::d_::d_::d_::d_::d_::d_::d_::d_::d_::d_::d_::d_::d_::d_::d_::d_::d_::d_::d_::d_::d_::d_::[])⟩:St)) .any .dead)) (fun s=>ds.length-s.1)
   ⟨0,by omega⟩ (Le_drop (by simp [leE]) (by simp [leH,hz,tab]) rfl rfl) fun s=>?_)
 obtain ⟨i,hi⟩:=s
 dsimp only
 by_cases hlt:i<ds.length
 ·obtain ⟨hf1,hf2⟩:=hfill i zz hlt
  have hf3:=hlen2 i zz hi
  obtain ⟨hc1,hc2⟩:=hna i hlt
  have hYi:(tab rowD ds).getD i []=rowD (ds.getD i default):=tab_getD hlt
  have hFi:=hF i
  generalize tab cellsX (E i)++List.replicate (ds.length-i) zz=R at *
  generalize hR':tab cellsX (E (i+1))++List.replicate (ds.length-(i+1)) zz=R' at *
  generalize ds.getD i default=y at *
  simp only [DD.v] at hFi
  simp only [rowD,DD.cells] at hYi
  generalize y.a.v=x1 at *
  generalize y.b.v=x2 at *
  simp only [cQ,RR.av] at hc1 hc2
  refine W_seq ?_
  ((refine W_seqV ?_);intro K hK;(refine sViX hlt ?_))
  (refine hK _ ?_;clear hK K)
  (refine W_ct rfl ?_)
  refine W_skip ?_
  simp only [thenW]
  refine W_seq ?_
  refine W_block ?_
  ((refine W_regS mixed 15 [] (by kernel_rfl) ?_);intro K hK;(refine sViX (And.intro hlt (And.intro hYi (And.intro hf3 (And.intro hf2 (And.intro hzl hzd))))) ?_))
  (refine ⟨by kernel_rfl,_,.pure rfl (hc1),?_⟩;(try (refine sVi ?_)))
  (refine ⟨by kernel_rfl,_,.pure rfl (hc2),?_⟩;(try (refine sVi ?_));(repeat refine aI ?_))
  (refine sViX (And.intro hlt (And.intro hf3 (And.intro hf2 (And.intro hzl hzd)))) ?_;try exact True.intro)
  (refine hK _ ?_;clear hK K)
  simp only [blockW,thenW]
  ((refine W_regV ?_);intro K hK;(refine sVi ?_))
  (refine hK _ ?_;clear hK K)
  simp only [blockW,thenW]
  refine ⟨⟨i+1,by omega⟩,Le_drop (by simp [leE]) (by simp [leH,hR',← hf1,hFi,cellsX,DD.cells,dq,qr]) rfl rfl,?_⟩
  dsimp only
  omega
 ·obtain rfl:i=ds.length:=by omega
  rw [Nat.sub_self,List.replicate_zero,List.append_nil]
  rw [hX0]
  refine W_seq ?_
  ((refine W_seqV ?_);intro K hK;(refine sVi ?_))
  (refine hK _ ?_;clear hK K)
  (refine W_cf rfl ?_)
  refine W_exit ?_
  simp only [thenW,blockW,if_true]
  refine W_seq ?_
  ((refine W_seqV ?_);intro K hK;(refine sVi ?_))
  (refine hK _ ?_;clear hK K)
  refine W_block (W_loop (fun s:{k:Nat // k≤t.length} =>
   ((fun (a_:AV) (d_:Ob)=>(⟨(a_::(.sl (tab rowD ds))::(.ptr 2 0 0)::a_::a_::a_::a_::(.sref 22 0 ds.length)::a_::(.int .i64 s.1)::a_::a_::a_::a_::a_::a_::a_::a_::a_::a_::a_::a_::a_::a_::a_::a_::a_::a_::a_::a_::a_::a_::a_::a_::a_::a_::a_::a_::a_::a_::a_::a_::a_::a_::a_::a_::a_::a_::a_::a_::a_::a_::a_::a_::a_::a_::a_::a_::a_::a_::a_::a_::a_::a_::a_::a_::a_::a_::a_::[]),(d_::d_::(.arr 24 2 false [[.int .i64 (ds.length:Int),.sl (tab rowT t)]])::d_::d_::d_::d_::d_::d_::d_::d_::d_::d_::d_::d_::d_::d_::d_::d_::d_::d_::d_::(.arr 58 6 true (tab cellsX (X s.1)))::d_::d_::d_::d_::d_::d_::d_::d_::d_::d_::d_::d_::d_::d_::d_::d_::d_::d_::d_::d_::d_::d_::d_::d_::d_::d_::d_::d_::d_::d_::d_::d_::d_::d_::d_::d_::d_::d_::d_::d_::d_::d_::d_::d_::d_::d_::[])⟩:St)) .any .dead)) (fun s=>t.length-s.1)
   ⟨0,by omega⟩ (Le_drop (by simp [leE]) (by simp [leH]) rfl rfl) fun s=>?_)
  obtain ⟨k,hk⟩:=s
  dsimp only
  by_cases hlt:k<t.length
  ·obtain ⟨b,f,hti,hMk,hc⟩:=hrow k hlt
   obtain ⟨hb0,hb1⟩:=hrg k hlt
   have hxs:=hXs k (by omega) hb0 hb1
   have hXk:=hXl k
   have hlb:(M.getD k default).1.toNat<ds.length:=by omega
   have hcb:tab cellsX (X (k+1))=(tab cellsX (X k)).set b.toNat (cellsX (evd ds (M.getD k default).2)):=by
    rw [hxs,hMk]
    simp [tab,List.map_set]
   have hXb:(tab cellsX (X k)).getD b.toNat []=cellsX ((X k).getD b.toNat default):=tab_getD (by rw [hXk];rw [hMk] at hlb;exact hlb)
   have hRl:(tab cellsX (X k)).length=ds.length:=by rw [tab_length,hXk]
   rw [hMk] at hb0 hb1 hcb
   dsimp only at hb0 hb1 hcb
   generalize evd ds (normF (vals f))=x at *
   generalize (X k).getD b.toNat default=yy at *
   generalize tab cellsX (X k)=R at *
   simp only [cellsX,dq,qr,DD.cells] at hXb
   simp only [cD] at hc
   refine W_seq ?_
   ((refine W_seqV ?_);intro K hK;(refine sViX hlt ?_))
   (refine hK _ ?_;clear hK K)
   (refine W_ct rfl ?_)
   refine W_skip ?_
   simp only [thenW]
   refine W_seq ?_
   refine W_block ?_
   ((refine W_regS mixed 15 [] (by kernel_rfl) ?_);intro K hK;(refine sViX (And.intro hlt (And.intro hti (And.intro hb0 (And.intro hb1 (And.intro hRl hXb))))) ?_))
   (refine ⟨by kernel_rfl,_,.pure rfl (hc),?_⟩;(try (refine sVi ?_));(repeat refine aI ?_))
   (refine sViX (And.intro hb0 (And.intro hb1 (And.intro hRl hXb))) ?_;try exact True.intro)
   (refine hK _ ?_;clear hK K)
   simp only [blockW,thenW]
   ((refine W_regV ?_);intro K hK;(refine sVi ?_))
   (refine hK _ ?_;clear hK K)
   simp only [blockW,thenW]
   refine ⟨⟨k+1,by omega⟩,Le_drop (by simp [leE]) (by simp [leH,hcb,cellsX,DD.cells,dq,qr]) rfl rfl,?_⟩
   dsimp only
   omega
  ·obtain rfl:k=t.length:=by omega
   have hXk:=hXl t.length
   generalize X t.length=oo at *
   refine W_seq ?_
   ((refine W_seqV ?_);intro K hK;(refine sVi ?_))
   (refine hK _ ?_;clear hK K)
   (refine W_cf rfl ?_)
   refine W_exit ?_
   simp only [thenW,blockW,if_true]
   rw [← hXk]
   (refine W.le ?_ (Le_freeze 22 (rows:=tab cellsX oo) rfl (by simp) (.inl rfl));simp only [St.freeze,List.map_cons,List.map_nil,List.set,if_true,if_false,Nat.reduceEqDiff,reduceCtorEq,List.drop_zero,u32s_take,u32s_drop,froz_any,froz_und,froz_int,froz_bool,froz_str,froz_nils,froz_sl,froz_ia,froz_nilp,froz_nilif,froz_nilfn,froz_nilmp,froz_gl,froz_sref,froz_ptr,froz_agg,froz_tup,froz_fn,froz_ifc,frozs_nil,frozs_cons,froz_dead,froz_arr,froz_mp,froz_it,froz_md,froz_map,froz_iter])
   (repeat' (first | (refine W_seqV fun K hK=>?_;(try (refine sVi ?_));refine hK _ ?_;clear hK K) | (refine W_ret ?_;(refine qG ?_;try exact True.intro))))
end Go.Proofs.YtjmpajgjaefcjaaGreat.Vm
namespace Go.Proofs.YtjmpajgjaefcjaaGreat.Vm
open Go Go.RowKit
end Go.Proofs.YtjmpajgjaefcjaaGreat.Vm
namespace Go.Proofs.YtjmpajgjaefcjaaGreat.Vm
open Go Go.RowKit
theorem ev2_stepR (x:Int→Rat) (f out:List (Int × Rat)) (r:Int × List (Int × Rat)) (h:x r.1=ev2 x r.2):ev2 x (stepR f out r)=ev2 x out:=by
 unfold stepR
 rw [ev2_norm,ev2_append,ev2_sub,ev2_norm,ev2_scale,← h]
 simp only [ev2]
 grind
theorem ev2_fold (x:Int→Rat) (f:List (Int × Rat)):∀ (M:TM) (out:List (Int × Rat)),(∀ r∈M,x r.1=ev2 x r.2)→ev2 x (M.foldl (stepR f) out)=ev2 x out
 | [],_,_=>rfl
 | r::M,out,h=>by
  rw [List.foldl_cons,ev2_fold x f M _ fun q hq=>h q (List.mem_cons_of_mem _ hq),ev2_stepR x f out r (h r List.mem_cons_self)]
theorem ev2_expr (x:Int→Rat) {n:Int} {M:TM} (hg:GT n M) (hx:∀ r∈M,x r.1=ev2 x r.2) (f:List (Int × Rat)):ev2 x (exprT M f)=ev2 x f:=by
 have h:M.foldl (stepR f) (normF f)=exprT M f:=(exprR_ok hg.nodup _).ext (exprP_ok hg _)
 rw [← h,ev2_fold x f M _ hx,ev2_norm]
theorem ev2_same {x y:Int→Rat}:∀ {f:List (Int × Rat)},(∀ p∈f,x p.1=y p.1)→ev2 x f=ev2 y f
 | [],_=>rfl
 | p::f,h=>by
  simp only [ev2]
  rw [h p List.mem_cons_self,ev2_same fun q hq=>h q (List.mem_cons_of_mem _ hq)]
theorem mul_den (q:Rat):q*(q.den:Rat)=(q.num:Rat):=by
 have h0:(q.den:Rat)≠0:=fun h=>by
  rw [show (0:Rat)=((0:Nat):Rat) from rfl,Rat.natCast_inj] at h
  exact q.den_nz h
 have h:q=(q.num:Rat) / (q.den:Rat):=by
  have:=Rat.mkRat_self q
  rw [Rat.mkRat_eq_div] at this
  simpa using this.symm
 calc q*(q.den:Rat)=(q.num:Rat) / (q.den:Rat)*(q.den:Rat):=by rw [← h]
  _=_:=Rat.div_mul_cancel h0
def Ht (D m:Nat) (q:Rat):Prop:=∃ k:Int,q*(D:Rat)=(k:Rat)∧k.natAbs≤m
theorem Ht.zero (D m:Nat):Ht D m 0:=⟨0,by simp,by simp⟩
theorem Ht.mono {D m m':Nat} {q:Rat} (h:Ht D m q) (hm:m≤m'):Ht D m' q:=by
 obtain ⟨k,h1,h2⟩:=h
 exact ⟨k,h1,by omega⟩
theorem Ht.add {D m m':Nat} {q r:Rat} (h:Ht D m q) (h':Ht D m' r):Ht D (m+m') (q+r):=by
 obtain ⟨k,h1,h2⟩:=h
 obtain ⟨l,h3,h4⟩:=h'
 exact ⟨k+l,by rw [Rat.add_mul,h1,h3];simp,by omega⟩
theorem Ht.neg {D m:Nat} {q:Rat} (h:Ht D m q):Ht D m (-q):=by
 obtain ⟨k,h1,h2⟩:=h
 exact ⟨-k,by rw [Rat.neg_mul,h1];simp,by omega⟩
theorem Ht.sub {D m m':Nat} {q r:Rat} (h:Ht D m q) (h':Ht D m' r):Ht D (m+m') (q-r):=by
 rw [Rat.sub_eq_add_neg]
 exact h.add h'.neg
theorem Ht.mul {D E m m':Nat} {q r:Rat} (h:Ht D m q) (h':Ht E m' r):Ht (D*E) (m*m') (q*r):=by
 obtain ⟨k,h1,h2⟩:=h
 obtain ⟨l,h3,h4⟩:=h'
 refine ⟨k*l,?_,by rw [Int.natAbs_mul];exact Nat.mul_le_mul h2 h4⟩
 have:q*r*((D*E:Nat):Rat)=(q*(D:Rat))*(r*(E:Rat)):=by
  rw [Rat.natCast_mul];grind
 rw [this,h1,h3,Rat.intCast_mul]
theorem Ht.wide {D m:Nat} {q:Rat} (h:Ht D m q) (E:Nat):Ht (D*E) (m*E) q:=by
 obtain ⟨k,h1,h2⟩:=h
 refine ⟨k*E,?_,by rw [Int.natAbs_mul];exact Nat.mul_le_mul h2 (by simp)⟩
 rw [Rat.natCast_mul,← Rat.mul_assoc,h1,Rat.intCast_mul]
 rfl
theorem Ht.wide' {D m:Nat} {q:Rat} (h:Ht D m q) (E:Nat):Ht (E*D) (E*m) q:=by
 rw [Nat.mul_comm E D,Nat.mul_comm E m]
 exact h.wide E
theorem Ht.H {D m:Nat} {q:Rat} (h:Ht D m q) (hD:0<D):Vm.H q≤m+D:=by
 obtain ⟨k,h1,h2⟩:=h
 have h0:(D:Rat)≠0:=fun h=>by
  rw [show (0:Rat)=((0:Nat):Rat) from rfl,Rat.natCast_inj] at h
  omega
 have:q=mkRat k D:=by
  rw [Rat.mkRat_eq_div,← h1]
  have:=Rat.mul_div_cancel (a:=q) h0
  simpa using this.symm
 rw [this]
 exact Nat.le_trans (H_mkRat _ (by omega)) (by omega)
theorem Ht.nb {D m k:Nat} {q:Rat} (h:Ht D m q) (hD:0<D) (h1:D<2^k) (h2:m<2^k):Vm.nb q≤k+1:=by
 refine nb_le (Nat.lt_of_le_of_lt (h.H hD) ?_)
 rw [Nat.pow_succ]
 omega
theorem Ht.self (q:Rat):Ht q.den (Vm.H q) q:=⟨q.num,mul_den q,by unfold Vm.H;omega⟩
def dnf:List (Int × Rat)→Nat
 | []=>1
 | p::f=>p.2.den*dnf f
def htf:List (Int × Rat)→Nat
 | []=>1
 | p::f=>Vm.H p.2*htf f
theorem dnf_pos:∀ f,0<dnf f
 | []=>by simp [dnf]
 | p::f=>Nat.mul_pos p.2.den_pos (dnf_pos f)
theorem dnf_le:∀ f,dnf f≤htf f
 | []=>by simp [dnf,htf]
 | p::f=>Nat.mul_le_mul (by unfold Vm.H;omega) (dnf_le f)
theorem htf_lt:∀ f,htf f<2^(nbs f+1)
 | []=>by simp [htf,nbs]
 | p::f=>by
  have h1:=H_lt p.2
  have h2:=htf_lt f
  simp only [htf,nbs]
  rw [Nat.add_assoc,Nat.pow_add]
  exact Nat.mul_lt_mul_of_lt_of_le h1 (Nat.le_of_lt h2) (Nat.pow_pos (by omega))
theorem Ht.ev {x:Int→Rat} {E m:Nat}:∀ (f:List (Int × Rat)),(∀ p∈f,Ht E m (x p.1))→Ht (dnf f*E) (htf f*m) (ev2 x f)
 | [],_=>Ht.zero _ _
 | p::f,h=>by
  have ih:=Ht.ev f fun q hq=>h q (List.mem_cons_of_mem _ hq)
  obtain ⟨k,h1,h2⟩:=h p List.mem_cons_self
  obtain ⟨l,h3,h4⟩:=ih
  have h5:p.2*(p.2.den:Rat)=(p.2.num:Rat):=mul_den _
  refine ⟨p.2.num*(dnf f:Int)*k+p.2.den*l,?_,?_⟩
  ·simp only [ev2,dnf]
   rw [Rat.natCast_mul] at h3
   rw [Rat.natCast_mul,Rat.natCast_mul,Rat.intCast_add,Rat.intCast_mul,Rat.intCast_mul,Rat.intCast_mul,← h1,← h3,← h5]
   simp only [Rat.intCast_natCast]
   grind
  ·refine Nat.le_trans (natAbs_add_le _ _) ?_
   rw [Int.natAbs_mul,Int.natAbs_mul,Int.natAbs_mul,Int.natAbs_natCast,Int.natAbs_natCast]
   simp only [htf]
   have h6:p.2.num.natAbs*dnf f*k.natAbs≤p.2.num.natAbs*htf f*m:=Nat.mul_le_mul (Nat.mul_le_mul_left _ (dnf_le f)) h2
   have h7:p.2.den*l.natAbs≤p.2.den*(htf f*m):=Nat.mul_le_mul_left _ h4
   have h8:Vm.H p.2*htf f*m=p.2.num.natAbs*htf f*m+p.2.den*(htf f*m):=by
    unfold Vm.H
    rw [Nat.add_mul,Nat.add_mul,Nat.mul_assoc p.2.den]
   omega
theorem Ht.evn {x:Int→Rat} {D E m n:Nat}:∀ (f:List (Int × Rat)),(∀ p∈f,Ht D n p.2∧Ht E m (x p.1))→Ht (D*E) (f.length*(n*m)) (ev2 x f)
 | [],_=>Ht.zero _ _
 | p::f,h=>by
  have ih:=Ht.evn f fun q hq=>h q (List.mem_cons_of_mem _ hq)
  have h1:=h p List.mem_cons_self
  simp only [ev2,List.length_cons]
  have h2:=(h1.1.mul h1.2).add ih
  exact h2.mono (by rw [Nat.add_mul];omega)
def dnM:TM→Nat
 | []=>1
 | r::M=>dnf r.2*dnM M
def htM:TM→Nat
 | []=>1
 | r::M=>htf r.2*htM M
theorem dnM_pos:∀ M,0<dnM M
 | []=>by simp [dnM]
 | r::M=>Nat.mul_pos (dnf_pos _) (dnM_pos M)
theorem dnM_le:∀ M,dnM M≤htM M
 | []=>by simp [dnM,htM]
 | r::M=>Nat.mul_le_mul (dnf_le _) (dnM_le M)
theorem htM_lt:∀ M,htM M<2^(tb M+1)
 | []=>by simp [htM,tb]
 | r::M=>by
  have h1:=htf_lt r.2
  have h2:=htM_lt M
  have h3:tb (r::M)=nbs r.2+1+tb M:=by simp only [tb];try omega
  simp only [htM]
  rw [h3,Nat.add_assoc (nbs r.2+1),Nat.pow_add]
  exact Nat.mul_lt_mul_of_lt_of_le h1 (Nat.le_of_lt h2) (Nat.pow_pos (by omega))
theorem Ht.ofM {q:Rat} {E m:Nat} {r:Int × List (Int × Rat)}:∀ {M:TM},r∈M→Ht (dnf r.2*E) (htf r.2*m) q→Ht (dnM M*E) (htM M*m) q
 | [],h,_=>by cases h
 | s::M,h,hq=>by
  simp only [dnM,htM]
  rcases List.mem_cons.1 h with rfl | h
  ·have h1:=hq.wide (dnM M)
   rw [Nat.mul_right_comm (dnf r.2) E,Nat.mul_right_comm (htf r.2) m] at h1
   exact h1.mono (Nat.mul_le_mul_right _ (Nat.mul_le_mul_left _ (dnM_le M)))
  ·have h1:=(Ht.ofM h hq).wide' (dnf s.2)
   rw [← Nat.mul_assoc,← Nat.mul_assoc] at h1
   exact h1.mono (Nat.mul_le_mul_right _ (Nat.mul_le_mul_right _ (dnf_le _)))
theorem coef_ev2 (v:Int):∀ f:List (Int × Rat),coef f v=ev2 (fun w=>if w=v then 1 else 0) f
 | []=>rfl
 | p::f=>by
  rw [coef,ev2,coef_ev2 v f]
  congr 1
  split <;> simp [Rat.mul_one,Rat.mul_zero]
theorem Ht.one (m:Nat) (h:1≤m):Ht 1 m 1:=⟨1,by simp,by simpa using h⟩
theorem Ht.coef (f:List (Int × Rat)) (v:Int):Ht (dnf f) (htf f) (Vm.coef f v):=by
 rw [coef_ev2]
 have:=Ht.ev (x:=fun w=>if w=v then 1 else 0) (E:=1) (m:=1) f fun p _=>by
  split
  ·exact Ht.one 1 (Nat.le_refl _)
  ·exact Ht.zero _ _
 simpa using this
def putX (M:TM) (x b:Int):Rat:=match lookM M b with | some g=>Vm.coef g x | none=>if b=x then 1 else 0
theorem ev2_add (x y:Int→Rat):∀ f:List (Int × Rat),ev2 (fun v=>x v+y v) f=ev2 x f+ev2 y f
 | []=>by simp [ev2,Rat.add_zero]
 | p::f=>by simp only [ev2];rw [ev2_add x y f];grind
theorem ev2_zero:∀ (x:Int→Rat) (f:List (Int × Rat)),(∀ p∈f,x p.1=0)→ev2 x f=0
 | x,[],_=>rfl
 | x,p::f,h=>by simp only [ev2];rw [ev2_zero x f fun q hq=>h q (List.mem_cons_of_mem _ hq),h p List.mem_cons_self];grind
theorem ev2_mul (x:Int→Rat) (c:Rat):∀ f:List (Int × Rat),ev2 (fun v=>x v*c) f=ev2 x f*c
 | []=>by simp [ev2]
 | p::f=>by simp only [ev2];rw [ev2_mul x c f];grind
theorem sumM_ev (f:List (Int × Rat)) (x:Int):∀ M:TM,(keys M).Nodup→sumM (Vm.coef f) x M=ev2 (fun b=>match lookM M b with | some g=>Vm.coef g x | none=>0) f
 | [],_=>by
  rw [ev2_zero]
  ·rfl
  ·intro p _;simp [lookM]
 | r::M,hn=>by
  simp only [keys,List.map_cons,List.nodup_cons] at hn
  rw [sumM,sumM_ev f x M hn.2,coef_ev2,← ev2_mul,← ev2_add]
  refine ev2_same fun p _=>?_
  have hl:lookM (r::M) p.1=if r.1=p.1 then some r.2 else lookM M p.1:=by
   unfold lookM
   rw [List.find?_cons]
   by_cases h:r.1=p.1
   ·rw [if_pos h,h];simp
   ·have h':(r.1 == p.1)=false:=by simpa using h
    rw [if_neg h,h']
  rw [hl]
  by_cases h:r.1=p.1
  ·rw [if_pos h,if_pos h.symm]
   have:lookM M p.1=none:=look_none (by rw [← h];exact hn.1)
   rw [this]
   dsimp only
   grind
  ·rw [if_neg h,if_neg (Ne.symm h)]
   grind
theorem coef_exprT {n:Int} {M:TM} (hg:GT n M) (f:List (Int × Rat)) (x:Int):Vm.coef (exprT M f) x=ev2 (putX M x) f:=by
 rw [show Vm.coef (exprT M f) x=_ from (exprP_ok hg f).co x,sumM_ev f x M hg.nodup]
 have h1:(if x∈keys M then 0 else Vm.coef f x)=ev2 (fun b=>if x∈keys M then 0 else if b=x then 1 else 0) f:=by
  split
  ·rw [ev2_zero];intro p _;rfl
  ·exact coef_ev2 x f
 rw [h1,← ev2_add]
 refine ev2_same fun p _=>?_
 unfold putX
 cases hl:lookM M p.1 with
 | some g =>
  have hk:=look_mem_keys hl
  dsimp only
  by_cases hx:x∈keys M
  ·rw [if_pos hx,Rat.zero_add]
  ·rw [if_neg hx,if_neg (fun he:p.1=x=>hx (he ▸ hk)),Rat.zero_add]
 | none =>
  dsimp only
  have hk:p.1∉keys M:=fun hk=>by
   obtain ⟨r,hr,he⟩:=List.mem_map.1 hk
   rw [← he,look_of hg.nodup (g:=r.2) hr] at hl
   cases hl
  rw [Rat.add_zero]
  by_cases hx:x∈keys M
  ·rw [if_pos hx,if_neg (fun he:p.1=x=>hk (he ▸ hx))]
  ·rw [if_neg hx]
theorem Ht.expr {n:Int} {M:TM} (hg:GT n M) (f:List (Int × Rat)) (x:Int):Ht (dnf f*dnM M) (htf f*htM M) (Vm.coef (exprT M f) x):=by
 rw [coef_exprT hg]
 refine Ht.ev f fun p _=>?_
 unfold putX
 split
 ·rename_i g hl
  have:=Ht.ofM (E:=1) (m:=1) (look_mem hl) (by have:=Ht.coef g x;simpa using this)
  simpa using this
 ·split
  ·have:=(Ht.one 1 (Nat.le_refl _)).wide' (dnM M)
   rw [Nat.mul_one] at this
   exact this.mono (by have:=dnM_le M;omega)
  ·exact Ht.zero _ _
def sig:Nat→(Nat→Rat)→Rat
 | 0,_=>0
 | n+1,f=>sig n f+f n
theorem sig_congr {f g:Nat→Rat}:∀ {n:Nat},(∀ i,i<n→f i=g i)→sig n f=sig n g
 | 0,_=>rfl
 | n+1,h=>by rw [sig,sig,sig_congr fun i hi=>h i (by omega),h n (by omega)]
theorem sig_zero {f:Nat→Rat} {n:Nat} (h:∀ i,i<n→f i=0):sig n f=0:=by
 rw [sig_congr h]
 induction n with
 | zero=>rfl
 | succ n ih=>rw [sig,ih fun i hi=>h i (by omega),Rat.add_zero]
theorem sig_add (f g:Nat→Rat):∀ n,sig n (fun i=>f i+g i)=sig n f+sig n g
 | 0=>by simp [sig,Rat.add_zero]
 | n+1=>by rw [sig,sig,sig,sig_add f g n];grind
theorem sig_mul (c:Rat) (f:Nat→Rat):∀ n,sig n (fun i=>c*f i)=c*sig n f
 | 0=>by simp [sig,Rat.mul_zero]
 | n+1=>by rw [sig,sig,sig_mul c f n];grind
def dl (i j:Nat):Rat:=if i=j then 1 else 0
theorem sig_dl (f:Nat→Rat) (k:Nat):∀ n,sig n (fun i=>f i*dl i k)=if k<n then f k else 0
 | 0=>rfl
 | n+1=>by
  rw [sig,sig_dl f k n]
  unfold dl
  by_cases h:n=k
  ·subst h;simp [Rat.zero_add,Rat.mul_one]
  ·rw [if_neg h,Rat.mul_zero,Rat.add_zero]
   by_cases h2:k<n
   ·rw [if_pos h2,if_pos (by omega)]
   ·rw [if_neg h2,if_neg (by omega)]
def skip (k j:Nat):Nat:=if j<k then j else j+1
section
variable {q p:Nat} {A B:Nat→Nat→Rat}
end
theorem sumM_sig (c:Int→Rat) (x:Int) (M:TM):sumM c x M=sig M.length fun i=>c (M.getD i default).1*coef (M.getD i default).2 x:=by
 have key:∀ i,i≤M.length→sumM c x (M.take i)=sig i fun i=>c (M.getD i default).1*coef (M.getD i default).2 x:=by
  intro i
  induction i with
  | zero=>intro _;rfl
  | succ i ih =>
   intro hi
   rw [take_snoc (show i<M.length by omega),sig,← ih (by omega)]
   have ha:∀ (M N:TM),sumM c x (M++N)=sumM c x M+sumM c x N:=by
    intro M N
    induction M with
    | nil=>simp [sumM,Rat.zero_add]
    | cons r M ih=>simp only [List.cons_append,sumM,ih,Rat.add_assoc]
   rw [ha]
   simp [sumM,Rat.add_zero]
 have:=key M.length (Nat.le_refl _)
 rwa [List.take_length] at this
def zc (r:Int × List (Int × Rat)) (x:Int):Rat:=coef r.2 x-if x=r.1 then 1 else 0
def follB (M N:TM):Bool:=N.all fun r=>(exprT M (wholeF r.1 r.2)).isEmpty
theorem coef_wholeZ (b:Int) (f:List (Int × Rat)) (x:Int):coef (wholeF b f) x=zc (b,f) x:=by
 unfold wholeF zc
 rw [coef_sub]
 simp only [coef,Rat.add_zero]
 by_cases h:b=x
 ·rw [if_pos h,if_pos h.symm]
 ·rw [if_neg h,if_neg (Ne.symm h)]
theorem empty_iff {n:Int} {M:TM} (hg:GT n M) (f:List (Int × Rat)):(exprT M f).isEmpty=true↔∀ x,coef f x = - sig M.length fun i=>coef f (M.getD i default).1*zc (M.getD i default) x:=by
 have he:=exprP_ok hg f
 have hco:∀ x,coef (exprT M f) x=(coef f x)+sig M.length fun i=>coef f (M.getD i default).1*zc (M.getD i default) x:=fun x=>by
  rw [show coef (exprT M f) x=_ from he.co x,sumM_sig]
  have h1:(sig M.length fun i=>coef f (M.getD i default).1*zc (M.getD i default) x)=(sig M.length fun i=>coef f (M.getD i default).1*coef (M.getD i default).2 x)+sig M.length fun i => - (coef f (M.getD i default).1*if x=(M.getD i default).1 then 1 else 0):=by
   rw [← sig_add]
   exact sig_congr fun i _=>by unfold zc;grind
  rw [h1]
  have h2:(sig M.length fun i => - (coef f (M.getD i default).1*if x=(M.getD i default).1 then 1 else 0))=if x∈keys M then-coef f x else 0:=by
   by_cases hx:x∈keys M
   ·rw [if_pos hx]
    obtain ⟨j,hj1,hj2,hj3,hj4,_⟩:=look_idx hx
    have h3:(sig M.length fun i => - (coef f (M.getD i default).1*if x=(M.getD i default).1 then 1 else 0))=sig M.length fun i=>(- coef f x)*dl i j:=sig_congr fun i hi=>by
     unfold dl
     by_cases hij:i=j
     ·subst hij;rw [if_pos rfl,hj3,if_pos rfl];grind
     ·rw [if_neg hij,if_neg fun h=>hij ?_]
      ·grind
      ·have h4:(keys M).Nodup:=hg.nodup
       have h5:(keys M)[i]?=(keys M)[j]?:=by
        simp only [keys,List.getElem?_map]
        rw [List.getElem?_eq_getElem hi,List.getElem?_eq_getElem hj2]
        simp only [Option.map_some,Option.some.injEq]
        rw [show M[i]=M.getD i default by simp [List.getD_eq_getElem?_getD,hi],show M[j]=M.getD j default by simp [List.getD_eq_getElem?_getD,hj2],hj3]
        exact h.symm
       exact (List.getElem?_inj (by rw [keys_len];exact hi) h4).1 h5
    rw [h3,sig_dl (fun _ => - coef f x),if_pos hj2]
   ·rw [if_neg hx]
    exact sig_zero fun i hi=>by
     rw [if_neg fun h:x=(M.getD i default).1=>hx (h ▸ List.mem_map.2 ⟨_,getD_mem hi,rfl⟩)];grind
  rw [h2]
  split <;> grind
 constructor
 ·intro h x
  have h1:exprT M f=[]:=List.isEmpty_iff.1 h
  have:=hco x
  rw [h1,coef_nil] at this
  grind
 ·intro h
  rw [List.isEmpty_iff]
  refine NF.ext he.nf NF.nil fun x=>?_
  rw [hco x,h x,coef_nil]
  grind
theorem follB_iff {n:Int} {M N:TM} (hg:GT n M):follB M N=true↔∀ j,j<N.length→∀ x,zc (N.getD j default) x = - sig M.length fun i=>zc (N.getD j default) (M.getD i default).1*zc (M.getD i default) x:=by
 unfold follB
 rw [List.all_eq_true]
 constructor
 ·intro h j hj x
  have:=(empty_iff hg _).1 (h _ (getD_mem hj)) x
  simp only [coef_wholeZ] at this
  exact this
 ·intro h r hr
  obtain ⟨j,hj,rfl⟩:=mem_getD hr
  rw [empty_iff hg]
  intro x
  simp only [coef_wholeZ]
  exact h j hj x
theorem zc_basic {n:Int} {N:TM} (hg:GT n N) {j k:Nat} (hj:j<N.length) (hk:k<N.length):zc (N.getD j default) (N.getD k default).1 = - dl j k:=by
 unfold zc dl
 rw [free_coef hg (getD_mem hj) (List.mem_map.2 ⟨_,getD_mem hk,rfl⟩)]
 by_cases h:j=k
 ·subst h;simp;grind
 ·rw [if_neg h,if_neg fun he=>h ?_]
  ·grind
  ·have h5:(keys N)[k]?=(keys N)[j]?:=by
    simp only [keys,List.getElem?_map]
    rw [List.getElem?_eq_getElem hj,List.getElem?_eq_getElem hk]
    simp only [Option.map_some,Option.some.injEq]
    rw [show N[k]=N.getD k default by simp [List.getD_eq_getElem?_getD,hk],show N[j]=N.getD j default by simp [List.getD_eq_getElem?_getD,hj],he]
   exact ((List.getElem?_inj (by rw [keys_len];exact hk) hg.nodup).1 h5).symm
def keptD (M:TM) (ds:List DD):List DD:=(extL M ds).map dq
theorem tab_kept (l:List (Rat × Rat)):tab cellsX l=tab rowD (l.map dq):=by simp [tab,cellsX,rowD]
theorem keptD_len (M:TM) (ds:List DD):(keptD M ds).length=ds.length:=by simp [keptD,extL_len]
def asgP (pr:Rat × Rat→Rat) (ds:List DD):Int→Rat:=asg (ds.map fun d=>pr d.v)
theorem evd_fst (ds:List DD) (f:List (Int × Rat)):(evd ds f).1=ev2 (asgP Prod.fst ds) f:=rfl
theorem evd_snd (ds:List DD) (f:List (Int × Rat)):(evd ds f).2=ev2 (asgP Prod.snd ds) f:=rfl
theorem asgP_in (pr:Rat × Rat→Rat) (ds:List DD) {v:Int} (h0:0≤v) (h1:v<(ds.length:Int)):asgP pr ds v=pr (ds.getD v.toNat default).v:=by
 unfold asgP asg
 rw [if_pos h0]
 have h2:v.toNat<ds.length:=by omega
 simp [List.getD_eq_getElem?_getD,h2]
theorem asgP_out (pr:Rat × Rat→Rat) (ds:List DD) {v:Int} (h:¬ (0≤v∧v<(ds.length:Int))):asgP pr ds v=0:=by
 unfold asgP asg
 split
 ·rw [List.getD_eq_getElem?_getD,List.getElem?_eq_none (by rw [List.length_map];omega)];rfl
 ·rfl
theorem kept_getD (M:TM) (ds:List DD) {i:Nat} (h:i<ds.length):(keptD M ds).getD i default=dq (extR M ds i):=by
 simp [keptD,extL,List.getD_eq_getElem?_getD,h]
theorem kept_free (pr:Rat × Rat→Rat) {M:TM} (ds:List DD) {v:Int} (hv:v∉keys M):asgP pr (keptD M ds) v=asgP pr ds v:=by
 by_cases h:0≤v∧v<(ds.length:Int)
 ·rw [asgP_in pr _ h.1 (by rw [keptD_len];exact h.2),asgP_in pr _ h.1 h.2,kept_getD M ds (by omega),dq_v]
  unfold extR
  rw [show ((v.toNat:Nat):Int)=v by omega,look_none hv]
 ·rw [asgP_out pr _ (by rw [keptD_len];exact h),asgP_out pr _ h]
theorem kept_basic (pr:Rat × Rat→Rat) {M:TM} {ds:List DD} (hg:GT (ds.length:Int) M) {r:Int × List (Int × Rat)} (hr:r∈M):asgP pr (keptD M ds) r.1=pr (evd ds r.2):=by
 have hb:=hg.range r.1 (List.mem_map.2 ⟨r,hr,rfl⟩)
 rw [asgP_in pr _ hb.1 (by rw [keptD_len];exact hb.2),kept_getD M ds (by omega),dq_v]
 unfold extR
 rw [show ((r.1.toNat:Nat):Int)=r.1 by omega,look_of hg.nodup (g:=r.2) hr]
theorem kept_ev {M:TM} {ds:List DD} (pr:Rat × Rat→Rat) {f:List (Int × Rat)} (hf:∀ p∈f,p.1∉keys M):ev2 (asgP pr (keptD M ds)) f=ev2 (asgP pr ds) f :=
 ev2_same fun p hp=>kept_free pr ds (hf p hp)
theorem kept_rows1 {M:TM} {ds:List DD} (hg:GT (ds.length:Int) M):∀ r∈M,asgP Prod.fst (keptD M ds) r.1=ev2 (asgP Prod.fst (keptD M ds)) r.2:=fun r hr=>by
 rw [kept_basic _ hg hr,kept_ev _ fun p hp=>(hg.free r hr p hp).2];rfl
theorem kept_rows2 {M:TM} {ds:List DD} (hg:GT (ds.length:Int) M):∀ r∈M,asgP Prod.snd (keptD M ds) r.1=ev2 (asgP Prod.snd (keptD M ds)) r.2:=fun r hr=>by
 rw [kept_basic _ hg hr,kept_ev _ fun p hp=>(hg.free r hr p hp).2];rfl
def lift0 (xs:List Rat):List (Int × Rat):=xs.map fun x=>(0,x)
theorem nbs_lift:∀ xs:List Rat,nbs (lift0 xs)=nbl xs
 | []=>rfl
 | x::xs=>by show nb x+nbs (lift0 xs)=_;rw [nbs_lift xs];rfl
theorem Ht.mem {p:Int × Rat}:∀ {f:List (Int × Rat)},p∈f→Ht (dnf f) (htf f) p.2
 | [],h=>by cases h
 | q::f,h=>by
  simp only [dnf,htf]
  rcases List.mem_cons.1 h with rfl | h
  ·exact ((Ht.self p.2).wide (dnf f)).mono (Nat.mul_le_mul_left _ (dnf_le f))
  ·exact ((Ht.mem h).wide' q.2.den).mono (Nat.mul_le_mul_right _ (by unfold Vm.H;omega))
theorem Ht.asg (xs:List Rat) (v:Int):Ht (dnf (lift0 xs)) (htf (lift0 xs)) (Vm.asg xs v):=by
 unfold Vm.asg
 split
 ·by_cases h:v.toNat<xs.length
  ·exact Ht.mem (p:=(0,xs.getD v.toNat 0)) (List.mem_map.2 ⟨_,by simp [List.getD_eq_getElem?_getD,h],rfl⟩)
  ·rw [List.getD_eq_getElem?_getD,List.getElem?_eq_none (by omega)]
   exact Ht.zero _ _
 ·exact Ht.zero _ _
theorem mul_lt_pow {a b j k:Nat} (h:a<2^j) (h':b<2^k):a*b<2^(j+k):=by
 rw [Nat.pow_add]
 exact Nat.mul_lt_mul_of_lt_of_le h (Nat.le_of_lt h') (Nat.pow_pos (by omega))
theorem dnf_lt (f:List (Int × Rat)):dnf f<2^(nbs f+1):=Nat.lt_of_le_of_lt (dnf_le f) (htf_lt f)
theorem dnM_lt (M:TM):dnM M<2^(tb M+1):=Nat.lt_of_le_of_lt (dnM_le M) (htM_lt M)
theorem pow_up {a j k:Nat} (h:a<2^j) (hk:j≤k):a<2^k:=Nat.lt_of_lt_of_le h (Nat.pow_le_pow_right (by omega) hk)
theorem Ht.kept {M:TM} {ds:List DD} (hg:GT (ds.length:Int) M) (pr:Rat × Rat→Rat) (hp:pr=Prod.fst∨pr=Prod.snd) (v:Int) :
  Ht (dnM M*dnf (lift0 (ds.map fun d=>pr d.v))) (htM M*htf (lift0 (ds.map fun d=>pr d.v))) (asgP pr (keptD M ds) v):=by
 by_cases hv:v∈keys M
 ·obtain ⟨r,hr,rfl⟩:=List.mem_map.1 hv
  rw [kept_basic pr hg hr]
  refine Ht.ofM hr ?_
  have:pr (evd ds r.2)=ev2 (asgP pr ds) r.2:=by rcases hp with rfl | rfl <;> rfl
  rw [this]
  exact Ht.ev r.2 fun p _=>Ht.asg _ _
 ·rw [kept_free pr ds hv]
  exact ((Ht.asg _ v).wide' (dnM M)).mono (Nat.mul_le_mul_right _ (dnM_le M))
theorem DsOk.half {ds:List DD} (h:DsOk ds) (pr:Rat × Rat→Rat) (hp:pr=Prod.fst∨pr=Prod.snd):nbs (lift0 (ds.map fun d=>pr d.v))≤67108864:=by
 rw [nbs_lift]
 rcases hp with rfl | rfl
 ·exact h.sa
 ·exact h.sb
theorem kept_nb {M:TM} {ds:List DD} (hg:GT (ds.length:Int) M) (hd:DsOk ds) (hM:tb M≤68157440) (pr:Rat × Rat→Rat) (hp:pr=Prod.fst∨pr=Prod.snd) (v:Int):nb (asgP pr (keptD M ds) v)≤135266307:=by
 have h1:=hd.half pr hp
 refine Nat.le_trans ((Ht.kept hg pr hp v).nb (k:=tb M+1+(nbs (lift0 (ds.map fun d=>pr d.v))+1)) (Nat.mul_pos (dnM_pos _) (dnf_pos _)) (mul_lt_pow (dnM_lt _) (dnf_lt _)) (mul_lt_pow (htM_lt _) (htf_lt _))) (by omega)
theorem NF.coef_mem {g:List (Int × Rat)} (h:NF g) {p:Int × Rat} (hp:p∈g):coef g p.1=p.2:=by
 induction g with
 | nil=>cases hp
 | cons q g ih =>
  rcases List.mem_cons.1 hp with rfl | hp
  ·exact h.coef_head
  ·have h1:=h.head p hp
   rw [coef,if_neg (by omega),Rat.zero_add,ih h.tail hp]
theorem exprT_range {n:Int} {M:TM} (hg:GT n M) {f:List (Int × Rat)} (hk:knownB n (normF f)=true):∀ p∈exprT M f,(0≤p.1∧p.1<n)∧p.1∉keys M:=fun p hp=>by
 have he:=exprP_ok hg f
 have hn:=he.nf
 have hc:coef (exprT M f) p.1=p.2:=hn.coef_mem hp
 have hz:=hn.nz p hp
 have hco:coef (exprT M f) p.1=_:=he.co p.1
 constructor
 ·refine Classical.byContradiction fun hr=>hz ?_
  rw [← hc,hco,coef_out hk hr,sumM_out hg _ hr]
  split <;> simp [Rat.add_zero]
 ·intro hb
  apply hz
  rw [← hc,hco,if_pos hb,sumM_basic hg _ hb,Rat.add_zero]
theorem exprT_len {n:Int} {M:TM} (hg:GT n M) {f:List (Int × Rat)} (hk:knownB n (normF f)=true):(exprT M f).length≤65536 :=
 nf_len (exprP_ok hg f).nf hg.hi fun p hp=>(exprT_range hg hk p hp).1
theorem sVu {G G':Prop} (h:G') (e:G=G':=by conv=>lhs;simp (disch:=omega) only [rowsOf,cNat,cN,St.ret,St.seth,Eff.app,Eff.wi,sepL,guardOf,St.known,objOf,List.set,sliceW,litW,copyW,lenOf,bnd,mxOk,ofCells,TI.isAgg,cellsOf,storable,AV.one,dead,laid,overlay,reduceCtorEq,Int.reduceLE,Int.reduceLT,Int.reduceSub,Int.reduceAdd,Nat.reduceMul,Int.reduceToNat,Nat.reducePow,Int.reduceNeg,Nat.reduceAdd,Nat.reduceLT,Nat.reduceLeDiff,sA,sB,Nat.reduceEqDiff,cQ,rowQ,rowU,rowT,rowM,tab_length,tab_drop,tab_take,tab_append,tab_nil,rowT_all,rowT_one,rowT_pure,rowU_all,rowU_one,rowU_pure,rowQ_all,rowQ_one,rowQ_pure,rowM_all,rowM_one,rowM_pure,List.take_length,List.length_append,findA_tab,range_snoc,pure_sl,sT]):G:=e.mpr h
theorem sVuX {G G' P:Prop} (p:P) (h:G') (e:P→G=G':=by intro p;conv=>lhs;simp (disch:=omega) only [rowsOf,cNat,cN,St.ret,St.seth,Eff.app,Eff.wi,sepL,guardOf,St.known,objOf,List.set,sliceW,litW,copyW,lenOf,bnd,mxOk,ofCells,TI.isAgg,cellsOf,storable,AV.one,dead,laid,overlay,reduceCtorEq,Int.reduceLE,Int.reduceLT,Int.reduceSub,Int.reduceAdd,Nat.reduceMul,Int.reduceToNat,Nat.reducePow,Int.reduceNeg,Nat.reduceAdd,Nat.reduceLT,Nat.reduceLeDiff,sA,sB,Nat.reduceEqDiff,cQ,rowQ,rowU,rowT,rowM,tab_length,tab_drop,tab_take,tab_append,tab_nil,rowT_all,rowT_one,rowT_pure,rowU_all,rowU_one,rowU_pure,rowQ_all,rowQ_one,rowQ_pure,rowM_all,rowM_one,rowM_pure,List.take_length,List.length_append,findA_tab,range_snoc,pure_sl,sT,p]):G:=(e p).mpr h
theorem aVu {G G':Prop} (h:G') (f:Wr G'→G:=by intro h;(repeat (first|(refine W_seqV fun K hK=>?_;(try (refine sVu ?_;try exact True.intro));(repeat refine aI ?_);refine hK _ ?_;clear hK K)|(refine W_seqR fun K hK=>?_;(try (refine sVu ?_;try exact True.intro));(repeat refine aI ?_);refine hK _ ?_;clear hK K)|(refine W_seqD mixed [] (by kernel_rfl) fun K hK=>?_;(try (refine sVu ?_;try exact True.intro));(repeat refine aI ?_);refine hK _ ?_;clear hK K)));exact h.out):G:=f ⟨h⟩
theorem whole_range {n:Int} {N:TM} (hN:GT n N) {r:Int × List (Int × Rat)} (hr:r∈N):knownB n (normF (wholeF r.1 r.2))=true:=by
 unfold knownB
 rw [List.all_eq_true]
 intro p hp
 rw [inR_iff]
 refine Classical.byContradiction fun hn=>?_
 have h1:=(NF.norm (wholeF r.1 r.2)).nz p hp
 have h2:coef (normF (wholeF r.1 r.2)) p.1=p.2:=(NF.norm _).coef_mem hp
 rw [coef_norm,coef_wholeZ] at h2
 unfold zc at h2
 have h3:coef r.2 p.1=0:=coef_none fun q hq he=>hn (he ▸ (hN.free r hr q hq).1)
 have h4:p.1≠r.1:=fun he=>hn (by rw [he];exact hN.range _ (List.mem_map.2 ⟨_,hr,rfl⟩))
 simp only [h3,if_neg h4] at h2
 exact h1 (by rw [← h2];grind)
structure FollOk (M N:TM):Prop where
 sz:∀ r∈N,Sz r.2 536870912
 ex:∀ r∈N,ExOk M (rf (wholeF r.1 r.2))
theorem foll_row {n:Int} {M N:TM} (hM:GT n M) (hN:GT n N) (hMn:∀ r∈M,NF r.2) (hf:FollOk M N) {c:Nat} {bs:List Nat} (hb:bs.length=M.length) (hn:bs.Nodup) (hlt:∀ x∈bs,x<c) {r:Int × List (Int × Rat)} (hr:r∈N) :
  Pure Tryz.prog 92 [cL r.2,.sl (tab rowQ [(r.1,(1:Rat))])] (·=cL (wholeF r.1 r.2))∧Pure Tryz.prog 67 [.md c bs (tab rowU M),cL (wholeF r.1 r.2)] (·=cL (exprT M (wholeF r.1 r.2))):=by
 constructor
 ·have hsub:=lsub_ok (rf r.2) (rf [(r.1,1)]) (FOk.rf (hf.sz r hr) (by omega)) (unit_fok r.1) (by omega)
  rw [vals_rf,vals_rf,cF_rf,cF_rf] at hsub
  exact hsub
 ·have h:=texpr_ok M (rf (wholeF r.1 r.2)) c bs hM hMn (by rw [vals_rf];exact whole_range hN hr) (hf.ex r hr) hb hn hlt
  rw [vals_rf,cF_rf] at h
  exact h
theorem tfollows_ok {n:Int} {M N:TM} (hM:GT n M) (hN:GT n N) (hMn:∀ r∈M,NF r.2) (hf:FollOk M N) {c c2:Nat} {bs bs2:List Nat} (hb:bs.length=M.length) (hn:bs.Nodup) (hlt:∀ x∈bs,x<c)
  (hb2:bs2.length=N.length) (hn2:bs2.Nodup) (hlt2:∀ x∈bs2,x<c2) :
  Pure Tryz.prog 83 [.md c bs (tab rowU M),.md c2 bs2 (tab rowU N)] (· = .bool (follB M N)):=by
 have hrow:=fun r (hr:r∈N)=>foll_row hM hN hMn hf hb hn hlt hr
 have hlen:=fun r (hr:r∈N)=>(exprT_len hM (whole_range hN hr))
 have hw:=rwhole_ok 1 (by omega) (by omega)
 have h1e:((1:Int):Rat)=1:=rfl
 rw [h1e] at hw
 have hT:(∀ r∈N,(exprT M (wholeF r.1 r.2)).isEmpty=true)→follB M N=true:=fun h=>List.all_eq_true.2 h
 have hF:∀ r∈N,(exprT M (wholeF r.1 r.2)).isEmpty=false→follB M N=false:=fun r hr h=>by
  rw [Bool.eq_false_iff]
  intro h2
  have:=List.all_eq_true.1 h2 r hr
  rw [h] at this
  cases this
 clear hM hN hMn hf
 have ht:∀ b,tab rowQ [(b,(1:Rat))]=[[.int .i64 b,.bool (decide ((1:Rat).num<0)),.sl (u32s (limbs (1:Rat).num.natAbs)),.sl (u32s (limbs (1:Rat).den))]]:=fun b=>rfl
 simp only [ht,cL,cQ] at hrow hw
 generalize (1:Rat)=one at *
 generalize follB M N=fb at *
 (refine pureW Tryz.func83 rfl (rs:=[Go.ResultVar.tmp 4]) rfl (n:=26) rfl ?_;simp only [List.length_cons,List.length_nil,List.replicate,List.cons_append,List.nil_append])
 ((refine W_seqV ?_);intro K hK;(refine sVu ?_))
 (refine hK _ ?_;clear hK K)
 ((refine W_seq (W_seqR ?_));intro K hK;(refine sVu ?_))
 (refine hK _ ?_;clear hK K)
 refine W_block (W_loop (fun t:{t:List Nat // Seen bs2 t∧∀ x∈t,(exprT M (wholeF (atB bs2 N x).1 (atB bs2 N x).2)).isEmpty=true} =>
   ⟨[.md c bs (tab rowU M),.any,.any,.any,.any,.any,.any,.any,.any,.it 9,.any,.any,.any,.any,.any,.any,.any,.any,.any,.any,.any,.any,.any,.any,.any,.any],[.dead,.dead,.dead,.dead,.dead,.dead,.dead,.dead,.dead,.iter (.md c2 bs2 (tab rowU N)) c2 t.1 c2,.dead,.dead,.dead,.dead,.dead,.dead,.dead,.dead,.dead,.dead,.dead,.dead,.dead,.dead,.dead,.dead]⟩) (fun t=>bs2.length-t.1.length)
   ⟨[],Seen.nil bs2,by simp⟩ (Le_of (by simp [leE]) (by simp)) fun t=>?_)
 obtain ⟨sn,hsn,hse⟩:=t
 dsimp only
 ((refine W_seqR ?_);intro K hK;(refine sVu ?_))
 refine ⟨Nat.le_refl _,hlt2,fun hall=>hK _ ?_,fun j x hj hx=>hK _ ?_⟩ <;> clear hK K
 ·have hfb:=hT fun r hr=>by
   have h1:=map_atB hn2 hb2
   rw [← h1] at hr
   obtain ⟨x,hx,rfl⟩:=List.mem_map.1 hr
   exact hse x (hall x hx)
  (refine W_seq (W_cf rfl ?_))
  refine W_exit ?_
  simp only [thenW,blockW,if_true]
  rw [hfb]
  (repeat' (first | (refine W_seqV fun K hK=>?_;(try (refine sVu ?_));refine hK _ ?_;clear hK K) | (refine W_ret ?_;(refine qG ?_;try exact True.intro))))
 ·have hjl:j<N.length:=by have:=births_lt hj;omega
  have hXj:(tab rowU N).getD j []=rowU (N.getD j default):=tab_getD hjl
  have hat:=atB_of hn2 hj (M:=N)
  have hs2:=hsn.snoc hj hx
  have hmu:=hsn.lt hj hx
  obtain ⟨hr1,hr2⟩:=hrow _ (getD_mem hjl)
  have hel:=hlen _ (getD_mem hjl)
  have hFj:=hF _ (getD_mem hjl)
  generalize N.getD j default=p at *
  obtain ⟨b,g⟩:=p
  simp only [rowU] at hXj
  dsimp only at *
  rw [hXj]
  generalize hwh:wholeF b g=wh at *
  (refine W_seq (W_ct rfl ?_))
  refine W_skip ?_
  simp only [thenW]
  refine W_block ?_
  ((refine W_seqR ?_);intro K hK;(refine sVu ?_))
  refine ⟨j,x,by simp,hj,?_⟩
  (refine sVuX hXj ?_;try exact True.intro)
  (refine hK _ ?_;clear hK K)
  generalize hee:exprT M wh=e at *
  ((refine W_seqV ?_);intro K hK;(refine sVu ?_))
  (refine ⟨by kernel_rfl,_,.pure rfl (hw),?_⟩;(try (refine sVu ?_));(repeat refine aI ?_))
  (refine ⟨by kernel_rfl,_,.pure rfl (hr1),?_⟩;(try (refine sVu ?_)))
  (refine hK _ ?_;clear hK K)
  by_cases hz:e.length=0
  ·obtain rfl:e=[]:=List.length_eq_zero_iff.1 hz
   ((refine W_seqV ?_);intro K hK;(refine sVu ?_))
   (refine ⟨by kernel_rfl,_,.pure rfl (hr2),?_⟩;(try (refine sVu ?_)))
   (refine hK _ ?_;clear hK K)
   (refine W_cf rfl ?_)
   refine W_skip ?_
   simp only [blockW,thenW]
   refine ⟨⟨sn++[x],hs2,fun y hy=>?_⟩,Le_drop (by simp [leE]) (by simp [leH]) rfl rfl,?_⟩
   ·rcases List.mem_append.1 hy with hy | hy
    ·exact hse y hy
    ·simp at hy
     subst hy
     rw [hat,hwh,hee]
     rfl
   ·exact hmu
  ·have hne:e.isEmpty=false:=by cases e with
    | nil=>exact absurd rfl hz
    | cons _ _=>rfl
   have hp:0<e.length:=by omega
   rw [hFj hne]
   ((refine W_seqV ?_);intro K hK;(refine sVuX hp ?_))
   (refine ⟨by kernel_rfl,_,.pure rfl (hr2),?_⟩;(try (refine sVu ?_)))
   (refine hK _ ?_;clear hK K)
   rw [decide_eq_true hp]
   (refine W_ct rfl ?_)
   (repeat' (first | (refine W_seqV fun K hK=>?_;(try (refine sVu ?_));refine hK _ ?_;clear hK K) | (refine W_ret ?_;(refine qG ?_;try exact True.intro))))
def sameV (n:Int) (t:TR) (m:Int) (u:TR):AV:=if goodB n (nrmT t)&&goodB m (nrmT u) then if n=m then .tup [.bool (follB (nrmT t) (nrmT u)&&follB (nrmT u) (nrmT t)),.int .i64 0] else .tup [.bool false,.int .i64 1] else .tup [.bool false,.int .i64 70]
theorem tsame_g (n:Int) (t:TR) (m:Int) (u:TR) (hT:TG t) (hU:TG u) (hx:goodB n (nrmT t)=true→goodB m (nrmT u)=true→n=m→FollOk (nrmT t) (nrmT u)∧FollOk (nrmT u) (nrmT t)) :
  Pure Tryz.prog 38 [cT n t,cT m u] (·=sameV n t m u):=by
 have a1:=hT.load n
 have a2:=hU.load m
 have hf:goodB n (nrmT t)=true→goodB m (nrmT u)=true→n=m→Pure Tryz.prog 83 [.md t.length (List.range t.length) (tab rowU (nrmT t)),.md u.length (List.range u.length) (tab rowU (nrmT u))] (· = .bool (follB (nrmT t) (nrmT u)))∧Pure Tryz.prog 83 [.md u.length (List.range u.length) (tab rowU (nrmT u)),.md t.length (List.range t.length) (tab rowU (nrmT t))] (· = .bool (follB (nrmT u) (nrmT t))):=fun h1 h2 h3=>by
  obtain ⟨h4,h5⟩:=hx h1 h2 h3
  subst h3
  exact ⟨tfollows_ok (gt_iff.1 h1) (gt_iff.1 h2) hT.mok.nf h4 (by rw [nrmT_len];exact range_births.1) range_births.2.1 range_births.2.2 (by rw [nrmT_len];exact range_births.1) range_births.2.1 range_births.2.2,
   tfollows_ok (gt_iff.1 h2) (gt_iff.1 h1) hU.mok.nf h5 (by rw [nrmT_len];exact range_births.1) range_births.2.1 range_births.2.2 (by rw [nrmT_len];exact range_births.1) range_births.2.1 range_births.2.2⟩
 unfold loadV at a1 a2
 unfold sameV
 unfold cT at *
 clear hx hT hU
 generalize goodB n (nrmT t)=gb at *
 generalize goodB m (nrmT u)=gc at *
 generalize follB (nrmT t) (nrmT u)=b1 at *
 generalize follB (nrmT u) (nrmT t)=b2 at *
 generalize nrmT t=M at *
 generalize nrmT u=N at *
 cases gb
 ·simp only [Bool.false_eq_true,if_false,Bool.false_and] at a1 ⊢
  cases gc
  all_goals
   simp only [Bool.false_eq_true,if_false,if_true] at a2
   (refine pureW Tryz.func38 rfl (rs:=[Go.ResultVar.tmp 4,Go.ResultVar.tmp 5]) rfl (n:=41) rfl ?_;simp only [List.length_cons,List.length_nil,List.replicate,List.cons_append,List.nil_append])
   (refine aVu ?_)
   ((refine W_seqV ?_);intro K hK;(refine sVu ?_))
   (refine ⟨by kernel_rfl,_,.pure rfl (a1),?_⟩;(try (refine sVu ?_)))
   (refine hK _ ?_;clear hK K)
   ((refine W_seqV ?_);intro K hK;(refine sVu ?_))
   (refine ⟨by kernel_rfl,_,.pure rfl (a2),?_⟩;(try (refine sVu ?_)))
   (refine hK _ ?_;clear hK K)
   (repeat' (first | (exfalso;simp at h;done) | refine W_block ?_ | (refine W_seqV fun K hK=>?_;(try (refine sVu ?_));refine hK _ ?_;clear hK K) | (refine W_ret ?_;(refine qG ?_;try exact True.intro)) | (refine W_cond rfl (fun h=>?_) (fun h=>?_) <;> (try simp only [cond_true,cond_false,ne_eq,cB] at h)) | refine W_seq ?_))
 cases gc
 ·simp only [Bool.false_eq_true,if_false,if_true,Bool.and_false] at a1 a2 ⊢
  (refine pureW Tryz.func38 rfl (rs:=[Go.ResultVar.tmp 4,Go.ResultVar.tmp 5]) rfl (n:=41) rfl ?_;simp only [List.length_cons,List.length_nil,List.replicate,List.cons_append,List.nil_append])
  (refine aVu ?_)
  ((refine W_seqV ?_);intro K hK;(refine sVu ?_))
  (refine ⟨by kernel_rfl,_,.pure rfl (a1),?_⟩;(try (refine sVu ?_)))
  (refine hK _ ?_;clear hK K)
  ((refine W_seqV ?_);intro K hK;(refine sVu ?_))
  (refine ⟨by kernel_rfl,_,.pure rfl (a2),?_⟩;(try (refine sVu ?_)))
  (refine hK _ ?_;clear hK K)
  (repeat' (first | (exfalso;simp at h;done) | refine W_block ?_ | (refine W_seqV fun K hK=>?_;(try (refine sVu ?_));refine hK _ ?_;clear hK K) | (refine W_ret ?_;(refine qG ?_;try exact True.intro)) | (refine W_cond rfl (fun h=>?_) (fun h=>?_) <;> (try simp only [cond_true,cond_false,ne_eq,cB] at h)) | refine W_seq ?_))
 simp only [if_true,Bool.and_self] at a1 a2 ⊢
 by_cases hn:n=m
 rotate_left
 ·rw [if_neg hn]
  have hnb:(n != m)=true:=bne_iff_ne.2 hn
  (refine pureW Tryz.func38 rfl (rs:=[Go.ResultVar.tmp 4,Go.ResultVar.tmp 5]) rfl (n:=41) rfl ?_;simp only [List.length_cons,List.length_nil,List.replicate,List.cons_append,List.nil_append])
  (refine aVu ?_)
  ((refine W_seqV ?_);intro K hK;(refine sVu ?_))
  (refine ⟨by kernel_rfl,_,.pure rfl (a1),?_⟩;(try (refine sVu ?_)))
  (refine hK _ ?_;clear hK K)
  ((refine W_seqV ?_);intro K hK;(refine sVu ?_))
  (refine ⟨by kernel_rfl,_,.pure rfl (a2),?_⟩;(try (refine sVu ?_)))
  (refine hK _ ?_;clear hK K)
  refine W_seq ?_
  refine W_block ?_
  ((refine W_seqV ?_);intro K hK;(refine sVu ?_))
  (refine hK _ ?_;clear hK K)
  (refine W_cf rfl ?_)
  ((refine W_seqV ?_);intro K hK;(refine sVuX hnb ?_))
  (refine hK _ ?_;clear hK K)
  (repeat' (first | (exfalso;simp at h;done) | (refine W_seqV fun K hK=>?_;(try (refine sVu ?_));refine hK _ ?_;clear hK K) | (refine W_ret ?_;(refine qG ?_;try exact True.intro)) | (refine W_cond rfl (fun h=>?_) (fun h=>?_) <;> (try simp only [cond_true,cond_false,ne_eq,cB] at h))))
 rw [if_pos hn]
 obtain ⟨h1,h2⟩:=hf rfl rfl hn
 subst hn
 have hnb:(n != n)=false:=by simp
 (refine pureW Tryz.func38 rfl (rs:=[Go.ResultVar.tmp 4,Go.ResultVar.tmp 5]) rfl (n:=41) rfl ?_;simp only [List.length_cons,List.length_nil,List.replicate,List.cons_append,List.nil_append])
 (refine aVu ?_)
 ((refine W_seqV ?_);intro K hK;(refine sVu ?_))
 (refine ⟨by kernel_rfl,_,.pure rfl (a1),?_⟩;(try (refine sVu ?_)))
 (refine hK _ ?_;clear hK K)
 ((refine W_seqV ?_);intro K hK;(refine sVu ?_))
 (refine ⟨by kernel_rfl,_,.pure rfl (a2),?_⟩;(try (refine sVu ?_)))
 (refine hK _ ?_;clear hK K)
 refine W_seq ?_
 refine W_block ?_
 ((refine W_seqV ?_);intro K hK;(refine sVu ?_))
 (refine hK _ ?_;clear hK K)
 (refine W_cf rfl ?_)
 ((refine W_seqV ?_);intro K hK;(refine sVuX hnb ?_))
 (refine hK _ ?_;clear hK K)
 (refine W_cf rfl ?_)
 refine W_skip ?_
 simp only [thenW,blockW]
 cases b1
 ·rw [Bool.false_and]
  ((refine W_seqV ?_);intro K hK;(refine sVu ?_))
  (refine ⟨by kernel_rfl,_,.pure rfl (h1),?_⟩;(try (refine sVu ?_)))
  (refine hK _ ?_;clear hK K)
  (repeat' (refine W_ret ?_;(refine qG ?_;try exact True.intro)))
 ·rw [Bool.true_and]
  ((refine W_seqV ?_);intro K hK;(refine sVu ?_))
  (refine ⟨by kernel_rfl,_,.pure rfl (h1),?_⟩;(try (refine sVu ?_)))
  (refine ⟨by kernel_rfl,_,.pure rfl (h2),?_⟩;(try (refine sVu ?_)))
  (refine hK _ ?_;clear hK K)
  (repeat' (refine W_ret ?_;(refine qG ?_;try exact True.intro)))
def delM (l:List (Int × RR)) (v:Int):List (Int × RR):=l.filter fun p=>!(p.1 == v)
theorem vals_delM (l:List (Int × RR)) (v:Int):vals (delM l v)=delF (vals l) v:=by
 unfold vals delM delF
 rw [List.filter_map]
 rfl
theorem FOk.del {f:List (Int × RR)} {B:Nat} (h:FOk f B) (v:Int):FOk (delM f v) B :=
 ⟨fun p hp=>h.ok p (List.mem_filter.1 hp).1,by rw [vals_delM];exact delF_sz h.sz v⟩
def solvA (f:List (Int × RR)) (r:RR) (v:Int):AV:=if coef (vals f) v=0 then .tup [.agg [.sl [],.bool false,.sl [],.sl []],.int .i64 61] else
 .tup [.agg (affQ (normF (scaleF (-(coef (vals f) v)⁻¹) (delF (vals f) v))) (-(coef (vals f) v)⁻¹*r.v)),.int .i64 0]
def subsA (f:List (Int × RR)) (r:RR) (v:Int) (g:List (Int × RR)) (s:RR):AV := .agg (affQ (normF (delF (vals f) v++normF (scaleF (coef (vals f) v) (vals g)))) (r.v+coef (vals f) v*s.v))
theorem FormOk.pf {f:List (Int × RR)} (h:FormOk f):PF f 68157441:=by
 have:=h.sz
 exact (h.fok.pf (by omega)).mono (by omega)
theorem sortK_snoc {l:List Int} (hn:l.Nodup) {n:Int} (h:∀ x∈l,x<n):sortK (l++[n])=sortK l++[n]:=by
 refine sorted_ext ((sortK_perm _).trans ((sortK_perm l).symm.append_right [n])) (sortK_le _) ?_
 rw [List.pairwise_append]
 refine ⟨sortK_le l,by simp,fun a ha b hb=>?_⟩
 simp at hb
 subst hb
 have:=h a (mem_sortK.1 ha)
 omega
theorem look_snoc {M:TM} {n b:Int} {g:List (Int × Rat)} (hb:b∈keys M):lookM (M++[(n,g)]) b=lookM M b:=by
 obtain ⟨j,h1,h2,h3,h4,h5⟩:=look_idx hb
 rw [h4]
 unfold lookM at h4 ⊢
 rw [List.find?_append]
 cases hf:M.find? fun r=>r.1 == b with
 | none=>rw [hf] at h4;cases h4
 | some r=>rw [hf] at h4;simpa using h4
theorem sortM_snoc {M:TM} (hn:(keys M).Nodup) {n:Int} (h:∀ x∈keys M,x<n) (g:List (Int × Rat)):sortM (M++[(n,g)])=sortM M++[(n,g)]:=by
 unfold sortM
 rw [keys_append,show keys [(n,g)]=[n] from rfl,sortK_snoc hn h,List.map_append]
 congr 1
 ·refine List.map_congr_left fun b hb=>?_
  rw [look_snoc (mem_sortK.1 hb)]
 ·have hnn:n∉keys M:=fun hm=>by have:=h n hm;omega
  have hnd:(keys (M++[(n,g)])).Nodup:=by
   rw [keys_append,List.nodup_append]
   refine ⟨hn,by simp [keys],?_⟩
   rintro a ha b hb rfl
   simp [keys] at hb
   subst hb
   exact hnn ha
  simp only [List.map_cons,List.map_nil]
  rw [look_of hnd (g:=g) (by simp)]
  rfl
theorem sUf {G G':Prop} (h:G') (e:G=G':=by conv=>lhs;simp (disch:=omega) only [rowsOf,cNat,cN,St.ret,St.seth,Eff.app,Eff.wi,sepL,guardOf,St.known,objOf,List.set,sliceW,litW,copyW,lenOf,bnd,mxOk,ofCells,TI.isAgg,cellsOf,storable,AV.one,dead,laid,overlay,reduceCtorEq,Int.reduceLE,Int.reduceLT,Int.reduceSub,Int.reduceAdd,Nat.reduceMul,Int.reduceToNat,Nat.reducePow,Int.reduceNeg,Nat.reduceAdd,Nat.reduceLT,Nat.reduceLeDiff,sA,sB,Nat.reduceEqDiff,cQ,rowQ,rowU,rowT,rowM,i64s_getD,i64s_length,i64s_all,tab_length,tab_drop,tab_take,tab_append,tab_nil,rowT_all,rowT_one,rowT_pure,rowU_all,rowU_one,rowU_pure,rowQ_all,rowQ_one,rowQ_pure,rowM_all,rowM_one,rowM_pure,List.take_length,List.length_append,sT]):G:=e.mpr h
theorem sUfX {G G' P:Prop} (p:P) (h:G') (e:P→G=G':=by intro p;conv=>lhs;simp (disch:=omega) only [rowsOf,cNat,cN,St.ret,St.seth,Eff.app,Eff.wi,sepL,guardOf,St.known,objOf,List.set,sliceW,litW,copyW,lenOf,bnd,mxOk,ofCells,TI.isAgg,cellsOf,storable,AV.one,dead,laid,overlay,reduceCtorEq,Int.reduceLE,Int.reduceLT,Int.reduceSub,Int.reduceAdd,Nat.reduceMul,Int.reduceToNat,Nat.reducePow,Int.reduceNeg,Nat.reduceAdd,Nat.reduceLT,Nat.reduceLeDiff,sA,sB,Nat.reduceEqDiff,cQ,rowQ,rowU,rowT,rowM,i64s_getD,i64s_length,i64s_all,tab_length,tab_drop,tab_take,tab_append,tab_nil,rowT_all,rowT_one,rowT_pure,rowU_all,rowU_one,rowU_pure,rowQ_all,rowQ_one,rowQ_pure,rowM_all,rowM_one,rowM_pure,List.take_length,List.length_append,sT,p]):G:=(e p).mpr h
theorem sUfV {G G':Prop} (h:G') (e:G=G':=by conv=>lhs;simp (disch:=omega) only [rowsOf,cNat,cN,St.ret,St.seth,Eff.app,Eff.wi,sepL,guardOf,St.known,objOf,List.set,sliceW,litW,copyW,lenOf,bnd,mxOk,ofCells,TI.isAgg,cellsOf,storable,AV.one,dead,laid,overlay,reduceCtorEq,Int.reduceLE,Int.reduceLT,Int.reduceSub,Int.reduceAdd,Nat.reduceMul,Int.reduceToNat,Nat.reducePow,Int.reduceNeg,Nat.reduceAdd,Nat.reduceLT,Nat.reduceLeDiff,sA,sB,Nat.reduceEqDiff,cQ,rowQ,rowU,rowT,rowM,i64s_getD,i64s_length,i64s_all,tab_length,tab_drop,tab_take,tab_append,tab_nil,rowT_all,rowT_one,rowT_pure,rowU_all,rowU_one,rowU_pure,rowQ_all,rowQ_one,rowQ_pure,rowM_all,rowM_one,rowM_pure,List.take_length,List.length_append,sT,view_sref,viewRef,view_agg,views_cons,views_nil,view_bool,view_int,view_sl,view_nils,view_str,view_tup,view_nilif]):G:=e.mpr h
theorem aUf {G G':Prop} (h:G') (f:Wr G'→G:=by intro h;(repeat (first|(refine W_seqV fun K hK=>?_;(try (refine sUf ?_;try exact True.intro));(repeat refine aI ?_);refine hK _ ?_;clear hK K)|(refine W_seqR fun K hK=>?_;(try (refine sUf ?_;try exact True.intro));(repeat refine aI ?_);refine hK _ ?_;clear hK K)|(refine W_seqD mixed [] (by kernel_rfl) fun K hK=>?_;(try (refine sUf ?_;try exact True.intro));(repeat refine aI ?_);refine hK _ ?_;clear hK K)));exact h.out):G:=f ⟨h⟩
theorem len_neI (n:Nat):((n:Int) != (n:Int))=false:=by simp
theorem int_neI (n:Int):(n != n)=false:=by simp
theorem bool_eqI (b:Bool):(b == b)=true:=by simp
theorem f1same_ok (l:List Nat) (h:l.length<1099511627776):Pure Tryz.prog 114 [.sl (u32s l),.sl (u32s l)] (· = .bool true):=by
 have hz:=len_neI l.length
 (refine pureW Tryz.func114 rfl (rs:=[Go.ResultVar.tmp 4]) rfl (n:=26) rfl ?_;simp only [List.length_cons,List.length_nil,List.replicate,List.cons_append,List.nil_append])
 (refine aUf ?_)
 refine W_seq ?_
 ((refine W_seqV ?_);intro K hK;(refine sUfX hz ?_))
 (refine hK _ ?_;clear hK K)
 (refine W_cf rfl ?_)
 refine W_skip ?_
 simp only [thenW]
 refine W_seq ?_
 ((refine W_seqV ?_);intro K hK;(refine sUf ?_))
 (refine hK _ ?_;clear hK K)
 refine W_block (W_loop (fun t:{t:Nat // t≤l.length} =>
   ⟨[.sl (u32s l),.sl (u32s l),.any,.any,.any,.int .i64 t.1,.any,.any,.any,.any,.any,.any,.any,.any,.any,.any,.any,.any,.any,.any,.any,.any,.any,.any,.any,.any],[.dead,.dead,.dead,.dead,.dead,.dead,.dead,.dead,.dead,.dead,.dead,.dead,.dead,.dead,.dead,.dead,.dead,.dead,.dead,.dead,.dead,.dead,.dead,.dead,.dead,.dead]⟩) (fun t=>l.length-t.1)
   ⟨0,by omega⟩ (Le_of (by simp [leE]) (by simp)) fun t=>?_)
 obtain ⟨i,hi⟩:=t
 dsimp only
 by_cases hlt:i<l.length
 ·generalize hx:l.getD i 0=x
  have hzx:=len_neI x
  refine W_seq ?_
  ((refine W_seqV ?_);intro K hK;(refine sUfX hlt ?_))
  (refine hK _ ?_;clear hK K)
  (refine W_ct rfl ?_)
  refine W_skip ?_
  simp only [thenW]
  refine W_seq ?_
  refine W_block ?_
  ((refine W_seqD mixed [] (by kernel_rfl) ?_);intro K hK;(refine sUfX (And.intro hlt (And.intro hx hzx)) ?_))
  (refine hK _ ?_;clear hK K)
  (refine W_cf rfl ?_)
  refine W_skip ?_
  simp only [blockW,thenW]
  ((refine W_regV ?_);intro K hK;(refine sUf ?_))
  (refine hK _ ?_;clear hK K)
  simp only [blockW,thenW]
  refine ⟨⟨i+1,by omega⟩,Le_drop (by simp [leE]) (by simp [leH]) rfl rfl,?_⟩
  dsimp only
  omega
 ·obtain rfl:i=l.length:=by omega
  refine W_seq ?_
  ((refine W_seqV ?_);intro K hK;(refine sUf ?_))
  (refine hK _ ?_;clear hK K)
  (refine W_cf rfl ?_)
  refine W_exit ?_
  simp only [thenW,blockW,if_true]
  (repeat' (first | (refine W_seqV fun K hK=>?_;(try (refine sUf ?_));refine hK _ ?_;clear hK K) | (refine W_ret ?_;(refine qG ?_;try exact True.intro))))
theorem f3same_ok (r:RR) (h:r.ok):Pure Tryz.prog 72 [r.av,r.av] (· = .bool true):=by
 have h1:=f1same_ok r.num (by have:=h.nl;omega)
 have h2:=f1same_ok r.den (by have:=h.dl;omega)
 have hb:=bool_eqI r.neg
 obtain ⟨neg,n,d⟩:=r
 simp only [RR.av] at *
 (refine pureW Tryz.func72 rfl (rs:=[Go.ResultVar.tmp 4]) rfl (n:=28) rfl ?_;simp only [List.length_cons,List.length_nil,List.replicate,List.cons_append,List.nil_append])
 (refine aUf ?_)
 ((refine W_seqV ?_);intro K hK;(refine sUfX hb ?_))
 (refine ⟨by kernel_rfl,_,.pure rfl (h1),?_⟩;(try (refine sUf ?_)))
 (refine ⟨by kernel_rfl,_,.pure rfl (h2),?_⟩;(try (refine sUf ?_)))
 (refine hK _ ?_;clear hK K)
 refine W_ret ?_
 (refine qG ?_;try exact True.intro);try (refine sUfV ?_;try exact True.intro)
theorem r7sameForm_ok (f:List (Int × RR)) (h:∀ p∈f,p.2.ok) (hl:f.length<1099511627776):Pure Tryz.prog 27 [cF f,cF f] (· = .bool true):=by
 have hz:=len_neI f.length
 have hs:∀ i,i<f.length→Pure Tryz.prog 72 [(f.getD i default).2.av,(f.getD i default).2.av] (· = .bool true):=fun i hi=>f3same_ok _ (h _ (getD_mem hi))
 simp only [cF,RR.av] at *
 (refine pureW Tryz.func27 rfl (rs:=[Go.ResultVar.tmp 4]) rfl (n:=42) rfl ?_;simp only [List.length_cons,List.length_nil,List.replicate,List.cons_append,List.nil_append])
 (refine aUf ?_)
 ((refine W_seq (W_seqV ?_));intro K hK;(refine sUfX hz ?_))
 (refine hK _ ?_;clear hK K)
 (refine W_cf rfl ?_)
 refine W_skip ?_
 simp only [thenW]
 refine W_seq ?_
 ((refine W_seqV ?_);intro K hK;(refine sUf ?_))
 (refine hK _ ?_;clear hK K)
 refine W_block (W_loop (fun t:{t:Nat // t≤f.length} =>
   ⟨[.sl (tab rowM f),.sl (tab rowM f),.any,.any,.any,.int .i64 t.1,.any,.any,.any,.any,.any,.any,.any,.any,.any,.any,.any,.any,.any,.any,.any,.any,.any,.any,.any,.any,.any,.any,.any,.any,.any,.any,.any,.any,.any,.any,.any,.any,.any,.any,.any,.any],[.dead,.dead,.dead,.dead,.dead,.dead,.dead,.dead,.dead,.dead,.dead,.dead,.dead,.dead,.dead,.dead,.dead,.dead,.dead,.dead,.dead,.dead,.dead,.dead,.dead,.dead,.dead,.dead,.dead,.dead,.dead,.dead,.dead,.dead,.dead,.dead,.dead,.dead,.dead,.dead,.dead,.dead]⟩) (fun t=>f.length-t.1)
   ⟨0,by omega⟩ (Le_of (by simp [leE]) (by simp)) fun t=>?_)
 obtain ⟨i,hi⟩:=t
 dsimp only
 by_cases hlt:i<f.length
 ·have hfi:(tab rowM f).getD i []=rowM (f.getD i default):=tab_getD hlt
  have hsi:=hs i hlt
  generalize f.getD i default=p at *
  obtain ⟨v,neg,n,d⟩:=p
  simp only [rowM] at hfi
  dsimp only at *
  have hzx:=int_neI v
  refine W_seq ?_
  ((refine W_seqV ?_);intro K hK;(refine sUfX hlt ?_))
  (refine hK _ ?_;clear hK K)
  (refine W_ct rfl ?_)
  refine W_skip ?_
  simp only [thenW]
  refine W_seq ?_
  refine W_block ?_
  ((refine W_seqD mixed [] (by kernel_rfl) ?_);intro K hK;(refine sUfX (And.intro hlt (And.intro hfi hzx)) ?_))
  (refine ⟨by kernel_rfl,_,.pure rfl (hsi),?_⟩;(try (refine sUf ?_)))
  (refine hK _ ?_;clear hK K)
  (refine W_cf rfl ?_)
  refine W_skip ?_
  simp only [blockW,thenW]
  ((refine W_regV ?_);intro K hK;(refine sUf ?_))
  (refine hK _ ?_;clear hK K)
  simp only [blockW,thenW]
  refine ⟨⟨i+1,by omega⟩,Le_drop (by simp [leE]) (by simp [leH]) rfl rfl,?_⟩
  dsimp only
  omega
 ·obtain rfl:i=f.length:=by omega
  refine W_seq ?_
  ((refine W_seqV ?_);intro K hK;(refine sUf ?_))
  (refine hK _ ?_;clear hK K)
  (refine W_cf rfl ?_)
  refine W_exit ?_
  simp only [thenW,blockW,if_true]
  (repeat' (first | (refine W_seqV fun K hK=>?_;(try (refine sUf ?_));refine hK _ ?_;clear hK K) | (refine W_ret ?_;(refine qG ?_;try exact True.intro))))
structure TS (t:TR):Prop where
 ok:∀ r∈t,∀ p∈r.2,p.2.ok
 fl:∀ r∈t,r.2.length<1099511627776
 len:t.length<1099511627776
theorem TOk.ts {t:TR} (h:TOk t):TS t:=⟨h.ok,fun r hr=>by have:=nbs_len (vals r.2);have:=h.nbs hr;rw [vals_length] at *;omega,by have:=h.len;omega⟩
theorem r7alike_ok (n:Int) (t:TR) (h:TS t):Pure Tryz.prog 65 [cT n t,cT n t] (· = .bool true):=by
 have hz:=len_neI t.length
 have hzn:=int_neI n
 have hlen:=h.len
 have hs:∀ i,i<t.length→Pure Tryz.prog 27 [cF (t.getD i default).2,cF (t.getD i default).2] (· = .bool true):=fun i hi=>r7sameForm_ok _ (h.ok _ (getD_mem hi)) (h.fl _ (getD_mem hi))
 simp only [cF,cT] at *
 (refine pureW Tryz.func65 rfl (rs:=[Go.ResultVar.tmp 4]) rfl (n:=56) rfl ?_;simp only [List.length_cons,List.length_nil,List.replicate,List.cons_append,List.nil_append])
 (refine aUf ?_)
 ((refine W_seq (W_seqV ?_));intro K hK;(refine sUfX (And.intro hz hzn) ?_))
 (refine hK _ ?_;clear hK K)
 (refine W_cf rfl ?_)
 refine W_skip ?_
 simp only [thenW]
 refine W_seq ?_
 ((refine W_seqV ?_);intro K hK;(refine sUf ?_))
 (refine hK _ ?_;clear hK K)
 refine W_block (W_loop (fun s:{i:Nat // i≤t.length} =>
   ⟨[.any,.any,.ptr 2 0 0,.ptr 3 0 0,.any,.int .i64 s.1,.any,.any,.any,.any,.any,.any,.any,.any,.any,.any,.any,.any,.any,.any,.any,.any,.any,.any,.any,.any,.any,.any,.any,.any,.any,.any,.any,.any,.any,.any,.any,.any,.any,.any,.any,.any,.any,.any,.any,.any,.any,.any,.any,.any,.any,.any,.any,.any,.any,.any],[.dead,.dead,.arr 24 2 false [[.int .i64 n,.sl (tab rowT t)]],.arr 24 2 false [[.int .i64 n,.sl (tab rowT t)]],.dead,.dead,.dead,.dead,.dead,.dead,.dead,.dead,.dead,.dead,.dead,.dead,.dead,.dead,.dead,.dead,.dead,.dead,.dead,.dead,.dead,.dead,.dead,.dead,.dead,.dead,.dead,.dead,.dead,.dead,.dead,.dead,.dead,.dead,.dead,.dead,.dead,.dead,.dead,.dead,.dead,.dead,.dead,.dead,.dead,.dead,.dead,.dead,.dead,.dead,.dead,.dead]⟩) (fun s=>t.length-s.1)
   ⟨0,by omega⟩ (Le_drop (by simp [leE]) (by simp [leH]) rfl rfl) fun s=>?_)
 obtain ⟨i,hi⟩:=s
 dsimp only
 by_cases hlt:i<t.length
 ·have hti:(tab rowT t).getD i []=rowT (t.getD i default):=tab_getD hlt
  have hsi:=hs i hlt
  generalize t.getD i default=r at *
  obtain ⟨b,f⟩:=r
  simp only [rowT] at hti
  dsimp only at *
  have hzx:=int_neI b
  refine W_seq ?_
  ((refine W_seqV ?_);intro K hK;(refine sUfX hlt ?_))
  (refine hK _ ?_;clear hK K)
  (refine W_ct rfl ?_)
  refine W_skip ?_
  simp only [thenW]
  refine W_seq ?_
  refine W_block ?_
  ((refine W_seqD mixed [] (by kernel_rfl) ?_);intro K hK;(refine sUfX (And.intro hlt (And.intro hti hzx)) ?_))
  (refine ⟨by kernel_rfl,_,.pure rfl (hsi),?_⟩;(try (refine sUf ?_)))
  (refine hK _ ?_;clear hK K)
  (refine W_cf rfl ?_)
  refine W_skip ?_
  simp only [blockW,thenW]
  ((refine W_regV ?_);intro K hK;(refine sUf ?_))
  (refine hK _ ?_;clear hK K)
  simp only [blockW,thenW]
  refine ⟨⟨i+1,by omega⟩,Le_drop (by simp [leE]) (by simp [leH]) rfl rfl,?_⟩
  dsimp only
  omega
 ·obtain rfl:i=t.length:=by omega
  refine W_seq ?_
  ((refine W_seqV ?_);intro K hK;(refine sUf ?_))
  (refine hK _ ?_;clear hK K)
  (refine W_cf rfl ?_)
  refine W_exit ?_
  simp only [thenW,blockW,if_true]
  (repeat' (first | (refine W_seqV fun K hK=>?_;(try (refine sUf ?_));refine hK _ ?_;clear hK K) | (refine W_ret ?_;(refine qG ?_;try exact True.intro))))
theorem lalike_ok (n:Int) (t:TR) (h:TS t):Pure Tryz.prog 20 [cT n t,cT n t] (· = .bool true):=by
 have a:=r7alike_ok n t h
 unfold cT at *
 (refine pureW Tryz.func20 rfl (rs:=[Go.ResultVar.tmp 4]) rfl (n:=8) rfl ?_;simp only [List.length_cons,List.length_nil,List.replicate,List.cons_append,List.nil_append])
 (refine aUf ?_)
 ((refine W_seqV ?_);intro K hK;(refine sUf ?_))
 (refine ⟨by kernel_rfl,_,.pure rfl (a),?_⟩;(try (refine sUf ?_)))
 (refine hK _ ?_;clear hK K)
 refine W_ret ?_
 (refine qG ?_;try exact True.intro);try (refine sUfV ?_;try exact True.intro)
def rfT (M:TM):TR:=M.map fun r=>(r.1,rf r.2)
theorem cU_rf (n:Int) (M:TM):cT n (rfT M)=cU n M:=by
 unfold cT cU rfT
 congr 4
 unfold tab
 rw [List.map_map]
 refine List.map_congr_left fun r _=>?_
 simp only [Function.comp,rowT,rowU]
 rw [tab_rf]
theorem nrm_rf {M:TM} (h:∀ r∈M,NF r.2):nrmT (rfT M)=M:=by
 unfold nrmT rfT
 rw [List.map_map]
 refine (List.map_congr_left fun r hr=>?_).trans (List.map_id M)
 simp only [Function.comp,vals_rf]
 rw [norm_self (h r hr)]
 rfl
theorem MOk.ts {M:TM} {B:Nat} (h:MOk M B) (hB:B<17179869184):TS (rfT M):=by
 refine ⟨fun r hr p hp=>?_,fun r hr=>?_,by simp only [rfT,List.length_map];exact h.len⟩
 ·obtain ⟨q,hq,rfl⟩:=List.mem_map.1 hr
  obtain ⟨x,hx,rfl⟩:=List.mem_map.1 hp
  have:=(h.sz q hq).mem hx
  exact qr_ok (by omega)
 ·obtain ⟨q,hq,rfl⟩:=List.mem_map.1 hr
  have:=(h.sz q hq).l
  simp only [rf,List.length_map]
  omega
theorem mnat_ok (l:List Nat) (h:l.length<1099511627776):Pure Tryz.prog 111 [.sl (u32s l)] (· = .sl (u32s l)):=by
 (refine pureW Tryz.func111 rfl (rs:=[Go.ResultVar.tmp 2]) rfl (n:=19) rfl ?_;simp only [List.length_cons,List.length_nil,List.replicate,List.cons_append,List.nil_append])
 (refine aUf ?_)
 refine W.le ?_ (Le_nil 3 3 128 1 true rfl rfl)
 simp only [List.set]
 refine W_seq ?_
 ((refine W_seqV ?_);intro K hK;(refine sUf ?_))
 (refine hK _ ?_;clear hK K)
 refine W_block (W_loop (fun t:{t:Nat // t≤l.length} =>
   ⟨[.sl (u32s l),.any,.any,.sref 3 0 t.1,.int .i64 t.1,.any,.any,.any,.any,.any,.any,.any,.any,.any,.any,.any,.any,.any,.any],[.dead,.dead,.dead,.arr 128 1 true (u32s (l.take t.1)),.dead,.dead,.dead,.dead,.dead,.dead,.dead,.dead,.dead,.dead,.dead,.dead,.dead,.dead,.dead]⟩) (fun t=>l.length-t.1)
   ⟨0,by omega⟩ (Le_drop (by simp [leE]) (by simp [leH,u32s]) rfl rfl) fun t=>?_)
 obtain ⟨i,hi⟩:=t
 dsimp only
 have htl:(l.take i).length=i:=by rw [List.length_take];omega
 by_cases hlt:i<l.length
 ·have hst:l.take (i+1)=l.take i++[l.getD i 0]:=by
   rw [List.take_succ_eq_append_getElem hlt]
   simp [List.getD_eq_getElem?_getD,hlt]
  generalize hx:l.getD i 0=x at *
  generalize hP:l.take i=P at *
  refine W_seq ?_
  ((refine W_seqV ?_);intro K hK;(refine sUfX hlt ?_))
  (refine hK _ ?_;clear hK K)
  (refine W_ct rfl ?_)
  refine W_skip ?_
  simp only [thenW]
  refine W_seq ?_
  refine W_block ?_
  refine W_regR fun K hK=>?_
  (refine sUfX (And.intro hx (And.intro hlt htl)) ?_;try exact True.intro)
  (repeat refine aI ?_)
  refine hK _ ?_
  clear hK K
  simp only [blockW,thenW]
  ((refine W_regV ?_);intro K hK;(refine sUf ?_))
  (refine hK _ ?_;clear hK K)
  simp only [blockW,thenW]
  refine ⟨⟨i+1,by omega⟩,Le_drop (by simp [leE]) (by simp [leH,hst,u32s,List.take_of_length_le,htl]) rfl rfl,?_⟩
  dsimp only
  omega
 ·obtain rfl:i=l.length:=by omega
  rw [List.take_length]
  refine W_seq ?_
  ((refine W_seqV ?_);intro K hK;(refine sUf ?_))
  (refine hK _ ?_;clear hK K)
  (refine W_cf rfl ?_)
  refine W_exit ?_
  simp only [thenW,blockW,if_true]
  (refine W.le ?_ (Le_freeze 3 (rows:=u32s l) rfl (by simp) (.inl rfl));simp only [St.freeze,List.map_cons,List.map_nil,List.set,if_true,if_false,Nat.reduceEqDiff,reduceCtorEq,List.drop_zero,u32s_take,u32s_drop,froz_any,froz_und,froz_int,froz_bool,froz_str,froz_nils,froz_sl,froz_ia,froz_nilp,froz_nilif,froz_nilfn,froz_nilmp,froz_gl,froz_sref,froz_ptr,froz_agg,froz_tup,froz_fn,froz_ifc,frozs_nil,frozs_cons,froz_dead,froz_arr,froz_mp,froz_it,froz_md,froz_map,froz_iter])
  (repeat' (first | (refine W_seqV fun K hK=>?_;(try (refine sUf ?_));refine hK _ ?_;clear hK K) | (refine W_ret ?_;(refine qG ?_;try exact True.intro))))
theorem mint_ok (neg:Bool) (l:List Nat) (h:l.length<1099511627776):Pure Tryz.prog 110 [.agg [.bool neg,.sl (u32s l)]] (· = .agg [.bool neg,.sl (u32s l)]):=by
 have a:=mnat_ok l h
 (refine pureW Tryz.func110 rfl (rs:=[Go.ResultVar.cell 2 51]) rfl (n:=9) rfl ?_;simp only [List.length_cons,List.length_nil,List.replicate,List.cons_append,List.nil_append])
 (refine aUf ?_)
 ((refine W_seqS mixed 6 [] (by kernel_rfl) ?_);intro K hK;(refine sUf ?_))
 (refine ⟨by kernel_rfl,_,.pure rfl (a),?_⟩;(try (refine sUf ?_)))
 (refine hK _ ?_;clear hK K)
 refine W_ret ?_
 (refine qG ?_;try exact True.intro);try (refine sUfV ?_;try exact True.intro)
theorem mrat_ok (r:RR) (h:r.ok):Pure Tryz.prog 68 [r.av] (·=r.av):=by
 have a1:=mint_ok r.neg r.num (by have:=h.nl;omega)
 have a2:=mnat_ok r.den (by have:=h.dl;omega)
 obtain ⟨neg,n,d⟩:=r
 simp only [RR.av] at *
 (refine pureW Tryz.func68 rfl (rs:=[Go.ResultVar.cell 2 53]) rfl (n:=10) rfl ?_;simp only [List.length_cons,List.length_nil,List.replicate,List.cons_append,List.nil_append])
 (refine aUf ?_)
 ((refine W_seqS mixed 7 [] (by kernel_rfl) ?_);intro K hK;(refine sUf ?_))
 (refine ⟨by kernel_rfl,_,.pure rfl (a1),?_⟩;(try (refine sUf ?_)))
 (refine ⟨by kernel_rfl,_,.pure rfl (a2),?_⟩;(try (refine sUf ?_)))
 (refine hK _ ?_;clear hK K)
 refine W_ret ?_
 (refine qG ?_;try exact True.intro);try (refine sUfV ?_;try exact True.intro)
theorem mform_ok (f:List (Int × RR)) (h:∀ p∈f,p.2.ok) (hl:f.length<1099511627776):Pure Tryz.prog 22 [cF f] (·=cF f):=by
 have hs:∀ i,i<f.length→Pure Tryz.prog 68 [(f.getD i default).2.av] (·=(f.getD i default).2.av):=fun i hi=>mrat_ok _ (h _ (getD_mem hi))
 have hst:∀ i,i<f.length→f.take (i+1)=f.take i++[f.getD i default]:=fun i hi=>take_snoc hi
 simp only [cF,RR.av] at *
 (refine pureW Tryz.func22 rfl (rs:=[Go.ResultVar.tmp 2]) rfl (n:=27) rfl ?_;simp only [List.length_cons,List.length_nil,List.replicate,List.cons_append,List.nil_append])
 (refine aUf ?_)
 refine W.le ?_ (Le_nil 3 3 55 4 true rfl rfl)
 simp only [List.set]
 refine W_seq ?_
 ((refine W_seqV ?_);intro K hK;(refine sUf ?_))
 (refine hK _ ?_;clear hK K)
 refine W_block (W_loop (fun t:{t:Nat // t≤f.length} =>
   ⟨[.sl (tab rowM f),.any,.any,.sref 3 0 t.1,.int .i64 t.1,.any,.any,.any,.any,.any,.any,.any,.any,.any,.any,.any,.any,.any,.any,.any,.any,.any,.any,.any,.any,.any,.any],[.dead,.dead,.dead,.arr 55 4 true (tab rowM (f.take t.1)),.dead,.dead,.dead,.dead,.dead,.dead,.dead,.dead,.dead,.dead,.dead,.dead,.dead,.dead,.dead,.dead,.dead,.dead,.dead,.dead,.dead,.dead,.dead]⟩) (fun t=>f.length-t.1)
   ⟨0,by omega⟩ (Le_drop (by simp [leE]) (by simp [leH,tab]) rfl rfl) fun t=>?_)
 obtain ⟨i,hi⟩:=t
 dsimp only
 have htl:(f.take i).length=i:=by rw [List.length_take];omega
 by_cases hlt:i<f.length
 ·have hfi:(tab rowM f).getD i []=rowM (f.getD i default):=tab_getD hlt
  have hsi:=hs i hlt
  have hsti:=hst i hlt
  generalize f.getD i default=p at *
  obtain ⟨v,neg,n,d⟩:=p
  simp only [rowM] at hfi
  dsimp only at *
  generalize f.take i=P at *
  refine W_seq ?_
  ((refine W_seqV ?_);intro K hK;(refine sUfX hlt ?_))
  (refine hK _ ?_;clear hK K)
  (refine W_ct rfl ?_)
  refine W_skip ?_
  simp only [thenW]
  refine W_seq ?_
  refine W_block ?_
  ((refine W_regS mixed 14 [] (by kernel_rfl) ?_);intro K hK;(refine sUfX (And.intro hlt hfi) ?_))
  (refine ⟨by kernel_rfl,_,.pure rfl (hsi),?_⟩;(try (refine sUf ?_));(repeat refine aI ?_))
  (refine hK _ ?_;clear hK K)
  simp only [blockW,thenW]
  ((refine W_regV ?_);intro K hK;(refine sUf ?_))
  (refine hK _ ?_;clear hK K)
  simp only [blockW,thenW]
  refine ⟨⟨i+1,by omega⟩,Le_drop (by simp [leE]) (by simp [leH,hsti,← tab_snoc,rowM,tab_take,List.take_of_length_le,htl]) rfl rfl,?_⟩
  dsimp only
  omega
 ·obtain rfl:i=f.length:=by omega
  rw [List.take_length]
  refine W_seq ?_
  ((refine W_seqV ?_);intro K hK;(refine sUf ?_))
  (refine hK _ ?_;clear hK K)
  (refine W_cf rfl ?_)
  refine W_exit ?_
  simp only [thenW,blockW,if_true]
  (refine W.le ?_ (Le_freeze 3 (rows:=tab rowM f) rfl (by simp) (.inl rfl));simp only [St.freeze,List.map_cons,List.map_nil,List.set,if_true,if_false,Nat.reduceEqDiff,reduceCtorEq,List.drop_zero,u32s_take,u32s_drop,froz_any,froz_und,froz_int,froz_bool,froz_str,froz_nils,froz_sl,froz_ia,froz_nilp,froz_nilif,froz_nilfn,froz_nilmp,froz_gl,froz_sref,froz_ptr,froz_agg,froz_tup,froz_fn,froz_ifc,frozs_nil,frozs_cons,froz_dead,froz_arr,froz_mp,froz_it,froz_md,froz_map,froz_iter])
  (repeat' (first | (refine W_seqV fun K hK=>?_;(try (refine sUf ?_));refine hK _ ?_;clear hK K) | (refine W_ret ?_;(refine qG ?_;try exact True.intro))))
end Go.Proofs.YtjmpajgjaefcjaaGreat.Vm
