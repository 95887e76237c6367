/-
  Part 7 of 8 of a proof.
-/
import Derived.Test.YtjmpajgjaefcjaaGreatItb6
import Derived.Orders
import Derived.Below
import Derived.Laws.AppendOwn
import Derived.Laws.MakeOwn
import Derived.Laws.CopyRow
import Derived.Laws.Rows
import Derived.Laws.Cells
import Derived.Tactics
import Derived.Laws.BitsLemmas
import Derived.Maps.Range
import Derived.Carry
import Derived.Test.YtjmpajgjaefcjaaGreatProg
import Derived.Sort.Row
import Derived.Sort.Grow
import Derived.Shelf.Sort.Plain
import Derived.Shelf.Slices.In.SortNone
import Derived.Ground.NamesProg
set_option linter.unusedVariables false
set_option linter.unusedSimpArgs false
set_option maxRecDepth 100000

namespace Go.Proofs.YtjmpajgjaefcjaaGreat.Vm
open Go Go.RowKit
theorem sLh {G G':Prop} (h:G') (e:G=G':=by conv=>lhs;simp (disch:=omega) only [rowsOf,cNat,cN,St.ret,St.seth,Eff.app,Eff.wi,sepL,guardOf,St.known,objOf,List.set,sliceW,litW,copyW,lenOf,bnd,mxOk,ofCells,TI.isAgg,cellsOf,storable,AV.one,dead,laid,overlay,reduceCtorEq,Int.reduceLE,Int.reduceLT,Int.reduceSub,Int.reduceAdd,Nat.reduceMul,Int.reduceToNat,Nat.reducePow,Int.reduceNeg,Nat.reduceAdd,Nat.reduceLT,Nat.reduceLeDiff,sA,sB,cI,cZ,cQ,sT]):G:=e.mpr h
theorem sLhX {G G' P:Prop} (p:P) (h:G') (e:P→G=G':=by intro p;conv=>lhs;simp (disch:=omega) only [rowsOf,cNat,cN,St.ret,St.seth,Eff.app,Eff.wi,sepL,guardOf,St.known,objOf,List.set,sliceW,litW,copyW,lenOf,bnd,mxOk,ofCells,TI.isAgg,cellsOf,storable,AV.one,dead,laid,overlay,reduceCtorEq,Int.reduceLE,Int.reduceLT,Int.reduceSub,Int.reduceAdd,Nat.reduceMul,Int.reduceToNat,Nat.reducePow,Int.reduceNeg,Nat.reduceAdd,Nat.reduceLT,Nat.reduceLeDiff,sA,sB,cI,cZ,cQ,sT,p]):G:=(e p).mpr h
theorem sLhV {G G':Prop} (h:G') (e:G=G':=by conv=>lhs;simp (disch:=omega) only [rowsOf,cNat,cN,St.ret,St.seth,Eff.app,Eff.wi,sepL,guardOf,St.known,objOf,List.set,sliceW,litW,copyW,lenOf,bnd,mxOk,ofCells,TI.isAgg,cellsOf,storable,AV.one,dead,laid,overlay,reduceCtorEq,Int.reduceLE,Int.reduceLT,Int.reduceSub,Int.reduceAdd,Nat.reduceMul,Int.reduceToNat,Nat.reducePow,Int.reduceNeg,Nat.reduceAdd,Nat.reduceLT,Nat.reduceLeDiff,sA,sB,cI,cZ,cQ,sT,view_sref,viewRef,view_agg,views_cons,views_nil,view_bool,view_int,view_sl,view_nils,view_str,view_tup,view_nilif]):G:=e.mpr h
theorem aLh {G G':Prop} (h:G') (f:Wr G'→G:=by intro h;(repeat (first|(refine W_seqV fun K hK=>?_;(try (refine sLh ?_;try exact True.intro));(repeat refine aI ?_);refine hK _ ?_;clear hK K)|(refine W_seqR fun K hK=>?_;(try (refine sLh ?_;try exact True.intro));(repeat refine aI ?_);refine hK _ ?_;clear hK K)|(refine W_seqD mixed [] (by kernel_rfl) fun K hK=>?_;(try (refine sLh ?_;try exact True.intro));(repeat refine aI ?_);refine hK _ ?_;clear hK K)));exact h.out):G:=f ⟨h⟩
theorem rneg_ok (r:RR) (hr:r.ok):Pure Tryz.prog 135 [r.av] (·=cQ (-r.v)):=by
 have hn:=rnorm_ok r hr
 have ho:=v_ok hr
 have hw:=wneg_ok (decide (r.v.num<0)) (limbs r.v.num.natAbs) (limbs_limbs _) (Nat.lt_trans ho.nl (by decide))
 rw [q_num] at hw
 obtain ⟨neg,n,d⟩:=r
 simp only [RR.av] at *
 generalize RR.v _=q at *
 have hq:cQ (-q) = .agg [.bool (decide (-q.num<0)),.sl (u32s (limbs (-q.num).natAbs)),.sl (u32s (limbs q.den))]:=by
  simp only [cQ,Rat.neg_num,Rat.neg_den]
 rw [hq]
 simp only [cQ,cZ,cI] at *
 generalize -q.num=m at *
 (refine pureW Tryz.func135 rfl (rs:=[Go.ResultVar.cell 2 53]) rfl (n:=11) rfl ?_;simp only [List.length_cons,List.length_nil,List.replicate,List.cons_append,List.nil_append])
 (refine aLh ?_)
 ((refine W_seqV ?_);intro K hK;(refine sLh ?_))
 (refine ⟨by kernel_rfl,_,.pure rfl (hn),?_⟩;(try (refine sLh ?_)))
 (refine hK _ ?_;clear hK K)
 ((refine W_seqD mixed [] (by kernel_rfl) ?_);intro K hK;(refine sLh ?_))
 (refine ⟨by kernel_rfl,_,.pure rfl (hw),?_⟩;(try (refine sLh ?_)))
 (refine hK _ ?_;clear hK K)
 refine W_ret ?_
 (refine qG ?_;try exact True.intro);try (refine sLhV ?_;try exact True.intro)
theorem rabs_ok (r:RR) (hr:r.ok):Pure Tryz.prog 215 [r.av] (·=cQ (absQ r.v)):=by
 have h1:=rsign_ok r hr
 have h2:=rneg_ok r hr
 have h3:=rnorm_ok r hr
 change Pure _ _ _ (· = .int .i64 (rs r.v)) at h1
 have h4:decide (rs r.v<0)=decide (r.v<0):=by rw [decide_eq_decide];exact rs_neg
 obtain ⟨neg,n,d⟩:=r
 simp only [RR.av] at *
 generalize RR.v _=q at *
 unfold absQ
 by_cases h0:q<0
 ·rw [if_pos h0]
  have h5:decide (rs q<0)=true:=h4.trans (by simp [h0])
  generalize -q=p at *
  simp only [cQ] at *
  (refine pureW Tryz.func215 rfl (rs:=[Go.ResultVar.cell 2 53]) rfl (n:=10) rfl ?_;simp only [List.length_cons,List.length_nil,List.replicate,List.cons_append,List.nil_append])
  (refine aLh ?_)
  refine W_seq ?_
  ((refine W_seqV ?_);intro K hK;(refine sLhX h5 ?_))
  (refine ⟨by kernel_rfl,_,.pure rfl (h1),?_⟩;(try (refine sLh ?_)))
  rw [h5]
  (refine hK _ ?_;clear hK K)
  (refine W_ct rfl ?_)
  ((refine W_seqV ?_);intro K hK;(refine sLh ?_))
  (refine ⟨by kernel_rfl,_,.pure rfl (h2),?_⟩;(try (refine sLh ?_)))
  (refine hK _ ?_;clear hK K)
  refine W_ret ?_
  (refine qG ?_;try exact True.intro);try (refine sLhV ?_;try exact True.intro)
 ·rw [if_neg h0]
  have h5:decide (rs q<0)=false:=h4.trans (by simp [h0])
  simp only [cQ] at *
  (refine pureW Tryz.func215 rfl (rs:=[Go.ResultVar.cell 2 53]) rfl (n:=10) rfl ?_;simp only [List.length_cons,List.length_nil,List.replicate,List.cons_append,List.nil_append])
  (refine aLh ?_)
  refine W_seq ?_
  ((refine W_seqV ?_);intro K hK;(refine sLhX h5 ?_))
  (refine ⟨by kernel_rfl,_,.pure rfl (h1),?_⟩;(try (refine sLh ?_)))
  rw [h5]
  (refine hK _ ?_;clear hK K)
  (refine W_cf rfl ?_)
  refine W_skip ?_
  simp only [thenW]
  ((refine W_seqV ?_);intro K hK;(refine sLh ?_))
  (refine ⟨by kernel_rfl,_,.pure rfl (h3),?_⟩;(try (refine sLh ?_)))
  (refine hK _ ?_;clear hK K)
  refine W_ret ?_
  (refine qG ?_;try exact True.intro);try (refine sLhV ?_;try exact True.intro)
theorem sLf {G G':Prop} (h:G') (e:G=G':=by conv=>lhs;simp (disch:=omega) only [rowsOf,cNat,cN,St.ret,St.seth,Eff.app,Eff.wi,sepL,guardOf,St.known,objOf,List.set,sliceW,litW,copyW,lenOf,bnd,mxOk,ofCells,TI.isAgg,cellsOf,storable,AV.one,dead,laid,overlay,reduceCtorEq,Int.reduceLE,Int.reduceLT,Int.reduceSub,Int.reduceAdd,Nat.reduceMul,Int.reduceToNat,Nat.reducePow,Int.reduceNeg,Nat.reduceAdd,Nat.reduceLT,Nat.reduceLeDiff,sA,sB,cQ,rowQ,rowM,tab_length,List.take_length,List.length_append,tab_drop,tab_take,tab_append,tab_nil,rowQ_all,rowQ_one,rowQ_pure,rowM_all,rowM_one,rowM_pure,sT]):G:=e.mpr h
theorem sLfX {G G' P:Prop} (p:P) (h:G') (e:P→G=G':=by intro p;conv=>lhs;simp (disch:=omega) only [rowsOf,cNat,cN,St.ret,St.seth,Eff.app,Eff.wi,sepL,guardOf,St.known,objOf,List.set,sliceW,litW,copyW,lenOf,bnd,mxOk,ofCells,TI.isAgg,cellsOf,storable,AV.one,dead,laid,overlay,reduceCtorEq,Int.reduceLE,Int.reduceLT,Int.reduceSub,Int.reduceAdd,Nat.reduceMul,Int.reduceToNat,Nat.reducePow,Int.reduceNeg,Nat.reduceAdd,Nat.reduceLT,Nat.reduceLeDiff,sA,sB,cQ,rowQ,rowM,tab_length,List.take_length,List.length_append,tab_drop,tab_take,tab_append,tab_nil,rowQ_all,rowQ_one,rowQ_pure,rowM_all,rowM_one,rowM_pure,sT,p]):G:=(e p).mpr h
theorem sLfV {G G':Prop} (h:G') (e:G=G':=by conv=>lhs;simp (disch:=omega) only [rowsOf,cNat,cN,St.ret,St.seth,Eff.app,Eff.wi,sepL,guardOf,St.known,objOf,List.set,sliceW,litW,copyW,lenOf,bnd,mxOk,ofCells,TI.isAgg,cellsOf,storable,AV.one,dead,laid,overlay,reduceCtorEq,Int.reduceLE,Int.reduceLT,Int.reduceSub,Int.reduceAdd,Nat.reduceMul,Int.reduceToNat,Nat.reducePow,Int.reduceNeg,Nat.reduceAdd,Nat.reduceLT,Nat.reduceLeDiff,sA,sB,cQ,rowQ,rowM,tab_length,List.take_length,List.length_append,tab_drop,tab_take,tab_append,tab_nil,rowQ_all,rowQ_one,rowQ_pure,rowM_all,rowM_one,rowM_pure,sT,view_sref,viewRef,view_agg,views_cons,views_nil,view_bool,view_int,view_sl,view_nils,view_str,view_tup,view_nilif]):G:=e.mpr h
theorem aLf {G G':Prop} (h:G') (f:Wr G'→G:=by intro h;(repeat (first|(refine W_seqV fun K hK=>?_;(try (refine sLf ?_;try exact True.intro));(repeat refine aI ?_);refine hK _ ?_;clear hK K)|(refine W_seqR fun K hK=>?_;(try (refine sLf ?_;try exact True.intro));(repeat refine aI ?_);refine hK _ ?_;clear hK K)|(refine W_seqD mixed [] (by kernel_rfl) fun K hK=>?_;(try (refine sLf ?_;try exact True.intro));(repeat refine aI ?_);refine hK _ ?_;clear hK K)));exact h.out):G:=f ⟨h⟩
def affM (f:List (Int × RR)) (r:RR):List AV:=[.sl (tab rowM f),.bool r.neg,.sl (u32s r.num),.sl (u32s r.den)]
def affQ (f:List (Int × Rat)) (q:Rat):List AV:=[.sl (tab rowQ f),.bool (decide (q.num<0)),.sl (u32s (limbs q.num.natAbs)),.sl (u32s (limbs q.den))]
theorem lplus_ok (f:List (Int × RR)) (r c:RR) (g:List (Int × RR)) (s:RR) {B C:Nat} (hf:FOk f B) (hg:FOk g C) (hr:r.ok) (hc:c.ok) (hs:s.ok) (h1:B+(nb c.v+C)<8589934592) (h2:nb c.v+nb s.v<17179869184) :
  Pure Tryz.prog 134 [.agg (affM f r),c.av,.agg (affM g s)] (· = .agg (affQ (normF (vals f++if c.v=0 then [] else scaleF c.v (normF (vals g)))) (r.v+c.v*s.v))):=by
 have a1:=lscale_ok c g hc hg (by omega)
 have hsz:Sz (if c.v=0 then [] else scaleF c.v (normF (vals g))) (nb c.v+C):=by
  split
  ·exact ⟨fun v=>by simp [nbv],by simp⟩
  ·exact Sz.scale (NF.norm _) hg.sz.norm c.v
 have a2:=ladd_ok f (rf (if c.v=0 then [] else scaleF c.v (normF (vals g)))) hf (FOk.rf hsz (by omega)) (by omega)
 rw [vals_rf,cF_rf] at a2
 have a3:=rmul_ok c s hc hs
 have a4:=radd_ok r (qr (c.v*s.v)) hr (qr_ok (by have:=nb_mul c.v s.v;omega))
 rw [qr_v,qr_av] at a4
 generalize normF (vals f++_)=R at *
 generalize (if c.v=0 then [] else _)=G at *
 generalize r.v+c.v*s.v=p at *
 generalize c.v*s.v=q at *
 obtain ⟨rn,rm,rd⟩:=r
 obtain ⟨cn,cm,cd⟩:=c
 obtain ⟨sn,sm,sd⟩:=s
 unfold affM affQ
 simp only [RR.av,cF,cL,cQ] at *
 (refine pureW Tryz.func134 rfl (rs:=[Go.ResultVar.cell 6 121]) rfl (n:=22) rfl ?_;simp only [List.length_cons,List.length_nil,List.replicate,List.cons_append,List.nil_append])
 (refine aLf ?_)
 ((refine W_seqD mixed [] (by kernel_rfl) ?_);intro K hK;(refine sLf ?_))
 (refine ⟨by kernel_rfl,_,.pure rfl (a1),?_⟩;(try (refine sLf ?_)))
 (refine ⟨by kernel_rfl,_,.pure rfl (a2),?_⟩;(try (refine sLf ?_)))
 (refine ⟨by kernel_rfl,_,.pure rfl (a3),?_⟩;(try (refine sLf ?_)))
 (refine ⟨by kernel_rfl,_,.pure rfl (a4),?_⟩;(try (refine sLf ?_)))
 (refine hK _ ?_;clear hK K)
 refine W_ret ?_
 (refine qG ?_;try exact True.intro);try (refine sLfV ?_;try exact True.intro)
theorem norm_nil_del (l:List (Int × Rat)) (v:Int) (c:Rat) (h:NF l):normF (([]:List (Int × Rat))++if c=0 then [] else scaleF c (normF (delF l v)))=if c=0 then [] else scaleF c (delF l v):=by
 have hd:NF (delF l v):=⟨h.lt.filter _,fun p hp=>h.nz p (List.mem_filter.1 hp).1⟩
 rw [List.nil_append,norm_self hd]
 split
 ·rfl
 ·rename_i h0;exact norm_self (hd.scale h0)
theorem delF_sz {l:List (Int × Rat)} {B:Nat} (h:Sz l B) (v:Int):Sz (delF l v) B:=by
 refine ⟨fun w=>?_,Nat.le_trans (delF_len l v) h.l⟩
 refine Nat.le_trans ?_ (h.b w)
 unfold delF
 induction l with
 | nil=>exact Nat.le_refl _
 | cons p l ih =>
  have ih:=ih ⟨fun w=>by have:=h.b w;simp only [nbv] at this;omega,by have:=h.l;simp at this;omega⟩
  rw [List.filter_cons]
  split
  ·simp only [nbv];omega
  ·simp only [nbv];omega
theorem lsolve_ok (f:List (Int × RR)) (v:Int) {B:Nat} (hf:FOk f B) (hB:4*B<4294967296) (h0:coef (vals f) v≠0) :
  Pure Tryz.prog 94 [.agg (affM f zeroR),.int .i64 v] (· = .tup [.agg (affQ (scaleF (-(coef (vals f) v)⁻¹) (delF (normF (vals f)) v)) 0),.int .i64 0]):=by
 have b0:=lcoef_ok f v (hf.pf (by omega)) (by omega)
 have hnc:nb (coef (vals f) v)≤1+B:=(hf.pf (by omega)).coef v
 have b1:=rinv_ok (qr (coef (vals f) v)) (qr_ok (by omega))
 rw [qr_v,if_neg h0] at b1
 have b2:=rneg_ok (qr (coef (vals f) v)⁻¹) (qr_ok (by rw [nb_inv];omega))
 rw [qr_v] at b2
 have b3:=lwithout_ok f v hf (by omega)
 have hNF:=NF.norm (vals f)
 have hsz:=hf.sz.norm
 have hc0 : -(coef (vals f) v)⁻¹≠0:=fun h=>h0 (by
  have h1:(coef (vals f) v)⁻¹=0:=by grind
  have:=Rat.inv_inv (coef (vals f) v)
  rw [h1,Rat.inv_zero] at this
  exact this.symm)
 have b4:=lplus_ok [] zeroR (qr (-(coef (vals f) v)⁻¹)) (rf (delF (normF (vals f)) v)) zeroR (B:=0) (C:=B) ⟨by simp,⟨fun v=>by simp [vals,nbv],by simp [vals]⟩⟩ (FOk.rf (delF_sz hsz v) (by omega)) zeroR_ok (qr_ok (by rw [nb_neg,nb_inv];omega)) zeroR_ok (by rw [qr_v,nb_neg,nb_inv];omega) (by rw [qr_v,nb_neg,nb_inv,zeroR_v,nb_zero];omega)
 rw [qr_v,vals_rf,show vals []=[] from rfl,norm_nil_del _ _ _ hNF,if_neg hc0,zeroR_v,Rat.mul_zero,Rat.add_zero] at b4
 generalize scaleF (-(coef (vals f) v)⁻¹) (delF (normF (vals f)) v)=R at *
 generalize delF (normF (vals f)) v=D at *
 generalize -(coef (vals f) v)⁻¹=d at *
 generalize (coef (vals f) v)⁻¹=ci at *
 generalize coef (vals f) v=c at *
 have hz:((0:Int) != 0)=false:=rfl
 have hz0:u32s []=[]:=rfl
 simp only [affM,affQ,zeroR,RR.av,cF,cL,cQE,qr,tab_rf,hz0] at *
 generalize (0:Rat)=z0 at *
 simp only [cQ] at *
 have hz1:tab rowM []=[]:=rfl
 rw [hz1] at b4
 (refine pureW Tryz.func94 rfl (rs:=[Go.ResultVar.cell 4 121,Go.ResultVar.tmp 5]) rfl (n:=30) rfl ?_;simp only [List.length_cons,List.length_nil,List.replicate,List.cons_append,List.nil_append])
 (refine aLf ?_)
 ((refine W_seqV ?_);intro K hK;(refine sLf ?_))
 (refine ⟨by kernel_rfl,_,.pure rfl (b0),?_⟩;(try (refine sLf ?_)))
 (refine ⟨by kernel_rfl,_,.pure rfl (b1),?_⟩;(try (refine sLf ?_)))
 (refine hK _ ?_;clear hK K)
 refine W_seq ?_
 ((refine W_seqV ?_);intro K hK;(refine sLfX hz ?_))
 (refine hK _ ?_;clear hK K)
 (refine W_cf rfl ?_)
 refine W_skip ?_
 simp only [thenW]
 ((refine W_seqD mixed [] (by kernel_rfl) ?_);intro K hK;(refine sLf ?_))
 (refine ⟨by kernel_rfl,_,.pure rfl (b2),?_⟩;(try (refine sLf ?_)))
 (refine ⟨by kernel_rfl,_,.pure rfl (b3),?_⟩;(try (refine sLf ?_)))
 (refine ⟨by kernel_rfl,_,.pure rfl (b4),?_⟩;(try (refine sLf ?_)))
 (refine hK _ ?_;clear hK K)
 refine W_ret ?_
 (refine qG ?_;try exact True.intro);try (refine sLfV ?_;try exact True.intro)
theorem sPa {G G':Prop} (h:G') (e:G=G':=by conv=>lhs;simp (disch:=omega) only [rowsOf,cNat,cN,St.ret,St.seth,Eff.app,Eff.wi,sepL,guardOf,St.known,objOf,List.set,sliceW,litW,copyW,lenOf,bnd,mxOk,ofCells,TI.isAgg,cellsOf,storable,AV.one,dead,laid,overlay,reduceCtorEq,Int.reduceLE,Int.reduceLT,Int.reduceSub,Int.reduceAdd,Nat.reduceMul,Int.reduceToNat,Nat.reducePow,Int.reduceNeg,Nat.reduceAdd,Nat.reduceLT,Nat.reduceLeDiff,sA,sB,tab_length,rowL_all,rowL_one,rowL_pure,sT]):G:=e.mpr h
theorem sPaX {G G' P:Prop} (p:P) (h:G') (e:P→G=G':=by intro p;conv=>lhs;simp (disch:=omega) only [rowsOf,cNat,cN,St.ret,St.seth,Eff.app,Eff.wi,sepL,guardOf,St.known,objOf,List.set,sliceW,litW,copyW,lenOf,bnd,mxOk,ofCells,TI.isAgg,cellsOf,storable,AV.one,dead,laid,overlay,reduceCtorEq,Int.reduceLE,Int.reduceLT,Int.reduceSub,Int.reduceAdd,Nat.reduceMul,Int.reduceToNat,Nat.reducePow,Int.reduceNeg,Nat.reduceAdd,Nat.reduceLT,Nat.reduceLeDiff,sA,sB,tab_length,rowL_all,rowL_one,rowL_pure,sT,p]):G:=(e p).mpr h
theorem sPaV {G G':Prop} (h:G') (e:G=G':=by conv=>lhs;simp (disch:=omega) only [rowsOf,cNat,cN,St.ret,St.seth,Eff.app,Eff.wi,sepL,guardOf,St.known,objOf,List.set,sliceW,litW,copyW,lenOf,bnd,mxOk,ofCells,TI.isAgg,cellsOf,storable,AV.one,dead,laid,overlay,reduceCtorEq,Int.reduceLE,Int.reduceLT,Int.reduceSub,Int.reduceAdd,Nat.reduceMul,Int.reduceToNat,Nat.reducePow,Int.reduceNeg,Nat.reduceAdd,Nat.reduceLT,Nat.reduceLeDiff,sA,sB,tab_length,rowL_all,rowL_one,rowL_pure,sT,view_sref,viewRef,view_agg,views_cons,views_nil,view_bool,view_int,view_sl,view_nils,view_str,view_tup,view_nilif]):G:=e.mpr h
theorem aPa {G G':Prop} (h:G') (f:Wr G'→G:=by intro h;(repeat (first|(refine W_seqV fun K hK=>?_;(try (refine sPa ?_;try exact True.intro));(repeat refine aI ?_);refine hK _ ?_;clear hK K)|(refine W_seqR fun K hK=>?_;(try (refine sPa ?_;try exact True.intro));(repeat refine aI ?_);refine hK _ ?_;clear hK K)|(refine W_seqD mixed [] (by kernel_rfl) fun K hK=>?_;(try (refine sPa ?_;try exact True.intro));(repeat refine aI ?_);refine hK _ ?_;clear hK K)));exact h.out):G:=f ⟨h⟩
structure BB where
 has:Bool
 at_:DD
 why:Int
def BB.cells (b:BB):List AV:=[.bool b.has,.bool b.at_.a.neg,.sl (u32s b.at_.a.num),.sl (u32s b.at_.a.den),.bool b.at_.b.neg,.sl (u32s b.at_.b.num),.sl (u32s b.at_.b.den),.int .i64 b.why]
structure LL where
 lower:BB
 upper:BB
def LL.cells (l:LL):List AV:=[.bool l.lower.has,.bool l.lower.at_.a.neg,.sl (u32s l.lower.at_.a.num),.sl (u32s l.lower.at_.a.den),.bool l.lower.at_.b.neg,.sl (u32s l.lower.at_.b.num),.sl (u32s l.lower.at_.b.den),.int .i64 l.lower.why,
 .bool l.upper.has,.bool l.upper.at_.a.neg,.sl (u32s l.upper.at_.a.num),.sl (u32s l.upper.at_.a.den),.bool l.upper.at_.b.neg,.sl (u32s l.upper.at_.b.num),.sl (u32s l.upper.at_.b.den),.int .i64 l.upper.why]
def zeroD0:DD:=⟨zeroR,zeroR⟩
def zeroB:BB:=⟨false,zeroD0,0⟩
def zeroL:LL:=⟨zeroB,zeroB⟩
instance:Inhabited LL:=⟨zeroL⟩
def rowL (l:LL):List AV:=l.cells
theorem rowL_all (f:List LL):AllLen 16 (tab rowL f):=tab_all (k:=16) (fun _=>rfl) f
theorem rowL_one (f:List LL):AllOne (tab rowL f):=tab_one (fun _=>rfl) f
theorem rowL_pure (f:List LL):AllPure (tab rowL f):=tab_pure (fun _=>rfl) f
def limOf (ls:List LL) (v:Int):LL:=if 0≤v∧v<(ls.length:Int) then ls.getD v.toNat default else zeroL
theorem f10limit_ok (ls:List LL) (v:Int):Pure Tryz.prog 147 [.sl (tab rowL ls),.int .i64 v] (· = .agg (limOf ls v).cells):=by
 unfold limOf
 by_cases h0:0≤v
 ·have h1:¬ v<0:=by omega
  by_cases h2:v<(ls.length:Int)
  ·have h3:¬ (ls.length:Int)≤v:=by omega
   rw [if_pos ⟨h0,h2⟩]
   have hXi:(tab rowL ls).getD v.toNat []=rowL (ls.getD v.toNat default):=tab_getD (by omega)
   generalize ls.getD v.toNat default=l at *
   simp only [rowL,LL.cells] at hXi
   (refine pureW Tryz.func147 rfl (rs:=[Go.ResultVar.cell 4 158]) rfl (n:=18) rfl ?_;simp only [List.length_cons,List.length_nil,List.replicate,List.cons_append,List.nil_append])
   (refine aPa ?_)
   refine W_seq ?_
   ((refine W_seqV ?_);intro K hK;(refine sPaX (And.intro h1 h3) ?_))
   (refine hK _ ?_;clear hK K)
   (refine W_cf rfl ?_)
   refine W_skip ?_
   simp only [thenW]
   ((refine W_seqV ?_);intro K hK;(refine sPaX (And.intro h0 (And.intro h2 hXi)) ?_))
   (refine hK _ ?_;clear hK K)
   refine W_ret ?_
   (refine qG ?_;try exact True.intro);try (refine sPaV ?_;try exact True.intro)
   rfl
  ·have h3:(ls.length:Int)≤v:=by omega
   rw [if_neg (fun h=>h2 h.2)]
   (refine pureW Tryz.func147 rfl (rs:=[Go.ResultVar.cell 4 158]) rfl (n:=18) rfl ?_;simp only [List.length_cons,List.length_nil,List.replicate,List.cons_append,List.nil_append])
   (refine aPa ?_)
   refine W_seq ?_
   ((refine W_seqV ?_);intro K hK;(refine sPaX (And.intro h1 h3) ?_))
   (refine hK _ ?_;clear hK K)
   (refine W_ct rfl ?_)
   ((refine W_seqV ?_);intro K hK;(refine sPa ?_))
   (refine hK _ ?_;clear hK K)
   refine W_ret ?_
   (refine qG ?_;try exact True.intro);try (refine sPaV ?_;try exact True.intro)
   rfl
 ·have h1:v<0:=by omega
  rw [if_neg (fun h=>h0 h.1)]
  (refine pureW Tryz.func147 rfl (rs:=[Go.ResultVar.cell 4 158]) rfl (n:=18) rfl ?_;simp only [List.length_cons,List.length_nil,List.replicate,List.cons_append,List.nil_append])
  (refine aPa ?_)
  refine W_seq ?_
  ((refine W_seqV ?_);intro K hK;(refine sPaX h1 ?_))
  (refine hK _ ?_;clear hK K)
  (refine W_ct rfl ?_)
  ((refine W_seqV ?_);intro K hK;(refine sPa ?_))
  (refine hK _ ?_;clear hK K)
  refine W_ret ?_
  (refine qG ?_;try exact True.intro);try (refine sPaV ?_;try exact True.intro)
  rfl
theorem ilimit_ok (ls:List LL) (v:Int):Pure Tryz.prog 216 [.agg [.sl (tab rowL ls)],.int .i64 v] (· = .agg (limOf ls v).cells):=by
 unfold limOf
 by_cases h0:0≤v
 ·have h1:¬ v<0:=by omega
  by_cases h2:v<(ls.length:Int)
  ·have h3:¬ (ls.length:Int)≤v:=by omega
   rw [if_pos ⟨h0,h2⟩]
   have hXi:(tab rowL ls).getD v.toNat []=rowL (ls.getD v.toNat default):=tab_getD (by omega)
   generalize ls.getD v.toNat default=l at *
   simp only [rowL,LL.cells] at hXi
   (refine pureW Tryz.func216 rfl (rs:=[Go.ResultVar.cell 4 158]) rfl (n:=20) rfl ?_;simp only [List.length_cons,List.length_nil,List.replicate,List.cons_append,List.nil_append])
   (refine aPa ?_)
   refine W_seq ?_
   ((refine W_seqV ?_);intro K hK;(refine sPaX (And.intro h1 h3) ?_))
   (refine hK _ ?_;clear hK K)
   (refine W_cf rfl ?_)
   refine W_skip ?_
   simp only [thenW]
   ((refine W_seqV ?_);intro K hK;(refine sPaX (And.intro h0 (And.intro h2 hXi)) ?_))
   (refine hK _ ?_;clear hK K)
   refine W_ret ?_
   (refine qG ?_;try exact True.intro);try (refine sPaV ?_;try exact True.intro)
   rfl
  ·have h3:(ls.length:Int)≤v:=by omega
   rw [if_neg (fun h=>h2 h.2)]
   (refine pureW Tryz.func216 rfl (rs:=[Go.ResultVar.cell 4 158]) rfl (n:=20) rfl ?_;simp only [List.length_cons,List.length_nil,List.replicate,List.cons_append,List.nil_append])
   (refine aPa ?_)
   refine W_seq ?_
   ((refine W_seqV ?_);intro K hK;(refine sPaX (And.intro h1 h3) ?_))
   (refine hK _ ?_;clear hK K)
   (refine W_ct rfl ?_)
   ((refine W_seqV ?_);intro K hK;(refine sPa ?_))
   (refine hK _ ?_;clear hK K)
   refine W_ret ?_
   (refine qG ?_;try exact True.intro);try (refine sPaV ?_;try exact True.intro)
   rfl
 ·have h1:v<0:=by omega
  rw [if_neg (fun h=>h0 h.1)]
  (refine pureW Tryz.func216 rfl (rs:=[Go.ResultVar.cell 4 158]) rfl (n:=20) rfl ?_;simp only [List.length_cons,List.length_nil,List.replicate,List.cons_append,List.nil_append])
  (refine aPa ?_)
  refine W_seq ?_
  ((refine W_seqV ?_);intro K hK;(refine sPaX h1 ?_))
  (refine hK _ ?_;clear hK K)
  (refine W_ct rfl ?_)
  ((refine W_seqV ?_);intro K hK;(refine sPa ?_))
  (refine hK _ ?_;clear hK K)
  refine W_ret ?_
  (refine qG ?_;try exact True.intro);try (refine sPaV ?_;try exact True.intro)
  rfl
theorem ilower_ok (ls:List LL) (v:Int):Pure Tryz.prog 183 [.agg [.sl (tab rowL ls)],.int .i64 v] (· = .agg (limOf ls v).lower.cells):=by
 have h1:=ilimit_ok ls v
 generalize limOf ls v=l at *
 simp only [LL.cells] at h1
 (refine pureW Tryz.func183 rfl (rs:=[Go.ResultVar.cell 4 156]) rfl (n:=9) rfl ?_;simp only [List.length_cons,List.length_nil,List.replicate,List.cons_append,List.nil_append])
 (refine aPa ?_)
 ((refine W_seqV ?_);intro K hK;(refine sPa ?_))
 (refine ⟨by kernel_rfl,_,.pure rfl (h1),?_⟩;(try (refine sPa ?_)))
 (refine hK _ ?_;clear hK K)
 refine W_ret ?_
 (refine qG ?_;try exact True.intro);try (refine sPaV ?_;try exact True.intro)
 rfl
theorem iupper_ok (ls:List LL) (v:Int):Pure Tryz.prog 184 [.agg [.sl (tab rowL ls)],.int .i64 v] (· = .agg (limOf ls v).upper.cells):=by
 have h1:=ilimit_ok ls v
 generalize limOf ls v=l at *
 simp only [LL.cells] at h1
 (refine pureW Tryz.func184 rfl (rs:=[Go.ResultVar.cell 4 156]) rfl (n:=9) rfl ?_;simp only [List.length_cons,List.length_nil,List.replicate,List.cons_append,List.nil_append])
 (refine aPa ?_)
 ((refine W_seqV ?_);intro K hK;(refine sPa ?_))
 (refine ⟨by kernel_rfl,_,.pure rfl (h1),?_⟩;(try (refine sPa ?_)))
 (refine hK _ ?_;clear hK K)
 refine W_ret ?_
 (refine qG ?_;try exact True.intro);try (refine sPaV ?_;try exact True.intro)
 rfl
def pickB (u:Bool) (c:Rat) (l:LL):BB:=if (decide (0<rs c) == u)=true then l.upper else l.lower
def sideF (u:Bool) (ls:List LL):AV := .fn (.func (if u then 184 else 183)) [.agg [.sl (tab rowL ls)]] []
theorem side_ok (u:Bool) (ls:List LL) (v:Int):Pure Tryz.prog (if u then 184 else 183) [.agg [.sl (tab rowL ls)],.int .i64 v] (· = .agg (if u then (limOf ls v).upper else (limOf ls v).lower).cells):=by
 cases u
 ·exact ilower_ok ls v
 ·exact iupper_ok ls v
theorem sPb {G G':Prop} (h:G') (e:G=G':=by conv=>lhs;simp (disch:=omega) only [rowsOf,cNat,cN,St.ret,St.seth,Eff.app,Eff.wi,sepL,guardOf,St.known,objOf,List.set,sliceW,litW,copyW,lenOf,bnd,mxOk,ofCells,TI.isAgg,cellsOf,storable,AV.one,dead,laid,overlay,reduceCtorEq,Int.reduceLE,Int.reduceLT,Int.reduceSub,Int.reduceAdd,Nat.reduceMul,Int.reduceToNat,Nat.reducePow,Int.reduceNeg,Nat.reduceAdd,Nat.reduceLT,Nat.reduceLeDiff,sA,sB,Nat.reduceEqDiff,cQ,cD,tab_length,List.take_length,List.length_append,tab_drop,tab_take,tab_append,tab_nil,rowQ_all,rowQ_one,rowQ_pure,sT]):G:=e.mpr h
theorem sPbX {G G' P:Prop} (p:P) (h:G') (e:P→G=G':=by intro p;conv=>lhs;simp (disch:=omega) only [rowsOf,cNat,cN,St.ret,St.seth,Eff.app,Eff.wi,sepL,guardOf,St.known,objOf,List.set,sliceW,litW,copyW,lenOf,bnd,mxOk,ofCells,TI.isAgg,cellsOf,storable,AV.one,dead,laid,overlay,reduceCtorEq,Int.reduceLE,Int.reduceLT,Int.reduceSub,Int.reduceAdd,Nat.reduceMul,Int.reduceToNat,Nat.reducePow,Int.reduceNeg,Nat.reduceAdd,Nat.reduceLT,Nat.reduceLeDiff,sA,sB,Nat.reduceEqDiff,cQ,cD,tab_length,List.take_length,List.length_append,tab_drop,tab_take,tab_append,tab_nil,rowQ_all,rowQ_one,rowQ_pure,sT,p]):G:=(e p).mpr h
theorem sPbV {G G':Prop} (h:G') (e:G=G':=by conv=>lhs;simp (disch:=omega) only [rowsOf,cNat,cN,St.ret,St.seth,Eff.app,Eff.wi,sepL,guardOf,St.known,objOf,List.set,sliceW,litW,copyW,lenOf,bnd,mxOk,ofCells,TI.isAgg,cellsOf,storable,AV.one,dead,laid,overlay,reduceCtorEq,Int.reduceLE,Int.reduceLT,Int.reduceSub,Int.reduceAdd,Nat.reduceMul,Int.reduceToNat,Nat.reducePow,Int.reduceNeg,Nat.reduceAdd,Nat.reduceLT,Nat.reduceLeDiff,sA,sB,Nat.reduceEqDiff,cQ,cD,tab_length,List.take_length,List.length_append,tab_drop,tab_take,tab_append,tab_nil,rowQ_all,rowQ_one,rowQ_pure,sT,view_sref,viewRef,view_agg,views_cons,views_nil,view_bool,view_int,view_sl,view_nils,view_str,view_tup,view_nilif]):G:=e.mpr h
theorem aPb {G G':Prop} (h:G') (f:Wr G'→G:=by intro h;(repeat (first|(refine W_seqV fun K hK=>?_;(try (refine sPb ?_;try exact True.intro));(repeat refine aI ?_);refine hK _ ?_;clear hK K)|(refine W_seqR fun K hK=>?_;(try (refine sPb ?_;try exact True.intro));(repeat refine aI ?_);refine hK _ ?_;clear hK K)|(refine W_seqD mixed [] (by kernel_rfl) fun K hK=>?_;(try (refine sPb ?_;try exact True.intro));(repeat refine aI ?_);refine hK _ ?_;clear hK K)));exact h.out):G:=f ⟨h⟩
structure II where
 var:Int
 upper:Bool
 at_:DD
 by_:List (Int × RR)
def II.cells (i:II):List AV:=[.int .i64 i.var,.bool i.upper,.bool i.at_.a.neg,.sl (u32s i.at_.a.num),.sl (u32s i.at_.a.den),.bool i.at_.b.neg,.sl (u32s i.at_.b.num),.sl (u32s i.at_.b.den),.sl (tab rowM i.by_)]
def zeroI:II:=⟨0,false,zeroD0,[]⟩
def bndM (u:Bool) (ls:List LL) (m:Int × Rat):BB:=pickB u m.2 (limOf ls m.1)
def sumA (u:Bool) (ls:List LL) (l:List (Int × Rat)):Rat × Rat:=l.foldl (fun s m=>dadd s (dscale m.2 (bndM u ls m).at_.v)) (0,0)
def sumB (u:Bool) (ls:List LL) (l:List (Int × Rat)):List (Int × Rat):=l.map fun m=>((bndM u ls m).why,absQ m.2)
def allH (u:Bool) (ls:List LL) (l:List (Int × Rat)):Bool:=l.all fun m=>(bndM u ls m).has
theorem sumA_take (u:Bool) (ls:List LL) {l:List (Int × Rat)} {i:Nat} (h:i<l.length):sumA u ls (l.take (i+1))=dadd (sumA u ls (l.take i)) (dscale (l.getD i default).2 (bndM u ls (l.getD i default)).at_.v):=by
 unfold sumA
 rw [take_succ_foldl _ _ h]
theorem sumB_take (u:Bool) (ls:List LL) {l:List (Int × Rat)} {i:Nat} (h:i<l.length):sumB u ls (l.take (i+1))=sumB u ls (l.take i)++[((bndM u ls (l.getD i default)).why,absQ (l.getD i default).2)]:=by
 unfold sumB
 rw [List.take_succ_eq_append_getElem h,List.map_append]
 simp [List.getD_eq_getElem?_getD,h]
theorem allH_take (u:Bool) (ls:List LL) {l:List (Int × Rat)} {i:Nat} (h:i<l.length):allH u ls (l.take (i+1))=(allH u ls (l.take i)&&(bndM u ls (l.getD i default)).has):=by
 unfold allH
 rw [List.take_succ_eq_append_getElem h,List.all_append]
 simp [List.getD_eq_getElem?_getD,h]
theorem allH_false (u:Bool) (ls:List LL) {l:List (Int × Rat)} {i:Nat} (h:i<l.length) (hb:(bndM u ls (l.getD i default)).has=false):allH u ls l=false:=by
 unfold allH
 rw [Bool.eq_false_iff]
 intro h1
 have:=List.all_eq_true.1 h1 (l.getD i default) (by simp [List.getD_eq_getElem?_getD,h])
 rw [hb] at this
 cases this
theorem bndM_eq (u:Bool) (ls:List LL) (m:Int × Rat):(0<rs m.2∧bndM u ls m=if u=true then (limOf ls m.1).upper else (limOf ls m.1).lower)∨(¬ 0<rs m.2∧bndM u ls m=if (!u)=true then (limOf ls m.1).upper else (limOf ls m.1).lower):=by
 by_cases hp:0<rs m.2
 ·left;refine ⟨hp,?_⟩
  cases u <;> simp [bndM,pickB,hp]
 ·right;refine ⟨hp,?_⟩
  cases u <;> simp [bndM,pickB,hp]
structure SumOk (u:Bool) (ls:List LL) (l:List (Int × Rat)):Prop where
 len:l.length<1099511627776
 part:∀ m∈l,nb m.2≤4294967296∧(bndM u ls m).at_.ok∧nb2 (bndM u ls m).at_.v≤4294967296
 pre:∀ i,nb2 (sumA u ls (l.take i))≤4294967296
theorem nb_abs (q:Rat):nb (absQ q)=nb q:=by unfold absQ;split <;> simp [nb_neg]
def sumR (u:Bool) (ls:List LL) (l:List (Int × Rat)):AV :=
 if allH u ls l=true then .tup [.agg (II.cells ⟨0,false,dq (sumA u ls l),rf (sumB u ls l)⟩),.bool true] else .tup [.agg zeroI.cells,.bool false]
set_option maxHeartbeats 8000000 in
theorem isum_ok (u:Bool) (ls:List LL) (l:List (Int × Rat)) (h:SumOk u ls l) :
  Pure Tryz.prog 182 [.sl (tab rowQ l),sideF u ls,sideF (!u) ls] (·=sumR u ls l):=by
 have hof:=dof_ok zeroR zeroR_ok
 rw [zeroR_v] at hof
 have hz0:u32s []=[]:=rfl
 simp only [zeroR,RR.av,hz0] at hof
 have hA:=fun i hi=>@sumA_take u ls l i hi
 have hBt:=fun i hi=>@sumB_take u ls l i hi
 have hH:=fun i hi=>@allH_take u ls l i hi
 have hF:=fun i hi=>@allH_false u ls l i hi
 have hBl:∀ i,i≤l.length→(sumB u ls (l.take i)).length=i:=fun i hi=>by simp [sumB];omega
 have A0:sumA u ls (l.take 0)=(0,0):=rfl
 have B0:sumB u ls (l.take 0)=[]:=rfl
 have H0:allH u ls (l.take 0)=true:=rfl
 have hdl:sumR u ls l=if allH u ls (l.take l.length)=true then .tup [.agg (II.cells ⟨0,false,dq (sumA u ls (l.take l.length)),rf (sumB u ls (l.take l.length))⟩),.bool true] else .tup [.agg zeroI.cells,.bool false]:=by rw [List.take_length];rfl
 have hEl:allH u ls (l.take l.length)=allH u ls l:=by rw [List.take_length]
 have hlen:=h.len
 have hpre:=h.pre
 have hfst:=fun i=>bndM_eq u ls (l.getD i default)
 have hsu:=fun v=>side_ok u ls v
 have hsd:=fun v=>side_ok (!u) ls v
 have hpt:∀ i,i<l.length→nb (l.getD i default).2≤4294967296∧(bndM u ls (l.getD i default)).at_.ok∧nb2 (bndM u ls (l.getD i default)).at_.v≤4294967296:=fun i hi=>h.part _ (by simp [List.getD_eq_getElem?_getD,hi])
 clear h
 rw [hdl]
 clear hdl
 generalize hEA:(fun i=>sumA u ls (l.take i))=EA at *
 have hEA':∀ i,sumA u ls (l.take i)=EA i:=fun i=>congrFun hEA i
 generalize hEB:(fun i=>sumB u ls (l.take i))=EB at *
 have hEB':∀ i,sumB u ls (l.take i)=EB i:=fun i=>congrFun hEB i
 generalize hEH:(fun i=>allH u ls (l.take i))=EH at *
 have hEH':∀ i,allH u ls (l.take i)=EH i:=fun i=>congrFun hEH i
 simp only [hEA',hEB',hEH'] at *
 clear hEA hEA' hEB hEB' hEH hEH'
 unfold sideF
 generalize hgu:(if u=true then 184 else 183)=gu at *
 generalize hgd:(if (!u)=true then 184 else 183)=gd at *
 have heu:enters Tryz.prog gu=true:=by subst hgu;cases u <;> kernel_rfl
 have hed:enters Tryz.prog gd=true:=by subst hgd;cases u <;> kernel_rfl
 generalize allH u ls l=all at *
 (refine pureW Tryz.func182 rfl (rs:=[Go.ResultVar.cell 6 134,Go.ResultVar.tmp 7]) rfl (n:=59) rfl ?_;simp only [List.length_cons,List.length_nil,List.replicate,List.cons_append,List.nil_append])
 (refine aPb ?_)
 ((refine W_seqV ?_);intro K hK;(refine sPb ?_))
 (refine ⟨by kernel_rfl,_,.pure rfl (hof),?_⟩;(try (refine sPb ?_)))
 (refine hK _ ?_;clear hK K)
 refine W.le ?_ (Le_nilO 8 0 8 55 161 4 true rfl rfl rfl rfl)
 simp only [List.set]
 ((refine W_seq (W_seqV ?_));intro K hK;(refine sPb ?_))
 (refine hK _ ?_;clear hK K)
 refine W_block (W_loop (fun t:{t:Nat // t≤l.length∧EH t=true} =>
   ⟨[.any,.fn (.func gu) [.agg [.sl (tab rowL ls)]] [],.fn (.func gd) [.agg [.sl (tab rowL ls)]] [],.any,.any,.any,.ptr 6 0 0,.any,.ptr 8 0 0,.any,.any,.any,.any,.any,.any,.sl (tab rowQ l),.int .i64 l.length,.int .i64 t.1,.any,.any,.any,.any,.any,.any,.any,.any,.any,.any,.any,.any,.any,.any,.any,.any,.any,.any,.any,.any,.any,.any,.any,.any,.any,.any,.any,.any,.any,.any,.any,.any,.any,.any,.any,.any,.any,.any,.any,.any,.any],[.dead,.dead,.dead,.dead,.dead,.dead,.arr 134 9 false [[.int .i64 0,.bool false,.bool false,.nils,.nils,.bool false,.nils,.nils,.nils]],.dead,.arr 134 9 false [[.int .i64 0,.bool false,.bool (decide ((EA t.1).1.num<0)),.sl (u32s (limbs (EA t.1).1.num.natAbs)),.sl (u32s (limbs (EA t.1).1.den)),.bool (decide ((EA t.1).2.num<0)),.sl (u32s (limbs (EA t.1).2.num.natAbs)),.sl (u32s (limbs (EA t.1).2.den)),.sref 55 0 t.1]],.dead,.dead,.dead,.dead,.dead,.dead,.dead,.dead,.dead,.dead,.dead,.dead,.dead,.dead,.dead,.dead,.dead,.dead,.dead,.dead,.dead,.dead,.dead,.dead,.dead,.dead,.dead,.dead,.dead,.dead,.dead,.dead,.dead,.dead,.dead,.dead,.dead,.dead,.dead,.dead,.dead,.dead,.dead,.dead,.dead,.dead,.arr 161 4 true (tab rowQ (EB t.1)),.dead,.dead,.dead]⟩) (fun t=>l.length-t.1)
   ⟨0,by omega,H0⟩ (Le_of (by simp [leE]) (by simp [A0,B0,tab])) fun t=>?_)
 obtain ⟨i,hi,hHi⟩:=t
 dsimp only
 by_cases hlt:i<l.length
 ·have hXi:(tab rowQ l).getD i []=rowQ (l.getD i default):=tab_getD hlt
  have hAi:=hA i hlt
  have hBi:=hBt i hlt
  have hHs:=hH i hlt
  have hFi:=hF i hlt
  have hli:=hBl i (by omega)
  have hfi:=hfst i
  obtain ⟨hp1,hp2,hp3⟩:=hpt i hlt
  have hpi:=hpre i
  have hpi1:=hpre (i+1)
  generalize l.getD i default=m at *
  generalize bndM u ls m=bm at *
  obtain ⟨v,c⟩:=m
  dsimp only at *
  have hsu1:=hsu v
  have hsd1:=hsd v
  generalize (if u=true then (limOf ls v).upper else (limOf ls v).lower)=bu at *
  generalize (if (!u)=true then (limOf ls v).upper else (limOf ls v).lower)=bd at *
  have hsg:=rsign_ok (qr c) (qr_ok (by omega))
  rw [qr_v] at hsg
  change Pure _ _ _ (· = .int .i64 (rs c)) at hsg
  have hab:=rabs_ok (qr c) (qr_ok (by omega))
  rw [qr_v] at hab
  have hsc:=dscale_ok (qr c) bm.at_ (qr_ok (by omega)) hp2
  rw [qr_v] at hsc
  have hsn:=nb2_scale c bm.at_.v
  have had:=dadd_ok (dq (EA i)) (dq (dscale c bm.at_.v)) (dq_ok (by omega)) (dq_ok (by omega))
  rw [dq_v,dq_v,← hAi,dq_av,dq_av] at had
  clear hA hBt hH hF hBl hfst hpt hpre hsu hsd hpi hpi1 hsn
  generalize dscale c bm.at_.v=ds at *
  generalize EA i=ea at *
  generalize EB i=eb at *
  generalize absQ c=ab at *
  simp only [rowQ] at hXi
  simp only [RR.av,qr,cD,cQ] at hsg hab hsc had
  obtain ⟨h1,⟨⟨x1,x2,x3⟩,⟨x4,x5,x6⟩⟩,x7⟩:=bm
  obtain ⟨y0,⟨⟨y1,y2,y3⟩,⟨y4,y5,y6⟩⟩,y7⟩:=bu
  obtain ⟨z0,⟨⟨z1,z2,z3⟩,⟨z4,z5,z6⟩⟩,z7⟩:=bd
  simp only [BB.cells,DD.av,DD.cells] at hsu1 hsd1 hsc
  refine W_seq ?_
  ((refine W_regV ?_);intro K hK;(refine sPbX hlt ?_))
  (refine hK _ ?_;clear hK K)
  refine W_seq ?_
  (refine W_ct rfl ?_)
  refine W_skip ?_
  simp only [thenW]
  refine W_seq ?_
  refine W_block ?_
  ((refine W_seqV ?_);intro K hK;(refine sPbX (And.intro hXi hlt) ?_))
  (refine hK _ ?_;clear hK K)
  ((refine W_seqV ?_);intro K hK;(refine sPb ?_))
  (repeat refine aI ?_)
  refine ⟨_,.pure rfl hsd1,?_⟩
  (refine sPb ?_;try exact True.intro)
  (refine hK _ ?_;clear hK K)
  clear hsd1
  refine W_join (fun s'=>Le [] s' ⟨[.any,.fn (.func gu) [.agg [.sl (tab rowL ls)]] [],.fn (.func gd) [.agg [.sl (tab rowL ls)]] [],.any,.any,.any,.ptr 6 0 0,.any,.ptr 8 0 0,.any,.ptr 10 0 0,.ptr 11 0 0,.any,.any,.any,.sl (tab rowQ l),.int .i64 l.length,.int .i64 i,.any,.any,.any,.any,.any,.any,.any,.any,.any,.any,.any,.any,.any,.any,.any,.any,.any,.any,.any,.any,.any,.any,.any,.any,.any,.any,.any,.any,.any,.any,.any,.any,.any,.any,.any,.any,.any,.any,.any,.any,.any],[.dead,.dead,.dead,.dead,.dead,.dead,.arr 134 9 false [[.int .i64 0,.bool false,.bool false,.nils,.nils,.bool false,.nils,.nils,.nils]],.dead,.arr 134 9 false [[.int .i64 0,.bool false,.bool (decide (ea.1.num<0)),.sl (u32s (limbs ea.1.num.natAbs)),.sl (u32s (limbs ea.1.den)),.bool (decide (ea.2.num<0)),.sl (u32s (limbs ea.2.num.natAbs)),.sl (u32s (limbs ea.2.den)),.sref 55 0 i]],.dead,.arr 55 4 false [[.int .i64 v,.bool (decide (c.num<0)),.sl (u32s (limbs c.num.natAbs)),.sl (u32s (limbs c.den))]],.arr 156 8 false [[.bool h1,.bool x1,.sl (u32s x2),.sl (u32s x3),.bool x4,.sl (u32s x5),.sl (u32s x6),.int .i64 x7]],.dead,.dead,.dead,.dead,.dead,.dead,.dead,.dead,.dead,.dead,.dead,.dead,.dead,.dead,.dead,.dead,.dead,.dead,.dead,.dead,.dead,.dead,.dead,.dead,.dead,.dead,.dead,.dead,.dead,.dead,.dead,.dead,.dead,.dead,.dead,.dead,.dead,.dead,.dead,.dead,.dead,.dead,.dead,.arr 161 4 true (tab rowQ eb),.dead,.dead,.dead]⟩) ?_ ?_
  ·rcases hfi with ⟨hg,he⟩ | ⟨hg,he⟩
   ·have hgb:=decide_eq_true hg
    cases he
    refine W_seq ?_
    ((refine W_regV ?_);intro K hK;(refine sPb ?_))
    (refine ⟨by kernel_rfl,_,.pure rfl (hsg),?_⟩;(try (refine sPb ?_)))
    rw [hgb]
    (refine hK _ ?_;clear hK K)
    (refine W_ct rfl ?_)
    ((refine W_regV ?_);intro K hK;(refine sPb ?_))
    (repeat refine aI ?_)
    refine ⟨_,.pure rfl hsu1,?_⟩
    (refine sPb ?_;try exact True.intro)
    (refine hK _ ?_;clear hK K)
    simp only [thenW]
    exact Le_drop (by simp [leE]) (by simp [leH]) rfl rfl
   ·have hgb:=decide_eq_false hg
    cases he
    refine W_seq ?_
    ((refine W_regV ?_);intro K hK;(refine sPb ?_))
    (refine ⟨by kernel_rfl,_,.pure rfl (hsg),?_⟩;(try (refine sPb ?_)))
    rw [hgb]
    (refine hK _ ?_;clear hK K)
    (refine W_cf rfl ?_)
    refine W_skip ?_
    simp only [thenW]
    exact Le_drop (by simp [leE]) (by simp [leH]) rfl rfl
  intro s' hle
  refine W.le ?_ hle
  clear hle s' hfi hsg hsu1
  cases h1
  ·have hall:=hFi rfl
   rw [hEl,hall]
   refine W_seq ?_
   ((refine W_seqV ?_);intro K hK;(refine sPb ?_))
   (refine hK _ ?_;clear hK K)
   (refine W_ct rfl ?_)
   ((refine W_seqV ?_);intro K hK;(refine sPb ?_))
   (refine hK _ ?_;clear hK K)
   refine W_ret ?_
   (refine qG ?_;try exact True.intro);try (refine sPbV ?_;try exact True.intro)
   simp [II.cells,zeroI,zeroD0,zeroR,tab,u32s]
  ·rw [Bool.and_true] at hHs
   refine W_seq ?_
   ((refine W_seqV ?_);intro K hK;(refine sPb ?_))
   (refine hK _ ?_;clear hK K)
   (refine W_cf rfl ?_)
   refine W_skip ?_
   simp only [thenW]
   ((refine W_seqD mixed [] (by kernel_rfl) ?_);intro K hK;(refine sPb ?_))
   (refine ⟨by kernel_rfl,_,.pure rfl (hsc),?_⟩;(try (refine sPb ?_)))
   (refine ⟨by kernel_rfl,_,.pure rfl (had),?_⟩;(try (refine sPb ?_)))
   (refine hK _ ?_;clear hK K)
   ((refine W_regS mixed 9 [] (by kernel_rfl) ?_);intro K hK;(refine sPbX hli ?_))
   (refine ⟨by kernel_rfl,_,.pure rfl (hab),?_⟩;(try (refine sPb ?_));(repeat refine aI ?_))
   (refine hK _ ?_;clear hK K)
   simp only [blockW,thenW]
   ((refine W_regV ?_);intro K hK;(refine sPb ?_))
   (refine hK _ ?_;clear hK K)
   simp only [blockW,thenW]
   refine ⟨⟨i+1,by omega,by rw [hHs];exact hHi⟩,Le_drop (by simp [leE]) (by simp [leH,hBi,← tab_snoc,rowQ,tab_take,List.take_of_length_le,hli]) rfl rfl,?_⟩
   dsimp only
   omega
 ·obtain rfl:i=l.length:=by omega
  have hli:=hBl l.length (by omega)
  refine W_seq ?_
  ((refine W_regV ?_);intro K hK;(refine sPb ?_))
  (refine hK _ ?_;clear hK K)
  refine W_seq ?_
  (refine W_cf rfl ?_)
  refine W_exit ?_
  simp only [thenW,blockW,if_true]
  ((refine W_seqV ?_);intro K hK;(refine sPb ?_))
  (refine hK _ ?_;clear hK K)
  refine W_ret ?_
  (refine qG ?_;try exact True.intro);try (refine sPbV ?_;try exact True.intro)
  rw [if_pos hHi,List.take_of_length_le (by omega)]
  simp only [II.cells,dq,qr,tab_rf]
theorem sPc {G G':Prop} (h:G') (e:G=G':=by conv=>lhs;simp (disch:=omega) only [rowsOf,cNat,cN,St.ret,St.seth,Eff.app,Eff.wi,sepL,guardOf,St.known,objOf,List.set,sliceW,litW,copyW,lenOf,bnd,mxOk,ofCells,TI.isAgg,cellsOf,storable,AV.one,dead,laid,overlay,reduceCtorEq,Int.reduceLE,Int.reduceLT,Int.reduceSub,Int.reduceAdd,Nat.reduceMul,Int.reduceToNat,Nat.reducePow,Int.reduceNeg,Nat.reduceAdd,Nat.reduceLT,Nat.reduceLeDiff,sA,sB,Nat.reduceEqDiff,cQ,cD,tab_length,List.take_length,List.length_append,tab_drop,tab_take,tab_append,tab_nil,rowQ_all,rowQ_one,rowQ_pure,sT]):G:=e.mpr h
theorem sPcX {G G' P:Prop} (p:P) (h:G') (e:P→G=G':=by intro p;conv=>lhs;simp (disch:=omega) only [rowsOf,cNat,cN,St.ret,St.seth,Eff.app,Eff.wi,sepL,guardOf,St.known,objOf,List.set,sliceW,litW,copyW,lenOf,bnd,mxOk,ofCells,TI.isAgg,cellsOf,storable,AV.one,dead,laid,overlay,reduceCtorEq,Int.reduceLE,Int.reduceLT,Int.reduceSub,Int.reduceAdd,Nat.reduceMul,Int.reduceToNat,Nat.reducePow,Int.reduceNeg,Nat.reduceAdd,Nat.reduceLT,Nat.reduceLeDiff,sA,sB,Nat.reduceEqDiff,cQ,cD,tab_length,List.take_length,List.length_append,tab_drop,tab_take,tab_append,tab_nil,rowQ_all,rowQ_one,rowQ_pure,sT,p]):G:=(e p).mpr h
theorem sPcV {G G':Prop} (h:G') (e:G=G':=by conv=>lhs;simp (disch:=omega) only [rowsOf,cNat,cN,St.ret,St.seth,Eff.app,Eff.wi,sepL,guardOf,St.known,objOf,List.set,sliceW,litW,copyW,lenOf,bnd,mxOk,ofCells,TI.isAgg,cellsOf,storable,AV.one,dead,laid,overlay,reduceCtorEq,Int.reduceLE,Int.reduceLT,Int.reduceSub,Int.reduceAdd,Nat.reduceMul,Int.reduceToNat,Nat.reducePow,Int.reduceNeg,Nat.reduceAdd,Nat.reduceLT,Nat.reduceLeDiff,sA,sB,Nat.reduceEqDiff,cQ,cD,tab_length,List.take_length,List.length_append,tab_drop,tab_take,tab_append,tab_nil,rowQ_all,rowQ_one,rowQ_pure,sT,view_sref,viewRef,view_agg,views_cons,views_nil,view_bool,view_int,view_sl,view_nils,view_str,view_tup,view_nilif]):G:=e.mpr h
theorem aPc {G G':Prop} (h:G') (f:Wr G'→G:=by intro h;(repeat (first|(refine W_seqV fun K hK=>?_;(try (refine sPc ?_;try exact True.intro));(repeat refine aI ?_);refine hK _ ?_;clear hK K)|(refine W_seqR fun K hK=>?_;(try (refine sPc ?_;try exact True.intro));(repeat refine aI ?_);refine hK _ ?_;clear hK K)|(refine W_seqD mixed [] (by kernel_rfl) fun K hK=>?_;(try (refine sPc ?_;try exact True.intro));(repeat refine aI ?_);refine hK _ ?_;clear hK K)));exact h.out):G:=f ⟨h⟩
def solved (e:List (Int × Rat)) (k:Nat):List (Int × Rat):=scaleF (-((e.getD k default).2)⁻¹) (e.eraseIdx k)
def plc (k j:Nat):Nat:=if j≤k then j else j-1
theorem solved_at {e:List (Int × Rat)} {k j:Nat} (hj:j<e.length) (hk:j≠k):(solved e k).getD (plc k j) default=((e.getD j default).1,-((e.getD k default).2)⁻¹*(e.getD j default).2):=by
 by_cases h:j<k
 ·have hp:plc k j=j:=if_pos (by omega)
  rw [hp]
  simp only [solved,scaleF,List.getD_eq_getElem?_getD,List.getElem?_map,List.getElem?_eraseIdx]
  rw [if_pos h]
  simp [hj]
 ·have hp:plc k j=j-1:=if_neg (by omega)
  rw [hp]
  simp only [solved,scaleF,List.getD_eq_getElem?_getD,List.getElem?_map,List.getElem?_eraseIdx]
  rw [if_neg (by omega),show j-1+1=j by omega]
  simp [hj]
theorem solved_len {e:List (Int × Rat)} {k:Nat} (hk:k<e.length):(solved e k).length=e.length-1:=by
 simp [solved,scaleF,List.length_eraseIdx,hk]
def impR (u:Bool) (ls:List LL) (e:List (Int × Rat)) (k:Nat):Option II :=
 if allH u ls (solved e k)=true then some ⟨(e.getD k default).1,u,dq (sumA u ls (solved e k)),rf (sumB u ls (solved e k))⟩ else none
def impT:Option II→AV
 | some i => .tup [.agg i.cells,.bool true]
 | none => .tup [.agg zeroI.cells,.bool false]
set_option maxHeartbeats 8000000 in
theorem f10implied_ok (u:Bool) (ls:List LL) (e:List (Int × Rat)) (k:Nat) (hk:k<e.length) (hl:e.length<1099511627776) (he:∀ p∈e,nb p.2≤2147483648) (h0:(e.getD k default).2≠0) (h:SumOk u ls (solved e k)) :
  Pure Tryz.prog 186 [.sl (tab rowQ e),.int .i64 (k:Nat),.bool u,.sl (tab rowL ls)] (·=impT (impR u ls e k)):=by
 have hof:=f5of_ok (qr 0) (qr_ok (by rw [nb_zero];omega))
 rw [qr_v] at hof
 have hwh:=f3whole_ok 0 (by omega) (by omega)
 have h00:((0:Int):Rat)=0:=rfl
 rw [h00] at hwh
 have hPl:=solved_len hk
 have hPat:=fun j hj hjk=>@solved_at e k j hj hjk
 have hkm:e.getD k default∈e:=by simp [List.getD_eq_getElem?_getD,hk]
 have hck:=he _ hkm
 unfold impR
 have hYk:(tab rowQ e).getD k []=rowQ (e.getD k default):=tab_getD hk
 generalize hP:solved e k=P at *
 generalize e.getD k default=pk at *
 obtain ⟨vk,ck⟩:=pk
 dsimp only at *
 have hA:=fun i hi=>@sumA_take u ls P i hi
 have hBt:=fun i hi=>@sumB_take u ls P i hi
 have hH:=fun i hi=>@allH_take u ls P i hi
 have hF:=fun i hi=>@allH_false u ls P i hi
 have hBl:∀ i,i≤P.length→(sumB u ls (P.take i)).length=i:=fun i hi=>by simp [sumB];omega
 have A0:sumA u ls (P.take 0)=(0,0):=rfl
 have B0:sumB u ls (P.take 0)=[]:=rfl
 have H0:allH u ls (P.take 0)=true:=rfl
 have hEl:allH u ls (P.take P.length)=allH u ls P:=by rw [List.take_length]
 have hAl:sumA u ls (P.take P.length)=sumA u ls P:=by rw [List.take_length]
 have hBll:sumB u ls (P.take P.length)=sumB u ls P:=by rw [List.take_length]
 have hpre:=h.pre
 have hpt:∀ i,i<P.length→nb (P.getD i default).2≤4294967296∧(bndM u ls (P.getD i default)).at_.ok∧nb2 (bndM u ls (P.getD i default)).at_.v≤4294967296:=fun i hi=>h.part _ (by simp [List.getD_eq_getElem?_getD,hi])
 clear h
 rw [← hEl,← hAl,← hBll]
 generalize hEA:(fun i=>sumA u ls (P.take i))=EA at *
 have hEA':∀ i,sumA u ls (P.take i)=EA i:=fun i=>congrFun hEA i
 generalize hEB:(fun i=>sumB u ls (P.take i))=EB at *
 have hEB':∀ i,sumB u ls (P.take i)=EB i:=fun i=>congrFun hEB i
 generalize hEH:(fun i=>allH u ls (P.take i))=EH at *
 have hEH':∀ i,allH u ls (P.take i)=EH i:=fun i=>congrFun hEH i
 simp only [hEA',hEB',hEH'] at *
 clear hEA hEA' hEB hEB' hEH hEH' hAl hBll
 have hlim:=fun v=>f10limit_ok ls v
 simp only [RR.av,qr,rowQ,cD,cQ] at hof hwh hYk
 have hkI:(k:Int)<(e.length:Int):=by omega
 have p0:plc k 0=0:=by simp [plc]
 (refine pureW Tryz.func186 rfl (rs:=[Go.ResultVar.cell 8 134,Go.ResultVar.tmp 9]) rfl (n:=90) rfl ?_;simp only [List.length_cons,List.length_nil,List.replicate,List.cons_append,List.nil_append])
 (refine aPc ?_)
 ((refine W_seqD mixed [(2,9),(4,9)] (by kernel_rfl) ?_);intro K hK;(refine sPcX (And.intro hYk hk) ?_))
 (refine ⟨by kernel_rfl,_,.pure rfl (hwh),?_⟩;(try (refine sPc ?_)))
 (refine ⟨by kernel_rfl,_,.pure rfl (hof),?_⟩;(try (refine sPc ?_));(repeat refine aI ?_))
 (refine hK _ ?_;clear hK K)
 refine W.le ?_ (Le_nilO 10 0 8 87 161 4 true rfl rfl rfl rfl)
 simp only [List.set]
 refine W_seq ?_
 ((refine W_seqV ?_);intro K hK;(refine sPc ?_))
 (refine hK _ ?_;clear hK K)
 refine W_block (W_loop (fun t:{t:Nat // t≤e.length∧EH (plc k t)=true} =>
   ((fun (a_:AV) (d_:Ob)=>(⟨((.sl (tab rowQ e))::(.int .i64 k)::(.bool u)::(.sl (tab rowL ls))::a_::a_::a_::a_::(.ptr 8 0 0)::a_::(.ptr 10 0 0)::(.int .i64 t.1)::a_::a_::a_::a_::a_::a_::a_::a_::a_::a_::a_::a_::a_::a_::a_::a_::a_::a_::a_::a_::a_::a_::a_::a_::a_::a_::a_::a_::a_::a_::a_::a_::a_::a_::a_::a_::a_::a_::a_::a_::a_::a_::a_::a_::a_::a_::a_::a_::a_::a_::a_::a_::a_::a_::a_::a_::a_::a_::a_::a_::a_::a_::a_::a_::a_::a_::a_::a_::a_::a_::a_::a_::a_::a_::a_::a_::a_::a_::[]),(d_::d_::d_::d_::d_::d_::d_::d_::(.arr 134 9 false [[.int .i64 0,.bool false,.bool false,.nils,.nils,.bool false,.nils,.nils,.nils]])::d_::(.arr 134 9 false [[.int .i64 vk,.bool u,.bool (decide ((EA (plc k t.1)).1.num<0)),.sl (u32s (limbs (EA (plc k t.1)).1.num.natAbs)),.sl (u32s (limbs (EA (plc k t.1)).1.den)),.bool (decide ((EA (plc k t.1)).2.num<0)),.sl (u32s (limbs (EA (plc k t.1)).2.num.natAbs)),.sl (u32s (limbs (EA (plc k t.1)).2.den)),.sref 87 0 (plc k t.1)]])::d_::d_::d_::d_::d_::d_::d_::d_::d_::d_::d_::d_::d_::d_::d_::d_::d_::d_::d_::d_::d_::d_::d_::d_::d_::d_::d_::d_::d_::d_::d_::d_::d_::d_::d_::d_::d_::d_::d_::d_::d_::d_::d_::d_::d_::d_::d_::d_::d_::d_::d_::d_::d_::d_::d_::d_::d_::d_::d_::d_::d_::d_::d_::d_::d_::d_::d_::d_::d_::d_::d_::d_::d_::d_::d_::d_::(.arr 161 4 true (tab rowQ (EB (plc k t.1))))::d_::d_::[])⟩:St)) .any .dead)) (fun t=>e.length-t.1)
   ⟨0,by omega,by rw [p0];exact H0⟩ (Le_of (by simp [leE]) (by simp [p0,A0,B0,tab])) fun t=>?_)
 obtain ⟨j,hj,hHj⟩:=t
 dsimp only
 by_cases hlt:j<e.length
 ·by_cases hjk:j=k
  ·have hjb:((j:Int) == (k:Int))=true:=by simp [hjk]
   have hpj:plc k (j+1)=plc k j:=by simp only [plc,hjk];rw [if_neg (by omega),if_pos (Nat.le_refl k)];omega
   refine W_seq ?_
   ((refine W_seqV ?_);intro K hK;(refine sPcX hlt ?_))
   (refine hK _ ?_;clear hK K)
   (refine W_ct rfl ?_)
   refine W_skip ?_
   simp only [thenW]
   refine W_seq ?_
   refine W_block ?_
   refine W_seq ?_
   ((refine W_seqV ?_);intro K hK;(refine sPcX hjb ?_))
   (refine hK _ ?_;clear hK K)
   (refine W_ct rfl ?_)
   refine W_exit ?_
   simp only [thenW,blockW,if_true]
   ((refine W_regV ?_);intro K hK;(refine sPc ?_))
   (refine hK _ ?_;clear hK K)
   simp only [blockW,thenW]
   refine ⟨⟨j+1,by omega,by rw [hpj];exact hHj⟩,Le_drop (by simp [leE]) (by simp [leH,hpj]) rfl rfl,?_⟩
   dsimp only
   omega
  ·have hjb:((j:Int) == (k:Int))=false:=by rw [beq_eq_false_iff_ne];omega
   have hpj:plc k (j+1)=plc k j+1:=by
    simp only [plc]
    by_cases h:j<k
    ·rw [if_pos (by omega),if_pos (by omega)]
    ·rw [if_neg (by omega),if_neg (by omega)];omega
   have hpm:plc k j<P.length:=by
    rw [hPl];simp only [plc];split <;> omega
   have hXi:(tab rowQ e).getD j []=rowQ (e.getD j default):=tab_getD hlt
   have hAi:=hA _ hpm
   have hBi:=hBt _ hpm
   have hHs:=hH _ hpm
   have hFi:=hF _ hpm
   have hli:=hBl (plc k j) (by omega)
   have hpre0:=hpre (plc k j)
   have hpre1:=hpre (plc k j+1)
   obtain ⟨hp1,hp2,hp3⟩:=hpt _ hpm
   have hPa:=hPat j hlt hjk
   have hem:=he (e.getD j default) (by simp [List.getD_eq_getElem?_getD,hlt])
   rw [hPa] at hAi hBi hHs hFi hp1 hp2 hp3
   generalize e.getD j default=m at *
   obtain ⟨v,cj⟩:=m
   dsimp only at *
   have hdiv:=f3div_ok (qr cj) (qr ck) (qr_ok (by omega)) (qr_ok (by omega))
   rw [qr_v,qr_v,if_neg h0] at hdiv
   have hneg:=f3neg_ok (qr (cj / ck)) (qr_ok (by have:=nb_div cj ck;omega))
   rw [qr_v] at hneg
   have hbeq : -(cj / ck) = -ck⁻¹*cj:=by rw [Rat.div_def,Rat.mul_comm];grind
   rw [hbeq] at hneg
   have hlm:=hlim v
   have hbm:bndM u ls (v,-ck⁻¹*cj)=pickB u (-ck⁻¹*cj) (limOf ls v):=rfl
   rw [hbm] at hAi hBi hHs hFi hp2 hp3
   have hpk:pickB u (-ck⁻¹*cj) (limOf ls v)=if (decide (0<rs (-ck⁻¹*cj)) == u)=true then (limOf ls v).upper else (limOf ls v).lower:=rfl
   generalize pickB u (-ck⁻¹*cj) (limOf ls v)=bm at *
   generalize -ck⁻¹*cj=c at *
   generalize cj / ck=cq at *
   generalize limOf ls v=lm at *
   have hsg:=f3sign_ok (qr c) (qr_ok (by omega))
   rw [qr_v] at hsg
   have hab:=f3abs_ok (qr c) (qr_ok (by omega))
   rw [qr_v] at hab
   have hsc:=f5scale_ok (qr c) bm.at_ (qr_ok (by omega)) hp2
   rw [qr_v] at hsc
   have hsn:=nb2_scale c bm.at_.v
   have had:=f5add_ok (dq (EA (plc k j))) (dq (dscale c bm.at_.v)) (dq_ok (by omega)) (dq_ok (by omega))
   rw [dq_v,dq_v,← hAi,dq_av,dq_av] at had
   clear hA hBt hH hF hBl hpt hpre hlim hPat hpre0 hpre1 hsn hof hwh
   generalize dscale c bm.at_.v=ds at *
   generalize EA (plc k j)=ea at *
   generalize EB (plc k j)=eb at *
   generalize absQ c=ab at *
   have hgb:∀ b:Bool,(b == u)=(b == u):=fun _=>rfl
   generalize hdb:decide (0<rs c)=db at *
   simp only [rowQ] at hXi
   simp only [RR.av,qr,cD,cQ,cQE] at hsg hab hsc had hdiv hneg
   obtain ⟨⟨y0,⟨⟨y1,y2,y3⟩,⟨y4,y5,y6⟩⟩,y7⟩,⟨z0,⟨⟨z1,z2,z3⟩,⟨z4,z5,z6⟩⟩,z7⟩⟩:=lm
   simp only [LL.cells] at hlm
   dsimp only at hpk
   refine W_seq ?_
   ((refine W_seqV ?_);intro K hK;(refine sPcX hlt ?_))
   (refine hK _ ?_;clear hK K)
   (refine W_ct rfl ?_)
   refine W_skip ?_
   simp only [thenW]
   refine W_seq ?_
   refine W_block ?_
   refine W_seq ?_
   ((refine W_seqV ?_);intro K hK;(refine sPcX hjb ?_))
   (refine hK _ ?_;clear hK K)
   (refine W_cf rfl ?_)
   refine W_skip ?_
   simp only [thenW]
   ((refine W_seqD mixed [(2,14),(4,14),(7,14),(9,14)] (by kernel_rfl) ?_);intro K hK;(refine sPcX (And.intro hXi (And.intro hYk (And.intro hlt hk))) ?_))
   (refine ⟨by kernel_rfl,_,.pure rfl (hdiv),?_⟩;(try (refine sPc ?_));(repeat refine aI ?_))
   (refine hK _ ?_;clear hK K)
   ((refine W_seqV ?_);intro K hK;(refine sPc ?_))
   (refine ⟨by kernel_rfl,_,.pure rfl (hneg),?_⟩;(try (refine sPc ?_)))
   (refine hK _ ?_;clear hK K)
   ((refine W_seqV ?_);intro K hK;(refine sPcX (And.intro hXi hlt) ?_))
   (refine ⟨by kernel_rfl,_,.pure rfl (hlm),?_⟩;(try (refine sPc ?_)))
   (refine hK _ ?_;clear hK K)
   ((refine W_seqV ?_);intro K hK;(refine sPc ?_))
   (refine hK _ ?_;clear hK K)
   refine W_join (fun s'=>Le [] s' ((fun (a_:AV) (d_:Ob)=>(⟨((.sl (tab rowQ e))::(.int .i64 k)::(.bool u)::(.sl (tab rowL ls))::a_::a_::a_::a_::(.ptr 8 0 0)::a_::(.ptr 10 0 0)::(.int .i64 j)::a_::a_::(.ptr 14 0 0)::a_::(.ptr 16 0 0)::a_::a_::a_::a_::a_::a_::a_::a_::a_::a_::a_::a_::a_::a_::a_::a_::a_::a_::a_::a_::a_::a_::a_::a_::a_::a_::a_::a_::a_::a_::a_::a_::a_::a_::a_::a_::a_::a_::a_::a_::a_::a_::a_::a_::a_::a_::a_::a_::a_::a_::a_::a_::a_::a_::a_::a_::a_::a_::a_::a_::a_::a_::a_::a_::a_::a_::a_::a_::a_::a_::a_::a_::a_::[]),(d_::d_::d_::d_::d_::d_::d_::d_::(.arr 134 9 false [[.int .i64 0,.bool false,.bool false,.nils,.nils,.bool false,.nils,.nils,.nils]])::d_::(.arr 134 9 false [[.int .i64 vk,.bool u,.bool (decide (ea.1.num<0)),.sl (u32s (limbs ea.1.num.natAbs)),.sl (u32s (limbs ea.1.den)),.bool (decide (ea.2.num<0)),.sl (u32s (limbs ea.2.num.natAbs)),.sl (u32s (limbs ea.2.den)),.sref 87 0 (plc k j)]])::d_::d_::d_::(.arr 53 3 false [[.bool (decide (c.num<0)),.sl (u32s (limbs c.num.natAbs)),.sl (u32s (limbs c.den))]])::d_::(.arr 156 8 false [[.bool bm.has,.bool bm.at_.a.neg,.sl (u32s bm.at_.a.num),.sl (u32s bm.at_.a.den),.bool bm.at_.b.neg,.sl (u32s bm.at_.b.num),.sl (u32s bm.at_.b.den),.int .i64 bm.why]])::d_::d_::d_::d_::d_::d_::d_::d_::d_::d_::d_::d_::d_::d_::d_::d_::d_::d_::d_::d_::d_::d_::d_::d_::d_::d_::d_::d_::d_::d_::d_::d_::d_::d_::d_::d_::d_::d_::d_::d_::d_::d_::d_::d_::d_::d_::d_::d_::d_::d_::d_::d_::d_::d_::d_::d_::d_::d_::d_::d_::d_::d_::d_::d_::d_::d_::d_::d_::d_::d_::(.arr 161 4 true (tab rowQ eb))::d_::d_::[])⟩:St)) .any .dead)) ?_ ?_
   ·refine W_seq ?_
    ((refine W_regV ?_);intro K hK;(refine sPc ?_))
    (refine ⟨by kernel_rfl,_,.pure rfl (hsg),?_⟩;(try (refine sPc ?_)))
    rw [hdb]
    (refine hK _ ?_;clear hK K)
    cases hq:(db == u)
    ·rw [hq,if_neg (by simp)] at hpk
     subst hpk
     (refine W_cf rfl ?_)
     refine W_skip ?_
     simp only [thenW]
     exact Le_drop (by simp [leE]) (by simp [leH]) rfl rfl
    ·rw [hq,if_pos rfl] at hpk
     subst hpk
     (refine W_ct rfl ?_)
     ((refine W_regV ?_);intro K hK;(refine sPc ?_))
     (refine hK _ ?_;clear hK K)
     simp only [thenW]
     exact Le_drop (by simp [leE]) (by simp [leH]) rfl rfl
   intro s' hle
   refine W.le ?_ hle
   clear hle s' hsg hlm hneg hdiv hpk
   obtain ⟨h1,⟨⟨x1,x2,x3⟩,⟨x4,x5,x6⟩⟩,x7⟩:=bm
   simp only [DD.av,DD.cells] at hsc
   dsimp only at *
   cases h1
   ·have hall:=hFi rfl
    rw [hEl,hall]
    refine W_seq ?_
    ((refine W_seqV ?_);intro K hK;(refine sPc ?_))
    (refine hK _ ?_;clear hK K)
    (refine W_ct rfl ?_)
    ((refine W_seqV ?_);intro K hK;(refine sPc ?_))
    (refine hK _ ?_;clear hK K)
    refine W_ret ?_
    (refine qG ?_;try exact True.intro);try (refine sPcV ?_;try exact True.intro)
    simp [impT,II.cells,zeroI,zeroD0,zeroR,tab,u32s]
   ·rw [Bool.and_true] at hHs
    refine W_seq ?_
    ((refine W_seqV ?_);intro K hK;(refine sPc ?_))
    (refine hK _ ?_;clear hK K)
    (refine W_cf rfl ?_)
    refine W_skip ?_
    simp only [thenW]
    ((refine W_seqD mixed [] (by kernel_rfl) ?_);intro K hK;(refine sPc ?_))
    (refine ⟨by kernel_rfl,_,.pure rfl (hsc),?_⟩;(try (refine sPc ?_)))
    (refine ⟨by kernel_rfl,_,.pure rfl (had),?_⟩;(try (refine sPc ?_)))
    (refine hK _ ?_;clear hK K)
    ((refine W_regS mixed 8 [] (by kernel_rfl) ?_);intro K hK;(refine sPcX hli ?_))
    (refine ⟨by kernel_rfl,_,.pure rfl (hab),?_⟩;(try (refine sPc ?_));(repeat refine aI ?_))
    (refine hK _ ?_;clear hK K)
    simp only [blockW,thenW]
    ((refine W_regV ?_);intro K hK;(refine sPc ?_))
    (refine hK _ ?_;clear hK K)
    simp only [blockW,thenW]
    refine ⟨⟨j+1,by omega,by rw [hpj,hHs];exact hHj⟩,Le_drop (by simp [leE]) (by simp [leH,hpj,hBi,← tab_snoc,rowQ,tab_take,List.take_of_length_le,hli]) rfl rfl,?_⟩
    dsimp only
    omega
 ·obtain rfl:j=e.length:=by omega
  have hpl:plc k e.length=P.length:=by simp only [plc,hPl];rw [if_neg (by omega)]
  rw [hpl] at hHj ⊢
  have hli:=hBl P.length (Nat.le_refl _)
  refine W_seq ?_
  ((refine W_seqV ?_);intro K hK;(refine sPc ?_))
  (refine hK _ ?_;clear hK K)
  (refine W_cf rfl ?_)
  refine W_exit ?_
  simp only [thenW,blockW,if_true]
  ((refine W_seqV ?_);intro K hK;(refine sPc ?_))
  (refine hK _ ?_;clear hK K)
  refine W_ret ?_
  (refine qG ?_;try exact True.intro);try (refine sPcV ?_;try exact True.intro)
  rw [if_pos hHj,List.take_of_length_le (by omega)]
  simp only [impT,II.cells,dq,qr,tab_rf]
def overN (g:Int→Nat):List (Int × Rat)→Nat
 | []=>0
 | p::l=>g p.1+overN g l
def sumN:List Nat→Nat
 | []=>0
 | x::l=>x+sumN l
theorem sumN_drop (xs:List Nat) {a k:Nat} (h:a≤k):sumN (xs.drop k)≤sumN (xs.drop a):=by
 induction xs generalizing a k with
 | nil=>simp
 | cons x xs ih =>
  cases k with
  | zero =>
   obtain rfl:a=0:=by omega
   exact Nat.le_refl _
  | succ k =>
   cases a with
   | zero =>
    have:=ih (a:=0) (k:=k) (by omega)
    simp only [List.drop_succ_cons,List.drop_zero,sumN] at *
    omega
   | succ a=>exact ih (by omega)
theorem sumN_at (xs:List Nat) {a k:Nat} (h:a≤k) (hk:k<xs.length):xs.getD k 0+sumN (xs.drop (k+1))≤sumN (xs.drop a):=by
 have h1:xs.drop k=xs[k]::xs.drop (k+1):=List.drop_eq_getElem_cons hk
 have h2:sumN (xs.drop k)=xs.getD k 0+sumN (xs.drop (k+1)):=by
  rw [h1];simp [sumN,List.getD_eq_getElem?_getD,hk]
 rw [← h2]
 exact sumN_drop xs h
theorem over_le (ws:List Nat) (g:Int→Nat) (h1:∀ v:Int,0≤v→v.toNat<ws.length→g v≤ws.getD v.toNat 0) (h2:∀ v:Int,¬ (0≤v∧v.toNat<ws.length)→g v≤2) :
  ∀ (l:List (Int × Rat)) (a:Nat),NF l→(∀ p∈l,0≤p.1→(a:Int)≤p.1)→overN g l≤2*l.length+sumN (ws.drop a)
 | [],a,_,_=>by simp [overN]
 | p::l,a,h,ha=>by
  simp only [overN,List.length_cons]
  by_cases hp:0≤p.1∧p.1.toNat<ws.length
  ·have e1:=ha p List.mem_cons_self hp.1
   have e2:=sumN_at ws (a:=a) (k:=p.1.toNat) (by omega) hp.2
   have e3:=over_le ws g h1 h2 l (p.1.toNat+1) h.tail fun q hq _=>by have:=h.head q hq;omega
   have e4:=h1 p.1 hp.1 hp.2
   omega
  ·have e3:=over_le ws g h1 h2 l a h.tail fun q hq h0=>by
    have:=h.head q hq
    exact ha q (List.mem_cons_of_mem _ hq) h0
   have e4:=h2 p.1 hp
   omega
def lw (l:LL):Nat:=nb2 l.lower.at_.v+nb2 l.upper.at_.v
def lws (ls:List LL):Nat:=sumN (ls.map lw)
theorem nb2_zero:nb2 ((0,0):Rat × Rat)=1:=by simp [nb2,nb_zero]
theorem zeroD0_v:zeroD0.v=(0,0):=by simp only [zeroD0,DD.v,zeroR_v]
theorem lw_zero:lw zeroL=2:=by simp only [lw,zeroL,zeroB,zeroD0_v,nb2_zero]
theorem lim_over (ls:List LL) {l:List (Int × Rat)} (h:NF l):overN (fun v=>lw (limOf ls v)) l≤2*l.length+lws ls:=by
 refine over_le (ls.map lw) _ (fun v h0 h1=>?_) (fun v h0=>?_) l 0 h fun p _ hp=>by simpa using hp
 ·rw [List.length_map] at h1
  have:limOf ls v=ls.getD v.toNat default:=if_pos ⟨h0,by omega⟩
  rw [this]
  simp [List.getD_eq_getElem?_getD,h1]
 ·rw [List.length_map] at h0
  have:limOf ls v=zeroL:=if_neg (fun h=>h0 ⟨h.1,by omega⟩)
  rw [this,lw_zero]
  exact Nat.le_refl _
structure LsOk (ls:List LL):Prop where
 ok:∀ l∈ls,l.lower.at_.ok∧l.upper.at_.ok
 sz:lws ls≤1073741824
theorem sumN_mem {xs:List Nat} {x:Nat} (h:x∈xs):x≤sumN xs:=by
 induction xs with
 | nil=>cases h
 | cons y xs ih =>
  simp only [sumN]
  rcases List.mem_cons.1 h with rfl | h
  ·omega
  ·have:=ih h;omega
theorem lim_ok {ls:List LL} (h:LsOk ls) (v:Int):(limOf ls v).lower.at_.ok∧(limOf ls v).upper.at_.ok∧lw (limOf ls v)≤1073741826:=by
 unfold limOf
 split
 ·rename_i hv
  have hm:ls.getD v.toNat default∈ls:=by
   have:v.toNat<ls.length:=by omega
   simp [List.getD_eq_getElem?_getD,this]
  obtain ⟨h1,h2⟩:=h.ok _ hm
  exact ⟨h1,h2,by have:=sumN_mem (List.mem_map_of_mem (f:=lw) hm);have:=h.sz;unfold lws at this;omega⟩
 ·exact ⟨⟨zeroR_ok,zeroR_ok⟩,⟨zeroR_ok,zeroR_ok⟩,by rw [lw_zero];omega⟩
theorem bnd_ok {ls:List LL} (h:LsOk ls) (u:Bool) (m:Int × Rat):(bndM u ls m).at_.ok∧nb2 (bndM u ls m).at_.v≤lw (limOf ls m.1):=by
 obtain ⟨h1,h2,h3⟩:=lim_ok h m.1
 unfold bndM pickB lw
 split
 ·exact ⟨h2,by omega⟩
 ·exact ⟨h1,by omega⟩
def sumE (u:Bool) (ls:List LL) (d:Rat) (l:List (Int × Rat)):Rat × Rat:=l.foldl (fun s m=>dadd s (dscale m.2 (bndM u ls (m.1,d*m.2)).at_.v)) (0,0)
theorem sumA_scale (u:Bool) (ls:List LL) (d:Rat) (l:List (Int × Rat)):sumA u ls (scaleF d l)=dscale d (sumE u ls d l):=by
 have:∀ (l:List (Int × Rat)) (s:Rat × Rat),(scaleF d l).foldl (fun s m=>dadd s (dscale m.2 (bndM u ls m).at_.v)) (dscale d s)=dscale d (l.foldl (fun s m=>dadd s (dscale m.2 (bndM u ls (m.1,d*m.2)).at_.v)) s):=by
  intro l
  induction l with
  | nil=>intro s;rfl
  | cons p l ih =>
   intro s
   simp only [scaleF,List.map_cons,List.foldl_cons] at *
   rw [← ih]
   congr 1
   simp only [dadd,dscale,Prod.mk.injEq]
   constructor <;> grind
 have h0:dscale d (0,0)=(0,0):=by simp [dscale,Rat.mul_zero]
 have:=this l (0,0)
 rw [h0] at this
 exact this
theorem sumE_nb {ls:List LL} (h:LsOk ls) (u:Bool) (d:Rat) (l:List (Int × Rat)):nb2 (sumE u ls d l)≤1+nbs l+overN (fun v=>lw (limOf ls v)) l:=by
 have:∀ (l:List (Int × Rat)) (s:Rat × Rat),nb2 (l.foldl (fun s m=>dadd s (dscale m.2 (bndM u ls (m.1,d*m.2)).at_.v)) s)≤nb2 s+nbs l+overN (fun v=>lw (limOf ls v)) l:=by
  intro l
  induction l with
  | nil=>intro s;simp [nbs,overN]
  | cons p l ih =>
   intro s
   simp only [List.foldl_cons,nbs,overN]
   have h1:=ih (dadd s (dscale p.2 (bndM u ls (p.1,d*p.2)).at_.v))
   have h2:=nb2_add s (dscale p.2 (bndM u ls (p.1,d*p.2)).at_.v)
   have h3:=nb2_scale p.2 (bndM u ls (p.1,d*p.2)).at_.v
   have h4:=(bnd_ok h u (p.1,d*p.2)).2
   dsimp only at h4
   omega
 have:=this l (0,0)
 rw [nb2_zero] at this
 exact this
theorem nbs_sub {l m:List (Int × Rat)} (h:l.Sublist m):nbs l≤nbs m:=by
 induction h with
 | slnil=>exact Nat.le_refl _
 | cons a h ih=>simp only [nbs];omega
 | cons_cons a h ih=>simp only [nbs];omega
theorem sum_ok' {ls:List LL} (h:LsOk ls) (u:Bool) {e:List (Int × Rat)} (hN:NF e) (hs:nbs e≤268435456) (k:Nat) (hk:k<e.length):SumOk u ls (solved e k):=by
 have hl:=nbs_len e
 have hkm:e.getD k default∈e:=by simp [List.getD_eq_getElem?_getD,hk]
 have hmem:∀ p∈e,nb p.2≤nbs e:=fun p hp=>Nat.le_trans (nbv_mem hp) (nbv_le_nbs _ _)
 have hck:=hmem _ hkm
 refine ⟨by rw [solved_len hk];omega,fun m hm=>?_,fun i=>?_⟩
 ·simp only [solved,scaleF,List.mem_map] at hm
  obtain ⟨p,hp,rfl⟩:=hm
  have hpe:=hmem p ((List.eraseIdx_sublist _ _).subset hp)
  have h1:=nb_mul (-(e.getD k default).2⁻¹) p.2
  rw [nb_neg,nb_inv] at h1
  obtain ⟨h2,h3⟩:=bnd_ok h u (p.1,-(e.getD k default).2⁻¹*p.2)
  have h4:=(lim_ok h p.1).2.2
  dsimp only at h3 ⊢
  exact ⟨by omega,h2,by omega⟩
 ·have h0:(solved e k).take i=scaleF (-(e.getD k default).2⁻¹) ((e.eraseIdx k).take i):=by simp [solved,scaleF,List.map_take]
  rw [h0,sumA_scale]
  have hsub:((e.eraseIdx k).take i).Sublist e:=(List.take_sublist _ _).trans (List.eraseIdx_sublist _ _)
  have hN':NF ((e.eraseIdx k).take i):=⟨hN.lt.sublist hsub,fun p hp=>hN.nz p (hsub.subset hp)⟩
  have h1:=nb2_scale (-(e.getD k default).2⁻¹) (sumE u ls (-(e.getD k default).2⁻¹) ((e.eraseIdx k).take i))
  rw [nb_neg,nb_inv] at h1
  have h2:=sumE_nb h u (-(e.getD k default).2⁻¹) ((e.eraseIdx k).take i)
  have h3:=lim_over ls hN'
  have h4:=nbs_sub hsub
  have h5:=nbs_len ((e.eraseIdx k).take i)
  have h6:=h.sz
  omega
theorem sPd {G G':Prop} (h:G') (e:G=G':=by conv=>lhs;simp (disch:=omega) only [rowsOf,cNat,cN,St.ret,St.seth,Eff.app,Eff.wi,sepL,guardOf,St.known,objOf,List.set,sliceW,litW,copyW,lenOf,bnd,mxOk,ofCells,TI.isAgg,cellsOf,storable,AV.one,dead,laid,overlay,reduceCtorEq,Int.reduceLE,Int.reduceLT,Int.reduceSub,Int.reduceAdd,Nat.reduceMul,Int.reduceToNat,Nat.reducePow,Int.reduceNeg,Nat.reduceAdd,Nat.reduceLT,Nat.reduceLeDiff,sA,sB,Nat.reduceEqDiff,cQ,rowM,rowQ,tab_length,List.take_length,List.length_append,tab_drop,tab_take,tab_append,tab_nil,rowQ_all,rowQ_one,rowQ_pure,rowM_all,rowM_one,rowM_pure,rowI_all,rowI_one,rowI_pure,sT]):G:=e.mpr h
theorem sPdX {G G' P:Prop} (p:P) (h:G') (e:P→G=G':=by intro p;conv=>lhs;simp (disch:=omega) only [rowsOf,cNat,cN,St.ret,St.seth,Eff.app,Eff.wi,sepL,guardOf,St.known,objOf,List.set,sliceW,litW,copyW,lenOf,bnd,mxOk,ofCells,TI.isAgg,cellsOf,storable,AV.one,dead,laid,overlay,reduceCtorEq,Int.reduceLE,Int.reduceLT,Int.reduceSub,Int.reduceAdd,Nat.reduceMul,Int.reduceToNat,Nat.reducePow,Int.reduceNeg,Nat.reduceAdd,Nat.reduceLT,Nat.reduceLeDiff,sA,sB,Nat.reduceEqDiff,cQ,rowM,rowQ,tab_length,List.take_length,List.length_append,tab_drop,tab_take,tab_append,tab_nil,rowQ_all,rowQ_one,rowQ_pure,rowM_all,rowM_one,rowM_pure,rowI_all,rowI_one,rowI_pure,sT,p]):G:=(e p).mpr h
theorem sPdV {G G':Prop} (h:G') (e:G=G':=by conv=>lhs;simp (disch:=omega) only [rowsOf,cNat,cN,St.ret,St.seth,Eff.app,Eff.wi,sepL,guardOf,St.known,objOf,List.set,sliceW,litW,copyW,lenOf,bnd,mxOk,ofCells,TI.isAgg,cellsOf,storable,AV.one,dead,laid,overlay,reduceCtorEq,Int.reduceLE,Int.reduceLT,Int.reduceSub,Int.reduceAdd,Nat.reduceMul,Int.reduceToNat,Nat.reducePow,Int.reduceNeg,Nat.reduceAdd,Nat.reduceLT,Nat.reduceLeDiff,sA,sB,Nat.reduceEqDiff,cQ,rowM,rowQ,tab_length,List.take_length,List.length_append,tab_drop,tab_take,tab_append,tab_nil,rowQ_all,rowQ_one,rowQ_pure,rowM_all,rowM_one,rowM_pure,rowI_all,rowI_one,rowI_pure,sT,view_sref,viewRef,view_agg,views_cons,views_nil,view_bool,view_int,view_sl,view_nils,view_str,view_tup,view_nilif]):G:=e.mpr h
theorem aPd {G G':Prop} (h:G') (f:Wr G'→G:=by intro h;(repeat (first|(refine W_seqV fun K hK=>?_;(try (refine sPd ?_;try exact True.intro));(repeat refine aI ?_);refine hK _ ?_;clear hK K)|(refine W_seqR fun K hK=>?_;(try (refine sPd ?_;try exact True.intro));(repeat refine aI ?_);refine hK _ ?_;clear hK K)|(refine W_seqD mixed [] (by kernel_rfl) fun K hK=>?_;(try (refine sPd ?_;try exact True.intro));(repeat refine aI ?_);refine hK _ ?_;clear hK K)));exact h.out):G:=f ⟨h⟩
structure Rw where
 basic:Int
 form:List (Int × RR)
def Rw.cells (r:Rw):List AV:=[.int .i64 r.basic,.sl (tab rowM r.form)]
structure RwOk (r:Rw):Prop where
 form:FOk r.form 68157440
 nbs:nbs (vals r.form)≤68157440
def eqnF (r:Rw):List (Int × Rat):=subF (vals r.form) [(r.basic,1)]
theorem eqn_nf (r:Rw):NF (eqnF r):=NF.sub _ _
theorem one_ne:((1:Rat))≠0:=by decide
theorem norm_one (b:Int):normF [(b,(1:Rat))]=[(b,1)]:=norm_self (NF.cons NF.nil one_ne fun q hq=>by cases hq)
theorem eqn_nbs {r:Rw} (h:RwOk r):nbs (eqnF r)≤68157442:=by
 unfold eqnF subF
 rw [norm_one]
 have h1:=nbs_norm (vals r.form++negF [(r.basic,1)])
 rw [nbs_append] at h1
 have h2:nbs (negF [(r.basic,(1:Rat))])=2:=by
  simp only [negF,scaleF,List.map_cons,List.map_nil,nbs,Rat.mul_one,nb_m1]
 have:=h.nbs
 omega
theorem one_fok (b:Int):FOk (rf [(b,(1:Rat))]) 2:=FOk.rf ⟨fun v=>by simp only [nbv];split <;> simp [nb_one],by simp⟩ (by omega)
def rowIm (i:II):List AV:=i.cells
theorem rowI_all (f:List II):AllLen 9 (tab rowIm f):=tab_all (k:=9) (fun _=>rfl) f
theorem rowI_one (f:List II):AllOne (tab rowIm f):=tab_one (fun _=>rfl) f
theorem rowI_pure (f:List II):AllPure (tab rowIm f):=tab_pure (fun _=>rfl) f
instance:Inhabited II:=⟨zeroI⟩
def rowsTo (ls:List LL) (e:List (Int × Rat)):Nat→List II
 | 0=>[]
 | k+1=>rowsTo ls e k++(impR false ls e k).toList++(impR true ls e k).toList
theorem opt_len (o:Option II):o.toList.length≤1:=by cases o <;> simp
theorem rowsTo_len (ls:List LL) (e:List (Int × Rat)):∀ k,(rowsTo ls e k).length≤2*k
 | 0=>Nat.le_refl _
 | k+1=>by
  have:=rowsTo_len ls e k
  have h1:=opt_len (impR false ls e k)
  have h2:=opt_len (impR true ls e k)
  simp only [rowsTo,List.length_append]
  omega
theorem f10eqn_ok (r:Rw) (h:RwOk r):Pure Tryz.prog 185 [.agg r.cells] (· = .sl (tab rowQ (eqnF r))):=by
 have hw:=f3whole_ok 1 (by omega) (by omega)
 have h1e:((1:Int):Rat)=1:=rfl
 rw [h1e] at hw
 have hs:=f6sub_ok r.form (rf [(r.basic,1)]) (h.form.pf (by omega)) ((one_fok r.basic).pf (by omega)) (by
  intro p hp
  simp only [rf,List.map_cons,List.map_nil,List.mem_singleton] at hp
  subst hp
  simp only [qr_v,nb_one]
  omega) (by have:=h.form.len;simp [rf];omega) (by omega)
 rw [vals_rf,cF_rf] at hs
 change Pure _ _ _ (·=cL (eqnF r)) at hs
 generalize eqnF r=e at *
 have ht:tab rowQ [(r.basic,(1:Rat))]=[[.int .i64 r.basic,.bool (decide ((1:Rat).num<0)),.sl (u32s (limbs (1:Rat).num.natAbs)),.sl (u32s (limbs (1:Rat).den))]]:=rfl
 obtain ⟨b,f⟩:=r
 simp only [Rw.cells,cF,cL,ht,cQ] at *
 generalize (1:Rat)=q at *
 (refine pureW Tryz.func185 rfl (rs:=[Go.ResultVar.tmp 2]) rfl (n:=11) rfl ?_;simp only [List.length_cons,List.length_nil,List.replicate,List.cons_append,List.nil_append])
 (refine aPd ?_)
 ((refine W_seqD mixed [] (by kernel_rfl) ?_);intro K hK;(refine sPd ?_))
 (refine ⟨by kernel_rfl,_,.pure rfl (hw),?_⟩;(try (refine sPd ?_));(repeat refine aI ?_))
 (refine ⟨by kernel_rfl,_,.pure rfl (hs),?_⟩;(try (refine sPd ?_)))
 (refine hK _ ?_;clear hK K)
 refine W_ret ?_
 (refine qG ?_;try exact True.intro);try (refine sPdV ?_;try exact True.intro)
theorem ieqn_ok (r:Rw) (h:RwOk r):Pure Tryz.prog 181 [.agg r.cells] (· = .sl (tab rowQ (eqnF r))):=by
 have hw:=rwhole_ok 1 (by omega) (by omega)
 have h1e:((1:Int):Rat)=1:=rfl
 rw [h1e] at hw
 have hs:=lsub_ok r.form (rf [(r.basic,1)]) h.form (one_fok r.basic) (by omega)
 rw [vals_rf,cF_rf] at hs
 change Pure _ _ _ (·=cL (eqnF r)) at hs
 generalize eqnF r=e at *
 have ht:tab rowQ [(r.basic,(1:Rat))]=[[.int .i64 r.basic,.bool (decide ((1:Rat).num<0)),.sl (u32s (limbs (1:Rat).num.natAbs)),.sl (u32s (limbs (1:Rat).den))]]:=rfl
 obtain ⟨b,f⟩:=r
 simp only [Rw.cells,cF,cL,ht,cQ] at *
 generalize (1:Rat)=q at *
 (refine pureW Tryz.func181 rfl (rs:=[Go.ResultVar.tmp 2]) rfl (n:=11) rfl ?_;simp only [List.length_cons,List.length_nil,List.replicate,List.cons_append,List.nil_append])
 (refine aPd ?_)
 ((refine W_seqD mixed [] (by kernel_rfl) ?_);intro K hK;(refine sPd ?_))
 (refine ⟨by kernel_rfl,_,.pure rfl (hw),?_⟩;(try (refine sPd ?_));(repeat refine aI ?_))
 (refine ⟨by kernel_rfl,_,.pure rfl (hs),?_⟩;(try (refine sPd ?_)))
 (refine hK _ ?_;clear hK K)
 refine W_ret ?_
 (refine qG ?_;try exact True.intro);try (refine sPdV ?_;try exact True.intro)
set_option maxHeartbeats 8000000 in
theorem f10row_ok (r:Rw) (ls:List LL) (h:RwOk r) (hL:LsOk ls):Pure Tryz.prog 146 [.agg r.cells,.sl (tab rowL ls)] (· = .sl (tab rowIm (rowsTo ls (eqnF r) (eqnF r).length))):=by
 have he:=f10eqn_ok r h
 have hN:=eqn_nf r
 have hb:=eqn_nbs h
 generalize eqnF r=e at *
 have hl:=nbs_len e
 have hmem:∀ p∈e,nb p.2≤nbs e:=fun p hp=>Nat.le_trans (nbv_mem hp) (nbv_le_nbs _ _)
 have him:=fun (u:Bool) k (hk:k<e.length)=>f10implied_ok u ls e k hk (by omega) (fun p hp=>by have:=hmem p hp;omega) (hN.nz _ (by simp [List.getD_eq_getElem?_getD,hk])) (sum_ok' hL u hN (by omega) k hk)
 have hR:=rowsTo_len ls e
 have r0:rowsTo ls e 0=[]:=rfl
 have r1:∀ k,rowsTo ls e (k+1)=rowsTo ls e k++(impR false ls e k).toList++(impR true ls e k).toList:=fun _=>rfl
 generalize rowsTo ls e=R at *
 obtain ⟨b,f⟩:=r
 simp only [Rw.cells] at *
 (refine pureW Tryz.func146 rfl (rs:=[Go.ResultVar.tmp 4]) rfl (n:=45) rfl ?_;simp only [List.length_cons,List.length_nil,List.replicate,List.cons_append,List.nil_append])
 (refine aPd ?_)
 ((refine W_seqV ?_);intro K hK;(refine sPd ?_))
 (refine ⟨by kernel_rfl,_,.pure rfl (he),?_⟩;(try (refine sPd ?_)))
 (refine hK _ ?_;clear hK K)
 (refine aPd ?_)
 refine W.le ?_ (Le_nil 6 6 134 9 true rfl rfl)
 simp only [List.set]
 refine W_seq ?_
 ((refine W_seqV ?_);intro K hK;(refine sPd ?_))
 (refine hK _ ?_;clear hK K)
 refine W_block (W_loop (fun t:{t:Nat // t≤e.length} =>
   ⟨[.any,.sl (tab rowL ls),.any,.any,.any,.sl (tab rowQ e),.sref 6 0 (R t.1).length,.int .i64 t.1,.any,.any,.any,.any,.any,.any,.any,.any,.any,.any,.any,.any,.any,.any,.any,.any,.any,.any,.any,.any,.any,.any,.any,.any,.any,.any,.any,.any,.any,.any,.any,.any,.any,.any,.any,.any,.any],[.dead,.dead,.dead,.dead,.dead,.dead,.arr 134 9 true (tab rowIm (R t.1)),.dead,.dead,.dead,.dead,.dead,.dead,.dead,.dead,.dead,.dead,.dead,.dead,.dead,.dead,.dead,.dead,.dead,.dead,.dead,.dead,.dead,.dead,.dead,.dead,.dead,.dead,.dead,.dead,.dead,.dead,.dead,.dead,.dead,.dead,.dead,.dead,.dead,.dead]⟩) (fun t=>e.length-t.1)
   ⟨0,by omega⟩ (Le_drop (by simp [leE,r0]) (by simp [leH,r0,tab]) rfl rfl) fun t=>?_)
 obtain ⟨k,hk⟩:=t
 dsimp only
 by_cases hlt:k<e.length
 ·have h1:=him false k hlt
  have h2:=him true k hlt
  have hRk:=hR k
  have hr1:=r1 k
  generalize impR false ls e k=o1 at *
  generalize impR true ls e k=o2 at *
  generalize R k=rk at *
  refine W_seq ?_
  ((refine W_seqV ?_);intro K hK;(refine sPdX hlt ?_))
  (refine hK _ ?_;clear hK K)
  (refine W_ct rfl ?_)
  refine W_skip ?_
  simp only [thenW]
  refine W_seq ?_
  refine W_block ?_
  rcases o1 with _ | x <;> rcases o2 with _ | y
  ·have hr1':=hr1
   simp only [Option.toList_some,Option.toList_none,List.append_nil] at hr1'
   simp only [impT,II.cells,zeroI,zeroD0,zeroR] at h1
   ((refine W_seqV ?_);intro K hK;(refine sPd ?_))
   (refine ⟨by kernel_rfl,_,.pure rfl (h1),?_⟩;(try (refine sPd ?_)))
   (refine hK _ ?_;clear hK K)
   refine W_seq ?_
   ((refine W_seqV ?_);intro K hK;(refine sPd ?_))
   (refine hK _ ?_;clear hK K)
   (refine W_cf rfl ?_)
   refine W_skip ?_
   simp only [thenW]
   simp only [impT,II.cells,zeroI,zeroD0,zeroR] at h2
   ((refine W_seqV ?_);intro K hK;(refine sPd ?_))
   (refine ⟨by kernel_rfl,_,.pure rfl (h2),?_⟩;(try (refine sPd ?_)))
   (refine hK _ ?_;clear hK K)
   ((refine W_seqV ?_);intro K hK;(refine sPd ?_))
   (refine hK _ ?_;clear hK K)
   (refine W_cf rfl ?_)
   refine W_skip ?_
   simp only [blockW,thenW]
   ((refine W_regV ?_);intro K hK;(refine sPd ?_))
   (refine hK _ ?_;clear hK K)
   simp only [blockW,thenW]
   refine ⟨⟨k+1,by omega⟩,Le_drop (by simp [leE,hr1']) (by simp [leH,hr1',← tab_append,tab_cons,tab_nil,rowIm,II.cells,tab_take,List.take_of_length_le,tab_length]) rfl rfl,?_⟩
   dsimp only
   omega
  ·have hr1':=hr1
   simp only [Option.toList_some,Option.toList_none,List.append_nil] at hr1'
   simp only [impT,II.cells,zeroI,zeroD0,zeroR] at h1
   ((refine W_seqV ?_);intro K hK;(refine sPd ?_))
   (refine ⟨by kernel_rfl,_,.pure rfl (h1),?_⟩;(try (refine sPd ?_)))
   (refine hK _ ?_;clear hK K)
   refine W_seq ?_
   ((refine W_seqV ?_);intro K hK;(refine sPd ?_))
   (refine hK _ ?_;clear hK K)
   (refine W_cf rfl ?_)
   refine W_skip ?_
   simp only [thenW]
   simp only [impT,II.cells] at h2
   ((refine W_seqV ?_);intro K hK;(refine sPd ?_))
   (refine ⟨by kernel_rfl,_,.pure rfl (h2),?_⟩;(try (refine sPd ?_)))
   (refine hK _ ?_;clear hK K)
   ((refine W_seqV ?_);intro K hK;(refine sPd ?_))
   (refine hK _ ?_;clear hK K)
   (refine W_ct rfl ?_)
   ((refine W_regR ?_);intro K hK;(refine sPdX hlt ?_))
   (repeat refine aI ?_);refine hK _ ?_;clear hK K
   simp only [blockW,thenW]
   ((refine W_regV ?_);intro K hK;(refine sPd ?_))
   (refine hK _ ?_;clear hK K)
   simp only [blockW,thenW]
   refine ⟨⟨k+1,by omega⟩,Le_drop (by simp [leE,hr1']) (by simp [leH,hr1',← tab_append,tab_cons,tab_nil,rowIm,II.cells,tab_take,List.take_of_length_le,tab_length]) rfl rfl,?_⟩
   dsimp only
   omega
  ·have hr1':=hr1
   simp only [Option.toList_some,Option.toList_none,List.append_nil] at hr1'
   simp only [impT,II.cells] at h1
   ((refine W_seqV ?_);intro K hK;(refine sPd ?_))
   (refine ⟨by kernel_rfl,_,.pure rfl (h1),?_⟩;(try (refine sPd ?_)))
   (refine hK _ ?_;clear hK K)
   refine W_seq ?_
   ((refine W_seqV ?_);intro K hK;(refine sPd ?_))
   (refine hK _ ?_;clear hK K)
   (refine W_ct rfl ?_)
   ((refine W_regR ?_);intro K hK;(refine sPdX hlt ?_))
   (repeat refine aI ?_);refine hK _ ?_;clear hK K
   simp only [thenW]
   simp only [impT,II.cells,zeroI,zeroD0,zeroR] at h2
   ((refine W_seqV ?_);intro K hK;(refine sPd ?_))
   (refine ⟨by kernel_rfl,_,.pure rfl (h2),?_⟩;(try (refine sPd ?_)))
   (refine hK _ ?_;clear hK K)
   ((refine W_seqV ?_);intro K hK;(refine sPd ?_))
   (refine hK _ ?_;clear hK K)
   (refine W_cf rfl ?_)
   refine W_skip ?_
   simp only [blockW,thenW]
   ((refine W_regV ?_);intro K hK;(refine sPd ?_))
   (refine hK _ ?_;clear hK K)
   simp only [blockW,thenW]
   refine ⟨⟨k+1,by omega⟩,Le_drop (by simp [leE,hr1']) (by simp [leH,hr1',← tab_append,tab_cons,tab_nil,rowIm,II.cells,tab_take,List.take_of_length_le,tab_length]) rfl rfl,?_⟩
   dsimp only
   omega
  ·have hr1':=hr1
   simp only [Option.toList_some,Option.toList_none,List.append_nil] at hr1'
   simp only [impT,II.cells] at h1
   ((refine W_seqV ?_);intro K hK;(refine sPd ?_))
   (refine ⟨by kernel_rfl,_,.pure rfl (h1),?_⟩;(try (refine sPd ?_)))
   (refine hK _ ?_;clear hK K)
   refine W_seq ?_
   ((refine W_seqV ?_);intro K hK;(refine sPd ?_))
   (refine hK _ ?_;clear hK K)
   (refine W_ct rfl ?_)
   ((refine W_regR ?_);intro K hK;(refine sPdX hlt ?_))
   (repeat refine aI ?_);refine hK _ ?_;clear hK K
   simp only [thenW]
   simp only [impT,II.cells] at h2
   ((refine W_seqV ?_);intro K hK;(refine sPd ?_))
   (refine ⟨by kernel_rfl,_,.pure rfl (h2),?_⟩;(try (refine sPd ?_)))
   (refine hK _ ?_;clear hK K)
   ((refine W_seqV ?_);intro K hK;(refine sPd ?_))
   (refine hK _ ?_;clear hK K)
   (refine W_ct rfl ?_)
   ((refine W_regR ?_);intro K hK;(refine sPdX hlt ?_))
   (repeat refine aI ?_);refine hK _ ?_;clear hK K
   simp only [blockW,thenW]
   ((refine W_regV ?_);intro K hK;(refine sPd ?_))
   (refine hK _ ?_;clear hK K)
   simp only [blockW,thenW]
   refine ⟨⟨k+1,by omega⟩,Le_drop (by simp [leE,hr1']) (by simp [leH,hr1',← tab_append,tab_cons,tab_nil,rowIm,II.cells,tab_take,List.take_of_length_le,tab_length]) rfl rfl,?_⟩
   dsimp only
   omega
 ·obtain rfl:k=e.length:=by omega
  refine W_seq ?_
  ((refine W_seqV ?_);intro K hK;(refine sPd ?_))
  (refine hK _ ?_;clear hK K)
  (refine W_cf rfl ?_)
  refine W_exit ?_
  simp only [thenW,blockW,if_true]
  ((refine W_seqV ?_);intro K hK;(refine sPd ?_))
  (refine hK _ ?_;clear hK K)
  refine W_ret ?_
  (refine qG ?_;try exact True.intro);try (refine sPdV ?_;try exact True.intro)
theorem sPe {G G':Prop} (h:G') (e:G=G':=by conv=>lhs;simp (disch:=omega) only [rowsOf,cNat,cN,St.ret,St.seth,Eff.app,Eff.wi,sepL,guardOf,St.known,objOf,List.set,sliceW,litW,copyW,lenOf,bnd,mxOk,ofCells,TI.isAgg,cellsOf,storable,AV.one,dead,laid,overlay,reduceCtorEq,Int.reduceLE,Int.reduceLT,Int.reduceSub,Int.reduceAdd,Nat.reduceMul,Int.reduceToNat,Nat.reducePow,Int.reduceNeg,Nat.reduceAdd,Nat.reduceLT,Nat.reduceLeDiff,sA,sB,Nat.reduceEqDiff,cQ,rowM,i64s_length,i64s_getD,i64s_all,tab_length,List.take_length,List.length_append,tab_drop,tab_take,tab_append,tab_nil,rowQ_all,rowQ_one,rowQ_pure,rowM_all,rowM_one,rowM_pure,rowI_all,rowI_one,rowI_pure,sT]):G:=e.mpr h
theorem sPeX {G G' P:Prop} (p:P) (h:G') (e:P→G=G':=by intro p;conv=>lhs;simp (disch:=omega) only [rowsOf,cNat,cN,St.ret,St.seth,Eff.app,Eff.wi,sepL,guardOf,St.known,objOf,List.set,sliceW,litW,copyW,lenOf,bnd,mxOk,ofCells,TI.isAgg,cellsOf,storable,AV.one,dead,laid,overlay,reduceCtorEq,Int.reduceLE,Int.reduceLT,Int.reduceSub,Int.reduceAdd,Nat.reduceMul,Int.reduceToNat,Nat.reducePow,Int.reduceNeg,Nat.reduceAdd,Nat.reduceLT,Nat.reduceLeDiff,sA,sB,Nat.reduceEqDiff,cQ,rowM,i64s_length,i64s_getD,i64s_all,tab_length,List.take_length,List.length_append,tab_drop,tab_take,tab_append,tab_nil,rowQ_all,rowQ_one,rowQ_pure,rowM_all,rowM_one,rowM_pure,rowI_all,rowI_one,rowI_pure,sT,p]):G:=(e p).mpr h
theorem sPeV {G G':Prop} (h:G') (e:G=G':=by conv=>lhs;simp (disch:=omega) only [rowsOf,cNat,cN,St.ret,St.seth,Eff.app,Eff.wi,sepL,guardOf,St.known,objOf,List.set,sliceW,litW,copyW,lenOf,bnd,mxOk,ofCells,TI.isAgg,cellsOf,storable,AV.one,dead,laid,overlay,reduceCtorEq,Int.reduceLE,Int.reduceLT,Int.reduceSub,Int.reduceAdd,Nat.reduceMul,Int.reduceToNat,Nat.reducePow,Int.reduceNeg,Nat.reduceAdd,Nat.reduceLT,Nat.reduceLeDiff,sA,sB,Nat.reduceEqDiff,cQ,rowM,i64s_length,i64s_getD,i64s_all,tab_length,List.take_length,List.length_append,tab_drop,tab_take,tab_append,tab_nil,rowQ_all,rowQ_one,rowQ_pure,rowM_all,rowM_one,rowM_pure,rowI_all,rowI_one,rowI_pure,sT,view_sref,viewRef,view_agg,views_cons,views_nil,view_bool,view_int,view_sl,view_nils,view_str,view_tup,view_nilif]):G:=e.mpr h
theorem aPe {G G':Prop} (h:G') (f:Wr G'→G:=by intro h;(repeat (first|(refine W_seqV fun K hK=>?_;(try (refine sPe ?_;try exact True.intro));(repeat refine aI ?_);refine hK _ ?_;clear hK K)|(refine W_seqR fun K hK=>?_;(try (refine sPe ?_;try exact True.intro));(repeat refine aI ?_);refine hK _ ?_;clear hK K)|(refine W_seqD mixed [] (by kernel_rfl) fun K hK=>?_;(try (refine sPe ?_;try exact True.intro));(repeat refine aI ?_);refine hK _ ?_;clear hK K)));exact h.out):G:=f ⟨h⟩
theorem delF_erase {e:List (Int × Rat)} (h:NF e):∀ {k:Nat},k<e.length→delF e (e.getD k default).1=e.eraseIdx k:=by
 induction e with
 | nil=>intro k hk;simp at hk
 | cons p e ih =>
  intro k hk
  have hne:∀ q∈e,¬ q.1=p.1:=fun q hq he=>by have:=h.head q hq;omega
  cases k with
  | zero =>
   simp only [List.getD_cons_zero,List.eraseIdx_cons_zero]
   unfold delF
   rw [List.filter_cons,if_neg (by simp)]
   exact delF_none (v:=p.1) hne
  | succ k =>
   simp only [List.getD_cons_succ,List.eraseIdx_cons_succ]
   have hk':k<e.length:=by simpa using hk
   have hm:e.getD k default∈e:=by simp [List.getD_eq_getElem?_getD,hk']
   have h1:=ih h.tail hk'
   unfold delF at h1 ⊢
   rw [List.filter_cons,if_pos (by have:=hne _ hm;simp;intro he;exact this he.symm),h1]
theorem isolve_ok {e:List (Int × Rat)} (hN:NF e) {k:Nat} (hk:k<e.length) (hs:nbs e≤268435456) :
  Pure Tryz.prog 94 [.agg [.sl (tab rowQ e),.bool false,.sl [],.sl []],.int .i64 (e.getD k default).1] (· = .tup [.agg (affQ (solved e k) 0),.int .i64 0]):=by
 have hm:e.getD k default∈e:=by simp [List.getD_eq_getElem?_getD,hk]
 have hc:=hN.coef_zero hm
 have hf:FOk (rf e) (nbs e):=FOk.rf (Sz.of e) (by omega)
 have h:=lsolve_ok (rf e) (e.getD k default).1 hf (by omega) (by rw [vals_rf,hc];exact hN.nz _ hm)
 rw [vals_rf,hc,norm_self hN,delF_erase hN hk] at h
 simp only [affM,zeroR,tab_rf,show u32s []=[] from rfl] at h
 exact h
set_option maxHeartbeats 16000000 in
theorem irow_ok (r:Rw) (ls:List LL) (h:RwOk r) (hL:LsOk ls):Pure Tryz.prog 144 [.agg r.cells,.sl (tab rowL ls)] (· = .sl (tab rowIm (rowsTo ls (eqnF r) (eqnF r).length))):=by
 have he:=ieqn_ok r h
 have hN:=eqn_nf r
 have hb:=eqn_nbs h
 generalize eqnF r=e at *
 have hl:=nbs_len e
 have hv:=lvars_ok (rf e) (B:=nbs e) (FOk.rf (Sz.of e) (by omega)) (by omega)
 rw [vals_rf,norm_self hN,cF_rf] at hv
 have hso:=fun k (hk:k<e.length)=>isolve_ok hN hk (by omega)
 have hsu:=fun k (hk:k<e.length)=>isum_ok false ls (solved e k) (sum_ok' hL false hN (by omega) k hk)
 have hsv:=fun k (hk:k<e.length)=>isum_ok true ls (solved e k) (sum_ok' hL true hN (by omega) k hk)
 have hR:=rowsTo_len ls e
 have r0:rowsTo ls e 0=[]:=rfl
 have r1:∀ k,rowsTo ls e (k+1)=rowsTo ls e k++(impR false ls e k).toList++(impR true ls e k).toList:=fun _=>rfl
 have hvl:(e.map (·.1)).length=e.length:=by simp
 have hva:∀ k,k<e.length→(e.map (·.1)).getD k 0=(e.getD k default).1:=fun k hk=>by simp [List.getD_eq_getElem?_getD,hk]
 generalize rowsTo ls e=R at *
 generalize e.map (·.1)=V at *
 obtain ⟨b,f⟩:=r
 simp only [Rw.cells,cL] at *
 (refine pureW Tryz.func144 rfl (rs:=[Go.ResultVar.tmp 4]) rfl (n:=71) rfl ?_;simp only [List.length_cons,List.length_nil,List.replicate,List.cons_append,List.nil_append])
 (refine aPe ?_)
 ((refine W_seqV ?_);intro K hK;(refine sPe ?_))
 (refine ⟨by kernel_rfl,_,.pure rfl (he),?_⟩;(try (refine sPe ?_)))
 (refine hK _ ?_;clear hK K)
 refine W.le ?_ (Le_nil 5 5 134 9 true rfl rfl)
 simp only [List.set]
 refine W_seq ?_
 ((refine W_seqV ?_);intro K hK;(refine sPe ?_))
 (refine ⟨by kernel_rfl,_,.pure rfl (hv),?_⟩;(try (refine sPe ?_)))
 (refine hK _ ?_;clear hK K)
 rw [hvl]
 refine W_block (W_loop (fun t:{t:Nat // t≤e.length} =>
   ((fun (a_:AV) (d_:Ob)=>(⟨(a_::a_::a_::a_::a_::(.sref 5 0 (R t.1).length)::(.ptr 6 0 0)::(.sl (tab rowQ e))::a_::a_::a_::a_::a_::a_::a_::a_::a_::a_::a_::a_::a_::(.sl (i64s V))::(.int .i64 e.length)::(.int .i64 t.1)::a_::a_::a_::a_::a_::a_::a_::a_::a_::a_::a_::a_::a_::a_::a_::a_::a_::a_::a_::a_::a_::a_::a_::a_::a_::a_::a_::a_::a_::a_::a_::a_::a_::a_::a_::a_::a_::a_::a_::a_::a_::a_::a_::a_::a_::a_::a_::[]),(d_::d_::d_::d_::d_::(.arr 134 9 true (tab rowIm (R t.1)))::(.arr 153 1 false [[.sl (tab rowL ls)]])::d_::d_::d_::d_::d_::d_::d_::d_::d_::d_::d_::d_::d_::d_::d_::d_::d_::d_::d_::d_::d_::d_::d_::d_::d_::d_::d_::d_::d_::d_::d_::d_::d_::d_::d_::d_::d_::d_::d_::d_::d_::d_::d_::d_::d_::d_::d_::d_::d_::d_::d_::d_::d_::d_::d_::d_::d_::d_::d_::d_::d_::d_::d_::d_::[])⟩:St)) .any .dead)) (fun t=>e.length-t.1)
   ⟨0,by omega⟩ (Le_drop (by simp [leE,r0]) (by simp [leH,r0,tab]) rfl rfl) fun t=>?_)
 obtain ⟨k,hk⟩:=t
 dsimp only
 by_cases hlt:k<e.length
 ·have h1:=hsu k hlt
  have h2:=hsv k hlt
  have hRk:=hR k
  have hr1:=r1 k
  have hs1:=hso k hlt
  have hvk:=hva k hlt
  have hkV:k<V.length:=by omega
  unfold impR at hr1
  generalize (e.getD k default).1=v at *
  generalize solved e k=S at *
  simp only [affQ] at hs1
  generalize (0:Rat)=q0 at hs1
  unfold sumR at h1 h2
  generalize sumA false ls S=A1 at *
  generalize sumA true ls S=A2 at *
  generalize sumB false ls S=B1 at *
  generalize sumB true ls S=B2 at *
  simp only [sideF,Bool.false_eq_true,if_false,Bool.not_false,Bool.not_true,if_true] at h1 h2
  generalize R k=rk at *
  refine W_seq ?_
  ((refine W_regV ?_);intro K hK;(refine sPeX hlt ?_))
  (refine hK _ ?_;clear hK K)
  refine W_seq ?_
  (refine W_ct rfl ?_)
  refine W_skip ?_
  simp only [thenW]
  refine W_seq ?_
  refine W_block ?_
  ((refine W_seqV ?_);intro K hK;(refine sPeX (And.intro hvk hkV) ?_))
  (refine hK _ ?_;clear hK K)
  ((refine W_seqV ?_);intro K hK;(refine sPe ?_))
  (refine ⟨by kernel_rfl,_,.pure rfl (hs1),?_⟩;(try (refine sPe ?_)))
  (refine hK _ ?_;clear hK K)
  cases ha1:allH false ls S <;> cases ha2:allH true ls S
  ·rw [ha1,ha2] at hr1
   rw [ha1] at h1
   rw [ha2] at h2
   simp only [Bool.false_eq_true,if_false,if_true,Option.toList_some,Option.toList_none,List.append_nil] at hr1 h1 h2
   simp only [II.cells,dq,qr,tab_rf,zeroI,zeroD0,zeroR] at h1
   ((refine W_seq (W_seqV ?_));intro K hK;(refine sPe ?_))
   (refine ⟨by kernel_rfl,_,.pure rfl (h1),?_⟩;(try (refine sPe ?_)))
   (refine hK _ ?_;clear hK K)
   refine W_seq ?_
   ((refine W_regV ?_);intro K hK;(refine sPe ?_))
   (refine hK _ ?_;clear hK K)
   (refine W_cf rfl ?_)
   refine W_skip ?_
   simp only [thenW]
   simp only [II.cells,dq,qr,tab_rf,zeroI,zeroD0,zeroR] at h2
   ((refine W_seqV ?_);intro K hK;(refine sPe ?_))
   (refine ⟨by kernel_rfl,_,.pure rfl (h2),?_⟩;(try (refine sPe ?_)))
   (refine hK _ ?_;clear hK K)
   ((refine W_seqV ?_);intro K hK;(refine sPe ?_))
   (refine hK _ ?_;clear hK K)
   (refine W_cf rfl ?_)
   refine W_skip ?_
   simp only [blockW,thenW]
   ((refine W_regV ?_);intro K hK;(refine sPe ?_))
   (refine hK _ ?_;clear hK K)
   simp only [blockW,thenW]
   refine ⟨⟨k+1,by omega⟩,Le_drop (by simp [leE,hr1]) (by simp [leH,hr1,← tab_append,tab_cons,tab_nil,rowIm,II.cells,dq,qr,tab_rf,tab_take,List.take_of_length_le,tab_length]) rfl rfl,?_⟩
   dsimp only
   omega
  ·rw [ha1,ha2] at hr1
   rw [ha1] at h1
   rw [ha2] at h2
   simp only [Bool.false_eq_true,if_false,if_true,Option.toList_some,Option.toList_none,List.append_nil] at hr1 h1 h2
   simp only [II.cells,dq,qr,tab_rf,zeroI,zeroD0,zeroR] at h1
   ((refine W_seq (W_seqV ?_));intro K hK;(refine sPe ?_))
   (refine ⟨by kernel_rfl,_,.pure rfl (h1),?_⟩;(try (refine sPe ?_)))
   (refine hK _ ?_;clear hK K)
   refine W_seq ?_
   ((refine W_regV ?_);intro K hK;(refine sPe ?_))
   (refine hK _ ?_;clear hK K)
   (refine W_cf rfl ?_)
   refine W_skip ?_
   simp only [thenW]
   simp only [II.cells,dq,qr,tab_rf] at h2
   ((refine W_seqV ?_);intro K hK;(refine sPe ?_))
   (refine ⟨by kernel_rfl,_,.pure rfl (h2),?_⟩;(try (refine sPe ?_)))
   (refine hK _ ?_;clear hK K)
   ((refine W_seqV ?_);intro K hK;(refine sPe ?_))
   (refine hK _ ?_;clear hK K)
   (refine W_ct rfl ?_)
   refine W_seq ?_
   ((refine W_regV ?_);intro K hK;(refine sPe ?_))
   (refine hK _ ?_;clear hK K)
   simp only [thenW]
   ((refine W_regR ?_);intro K hK;(refine sPeX hlt ?_))
   (repeat refine aI ?_);refine hK _ ?_;clear hK K
   simp only [blockW,thenW]
   ((refine W_regV ?_);intro K hK;(refine sPe ?_))
   (refine hK _ ?_;clear hK K)
   simp only [blockW,thenW]
   refine ⟨⟨k+1,by omega⟩,Le_drop (by simp [leE,hr1]) (by simp [leH,hr1,← tab_append,tab_cons,tab_nil,rowIm,II.cells,dq,qr,tab_rf,tab_take,List.take_of_length_le,tab_length]) rfl rfl,?_⟩
   dsimp only
   omega
  ·rw [ha1,ha2] at hr1
   rw [ha1] at h1
   rw [ha2] at h2
   simp only [Bool.false_eq_true,if_false,if_true,Option.toList_some,Option.toList_none,List.append_nil] at hr1 h1 h2
   simp only [II.cells,dq,qr,tab_rf] at h1
   ((refine W_seq (W_seqV ?_));intro K hK;(refine sPe ?_))
   (refine ⟨by kernel_rfl,_,.pure rfl (h1),?_⟩;(try (refine sPe ?_)))
   (refine hK _ ?_;clear hK K)
   refine W_seq ?_
   ((refine W_regV ?_);intro K hK;(refine sPe ?_))
   (refine hK _ ?_;clear hK K)
   (refine W_ct rfl ?_)
   refine W_seq ?_
   ((refine W_regV ?_);intro K hK;(refine sPe ?_))
   (refine hK _ ?_;clear hK K)
   simp only [thenW]
   ((refine W_regR ?_);intro K hK;(refine sPeX hlt ?_))
   (repeat refine aI ?_);refine hK _ ?_;clear hK K
   simp only [thenW]
   simp only [II.cells,dq,qr,tab_rf,zeroI,zeroD0,zeroR] at h2
   ((refine W_seqV ?_);intro K hK;(refine sPe ?_))
   (refine ⟨by kernel_rfl,_,.pure rfl (h2),?_⟩;(try (refine sPe ?_)))
   (refine hK _ ?_;clear hK K)
   ((refine W_seqV ?_);intro K hK;(refine sPe ?_))
   (refine hK _ ?_;clear hK K)
   (refine W_cf rfl ?_)
   refine W_skip ?_
   simp only [blockW,thenW]
   ((refine W_regV ?_);intro K hK;(refine sPe ?_))
   (refine hK _ ?_;clear hK K)
   simp only [blockW,thenW]
   refine ⟨⟨k+1,by omega⟩,Le_drop (by simp [leE,hr1]) (by simp [leH,hr1,← tab_append,tab_cons,tab_nil,rowIm,II.cells,dq,qr,tab_rf,tab_take,List.take_of_length_le,tab_length]) rfl rfl,?_⟩
   dsimp only
   omega
  ·rw [ha1,ha2] at hr1
   rw [ha1] at h1
   rw [ha2] at h2
   simp only [Bool.false_eq_true,if_false,if_true,Option.toList_some,Option.toList_none,List.append_nil] at hr1 h1 h2
   simp only [II.cells,dq,qr,tab_rf] at h1
   ((refine W_seq (W_seqV ?_));intro K hK;(refine sPe ?_))
   (refine ⟨by kernel_rfl,_,.pure rfl (h1),?_⟩;(try (refine sPe ?_)))
   (refine hK _ ?_;clear hK K)
   refine W_seq ?_
   ((refine W_regV ?_);intro K hK;(refine sPe ?_))
   (refine hK _ ?_;clear hK K)
   (refine W_ct rfl ?_)
   refine W_seq ?_
   ((refine W_regV ?_);intro K hK;(refine sPe ?_))
   (refine hK _ ?_;clear hK K)
   simp only [thenW]
   ((refine W_regR ?_);intro K hK;(refine sPeX hlt ?_))
   (repeat refine aI ?_);refine hK _ ?_;clear hK K
   simp only [thenW]
   simp only [II.cells,dq,qr,tab_rf] at h2
   ((refine W_seqV ?_);intro K hK;(refine sPe ?_))
   (refine ⟨by kernel_rfl,_,.pure rfl (h2),?_⟩;(try (refine sPe ?_)))
   (refine hK _ ?_;clear hK K)
   ((refine W_seqV ?_);intro K hK;(refine sPe ?_))
   (refine hK _ ?_;clear hK K)
   (refine W_ct rfl ?_)
   refine W_seq ?_
   ((refine W_regV ?_);intro K hK;(refine sPe ?_))
   (refine hK _ ?_;clear hK K)
   simp only [thenW]
   ((refine W_regR ?_);intro K hK;(refine sPeX hlt ?_))
   (repeat refine aI ?_);refine hK _ ?_;clear hK K
   simp only [blockW,thenW]
   ((refine W_regV ?_);intro K hK;(refine sPe ?_))
   (refine hK _ ?_;clear hK K)
   simp only [blockW,thenW]
   refine ⟨⟨k+1,by omega⟩,Le_drop (by simp [leE,hr1]) (by simp [leH,hr1,← tab_append,tab_cons,tab_nil,rowIm,II.cells,dq,qr,tab_rf,tab_take,List.take_of_length_le,tab_length]) rfl rfl,?_⟩
   dsimp only
   omega
 ·obtain rfl:k=e.length:=by omega
  refine W_seq ?_
  ((refine W_regV ?_);intro K hK;(refine sPe ?_))
  (refine hK _ ?_;clear hK K)
  refine W_seq ?_
  (refine W_cf rfl ?_)
  refine W_exit ?_
  simp only [thenW,blockW,if_true]
  ((refine W_seqV ?_);intro K hK;(refine sPe ?_))
  (refine hK _ ?_;clear hK K)
  refine W_ret ?_
  (refine qG ?_;try exact True.intro);try (refine sPeV ?_;try exact True.intro)
theorem len_ne (n:Nat):((n:Int) != (n:Int))=false:=by simp
theorem sameNat_ok (l:List Nat) (h:l.length<1099511627776):Pure Tryz.prog 179 [.sl (u32s l),.sl (u32s l)] (· = .bool true):=by
 have hz:=len_ne l.length
 (refine pureW Tryz.func179 rfl (rs:=[Go.ResultVar.tmp 4]) rfl (n:=26) rfl ?_;simp only [List.length_cons,List.length_nil,List.replicate,List.cons_append,List.nil_append])
 (refine aNa ?_)
 refine W_seq ?_
 ((refine W_seqV ?_);intro K hK;(refine sNaX hz ?_))
 (refine hK _ ?_;clear hK K)
 (refine W_cf rfl ?_)
 refine W_skip ?_
 simp only [thenW]
 refine W_seq ?_
 ((refine W_seqV ?_);intro K hK;(refine sNa ?_))
 (refine hK _ ?_;clear hK K)
 refine W_block (W_loop (fun t:{t:Nat // t≤l.length} =>
   ⟨[.sl (u32s l),.sl (u32s l),.any,.any,.any,.int .i64 t.1,.any,.any,.any,.any,.any,.any,.any,.any,.any,.any,.any,.any,.any,.any,.any,.any,.any,.any,.any,.any],[.dead,.dead,.dead,.dead,.dead,.dead,.dead,.dead,.dead,.dead,.dead,.dead,.dead,.dead,.dead,.dead,.dead,.dead,.dead,.dead,.dead,.dead,.dead,.dead,.dead,.dead]⟩) (fun t=>l.length-t.1)
   ⟨0,by omega⟩ (Le_of (by simp [leE]) (by simp)) fun t=>?_)
 obtain ⟨i,hi⟩:=t
 dsimp only
 by_cases hlt:i<l.length
 ·generalize hx:l.getD i 0=x
  have hzx:=len_ne x
  refine W_seq ?_
  ((refine W_seqV ?_);intro K hK;(refine sNaX hlt ?_))
  (refine hK _ ?_;clear hK K)
  (refine W_ct rfl ?_)
  refine W_skip ?_
  simp only [thenW]
  refine W_seq ?_
  refine W_block ?_
  ((refine W_seqD mixed [] (by kernel_rfl) ?_);intro K hK;(refine sNaX (And.intro hlt (And.intro hx hzx)) ?_))
  (refine hK _ ?_;clear hK K)
  (refine W_cf rfl ?_)
  refine W_skip ?_
  simp only [blockW,thenW]
  ((refine W_regV ?_);intro K hK;(refine sNa ?_))
  (refine hK _ ?_;clear hK K)
  simp only [blockW,thenW]
  refine ⟨⟨i+1,by omega⟩,Le_drop (by simp [leE]) (by simp [leH]) rfl rfl,?_⟩
  dsimp only
  omega
 ·obtain rfl:i=l.length:=by omega
  refine W_seq ?_
  ((refine W_seqV ?_);intro K hK;(refine sNa ?_))
  (refine hK _ ?_;clear hK K)
  (refine W_cf rfl ?_)
  refine W_exit ?_
  simp only [thenW,blockW,if_true]
  ((refine W_seqV ?_);intro K hK;(refine sNa ?_))
  (refine hK _ ?_;clear hK K)
  refine W_ret ?_
  (refine qG ?_;try exact True.intro);try (refine sNaV ?_;try exact True.intro)
theorem sameInt_ok (b:Bool) (l:List Nat) (h:l.length<1099511627776):Pure Tryz.prog 178 [.agg [.bool b,.sl (u32s l)],.agg [.bool b,.sl (u32s l)]] (· = .bool true):=by
 have h1:=sameNat_ok l h
 have hb:(b == b)=true:=by simp
 (refine pureW Tryz.func178 rfl (rs:=[Go.ResultVar.tmp 4]) rfl (n:=17) rfl ?_;simp only [List.length_cons,List.length_nil,List.replicate,List.cons_append,List.nil_append])
 (refine aNa ?_)
 ((refine W_seqV ?_);intro K hK;(refine sNaX hb ?_))
 (refine ⟨by kernel_rfl,_,.pure rfl (h1),?_⟩;(try (refine sNa ?_)))
 (refine hK _ ?_;clear hK K)
 refine W_ret ?_
 (refine qG ?_;try exact True.intro);try (refine sNaV ?_;try exact True.intro)
theorem sameRat_ok (r:RR) (h:r.ok):Pure Tryz.prog 142 [r.av,r.av] (· = .bool true):=by
 have h1:=sameInt_ok r.neg r.num (Nat.lt_trans h.nl (by decide))
 have h2:=sameNat_ok r.den (Nat.lt_trans h.dl (by decide))
 obtain ⟨b,n,d⟩:=r
 simp only [RR.av] at *
 (refine pureW Tryz.func142 rfl (rs:=[Go.ResultVar.tmp 4]) rfl (n:=17) rfl ?_;simp only [List.length_cons,List.length_nil,List.replicate,List.cons_append,List.nil_append])
 (refine aNa ?_)
 ((refine W_seqV ?_);intro K hK;(refine sNa ?_))
 (refine ⟨by kernel_rfl,_,.pure rfl (h1),?_⟩;(try (refine sNa ?_)))
 (refine ⟨by kernel_rfl,_,.pure rfl (h2),?_⟩;(try (refine sNa ?_)))
 (refine hK _ ?_;clear hK K)
 refine W_ret ?_
 (refine qG ?_;try exact True.intro);try (refine sNaV ?_;try exact True.intro)
theorem sameDelta_ok (d:DD) (h:d.ok):Pure Tryz.prog 100 [d.av,d.av] (· = .bool true):=by
 have h1:=sameRat_ok d.a h.1
 have h2:=sameRat_ok d.b h.2
 obtain ⟨⟨n,x,y⟩,⟨m,z,w⟩⟩:=d
 simp only [DD.av,DD.cells,RR.av] at *
 (refine pureW Tryz.func100 rfl (rs:=[Go.ResultVar.tmp 4]) rfl (n:=17) rfl ?_;simp only [List.length_cons,List.length_nil,List.replicate,List.cons_append,List.nil_append])
 (refine aNa ?_)
 ((refine W_seqV ?_);intro K hK;(refine sNa ?_))
 (refine ⟨by kernel_rfl,_,.pure rfl (h1),?_⟩;(try (refine sNa ?_)))
 (refine ⟨by kernel_rfl,_,.pure rfl (h2),?_⟩;(try (refine sNa ?_)))
 (refine hK _ ?_;clear hK K)
 refine W_ret ?_
 (refine qG ?_;try exact True.intro);try (refine sNaV ?_;try exact True.intro)
structure IIok (i:II):Prop where
 at_:i.at_.ok
 nb:nb2 i.at_.v≤4294967296
 by_:∀ p∈i.by_,p.2.ok
 len:i.by_.length<1099511627776
 nbb:∀ p∈i.by_,Vm.nb p.2.v≤4294967296
theorem rows_ok {ls:List LL} (hL:LsOk ls) {e:List (Int × Rat)} (hN:NF e) (hs:nbs e≤268435456):∀ n,n≤e.length→∀ i∈rowsTo ls e n,IIok i
 | 0,_,i,hi=>by cases hi
 | n+1,hn,i,hi=>by
  have hl:=nbs_len e
  have hone:∀ u,∀ i∈(impR u ls e n).toList,IIok i:=fun u i hi=>by
   unfold impR at hi
   split at hi
   ·simp only [Option.toList_some,List.mem_singleton] at hi
    subst hi
    have hS:=sum_ok' hL u hN hs n (by omega)
    have hp:nb2 (sumA u ls (solved e n))≤4294967296:=by have:=hS.pre (solved e n).length;rwa [List.take_length] at this
    refine ⟨dq_ok (by omega),by rw [dq_v];exact hp,fun p hp=>?_,?_,fun p hp=>?_⟩
    ·simp only [rf,sumB,List.mem_map] at hp
     obtain ⟨_,⟨m,hm,rfl⟩,rfl⟩:=hp
     exact qr_ok (by dsimp only;rw [nb_abs];have:=(hS.part m hm).1;omega)
    ·simp only [rf,sumB,List.length_map,solved_len (show n<e.length by omega)];omega
    ·simp only [rf,sumB,List.mem_map] at hp
     obtain ⟨_,⟨m,hm,rfl⟩,rfl⟩:=hp
     simp only [qr_v,nb_abs]
     exact (hS.part m hm).1
   ·cases hi
  rcases List.mem_append.1 hi with hi | hi
  ·rcases List.mem_append.1 hi with hi | hi
   ·exact rows_ok hL hN hs n (by omega) i hi
   ·exact hone false i hi
  ·exact hone true i hi
def isTight (ls:List LL) (i:II):Bool :=
 if i.upper=true then !(limOf ls i.var).upper.has || decide (dsg (dsub i.at_.v (limOf ls i.var).upper.at_.v)<0)
 else !(limOf ls i.var).lower.has || decide (0<dsg (dsub i.at_.v (limOf ls i.var).lower.at_.v))
theorem itight_ok (ls:List LL) (i:II) (hL:LsOk ls) (hi:i.at_.ok):Pure Tryz.prog 145 [.agg [.sl (tab rowL ls)],.agg i.cells] (· = .bool (isTight ls i)):=by
 have h1:=ilower_ok ls i.var
 have h2:=iupper_ok ls i.var
 obtain ⟨l1,l2,l3⟩:=lim_ok hL i.var
 have c1:=dcmp_ok i.at_ (limOf ls i.var).lower.at_ hi l1
 have c2:=dcmp_ok i.at_ (limOf ls i.var).upper.at_ hi l2
 unfold isTight
 generalize dsg (dsub i.at_.v (limOf ls i.var).lower.at_.v)=d1 at *
 generalize dsg (dsub i.at_.v (limOf ls i.var).upper.at_.v)=d2 at *
 generalize limOf ls i.var=l at *
 clear l1 l2 l3 hi hL
 obtain ⟨v,u,⟨⟨n,x,y⟩,⟨m,z,w⟩⟩,by_⟩:=i
 obtain ⟨⟨b1,⟨⟨n1,x1,y1⟩,⟨m1,z1,w1⟩⟩,k1⟩,⟨b2,⟨⟨n2,x2,y2⟩,⟨m2,z2,w2⟩⟩,k2⟩⟩:=l
 simp only [II.cells,BB.cells,DD.av,DD.cells] at *
 cases u
 ·simp only [Bool.false_eq_true,if_false]
  cases b1
  ·(refine pureW Tryz.func145 rfl (rs:=[Go.ResultVar.tmp 4]) rfl (n:=39) rfl ?_;simp only [List.length_cons,List.length_nil,List.replicate,List.cons_append,List.nil_append])
   (repeat' (first | (exfalso;simp at h;done) | (refine W_seqV fun K hK=>?_;(try (refine sNa ?_));refine hK _ ?_;clear hK K) | refine W_skip ?_ | (refine W_cond rfl (fun h=>?_) (fun h=>?_) <;> (try simp only [cond_true,cond_false,ne_eq,cB] at h)) | refine W_seq ?_))
   ((refine W_regV ?_);intro K hK;(refine sNa ?_))
   (refine ⟨by kernel_rfl,_,.pure rfl (h1),?_⟩;(try (refine sNa ?_)))
   (refine hK _ ?_;clear hK K)
   (repeat' (first | (refine W_seqV fun K hK=>?_;(try (refine sNa ?_));refine hK _ ?_;clear hK K) | (refine W_ret ?_;(refine qG ?_))))
   (try (refine sNaV ?_))
   simp
  ·(refine pureW Tryz.func145 rfl (rs:=[Go.ResultVar.tmp 4]) rfl (n:=39) rfl ?_;simp only [List.length_cons,List.length_nil,List.replicate,List.cons_append,List.nil_append])
   (repeat' (first | (exfalso;simp at h;done) | (refine W_seqV fun K hK=>?_;(try (refine sNa ?_));refine hK _ ?_;clear hK K) | refine W_skip ?_ | (refine W_cond rfl (fun h=>?_) (fun h=>?_) <;> (try simp only [cond_true,cond_false,ne_eq,cB] at h)) | refine W_seq ?_))
   ((refine W_regV ?_);intro K hK;(refine sNa ?_))
   (refine ⟨by kernel_rfl,_,.pure rfl (h1),?_⟩;(try (refine sNa ?_)))
   (refine hK _ ?_;clear hK K)
   ((refine W_seqV ?_);intro K hK;(refine sNa ?_))
   (refine ⟨by kernel_rfl,_,.pure rfl (c1),?_⟩;(try (refine sNa ?_)))
   (refine hK _ ?_;clear hK K)
   (repeat' (refine W_ret ?_;(refine qG ?_)))
   (try (refine sNaV ?_))
   simp
 ·simp only [if_true]
  cases b2
  ·(refine pureW Tryz.func145 rfl (rs:=[Go.ResultVar.tmp 4]) rfl (n:=39) rfl ?_;simp only [List.length_cons,List.length_nil,List.replicate,List.cons_append,List.nil_append])
   (repeat' (first | (exfalso;simp at h;done) | (refine W_seqV fun K hK=>?_;(try (refine sNa ?_));refine hK _ ?_;clear hK K) | (refine W_cond rfl (fun h=>?_) (fun h=>?_) <;> (try simp only [cond_true,cond_false,ne_eq,cB] at h)) | refine W_seq ?_))
   ((refine W_regV ?_);intro K hK;(refine sNa ?_))
   (refine ⟨by kernel_rfl,_,.pure rfl (h2),?_⟩;(try (refine sNa ?_)))
   (refine hK _ ?_;clear hK K)
   (repeat' (first | (refine W_seqV fun K hK=>?_;(try (refine sNa ?_));refine hK _ ?_;clear hK K) | (refine W_ret ?_;(refine qG ?_))))
   (try (refine sNaV ?_))
   simp
  ·(refine pureW Tryz.func145 rfl (rs:=[Go.ResultVar.tmp 4]) rfl (n:=39) rfl ?_;simp only [List.length_cons,List.length_nil,List.replicate,List.cons_append,List.nil_append])
   (repeat' (first | (exfalso;simp at h;done) | (refine W_seqV fun K hK=>?_;(try (refine sNa ?_));refine hK _ ?_;clear hK K) | (refine W_cond rfl (fun h=>?_) (fun h=>?_) <;> (try simp only [cond_true,cond_false,ne_eq,cB] at h)) | refine W_seq ?_))
   ((refine W_regV ?_);intro K hK;(refine sNa ?_))
   (refine ⟨by kernel_rfl,_,.pure rfl (h2),?_⟩;(try (refine sNa ?_)))
   (refine hK _ ?_;clear hK K)
   ((refine W_seqV ?_);intro K hK;(refine sNa ?_))
   (refine ⟨by kernel_rfl,_,.pure rfl (c2),?_⟩;(try (refine sNa ?_)))
   (refine hK _ ?_;clear hK K)
   (repeat' (refine W_ret ?_;(refine qG ?_)))
   (try (refine sNaV ?_))
   simp
theorem sPg {G G':Prop} (h:G') (e:G=G':=by conv=>lhs;simp (disch:=omega) only [rowsOf,cNat,cN,St.ret,St.seth,Eff.app,Eff.wi,sepL,guardOf,St.known,objOf,List.set,sliceW,litW,copyW,lenOf,bnd,mxOk,ofCells,TI.isAgg,cellsOf,storable,AV.one,dead,laid,overlay,reduceCtorEq,Int.reduceLE,Int.reduceLT,Int.reduceSub,Int.reduceAdd,Nat.reduceMul,Int.reduceToNat,Nat.reducePow,Int.reduceNeg,Nat.reduceAdd,Nat.reduceLT,Nat.reduceLeDiff,sA,sB,Nat.reduceEqDiff,tab_length,List.take_length,List.length_append,tab_drop,tab_take,tab_append,tab_nil,rowI_all,rowI_one,rowI_pure,rowL_all,rowL_one,rowL_pure,sT]):G:=e.mpr h
theorem sPgX {G G' P:Prop} (p:P) (h:G') (e:P→G=G':=by intro p;conv=>lhs;simp (disch:=omega) only [rowsOf,cNat,cN,St.ret,St.seth,Eff.app,Eff.wi,sepL,guardOf,St.known,objOf,List.set,sliceW,litW,copyW,lenOf,bnd,mxOk,ofCells,TI.isAgg,cellsOf,storable,AV.one,dead,laid,overlay,reduceCtorEq,Int.reduceLE,Int.reduceLT,Int.reduceSub,Int.reduceAdd,Nat.reduceMul,Int.reduceToNat,Nat.reducePow,Int.reduceNeg,Nat.reduceAdd,Nat.reduceLT,Nat.reduceLeDiff,sA,sB,Nat.reduceEqDiff,tab_length,List.take_length,List.length_append,tab_drop,tab_take,tab_append,tab_nil,rowI_all,rowI_one,rowI_pure,rowL_all,rowL_one,rowL_pure,sT,p]):G:=(e p).mpr h
theorem sPgV {G G':Prop} (h:G') (e:G=G':=by conv=>lhs;simp (disch:=omega) only [rowsOf,cNat,cN,St.ret,St.seth,Eff.app,Eff.wi,sepL,guardOf,St.known,objOf,List.set,sliceW,litW,copyW,lenOf,bnd,mxOk,ofCells,TI.isAgg,cellsOf,storable,AV.one,dead,laid,overlay,reduceCtorEq,Int.reduceLE,Int.reduceLT,Int.reduceSub,Int.reduceAdd,Nat.reduceMul,Int.reduceToNat,Nat.reducePow,Int.reduceNeg,Nat.reduceAdd,Nat.reduceLT,Nat.reduceLeDiff,sA,sB,Nat.reduceEqDiff,tab_length,List.take_length,List.length_append,tab_drop,tab_take,tab_append,tab_nil,rowI_all,rowI_one,rowI_pure,rowL_all,rowL_one,rowL_pure,sT,view_sref,viewRef,view_agg,views_cons,views_nil,view_bool,view_int,view_sl,view_nils,view_str,view_tup,view_nilif]):G:=e.mpr h
theorem aPg {G G':Prop} (h:G') (f:Wr G'→G:=by intro h;(repeat (first|(refine W_seqV fun K hK=>?_;(try (refine sPg ?_;try exact True.intro));(repeat refine aI ?_);refine hK _ ?_;clear hK K)|(refine W_seqR fun K hK=>?_;(try (refine sPg ?_;try exact True.intro));(repeat refine aI ?_);refine hK _ ?_;clear hK K)|(refine W_seqD mixed [] (by kernel_rfl) fun K hK=>?_;(try (refine sPg ?_;try exact True.intro));(repeat refine aI ?_);refine hK _ ?_;clear hK K)));exact h.out):G:=f ⟨h⟩
def tightTo (ls:List LL) (l:List II) (n:Nat):List II:=(l.take n).filter (isTight ls)
theorem tight_succ (ls:List LL) {l:List II} {n:Nat} (h:n<l.length):tightTo ls l (n+1)=tightTo ls l n++if isTight ls (l.getD n default)=true then [l.getD n default] else []:=by
 unfold tightTo
 rw [List.take_succ_eq_append_getElem h,List.filter_append]
 have:l.getD n default=l[n]:=by simp [List.getD_eq_getElem?_getD,h]
 rw [this,List.filter_cons]
 simp
theorem tight_len (ls:List LL) (l:List II) (n:Nat):(tightTo ls l n).length≤l.length:=by
 unfold tightTo
 refine Nat.le_trans (List.length_filter_le _ _) ?_
 simp
 omega
set_option maxHeartbeats 8000000 in
theorem itighter_ok (r:Rw) (ls:List LL) (h:RwOk r) (hL:LsOk ls):Pure Tryz.prog 105 [.agg r.cells,.sl (tab rowL ls)] (· = .sl (tab rowIm (tightTo ls (rowsTo ls (eqnF r) (eqnF r).length) (rowsTo ls (eqnF r) (eqnF r).length).length))):=by
 have he:=irow_ok r ls h hL
 have hN:=eqn_nf r
 have hb:=eqn_nbs h
 have hro:=rows_ok hL hN (by omega) (eqnF r).length (Nat.le_refl _)
 have hrl:=rowsTo_len ls (eqnF r) (eqnF r).length
 have hel:=nbs_len (eqnF r)
 generalize rowsTo ls (eqnF r) (eqnF r).length=L at *
 have hti:=fun k (hk:k<L.length)=>itight_ok ls (L.getD k default) hL (hro _ (by simp [List.getD_eq_getElem?_getD,hk])).at_
 have hts:=fun k (hk:k<L.length)=>tight_succ ls hk
 have htl:=fun k=>tight_len ls L k
 have t0:tightTo ls L 0=[]:=rfl
 generalize tightTo ls L=T at *
 obtain ⟨b,f⟩:=r
 simp only [Rw.cells] at *
 (refine pureW Tryz.func105 rfl (rs:=[Go.ResultVar.tmp 4]) rfl (n:=26) rfl ?_;simp only [List.length_cons,List.length_nil,List.replicate,List.cons_append,List.nil_append])
 (refine aPg ?_)
 refine W.le ?_ (Le_nil 5 5 134 9 true rfl rfl)
 simp only [List.set]
 refine W_seq ?_
 ((refine W_seqV ?_);intro K hK;(refine sPg ?_))
 (refine ⟨by kernel_rfl,_,.pure rfl (he),?_⟩;(try (refine sPg ?_)))
 (refine hK _ ?_;clear hK K)
 refine W_block (W_loop (fun t:{t:Nat // t≤L.length} =>
   ⟨[.any,.sl (tab rowL ls),.any,.any,.any,.sref 5 0 (T t.1).length,.any,.any,.any,.any,.sl (tab rowIm L),.int .i64 L.length,.int .i64 t.1,.any,.any,.any,.any,.any,.any,.any,.any,.any,.any,.any,.any,.any],[.dead,.dead,.dead,.dead,.dead,.arr 134 9 true (tab rowIm (T t.1)),.dead,.dead,.dead,.dead,.dead,.dead,.dead,.dead,.dead,.dead,.dead,.dead,.dead,.dead,.dead,.dead,.dead,.dead,.dead,.dead]⟩) (fun t=>L.length-t.1)
   ⟨0,by omega⟩ (Le_drop (by simp [leE,t0]) (by simp [leH,t0,tab]) rfl rfl) fun t=>?_)
 obtain ⟨k,hk⟩:=t
 dsimp only
 by_cases hlt:k<L.length
 ·have h1:=hti k hlt
  have h2:=hts k hlt
  have h3:=htl k
  have hXi:(tab rowIm L).getD k []=(L.getD k default).cells:=tab_getD hlt
  generalize hx:L.getD k default=x at *
  generalize hb':isTight ls x=bt at *
  have hrx:rowIm x=x.cells:=rfl
  obtain ⟨v,u,⟨⟨n,x1,y⟩,⟨m,z,w⟩⟩,by_⟩:=x
  simp only [II.cells] at *
  generalize T k=tk at *
  refine W_seq ?_
  ((refine W_regV ?_);intro K hK;(refine sPgX hlt ?_))
  (refine hK _ ?_;clear hK K)
  refine W_seq ?_
  (refine W_ct rfl ?_)
  refine W_skip ?_
  simp only [thenW]
  refine W_seq ?_
  refine W_block ?_
  ((refine W_seqV ?_);intro K hK;(refine sPgX (And.intro hXi hlt) ?_))
  (refine hK _ ?_;clear hK K)
  cases bt
  ·rw [if_neg (by simp),List.append_nil] at h2
   ((refine W_seqV ?_);intro K hK;(refine sPg ?_))
   (refine ⟨by kernel_rfl,_,.pure rfl (h1),?_⟩;(try (refine sPg ?_)))
   (refine hK _ ?_;clear hK K)
   (refine W_cf rfl ?_)
   refine W_skip ?_
   simp only [blockW,thenW]
   ((refine W_regV ?_);intro K hK;(refine sPg ?_))
   (refine hK _ ?_;clear hK K)
   simp only [blockW,thenW]
   refine ⟨⟨k+1,by omega⟩,Le_drop (by simp [leE,h2]) (by simp [leH,h2]) rfl rfl,?_⟩
   dsimp only
   omega
  ·rw [if_pos rfl] at h2
   ((refine W_seqV ?_);intro K hK;(refine sPg ?_))
   (refine ⟨by kernel_rfl,_,.pure rfl (h1),?_⟩;(try (refine sPg ?_)))
   (refine hK _ ?_;clear hK K)
   (refine W_ct rfl ?_)
   ((refine W_regR ?_);intro K hK;(refine sPgX hlt ?_))
   (repeat refine aI ?_);refine hK _ ?_;clear hK K
   simp only [blockW,thenW]
   ((refine W_regV ?_);intro K hK;(refine sPg ?_))
   (refine hK _ ?_;clear hK K)
   simp only [blockW,thenW]
   refine ⟨⟨k+1,by omega⟩,Le_drop (by simp [leE,h2]) (by simp [leH,h2,← tab_snoc,hrx,tab_take,List.take_of_length_le,tab_length]) rfl rfl,?_⟩
   dsimp only
   omega
 ·obtain rfl:k=L.length:=by omega
  refine W_seq ?_
  ((refine W_regV ?_);intro K hK;(refine sPg ?_))
  (refine hK _ ?_;clear hK K)
  refine W_seq ?_
  (refine W_cf rfl ?_)
  refine W_exit ?_
  simp only [thenW,blockW,if_true]
  ((refine W_seqV ?_);intro K hK;(refine sPg ?_))
  (refine hK _ ?_;clear hK K)
  refine W_ret ?_
  (refine qG ?_;try exact True.intro);try (refine sPgV ?_;try exact True.intro)
theorem sPh {G G':Prop} (h:G') (e:G=G':=by conv=>lhs;simp (disch:=omega) only [rowsOf,cNat,cN,St.ret,St.seth,Eff.app,Eff.wi,sepL,guardOf,St.known,objOf,List.set,sliceW,litW,copyW,lenOf,bnd,mxOk,ofCells,TI.isAgg,cellsOf,storable,AV.one,dead,laid,overlay,reduceCtorEq,Int.reduceLE,Int.reduceLT,Int.reduceSub,Int.reduceAdd,Nat.reduceMul,Int.reduceToNat,Nat.reducePow,Int.reduceNeg,Nat.reduceAdd,Nat.reduceLT,Nat.reduceLeDiff,sA,sB,Nat.reduceEqDiff,tab_length,List.take_length,List.length_append,tab_drop,tab_take,tab_append,tab_nil,rowI_all,rowI_one,rowI_pure,rowL_all,rowL_one,rowL_pure,sT]):G:=e.mpr h
theorem sPhX {G G' P:Prop} (p:P) (h:G') (e:P→G=G':=by intro p;conv=>lhs;simp (disch:=omega) only [rowsOf,cNat,cN,St.ret,St.seth,Eff.app,Eff.wi,sepL,guardOf,St.known,objOf,List.set,sliceW,litW,copyW,lenOf,bnd,mxOk,ofCells,TI.isAgg,cellsOf,storable,AV.one,dead,laid,overlay,reduceCtorEq,Int.reduceLE,Int.reduceLT,Int.reduceSub,Int.reduceAdd,Nat.reduceMul,Int.reduceToNat,Nat.reducePow,Int.reduceNeg,Nat.reduceAdd,Nat.reduceLT,Nat.reduceLeDiff,sA,sB,Nat.reduceEqDiff,tab_length,List.take_length,List.length_append,tab_drop,tab_take,tab_append,tab_nil,rowI_all,rowI_one,rowI_pure,rowL_all,rowL_one,rowL_pure,sT,p]):G:=(e p).mpr h
theorem sPhV {G G':Prop} (h:G') (e:G=G':=by conv=>lhs;simp (disch:=omega) only [rowsOf,cNat,cN,St.ret,St.seth,Eff.app,Eff.wi,sepL,guardOf,St.known,objOf,List.set,sliceW,litW,copyW,lenOf,bnd,mxOk,ofCells,TI.isAgg,cellsOf,storable,AV.one,dead,laid,overlay,reduceCtorEq,Int.reduceLE,Int.reduceLT,Int.reduceSub,Int.reduceAdd,Nat.reduceMul,Int.reduceToNat,Nat.reducePow,Int.reduceNeg,Nat.reduceAdd,Nat.reduceLT,Nat.reduceLeDiff,sA,sB,Nat.reduceEqDiff,tab_length,List.take_length,List.length_append,tab_drop,tab_take,tab_append,tab_nil,rowI_all,rowI_one,rowI_pure,rowL_all,rowL_one,rowL_pure,sT,view_sref,viewRef,view_agg,views_cons,views_nil,view_bool,view_int,view_sl,view_nils,view_str,view_tup,view_nilif]):G:=e.mpr h
theorem aPh {G G':Prop} (h:G') (f:Wr G'→G:=by intro h;(repeat (first|(refine W_seqV fun K hK=>?_;(try (refine sPh ?_;try exact True.intro));(repeat refine aI ?_);refine hK _ ?_;clear hK K)|(refine W_seqR fun K hK=>?_;(try (refine sPh ?_;try exact True.intro));(repeat refine aI ?_);refine hK _ ?_;clear hK K)|(refine W_seqD mixed [] (by kernel_rfl) fun K hK=>?_;(try (refine sPh ?_;try exact True.intro));(repeat refine aI ?_);refine hK _ ?_;clear hK K)));exact h.out):G:=f ⟨h⟩
set_option maxHeartbeats 8000000 in
theorem f10tighter_ok (r:Rw) (ls:List LL) (h:RwOk r) (hL:LsOk ls):Pure Tryz.prog 106 [.agg r.cells,.sl (tab rowL ls)] (· = .sl (tab rowIm (tightTo ls (rowsTo ls (eqnF r) (eqnF r).length) (rowsTo ls (eqnF r) (eqnF r).length).length))):=by
 have he:=f10row_ok r ls h hL
 have hN:=eqn_nf r
 have hb:=eqn_nbs h
 have hro:=rows_ok hL hN (by omega) (eqnF r).length (Nat.le_refl _)
 have hrl:=rowsTo_len ls (eqnF r) (eqnF r).length
 have hel:=nbs_len (eqnF r)
 generalize rowsTo ls (eqnF r) (eqnF r).length=L at *
 have hro':=fun k (hk:k<L.length)=>hro (L.getD k default) (by simp [List.getD_eq_getElem?_getD,hk])
 have hts:=fun k (hk:k<L.length)=>tight_succ ls hk
 have htl:=fun k=>tight_len ls L k
 have t0:tightTo ls L 0=[]:=rfl
 generalize tightTo ls L=T at *
 have hlm:=fun v=>f10limit_ok ls v
 obtain ⟨b,f⟩:=r
 simp only [Rw.cells] at *
 (refine pureW Tryz.func106 rfl (rs:=[Go.ResultVar.tmp 4]) rfl (n:=72) rfl ?_;simp only [List.length_cons,List.length_nil,List.replicate,List.cons_append,List.nil_append])
 (refine aPh ?_)
 ((refine W_seqV ?_);intro K hK;(refine sPh ?_))
 (refine ⟨by kernel_rfl,_,.pure rfl (he),?_⟩;(try (refine sPh ?_)))
 (refine hK _ ?_;clear hK K)
 (refine aPh ?_)
 refine W.le ?_ (Le_nil 6 6 134 9 true rfl rfl)
 simp only [List.set]
 refine W_seq ?_
 ((refine W_seqV ?_);intro K hK;(refine sPh ?_))
 (refine hK _ ?_;clear hK K)
 refine W_block (W_loop (fun t:{t:Nat // t≤L.length} =>
   ((fun (a_:AV) (d_:Ob)=>(⟨(a_::(.sl (tab rowL ls))::a_::a_::a_::(.sl (tab rowIm L))::(.sref 6 0 (T t.1).length)::(.int .i64 t.1)::a_::a_::a_::a_::a_::a_::a_::a_::a_::a_::a_::a_::a_::a_::a_::a_::a_::a_::a_::a_::a_::a_::a_::a_::a_::a_::a_::a_::a_::a_::a_::a_::a_::a_::a_::a_::a_::a_::a_::a_::a_::a_::a_::a_::a_::a_::a_::a_::a_::a_::a_::a_::a_::a_::a_::a_::a_::a_::a_::a_::a_::a_::a_::a_::[]),(d_::d_::d_::d_::d_::d_::(.arr 134 9 true (tab rowIm (T t.1)))::d_::d_::d_::d_::d_::d_::d_::d_::d_::d_::d_::d_::d_::d_::d_::d_::d_::d_::d_::d_::d_::d_::d_::d_::d_::d_::d_::d_::d_::d_::d_::d_::d_::d_::d_::d_::d_::d_::d_::d_::d_::d_::d_::d_::d_::d_::d_::d_::d_::d_::d_::d_::d_::d_::d_::d_::d_::d_::d_::d_::d_::d_::d_::d_::d_::[])⟩:St)) .any .dead)) (fun t=>L.length-t.1)
   ⟨0,by omega⟩ (Le_drop (by simp [leE,t0]) (by simp [leH,t0,tab]) rfl rfl) fun t=>?_)
 obtain ⟨k,hk⟩:=t
 dsimp only
 by_cases hlt:k<L.length
 ·have h2:=hts k hlt
  have h3:=htl k
  have hxo:=hro' k hlt
  have hXi:(tab rowIm L).getD k []=(L.getD k default).cells:=tab_getD hlt
  generalize hx:L.getD k default=x at *
  have hl1:=hlm x.var
  obtain ⟨l1,l2,l3⟩:=lim_ok hL x.var
  have c1:=f5cmp_ok x.at_ (limOf ls x.var).lower.at_ hxo.at_ l1 (by have:=nb2_sub x.at_.v (limOf ls x.var).lower.at_.v;have:=hxo.nb;unfold lw at l3;omega)
  have c2:=f5cmp_ok x.at_ (limOf ls x.var).upper.at_ hxo.at_ l2 (by have:=nb2_sub x.at_.v (limOf ls x.var).upper.at_.v;have:=hxo.nb;unfold lw at l3;omega)
  have hti:isTight ls x=if x.upper=true then !(limOf ls x.var).upper.has || decide (dsg (dsub x.at_.v (limOf ls x.var).upper.at_.v)<0)
   else !(limOf ls x.var).lower.has || decide (0<dsg (dsub x.at_.v (limOf ls x.var).lower.at_.v)):=rfl
  clear hts htl hro hro' hlm hxo l1 l2 l3 he
  generalize hb':isTight ls x=bt at *
  generalize dsg (dsub x.at_.v (limOf ls x.var).lower.at_.v)=d1 at *
  generalize dsg (dsub x.at_.v (limOf ls x.var).upper.at_.v)=d2 at *
  generalize limOf ls x.var=lm at *
  have hrx:rowIm x=x.cells:=rfl
  obtain ⟨v,u,⟨⟨n,x1,y⟩,⟨m,z,w⟩⟩,by_⟩:=x
  obtain ⟨⟨b1,⟨⟨n1,q1,y1⟩,⟨m1,z1,w1⟩⟩,k1⟩,⟨b2,⟨⟨n2,q2,y2⟩,⟨m2,z2,w2⟩⟩,k2⟩⟩:=lm
  simp only [II.cells,LL.cells,DD.av,DD.cells] at *
  generalize T k=tk at *
  refine W_seq ?_
  ((refine W_seqV ?_);intro K hK;(refine sPhX hlt ?_))
  (refine hK _ ?_;clear hK K)
  (refine W_ct rfl ?_)
  refine W_skip ?_
  simp only [thenW]
  refine W_seq ?_
  refine W_block ?_
  ((refine W_seqV ?_);intro K hK;(refine sPhX (And.intro hXi hlt) ?_))
  (refine ⟨by kernel_rfl,_,.pure rfl (hl1),?_⟩;(try (refine sPh ?_)))
  (refine hK _ ?_;clear hK K)
  ((refine W_seqV ?_);intro K hK;(refine sPh ?_))
  (refine hK _ ?_;clear hK K)
  refine W_join (fun s'=>Le [] s' ((fun (a_:AV) (d_:Ob)=>(⟨(a_::(.sl (tab rowL ls))::a_::a_::a_::(.sl (tab rowIm L))::(.sref 6 0 tk.length)::(.int .i64 k)::a_::(.bool bt)::a_::a_::a_::a_::a_::a_::a_::a_::a_::a_::a_::a_::a_::a_::a_::a_::a_::a_::a_::a_::a_::a_::a_::a_::a_::a_::a_::a_::a_::a_::a_::a_::a_::a_::a_::a_::a_::a_::a_::a_::a_::a_::a_::a_::a_::a_::a_::a_::a_::a_::a_::a_::a_::a_::a_::a_::a_::a_::a_::a_::a_::a_::[]),(d_::d_::d_::d_::d_::d_::(.arr 134 9 true (tab rowIm tk))::d_::d_::d_::d_::d_::d_::d_::d_::d_::d_::d_::d_::d_::d_::d_::d_::d_::d_::d_::d_::d_::d_::d_::d_::d_::d_::d_::d_::d_::d_::d_::d_::d_::d_::d_::d_::d_::d_::d_::d_::d_::d_::d_::d_::d_::d_::d_::d_::d_::d_::d_::d_::d_::d_::d_::d_::d_::d_::d_::d_::d_::d_::d_::d_::d_::[])⟩:St)) .any .dead)) ?_ ?_
  ·cases u
   ·simp only [Bool.false_eq_true,if_false] at hti
    subst hti
    refine W_seq ?_
    ((refine W_regV ?_);intro K hK;(refine sPhX (And.intro hXi hlt) ?_))
    (refine hK _ ?_;clear hK K)
    (refine W_cf rfl ?_)
    cases b1
    ·((refine W_regD mixed [] (by kernel_rfl) ?_);intro K hK;(refine sPhX (And.intro hXi hlt) ?_))
     (refine hK _ ?_;clear hK K)
     simp only [thenW]
     exact Le_drop (by simp [leE]) (by simp [leH]) rfl rfl
    ·((refine W_regD mixed [] (by kernel_rfl) ?_);intro K hK;(refine sPhX (And.intro hXi hlt) ?_))
     (refine ⟨by kernel_rfl,_,.pure rfl (c1),?_⟩;(try (refine sPh ?_)))
     (refine hK _ ?_;clear hK K)
     simp only [thenW]
     exact Le_drop (by simp [leE]) (by simp [leH]) rfl rfl
   ·simp only [if_true] at hti
    subst hti
    refine W_seq ?_
    ((refine W_regV ?_);intro K hK;(refine sPhX (And.intro hXi hlt) ?_))
    (refine hK _ ?_;clear hK K)
    (refine W_ct rfl ?_)
    cases b2
    ·((refine W_regD mixed [] (by kernel_rfl) ?_);intro K hK;(refine sPhX (And.intro hXi hlt) ?_))
     (refine hK _ ?_;clear hK K)
     simp only [thenW]
     exact Le_drop (by simp [leE]) (by simp [leH]) rfl rfl
    ·((refine W_regD mixed [] (by kernel_rfl) ?_);intro K hK;(refine sPhX (And.intro hXi hlt) ?_))
     (refine ⟨by kernel_rfl,_,.pure rfl (c2),?_⟩;(try (refine sPh ?_)))
     (refine hK _ ?_;clear hK K)
     simp only [thenW]
     exact Le_drop (by simp [leE]) (by simp [leH]) rfl rfl
  intro s' hle
  refine W.le ?_ hle
  clear hle s' c1 c2 hl1
  cases bt
  ·rw [if_neg (by simp),List.append_nil] at h2
   ((refine W_seqV ?_);intro K hK;(refine sPh ?_))
   (refine hK _ ?_;clear hK K)
   (refine W_cf rfl ?_)
   refine W_skip ?_
   simp only [blockW,thenW]
   ((refine W_regV ?_);intro K hK;(refine sPh ?_))
   (refine hK _ ?_;clear hK K)
   simp only [blockW,thenW]
   refine ⟨⟨k+1,by omega⟩,Le_drop (by simp [leE,h2]) (by simp [leH,h2]) rfl rfl,?_⟩
   dsimp only
   omega
  ·rw [if_pos rfl] at h2
   ((refine W_seqV ?_);intro K hK;(refine sPh ?_))
   (refine hK _ ?_;clear hK K)
   (refine W_ct rfl ?_)
   ((refine W_regR ?_);intro K hK;(refine sPhX (And.intro hXi hlt) ?_))
   (repeat refine aI ?_);refine hK _ ?_;clear hK K
   simp only [blockW,thenW]
   ((refine W_regV ?_);intro K hK;(refine sPh ?_))
   (refine hK _ ?_;clear hK K)
   simp only [blockW,thenW]
   refine ⟨⟨k+1,by omega⟩,Le_drop (by simp [leE,h2]) (by simp [leH,h2,← tab_snoc,hrx,tab_take,List.take_of_length_le,tab_length]) rfl rfl,?_⟩
   dsimp only
   omega
 ·obtain rfl:k=L.length:=by omega
  refine W_seq ?_
  ((refine W_seqV ?_);intro K hK;(refine sPh ?_))
  (refine hK _ ?_;clear hK K)
  (refine W_cf rfl ?_)
  refine W_exit ?_
  simp only [thenW,blockW,if_true]
  ((refine W_seqV ?_);intro K hK;(refine sPh ?_))
  (refine hK _ ?_;clear hK K)
  refine W_ret ?_
  (refine qG ?_;try exact True.intro);try (refine sPhV ?_;try exact True.intro)
theorem sPi {G G':Prop} (h:G') (e:G=G':=by conv=>lhs;simp (disch:=omega) only [rowsOf,cNat,cN,St.ret,St.seth,Eff.app,Eff.wi,sepL,guardOf,St.known,objOf,List.set,sliceW,litW,copyW,lenOf,bnd,mxOk,ofCells,TI.isAgg,cellsOf,storable,AV.one,dead,laid,overlay,reduceCtorEq,Int.reduceLE,Int.reduceLT,Int.reduceSub,Int.reduceAdd,Nat.reduceMul,Int.reduceToNat,Nat.reducePow,Int.reduceNeg,Nat.reduceAdd,Nat.reduceLT,Nat.reduceLeDiff,sA,sB,Nat.reduceEqDiff,tab_length,List.take_length,tab_drop,tab_take,tab_nil,rowI_all,rowI_one,rowI_pure,rowL_all,rowL_one,rowL_pure,rowM_all,rowM_one,rowM_pure,sT]):G:=e.mpr h
theorem sPiX {G G' P:Prop} (p:P) (h:G') (e:P→G=G':=by intro p;conv=>lhs;simp (disch:=omega) only [rowsOf,cNat,cN,St.ret,St.seth,Eff.app,Eff.wi,sepL,guardOf,St.known,objOf,List.set,sliceW,litW,copyW,lenOf,bnd,mxOk,ofCells,TI.isAgg,cellsOf,storable,AV.one,dead,laid,overlay,reduceCtorEq,Int.reduceLE,Int.reduceLT,Int.reduceSub,Int.reduceAdd,Nat.reduceMul,Int.reduceToNat,Nat.reducePow,Int.reduceNeg,Nat.reduceAdd,Nat.reduceLT,Nat.reduceLeDiff,sA,sB,Nat.reduceEqDiff,tab_length,List.take_length,tab_drop,tab_take,tab_nil,rowI_all,rowI_one,rowI_pure,rowL_all,rowL_one,rowL_pure,rowM_all,rowM_one,rowM_pure,sT,p]):G:=(e p).mpr h
theorem sPiV {G G':Prop} (h:G') (e:G=G':=by conv=>lhs;simp (disch:=omega) only [rowsOf,cNat,cN,St.ret,St.seth,Eff.app,Eff.wi,sepL,guardOf,St.known,objOf,List.set,sliceW,litW,copyW,lenOf,bnd,mxOk,ofCells,TI.isAgg,cellsOf,storable,AV.one,dead,laid,overlay,reduceCtorEq,Int.reduceLE,Int.reduceLT,Int.reduceSub,Int.reduceAdd,Nat.reduceMul,Int.reduceToNat,Nat.reducePow,Int.reduceNeg,Nat.reduceAdd,Nat.reduceLT,Nat.reduceLeDiff,sA,sB,Nat.reduceEqDiff,tab_length,List.take_length,tab_drop,tab_take,tab_nil,rowI_all,rowI_one,rowI_pure,rowL_all,rowL_one,rowL_pure,rowM_all,rowM_one,rowM_pure,sT,view_sref,viewRef,view_agg,views_cons,views_nil,view_bool,view_int,view_sl,view_nils,view_str,view_tup,view_nilif]):G:=e.mpr h
theorem aPi {G G':Prop} (h:G') (f:Wr G'→G:=by intro h;(repeat (first|(refine W_seqV fun K hK=>?_;(try (refine sPi ?_;try exact True.intro));(repeat refine aI ?_);refine hK _ ?_;clear hK K)|(refine W_seqR fun K hK=>?_;(try (refine sPi ?_;try exact True.intro));(repeat refine aI ?_);refine hK _ ?_;clear hK K)|(refine W_seqD mixed [] (by kernel_rfl) fun K hK=>?_;(try (refine sPi ?_;try exact True.intro));(repeat refine aI ?_);refine hK _ ?_;clear hK K)));exact h.out):G:=f ⟨h⟩
theorem int_ne_self (n:Int):(n != n)=false:=by simp
theorem bool_eq_self (b:Bool):(b == b)=true:=by simp
theorem sameBy_ok (l:List (Int × RR)) (h:∀ p∈l,p.2.ok) (hl:l.length<1099511627776):Pure Tryz.prog 107 [.sl (tab rowM l),.sl (tab rowM l)] (· = .bool true):=by
 have hz:=len_ne l.length
 (refine pureW Tryz.func107 rfl (rs:=[Go.ResultVar.tmp 4]) rfl (n:=42) rfl ?_;simp only [List.length_cons,List.length_nil,List.replicate,List.cons_append,List.nil_append])
 (refine aPi ?_)
 refine W_seq ?_
 ((refine W_seqV ?_);intro K hK;(refine sPiX hz ?_))
 (refine hK _ ?_;clear hK K)
 (refine W_cf rfl ?_)
 refine W_skip ?_
 simp only [thenW]
 refine W_seq ?_
 ((refine W_seqV ?_);intro K hK;(refine sPi ?_))
 (refine hK _ ?_;clear hK K)
 refine W_block (W_loop (fun t:{t:Nat // t≤l.length} =>
   ⟨[.sl (tab rowM l),.sl (tab rowM l),.any,.any,.any,.int .i64 t.1,.any,.any,.any,.any,.any,.any,.any,.any,.any,.any,.any,.any,.any,.any,.any,.any,.any,.any,.any,.any,.any,.any,.any,.any,.any,.any,.any,.any,.any,.any,.any,.any,.any,.any,.any,.any],[.dead,.dead,.dead,.dead,.dead,.dead,.dead,.dead,.dead,.dead,.dead,.dead,.dead,.dead,.dead,.dead,.dead,.dead,.dead,.dead,.dead,.dead,.dead,.dead,.dead,.dead,.dead,.dead,.dead,.dead,.dead,.dead,.dead,.dead,.dead,.dead,.dead,.dead,.dead,.dead,.dead,.dead]⟩) (fun t=>l.length-t.1)
   ⟨0,by omega⟩ (Le_of (by simp [leE]) (by simp)) fun t=>?_)
 obtain ⟨i,hi⟩:=t
 dsimp only
 by_cases hlt:i<l.length
 ·have hXi:(tab rowM l).getD i []=rowM (l.getD i default):=tab_getD hlt
  have hs:=sameRat_ok (l.getD i default).2 (h _ (by simp [List.getD_eq_getElem?_getD,hlt]))
  generalize l.getD i default=p at *
  have hzx:=int_ne_self p.1
  obtain ⟨v,⟨b,n,d⟩⟩:=p
  simp only [rowM,RR.av] at *
  refine W_seq ?_
  ((refine W_seqV ?_);intro K hK;(refine sPiX hlt ?_))
  (refine hK _ ?_;clear hK K)
  (refine W_ct rfl ?_)
  refine W_skip ?_
  simp only [thenW]
  refine W_seq ?_
  refine W_block ?_
  ((refine W_seqD mixed [] (by kernel_rfl) ?_);intro K hK;(refine sPiX (And.intro hlt (And.intro hXi hzx)) ?_))
  (refine ⟨by kernel_rfl,_,.pure rfl (hs),?_⟩;(try (refine sPi ?_)))
  (refine hK _ ?_;clear hK K)
  (refine W_cf rfl ?_)
  refine W_skip ?_
  simp only [blockW,thenW]
  ((refine W_regV ?_);intro K hK;(refine sPi ?_))
  (refine hK _ ?_;clear hK K)
  simp only [blockW,thenW]
  refine ⟨⟨i+1,by omega⟩,Le_drop (by simp [leE]) (by simp [leH]) rfl rfl,?_⟩
  dsimp only
  omega
 ·obtain rfl:i=l.length:=by omega
  refine W_seq ?_
  ((refine W_seqV ?_);intro K hK;(refine sPi ?_))
  (refine hK _ ?_;clear hK K)
  (refine W_cf rfl ?_)
  refine W_exit ?_
  simp only [thenW,blockW,if_true]
  ((refine W_seqV ?_);intro K hK;(refine sPi ?_))
  (refine hK _ ?_;clear hK K)
  refine W_ret ?_
  (refine qG ?_;try exact True.intro);try (refine sPiV ?_;try exact True.intro)
set_option maxHeartbeats 4000000 in
theorem sameAll_ok (l:List II) (h:∀ i∈l,IIok i) (hl:l.length<1099511627776):Pure Tryz.prog 61 [.sl (tab rowIm l),.sl (tab rowIm l)] (· = .bool true):=by
 have hz:=len_ne l.length
 (refine pureW Tryz.func61 rfl (rs:=[Go.ResultVar.tmp 4]) rfl (n:=55) rfl ?_;simp only [List.length_cons,List.length_nil,List.replicate,List.cons_append,List.nil_append])
 (refine aPi ?_)
 refine W_seq ?_
 ((refine W_seqV ?_);intro K hK;(refine sPiX hz ?_))
 (refine hK _ ?_;clear hK K)
 (refine W_cf rfl ?_)
 refine W_skip ?_
 simp only [thenW]
 refine W_seq ?_
 ((refine W_seqV ?_);intro K hK;(refine sPi ?_))
 (refine hK _ ?_;clear hK K)
 refine W_block (W_loop (fun t:{t:Nat // t≤l.length} =>
   ⟨[.sl (tab rowIm l),.sl (tab rowIm l),.any,.any,.any,.int .i64 t.1,.any,.any,.any,.any,.any,.any,.any,.any,.any,.any,.any,.any,.any,.any,.any,.any,.any,.any,.any,.any,.any,.any,.any,.any,.any,.any,.any,.any,.any,.any,.any,.any,.any,.any,.any,.any,.any,.any,.any,.any,.any,.any,.any,.any,.any,.any,.any,.any,.any],[.dead,.dead,.dead,.dead,.dead,.dead,.dead,.dead,.dead,.dead,.dead,.dead,.dead,.dead,.dead,.dead,.dead,.dead,.dead,.dead,.dead,.dead,.dead,.dead,.dead,.dead,.dead,.dead,.dead,.dead,.dead,.dead,.dead,.dead,.dead,.dead,.dead,.dead,.dead,.dead,.dead,.dead,.dead,.dead,.dead,.dead,.dead,.dead,.dead,.dead,.dead,.dead,.dead,.dead,.dead]⟩) (fun t=>l.length-t.1)
   ⟨0,by omega⟩ (Le_of (by simp [leE]) (by simp)) fun t=>?_)
 obtain ⟨i,hi⟩:=t
 dsimp only
 by_cases hlt:i<l.length
 ·have hXi:(tab rowIm l).getD i []=(l.getD i default).cells:=tab_getD hlt
  have ho:=h (l.getD i default) (by simp [List.getD_eq_getElem?_getD,hlt])
  generalize l.getD i default=p at *
  have hs:=sameDelta_ok p.at_ ho.at_
  have hb:=sameBy_ok p.by_ ho.by_ ho.len
  have hzx:=int_ne_self p.var
  have hzu:=bool_eq_self p.upper
  obtain ⟨v,u,⟨⟨n,x1,y⟩,⟨m,z,w⟩⟩,by_⟩:=p
  simp only [II.cells,DD.av,DD.cells] at *
  refine W_seq ?_
  ((refine W_seqV ?_);intro K hK;(refine sPiX hlt ?_))
  (refine hK _ ?_;clear hK K)
  (refine W_ct rfl ?_)
  refine W_skip ?_
  simp only [thenW]
  refine W_seq ?_
  refine W_block ?_
  ((refine W_seqD mixed [(2,8),(3,8),(6,8),(7,8),(2,9),(3,9),(6,9),(7,9),(8,9),(6,10),(7,10)] (by kernel_rfl) ?_);intro K hK;(refine sPiX (And.intro hlt hXi) ?_))
  refine And.intro (by simp [sepP]) ?_
  (refine hK _ ?_;clear hK K)
  ((refine W_seqV ?_);intro K hK;(refine sPiX (And.intro hzx hzu) ?_))
  (refine ⟨by kernel_rfl,_,.pure rfl (hs),?_⟩;(try (refine sPi ?_)))
  (refine ⟨by kernel_rfl,_,.pure rfl (hb),?_⟩;(try (refine sPi ?_)))
  (refine hK _ ?_;clear hK K)
  (refine W_cf rfl ?_)
  refine W_skip ?_
  simp only [blockW,thenW]
  ((refine W_regV ?_);intro K hK;(refine sPi ?_))
  (refine hK _ ?_;clear hK K)
  simp only [blockW,thenW]
  refine ⟨⟨i+1,by omega⟩,Le_drop (by simp [leE]) (by simp [leH]) rfl rfl,?_⟩
  dsimp only
  omega
 ·obtain rfl:i=l.length:=by omega
  refine W_seq ?_
  ((refine W_seqV ?_);intro K hK;(refine sPi ?_))
  (refine hK _ ?_;clear hK K)
  (refine W_cf rfl ?_)
  refine W_exit ?_
  simp only [thenW,blockW,if_true]
  ((refine W_seqV ?_);intro K hK;(refine sPi ?_))
  (refine hK _ ?_;clear hK K)
  refine W_ret ?_
  (refine qG ?_;try exact True.intro);try (refine sPiV ?_;try exact True.intro)
def SortInts (P:Program) (g:FuncId):Prop :=
 (∀ (blk off cap:Nat) (zs:List Int) (w:World),Go.Sort.Holds (Value.int .i64) w blk off zs.toArray→blk<w.heap.size→zs.length<4611686018427387904 →
  Calls P g #[.slice (some ⟨blk,off,none⟩) zs.length cap] w fun e w'=>e = .returned (.tuple #[])∧∃ n os,w'=Go.Sort.grow (Go.Sort.putRow (Value.int .i64) (Go.Sort.ahead w n) blk off (zs.mergeSort fun x y=>decide (x≤y)).toArray) os) ∧
 (∀ (p:Option Addr) (cap:Nat) (w:World),Calls P g #[.slice p 0 cap] w fun e w'=>e = .returned (.tuple #[])∧w'=w)
theorem rpR_ints {w:World} {A:Nat→Prop} {ρ:Pl}:∀ (l:List Int) (vss:List (List Value)),RpR w A ρ (l.map fun x=>[AV.int .i64 x]) vss↔vss=l.map fun x=>[Value.int .i64 x]
 | [],vss=>by simp [RpR]
 | x::l,vss=>by
  simp only [List.map_cons,RpR,Rps,Rp,rpR_ints l]
  constructor
  ·rintro ⟨vs,uss,rfl,⟨v,us,rfl,rfl,rfl⟩,rfl⟩
   rfl
  ·rintro rfl
   exact ⟨_,_,rfl,⟨_,_,rfl,rfl,rfl⟩,rfl⟩
theorem flat_ints (l:List Int):(l.map fun x=>[Value.int .i64 x]).flatten=l.map (Value.int .i64):=by
 induction l with
 | nil=>rfl
 | cons x l ih=>simp [ih]
theorem put_ints (l m:List Int) (rest:List Value) (h:m.length=l.length) :
  Go.Sort.putCells (Value.int .i64) 0 m.toArray (l.map (Value.int .i64)++rest).toArray=(m.map (Value.int .i64)++rest).toArray:=by
 unfold Go.Sort.putCells
 apply Array.ext_getElem?
 intro k
 rw [Array.getElem?_mapIdx]
 simp only [List.size_toArray,Nat.zero_le,true_and,Nat.zero_add,Nat.sub_zero,List.getElem?_toArray]
 by_cases hk:k<m.length
 ·rw [List.getElem?_append_left (by simp;omega),List.getElem?_append_left (by simp;omega)]
  simp only [hk,if_true,List.getElem?_map]
  have h1:l[k]?=some (l[k]'(by omega)):=by simp
  have h2:m[k]?=some (m[k]'hk):=by simp
  rw [h1,h2]
  simp [List.getElem?_eq_getElem hk]
 ·simp only [hk,if_false]
  rw [List.getElem?_append_right (by simp;omega),List.getElem?_append_right (by simp;omega)]
  simp [h]
theorem call_sort_of {P:Program} {g:FuncId} (hs:SortInts P g) {pins:List Nat} {s:St} {i:Nat} {T:TypeId} {l:List Int} {K:AV→St→Prop} (hi:s.hp[i]?=some (.arr T 1 true (l.map fun x=>[AV.int .i64 x]))) (hl:l.length<4611686018427387904)
  (hk:K (.tup []) (s.seth i (.arr T 1 true ((l.mergeSort fun x y=>decide (x≤y)).map fun x=>[AV.int .i64 x])))):CallOk P pins g [.sref i 0 l.length] s K:=by
 intro fr ρ a w vals hp hr hv
 have hil:i<s.hp.length:=(List.getElem?_eq_some_iff.1 hi).1
 have hob:s.hp.getD i .dead = .arr T 1 true (l.map fun x=>[AV.int .i64 x]):=by simp [List.getD_eq_getElem?_getD,hi]
 simp only [Rps] at hv
 obtain ⟨v,us,rfl,hv,rfl⟩:=hv
 have htup:∀ w' ρ',Rp w' (Av fr.F ρ') ρ' (.tup []) (.tuple #[]):=fun w' ρ'=>by
  simp only [Rp,Rps]
  exact ⟨[],rfl,rfl⟩
 have hnil:l=[]→s.seth i (.arr T 1 true ((l.mergeSort fun x y=>decide (x≤y)).map fun x=>[AV.int .i64 x]))=s:=by
  rintro rfl
  unfold St.seth
  have:s.hp.set i (.arr T 1 true [])=s.hp:=by
   refine List.ext_getElem? fun j=>?_
   rw [List.getElem?_set]
   split
   ·rename_i hj;subst hj;rw [hi];rfl
   ·rfl
  simp [this]
 by_cases h0:l=[]
 ·have hvs:∃ p cap,v = .slice p 0 cap:=by
   subst h0
   simp only [Rp] at hv
   rcases hv with ⟨_,_,_,rfl⟩ | ⟨b,s',cap,len,x,_,_,rfl,_⟩
   ·exact ⟨_,_,rfl⟩
   ·exact ⟨_,_,rfl⟩
  obtain ⟨p,cap,rfl⟩:=hvs
  refine (hs.2 p cap w).mono fun e w' he=>?_
  obtain ⟨rfl,rfl⟩:=he
  rw [hnil h0] at hk
  exact ⟨_,_,s,ρ,rfl,hk,hr,htup _ _⟩
 ·have hlen:0<l.length:=by cases l with | nil=>exact absurd rfl h0 | cons _ _=>simp
  have ho:=hr.heap i
  rw [hob] at ho
  simp only [Rp] at hv
  rcases hv with ⟨_,_,h1,_⟩ | ⟨b,s',cap,len,x,h1,h2,rfl,h3⟩
  ·omega
  ·rw [h1] at ho
   obtain ⟨rfl,hlen',vss,rest,hb,hrr,hal,hfl,hcap,hmax⟩:=ho
   rw [rpR_ints] at hrr
   subst hrr
   obtain rfl:=h3 (.inr trivial)
   rw [Nat.zero_mul,Nat.sub_zero]
   rw [flat_ints] at hb hfl
   have hbw:b<w.heap.size:=(Array.getElem?_eq_some_iff.1 hb).1
   have hH:Go.Sort.Holds (Value.int .i64) w b 0 l.toArray:=by
    intro j hj
    have hj':j<l.length:=by simpa using hj
    have hc:(l.map (Value.int .i64)++rest)[j]?=some (.int .i64 l[j]):=by
     rw [List.getElem?_append_left (by simpa using hj'),List.getElem?_map,List.getElem?_eq_getElem hj']
     rfl
    constructor
    ·unfold World.cell?
     simp only [Nat.zero_add,hb]
     simp [hc,hj']
    ·unfold World.frozen?
     simp [hb]
   refine (hs.1 b 0 cap l w hH hbw hl).mono fun e w' he=>?_
   obtain ⟨rfl,n,os,rfl⟩:=he
   have hm:(l.mergeSort fun x y=>decide (x≤y)).length=l.length:=List.length_mergeSort _
   generalize (l.mergeSort fun x y=>decide (x≤y))=m at *
   have hp':ρ i=some (.blk b 1 cap (l.map fun x=>[AV.int .i64 x]).length):=by rw [h1,hlen']
   have hset:=hr.setObj hi hp' (rows':=m.map fun x=>[AV.int .i64 x]) (vss:=m.map fun x=>[Value.int .i64 x]) (rest:=rest) ((rpR_ints _ _).2 rfl) (by intro r hr;obtain ⟨x,_,rfl⟩:=List.mem_map.1 hr;rfl) (by rw [flat_ints];simp only [List.length_append,List.length_map] at hfl ⊢;omega) (by simp [hm])
   rw [flat_ints] at hset
   have hbel:Below (w.setRow b (m.map (Value.int .i64)++rest).toArray).heap.size (w.setRow b (m.map (Value.int .i64)++rest).toArray) (Go.Sort.grow (Go.Sort.putRow (Value.int .i64) (Go.Sort.ahead w n) b 0 m.toArray) os):=by
    refine ⟨rfl,rfl,rfl,?_,fun k hk=>?_⟩
    ·simp [Go.Sort.grow,Go.Sort.putRow,Go.Sort.mapBlock,Go.Sort.ahead]
    ·have hk':k<w.heap.size:=by simpa using hk
     show (w.heap.modify b _++os)[k]?=_
     rw [Array.getElem?_append_left (by simpa using hk'),Array.getElem?_modify]
     by_cases hkb:b=k
     ·subst hkb
      rw [if_pos rfl,setRow_heap_same _ hb,hb]
      simp only [Option.map_some,Go.Sort.onCells]
      rw [put_ints l m rest hm]
     ·rw [if_neg hkb,setRow_other _ _ _ _ (Ne.symm hkb)]
   exact ⟨_,_,_,ρ,rfl,hk,(hset.below hbel).1,htup _ _⟩
abbrev TR:=List (Int × List (Int × RR))
abbrev TM:=List (Int × List (Int × Rat))
def rowT (r:Int × List (Int × RR)):List AV:=[.int .i64 r.1,.sl (tab rowM r.2)]
def rowU (r:Int × List (Int × Rat)):List AV:=[.int .i64 r.1,.sl (tab rowQ r.2)]
def cT (n:Int) (t:TR):AV := .agg [.int .i64 n,.sl (tab rowT t)]
def cU (n:Int) (M:TM):AV := .agg [.int .i64 n,.sl (tab rowU M)]
theorem rowT_all (f:TR):AllLen 2 (tab rowT f):=tab_all (k:=2) (fun _=>rfl) f
theorem rowT_one (f:TR):AllOne (tab rowT f):=tab_one (fun _=>rfl) f
theorem rowT_pure (f:TR):AllPure (tab rowT f):=tab_pure (fun _=>rfl) f
theorem rowU_all (f:TM):AllLen 2 (tab rowU f):=tab_all (k:=2) (fun _=>rfl) f
theorem rowU_one (f:TM):AllOne (tab rowU f):=tab_one (fun _=>rfl) f
theorem rowU_pure (f:TM):AllPure (tab rowU f):=tab_pure (fun _=>rfl) f
def nrmT (t:TR):TM:=t.map fun r=>(r.1,normF (vals r.2))
def keys {α:Type} (M:List (Int × α)):List Int:=M.map (·.1)
theorem keys_len {α:Type} (M:List (Int × α)):(keys M).length=M.length:=by simp [keys]
theorem keys_append {α:Type} (M N:List (Int × α)):keys (M++N)=keys M++keys N:=by simp [keys]
theorem nrmT_len (t:TR):(nrmT t).length=t.length:=by simp [nrmT]
theorem nrmT_getD {t:TR} {i:Nat} (h:i<t.length):(nrmT t).getD i default=((t.getD i default).1,normF (vals (t.getD i default).2)):=by
 simp [nrmT,List.getD_eq_getElem?_getD,h]
theorem take_snoc {α:Type} [Inhabited α] {l:List α} {i:Nat} (h:i<l.length):l.take (i+1)=l.take i++[l.getD i default]:=by
 rw [List.take_succ_eq_append_getElem h]
 simp [List.getD_eq_getElem?_getD,h]
theorem getD_mem {α:Type} [Inhabited α] {l:List α} {i:Nat} (h:i<l.length):l.getD i default∈l:=by
 simp [List.getD_eq_getElem?_getD,h]
theorem mem_getD {α:Type} [Inhabited α] {l:List α} {x:α} (h:x∈l):∃ i,i<l.length∧l.getD i default=x:=by
 obtain ⟨i,hi,he⟩:=List.getElem_of_mem h
 exact ⟨i,hi,by simp [List.getD_eq_getElem?_getD,hi,he]⟩
def inR (n v:Int):Bool:=decide (0≤v)&&decide (v<n)
theorem inR_iff {n v:Int}:inR n v=true↔0≤v∧v<n:=by simp [inR]
def keysOk (n:Int) (l:List Int):Bool:=decide l.Nodup&&l.all (inR n)
def formOk (n:Int) (K:List Int) (f:List (Int × Rat)):Bool:=f.all fun p=>inR n p.1&&!K.contains p.1
def goodB (n:Int) (M:TM):Bool:=decide (0≤n)&&decide (n≤65536)&&keysOk n (keys M)&&M.all fun r=>formOk n (keys M) r.2
structure GT (n:Int) (M:TM):Prop where
 lo:0≤n
 hi:n≤65536
 nodup:(keys M).Nodup
 range:∀ b∈keys M,0≤b∧b<n
 free:∀ r∈M,∀ p∈r.2,(0≤p.1∧p.1<n)∧p.1∉keys M
theorem gt_iff {n:Int} {M:TM}:goodB n M=true↔GT n M:=by
 simp only [goodB,keysOk,formOk,Bool.and_eq_true,decide_eq_true_eq,List.all_eq_true,inR_iff,Bool.not_eq_true',List.contains_iff_mem,Bool.eq_false_iff,ne_eq]
 constructor
 ·rintro ⟨⟨⟨h1,h2⟩,h3,h4⟩,h5⟩
  exact ⟨h1,h2,h3,h4,h5⟩
 ·rintro ⟨h1,h2,h3,h4,h5⟩
  exact ⟨⟨⟨h1,h2⟩,h3,h4⟩,h5⟩
def idxM (M:TM) (k:Int):Option Nat:=M.findIdx? fun r=>r.1 == k
def lookM (M:TM) (k:Int):Option (List (Int × Rat)):=(M.find? fun r=>r.1 == k).map (·.2)
theorem idx_none {M:TM} {k:Int} (h:idxM M k=none):k∉keys M∧lookM M k=none:=by
 unfold idxM at h
 rw [List.findIdx?_eq_none_iff] at h
 constructor
 ·intro hk
  simp only [keys,List.mem_map] at hk
  obtain ⟨r,hr,rfl⟩:=hk
  have:=h r hr
  simp at this
 ·unfold lookM
  rw [List.find?_eq_none.2 fun r hr=>by rw [h r hr];simp]
  rfl
theorem idx_some {M:TM} {k:Int} {j:Nat} (h:idxM M k=some j):j<M.length∧(M.getD j default).1=k∧lookM M k=some (M.getD j default).2∧k∈keys M:=by
 unfold idxM at h
 have h1:=List.findIdx?_eq_some_iff_getElem.1 h
 obtain ⟨h2,h3,h4⟩:=h1
 have h5:M.getD j default=M[j]:=by simp [List.getD_eq_getElem?_getD,h2]
 have h6:(M[j]).1=k:=by simpa using h3
 refine ⟨h2,by rw [h5];exact h6,?_,by rw [← h6];exact List.mem_map.2 ⟨_,List.getElem_mem h2,rfl⟩⟩
 unfold lookM
 have hf:M.find? (fun r=>r.1 == k)=some (M[j]):=List.find?_eq_some_iff_getElem.2 ⟨h3,j,h2,rfl,fun i hi=>by simpa using h4 i hi⟩
 rw [hf,h5]
 rfl
theorem look_of {M:TM} (hn:(keys M).Nodup) {k:Int} {g:List (Int × Rat)} (h:(k,g)∈M):lookM M k=some g:=by
 induction M with
 | nil=>cases h
 | cons r M ih =>
  simp only [keys,List.map_cons,List.nodup_cons] at hn
  unfold lookM
  rw [List.find?_cons]
  rcases List.mem_cons.1 h with rfl | h1
  ·simp
  ·have:(r.1 == k)=false:=by
    rw [beq_eq_false_iff_ne]
    rintro rfl
    exact hn.1 (List.mem_map.2 ⟨_,h1,rfl⟩)
   rw [this]
   exact ih hn.2 h1
def sortK (l:List Int):List Int:=l.mergeSort fun x y=>decide (x≤y)
def sortM (M:TM):TM:=(sortK (keys M)).map fun b=>(b,(lookM M b).getD [])
theorem sortK_perm (l:List Int):(sortK l).Perm l:=List.mergeSort_perm _ _
theorem sortK_le (l:List Int):(sortK l).Pairwise (·≤·):=by
 have:=List.pairwise_mergeSort (le:=fun x y:Int=>decide (x≤y)) (fun a b c h1 h2=>by simp at *;omega) (fun a b=>by simp;omega) l
 exact this.imp fun h=>by simpa using h
theorem sorted_ext {l m:List Int} (h:l.Perm m) (hl:l.Pairwise (·≤·)) (hm:m.Pairwise (·≤·)):l=m :=
 List.Perm.eq_of_pairwise (fun a b _ _ h1 h2=>by omega) hl hm h
theorem sortK_of {l m:List Int} (h:l.Perm m):sortK l=sortK m :=
 sorted_ext ((sortK_perm l).trans (h.trans (sortK_perm m).symm)) (sortK_le l) (sortK_le m)
theorem sortK_lt {l:List Int} (h:l.Nodup):(sortK l).Pairwise (·<·):=by
 have h1:=sortK_le l
 have h2:(sortK l).Nodup:=(sortK_perm l).nodup_iff.2 h
 exact (h1.and h2).imp fun ⟨h,h'⟩=>by omega
theorem sortK_len (l:List Int):(sortK l).length=l.length:=(sortK_perm l).length_eq
theorem mem_sortK {l:List Int} {x:Int}:x∈sortK l↔x∈l:=(sortK_perm l).mem_iff
theorem sortM_len (M:TM):(sortM M).length=M.length:=by simp [sortM,sortK_len,keys_len]
theorem sortM_perm {M:TM} (hn:(keys M).Nodup):(sortM M).Perm M:=by
 have h1:(sortM M).Perm ((keys M).map fun b=>(b,(lookM M b).getD [])):=(sortK_perm _).map _
 refine h1.trans ?_
 have:(keys M).map (fun b=>(b,(lookM M b).getD []))=M:=by
  unfold keys
  rw [List.map_map]
  refine (List.map_congr_left fun r hr=>?_).trans (List.map_id M)
  simp only [Function.comp]
  rw [look_of hn (g:=r.2) hr]
  rfl
 rw [this]
def putF (f:List (Int × Rat)) (v:Int) (g:List (Int × Rat)):List (Int × Rat):=normF (delF (normF f) v++if coef f v=0 then [] else scaleF (coef f v) (normF g))
theorem NF.put (f:List (Int × Rat)) (v:Int) (g:List (Int × Rat)):NF (putF f v g):=NF.norm _
theorem Sz.put {f g:List (Int × Rat)} {B C:Nat} (hf:Sz f B) (hg:Sz g C) (v:Int):Sz (putF f v g) (B+(nb (coef f v)+C)):=by
 unfold putF
 refine Sz.norm (Sz.append (delF_sz hf.norm v) ?_)
 split
 ·exact ⟨fun v=>by simp [nbv],by simp⟩
 ·exact (hg.norm).scale (NF.norm g) _
def exprP (M:TM) (f:List (Int × Rat)) (vs:List Int) (h:List (Int × Rat)):List (Int × Rat) :=
 vs.foldl (fun h v=>match lookM M v with | some g=>putF h v g | none=>h) h
def sumM (c:Int→Rat) (x:Int):TM→Rat
 | []=>0
 | r::M=>c r.1*coef r.2 x+sumM c x M
structure Expr (M:TM) (f e:List (Int × Rat)):Prop where
 nf:NF e
 co:∀ x,coef e x=(if x∈keys M then 0 else coef f x)+sumM (coef f) x M
theorem Expr.ext {M:TM} {f d e:List (Int × Rat)} (h:Expr M f d) (h':Expr M f e):d=e:=NF.ext h.nf h'.nf fun v=>(h.co v).trans (h'.co v).symm
def stepR (f out:List (Int × Rat)) (r:Int × List (Int × Rat)):List (Int × Rat):=normF (subF out [(r.1,coef f r.1)]++normF (scaleF (coef f r.1) r.2))
theorem findA_cons {q:IntKind} {k a:Int} {x:AV} {l:List AV} {rs:List (List AV)} {i:Nat}:findA (.int q) (.int .i64 k) ((.int .i64 a::l)::rs) i=if k=a then some (some i) else findA (.int q) (.int .i64 k) rs (i+1):=by
 rw [findA]
 simp only [if_true]
theorem findA_go (q:IntKind) (k:Int):∀ (M:TM) (i:Nat),findA (.int q) (.int .i64 k) (tab rowU M) i=some ((idxM M k).map (·+i))
 | [],i=>rfl
 | r::M,i=>by
  have ih:=findA_go q k M (i+1)
  rw [tab_cons]
  show findA (.int q) (.int .i64 k) ((.int .i64 r.1::[.sl (tab rowQ r.2)])::tab rowU M) i=_
  rw [findA_cons (x := .any),ih]
  unfold idxM
  rw [List.findIdx?_cons]
  by_cases h:k=r.1
  ·rw [if_pos h]
   simp [h]
  ·rw [if_neg h]
   have:(r.1 == k)=false:=by simp;omega
   rw [this]
   simp only [Bool.false_eq_true,if_false,Option.map_map]
   congr 2
   funext x
   simp only [Function.comp]
   omega
theorem findA_tab {q:IntKind} {k:Int} {M:TM}:findA (.int q) (.int .i64 k) (tab rowU M) 0=some (idxM M k):=by
 rw [findA_go]
 simp
theorem rowU_getD {M:TM} {j:Nat} (h:j<M.length):(tab rowU M).getD j []=rowU (M.getD j default):=tab_getD h
theorem range_snoc (n:Nat):List.range n++[n]=List.range (n+1):=List.range_succ.symm
theorem range_get {n j x:Nat} (h:(List.range n)[j]?=some x):j<n∧x=j:=by
 rw [List.getElem?_eq_some_iff] at h
 obtain ⟨h1,h2⟩:=h
 simp at h1 h2
 exact ⟨h1,h2.symm⟩
theorem pure_sl {rows:List (List AV)}:(AV.sl rows).pure=true:=rfl
def atB (bs:List Nat) (M:TM) (x:Nat):Int × List (Int × Rat):=M.getD (bs.idxOf x) default
theorem atB_of {bs:List Nat} (hn:bs.Nodup) {M:TM} {j x:Nat} (h:bs[j]?=some x):atB bs M x=M.getD j default:=by
 obtain ⟨h1,h2⟩:=List.getElem?_eq_some_iff.1 h
 unfold atB
 rw [← h2,List.Nodup.idxOf_getElem hn]
theorem map_atB {bs:List Nat} (hn:bs.Nodup) {M:TM} (hl:bs.length=M.length):bs.map (atB bs M)=M:=by
 refine List.ext_getElem (by simpa using hl) fun j h1 h2=>?_
 rw [List.getElem_map,atB_of hn (j:=j) (by simp at h1;simp [h1])]
 simp [List.getD_eq_getElem?_getD,h2]
theorem seen_perm {bs seen:List Nat} (hn:bs.Nodup) (hs:seen.Nodup) (h1:∀ x∈seen,x∈bs) (h2:∀ x∈bs,x∈seen):seen.Perm bs :=
 (List.perm_ext_iff_of_nodup hs hn).2 fun x=>⟨h1 x,h2 x⟩
theorem seen_rows {bs seen:List Nat} {M:TM} (hn:bs.Nodup) (hl:bs.length=M.length) (hs:seen.Nodup) (h1:∀ x∈seen,x∈bs) (h2:∀ x∈bs,x∈seen):(seen.map (atB bs M)).Perm M:=by
 have:=(seen_perm hn hs h1 h2).map (atB bs M)
 rwa [map_atB hn hl] at this
theorem seen_keys {bs seen:List Nat} {M:TM} (hn:bs.Nodup) (hl:bs.length=M.length) (hs:seen.Nodup) (h1:∀ x∈seen,x∈bs) (h2:∀ x∈bs,x∈seen):(seen.map fun x=>(atB bs M x).1).Perm (keys M):=by
 have:=(seen_rows hn hl hs h1 h2).map (·.1)
 rwa [List.map_map] at this
theorem seen_le {bs seen:List Nat} (hs:seen.Nodup) (h1:∀ x∈seen,x∈bs):seen.length≤bs.length:=hs.length_le_of_subset h1
structure Seen (bs:List Nat) (seen:List Nat):Prop where
 nodup:seen.Nodup
 sub:∀ x∈seen,x∈bs
theorem Seen.nil (bs:List Nat):Seen bs []:=⟨List.nodup_nil,by simp⟩
theorem Seen.snoc {bs seen:List Nat} (h:Seen bs seen) {j x:Nat} (hj:bs[j]?=some x) (hx:x∉seen):Seen bs (seen++[x]):=by
 refine ⟨?_,fun y hy=>?_⟩
 ·rw [List.nodup_append]
  refine ⟨h.nodup,by simp,?_⟩
  rintro a ha b hb rfl
  simp at hb
  subst hb
  exact hx ha
 ·rcases List.mem_append.1 hy with hy | hy
  ·exact h.sub y hy
  ·simp at hy;subst hy;exact List.mem_of_getElem? hj
theorem Seen.lt {bs seen:List Nat} (h:Seen bs seen) {j x:Nat} (hj:bs[j]?=some x) (hx:x∉seen):bs.length-(seen++[x]).length<bs.length-seen.length:=by
 have:=seen_le (h.snoc hj hx).nodup (h.snoc hj hx).sub
 simp at *
 omega
theorem births_lt {bs:List Nat} {j x:Nat} (h:bs[j]?=some x):j<bs.length:=(List.getElem?_eq_some_iff.1 h).1
def wholeF (b:Int) (f:List (Int × Rat)):List (Int × Rat):=subF f [(b,1)]
def solvF (b:Int) (f:List (Int × Rat)) (o:Int):List (Int × Rat):=scaleF (-(coef (wholeF b f) o)⁻¹) (delF (wholeF b f) o)
def pivP (M:TM) (at_:Nat) (o:Int) (g:List (Int × Rat)):TM:=(M.eraseIdx at_).map (fun r=>(r.1,putF r.2 o g))++[(o,g)]
def pivR (M:TM) (at_:Nat) (o:Int) (g:List (Int × Rat)):TM:=(M.take at_).map (fun r=>(r.1,putF r.2 o g))++(o,g)::(M.drop (at_+1)).map (fun r=>(r.1,putF r.2 o g))
theorem sTc {G G':Prop} (h:G') (e:G=G':=by conv=>lhs;simp (disch:=omega) only [rowsOf,cNat,cN,St.ret,St.seth,Eff.app,Eff.wi,sepL,guardOf,St.known,objOf,List.set,sliceW,litW,copyW,lenOf,bnd,mxOk,ofCells,TI.isAgg,cellsOf,storable,AV.one,dead,laid,overlay,reduceCtorEq,Int.reduceLE,Int.reduceLT,Int.reduceSub,Int.reduceAdd,Nat.reduceMul,Int.reduceToNat,Nat.reducePow,Int.reduceNeg,Nat.reduceAdd,Nat.reduceLT,Nat.reduceLeDiff,sA,sB,cQ,rowQ,rowM,tab_length,List.take_length,List.length_append,tab_drop,tab_take,tab_append,tab_nil,rowQ_all,rowQ_one,rowQ_pure,rowM_all,rowM_one,rowM_pure,i64s_getD,i64s_length,i64s_all,sT]):G:=e.mpr h
theorem sTcX {G G' P:Prop} (p:P) (h:G') (e:P→G=G':=by intro p;conv=>lhs;simp (disch:=omega) only [rowsOf,cNat,cN,St.ret,St.seth,Eff.app,Eff.wi,sepL,guardOf,St.known,objOf,List.set,sliceW,litW,copyW,lenOf,bnd,mxOk,ofCells,TI.isAgg,cellsOf,storable,AV.one,dead,laid,overlay,reduceCtorEq,Int.reduceLE,Int.reduceLT,Int.reduceSub,Int.reduceAdd,Nat.reduceMul,Int.reduceToNat,Nat.reducePow,Int.reduceNeg,Nat.reduceAdd,Nat.reduceLT,Nat.reduceLeDiff,sA,sB,cQ,rowQ,rowM,tab_length,List.take_length,List.length_append,tab_drop,tab_take,tab_append,tab_nil,rowQ_all,rowQ_one,rowQ_pure,rowM_all,rowM_one,rowM_pure,i64s_getD,i64s_length,i64s_all,sT,p]):G:=(e p).mpr h
theorem sTcV {G G':Prop} (h:G') (e:G=G':=by conv=>lhs;simp (disch:=omega) only [rowsOf,cNat,cN,St.ret,St.seth,Eff.app,Eff.wi,sepL,guardOf,St.known,objOf,List.set,sliceW,litW,copyW,lenOf,bnd,mxOk,ofCells,TI.isAgg,cellsOf,storable,AV.one,dead,laid,overlay,reduceCtorEq,Int.reduceLE,Int.reduceLT,Int.reduceSub,Int.reduceAdd,Nat.reduceMul,Int.reduceToNat,Nat.reducePow,Int.reduceNeg,Nat.reduceAdd,Nat.reduceLT,Nat.reduceLeDiff,sA,sB,cQ,rowQ,rowM,tab_length,List.take_length,List.length_append,tab_drop,tab_take,tab_append,tab_nil,rowQ_all,rowQ_one,rowQ_pure,rowM_all,rowM_one,rowM_pure,i64s_getD,i64s_length,i64s_all,sT,view_sref,viewRef,view_agg,views_cons,views_nil,view_bool,view_int,view_sl,view_nils,view_str,view_tup,view_nilif]):G:=e.mpr h
theorem aTc {G G':Prop} (h:G') (f:Wr G'→G:=by intro h;(repeat (first|(refine W_seqV fun K hK=>?_;(try (refine sTc ?_;try exact True.intro));(repeat refine aI ?_);refine hK _ ?_;clear hK K)|(refine W_seqR fun K hK=>?_;(try (refine sTc ?_;try exact True.intro));(repeat refine aI ?_);refine hK _ ?_;clear hK K)|(refine W_seqD mixed [] (by kernel_rfl) fun K hK=>?_;(try (refine sTc ?_;try exact True.intro));(repeat refine aI ?_);refine hK _ ?_;clear hK K)));exact h.out):G:=f ⟨h⟩
def knownB (n:Int) (f:List (Int × Rat)):Bool:=f.all fun p=>inR n p.1
theorem known_keys (n:Int) (f:List (Int × Rat)):(keys f).all (inR n)=knownB n f:=by
 unfold keys knownB
 rw [List.all_map]
 rfl
theorem tknown_ok (f:List (Int × RR)) (n:Int) {B:Nat} (hf:FOk f B) (hB:B<17179869184) :
  Pure Tryz.prog 66 [cF f,.int .i64 n] (· = .bool (knownB n (normF (vals f)))):=by
 have a1:=lvars_ok f hf hB
 have hl:((normF (vals f)).map (·.1)).length<17179869184:=by
  have h1:=hf.sz.norm.l
  simp only [List.length_map]
  omega
 rw [← known_keys]
 unfold keys
 generalize (normF (vals f)).map (·.1)=V at *
 have hst:∀ i,i<V.length→V.all (inR n)=true→inR n (V.getD i 0)=true:=fun i hi h=>by
  rw [List.all_eq_true] at h
  exact h _ (by simp [List.getD_eq_getElem?_getD,hi])
 have hno:∀ i,i<V.length→inR n (V.getD i 0)=false→V.all (inR n)=false:=fun i hi h=>by
  rw [Bool.eq_false_iff]
  intro h'
  rw [hst i hi h'] at h
  cases h
 have hall:(∀ i,i<V.length→inR n (V.getD i 0)=true)→V.all (inR n)=true:=fun h=>by
  rw [List.all_eq_true]
  intro x hx
  obtain ⟨i,hi,he⟩:=List.getElem_of_mem hx
  have:=h i hi
  rwa [show V.getD i 0=x by simp [List.getD_eq_getElem?_getD,hi,he]] at this
 generalize V.all (inR n)=R at *
 simp only [cF] at *
 (refine pureW Tryz.func66 rfl (rs:=[Go.ResultVar.tmp 4]) rfl (n:=22) rfl ?_;simp only [List.length_cons,List.length_nil,List.replicate,List.cons_append,List.nil_append])
 (refine aTc ?_)
 ((refine W_seq (W_seqV ?_));intro K hK;(refine sTc ?_))
 (refine ⟨by kernel_rfl,_,.pure rfl (a1),?_⟩;(try (refine sTc ?_)))
 (refine hK _ ?_;clear hK K)
 refine W_block (W_loop (fun t:{t:Nat // t≤V.length∧∀ i,i<t→inR n (V.getD i 0)=true} =>
   ⟨[.sl (tab rowM f),.int .i64 n,.any,.any,.any,.any,.any,.any,.sl (i64s V),.int .i64 V.length,.int .i64 t.1,.any,.any,.any,.any,.any,.any,.any,.any,.any,.any,.any],[.dead,.dead,.dead,.dead,.dead,.dead,.dead,.dead,.dead,.dead,.dead,.dead,.dead,.dead,.dead,.dead,.dead,.dead,.dead,.dead,.dead,.dead]⟩) (fun t=>V.length-t.1)
   ⟨0,by omega,by omega⟩ (Le_of (by simp [leE]) (by simp)) fun t=>?_)
 obtain ⟨i,hi,hpre⟩:=t
 dsimp only
 by_cases hlt:i<V.length
 ·have hno:=hno i hlt
  have hpr:inR n (V.getD i 0)=true→∀ j,j<i+1→inR n (V.getD j 0)=true:=fun h j hj=>by
   by_cases hji:j=i
   ·subst hji;exact h
   ·exact hpre j (by omega)
  generalize hv:V.getD i 0=v at *
  refine W_seq ?_
  ((refine W_regV ?_);intro K hK;(refine sTcX hlt ?_))
  (refine hK _ ?_;clear hK K)
  (refine W_seq (W_ct rfl ?_))
  refine W_skip ?_
  simp only [thenW]
  refine W_seq ?_
  refine W_block ?_
  ((refine W_seqV ?_);intro K hK;(refine sTcX (And.intro hv hlt) ?_))
  (refine hK _ ?_;clear hK K)
  by_cases h1:v<0
  ·have:inR n v=false:=by simp [inR];omega
   ((refine W_seqV ?_);intro K hK;(refine sTcX h1 ?_))
   (refine hK _ ?_;clear hK K)
   (refine W_ct rfl ?_)
   (refine aTc ?_)
   refine W_ret ?_
   rw [hno this]
   (refine qG ?_;try exact True.intro);try (refine sTcV ?_;try exact True.intro)
  ·by_cases h2:n≤v
   ·have:inR n v=false:=by simp [inR];omega
    ((refine W_seqV ?_);intro K hK;(refine sTcX (And.intro h1 h2) ?_))
    (refine hK _ ?_;clear hK K)
    (refine W_ct rfl ?_)
    (refine aTc ?_)
    refine W_ret ?_
    rw [hno this]
    (refine qG ?_;try exact True.intro);try (refine sTcV ?_;try exact True.intro)
   ·have:inR n v=true:=by simp [inR];omega
    ((refine W_seqV ?_);intro K hK;(refine sTcX (And.intro h1 h2) ?_))
    (refine hK _ ?_;clear hK K)
    (refine W_cf rfl ?_)
    refine W_skip ?_
    simp only [blockW,thenW]
    ((refine W_regV ?_);intro K hK;(refine sTc ?_))
    (refine hK _ ?_;clear hK K)
    simp only [blockW,thenW]
    refine ⟨⟨i+1,by omega,hpr this⟩,Le_drop (by simp [leE]) (by simp [leH]) rfl rfl,?_⟩
    dsimp only
    omega
 ·obtain rfl:i=V.length:=by omega
  rw [hall hpre]
  refine W_seq ?_
  ((refine W_regV ?_);intro K hK;(refine sTc ?_))
  (refine hK _ ?_;clear hK K)
  (refine W_seq (W_cf rfl ?_))
  refine W_exit ?_
  simp only [thenW,blockW,if_true]
  (refine aTc ?_)
  refine W_ret ?_
  (refine qG ?_;try exact True.intro);try (refine sTcV ?_;try exact True.intro)
def newR (n:Int):AV:=if n<0 then .tup [cU 0 [],.int .i64 1] else if 65536<n then .tup [cU 0 [],.int .i64 2] else .tup [cU n [],.int .i64 0]
def laysSort_ren:Go.Shelf.Ren:=⟨fun|189=>125|125=>162|257=>161|128=>201|129=>202|294=>192|295=>193|296=>194|297=>195|298=>196|299=>197|216=>198|300=>199|301=>200|328=>219|329=>220|330=>221|331=>222|332=>223|215=>224|343=>229|n=>n,fun|28=>63|3=>3|46=>169|0=>0|51=>128|53=>173|4=>4|183=>196|182=>195|131=>201|5=>5|9=>9|218=>210|222=>214|228=>223|229=>224|n=>n,fun|n=>n⟩
theorem laysSort:Go.Proofs.Lays.n189 Tryz.prog laysSort_ren:={
 mixed:=by kernel_rfl
 f125:=Tryz.func162.trans (congrArg some (by kernel_rfl))
 f128:=Tryz.func201.trans (congrArg some (by kernel_rfl))
 f129:=Tryz.func202.trans (congrArg some (by kernel_rfl))
 f189:=Tryz.func125.trans (congrArg some (by kernel_rfl))
 f215:=Tryz.func224.trans (congrArg some (by kernel_rfl))
 f216:=Tryz.func198.trans (congrArg some (by kernel_rfl))
 f257:=Tryz.func161.trans (congrArg some (by kernel_rfl))
 f294:=Tryz.func192.trans (congrArg some (by kernel_rfl))
 f295:=Tryz.func193.trans (congrArg some (by kernel_rfl))
 f296:=Tryz.func194.trans (congrArg some (by kernel_rfl))
 f297:=Tryz.func195.trans (congrArg some (by kernel_rfl))
 f298:=Tryz.func196.trans (congrArg some (by kernel_rfl))
 f299:=Tryz.func197.trans (congrArg some (by kernel_rfl))
 f300:=Tryz.func199.trans (congrArg some (by kernel_rfl))
 f301:=Tryz.func200.trans (congrArg some (by kernel_rfl))
 f328:=Tryz.func219.trans (congrArg some (by kernel_rfl))
 f329:=Tryz.func220.trans (congrArg some (by kernel_rfl))
 f330:=Tryz.func221.trans (congrArg some (by kernel_rfl))
 f331:=Tryz.func222.trans (congrArg some (by kernel_rfl))
 f332:=Tryz.func223.trans (congrArg some (by kernel_rfl))
 f343:=Tryz.func229.trans (congrArg some (by kernel_rfl))
 t0:=Tryz.underlying0
 a0:=Tryz.isAgg0
 z0:=Tryz.sizeOf0
 v0:=Tryz.zeroValue0
 t3:=Tryz.underlying3
 a3:=Tryz.isAgg3
 z3:=Tryz.sizeOf3
 v3:=Tryz.zeroValue3
 t4:=Tryz.underlying4
 a4:=Tryz.isAgg4
 z4:=Tryz.sizeOf4
 v4:=Tryz.zeroValue4
 t5:=Tryz.underlying5
 a5:=Tryz.isAgg5
 z5:=Tryz.sizeOf5
 v5:=Tryz.zeroValue5
 t9:=Tryz.underlying9
 a9:=Tryz.isAgg9
 z9:=Tryz.sizeOf9
 v9:=Tryz.zeroValue9
 t28:=Tryz.underlying63
 a28:=Tryz.isAgg63
 z28:=Tryz.sizeOf63
 v28:=Tryz.zeroValue63
 t46:=Tryz.underlying169
 a46:=Tryz.isAgg169
 z46:=Tryz.sizeOf169
 v46:=Tryz.zeroValue169
 t51:=Tryz.underlying128
 a51:=Tryz.isAgg128
 z51:=Tryz.sizeOf128
 v51:=Tryz.zeroValue128
 t53:=Tryz.underlying173
 a53:=Tryz.isAgg173
 z53:=Tryz.sizeOf173
 v53:=Tryz.zeroValue173
 t131:=Tryz.underlying201
 a131:=Tryz.isAgg201
 z131:=Tryz.sizeOf201
 v131:=Tryz.zeroValue201
 t182:=Tryz.underlying195
 a182:=Tryz.isAgg195
 z182:=Tryz.sizeOf195
 v182:=Tryz.zeroValue195
 t183:=Tryz.underlying196
 a183:=Tryz.isAgg196
 z183:=Tryz.sizeOf196
 v183:=Tryz.zeroValue196
 t218:=Tryz.underlying210
 a218:=Tryz.isAgg210
 z218:=Tryz.sizeOf210
 v218:=Tryz.zeroValue210
 t222:=Tryz.underlying214
 a222:=Tryz.isAgg214
 z222:=Tryz.sizeOf214
 v222:=Tryz.zeroValue214
 t228:=Tryz.underlying223
 a228:=Tryz.isAgg223
 z228:=Tryz.sizeOf223
 v228:=Tryz.zeroValue223
 t229:=Tryz.underlying224
 a229:=Tryz.isAgg224
 z229:=Tryz.sizeOf224
 v229:=Tryz.zeroValue224 }
theorem sort_ints:SortInts Tryz.prog 125:=⟨fun blk off cap zs w h1 h2 h3=>Any.slices_Sort_int laysSort blk off cap zs w h1 h2 h3,fun p cap w=>Any.slices_Sort_int_none laysSort p cap w⟩
theorem call_sortI {pins:List Nat} {s:St} {i n:Nat} {T:TypeId} {l:List Int} {K:AV→St→Prop} (hi:s.hp[i]?=some (.arr T 1 true (i64s l))) (hn:n=l.length) (hl:l.length<1099511627776)
  (hk:K (.tup []) (s.seth i (.arr T 1 true (i64s (sortK l))))):CallOk Tryz.prog pins 125 [.sref i 0 n] s K:=by
 subst hn
 exact call_sort_of sort_ints hi (by omega) hk
theorem sTd {G G':Prop} (h:G') (e:G=G':=by conv=>lhs;simp (disch:=omega) only [rowsOf,cNat,cN,St.ret,St.seth,Eff.app,Eff.wi,sepL,guardOf,St.known,objOf,List.set,sliceW,litW,copyW,lenOf,bnd,mxOk,ofCells,TI.isAgg,cellsOf,storable,AV.one,dead,laid,overlay,reduceCtorEq,Int.reduceLE,Int.reduceLT,Int.reduceSub,Int.reduceAdd,Nat.reduceMul,Int.reduceToNat,Nat.reducePow,Int.reduceNeg,Nat.reduceAdd,Nat.reduceLT,Nat.reduceLeDiff,sA,sB,Nat.reduceEqDiff,cQ,rowQ,rowU,rowM,i64s_getD,i64s_length,i64s_all,i64s_take,i64s_drop,i64s_set,i64s_one,i64s_pure,i64s_append,tab_length,tab_drop,tab_take,tab_append,tab_nil,rowU_all,rowU_one,rowU_pure,rowQ_all,rowQ_one,rowQ_pure,List.take_length,List.length_append,findA_tab,sT]):G:=e.mpr h
theorem sTdX {G G' P:Prop} (p:P) (h:G') (e:P→G=G':=by intro p;conv=>lhs;simp (disch:=omega) only [rowsOf,cNat,cN,St.ret,St.seth,Eff.app,Eff.wi,sepL,guardOf,St.known,objOf,List.set,sliceW,litW,copyW,lenOf,bnd,mxOk,ofCells,TI.isAgg,cellsOf,storable,AV.one,dead,laid,overlay,reduceCtorEq,Int.reduceLE,Int.reduceLT,Int.reduceSub,Int.reduceAdd,Nat.reduceMul,Int.reduceToNat,Nat.reducePow,Int.reduceNeg,Nat.reduceAdd,Nat.reduceLT,Nat.reduceLeDiff,sA,sB,Nat.reduceEqDiff,cQ,rowQ,rowU,rowM,i64s_getD,i64s_length,i64s_all,i64s_take,i64s_drop,i64s_set,i64s_one,i64s_pure,i64s_append,tab_length,tab_drop,tab_take,tab_append,tab_nil,rowU_all,rowU_one,rowU_pure,rowQ_all,rowQ_one,rowQ_pure,List.take_length,List.length_append,findA_tab,sT,p]):G:=(e p).mpr h
theorem sTdV {G G':Prop} (h:G') (e:G=G':=by conv=>lhs;simp (disch:=omega) only [rowsOf,cNat,cN,St.ret,St.seth,Eff.app,Eff.wi,sepL,guardOf,St.known,objOf,List.set,sliceW,litW,copyW,lenOf,bnd,mxOk,ofCells,TI.isAgg,cellsOf,storable,AV.one,dead,laid,overlay,reduceCtorEq,Int.reduceLE,Int.reduceLT,Int.reduceSub,Int.reduceAdd,Nat.reduceMul,Int.reduceToNat,Nat.reducePow,Int.reduceNeg,Nat.reduceAdd,Nat.reduceLT,Nat.reduceLeDiff,sA,sB,Nat.reduceEqDiff,cQ,rowQ,rowU,rowM,i64s_getD,i64s_length,i64s_all,i64s_take,i64s_drop,i64s_set,i64s_one,i64s_pure,i64s_append,tab_length,tab_drop,tab_take,tab_append,tab_nil,rowU_all,rowU_one,rowU_pure,rowQ_all,rowQ_one,rowQ_pure,List.take_length,List.length_append,findA_tab,sT,view_sref,viewRef,view_agg,views_cons,views_nil,view_bool,view_int,view_sl,view_nils,view_str,view_tup,view_nilif]):G:=e.mpr h
theorem aTd {G G':Prop} (h:G') (f:Wr G'→G:=by intro h;(repeat (first|(refine W_seqV fun K hK=>?_;(try (refine sTd ?_;try exact True.intro));(repeat refine aI ?_);refine hK _ ?_;clear hK K)|(refine W_seqR fun K hK=>?_;(try (refine sTd ?_;try exact True.intro));(repeat refine aI ?_);refine hK _ ?_;clear hK K)|(refine W_seqD mixed [] (by kernel_rfl) fun K hK=>?_;(try (refine sTd ?_;try exact True.intro));(repeat refine aI ?_);refine hK _ ?_;clear hK K)));exact h.out):G:=f ⟨h⟩
theorem tbasics_ok (M:TM) (c:Nat) (bs:List Nat) (hb:bs.length=M.length) (hn:bs.Nodup) (hlt:∀ x∈bs,x<c) (hl:M.length<1099511627776) :
  Pure Tryz.prog 87 [.md c bs (tab rowU M)] (· = .sl (i64s (sortK (keys M)))):=by
 (refine pureW Tryz.func87 rfl (rs:=[Go.ResultVar.tmp 2]) rfl (n:=18) rfl ?_;simp only [List.length_cons,List.length_nil,List.replicate,List.cons_append,List.nil_append])
 (refine aTd ?_)
 refine W.le ?_ (Le_nil 3 3 3 1 true rfl rfl)
 simp only [List.set]
 ((refine W_seq (W_seqR ?_));intro K hK;(refine sTd ?_))
 (refine hK _ ?_;clear hK K)
 refine W_block (W_loop (fun t:{t:List Nat // Seen bs t} =>
   ⟨[.md c bs (tab rowU M),.any,.any,.sref 3 0 t.1.length,.any,.any,.it 6,.any,.any,.any,.any,.any,.any,.any,.any,.any,.any,.any],[.dead,.dead,.dead,.arr 3 1 true (i64s (t.1.map fun x=>(atB bs M x).1)),.dead,.dead,.iter (.md c bs (tab rowU M)) c t.1 c,.dead,.dead,.dead,.dead,.dead,.dead,.dead,.dead,.dead,.dead,.dead]⟩) (fun t=>bs.length-t.1.length)
   ⟨[],Seen.nil bs⟩ (Le_of (by simp [leE]) (by simp [i64s])) fun t=>?_)
 obtain ⟨sn,hsn⟩:=t
 dsimp only
 ((refine W_seqR ?_);intro K hK;(refine sTd ?_))
 refine ⟨Nat.le_refl _,hlt,fun hall=>hK _ ?_,fun j x hj hx=>hK _ ?_⟩ <;> clear hK K
 ·have hpm:(sn.map fun x=>(atB bs M x).1).Perm (keys M):=seen_keys hn hb hsn.nodup hsn.sub hall
  have hlen:sn.length=(sn.map fun x=>(atB bs M x).1).length:=by simp
  have hso:sortK (sn.map fun x=>(atB bs M x).1)=sortK (keys M):=sortK_of hpm
  have hsl:=sortK_len (sn.map fun x=>(atB bs M x).1)
  have hkl:(sn.map fun x=>(atB bs M x).1).length<1099511627776:=by rw [hpm.length_eq,keys_len];exact hl
  generalize (sn.map fun x=>(atB bs M x).1)=l at *
  rw [hlen]
  (refine W_seq (W_cf rfl ?_))
  refine W_exit ?_
  simp only [thenW,blockW,if_true]
  ((refine W_seqR ?_);intro K hK;(refine sTd ?_))
  refine ⟨by kernel_rfl,call_sortI rfl rfl hkl ?_⟩
  (refine sTd ?_;try exact True.intro)
  (refine hK _ ?_;clear hK K)
  rw [hso] at hsl ⊢
  rw [← hsl]
  (refine W.le ?_ (Le_freeze 3 (rows:=i64s (sortK (keys M))) rfl (by simp) (.inl rfl));simp only [St.freeze,List.map_cons,List.map_nil,List.set,if_true,if_false,Nat.reduceEqDiff,reduceCtorEq,List.drop_zero,u32s_take,u32s_drop,froz_any,froz_und,froz_int,froz_bool,froz_str,froz_nils,froz_sl,froz_ia,froz_nilp,froz_nilif,froz_nilfn,froz_nilmp,froz_gl,froz_sref,froz_ptr,froz_agg,froz_tup,froz_fn,froz_ifc,frozs_nil,frozs_cons,froz_dead,froz_arr,froz_mp,froz_it,froz_md,froz_map,froz_iter])
  (refine aTd ?_)
  refine W_ret ?_
  (refine qG ?_;try exact True.intro);try (refine sTdV ?_;try exact True.intro)
 ·have hjl:j<M.length:=by have:=births_lt hj;omega
  have hXj:(tab rowU M).getD j []=rowU (M.getD j default):=tab_getD hjl
  have hat:=atB_of hn hj (M:=M)
  have hs2:=hsn.snoc hj hx
  have hmu:=hsn.lt hj hx
  have hln:=seen_le hsn.nodup hsn.sub
  have hlo:(sn.map fun x=>(atB bs M x).1).length=sn.length:=by simp
  have hres:(sn++[x]).map (fun x=>(atB bs M x).1)=sn.map (fun x=>(atB bs M x).1)++[(M.getD j default).1]:=by simp [hat]
  generalize M.getD j default=p at *
  simp only [rowU] at hXj
  rw [hXj]
  generalize hlo':sn.map (fun x=>(atB bs M x).1)=lo at *
  (refine W_seq (W_ct rfl ?_))
  refine W_skip ?_
  simp only [thenW]
  refine W_block ?_
  ((refine W_seqR ?_);intro K hK;(refine sTd ?_))
  refine ⟨j,x,by simp,hj,?_⟩
  (refine sTdX hXj ?_;try exact True.intro)
  (refine hK _ ?_;clear hK K)
  (refine W_regR fun K hK=>?_;(refine sTd ?_;try exact True.intro))
  (repeat refine aI ?_)
  refine hK _ ?_
  clear hK K
  simp only [blockW,thenW]
  refine ⟨⟨sn++[x],hs2⟩,Le_drop (by simp [leE]) (by rw [hres];simp [leH,i64s,hlo,List.take_of_length_le]) rfl rfl,?_⟩
  exact hmu
end Go.Proofs.YtjmpajgjaefcjaaGreat.Vm
