/-
  The law SimplexConsts holds of the given program, no further conditions.
-/
import Derived.Test.YtjmkfbhecgkbmaaGreatCst8
import Derived.Orders
import Derived.Below
import Derived.Laws.AppendOwn
import Derived.Laws.MakeOwn
import Derived.Laws.CopyRow
import Derived.Laws.Rows
import Derived.Laws.Cells
import Derived.Tactics
import Derived.Laws.BitsLemmas
import Derived.Maps.Range
import Derived.Carry
import Derived.Test.YtjmkfbhecgkbmaaGreatProg
import Derived.Sort.Row
import Derived.Sort.Grow
import Derived.Shelf.Sort.Plain
import Derived.Shelf.Slices.In.SortNone
import Derived.Ground.NamesProg
import Derived.Test.YtjmkfbhecgkbmaaGreatRows
import Derived.WalkKit
import Derived.ProofKit
import Derived.OpenShut
import Derived.JoinedCond
import Derived.JoinedOf
set_option linter.unusedVariables false
set_option linter.unusedSimpArgs false
set_option maxRecDepth 100000

namespace Go.Proofs.YtjmkfbhecgkbmaaGreat.Vm
open Go Go.RowKit
theorem sSj {G G':Prop} (h:G') (e:G=G':=by conv=>lhs;simp (disch:=omega) only [rowsOf,cNat,cN,St.ret,St.seth,Eff.app,Eff.wi,sepL,guardOf,St.known,objOf,List.set,sliceW,litW,copyW,lenOf,bnd,mxOk,ofCells,TI.isAgg,cellsOf,storable,AV.one,dead,laid,overlay,reduceCtorEq,Int.reduceLE,Int.reduceLT,Int.reduceSub,Int.reduceAdd,Nat.reduceMul,Int.reduceToNat,Nat.reducePow,Int.reduceNeg,Nat.reduceAdd,Nat.reduceLT,Nat.reduceLeDiff,sA,sB,tab_length,rowL_all,rowL_one,rowL_pure,sT]):G:=e.mpr h
theorem sSjX {G G' P:Prop} (p:P) (h:G') (e:P→G=G':=by intro p;conv=>lhs;simp (disch:=omega) only [rowsOf,cNat,cN,St.ret,St.seth,Eff.app,Eff.wi,sepL,guardOf,St.known,objOf,List.set,sliceW,litW,copyW,lenOf,bnd,mxOk,ofCells,TI.isAgg,cellsOf,storable,AV.one,dead,laid,overlay,reduceCtorEq,Int.reduceLE,Int.reduceLT,Int.reduceSub,Int.reduceAdd,Nat.reduceMul,Int.reduceToNat,Nat.reducePow,Int.reduceNeg,Nat.reduceAdd,Nat.reduceLT,Nat.reduceLeDiff,sA,sB,tab_length,rowL_all,rowL_one,rowL_pure,sT,p]):G:=(e p).mpr h
theorem bslimit_ok (lev:Int) (m:Nat) (cr:List (List AV)) (ls:List LL) (v:Nat) (hv:v<ls.length) (hn:ls.length≤65536) (hok:(ls.getD v default).lower.at_.ok∧(ls.getD v default).upper.at_.ok):Look Tryz.prog 38 [.ptr 0 0 0,.int .i64 v] [obB lev m ls.length,obC cr,obL (tab rowL ls)] (.tup [.agg (ls.getD v default).nm.cells,.int .i64 0]):=by
 have h1:=bswrong_ok lev m ls.length cr (tab rowL ls) v (by omega)
 rw [if_pos (by omega)] at h1
 have h2:=bcopiedL_ok _ hok.1 hok.2
 have hX:(tab rowL ls).getD v []=rowL (ls.getD v default):=tab_getD hv
 generalize ls.getD v default=l at *
 generalize l.nm=q at *
 simp only [rowL,LL.cells] at hX h2 ⊢
 unfold obB obC obL at *
 unfold Look
 (refine lend_of_W Tryz.func38 rfl (rs:=[Go.ResultVar.cell 4 105,Go.ResultVar.tmp 5]) rfl (nt:=22) rfl (Nat.le_of_ble_eq_true rfl) ?_;simp only [idxL_nil,idxL_cons,List.length_cons,List.length_nil,List.replicate,mv_any,mv_und,mv_int,mv_bool,mv_str,mv_nils,mv_sl,mv_ia,mv_nilp,mv_nilif,mv_nilfn,mv_nilmp,mv_gl,mv_sref,mv_ptr,mv_mp,mv_agg,mv_tup,mv_fn,mv_md,mvs_nil,mvs_cons,omv_dead,omv_arr,omv_arrf,omv_map,List.map_cons,List.map_nil,List.cons_append,List.nil_append,List.getD_cons_zero,List.getD_cons_succ,Nat.add_zero,Nat.reduceAdd])
 refine W_seq ?_
 ((refine W_regV ?_);intro K hK;(refine sSj ?_))
 (refine hK _ ?_;clear hK K)
 ((refine W_seq (W_seqVM ?_));intro K hK;(refine sSj ?_))
 (refine ⟨by kernel_rfl,_,.lookB (h1) [22,23,24] rfl (by decide) rfl (fun _=>by simp only [mv_any,mv_und,mv_int,mv_bool,mv_str,mv_nils,mv_sl,mv_ia,mv_nilp,mv_nilif,mv_nilfn,mv_nilmp,mv_gl,mv_sref,mv_ptr,mv_mp,mv_agg,mv_tup,mv_fn,mv_md,mvs_nil,mvs_cons,omv_dead,omv_arr,omv_arrf,omv_map,List.map_cons,List.map_nil,List.cons_append,List.nil_append,List.getD_cons_zero,List.getD_cons_succ,Nat.add_zero,Nat.reduceAdd]) (fun _=>by simp only [mv_any,mv_und,mv_int,mv_bool,mv_str,mv_nils,mv_sl,mv_ia,mv_nilp,mv_nilif,mv_nilfn,mv_nilmp,mv_gl,mv_sref,mv_ptr,mv_mp,mv_agg,mv_tup,mv_fn,mv_md,mvs_nil,mvs_cons,omv_dead,omv_arr,omv_arrf,omv_map,List.map_cons,List.map_nil,List.cons_append,List.nil_append,List.getD_cons_zero,List.getD_cons_succ,Nat.add_zero,Nat.reduceAdd]) rfl (fun _=>by simp only [mv_any,mv_und,mv_int,mv_bool,mv_str,mv_nils,mv_sl,mv_ia,mv_nilp,mv_nilif,mv_nilfn,mv_nilmp,mv_gl,mv_sref,mv_ptr,mv_mp,mv_agg,mv_tup,mv_fn,mv_md,mvs_nil,mvs_cons,omv_dead,omv_arr,omv_arrf,omv_map,List.map_cons,List.map_nil,List.cons_append,List.nil_append,List.getD_cons_zero,List.getD_cons_succ,Nat.add_zero,Nat.reduceAdd]),?_⟩;(try (refine sSj ?_));(repeat refine aI ?_))
 (refine hK _ ?_;clear hK K)
 ((refine W_seqV ?_);intro K hK;(refine sSj ?_))
 (refine hK _ ?_;clear hK K)
 refine W_cf rfl ?_
 refine W_skip ?_
 simp only [thenW]
 ((refine W_seqV ?_);intro K hK;(refine sSjX hX ?_))
 ((repeat refine aI ?_);refine ⟨by kernel_rfl,_,.pure rfl (h2),?_⟩;(try (refine sSj ?_)))
 (refine hK _ ?_;clear hK K)
 refine W_ret ?_
 simp only [thenW,blockW,lendQ,resW,resV]
 (try (refine sSj ?_))
 refine ⟨_,[obB lev m ls.length,obC cr,obL (tab rowL ls)],[],rfl,rfl,.nil,by simp,?_,?_,rfl,rfl⟩
 ·rfl
 ·intro k hk
  match k,hk with
  | 0,_=>rfl
  | 1,_=>rfl
  | 2,_=>rfl
theorem bsnote_ok (lev:Int) (m n:Nat) (cr lr:List (List AV)) (v:Int) (up:Bool) (b:BB) (hm:m≤4294967296) (hl:m≤cr.length):Lend Tryz.prog 213 [.ptr 0 0 0,.int .i64 v,.bool up,.agg b.cells] [obB lev m n,obC cr,obL lr] [0,2] 0 fun r os=>r = .tup []∧os=[obB lev (m+1) n,obC (cr.take m++[.int .i64 v::.bool up::.int .i64 lev::b.cells]),obL lr]:=by
 unfold obB obC obL
 simp only [BB.cells]
 (refine lend_of_W Tryz.func213 rfl (rs:=[]) rfl (nt:=25) rfl (Nat.le_of_ble_eq_true rfl) ?_;simp only [idxL_nil,idxL_cons,List.length_cons,List.length_nil,List.replicate,mv_any,mv_und,mv_int,mv_bool,mv_str,mv_nils,mv_sl,mv_ia,mv_nilp,mv_nilif,mv_nilfn,mv_nilmp,mv_gl,mv_sref,mv_ptr,mv_mp,mv_agg,mv_tup,mv_fn,mv_md,mvs_nil,mvs_cons,omv_dead,omv_arr,omv_arrf,omv_map,List.map_cons,List.map_nil,List.cons_append,List.nil_append,List.getD_cons_zero,List.getD_cons_succ,Nat.add_zero,Nat.reduceAdd])
 refine W_seq ?_
 ((refine W_regV ?_);intro K hK;(refine sNa ?_))
 (refine hK _ ?_;clear hK K)
 ((refine W_regS mixed 14 [] (by kernel_rfl) ?_);intro K hK;(refine sNa ?_))
 refine ⟨by simp only [AV.pures,AV.pure,Bool.and_true],fun r hr=>?_,fun r hr=>?_,by decide,hl,by omega,by omega,?_⟩
 ·rw [List.mem_singleton.1 hr];rfl
 ·rw [List.mem_singleton.1 hr];rfl
 simp (disch:=omega) only [Nat.reduceEqDiff,sA,sB,St.ret,List.set,sT,Nat.reduceAdd,Nat.reduceLT,reduceCtorEq,storable,AV.one,cellsOf,Nat.reduceLeDiff,overlay,St.seth]
 (refine hK _ ?_;clear hK K)
 (simp only [thenW,blockW,lendQ,resW,resV,asOne_nil,asOne_one,asOne_two,asOne_three,List.getD_cons_zero,List.getD_cons_succ];exact lend_end [] [0,1,2] rfl rfl (by decide) rfl (by simp only [backN,Nat.reduceLT,if_true,if_false,Nat.reduceSub,mv_any,mv_und,mv_int,mv_bool,mv_str,mv_nils,mv_sl,mv_ia,mv_nilp,mv_nilif,mv_nilfn,mv_nilmp,mv_gl,mv_sref,mv_ptr,mv_mp,mv_agg,mv_tup,mv_fn,mv_md,mvs_nil,mvs_cons,omv_dead,omv_arr,omv_arrf,omv_map,List.map_cons,List.map_nil,List.cons_append,List.nil_append,List.getD_cons_zero,List.getD_cons_succ,Nat.add_zero,Nat.reduceAdd]) (by simp only [backN,Nat.reduceLT,if_true,if_false,Nat.reduceSub,mv_any,mv_und,mv_int,mv_bool,mv_str,mv_nils,mv_sl,mv_ia,mv_nilp,mv_nilif,mv_nilfn,mv_nilmp,mv_gl,mv_sref,mv_ptr,mv_mp,mv_agg,mv_tup,mv_fn,mv_md,mvs_nil,mvs_cons,omv_dead,omv_arr,omv_arrf,omv_map,List.map_cons,List.map_nil,List.cons_append,List.nil_append,List.getD_cons_zero,List.getD_cons_succ,Nat.add_zero,Nat.reduceAdd]) (⟨rfl,rfl⟩))
theorem sSl {G G':Prop} (h:G') (e:G=G':=by conv=>lhs;simp (disch:=omega) only [rowsOf,cNat,cN,St.ret,St.seth,Eff.app,Eff.wi,sepL,guardOf,St.known,objOf,List.set,sliceW,litW,copyW,lenOf,bnd,mxOk,ofCells,TI.isAgg,cellsOf,storable,AV.one,dead,laid,overlay,reduceCtorEq,Int.reduceLE,Int.reduceLT,Int.reduceSub,Int.reduceAdd,Nat.reduceMul,Int.reduceToNat,Nat.reducePow,Int.reduceNeg,Nat.reduceAdd,Nat.reduceLT,Nat.reduceLeDiff,sA,sB,tab_length,rowL_all,rowL_one,rowL_pure,sT]):G:=e.mpr h
theorem sSlX {G G' P:Prop} (p:P) (h:G') (e:P→G=G':=by intro p;conv=>lhs;simp (disch:=omega) only [rowsOf,cNat,cN,St.ret,St.seth,Eff.app,Eff.wi,sepL,guardOf,St.known,objOf,List.set,sliceW,litW,copyW,lenOf,bnd,mxOk,ofCells,TI.isAgg,cellsOf,storable,AV.one,dead,laid,overlay,reduceCtorEq,Int.reduceLE,Int.reduceLT,Int.reduceSub,Int.reduceAdd,Nat.reduceMul,Int.reduceToNat,Nat.reducePow,Int.reduceNeg,Nat.reduceAdd,Nat.reduceLT,Nat.reduceLeDiff,sA,sB,tab_length,rowL_all,rowL_one,rowL_pure,sT,p]):G:=(e p).mpr h
def vdA (k o:Int):AV := .tup [.agg [.int .i64 k,.int .i64 o],.int .i64 0]
set_option maxHeartbeats 4000000 in
theorem bslift_ok (lev:Int) (m n:Nat) (cr lr:List (List AV)) (l:LL) (v:Nat) (a:DD) (why:Int) (hX:lr.getD v []=rowL l) (hv:v<n) (hvl:v<lr.length) (hn:n≤65536) (hm:m≤4294967296) (hmc:m≤cr.length) (ho1:l.lower.at_.ok) (ho2:l.upper.at_.ok) (ha:a.ok) :
  Lend Tryz.prog 164 [.ptr 0 0 0,.int .i64 v,a.av,.int .i64 why] [obB lev m n,obC cr,obL lr] [0,2] 0 fun r os =>
   if (l.lower.has&&!decide (dsg (dsub l.lower.at_.v a.v)<0))=true then r=vdA 0 0∧os=[obB lev m n,obC cr,obL lr]
   else if (l.upper.has&&decide (dsg (dsub l.upper.at_.v a.v)<0))=true then r=vdA 2 l.upper.why∧os=[obB lev m n,obC cr,obL lr]
   else r=vdA 1 0∧os=[obB lev (m+1) n,obC (cr.take m++[.int .i64 v::.bool false::.int .i64 lev::l.lower.cells]),obL (lr.set v (rowL ⟨⟨true,dq a.v,why⟩,l.upper⟩))]:=by
 have h1:=bswrong_ok lev m n cr lr v (by omega)
 rw [if_pos (by omega)] at h1
 have h2:=bbelow_ok l.lower a ho1 ha
 have h3:=bbelow_ok l.upper a ho2 ha
 have h4:=dnorm_ok a ha
 have h5:=bsnote_ok lev m n cr lr v false l.lower hm hmc
 have hv1:(v:Int)<n:=by omega
 have hv2:¬ (v:Int)<0:=by omega
 generalize dsg (dsub l.lower.at_.v a.v)=g1 at *
 generalize dsg (dsub l.upper.at_.v a.v)=g2 at *
 generalize decide (g1<0)=e1 at *
 generalize decide (g2<0)=e2 at *
 generalize hw:dq a.v=w at *
 have hw':cD a.v=w.av:=by rw [← hw];rfl
 rw [hw'] at h4
 clear hw hw'
 obtain ⟨⟨c1,⟨⟨x1,x2,x3⟩,⟨x4,x5,x6⟩⟩,x7⟩,⟨d1,⟨⟨y1,y2,y3⟩,⟨y4,y5,y6⟩⟩,y7⟩⟩:=l
 obtain ⟨⟨n',x',y'⟩,⟨m',z',w'⟩⟩:=a
 obtain ⟨⟨n'',x'',y''⟩,⟨m'',z'',w''⟩⟩:=w
 simp only [DD.av,DD.cells,BB.cells,rowL,LL.cells,vdA] at *
 clear g1 g2
 generalize (d1&&e2)=e3 at *
 unfold obB obC obL at *
 (refine lend_of_W Tryz.func164 rfl (rs:=[Go.ResultVar.cell 8 172,Go.ResultVar.tmp 9]) rfl (nt:=71) rfl (Nat.le_of_ble_eq_true rfl) ?_;simp only [idxL_nil,idxL_cons,List.length_cons,List.length_nil,List.replicate,mv_any,mv_und,mv_int,mv_bool,mv_str,mv_nils,mv_sl,mv_ia,mv_nilp,mv_nilif,mv_nilfn,mv_nilmp,mv_gl,mv_sref,mv_ptr,mv_mp,mv_agg,mv_tup,mv_fn,mv_md,mvs_nil,mvs_cons,omv_dead,omv_arr,omv_arrf,omv_map,List.map_cons,List.map_nil,List.cons_append,List.nil_append,List.getD_cons_zero,List.getD_cons_succ,Nat.add_zero,Nat.reduceAdd])
 refine W_seq ?_
 ((refine W_regV ?_);intro K hK;(refine sSl ?_))
 (refine hK _ ?_;clear hK K)
 ((refine W_seq (W_seqVM ?_));intro K hK;(refine sSl ?_))
 (refine ⟨by kernel_rfl,_,.lookB (h1) [71,72,73] rfl (by decide) rfl (fun _=>by simp only [mv_any,mv_und,mv_int,mv_bool,mv_str,mv_nils,mv_sl,mv_ia,mv_nilp,mv_nilif,mv_nilfn,mv_nilmp,mv_gl,mv_sref,mv_ptr,mv_mp,mv_agg,mv_tup,mv_fn,mv_md,mvs_nil,mvs_cons,omv_dead,omv_arr,omv_arrf,omv_map,List.map_cons,List.map_nil,List.cons_append,List.nil_append,List.getD_cons_zero,List.getD_cons_succ,Nat.add_zero,Nat.reduceAdd]) (fun _=>by simp only [mv_any,mv_und,mv_int,mv_bool,mv_str,mv_nils,mv_sl,mv_ia,mv_nilp,mv_nilif,mv_nilfn,mv_nilmp,mv_gl,mv_sref,mv_ptr,mv_mp,mv_agg,mv_tup,mv_fn,mv_md,mvs_nil,mvs_cons,omv_dead,omv_arr,omv_arrf,omv_map,List.map_cons,List.map_nil,List.cons_append,List.nil_append,List.getD_cons_zero,List.getD_cons_succ,Nat.add_zero,Nat.reduceAdd]) rfl (fun _=>by simp only [mv_any,mv_und,mv_int,mv_bool,mv_str,mv_nils,mv_sl,mv_ia,mv_nilp,mv_nilif,mv_nilfn,mv_nilmp,mv_gl,mv_sref,mv_ptr,mv_mp,mv_agg,mv_tup,mv_fn,mv_md,mvs_nil,mvs_cons,omv_dead,omv_arr,omv_arrf,omv_map,List.map_cons,List.map_nil,List.cons_append,List.nil_append,List.getD_cons_zero,List.getD_cons_succ,Nat.add_zero,Nat.reduceAdd]),?_⟩;(try (refine sSl ?_));(repeat refine aI ?_))
 (refine hK _ ?_;clear hK K)
 ((refine W_seqV ?_);intro K hK;(refine sSl ?_))
 (refine hK _ ?_;clear hK K)
 refine W_cf rfl ?_
 refine W_skip ?_
 simp only [thenW]
 ((refine W_seqV ?_);intro K hK;(refine sSlX hX ?_))
 (repeat refine aI ?_);refine hK _ ?_;clear hK K
 refine W_seq (W_block ?_)
 cases c1 <;> cases e1 <;> simp only [Bool.false_and,Bool.true_and,Bool.not_true,Bool.not_false,if_true,if_false,Bool.false_eq_true] at h2 ⊢
 case true.false =>
  ((refine W_seqD mixed [] (by kernel_rfl) ?_);intro K hK;(refine sSlX (And.intro hX hvl) ?_))
  (refine ⟨by kernel_rfl,_,.pure rfl (h2),?_⟩;(try (refine sSl ?_)))
  (refine hK _ ?_;clear hK K)
  refine W_ct rfl ?_
  ((refine W_seqV ?_);intro K hK;(refine sSl ?_))
  (refine hK _ ?_;clear hK K)
  refine W_ret ?_
  (simp only [thenW,blockW,lendQ,resW,resV];(try (refine sSl ?_));simp only [asOne_nil,asOne_one,asOne_two,asOne_three];exact lend_endC [] [0,1,2] rfl rfl (by decide) rfl (by simp only [backN,Nat.reduceLT,if_true,if_false,Nat.reduceSub,mv_any,mv_und,mv_int,mv_bool,mv_str,mv_nils,mv_sl,mv_ia,mv_nilp,mv_nilif,mv_nilfn,mv_nilmp,mv_gl,mv_sref,mv_ptr,mv_mp,mv_agg,mv_tup,mv_fn,mv_md,mvs_nil,mvs_cons,omv_dead,omv_arr,omv_arrf,omv_map,List.map_cons,List.map_nil,List.cons_append,List.nil_append,List.getD_cons_zero,List.getD_cons_succ,Nat.add_zero,Nat.reduceAdd]) (by simp only [backN,Nat.reduceLT,if_true,if_false,Nat.reduceSub,mv_any,mv_und,mv_int,mv_bool,mv_str,mv_nils,mv_sl,mv_ia,mv_nilp,mv_nilif,mv_nilfn,mv_nilmp,mv_gl,mv_sref,mv_ptr,mv_mp,mv_agg,mv_tup,mv_fn,mv_md,mvs_nil,mvs_cons,omv_dead,omv_arr,omv_arrf,omv_map,List.map_cons,List.map_nil,List.cons_append,List.nil_append,List.getD_cons_zero,List.getD_cons_succ,Nat.add_zero,Nat.reduceAdd]) (⟨rfl,rfl⟩))
 all_goals
  ((refine W_seqD mixed [] (by kernel_rfl) ?_);intro K hK;(refine sSlX (And.intro hX hvl) ?_))
  (try (refine ⟨by kernel_rfl,_,.pure rfl (h2),?_⟩;(try (refine sSl ?_))))
  (refine hK _ ?_;clear hK K)
  refine W_cf rfl ?_
  ((refine W_seqD mixed [] (by kernel_rfl) ?_);intro K hK;(refine sSlX (And.intro hX hvl) ?_))
  (refine ⟨by kernel_rfl,_,.pure rfl (h3),?_⟩;(try (refine sSl ?_)))
  (refine hK _ ?_;clear hK K)
  cases e3 <;> simp only [if_true,if_false,Bool.false_eq_true]
  case true =>
   refine W_ct rfl ?_
   ((refine W_seqV ?_);intro K hK;(refine sSlX (And.intro hX hvl) ?_))
   (refine hK _ ?_;clear hK K)
   refine W_ret ?_
   (simp only [thenW,blockW,lendQ,resW,resV];(try (refine sSl ?_));simp only [asOne_nil,asOne_one,asOne_two,asOne_three];exact lend_endC [] [0,1,2] rfl rfl (by decide) rfl (by simp only [backN,Nat.reduceLT,if_true,if_false,Nat.reduceSub,mv_any,mv_und,mv_int,mv_bool,mv_str,mv_nils,mv_sl,mv_ia,mv_nilp,mv_nilif,mv_nilfn,mv_nilmp,mv_gl,mv_sref,mv_ptr,mv_mp,mv_agg,mv_tup,mv_fn,mv_md,mvs_nil,mvs_cons,omv_dead,omv_arr,omv_arrf,omv_map,List.map_cons,List.map_nil,List.cons_append,List.nil_append,List.getD_cons_zero,List.getD_cons_succ,Nat.add_zero,Nat.reduceAdd]) (by simp only [backN,Nat.reduceLT,if_true,if_false,Nat.reduceSub,mv_any,mv_und,mv_int,mv_bool,mv_str,mv_nils,mv_sl,mv_ia,mv_nilp,mv_nilif,mv_nilfn,mv_nilmp,mv_gl,mv_sref,mv_ptr,mv_mp,mv_agg,mv_tup,mv_fn,mv_md,mvs_nil,mvs_cons,omv_dead,omv_arr,omv_arrf,omv_map,List.map_cons,List.map_nil,List.cons_append,List.nil_append,List.getD_cons_zero,List.getD_cons_succ,Nat.add_zero,Nat.reduceAdd]) (⟨rfl,rfl⟩))
  refine W_cf rfl ?_
  refine W_skip ?_
  simp only [thenW,blockW]
  ((refine W_seqS mixed 8 [] (by kernel_rfl) ?_);intro K hK;(refine sSlX (And.intro hX hvl) ?_))
  (refine ⟨by kernel_rfl,call_lendB (h5) [71,72,73] [] [72] rfl (by decide) rfl rfl (by simp only [mv_any,mv_und,mv_int,mv_bool,mv_str,mv_nils,mv_sl,mv_ia,mv_nilp,mv_nilif,mv_nilfn,mv_nilmp,mv_gl,mv_sref,mv_ptr,mv_mp,mv_agg,mv_tup,mv_fn,mv_md,mvs_nil,mvs_cons,omv_dead,omv_arr,omv_arrf,omv_map,List.map_cons,List.map_nil,List.cons_append,List.nil_append,List.getD_cons_zero,List.getD_cons_succ,Nat.add_zero,Nat.reduceAdd]) (by simp only [mv_any,mv_und,mv_int,mv_bool,mv_str,mv_nils,mv_sl,mv_ia,mv_nilp,mv_nilif,mv_nilfn,mv_nilmp,mv_gl,mv_sref,mv_ptr,mv_mp,mv_agg,mv_tup,mv_fn,mv_md,mvs_nil,mvs_cons,omv_dead,omv_arr,omv_arrf,omv_map,List.map_cons,List.map_nil,List.cons_append,List.nil_append,List.getD_cons_zero,List.getD_cons_succ,Nat.add_zero,Nat.reduceAdd]) rfl rfl rfl rfl fun r_ os_ hr_ hl_=>?_⟩;obtain ⟨rfl,rfl⟩:=hr_;clear hl_;simp only [killsL_nil,killsL_cons,killO_nil,killO_cons,putL_nil,putL_cons,List.set,kill_any,kill_und,kill_int,kill_bool,kill_str,kill_nils,kill_sl,kill_ia,kill_nilp,kill_nilif,kill_nilfn,kill_nilmp,kill_gl,kill_sref,kill_ptr,kill_agg,kill_tup,kill_fn,kill_ifc,kills_nil,kills_cons,kill_dead,kill_arr,kill_arrf,kill_mp,kill_it,kill_md,kill_map,kill_iter,Nat.reduceEqDiff,reduceCtorEq,if_false,if_true,mv_any,mv_und,mv_int,mv_bool,mv_str,mv_nils,mv_sl,mv_ia,mv_nilp,mv_nilif,mv_nilfn,mv_nilmp,mv_gl,mv_sref,mv_ptr,mv_mp,mv_agg,mv_tup,mv_fn,mv_md,mvs_nil,mvs_cons,omv_dead,omv_arr,omv_arrf,omv_map,List.map_cons,List.map_nil,List.cons_append,List.nil_append,List.getD_cons_zero,List.getD_cons_succ,Nat.add_zero,Nat.reduceAdd];(try (refine sSl ?_)))
  (refine hK _ ?_;clear hK K)
  ((refine W_seqV ?_);intro K hK;(refine sSlX (And.intro hX hvl) ?_))
  (refine ⟨by kernel_rfl,_,.pure rfl (h4),?_⟩;(try (refine sSl ?_));(repeat refine aI ?_))
  (refine hK _ ?_;clear hK K)
  ((refine W_seqV ?_);intro K hK;(refine sSl ?_))
  (refine hK _ ?_;clear hK K)
  refine W_ret ?_
  (simp only [thenW,blockW,lendQ,resW,resV];(try (refine sSl ?_));simp only [asOne_nil,asOne_one,asOne_two,asOne_three];exact lend_endC [] [0,1,2] rfl rfl (by decide) rfl (by simp only [backN,Nat.reduceLT,if_true,if_false,Nat.reduceSub,mv_any,mv_und,mv_int,mv_bool,mv_str,mv_nils,mv_sl,mv_ia,mv_nilp,mv_nilif,mv_nilfn,mv_nilmp,mv_gl,mv_sref,mv_ptr,mv_mp,mv_agg,mv_tup,mv_fn,mv_md,mvs_nil,mvs_cons,omv_dead,omv_arr,omv_arrf,omv_map,List.map_cons,List.map_nil,List.cons_append,List.nil_append,List.getD_cons_zero,List.getD_cons_succ,Nat.add_zero,Nat.reduceAdd]) (by simp only [backN,Nat.reduceLT,if_true,if_false,Nat.reduceSub,mv_any,mv_und,mv_int,mv_bool,mv_str,mv_nils,mv_sl,mv_ia,mv_nilp,mv_nilif,mv_nilfn,mv_nilmp,mv_gl,mv_sref,mv_ptr,mv_mp,mv_agg,mv_tup,mv_fn,mv_md,mvs_nil,mvs_cons,omv_dead,omv_arr,omv_arrf,omv_map,List.map_cons,List.map_nil,List.cons_append,List.nil_append,List.getD_cons_zero,List.getD_cons_succ,Nat.add_zero,Nat.reduceAdd]) (⟨rfl,rfl⟩))
set_option maxHeartbeats 4000000 in
theorem bspress_ok (lev:Int) (m n:Nat) (cr lr:List (List AV)) (l:LL) (v:Nat) (a:DD) (why:Int) (hX:lr.getD v []=rowL l) (hv:v<n) (hvl:v<lr.length) (hn:n≤65536) (hm:m≤4294967296) (hmc:m≤cr.length) (ho1:l.lower.at_.ok) (ho2:l.upper.at_.ok) (ha:a.ok) :
  Lend Tryz.prog 165 [.ptr 0 0 0,.int .i64 v,a.av,.int .i64 why] [obB lev m n,obC cr,obL lr] [0,2] 0 fun r os =>
   if (l.upper.has&&!decide (dsg (dsub l.upper.at_.v a.v)>0))=true then r=vdA 0 0∧os=[obB lev m n,obC cr,obL lr]
   else if (l.lower.has&&decide (dsg (dsub l.lower.at_.v a.v)>0))=true then r=vdA 2 l.lower.why∧os=[obB lev m n,obC cr,obL lr]
   else r=vdA 1 0∧os=[obB lev (m+1) n,obC (cr.take m++[.int .i64 v::.bool true::.int .i64 lev::l.upper.cells]),obL (lr.set v (rowL ⟨l.lower,⟨true,dq a.v,why⟩⟩))]:=by
 have h1:=bswrong_ok lev m n cr lr v (by omega)
 rw [if_pos (by omega)] at h1
 have h2:=babove_ok l.upper a ho2 ha
 have h3:=babove_ok l.lower a ho1 ha
 have h4:=dnorm_ok a ha
 have h5:=bsnote_ok lev m n cr lr v true l.upper hm hmc
 have hv1:(v:Int)<n:=by omega
 have hv2:¬ (v:Int)<0:=by omega
 generalize dsg (dsub l.upper.at_.v a.v)=g1 at *
 generalize dsg (dsub l.lower.at_.v a.v)=g2 at *
 generalize decide (g1>0)=e1 at *
 generalize decide (g2>0)=e2 at *
 generalize hw:dq a.v=w at *
 have hw':cD a.v=w.av:=by rw [← hw];rfl
 rw [hw'] at h4
 clear hw hw'
 obtain ⟨⟨c1,⟨⟨x1,x2,x3⟩,⟨x4,x5,x6⟩⟩,x7⟩,⟨d1,⟨⟨y1,y2,y3⟩,⟨y4,y5,y6⟩⟩,y7⟩⟩:=l
 obtain ⟨⟨n',x',y'⟩,⟨m',z',w'⟩⟩:=a
 obtain ⟨⟨n'',x'',y''⟩,⟨m'',z'',w''⟩⟩:=w
 simp only [DD.av,DD.cells,BB.cells,rowL,LL.cells,vdA] at *
 clear g1 g2
 generalize (c1&&e2)=e3 at *
 unfold obB obC obL at *
 (refine lend_of_W Tryz.func165 rfl (rs:=[Go.ResultVar.cell 8 172,Go.ResultVar.tmp 9]) rfl (nt:=71) rfl (Nat.le_of_ble_eq_true rfl) ?_;simp only [idxL_nil,idxL_cons,List.length_cons,List.length_nil,List.replicate,mv_any,mv_und,mv_int,mv_bool,mv_str,mv_nils,mv_sl,mv_ia,mv_nilp,mv_nilif,mv_nilfn,mv_nilmp,mv_gl,mv_sref,mv_ptr,mv_mp,mv_agg,mv_tup,mv_fn,mv_md,mvs_nil,mvs_cons,omv_dead,omv_arr,omv_arrf,omv_map,List.map_cons,List.map_nil,List.cons_append,List.nil_append,List.getD_cons_zero,List.getD_cons_succ,Nat.add_zero,Nat.reduceAdd])
 refine W_seq ?_
 ((refine W_regV ?_);intro K hK;(refine sSl ?_))
 (refine hK _ ?_;clear hK K)
 ((refine W_seq (W_seqVM ?_));intro K hK;(refine sSl ?_))
 (refine ⟨by kernel_rfl,_,.lookB (h1) [71,72,73] rfl (by decide) rfl (fun _=>by simp only [mv_any,mv_und,mv_int,mv_bool,mv_str,mv_nils,mv_sl,mv_ia,mv_nilp,mv_nilif,mv_nilfn,mv_nilmp,mv_gl,mv_sref,mv_ptr,mv_mp,mv_agg,mv_tup,mv_fn,mv_md,mvs_nil,mvs_cons,omv_dead,omv_arr,omv_arrf,omv_map,List.map_cons,List.map_nil,List.cons_append,List.nil_append,List.getD_cons_zero,List.getD_cons_succ,Nat.add_zero,Nat.reduceAdd]) (fun _=>by simp only [mv_any,mv_und,mv_int,mv_bool,mv_str,mv_nils,mv_sl,mv_ia,mv_nilp,mv_nilif,mv_nilfn,mv_nilmp,mv_gl,mv_sref,mv_ptr,mv_mp,mv_agg,mv_tup,mv_fn,mv_md,mvs_nil,mvs_cons,omv_dead,omv_arr,omv_arrf,omv_map,List.map_cons,List.map_nil,List.cons_append,List.nil_append,List.getD_cons_zero,List.getD_cons_succ,Nat.add_zero,Nat.reduceAdd]) rfl (fun _=>by simp only [mv_any,mv_und,mv_int,mv_bool,mv_str,mv_nils,mv_sl,mv_ia,mv_nilp,mv_nilif,mv_nilfn,mv_nilmp,mv_gl,mv_sref,mv_ptr,mv_mp,mv_agg,mv_tup,mv_fn,mv_md,mvs_nil,mvs_cons,omv_dead,omv_arr,omv_arrf,omv_map,List.map_cons,List.map_nil,List.cons_append,List.nil_append,List.getD_cons_zero,List.getD_cons_succ,Nat.add_zero,Nat.reduceAdd]),?_⟩;(try (refine sSl ?_));(repeat refine aI ?_))
 (refine hK _ ?_;clear hK K)
 ((refine W_seqV ?_);intro K hK;(refine sSl ?_))
 (refine hK _ ?_;clear hK K)
 refine W_cf rfl ?_
 refine W_skip ?_
 simp only [thenW]
 ((refine W_seqV ?_);intro K hK;(refine sSlX hX ?_))
 (repeat refine aI ?_);refine hK _ ?_;clear hK K
 refine W_seq (W_block ?_)
 cases d1 <;> cases e1 <;> simp only [Bool.false_and,Bool.true_and,Bool.not_true,Bool.not_false,if_true,if_false,Bool.false_eq_true] at h2 ⊢
 case true.false =>
  ((refine W_seqD mixed [] (by kernel_rfl) ?_);intro K hK;(refine sSlX (And.intro hX hvl) ?_))
  (refine ⟨by kernel_rfl,_,.pure rfl (h2),?_⟩;(try (refine sSl ?_)))
  (refine hK _ ?_;clear hK K)
  refine W_ct rfl ?_
  ((refine W_seqV ?_);intro K hK;(refine sSl ?_))
  (refine hK _ ?_;clear hK K)
  refine W_ret ?_
  (simp only [thenW,blockW,lendQ,resW,resV];(try (refine sSl ?_));simp only [asOne_nil,asOne_one,asOne_two,asOne_three];exact lend_endC [] [0,1,2] rfl rfl (by decide) rfl (by simp only [backN,Nat.reduceLT,if_true,if_false,Nat.reduceSub,mv_any,mv_und,mv_int,mv_bool,mv_str,mv_nils,mv_sl,mv_ia,mv_nilp,mv_nilif,mv_nilfn,mv_nilmp,mv_gl,mv_sref,mv_ptr,mv_mp,mv_agg,mv_tup,mv_fn,mv_md,mvs_nil,mvs_cons,omv_dead,omv_arr,omv_arrf,omv_map,List.map_cons,List.map_nil,List.cons_append,List.nil_append,List.getD_cons_zero,List.getD_cons_succ,Nat.add_zero,Nat.reduceAdd]) (by simp only [backN,Nat.reduceLT,if_true,if_false,Nat.reduceSub,mv_any,mv_und,mv_int,mv_bool,mv_str,mv_nils,mv_sl,mv_ia,mv_nilp,mv_nilif,mv_nilfn,mv_nilmp,mv_gl,mv_sref,mv_ptr,mv_mp,mv_agg,mv_tup,mv_fn,mv_md,mvs_nil,mvs_cons,omv_dead,omv_arr,omv_arrf,omv_map,List.map_cons,List.map_nil,List.cons_append,List.nil_append,List.getD_cons_zero,List.getD_cons_succ,Nat.add_zero,Nat.reduceAdd]) (⟨rfl,rfl⟩))
 all_goals
  ((refine W_seqD mixed [] (by kernel_rfl) ?_);intro K hK;(refine sSlX (And.intro hX hvl) ?_))
  (try (refine ⟨by kernel_rfl,_,.pure rfl (h2),?_⟩;(try (refine sSl ?_))))
  (refine hK _ ?_;clear hK K)
  refine W_cf rfl ?_
  ((refine W_seqD mixed [] (by kernel_rfl) ?_);intro K hK;(refine sSlX (And.intro hX hvl) ?_))
  (refine ⟨by kernel_rfl,_,.pure rfl (h3),?_⟩;(try (refine sSl ?_)))
  (refine hK _ ?_;clear hK K)
  cases e3 <;> simp only [if_true,if_false,Bool.false_eq_true]
  case true =>
   refine W_ct rfl ?_
   ((refine W_seqV ?_);intro K hK;(refine sSlX (And.intro hX hvl) ?_))
   (refine hK _ ?_;clear hK K)
   refine W_ret ?_
   (simp only [thenW,blockW,lendQ,resW,resV];(try (refine sSl ?_));simp only [asOne_nil,asOne_one,asOne_two,asOne_three];exact lend_endC [] [0,1,2] rfl rfl (by decide) rfl (by simp only [backN,Nat.reduceLT,if_true,if_false,Nat.reduceSub,mv_any,mv_und,mv_int,mv_bool,mv_str,mv_nils,mv_sl,mv_ia,mv_nilp,mv_nilif,mv_nilfn,mv_nilmp,mv_gl,mv_sref,mv_ptr,mv_mp,mv_agg,mv_tup,mv_fn,mv_md,mvs_nil,mvs_cons,omv_dead,omv_arr,omv_arrf,omv_map,List.map_cons,List.map_nil,List.cons_append,List.nil_append,List.getD_cons_zero,List.getD_cons_succ,Nat.add_zero,Nat.reduceAdd]) (by simp only [backN,Nat.reduceLT,if_true,if_false,Nat.reduceSub,mv_any,mv_und,mv_int,mv_bool,mv_str,mv_nils,mv_sl,mv_ia,mv_nilp,mv_nilif,mv_nilfn,mv_nilmp,mv_gl,mv_sref,mv_ptr,mv_mp,mv_agg,mv_tup,mv_fn,mv_md,mvs_nil,mvs_cons,omv_dead,omv_arr,omv_arrf,omv_map,List.map_cons,List.map_nil,List.cons_append,List.nil_append,List.getD_cons_zero,List.getD_cons_succ,Nat.add_zero,Nat.reduceAdd]) (⟨rfl,rfl⟩))
  refine W_cf rfl ?_
  refine W_skip ?_
  simp only [thenW,blockW]
  ((refine W_seqS mixed 8 [] (by kernel_rfl) ?_);intro K hK;(refine sSlX (And.intro hX hvl) ?_))
  (refine ⟨by kernel_rfl,call_lendB (h5) [71,72,73] [] [72] rfl (by decide) rfl rfl (by simp only [mv_any,mv_und,mv_int,mv_bool,mv_str,mv_nils,mv_sl,mv_ia,mv_nilp,mv_nilif,mv_nilfn,mv_nilmp,mv_gl,mv_sref,mv_ptr,mv_mp,mv_agg,mv_tup,mv_fn,mv_md,mvs_nil,mvs_cons,omv_dead,omv_arr,omv_arrf,omv_map,List.map_cons,List.map_nil,List.cons_append,List.nil_append,List.getD_cons_zero,List.getD_cons_succ,Nat.add_zero,Nat.reduceAdd]) (by simp only [mv_any,mv_und,mv_int,mv_bool,mv_str,mv_nils,mv_sl,mv_ia,mv_nilp,mv_nilif,mv_nilfn,mv_nilmp,mv_gl,mv_sref,mv_ptr,mv_mp,mv_agg,mv_tup,mv_fn,mv_md,mvs_nil,mvs_cons,omv_dead,omv_arr,omv_arrf,omv_map,List.map_cons,List.map_nil,List.cons_append,List.nil_append,List.getD_cons_zero,List.getD_cons_succ,Nat.add_zero,Nat.reduceAdd]) rfl rfl rfl rfl fun r_ os_ hr_ hl_=>?_⟩;obtain ⟨rfl,rfl⟩:=hr_;clear hl_;simp only [killsL_nil,killsL_cons,killO_nil,killO_cons,putL_nil,putL_cons,List.set,kill_any,kill_und,kill_int,kill_bool,kill_str,kill_nils,kill_sl,kill_ia,kill_nilp,kill_nilif,kill_nilfn,kill_nilmp,kill_gl,kill_sref,kill_ptr,kill_agg,kill_tup,kill_fn,kill_ifc,kills_nil,kills_cons,kill_dead,kill_arr,kill_arrf,kill_mp,kill_it,kill_md,kill_map,kill_iter,Nat.reduceEqDiff,reduceCtorEq,if_false,if_true,mv_any,mv_und,mv_int,mv_bool,mv_str,mv_nils,mv_sl,mv_ia,mv_nilp,mv_nilif,mv_nilfn,mv_nilmp,mv_gl,mv_sref,mv_ptr,mv_mp,mv_agg,mv_tup,mv_fn,mv_md,mvs_nil,mvs_cons,omv_dead,omv_arr,omv_arrf,omv_map,List.map_cons,List.map_nil,List.cons_append,List.nil_append,List.getD_cons_zero,List.getD_cons_succ,Nat.add_zero,Nat.reduceAdd];(try (refine sSl ?_)))
  (refine hK _ ?_;clear hK K)
  ((refine W_seqV ?_);intro K hK;(refine sSlX (And.intro hX hvl) ?_))
  (refine ⟨by kernel_rfl,_,.pure rfl (h4),?_⟩;(try (refine sSl ?_));(repeat refine aI ?_))
  (refine hK _ ?_;clear hK K)
  ((refine W_seqV ?_);intro K hK;(refine sSl ?_))
  (refine hK _ ?_;clear hK K)
  refine W_ret ?_
  (simp only [thenW,blockW,lendQ,resW,resV];(try (refine sSl ?_));simp only [asOne_nil,asOne_one,asOne_two,asOne_three];exact lend_endC [] [0,1,2] rfl rfl (by decide) rfl (by simp only [backN,Nat.reduceLT,if_true,if_false,Nat.reduceSub,mv_any,mv_und,mv_int,mv_bool,mv_str,mv_nils,mv_sl,mv_ia,mv_nilp,mv_nilif,mv_nilfn,mv_nilmp,mv_gl,mv_sref,mv_ptr,mv_mp,mv_agg,mv_tup,mv_fn,mv_md,mvs_nil,mvs_cons,omv_dead,omv_arr,omv_arrf,omv_map,List.map_cons,List.map_nil,List.cons_append,List.nil_append,List.getD_cons_zero,List.getD_cons_succ,Nat.add_zero,Nat.reduceAdd]) (by simp only [backN,Nat.reduceLT,if_true,if_false,Nat.reduceSub,mv_any,mv_und,mv_int,mv_bool,mv_str,mv_nils,mv_sl,mv_ia,mv_nilp,mv_nilif,mv_nilfn,mv_nilmp,mv_gl,mv_sref,mv_ptr,mv_mp,mv_agg,mv_tup,mv_fn,mv_md,mvs_nil,mvs_cons,omv_dead,omv_arr,omv_arrf,omv_map,List.map_cons,List.map_nil,List.cons_append,List.nil_append,List.getD_cons_zero,List.getD_cons_succ,Nat.add_zero,Nat.reduceAdd]) (⟨rfl,rfl⟩))
def sgS (up:Bool):Int:=if up then -1 else 1
def sdA (up:Bool):AV := .agg [.bool up,.int .i64 (sgS up)]
def ownL (up:Bool) (l:LL):BB:=if up then l.upper else l.lower
theorem sides_ok:Pure Tryz.prog 91 [] (· = .agg [.bool false,.int .i64 1,.bool true,.int .i64 (-1)]):=by
 (refine pureW Tryz.func91 rfl (rs:=[Go.ResultVar.cell 0 169]) rfl (n:=4) rfl ?_;simp only [List.length_cons,List.length_nil,List.replicate,List.cons_append,List.nil_append])
 refine W_seq ?_
 ((refine W_regV ?_);intro K hK;(refine sNa ?_))
 (refine hK _ ?_;clear hK K)
 ((refine W_seqV ?_);intro K hK;(refine sNa ?_))
 (refine hK _ ?_;clear hK K)
 refine W_ret ?_
 (refine qG ?_;try exact True.intro);try (refine sNaV ?_;try exact True.intro)
 done
theorem sdof_ok (up:Bool) (l:LL):Pure Tryz.prog 55 [sdA up,.agg l.cells] (· = .agg (ownL up l).cells):=by
 obtain ⟨⟨c1,⟨⟨x1,x2,x3⟩,⟨x4,x5,x6⟩⟩,x7⟩,⟨d1,⟨⟨y1,y2,y3⟩,⟨y4,y5,y6⟩⟩,y7⟩⟩:=l
 cases up <;> simp only [sdA,sgS,ownL,LL.cells,BB.cells,if_true,if_false,Bool.false_eq_true]
 ·(refine pureW Tryz.func55 rfl (rs:=[Go.ResultVar.cell 4 103]) rfl (n:=11) rfl ?_;simp only [List.length_cons,List.length_nil,List.replicate,List.cons_append,List.nil_append])
  refine W_seq ?_
  ((refine W_regV ?_);intro K hK;(refine sNa ?_))
  (refine hK _ ?_;clear hK K)
  refine W_seq ?_
  ((refine W_seqV ?_);intro K hK;(refine sNa ?_))
  (refine hK _ ?_;clear hK K)
  refine W_cf rfl ?_
  refine W_skip ?_
  simp only [thenW]
  ((refine W_seqV ?_);intro K hK;(refine sNa ?_))
  (refine hK _ ?_;clear hK K)
  refine W_ret ?_
  (refine qG ?_;try exact True.intro);try (refine sNaV ?_;try exact True.intro)
  done
 ·(refine pureW Tryz.func55 rfl (rs:=[Go.ResultVar.cell 4 103]) rfl (n:=11) rfl ?_;simp only [List.length_cons,List.length_nil,List.replicate,List.cons_append,List.nil_append])
  refine W_seq ?_
  ((refine W_regV ?_);intro K hK;(refine sNa ?_))
  (refine hK _ ?_;clear hK K)
  refine W_seq ?_
  ((refine W_seqV ?_);intro K hK;(refine sNa ?_))
  (refine hK _ ?_;clear hK K)
  refine W_ct rfl ?_
  ((refine W_seqV ?_);intro K hK;(refine sNa ?_))
  (refine hK _ ?_;clear hK K)
  refine W_ret ?_
  (refine qG ?_;try exact True.intro);try (refine sNaV ?_;try exact True.intro)
  done
theorem dsg_range (x:Rat × Rat):dsg x = -1∨dsg x=0∨dsg x=1:=by
 have h:∀ y,rs y = -1∨rs y=0∨rs y=1:=fun y=>by
  unfold rs
  rcases Int.lt_trichotomy y.num 0 with h | h | h
  ·exact .inl (Int.sign_eq_neg_one_of_neg h)
  ·rw [h];exact .inr (.inl rfl)
  ·exact .inr (.inr (Int.sign_eq_one_of_pos h))
 unfold dsg lexI
 split
 ·exact h _
 ·exact h _
theorem sdbey_ok (up:Bool) (l:LL) (d:DD) (ho:(ownL up l).at_.ok) (hd:d.ok):Pure Tryz.prog 118 [sdA up,.agg l.cells,d.av] (· = .bool ((ownL up l).has&&decide (sgS up*dsg (dsub d.v (ownL up l).at_.v)<0))):=by
 have h1:=sdof_ok up l
 have h2:=dcmp_ok d (ownL up l).at_ hd ho
 have h3:=dsg_range (dsub d.v (ownL up l).at_.v)
 generalize dsg _=g at *
 have h4:IntKind.i64.wrap (sgS up*g)=sgS up*g:=wrap_i64 (by cases up <;> simp only [sgS,if_true,if_false,Bool.false_eq_true] <;> omega) (by cases up <;> simp only [sgS,if_true,if_false,Bool.false_eq_true] <;> omega)
 generalize hk:IntKind.i64.wrap (sgS up*g)=k at h4
 simp only [← h4]
 clear h4
 generalize ownL up l=b at *
 clear ho
 obtain ⟨⟨c1,⟨⟨x1,x2,x3⟩,⟨x4,x5,x6⟩⟩,x7⟩,⟨d1,⟨⟨y1,y2,y3⟩,⟨y4,y5,y6⟩⟩,y7⟩⟩:=l
 obtain ⟨e1,⟨⟨z1,z2,z3⟩,⟨z4,z5,z6⟩⟩,z7⟩:=b
 obtain ⟨⟨n',x',y'⟩,⟨m',z',w'⟩⟩:=d
 simp only [sdA,DD.av,DD.cells,LL.cells,BB.cells] at *
 generalize sgS up=s at *
 (refine pureW Tryz.func118 rfl (rs:=[Go.ResultVar.tmp 6]) rfl (n:=23) rfl ?_;simp only [List.length_cons,List.length_nil,List.replicate,List.cons_append,List.nil_append])
 refine W_seq ?_
 ((refine W_regV ?_);intro K hK;(refine sNa ?_))
 (refine hK _ ?_;clear hK K)
 refine W_seq ?_
 ((refine W_regV ?_);intro K hK;(refine sNa ?_))
 (refine ⟨by kernel_rfl,_,.pure rfl (h1),?_⟩;(try (refine sNa ?_)))
 (refine hK _ ?_;clear hK K)
 cases e1 with
 | false =>
  ((refine W_seqD mixed [] (by kernel_rfl) ?_);intro K hK;(refine sNa ?_))
  (refine hK _ ?_;clear hK K)
  refine W_ret ?_
  (refine qG ?_;try exact True.intro);try (refine sNaV ?_;try exact True.intro)
  rfl
 | true =>
  ((refine W_seqD mixed [] (by kernel_rfl) ?_);intro K hK;(refine sNaX hk ?_))
  (refine ⟨by kernel_rfl,_,.pure rfl (h2),?_⟩;(try (refine sNa ?_)))
  (refine sNaX hk ?_;try exact True.intro)
  (refine hK _ ?_;clear hK K)
  refine W_ret ?_
  (refine qG ?_;try exact True.intro);try (refine sNaV ?_;try exact True.intro)
theorem Le_nilcell {pins:List Nat} {e:List AV} {hp:List Ob} (i d c:Nat) (T':TypeId) (k':Nat) (pf':Bool) {T:TypeId} {k:Nat} {row:List AV} (hi:hp[i]?=some (.arr T k false [row])) (hd:hp[d]?=some .dead) (hc:row[c]?=some .nils) :
  Le pins ⟨e,hp⟩ ⟨e,(hp.set d (.arr T' k' pf' [])).set i (.arr T k false [row.set c (.sref d 0 0)])⟩:=by
 intro fr ρ a w hpins hr0
 have hr:=hr0.nilObj (d:=d) hd T' k' pf'
 have hdi:d≠i:=fun h=>by subst h;rw [hi] at hd;cases hd
 have hi':(hp.set d (.arr T' k' pf' []))[i]?=some (.arr T k false [row]):=by rw [List.getElem?_set_ne hdi];exact hi
 have hil:i<(hp.set d (.arr T' k' pf' [])).length:=(List.getElem?_eq_some_iff.1 hi').1
 refine ⟨_,{ hr with heap:=fun j=>?_ }⟩
 by_cases hj:j=i
 ·subst hj
  have h0:=hr.heap j
  rw [show (St.mk e (hp.set d (.arr T' k' pf' []))).hp.getD j .dead = .arr T k false [row] by simp only [List.getD_eq_getElem?_getD,hi',Option.getD_some]] at h0
  have hg:(St.mk e ((hp.set d (.arr T' k' pf' [])).set j (.arr T k false [row.set c (.sref d 0 0)]))).hp.getD j .dead = .arr T k false [row.set c (.sref d 0 0)]:=by
   simp only [List.getD_eq_getElem?_getD,List.getElem?_set_self hil,Option.getD_some]
  rw [hg]
  generalize (ρ.put d (some .nil)) j=q at h0 ⊢
  match q,h0 with
  | none,h0=>exact h0.elim
  | some .nil,h0=>cases h0
  | some (.mapb b),h0=>exact h0.elim
  | some (.blk b s cap len),h0 =>
   obtain ⟨h1,h2,vss,rest,h3,h4,h5,h6,h7,h8⟩:=h0
   refine ⟨h1,h2,vss,rest,h3,?_,?_,h6,h7,h8⟩
   ·obtain ⟨vs,hv,hrow⟩:=h4.get (i:=0) (x:=row) rfl
    obtain ⟨v,hv1,hv2⟩:=hrow.get hc
    simp only [Rp] at hv2
    subst hv2
    have hnew:Rp w (Av fr.F (ρ.put d (some .nil))) (ρ.put d (some .nil)) (.sref d 0 0) (.slice none 0 0):=by
     simp only [Rp];exact .inl ⟨Pl.put_same _ _ _,by simp,by simp,by simp⟩
    have h9:=hrow.set c hnew
    have e1:vs.set c (.slice none 0 0)=vs:=by
     obtain ⟨hlt,he⟩:=List.getElem?_eq_some_iff.1 hv1
     rw [← he,List.set_getElem_self]
    rw [e1] at h9
    have h10:=h4.set 0 h9
    have e2:vss.set 0 vs=vss:=by
     obtain ⟨hlt,he⟩:=List.getElem?_eq_some_iff.1 hv
     rw [← he,List.set_getElem_self]
    rw [e2] at h10
    exact h10
   ·intro x hx
    rw [List.mem_singleton.1 hx,List.length_set]
    exact h5 row List.mem_cons_self
 ·have h0:=hr.heap j
  have hg:(St.mk e ((hp.set d (.arr T' k' pf' [])).set i (.arr T k false [row.set c (.sref d 0 0)]))).hp.getD j .dead=(St.mk e (hp.set d (.arr T' k' pf' []))).hp.getD j .dead:=by
   simp only [List.getD_eq_getElem?_getD]
   rw [List.getElem?_set_ne (Ne.symm hj)]
  rw [hg]
  exact h0
theorem Lend.mono {P:Program} {g:FuncId} {args:List AV} {os:List Ob} {pn:List Nat} {E:Nat} {R R':AV→List Ob→Prop} (h:Lend P g args os pn E R) (hR:∀ r os',R r os'→R' r os'):Lend P g args os pn E R':=by
 obtain ⟨fn,c,h1,h2,h3,h4⟩:=h
 refine ⟨fn,c,h1,h2,h3,W.mono h4 fun e s hq=>?_⟩
 unfold lendQ at hq ⊢
 cases e <;> first | exact hq | exact resW_mono hq fun xs ⟨r,os',es,l1,l2,l3,l4,hx,hos,hr⟩=>⟨r,os',es,l1,l2,l3,l4,hx,hos,hR r os' hr⟩
theorem W.after {P:Program} {pins:List Nat} {c:Code} {Q:Exit→St→Prop} {s:St} (h:W P pins c (fun e s=>∃ s',Le pins s s'∧Q e s') s):W P pins c Q s:=by
 intro fr ρ a w hp hr
 refine Code.wp_mono (fun e a' w' he=>?_) (h fr ρ a w hp hr)
 obtain ⟨s1,ρ1,⟨s2,h1,h2⟩,h3⟩:=he
 obtain ⟨ρ2,h4⟩:=h1 fr ρ1 a' w' hp h3
 exact ⟨s2,ρ2,h2,h4⟩
theorem froz_arrf {i:Nat} {R:List (List AV)} {T:TypeId} {k:Nat} {rs:List (List AV)}:Ob.froz i R (.arr T k false rs) = .arr T k false (rs.map (AV.frozs i R)):=id rfl
def sxS (n:Nat) (M:TM) (piv:Int):Ob := .arr 111 6 false [[.ptr 1 0 0,.int .i64 n,.sl (tab rowU M),.sref 4 0 n,.mp 5,.int .i64 piv]]
def sxB (lev:Int) (m n:Nat):Ob := .arr 186 4 false [[.int .i64 lev,.sref 2 0 m,.bool true,.sref 3 0 n]]
def sxV (xs:List (Rat × Rat)):Ob := .arr 41 6 true (tab cellsX xs)
theorem bsnew_ok:Lend Tryz.prog 45 [.int .i64 0] [] [] 3 fun r os=>r = .tup [.ptr 0 0 0,.int .i64 0]∧os=[obB 0 0 0,obC [],obL []]:=by
 unfold obB obC obL
 (refine lend_of_W Tryz.func45 rfl (rs:=[Go.ResultVar.tmp 2,Go.ResultVar.tmp 3]) rfl (nt:=14) rfl (Nat.le_of_ble_eq_true rfl) ?_;simp only [idxL_nil,idxL_cons,List.length_cons,List.length_nil,List.replicate,mv_any,mv_und,mv_int,mv_bool,mv_str,mv_nils,mv_sl,mv_ia,mv_nilp,mv_nilif,mv_nilfn,mv_nilmp,mv_gl,mv_sref,mv_ptr,mv_mp,mv_agg,mv_tup,mv_fn,mv_md,mvs_nil,mvs_cons,omv_dead,omv_arr,omv_arrf,omv_map,List.map_cons,List.map_nil,List.cons_append,List.nil_append,List.getD_cons_zero,List.getD_cons_succ,Nat.add_zero,Nat.reduceAdd])
 refine W_seq ?_
 ((refine W_regV ?_);intro K hK;(refine sNa ?_))
 (refine hK _ ?_;clear hK K)
 refine W_seq ?_
 ((refine W_seqV ?_);intro K hK;(refine sNa ?_))
 (refine hK _ ?_;clear hK K)
 refine W_cf rfl ?_
 refine W_skip ?_
 simp only [thenW]
 ((refine W_seqR ?_);intro K hK;(refine sNa ?_))
 (repeat refine aI ?_);refine hK _ ?_;clear hK K
 refine W.le ?_ (Le_nilcell 13 12 1 197 11 true rfl rfl rfl)
 simp only [List.set,List.replicate]
 refine W_ret ?_
 (simp only [thenW,blockW,lendQ,resW,resV,asOne_nil,asOne_one,asOne_two,asOne_three,List.getD_cons_zero,List.getD_cons_succ];exact lend_end [13,12,11] [0,1,2] rfl rfl (by decide) rfl (by simp only [backN,Nat.reduceLT,if_true,if_false,Nat.reduceSub,mv_any,mv_und,mv_int,mv_bool,mv_str,mv_nils,mv_sl,mv_ia,mv_nilp,mv_nilif,mv_nilfn,mv_nilmp,mv_gl,mv_sref,mv_ptr,mv_mp,mv_agg,mv_tup,mv_fn,mv_md,mvs_nil,mvs_cons,omv_dead,omv_arr,omv_arrf,omv_map,List.map_cons,List.map_nil,List.cons_append,List.nil_append,List.getD_cons_zero,List.getD_cons_succ,Nat.add_zero,Nat.reduceAdd]) (by simp only [backN,Nat.reduceLT,if_true,if_false,Nat.reduceSub,mv_any,mv_und,mv_int,mv_bool,mv_str,mv_nils,mv_sl,mv_ia,mv_nilp,mv_nilif,mv_nilfn,mv_nilmp,mv_gl,mv_sref,mv_ptr,mv_mp,mv_agg,mv_tup,mv_fn,mv_md,mvs_nil,mvs_cons,omv_dead,omv_arr,omv_arrf,omv_map,List.map_cons,List.map_nil,List.cons_append,List.nil_append,List.getD_cons_zero,List.getD_cons_succ,Nat.add_zero,Nat.reduceAdd]) (⟨rfl,rfl⟩))
theorem snew_ok:Lend Tryz.prog 11 [] [] [] 6 fun r os=>r = .ptr 0 0 0∧os=[sxS 0 [] 0,sxB 0 0 0,obC [],obL [],sxV [],.map 0 [] []]:=by
 have h1:=bsnew_ok
 have h2:=tnew_ok 0
 have h3:newR 0 = .tup [.agg [.int .i64 0,.sl []],.int .i64 0]:=rfl
 rw [h3] at h2
 unfold obB obC obL at h1
 unfold sxS sxB sxV obC obL
 simp only [show tab rowU ([]:TM)=[] from rfl,show tab cellsX []=[] from rfl,Int.natCast_zero]
 (refine lend_of_W Tryz.func11 rfl (rs:=[Go.ResultVar.tmp 0]) rfl (nt:=18) rfl (Nat.le_of_ble_eq_true rfl) ?_;simp only [idxL_nil,idxL_cons,List.length_cons,List.length_nil,List.replicate,mv_any,mv_und,mv_int,mv_bool,mv_str,mv_nils,mv_sl,mv_ia,mv_nilp,mv_nilif,mv_nilfn,mv_nilmp,mv_gl,mv_sref,mv_ptr,mv_mp,mv_agg,mv_tup,mv_fn,mv_md,mvs_nil,mvs_cons,omv_dead,omv_arr,omv_arrf,omv_map,List.map_cons,List.map_nil,List.cons_append,List.nil_append,List.getD_cons_zero,List.getD_cons_succ,Nat.add_zero,Nat.reduceAdd])
 refine W_seq ?_
 ((refine W_regV ?_);intro K hK;(refine sNa ?_))
 (refine hK _ ?_;clear hK K)
 ((refine W_seqR ?_);intro K hK;(refine sNa ?_))
 (refine ⟨by kernel_rfl,call_lendB (h1) [] [5,6,7] [] rfl (by decide) rfl rfl (by simp only [mv_any,mv_und,mv_int,mv_bool,mv_str,mv_nils,mv_sl,mv_ia,mv_nilp,mv_nilif,mv_nilfn,mv_nilmp,mv_gl,mv_sref,mv_ptr,mv_mp,mv_agg,mv_tup,mv_fn,mv_md,mvs_nil,mvs_cons,omv_dead,omv_arr,omv_arrf,omv_map,List.map_cons,List.map_nil,List.cons_append,List.nil_append,List.getD_cons_zero,List.getD_cons_succ,Nat.add_zero,Nat.reduceAdd]) (by simp only [mv_any,mv_und,mv_int,mv_bool,mv_str,mv_nils,mv_sl,mv_ia,mv_nilp,mv_nilif,mv_nilfn,mv_nilmp,mv_gl,mv_sref,mv_ptr,mv_mp,mv_agg,mv_tup,mv_fn,mv_md,mvs_nil,mvs_cons,omv_dead,omv_arr,omv_arrf,omv_map,List.map_cons,List.map_nil,List.cons_append,List.nil_append,List.getD_cons_zero,List.getD_cons_succ,Nat.add_zero,Nat.reduceAdd]) rfl rfl rfl rfl fun r_ os_ hr_ hl_=>?_⟩;obtain ⟨rfl,rfl⟩:=hr_;clear hl_;simp only [killsL_nil,killsL_cons,killO_nil,killO_cons,putL_nil,putL_cons,List.set,kill_any,kill_und,kill_int,kill_bool,kill_str,kill_nils,kill_sl,kill_ia,kill_nilp,kill_nilif,kill_nilfn,kill_nilmp,kill_gl,kill_sref,kill_ptr,kill_agg,kill_tup,kill_fn,kill_ifc,kills_nil,kills_cons,kill_dead,kill_arr,kill_arrf,kill_mp,kill_it,kill_md,kill_map,kill_iter,Nat.reduceEqDiff,reduceCtorEq,if_false,if_true,mv_any,mv_und,mv_int,mv_bool,mv_str,mv_nils,mv_sl,mv_ia,mv_nilp,mv_nilif,mv_nilfn,mv_nilmp,mv_gl,mv_sref,mv_ptr,mv_mp,mv_agg,mv_tup,mv_fn,mv_md,mvs_nil,mvs_cons,omv_dead,omv_arr,omv_arrf,omv_map,List.map_cons,List.map_nil,List.cons_append,List.nil_append,List.getD_cons_zero,List.getD_cons_succ,Nat.add_zero,Nat.reduceAdd];(try (refine sNa ?_)))
 (refine hK _ ?_;clear hK K)
 ((refine W_seqV ?_);intro K hK;(refine sNa ?_))
 (refine ⟨by kernel_rfl,_,.pure rfl (h2),?_⟩;(try (refine sNa ?_)))
 (refine hK _ ?_;clear hK K)
 ((refine W_seqR ?_);intro K hK;(refine sNa ?_))
 (refine hK _ ?_;clear hK K)
 refine W.le ?_ (Le_nilcell 17 14 3 41 6 true rfl rfl rfl)
 simp only [List.set]
 refine W_ret ?_
 (simp only [thenW,blockW,lendQ,resW,resV,asOne_nil,asOne_one,asOne_two,asOne_three,List.getD_cons_zero,List.getD_cons_succ];exact lend_end [17,5,6,7,14,15] [0,1,2,3,4,5] rfl rfl (by decide) rfl (by simp only [backN,Nat.reduceLT,if_true,if_false,Nat.reduceSub,mv_any,mv_und,mv_int,mv_bool,mv_str,mv_nils,mv_sl,mv_ia,mv_nilp,mv_nilif,mv_nilfn,mv_nilmp,mv_gl,mv_sref,mv_ptr,mv_mp,mv_agg,mv_tup,mv_fn,mv_md,mvs_nil,mvs_cons,omv_dead,omv_arr,omv_arrf,omv_map,List.map_cons,List.map_nil,List.cons_append,List.nil_append,List.getD_cons_zero,List.getD_cons_succ,Nat.add_zero,Nat.reduceAdd]) (by simp only [backN,Nat.reduceLT,if_true,if_false,Nat.reduceSub,mv_any,mv_und,mv_int,mv_bool,mv_str,mv_nils,mv_sl,mv_ia,mv_nilp,mv_nilif,mv_nilfn,mv_nilmp,mv_gl,mv_sref,mv_ptr,mv_mp,mv_agg,mv_tup,mv_fn,mv_md,mvs_nil,mvs_cons,omv_dead,omv_arr,omv_arrf,omv_map,List.map_cons,List.map_nil,List.cons_append,List.nil_append,List.getD_cons_zero,List.getD_cons_succ,Nat.add_zero,Nat.reduceAdd]) (⟨rfl,rfl⟩))
theorem svar_ok (lev:Int) (m n:Nat) (M:TM) (piv:Int) (cr lr:List (List AV)) (xs:List (Rat × Rat)) (ck:Nat) (bs:List Nat) (dr:List (List AV)) (hT:TG (rfT M)) (hN:nrmT (rfT M)=M) (hg:goodB n M=true) (hn:n<65536) (hl:n≤lr.length) (hd:lr.map AV.datas=lr) (hx:xs.length=n) :
  Lend Tryz.prog 40 [.ptr 0 0 0] [sxS n M piv,sxB lev m n,obC cr,obL lr,sxV xs,.map ck bs dr] [0,1,5] 0 fun r os=>r = .tup [.int .i64 n,.int .i64 0]∧os=[sxS (n+1) (sortM M) piv,sxB lev m (n+1),obC cr,obL (lr.take n++[zL]),sxV (xs++[(0,0)]),.map ck bs dr]:=by
 have h1:=tgrow_ok n (rfT M) hT
 rw [cU_rf] at h1
 unfold growV at h1
 rw [hN,if_pos hg,if_neg (by omega)] at h1
 have h2:=bsgrow_ok lev m n cr lr hn hl hd
 have h3:=rwhole_ok 0 (by omega) (by omega)
 have h4:=dof_ok (qr 0) (qr_ok (by decide))
 rw [qr_v,show (qr 0).av=cQ ((0:Int):Rat) from rfl] at h4
 unfold cU at h1
 unfold obB obC obL zL at h2
 unfold sxS sxB sxV obC obL zL
 have hc:((n+1:Nat):Int)=n+1:=by omega
 have h5:tab cellsX (xs++[(0,0)])=(tab cellsX xs).take n++[(dq (0,0)).cells]:=by
  rw [List.take_of_length_le (by rw [tab_length];omega)]
  simp only [tab,List.map_append]
  rfl
 simp only [h5,hc]
 rw [← dq_av] at h4
 generalize dq ((0:Rat),(0:Rat))=r at *
 obtain ⟨⟨r1,r2,r3⟩,⟨r4,r5,r6⟩⟩:=r
 simp only [DD.av,DD.cells] at *
 (refine lend_of_W Tryz.func40 rfl (rs:=[Go.ResultVar.tmp 2,Go.ResultVar.tmp 3]) rfl (nt:=40) rfl (Nat.le_of_ble_eq_true rfl) ?_;simp only [idxL_nil,idxL_cons,List.length_cons,List.length_nil,List.replicate,mv_any,mv_und,mv_int,mv_bool,mv_str,mv_nils,mv_sl,mv_ia,mv_nilp,mv_nilif,mv_nilfn,mv_nilmp,mv_gl,mv_sref,mv_ptr,mv_mp,mv_agg,mv_tup,mv_fn,mv_md,mvs_nil,mvs_cons,omv_dead,omv_arr,omv_arrf,omv_map,List.map_cons,List.map_nil,List.cons_append,List.nil_append,List.getD_cons_zero,List.getD_cons_succ,Nat.add_zero,Nat.reduceAdd])
 refine W_seq ?_
 ((refine W_regV ?_);intro K hK;(refine sNa ?_))
 (refine hK _ ?_;clear hK K)
 ((refine W_seqV ?_);intro K hK;(refine sNa ?_))
 (refine ⟨by kernel_rfl,_,.pure rfl (h1),?_⟩;(try (refine sNa ?_)))
 (refine hK _ ?_;clear hK K)
 ((refine W_seq (W_seqV ?_));intro K hK;(refine sNa ?_))
 (refine hK _ ?_;clear hK K)
 refine W_cf rfl ?_
 refine W_skip ?_
 simp only [thenW]
 ((refine W_seqV ?_);intro K hK;(refine sNa ?_))
 (refine hK _ ?_;clear hK K)
 ((refine W_seqR ?_);intro K hK;(refine sNa ?_))
 (refine ⟨by kernel_rfl,call_lendB (h2) [41,42,43] [] [43] rfl (by decide) rfl rfl (by simp only [mv_any,mv_und,mv_int,mv_bool,mv_str,mv_nils,mv_sl,mv_ia,mv_nilp,mv_nilif,mv_nilfn,mv_nilmp,mv_gl,mv_sref,mv_ptr,mv_mp,mv_agg,mv_tup,mv_fn,mv_md,mvs_nil,mvs_cons,omv_dead,omv_arr,omv_arrf,omv_map,List.map_cons,List.map_nil,List.cons_append,List.nil_append,List.getD_cons_zero,List.getD_cons_succ,Nat.add_zero,Nat.reduceAdd]) (by simp only [mv_any,mv_und,mv_int,mv_bool,mv_str,mv_nils,mv_sl,mv_ia,mv_nilp,mv_nilif,mv_nilfn,mv_nilmp,mv_gl,mv_sref,mv_ptr,mv_mp,mv_agg,mv_tup,mv_fn,mv_md,mvs_nil,mvs_cons,omv_dead,omv_arr,omv_arrf,omv_map,List.map_cons,List.map_nil,List.cons_append,List.nil_append,List.getD_cons_zero,List.getD_cons_succ,Nat.add_zero,Nat.reduceAdd]) rfl rfl rfl rfl fun r_ os_ hr_ hl_=>?_⟩;obtain ⟨rfl,rfl⟩:=hr_;clear hl_;simp only [killsL_nil,killsL_cons,killO_nil,killO_cons,putL_nil,putL_cons,List.set,kill_any,kill_und,kill_int,kill_bool,kill_str,kill_nils,kill_sl,kill_ia,kill_nilp,kill_nilif,kill_nilfn,kill_nilmp,kill_gl,kill_sref,kill_ptr,kill_agg,kill_tup,kill_fn,kill_ifc,kills_nil,kills_cons,kill_dead,kill_arr,kill_arrf,kill_mp,kill_it,kill_md,kill_map,kill_iter,Nat.reduceEqDiff,reduceCtorEq,if_false,if_true,mv_any,mv_und,mv_int,mv_bool,mv_str,mv_nils,mv_sl,mv_ia,mv_nilp,mv_nilif,mv_nilfn,mv_nilmp,mv_gl,mv_sref,mv_ptr,mv_mp,mv_agg,mv_tup,mv_fn,mv_md,mvs_nil,mvs_cons,omv_dead,omv_arr,omv_arrf,omv_map,List.map_cons,List.map_nil,List.cons_append,List.nil_append,List.getD_cons_zero,List.getD_cons_succ,Nat.add_zero,Nat.reduceAdd];(try (refine sNa ?_)))
 (refine hK _ ?_;clear hK K)
 ((refine W_seqS mixed 8 [] (by kernel_rfl) ?_);intro K hK;(refine sNa ?_))
 (refine ⟨by kernel_rfl,_,.pure rfl (h3),?_⟩;(try (refine sNa ?_)))
 (refine ⟨by kernel_rfl,_,.pure rfl (h4),?_⟩;(try (refine sNa ?_));(repeat refine aI ?_))
 refine ⟨by decide,by rw [tab_length];omega,by omega,by omega,?_⟩
 simp (disch:=omega) only [Nat.reduceEqDiff,sA,sB,St.ret,List.set,sT,Nat.reduceAdd,Nat.reduceLT,reduceCtorEq,storable,AV.one,cellsOf,Nat.reduceLeDiff,overlay,St.seth]
 (refine hK _ ?_;clear hK K)
 ((refine W_seqV ?_);intro K hK;(refine sNa ?_))
 (refine hK _ ?_;clear hK K)
 refine W_ret ?_
 (simp only [thenW,blockW,lendQ,resW,resV,asOne_nil,asOne_one,asOne_two,asOne_three,List.getD_cons_zero,List.getD_cons_succ];exact lend_end [] [0,1,2,3,4,5] rfl rfl (by decide) rfl (by simp only [backN,Nat.reduceLT,if_true,if_false,Nat.reduceSub,mv_any,mv_und,mv_int,mv_bool,mv_str,mv_nils,mv_sl,mv_ia,mv_nilp,mv_nilif,mv_nilfn,mv_nilmp,mv_gl,mv_sref,mv_ptr,mv_mp,mv_agg,mv_tup,mv_fn,mv_md,mvs_nil,mvs_cons,omv_dead,omv_arr,omv_arrf,omv_map,List.map_cons,List.map_nil,List.cons_append,List.nil_append,List.getD_cons_zero,List.getD_cons_succ,Nat.add_zero,Nat.reduceAdd]) (by simp only [backN,Nat.reduceLT,if_true,if_false,Nat.reduceSub,mv_any,mv_und,mv_int,mv_bool,mv_str,mv_nils,mv_sl,mv_ia,mv_nilp,mv_nilif,mv_nilfn,mv_nilmp,mv_gl,mv_sref,mv_ptr,mv_mp,mv_agg,mv_tup,mv_fn,mv_md,mvs_nil,mvs_cons,omv_dead,omv_arr,omv_arrf,omv_map,List.map_cons,List.map_nil,List.cons_append,List.nil_append,List.getD_cons_zero,List.getD_cons_succ,Nat.add_zero,Nat.reduceAdd]) (⟨rfl,rfl⟩))
theorem sSp {G G':Prop} (h:G') (e:G=G':=by conv=>lhs;simp (disch:=omega) only [rowsOf,cNat,cN,St.ret,St.seth,Eff.app,Eff.wi,sepL,guardOf,St.known,objOf,List.set,sliceW,litW,copyW,lenOf,bnd,mxOk,ofCells,TI.isAgg,cellsOf,storable,AV.one,dead,laid,overlay,reduceCtorEq,Int.reduceLE,Int.reduceLT,Int.reduceSub,Int.reduceAdd,Nat.reduceMul,Int.reduceToNat,Nat.reducePow,Int.reduceNeg,Nat.reduceAdd,Nat.reduceLT,Nat.reduceLeDiff,sA,sB,tab_length,cellsX_all,cellsX_one,cellsX_pure,rowU_all,rowU_one,rowU_pure,sT]):G:=e.mpr h
theorem sSpX {G G' P:Prop} (p:P) (h:G') (e:P→G=G':=by intro p;conv=>lhs;simp (disch:=omega) only [rowsOf,cNat,cN,St.ret,St.seth,Eff.app,Eff.wi,sepL,guardOf,St.known,objOf,List.set,sliceW,litW,copyW,lenOf,bnd,mxOk,ofCells,TI.isAgg,cellsOf,storable,AV.one,dead,laid,overlay,reduceCtorEq,Int.reduceLE,Int.reduceLT,Int.reduceSub,Int.reduceAdd,Nat.reduceMul,Int.reduceToNat,Nat.reducePow,Int.reduceNeg,Nat.reduceAdd,Nat.reduceLT,Nat.reduceLeDiff,sA,sB,tab_length,cellsX_all,cellsX_one,cellsX_pure,rowU_all,rowU_one,rowU_pure,sT,p]):G:=(e p).mpr h
theorem srenew_ok (lev:Int) (m n:Nat) (M:TM) (piv:Int) (cr lr:List (List AV)) (xs:List (Rat × Rat)) (ck:Nat) (bs:List Nat) (dr:List (List AV)) (hT:TG (rfT M)) (hN:nrmT (rfT M)=M) (hg:goodB n M=true) (hn:n≤65536) (hx:xs.length=n) (hev:EvOk M (xs.map dq)) :
  Lend Tryz.prog 125 [.ptr 0 0 0] [sxS n M piv,sxB lev m n,obC cr,obL lr,sxV xs,.map ck bs dr] [0,1,5] 0 fun r os=>r = .tup []∧os=[sxS n M piv,sxB lev m n,obC cr,obL lr,sxV (extL M (xs.map dq)),.map ck bs dr]:=by
 have hl:(xs.map dq).length=n:=by simpa using hx
 have h1:=text_new (rfT M) (xs.map dq) hT (by rw [hN];exact hev) (by omega) (by rw [hN,hl];exact hg)
 rw [hl,cU_rf,hN,show tab rowD (xs.map dq)=tab cellsX xs by simp [tab,rowD,cellsX,Function.comp_def]] at h1
 have hk:(tab cellsX xs).take n=tab cellsX xs:=List.take_of_length_le (by rw [tab_length];omega)
 have hel:(tab cellsX (extL M (xs.map dq))).length=n:=by rw [tab_length,extL_len,hl]
 generalize extL M (xs.map dq)=ys at *
 unfold cU at h1
 unfold sxS sxB sxV obC obL
 (refine lend_of_W Tryz.func125 rfl (rs:=[]) rfl (nt:=17) rfl (Nat.le_of_ble_eq_true rfl) ?_;simp only [idxL_nil,idxL_cons,List.length_cons,List.length_nil,List.replicate,mv_any,mv_und,mv_int,mv_bool,mv_str,mv_nils,mv_sl,mv_ia,mv_nilp,mv_nilif,mv_nilfn,mv_nilmp,mv_gl,mv_sref,mv_ptr,mv_mp,mv_agg,mv_tup,mv_fn,mv_md,mvs_nil,mvs_cons,omv_dead,omv_arr,omv_arrf,omv_map,List.map_cons,List.map_nil,List.cons_append,List.nil_append,List.getD_cons_zero,List.getD_cons_succ,Nat.add_zero,Nat.reduceAdd])
 refine W.after ?_
 (refine W.le ?_ (Le_freeze 21 (rows:=tab cellsX xs) rfl (by simp) (.inl rfl));simp only [St.freeze,List.map_cons,List.map_nil,List.set,if_true,if_false,Nat.reduceEqDiff,reduceCtorEq,List.drop_zero,froz_arrf,froz_any,froz_und,froz_int,froz_bool,froz_str,froz_nils,froz_sl,froz_ia,froz_nilp,froz_nilif,froz_nilfn,froz_nilmp,froz_gl,froz_sref,froz_ptr,froz_agg,froz_tup,froz_fn,froz_ifc,frozs_nil,frozs_cons,froz_dead,froz_arr,froz_mp,froz_it,froz_md,froz_map,froz_iter,hk])
 ((refine W_regS mixed 9 [] (by kernel_rfl) ?_);intro K hK;(refine sSp ?_))
 refine ⟨by kernel_rfl,call_newT 12 rfl rfl h1 fun rows hr=>?_⟩
 subst hr
 rw [hel]
 (refine sSp ?_;try exact True.intro)
 (refine hK _ ?_;clear hK K)
 (refine ⟨_,Le_swap 12 21 (by decide) (by decide) (Nat.le_of_ble_eq_true rfl) (Nat.le_of_ble_eq_true rfl),?_⟩;simp only [swapO,swN,List.getD_cons_zero,List.getD_cons_succ,List.set,Nat.reduceEqDiff,if_true,if_false,mv_any,mv_und,mv_int,mv_bool,mv_str,mv_nils,mv_sl,mv_ia,mv_nilp,mv_nilif,mv_nilfn,mv_nilmp,mv_gl,mv_sref,mv_ptr,mv_mp,mv_agg,mv_tup,mv_fn,mv_md,mvs_nil,mvs_cons,omv_dead,omv_arr,omv_arrf,omv_map,List.map_cons,List.map_nil,List.cons_append,List.nil_append,List.getD_cons_zero,List.getD_cons_succ,Nat.add_zero,Nat.reduceAdd])
 (simp only [thenW,blockW,lendQ,resW,resV,asOne_nil,asOne_one,asOne_two,asOne_three,List.getD_cons_zero,List.getD_cons_succ];exact lend_end [] [0,1,2,3,4,5] rfl rfl (by decide) rfl (by simp only [backN,Nat.reduceLT,if_true,if_false,Nat.reduceSub,mv_any,mv_und,mv_int,mv_bool,mv_str,mv_nils,mv_sl,mv_ia,mv_nilp,mv_nilif,mv_nilfn,mv_nilmp,mv_gl,mv_sref,mv_ptr,mv_mp,mv_agg,mv_tup,mv_fn,mv_md,mvs_nil,mvs_cons,omv_dead,omv_arr,omv_arrf,omv_map,List.map_cons,List.map_nil,List.cons_append,List.nil_append,List.getD_cons_zero,List.getD_cons_succ,Nat.add_zero,Nat.reduceAdd]) (by simp only [backN,Nat.reduceLT,if_true,if_false,Nat.reduceSub,mv_any,mv_und,mv_int,mv_bool,mv_str,mv_nils,mv_sl,mv_ia,mv_nilp,mv_nilif,mv_nilfn,mv_nilmp,mv_gl,mv_sref,mv_ptr,mv_mp,mv_agg,mv_tup,mv_fn,mv_md,mvs_nil,mvs_cons,omv_dead,omv_arr,omv_arrf,omv_map,List.map_cons,List.map_nil,List.cons_append,List.nil_append,List.getD_cons_zero,List.getD_cons_succ,Nat.add_zero,Nat.reduceAdd]) (⟨rfl,rfl⟩))
theorem lookM_at:∀ {M:TM} {i:Nat} {v:Int},i<M.length→(∀ j,j<i→(M.getD j default).1≠v)→(M.getD i default).1=v→lookM M v=some (M.getD i default).2
 | [],i,v,h,_,_=>by simp at h
 | r::M,0,v,_,_,hb=>by
  unfold lookM
  rw [List.find?_cons_of_pos (by simpa using hb)]
  rfl
 | r::M,i+1,v,hi,h0,hb=>by
  have h1:(r.1 == v)=false:=by simpa using h0 0 (by omega)
  have h2:=lookM_at (M:=M) (i:=i) (v:=v) (by simpa using hi) (fun j hj=>h0 (j+1) (by omega)) hb
  unfold lookM at h2 ⊢
  rw [List.find?_cons,h1]
  exact h2
theorem lookM_no:∀ {M:TM} {v:Int},(∀ j,j<M.length→(M.getD j default).1≠v)→lookM M v=none
 | [],v,_=>rfl
 | r::M,v,h0=>by
  have h1:(r.1 == v)=false:=by simpa using h0 0 (by simp)
  have h2:=lookM_no (M:=M) (v:=v) fun j hj=>h0 (j+1) (by simpa using hj)
  unfold lookM at h2 ⊢
  rw [List.find?_cons,h1]
  exact h2
theorem srow_ok (lev:Int) (m n:Nat) (M:TM) (piv:Int) (cr lr:List (List AV)) (xs:List (Rat × Rat)) (ck:Nat) (bs:List Nat) (dr:List (List AV)) (v:Int) (hM:M.length<4294967296) :
  Look Tryz.prog 166 [.ptr 0 0 0,.int .i64 v] [sxS n M piv,sxB lev m n,obC cr,obL lr,sxV xs,.map ck bs dr] (match lookM M v with | some f => .tup [.sl (tab rowQ f),.bool true] | none => .tup [.nils,.bool false]):=by
 unfold sxS sxB sxV obC obL
 unfold Look
 (refine lend_of_W Tryz.func166 rfl (rs:=[Go.ResultVar.tmp 4,Go.ResultVar.tmp 5]) rfl (nt:=25) rfl (Nat.le_of_ble_eq_true rfl) ?_;simp only [idxL_nil,idxL_cons,List.length_cons,List.length_nil,List.replicate,mv_any,mv_und,mv_int,mv_bool,mv_str,mv_nils,mv_sl,mv_ia,mv_nilp,mv_nilif,mv_nilfn,mv_nilmp,mv_gl,mv_sref,mv_ptr,mv_mp,mv_agg,mv_tup,mv_fn,mv_md,mvs_nil,mvs_cons,omv_dead,omv_arr,omv_arrf,omv_map,List.map_cons,List.map_nil,List.cons_append,List.nil_append,List.getD_cons_zero,List.getD_cons_succ,Nat.add_zero,Nat.reduceAdd])
 refine W_seq ?_
 ((refine W_regV ?_);intro K hK;(refine sSp ?_))
 (refine hK _ ?_;clear hK K)
 ((refine W_seq (W_seqV ?_));intro K hK;(refine sSp ?_))
 (refine hK _ ?_;clear hK K)
 refine W_block (W_loop (fun t:{i:Nat // i≤M.length∧∀ j,j<i→(M.getD j default).1≠v}=>⟨[.ptr 25 0 0,.int .i64 v,.any,.any,.nils,.bool false,.any,.any,.any,.any,.any,.any,.sl (tab rowU M),.int .i64 M.length,.int .i64 t.1,.any,.any,.any,.any,.any,.any,.any,.any,.any,.any],[.dead,.dead,.dead,.dead,.dead,.dead,.dead,.dead,.dead,.dead,.dead,.dead,.dead,.dead,.dead,.dead,.dead,.dead,.dead,.dead,.dead,.dead,.dead,.dead,.dead,.arr 111 6 false [[.ptr 26 0 0,.int .i64 n,.sl (tab rowU M),.sref 29 0 n,.mp 30,.int .i64 piv]],.arr 186 4 false [[.int .i64 lev,.sref 27 0 m,.bool true,.sref 28 0 n]],.arr 197 11 true cr,.arr 105 16 true lr,.arr 41 6 true (tab cellsX xs),.map ck bs dr]⟩) (fun t=>M.length-t.1) ⟨0,Nat.zero_le _,fun j hj=>by omega⟩ (Le_of (by simp [leE]) (by simp)) fun t=>?_)
 obtain ⟨i,hi,hK0⟩:=t
 refine W_seq ?_
 by_cases hc:i<M.length
 ·have hci:(i:Int)<M.length:=by omega
  have hi1:((i+1:Nat):Int)=i+1:=by omega
  have hiw:IntKind.i64.wrap ((i:Int)+1)=(i+1:Nat):=by rw [wrap_i64 (by omega) (by omega)];omega
  ((refine W_regV ?_);intro K hK;(refine sSpX hci ?_))
  (refine hK _ ?_;clear hK K)
  refine W_seq (W_ct rfl ?_)
  refine W_skip ?_
  simp only [thenW]
  refine W_seq (W_block ?_)
  have hX:(tab rowU M).getD i []=rowU (M.getD i default):=tab_getD hc
  by_cases hb:(M.getD i default).1=v
  ·have hl:=lookM_at hc hK0 hb
   rw [hl]
   generalize M.getD i default=p at *
   obtain ⟨b,f⟩:=p
   simp only at hb
   subst hb
   simp only [rowU] at hX
   ((refine W_seqV ?_);intro K hK;(refine sSpX (And.intro hX hci) ?_))
   (refine hK _ ?_;clear hK K)
   ((refine W_seqV ?_);intro K hK;(refine sSp ?_))
   (refine hK _ ?_;clear hK K)
   refine W_cond rfl (fun _=>?_) (fun h=>by simp at h)
   ((refine W_seqV ?_);intro K hK;(refine sSp ?_))
   (refine hK _ ?_;clear hK K)
   refine W_ret ?_
   (simp only [thenW,blockW,lendQ,resW,resV,asOne_nil,asOne_one,asOne_two,asOne_three,List.getD_cons_zero,List.getD_cons_succ];exact lend_end [] [0,1,2,3,4,5] rfl rfl (by decide) rfl (by simp only [backN,Nat.reduceLT,if_true,if_false,Nat.reduceSub,mv_any,mv_und,mv_int,mv_bool,mv_str,mv_nils,mv_sl,mv_ia,mv_nilp,mv_nilif,mv_nilfn,mv_nilmp,mv_gl,mv_sref,mv_ptr,mv_mp,mv_agg,mv_tup,mv_fn,mv_md,mvs_nil,mvs_cons,omv_dead,omv_arr,omv_arrf,omv_map,List.map_cons,List.map_nil,List.cons_append,List.nil_append,List.getD_cons_zero,List.getD_cons_succ,Nat.add_zero,Nat.reduceAdd]) (by simp only [backN,Nat.reduceLT,if_true,if_false,Nat.reduceSub,mv_any,mv_und,mv_int,mv_bool,mv_str,mv_nils,mv_sl,mv_ia,mv_nilp,mv_nilif,mv_nilfn,mv_nilmp,mv_gl,mv_sref,mv_ptr,mv_mp,mv_agg,mv_tup,mv_fn,mv_md,mvs_nil,mvs_cons,omv_dead,omv_arr,omv_arrf,omv_map,List.map_cons,List.map_nil,List.cons_append,List.nil_append,List.getD_cons_zero,List.getD_cons_succ,Nat.add_zero,Nat.reduceAdd]) (⟨rfl,rfl⟩))
  ·have hK1:∀ j,j<i+1→(M.getD j default).1≠v:=fun j hj=>by
    by_cases hji:j=i
    ·rw [hji];exact hb
    ·exact hK0 j (by omega)
   have hbe:((M.getD i default).1 == v)=false:=by simpa using hb
   generalize M.getD i default=p at hX hbe
   obtain ⟨b,f⟩:=p
   simp only at hbe
   simp only [rowU] at hX
   ((refine W_seqV ?_);intro K hK;(refine sSpX (And.intro hX hci) ?_))
   (refine hK _ ?_;clear hK K)
   ((refine W_seqV ?_);intro K hK;(refine sSpX hbe ?_))
   (refine hK _ ?_;clear hK K)
   refine W_cond rfl (fun h=>by simp at h) (fun _=>?_)
   refine W_skip ?_
   simp only [thenW,blockW]
   ((refine W_regV ?_);intro K hK;(refine sSpX hiw ?_))
   (refine hK _ ?_;clear hK K)
   simp only [thenW]
   refine ⟨⟨i+1,by omega,hK1⟩,Le_drop (by simp [leE]) (by simp [leH]) rfl rfl,?_⟩
   show M.length-(i+1)<M.length-i
   omega
 ·have hci:¬ (i:Int)<M.length:=by omega
  have hl:=lookM_no (M:=M) (v:=v) fun j hj=>hK0 j (by omega)
  rw [hl]
  ((refine W_regV ?_);intro K hK;(refine sSpX hci ?_))
  (refine hK _ ?_;clear hK K)
  refine W_seq (W_cf rfl ?_)
  refine W_exit ?_
  simp only [thenW,blockW,if_true]
  ((refine W_seqV ?_);intro K hK;(refine sSp ?_))
  (refine hK _ ?_;clear hK K)
  refine W_ret ?_
  (simp only [thenW,blockW,lendQ,resW,resV,asOne_nil,asOne_one,asOne_two,asOne_three,List.getD_cons_zero,List.getD_cons_succ];exact lend_end [] [0,1,2,3,4,5] rfl rfl (by decide) rfl (by simp only [backN,Nat.reduceLT,if_true,if_false,Nat.reduceSub,mv_any,mv_und,mv_int,mv_bool,mv_str,mv_nils,mv_sl,mv_ia,mv_nilp,mv_nilif,mv_nilfn,mv_nilmp,mv_gl,mv_sref,mv_ptr,mv_mp,mv_agg,mv_tup,mv_fn,mv_md,mvs_nil,mvs_cons,omv_dead,omv_arr,omv_arrf,omv_map,List.map_cons,List.map_nil,List.cons_append,List.nil_append,List.getD_cons_zero,List.getD_cons_succ,Nat.add_zero,Nat.reduceAdd]) (by simp only [backN,Nat.reduceLT,if_true,if_false,Nat.reduceSub,mv_any,mv_und,mv_int,mv_bool,mv_str,mv_nils,mv_sl,mv_ia,mv_nilp,mv_nilif,mv_nilfn,mv_nilmp,mv_gl,mv_sref,mv_ptr,mv_mp,mv_agg,mv_tup,mv_fn,mv_md,mvs_nil,mvs_cons,omv_dead,omv_arr,omv_arrf,omv_map,List.map_cons,List.map_nil,List.cons_append,List.nil_append,List.getD_cons_zero,List.getD_cons_succ,Nat.add_zero,Nat.reduceAdd]) (⟨rfl,rfl⟩))
theorem svalue_ok (lev:Int) (m n:Nat) (M:TM) (piv:Int) (cr lr:List (List AV)) (xs:List (Rat × Rat)) (ck:Nat) (bs:List Nat) (dr:List (List AV)) (v:Nat) (hv:v<n) (hx:xs.length=n) (ho:(dq (xs.getD v (0,0))).ok) :
  Look Tryz.prog 37 [.ptr 0 0 0,.int .i64 v] [sxS n M piv,sxB lev m n,obC cr,obL lr,sxV xs,.map ck bs dr] (.tup [(dq (xs.getD v (0,0))).av,.int .i64 0]):=by
 have h1:=dnorm_ok (dq (xs.getD v (0,0))) ho
 rw [dq_v,← dq_av] at h1
 have hX:(tab cellsX xs).getD v []=(dq (xs.getD v (0,0))).cells:=by rw [tab_getD (by omega)];simp only [List.getD_eq_getElem?_getD,show v<xs.length by omega,List.getElem?_eq_getElem,Option.getD_some];rfl
 have hv1:(v:Int)<n:=by omega
 have hv2:¬ (v:Int)<0:=by omega
 have hv3:¬ (n:Int)≤v:=by omega
 have hv4:v<(tab cellsX xs).length:=by rw [tab_length];omega
 generalize dq (xs.getD v (0,0))=r at *
 obtain ⟨⟨r1,r2,r3⟩,⟨r4,r5,r6⟩⟩:=r
 simp only [DD.av,DD.cells] at *
 unfold sxS sxB sxV obC obL
 unfold Look
 (refine lend_of_W Tryz.func37 rfl (rs:=[Go.ResultVar.cell 4 41,Go.ResultVar.tmp 5]) rfl (nt:=26) rfl (Nat.le_of_ble_eq_true rfl) ?_;simp only [idxL_nil,idxL_cons,List.length_cons,List.length_nil,List.replicate,mv_any,mv_und,mv_int,mv_bool,mv_str,mv_nils,mv_sl,mv_ia,mv_nilp,mv_nilif,mv_nilfn,mv_nilmp,mv_gl,mv_sref,mv_ptr,mv_mp,mv_agg,mv_tup,mv_fn,mv_md,mvs_nil,mvs_cons,omv_dead,omv_arr,omv_arrf,omv_map,List.map_cons,List.map_nil,List.cons_append,List.nil_append,List.getD_cons_zero,List.getD_cons_succ,Nat.add_zero,Nat.reduceAdd])
 refine W_seq ?_
 ((refine W_regV ?_);intro K hK;(refine sSp ?_))
 (refine hK _ ?_;clear hK K)
 refine W_seq ?_
 ((refine W_seqV ?_);intro K hK;(refine sSpX (And.intro hv2 hv3) ?_))
 (refine hK _ ?_;clear hK K)
 refine W_cf rfl ?_
 refine W_skip ?_
 simp only [thenW]
 ((refine W_seqV ?_);intro K hK;(refine sSpX (And.intro hX (And.intro hv1 (And.intro hv2 hv4))) ?_))
 ((repeat refine aI ?_);refine ⟨by kernel_rfl,_,.pure rfl (h1),?_⟩;(try (refine sSp ?_)))
 (refine hK _ ?_;clear hK K)
 refine W_ret ?_
 (simp only [thenW,blockW,lendQ,resW,resV];(try (refine sSp ?_));simp only [asOne_nil,asOne_one,asOne_two,asOne_three];exact lend_endC [] [0,1,2,3,4,5] rfl rfl (by decide) rfl (by simp only [backN,Nat.reduceLT,if_true,if_false,Nat.reduceSub,mv_any,mv_und,mv_int,mv_bool,mv_str,mv_nils,mv_sl,mv_ia,mv_nilp,mv_nilif,mv_nilfn,mv_nilmp,mv_gl,mv_sref,mv_ptr,mv_mp,mv_agg,mv_tup,mv_fn,mv_md,mvs_nil,mvs_cons,omv_dead,omv_arr,omv_arrf,omv_map,List.map_cons,List.map_nil,List.cons_append,List.nil_append,List.getD_cons_zero,List.getD_cons_succ,Nat.add_zero,Nat.reduceAdd]) (by simp only [backN,Nat.reduceLT,if_true,if_false,Nat.reduceSub,mv_any,mv_und,mv_int,mv_bool,mv_str,mv_nils,mv_sl,mv_ia,mv_nilp,mv_nilif,mv_nilfn,mv_nilmp,mv_gl,mv_sref,mv_ptr,mv_mp,mv_agg,mv_tup,mv_fn,mv_md,mvs_nil,mvs_cons,omv_dead,omv_arr,omv_arrf,omv_map,List.map_cons,List.map_nil,List.cons_append,List.nil_append,List.getD_cons_zero,List.getD_cons_succ,Nat.add_zero,Nat.reduceAdd]) (⟨rfl,rfl⟩))
def zC:List AV:=[.int .i64 0,.bool false,.int .i64 0,.bool false,.bool false,.sl [],.sl [],.bool false,.sl [],.sl [],.int .i64 0]
theorem sSq {G G':Prop} (h:G') (e:G=G':=by conv=>lhs;simp (disch:=omega) only [rowsOf,cNat,cN,St.ret,St.seth,Eff.app,Eff.wi,sepL,guardOf,St.known,objOf,List.set,sliceW,litW,copyW,lenOf,bnd,mxOk,ofCells,TI.isAgg,cellsOf,storable,AV.one,dead,laid,overlay,reduceCtorEq,Int.reduceLE,Int.reduceLT,Int.reduceSub,Int.reduceAdd,Nat.reduceMul,Int.reduceToNat,Nat.reducePow,Int.reduceNeg,Nat.reduceAdd,Nat.reduceLT,Nat.reduceLeDiff,sA,sB,tab_length,cellsX_all,cellsX_one,cellsX_pure,rowU_all,rowU_one,rowU_pure,rowL_all,rowL_one,rowL_pure,sT]):G:=e.mpr h
theorem sSqX {G G' P:Prop} (p:P) (h:G') (e:P→G=G':=by intro p;conv=>lhs;simp (disch:=omega) only [rowsOf,cNat,cN,St.ret,St.seth,Eff.app,Eff.wi,sepL,guardOf,St.known,objOf,List.set,sliceW,litW,copyW,lenOf,bnd,mxOk,ofCells,TI.isAgg,cellsOf,storable,AV.one,dead,laid,overlay,reduceCtorEq,Int.reduceLE,Int.reduceLT,Int.reduceSub,Int.reduceAdd,Nat.reduceMul,Int.reduceToNat,Nat.reducePow,Int.reduceNeg,Nat.reduceAdd,Nat.reduceLT,Nat.reduceLeDiff,sA,sB,tab_length,cellsX_all,cellsX_one,cellsX_pure,rowU_all,rowU_one,rowU_pure,rowL_all,rowL_one,rowL_pure,sT,p]):G:=(e p).mpr h
def saidA (k o e:Int):AV := .tup [.agg [.int .i64 k,.int .i64 o],.int .i64 e]
def asF (up:Bool):Nat:=if up then 165 else 164
theorem sasserted_clash (up:Bool) (lev:Int) (m n:Nat) (M:TM) (piv:Int) (cr lr:List (List AV)) (xs:List (Rat × Rat)) (ck:Nat) (bs:List Nat) (dr:List (List AV)) (v:Int) (a:DD) (why o:Int)
  (hA:Lend Tryz.prog (asF up) [.ptr 0 0 0,.int .i64 v,a.av,.int .i64 why] [obB lev m n,obC cr,obL lr] [0,2] 0 fun r os=>r=saidA 2 o 0∧os=[obB lev m n,obC cr,obL lr]) :
  Lend Tryz.prog 90 [.ptr 0 0 0,sdA up,.int .i64 v,a.av,.int .i64 why] [sxS n M piv,sxB lev m n,obC cr,obL lr,sxV xs,.map ck bs dr] [0,1,5] 0 fun r os=>r = .tup [.sl (tab rowQ [(why,1),(o,1)]),.int .i64 90]∧os=[sxS n M piv,sxB lev m n,obC cr,obL lr,sxV xs,.map ck bs dr]:=by
 have h1:=rwhole_ok 1 (by omega) (by omega)
 rw [show cQ ((1:Int):Rat)=(qr 1).av from rfl] at h1
 simp only [show tab rowQ [(why,1),(o,1)]=[[.int .i64 why,.bool (qr 1).neg,.sl (u32s (qr 1).num),.sl (u32s (qr 1).den)],[.int .i64 o,.bool (qr 1).neg,.sl (u32s (qr 1).num),.sl (u32s (qr 1).den)]] from rfl]
 generalize qr 1=q at *
 obtain ⟨q1,q2,q3⟩:=q
 obtain ⟨⟨n',x',y'⟩,⟨m',z',w'⟩⟩:=a
 simp only [DD.av,DD.cells,saidA,RR.av] at *
 unfold obB obC obL at hA
 unfold sxS sxB sxV obC obL sdA
 cases up <;> simp only [sgS,asF,if_true,if_false,Bool.false_eq_true] at *
 all_goals
  (refine lend_of_W Tryz.func90 rfl (rs:=[Go.ResultVar.tmp 10,Go.ResultVar.tmp 11]) rfl (nt:=94) rfl (Nat.le_of_ble_eq_true rfl) ?_;simp only [idxL_nil,idxL_cons,List.length_cons,List.length_nil,List.replicate,mv_any,mv_und,mv_int,mv_bool,mv_str,mv_nils,mv_sl,mv_ia,mv_nilp,mv_nilif,mv_nilfn,mv_nilmp,mv_gl,mv_sref,mv_ptr,mv_mp,mv_agg,mv_tup,mv_fn,mv_md,mvs_nil,mvs_cons,omv_dead,omv_arr,omv_arrf,omv_map,List.map_cons,List.map_nil,List.cons_append,List.nil_append,List.getD_cons_zero,List.getD_cons_succ,Nat.add_zero,Nat.reduceAdd])
  refine W_seq ?_
  ((refine W_regV ?_);intro K hK;(refine sSq ?_))
  (refine hK _ ?_;clear hK K)
  ((refine W_seqV ?_);intro K hK;(refine sSq ?_))
  (refine hK _ ?_;clear hK K)
  refine W_seq ?_
  ((refine W_seqV ?_);intro K hK;(refine sSq ?_))
  (refine hK _ ?_;clear hK K)
 refine W_cf rfl ?_
 refine W_skip ?_
 simp only [thenW]
 rotate_left
 refine W_ct rfl ?_
 ((refine W_regV ?_);intro K hK;(refine sSq ?_))
 (refine hK _ ?_;clear hK K)
 all_goals
  ((refine W_seqR ?_);intro K hK;(refine sSq ?_))
  (refine ⟨by kernel_rfl,call_lendB (hA) [95,96,97] [] [96] rfl (by decide) rfl rfl (by simp only [mv_any,mv_und,mv_int,mv_bool,mv_str,mv_nils,mv_sl,mv_ia,mv_nilp,mv_nilif,mv_nilfn,mv_nilmp,mv_gl,mv_sref,mv_ptr,mv_mp,mv_agg,mv_tup,mv_fn,mv_md,mvs_nil,mvs_cons,omv_dead,omv_arr,omv_arrf,omv_map,List.map_cons,List.map_nil,List.cons_append,List.nil_append,List.getD_cons_zero,List.getD_cons_succ,Nat.add_zero,Nat.reduceAdd]) (by simp only [mv_any,mv_und,mv_int,mv_bool,mv_str,mv_nils,mv_sl,mv_ia,mv_nilp,mv_nilif,mv_nilfn,mv_nilmp,mv_gl,mv_sref,mv_ptr,mv_mp,mv_agg,mv_tup,mv_fn,mv_md,mvs_nil,mvs_cons,omv_dead,omv_arr,omv_arrf,omv_map,List.map_cons,List.map_nil,List.cons_append,List.nil_append,List.getD_cons_zero,List.getD_cons_succ,Nat.add_zero,Nat.reduceAdd]) rfl rfl rfl rfl fun r_ os_ hr_ hl_=>?_⟩;obtain ⟨rfl,rfl⟩:=hr_;clear hl_;simp only [killsL_nil,killsL_cons,killO_nil,killO_cons,putL_nil,putL_cons,List.set,kill_any,kill_und,kill_int,kill_bool,kill_str,kill_nils,kill_sl,kill_ia,kill_nilp,kill_nilif,kill_nilfn,kill_nilmp,kill_gl,kill_sref,kill_ptr,kill_agg,kill_tup,kill_fn,kill_ifc,kills_nil,kills_cons,kill_dead,kill_arr,kill_arrf,kill_mp,kill_it,kill_md,kill_map,kill_iter,Nat.reduceEqDiff,reduceCtorEq,if_false,if_true,mv_any,mv_und,mv_int,mv_bool,mv_str,mv_nils,mv_sl,mv_ia,mv_nilp,mv_nilif,mv_nilfn,mv_nilmp,mv_gl,mv_sref,mv_ptr,mv_mp,mv_agg,mv_tup,mv_fn,mv_md,mvs_nil,mvs_cons,omv_dead,omv_arr,omv_arrf,omv_map,List.map_cons,List.map_nil,List.cons_append,List.nil_append,List.getD_cons_zero,List.getD_cons_succ,Nat.add_zero,Nat.reduceAdd];(try (refine sSq ?_)))
  (refine hK _ ?_;clear hK K)
  ((refine W_seq (W_seqV ?_));intro K hK;(refine sSq ?_))
  (refine hK _ ?_;clear hK K)
  refine W_cf rfl ?_
  refine W_skip ?_
  simp only [thenW]
  ((refine W_seq (W_seqV ?_));intro K hK;(refine sSq ?_))
  (refine hK _ ?_;clear hK K)
  refine W_ct rfl ?_
  ((refine W_seqV ?_);intro K hK;(refine sSq ?_))
  (refine ⟨by kernel_rfl,_,.pure rfl (h1),?_⟩;(try (refine sSq ?_)))
  (refine hK _ ?_;clear hK K)
  ((refine W_seqD mixed [] (by kernel_rfl) ?_);intro K hK;(refine sSq ?_))
  (refine ⟨by kernel_rfl,_,.pure rfl (h1),?_⟩;(try (refine sSq ?_));(repeat refine aI ?_))
  (refine hK _ ?_;clear hK K)
  refine W_ret ?_
  (simp only [thenW,blockW,lendQ,resW,resV,asOne_nil,asOne_one,asOne_two,asOne_three,List.getD_cons_zero,List.getD_cons_succ];exact lend_end [] [0,1,2,3,4,5] rfl rfl (by decide) rfl (by simp only [backN,Nat.reduceLT,if_true,if_false,Nat.reduceSub,mv_any,mv_und,mv_int,mv_bool,mv_str,mv_nils,mv_sl,mv_ia,mv_nilp,mv_nilif,mv_nilfn,mv_nilmp,mv_gl,mv_sref,mv_ptr,mv_mp,mv_agg,mv_tup,mv_fn,mv_md,mvs_nil,mvs_cons,omv_dead,omv_arr,omv_arrf,omv_map,List.map_cons,List.map_nil,List.cons_append,List.nil_append,List.getD_cons_zero,List.getD_cons_succ,Nat.add_zero,Nat.reduceAdd]) (by simp only [backN,Nat.reduceLT,if_true,if_false,Nat.reduceSub,mv_any,mv_und,mv_int,mv_bool,mv_str,mv_nils,mv_sl,mv_ia,mv_nilp,mv_nilif,mv_nilfn,mv_nilmp,mv_gl,mv_sref,mv_ptr,mv_mp,mv_agg,mv_tup,mv_fn,mv_md,mvs_nil,mvs_cons,omv_dead,omv_arr,omv_arrf,omv_map,List.map_cons,List.map_nil,List.cons_append,List.nil_append,List.getD_cons_zero,List.getD_cons_succ,Nat.add_zero,Nat.reduceAdd]) (⟨rfl,rfl⟩))
theorem sasserted_go (up:Bool) (lev:Int) (m m' n:Nat) (M:TM) (piv:Int) (cr cr' lr:List (List AV)) (ls:List LL) (xs:List (Rat × Rat)) (ck:Nat) (bs:List Nat) (dr:List (List AV)) (v:Nat) (a:DD) (why k:Int) (c:Bool)
  (hA:Lend Tryz.prog (asF up) [.ptr 0 0 0,.int .i64 v,a.av,.int .i64 why] [obB lev m n,obC cr,obL lr] [0,2] 0 fun r os=>r=saidA k 0 0∧os=[obB lev m' n,obC cr',obL (tab rowL ls)]) (hk:k≠2)
  (hT:TG (rfT M)) (hN:nrmT (rfT M)=M) (hg:goodB n M=true) (hn:n≤65536) (hx:xs.length=n) (hls:ls.length=n) (hv:v<n) (hM:M.length<4294967296) (ha:a.ok)
  (hl:(ls.getD v default).nm=ls.getD v default) (ho1:(ls.getD v default).lower.at_.ok) (ho2:(ls.getD v default).upper.at_.ok) (hxo:(dq (xs.getD v (0,0))).ok)
  (hc:c=(!(lookM M v).isSome&&((ownL up (ls.getD v default)).has&&decide (sgS up*dsg (dsub (xs.getD v (0,0)) (ownL up (ls.getD v default)).at_.v)<0)))) (hev:c=true→EvOk M ((xs.set v a.v).map dq)) :
  Lend Tryz.prog 90 [.ptr 0 0 0,sdA up,.int .i64 v,a.av,.int .i64 why] [sxS n M piv,sxB lev m n,obC cr,obL lr,sxV xs,.map ck bs dr] [0,1,5] 0 fun r os=>r = .tup [.nils,.int .i64 0]∧os=[sxS n M piv,sxB lev m' n,obC cr',obL (tab rowL ls),sxV (bif c then extL M ((xs.set v a.v).map dq) else xs),.map ck bs dr]:=by
 have h1:=bslimit_ok lev m' cr' ls v (by omega) (by omega) ⟨ho1,ho2⟩
 rw [hls,hl] at h1
 have h2:=srow_ok lev m' n M piv cr' (tab rowL ls) xs ck bs dr v hM
 have h3:=sdbey_ok up (ls.getD v default) (dq (xs.getD v (0,0))) (by cases up <;> assumption) hxo
 rw [dq_v] at h3
 have h4:=dnorm_ok a ha
 have h5:=fun hev=>srenew_ok lev m' n M piv cr' (tab rowL ls) (xs.set v a.v) ck bs dr hT hN hg hn (by rw [List.length_set];exact hx) hev
 have hX:(tab cellsX xs).getD v []=(dq (xs.getD v (0,0))).cells:=by rw [tab_getD (by omega)];simp only [List.getD_eq_getElem?_getD,show v<xs.length by omega,List.getElem?_eq_getElem,Option.getD_some];rfl
 have hset:(tab cellsX xs).set v (dq a.v).cells=tab cellsX (xs.set v a.v):=tab_set xs v a.v
 have hv1:(v:Int)<n:=by omega
 have hv2:¬ (v:Int)<0:=by omega
 have hv4:v<(tab cellsX xs).length:=by rw [tab_length];omega
 have hk2:(k == 2)=false:=by simpa using hk
 generalize ((ownL up (ls.getD v default)).has&&decide (sgS up*dsg (dsub (xs.getD v (0,0)) (ownL up (ls.getD v default)).at_.v)<0))=c1 at *
 generalize ls.getD v default=l at *
 clear ho1 ho2 hl
 generalize hys:xs.set v a.v=ys at *
 rw [← dq_av] at h4
 generalize dq a.v=d at *
 generalize dq (xs.getD v (0,0))=e at *
 obtain ⟨⟨d1,d2,d3⟩,⟨d4,d5,d6⟩⟩:=d
 obtain ⟨⟨e1,e2,e3⟩,⟨e4,e5,e6⟩⟩:=e
 obtain ⟨⟨n',x',y'⟩,⟨m',z',w'⟩⟩:=a
 obtain ⟨⟨b1,⟨⟨x1,x2,x3⟩,⟨x4,x5,x6⟩⟩,x7⟩,⟨b2,⟨⟨y1,y2,y3⟩,⟨y4,y5,y6⟩⟩,y7⟩⟩:=l
 simp only [DD.av,DD.cells,saidA,LL.cells] at *
 unfold obB obC obL at hA h1
 unfold sxS sxB sxV obC obL at h2 h5
 unfold sxS sxB sxV obC obL sdA
 unfold sdA at h3
 cases up <;> simp only [sgS,asF,if_true,if_false,Bool.false_eq_true] at *
 all_goals
  (refine lend_of_W Tryz.func90 rfl (rs:=[Go.ResultVar.tmp 10,Go.ResultVar.tmp 11]) rfl (nt:=94) rfl (Nat.le_of_ble_eq_true rfl) ?_;simp only [idxL_nil,idxL_cons,List.length_cons,List.length_nil,List.replicate,mv_any,mv_und,mv_int,mv_bool,mv_str,mv_nils,mv_sl,mv_ia,mv_nilp,mv_nilif,mv_nilfn,mv_nilmp,mv_gl,mv_sref,mv_ptr,mv_mp,mv_agg,mv_tup,mv_fn,mv_md,mvs_nil,mvs_cons,omv_dead,omv_arr,omv_arrf,omv_map,List.map_cons,List.map_nil,List.cons_append,List.nil_append,List.getD_cons_zero,List.getD_cons_succ,Nat.add_zero,Nat.reduceAdd])
  refine W_seq ?_
  ((refine W_regV ?_);intro K hK;(refine sSq ?_))
  (refine hK _ ?_;clear hK K)
  ((refine W_seqV ?_);intro K hK;(refine sSq ?_))
  (refine hK _ ?_;clear hK K)
  refine W_seq ?_
  ((refine W_seqV ?_);intro K hK;(refine sSq ?_))
  (refine hK _ ?_;clear hK K)
 refine W_cf rfl ?_
 refine W_skip ?_
 simp only [thenW]
 rotate_left
 refine W_ct rfl ?_
 ((refine W_regV ?_);intro K hK;(refine sSq ?_))
 (refine hK _ ?_;clear hK K)
 all_goals
  ((refine W_seqR ?_);intro K hK;(refine sSq ?_))
  (refine ⟨by kernel_rfl,call_lendB (hA) [95,96,97] [] [96] rfl (by decide) rfl rfl (by simp only [mv_any,mv_und,mv_int,mv_bool,mv_str,mv_nils,mv_sl,mv_ia,mv_nilp,mv_nilif,mv_nilfn,mv_nilmp,mv_gl,mv_sref,mv_ptr,mv_mp,mv_agg,mv_tup,mv_fn,mv_md,mvs_nil,mvs_cons,omv_dead,omv_arr,omv_arrf,omv_map,List.map_cons,List.map_nil,List.cons_append,List.nil_append,List.getD_cons_zero,List.getD_cons_succ,Nat.add_zero,Nat.reduceAdd]) (by simp only [mv_any,mv_und,mv_int,mv_bool,mv_str,mv_nils,mv_sl,mv_ia,mv_nilp,mv_nilif,mv_nilfn,mv_nilmp,mv_gl,mv_sref,mv_ptr,mv_mp,mv_agg,mv_tup,mv_fn,mv_md,mvs_nil,mvs_cons,omv_dead,omv_arr,omv_arrf,omv_map,List.map_cons,List.map_nil,List.cons_append,List.nil_append,List.getD_cons_zero,List.getD_cons_succ,Nat.add_zero,Nat.reduceAdd]) rfl rfl rfl rfl fun r_ os_ hr_ hl_=>?_⟩;obtain ⟨rfl,rfl⟩:=hr_;clear hl_;simp only [killsL_nil,killsL_cons,killO_nil,killO_cons,putL_nil,putL_cons,List.set,kill_any,kill_und,kill_int,kill_bool,kill_str,kill_nils,kill_sl,kill_ia,kill_nilp,kill_nilif,kill_nilfn,kill_nilmp,kill_gl,kill_sref,kill_ptr,kill_agg,kill_tup,kill_fn,kill_ifc,kills_nil,kills_cons,kill_dead,kill_arr,kill_arrf,kill_mp,kill_it,kill_md,kill_map,kill_iter,Nat.reduceEqDiff,reduceCtorEq,if_false,if_true,mv_any,mv_und,mv_int,mv_bool,mv_str,mv_nils,mv_sl,mv_ia,mv_nilp,mv_nilif,mv_nilfn,mv_nilmp,mv_gl,mv_sref,mv_ptr,mv_mp,mv_agg,mv_tup,mv_fn,mv_md,mvs_nil,mvs_cons,omv_dead,omv_arr,omv_arrf,omv_map,List.map_cons,List.map_nil,List.cons_append,List.nil_append,List.getD_cons_zero,List.getD_cons_succ,Nat.add_zero,Nat.reduceAdd];(try (refine sSq ?_)))
  (refine hK _ ?_;clear hK K)
  ((refine W_seq (W_seqV ?_));intro K hK;(refine sSq ?_))
  (refine hK _ ?_;clear hK K)
  refine W_cf rfl ?_
  refine W_skip ?_
  simp only [thenW]
  ((refine W_seq (W_seqV ?_));intro K hK;(refine sSqX hk2 ?_))
  (refine hK _ ?_;clear hK K)
  refine W_cf rfl ?_
  refine W_skip ?_
  simp only [thenW]
  ((refine W_seqVM ?_);intro K hK;(refine sSq ?_))
  (refine ⟨by kernel_rfl,_,.lookB (h1) [95,96,97] rfl (by decide) rfl (fun _=>by simp only [mv_any,mv_und,mv_int,mv_bool,mv_str,mv_nils,mv_sl,mv_ia,mv_nilp,mv_nilif,mv_nilfn,mv_nilmp,mv_gl,mv_sref,mv_ptr,mv_mp,mv_agg,mv_tup,mv_fn,mv_md,mvs_nil,mvs_cons,omv_dead,omv_arr,omv_arrf,omv_map,List.map_cons,List.map_nil,List.cons_append,List.nil_append,List.getD_cons_zero,List.getD_cons_succ,Nat.add_zero,Nat.reduceAdd]) (fun _=>by simp only [mv_any,mv_und,mv_int,mv_bool,mv_str,mv_nils,mv_sl,mv_ia,mv_nilp,mv_nilif,mv_nilfn,mv_nilmp,mv_gl,mv_sref,mv_ptr,mv_mp,mv_agg,mv_tup,mv_fn,mv_md,mvs_nil,mvs_cons,omv_dead,omv_arr,omv_arrf,omv_map,List.map_cons,List.map_nil,List.cons_append,List.nil_append,List.getD_cons_zero,List.getD_cons_succ,Nat.add_zero,Nat.reduceAdd]) rfl (fun _=>by simp only [mv_any,mv_und,mv_int,mv_bool,mv_str,mv_nils,mv_sl,mv_ia,mv_nilp,mv_nilif,mv_nilfn,mv_nilmp,mv_gl,mv_sref,mv_ptr,mv_mp,mv_agg,mv_tup,mv_fn,mv_md,mvs_nil,mvs_cons,omv_dead,omv_arr,omv_arrf,omv_map,List.map_cons,List.map_nil,List.cons_append,List.nil_append,List.getD_cons_zero,List.getD_cons_succ,Nat.add_zero,Nat.reduceAdd]),?_⟩;(try (refine sSq ?_));(repeat refine aI ?_))
  (refine hK _ ?_;clear hK K)
  cases hlk:lookM M v with
  | some f =>
   rw [hlk] at h2 hc
   simp only [Option.isSome_some,Bool.not_true,Bool.false_and] at hc
   subst hc
   simp only [cond_false]
   ((refine W_seq (W_seqVM ?_));intro K hK;(refine sSq ?_))
   (refine ⟨by kernel_rfl,_,.lookB (h2) [94,95,96,97,98,99] rfl (by decide) rfl (fun _=>by simp only [mv_any,mv_und,mv_int,mv_bool,mv_str,mv_nils,mv_sl,mv_ia,mv_nilp,mv_nilif,mv_nilfn,mv_nilmp,mv_gl,mv_sref,mv_ptr,mv_mp,mv_agg,mv_tup,mv_fn,mv_md,mvs_nil,mvs_cons,omv_dead,omv_arr,omv_arrf,omv_map,List.map_cons,List.map_nil,List.cons_append,List.nil_append,List.getD_cons_zero,List.getD_cons_succ,Nat.add_zero,Nat.reduceAdd]) (fun _=>by simp only [mv_any,mv_und,mv_int,mv_bool,mv_str,mv_nils,mv_sl,mv_ia,mv_nilp,mv_nilif,mv_nilfn,mv_nilmp,mv_gl,mv_sref,mv_ptr,mv_mp,mv_agg,mv_tup,mv_fn,mv_md,mvs_nil,mvs_cons,omv_dead,omv_arr,omv_arrf,omv_map,List.map_cons,List.map_nil,List.cons_append,List.nil_append,List.getD_cons_zero,List.getD_cons_succ,Nat.add_zero,Nat.reduceAdd]) rfl (fun _=>by simp only [mv_any,mv_und,mv_int,mv_bool,mv_str,mv_nils,mv_sl,mv_ia,mv_nilp,mv_nilif,mv_nilfn,mv_nilmp,mv_gl,mv_sref,mv_ptr,mv_mp,mv_agg,mv_tup,mv_fn,mv_md,mvs_nil,mvs_cons,omv_dead,omv_arr,omv_arrf,omv_map,List.map_cons,List.map_nil,List.cons_append,List.nil_append,List.getD_cons_zero,List.getD_cons_succ,Nat.add_zero,Nat.reduceAdd]),?_⟩;(try (refine sSq ?_));(repeat refine aI ?_))
   (refine hK _ ?_;clear hK K)
   ((refine W_seqD mixed [] (by kernel_rfl) ?_);intro K hK;(refine sSq ?_))
   (refine hK _ ?_;clear hK K)
   refine W_cf rfl ?_
   refine W_skip ?_
   simp only [thenW]
   ((refine W_seqV ?_);intro K hK;(refine sSq ?_))
   (refine hK _ ?_;clear hK K)
   refine W_ret ?_
   (simp only [thenW,blockW,lendQ,resW,resV,asOne_nil,asOne_one,asOne_two,asOne_three,List.getD_cons_zero,List.getD_cons_succ];exact lend_end [] [0,1,2,3,4,5] rfl rfl (by decide) rfl (by simp only [backN,Nat.reduceLT,if_true,if_false,Nat.reduceSub,mv_any,mv_und,mv_int,mv_bool,mv_str,mv_nils,mv_sl,mv_ia,mv_nilp,mv_nilif,mv_nilfn,mv_nilmp,mv_gl,mv_sref,mv_ptr,mv_mp,mv_agg,mv_tup,mv_fn,mv_md,mvs_nil,mvs_cons,omv_dead,omv_arr,omv_arrf,omv_map,List.map_cons,List.map_nil,List.cons_append,List.nil_append,List.getD_cons_zero,List.getD_cons_succ,Nat.add_zero,Nat.reduceAdd]) (by simp only [backN,Nat.reduceLT,if_true,if_false,Nat.reduceSub,mv_any,mv_und,mv_int,mv_bool,mv_str,mv_nils,mv_sl,mv_ia,mv_nilp,mv_nilif,mv_nilfn,mv_nilmp,mv_gl,mv_sref,mv_ptr,mv_mp,mv_agg,mv_tup,mv_fn,mv_md,mvs_nil,mvs_cons,omv_dead,omv_arr,omv_arrf,omv_map,List.map_cons,List.map_nil,List.cons_append,List.nil_append,List.getD_cons_zero,List.getD_cons_succ,Nat.add_zero,Nat.reduceAdd]) (⟨rfl,rfl⟩))
  | none =>
   rw [hlk] at h2 hc
   simp only [Option.isSome_none,Bool.not_false,Bool.true_and] at hc
   subst hc
   ((refine W_seq (W_seqVM ?_));intro K hK;(refine sSq ?_))
   (refine ⟨by kernel_rfl,_,.lookB (h2) [94,95,96,97,98,99] rfl (by decide) rfl (fun _=>by simp only [mv_any,mv_und,mv_int,mv_bool,mv_str,mv_nils,mv_sl,mv_ia,mv_nilp,mv_nilif,mv_nilfn,mv_nilmp,mv_gl,mv_sref,mv_ptr,mv_mp,mv_agg,mv_tup,mv_fn,mv_md,mvs_nil,mvs_cons,omv_dead,omv_arr,omv_arrf,omv_map,List.map_cons,List.map_nil,List.cons_append,List.nil_append,List.getD_cons_zero,List.getD_cons_succ,Nat.add_zero,Nat.reduceAdd]) (fun _=>by simp only [mv_any,mv_und,mv_int,mv_bool,mv_str,mv_nils,mv_sl,mv_ia,mv_nilp,mv_nilif,mv_nilfn,mv_nilmp,mv_gl,mv_sref,mv_ptr,mv_mp,mv_agg,mv_tup,mv_fn,mv_md,mvs_nil,mvs_cons,omv_dead,omv_arr,omv_arrf,omv_map,List.map_cons,List.map_nil,List.cons_append,List.nil_append,List.getD_cons_zero,List.getD_cons_succ,Nat.add_zero,Nat.reduceAdd]) rfl (fun _=>by simp only [mv_any,mv_und,mv_int,mv_bool,mv_str,mv_nils,mv_sl,mv_ia,mv_nilp,mv_nilif,mv_nilfn,mv_nilmp,mv_gl,mv_sref,mv_ptr,mv_mp,mv_agg,mv_tup,mv_fn,mv_md,mvs_nil,mvs_cons,omv_dead,omv_arr,omv_arrf,omv_map,List.map_cons,List.map_nil,List.cons_append,List.nil_append,List.getD_cons_zero,List.getD_cons_succ,Nat.add_zero,Nat.reduceAdd]),?_⟩;(try (refine sSq ?_));(repeat refine aI ?_))
   (refine hK _ ?_;clear hK K)
   ((refine W_seqD mixed [] (by kernel_rfl) ?_);intro K hK;(refine sSqX (And.intro hX (And.intro hv1 (And.intro hv2 hv4))) ?_))
   ((repeat refine aI ?_);refine ⟨by kernel_rfl,_,.pure rfl (h3),?_⟩;(try (refine sSq ?_)))
   (refine hK _ ?_;clear hK K)
   cases c
   ·simp only [cond_false]
    refine W_cf rfl ?_
    refine W_skip ?_
    simp only [thenW]
    ((refine W_seqV ?_);intro K hK;(refine sSq ?_))
    (refine hK _ ?_;clear hK K)
    refine W_ret ?_
    (simp only [thenW,blockW,lendQ,resW,resV,asOne_nil,asOne_one,asOne_two,asOne_three,List.getD_cons_zero,List.getD_cons_succ];exact lend_end [] [0,1,2,3,4,5] rfl rfl (by decide) rfl (by simp only [backN,Nat.reduceLT,if_true,if_false,Nat.reduceSub,mv_any,mv_und,mv_int,mv_bool,mv_str,mv_nils,mv_sl,mv_ia,mv_nilp,mv_nilif,mv_nilfn,mv_nilmp,mv_gl,mv_sref,mv_ptr,mv_mp,mv_agg,mv_tup,mv_fn,mv_md,mvs_nil,mvs_cons,omv_dead,omv_arr,omv_arrf,omv_map,List.map_cons,List.map_nil,List.cons_append,List.nil_append,List.getD_cons_zero,List.getD_cons_succ,Nat.add_zero,Nat.reduceAdd]) (by simp only [backN,Nat.reduceLT,if_true,if_false,Nat.reduceSub,mv_any,mv_und,mv_int,mv_bool,mv_str,mv_nils,mv_sl,mv_ia,mv_nilp,mv_nilif,mv_nilfn,mv_nilmp,mv_gl,mv_sref,mv_ptr,mv_mp,mv_agg,mv_tup,mv_fn,mv_md,mvs_nil,mvs_cons,omv_dead,omv_arr,omv_arrf,omv_map,List.map_cons,List.map_nil,List.cons_append,List.nil_append,List.getD_cons_zero,List.getD_cons_succ,Nat.add_zero,Nat.reduceAdd]) (⟨rfl,rfl⟩))
   ·simp only [cond_true]
    refine W_ct rfl ?_
    ((refine W_seqD mixed [] (by kernel_rfl) ?_);intro K hK;(refine sSqX (And.intro hX (And.intro hv1 (And.intro hv2 (And.intro hv4 hset)))) ?_))
    (refine ⟨by kernel_rfl,_,.pure rfl (h4),?_⟩;(try (refine sSq ?_));(repeat refine aI ?_))
    (refine hK _ ?_;clear hK K)
    simp only [hset]
    (refine W_regR fun K hK=>?_;(refine sSq ?_;try exact True.intro))
    (refine ⟨by kernel_rfl,call_lendB (h5 (hev rfl)) [94,95,96,97,98,99] [] [96,97,98] rfl (by decide) rfl rfl (by simp only [mv_any,mv_und,mv_int,mv_bool,mv_str,mv_nils,mv_sl,mv_ia,mv_nilp,mv_nilif,mv_nilfn,mv_nilmp,mv_gl,mv_sref,mv_ptr,mv_mp,mv_agg,mv_tup,mv_fn,mv_md,mvs_nil,mvs_cons,omv_dead,omv_arr,omv_arrf,omv_map,List.map_cons,List.map_nil,List.cons_append,List.nil_append,List.getD_cons_zero,List.getD_cons_succ,Nat.add_zero,Nat.reduceAdd]) (by simp only [mv_any,mv_und,mv_int,mv_bool,mv_str,mv_nils,mv_sl,mv_ia,mv_nilp,mv_nilif,mv_nilfn,mv_nilmp,mv_gl,mv_sref,mv_ptr,mv_mp,mv_agg,mv_tup,mv_fn,mv_md,mvs_nil,mvs_cons,omv_dead,omv_arr,omv_arrf,omv_map,List.map_cons,List.map_nil,List.cons_append,List.nil_append,List.getD_cons_zero,List.getD_cons_succ,Nat.add_zero,Nat.reduceAdd]) rfl rfl rfl rfl fun r_ os_ hr_ hl_=>?_⟩;obtain ⟨rfl,rfl⟩:=hr_;clear hl_;simp only [killsL_nil,killsL_cons,killO_nil,killO_cons,putL_nil,putL_cons,List.set,kill_any,kill_und,kill_int,kill_bool,kill_str,kill_nils,kill_sl,kill_ia,kill_nilp,kill_nilif,kill_nilfn,kill_nilmp,kill_gl,kill_sref,kill_ptr,kill_agg,kill_tup,kill_fn,kill_ifc,kills_nil,kills_cons,kill_dead,kill_arr,kill_arrf,kill_mp,kill_it,kill_md,kill_map,kill_iter,Nat.reduceEqDiff,reduceCtorEq,if_false,if_true,mv_any,mv_und,mv_int,mv_bool,mv_str,mv_nils,mv_sl,mv_ia,mv_nilp,mv_nilif,mv_nilfn,mv_nilmp,mv_gl,mv_sref,mv_ptr,mv_mp,mv_agg,mv_tup,mv_fn,mv_md,mvs_nil,mvs_cons,omv_dead,omv_arr,omv_arrf,omv_map,List.map_cons,List.map_nil,List.cons_append,List.nil_append,List.getD_cons_zero,List.getD_cons_succ,Nat.add_zero,Nat.reduceAdd];(try (refine sSq ?_)))
    (refine hK _ ?_;clear hK K)
    simp only [thenW]
    ((refine W_seqV ?_);intro K hK;(refine sSq ?_))
    (refine hK _ ?_;clear hK K)
    refine W_ret ?_
    (simp only [thenW,blockW,lendQ,resW,resV,asOne_nil,asOne_one,asOne_two,asOne_three,List.getD_cons_zero,List.getD_cons_succ];exact lend_end [] [0,1,2,3,4,5] rfl rfl (by decide) rfl (by simp only [backN,Nat.reduceLT,if_true,if_false,Nat.reduceSub,mv_any,mv_und,mv_int,mv_bool,mv_str,mv_nils,mv_sl,mv_ia,mv_nilp,mv_nilif,mv_nilfn,mv_nilmp,mv_gl,mv_sref,mv_ptr,mv_mp,mv_agg,mv_tup,mv_fn,mv_md,mvs_nil,mvs_cons,omv_dead,omv_arr,omv_arrf,omv_map,List.map_cons,List.map_nil,List.cons_append,List.nil_append,List.getD_cons_zero,List.getD_cons_succ,Nat.add_zero,Nat.reduceAdd]) (by simp only [backN,Nat.reduceLT,if_true,if_false,Nat.reduceSub,mv_any,mv_und,mv_int,mv_bool,mv_str,mv_nils,mv_sl,mv_ia,mv_nilp,mv_nilif,mv_nilfn,mv_nilmp,mv_gl,mv_sref,mv_ptr,mv_mp,mv_agg,mv_tup,mv_fn,mv_md,mvs_nil,mvs_cons,omv_dead,omv_arr,omv_arrf,omv_map,List.map_cons,List.map_nil,List.cons_append,List.nil_append,List.getD_cons_zero,List.getD_cons_succ,Nat.add_zero,Nat.reduceAdd]) (⟨rfl,rfl⟩))
def nilOr (o:Option (List (List AV))):AV:=match o with | none => .nils | some r => .sl r
def spF (up:Bool):Nat:=if up then 43 else 28
theorem sassert_ok (up:Bool) (lev:Int) (m m' n:Nat) (M:TM) (piv:Int) (cr cr' lr lr':List (List AV)) (xs xs':List (Rat × Rat)) (ck:Nat) (bs:List Nat) (dr:List (List AV)) (v:Int) (a:DD) (why:Int) (o:Option (List (List AV))) (e:Int)
  (hA:Lend Tryz.prog 90 [.ptr 0 0 0,sdA up,.int .i64 v,a.av,.int .i64 why] [sxS n M piv,sxB lev m n,obC cr,obL lr,sxV xs,.map ck bs dr] [0,1,5] 0 fun r os=>r = .tup [nilOr o,.int .i64 e]∧os=[sxS n M piv,sxB lev m' n,obC cr',obL lr',sxV xs',.map ck bs dr]) :
  Lend Tryz.prog (spF up) [.ptr 0 0 0,.int .i64 v,a.av,.int .i64 why] [sxS n M piv,sxB lev m n,obC cr,obL lr,sxV xs,.map ck bs dr] [0,1,5] 0 fun r os=>r = .tup [nilOr o,.int .i64 e]∧os=[sxS n M piv,sxB lev m' n,obC cr',obL lr',sxV xs',.map ck bs dr]:=by
 have h1:=sides_ok
 obtain ⟨⟨n',x',y'⟩,⟨m',z',w'⟩⟩:=a
 simp only [DD.av,DD.cells] at *
 unfold sxS sxB sxV obC obL sdA at hA
 unfold sxS sxB sxV obC obL
 cases up <;> cases o <;> simp only [sgS,spF,nilOr,if_true,if_false,Bool.false_eq_true] at *
 iterate 2
  ·(refine lend_of_W Tryz.func28 rfl (rs:=[Go.ResultVar.tmp 8,Go.ResultVar.tmp 9]) rfl (nt:=19) rfl (Nat.le_of_ble_eq_true rfl) ?_;simp only [idxL_nil,idxL_cons,List.length_cons,List.length_nil,List.replicate,mv_any,mv_und,mv_int,mv_bool,mv_str,mv_nils,mv_sl,mv_ia,mv_nilp,mv_nilif,mv_nilfn,mv_nilmp,mv_gl,mv_sref,mv_ptr,mv_mp,mv_agg,mv_tup,mv_fn,mv_md,mvs_nil,mvs_cons,omv_dead,omv_arr,omv_arrf,omv_map,List.map_cons,List.map_nil,List.cons_append,List.nil_append,List.getD_cons_zero,List.getD_cons_succ,Nat.add_zero,Nat.reduceAdd])
   refine W_seq ?_
   ((refine W_regV ?_);intro K hK;(refine sNa ?_))
   (refine hK _ ?_;clear hK K)
   ((refine W_seqS mixed 6 [] (by kernel_rfl) ?_);intro K hK;(refine sNa ?_))
   (refine ⟨by kernel_rfl,_,.pure rfl (h1),?_⟩;(try (refine sNa ?_)))
   (refine ⟨by kernel_rfl,call_lendB (hA) [19,20,21,22,23,24] [] [21,22,23] rfl (by decide) rfl rfl (by simp only [mv_any,mv_und,mv_int,mv_bool,mv_str,mv_nils,mv_sl,mv_ia,mv_nilp,mv_nilif,mv_nilfn,mv_nilmp,mv_gl,mv_sref,mv_ptr,mv_mp,mv_agg,mv_tup,mv_fn,mv_md,mvs_nil,mvs_cons,omv_dead,omv_arr,omv_arrf,omv_map,List.map_cons,List.map_nil,List.cons_append,List.nil_append,List.getD_cons_zero,List.getD_cons_succ,Nat.add_zero,Nat.reduceAdd]) (by simp only [mv_any,mv_und,mv_int,mv_bool,mv_str,mv_nils,mv_sl,mv_ia,mv_nilp,mv_nilif,mv_nilfn,mv_nilmp,mv_gl,mv_sref,mv_ptr,mv_mp,mv_agg,mv_tup,mv_fn,mv_md,mvs_nil,mvs_cons,omv_dead,omv_arr,omv_arrf,omv_map,List.map_cons,List.map_nil,List.cons_append,List.nil_append,List.getD_cons_zero,List.getD_cons_succ,Nat.add_zero,Nat.reduceAdd]) rfl rfl rfl rfl fun r_ os_ hr_ hl_=>?_⟩;obtain ⟨rfl,rfl⟩:=hr_;clear hl_;simp only [killsL_nil,killsL_cons,killO_nil,killO_cons,putL_nil,putL_cons,List.set,kill_any,kill_und,kill_int,kill_bool,kill_str,kill_nils,kill_sl,kill_ia,kill_nilp,kill_nilif,kill_nilfn,kill_nilmp,kill_gl,kill_sref,kill_ptr,kill_agg,kill_tup,kill_fn,kill_ifc,kills_nil,kills_cons,kill_dead,kill_arr,kill_arrf,kill_mp,kill_it,kill_md,kill_map,kill_iter,Nat.reduceEqDiff,reduceCtorEq,if_false,if_true,mv_any,mv_und,mv_int,mv_bool,mv_str,mv_nils,mv_sl,mv_ia,mv_nilp,mv_nilif,mv_nilfn,mv_nilmp,mv_gl,mv_sref,mv_ptr,mv_mp,mv_agg,mv_tup,mv_fn,mv_md,mvs_nil,mvs_cons,omv_dead,omv_arr,omv_arrf,omv_map,List.map_cons,List.map_nil,List.cons_append,List.nil_append,List.getD_cons_zero,List.getD_cons_succ,Nat.add_zero,Nat.reduceAdd];(try (refine sNa ?_)))
   (refine hK _ ?_;clear hK K)
   refine W_ret ?_
   (simp only [thenW,blockW,lendQ,resW,resV,asOne_nil,asOne_one,asOne_two,asOne_three,List.getD_cons_zero,List.getD_cons_succ];exact lend_end [] [0,1,2,3,4,5] rfl rfl (by decide) rfl (by simp only [backN,Nat.reduceLT,if_true,if_false,Nat.reduceSub,mv_any,mv_und,mv_int,mv_bool,mv_str,mv_nils,mv_sl,mv_ia,mv_nilp,mv_nilif,mv_nilfn,mv_nilmp,mv_gl,mv_sref,mv_ptr,mv_mp,mv_agg,mv_tup,mv_fn,mv_md,mvs_nil,mvs_cons,omv_dead,omv_arr,omv_arrf,omv_map,List.map_cons,List.map_nil,List.cons_append,List.nil_append,List.getD_cons_zero,List.getD_cons_succ,Nat.add_zero,Nat.reduceAdd]) (by simp only [backN,Nat.reduceLT,if_true,if_false,Nat.reduceSub,mv_any,mv_und,mv_int,mv_bool,mv_str,mv_nils,mv_sl,mv_ia,mv_nilp,mv_nilif,mv_nilfn,mv_nilmp,mv_gl,mv_sref,mv_ptr,mv_mp,mv_agg,mv_tup,mv_fn,mv_md,mvs_nil,mvs_cons,omv_dead,omv_arr,omv_arrf,omv_map,List.map_cons,List.map_nil,List.cons_append,List.nil_append,List.getD_cons_zero,List.getD_cons_succ,Nat.add_zero,Nat.reduceAdd]) (⟨rfl,rfl⟩))
 iterate 2
  ·(refine lend_of_W Tryz.func43 rfl (rs:=[Go.ResultVar.tmp 8,Go.ResultVar.tmp 9]) rfl (nt:=19) rfl (Nat.le_of_ble_eq_true rfl) ?_;simp only [idxL_nil,idxL_cons,List.length_cons,List.length_nil,List.replicate,mv_any,mv_und,mv_int,mv_bool,mv_str,mv_nils,mv_sl,mv_ia,mv_nilp,mv_nilif,mv_nilfn,mv_nilmp,mv_gl,mv_sref,mv_ptr,mv_mp,mv_agg,mv_tup,mv_fn,mv_md,mvs_nil,mvs_cons,omv_dead,omv_arr,omv_arrf,omv_map,List.map_cons,List.map_nil,List.cons_append,List.nil_append,List.getD_cons_zero,List.getD_cons_succ,Nat.add_zero,Nat.reduceAdd])
   refine W_seq ?_
   ((refine W_regV ?_);intro K hK;(refine sNa ?_))
   (refine hK _ ?_;clear hK K)
   ((refine W_seqS mixed 6 [] (by kernel_rfl) ?_);intro K hK;(refine sNa ?_))
   (refine ⟨by kernel_rfl,_,.pure rfl (h1),?_⟩;(try (refine sNa ?_)))
   (refine ⟨by kernel_rfl,call_lendB (hA) [19,20,21,22,23,24] [] [21,22,23] rfl (by decide) rfl rfl (by simp only [mv_any,mv_und,mv_int,mv_bool,mv_str,mv_nils,mv_sl,mv_ia,mv_nilp,mv_nilif,mv_nilfn,mv_nilmp,mv_gl,mv_sref,mv_ptr,mv_mp,mv_agg,mv_tup,mv_fn,mv_md,mvs_nil,mvs_cons,omv_dead,omv_arr,omv_arrf,omv_map,List.map_cons,List.map_nil,List.cons_append,List.nil_append,List.getD_cons_zero,List.getD_cons_succ,Nat.add_zero,Nat.reduceAdd]) (by simp only [mv_any,mv_und,mv_int,mv_bool,mv_str,mv_nils,mv_sl,mv_ia,mv_nilp,mv_nilif,mv_nilfn,mv_nilmp,mv_gl,mv_sref,mv_ptr,mv_mp,mv_agg,mv_tup,mv_fn,mv_md,mvs_nil,mvs_cons,omv_dead,omv_arr,omv_arrf,omv_map,List.map_cons,List.map_nil,List.cons_append,List.nil_append,List.getD_cons_zero,List.getD_cons_succ,Nat.add_zero,Nat.reduceAdd]) rfl rfl rfl rfl fun r_ os_ hr_ hl_=>?_⟩;obtain ⟨rfl,rfl⟩:=hr_;clear hl_;simp only [killsL_nil,killsL_cons,killO_nil,killO_cons,putL_nil,putL_cons,List.set,kill_any,kill_und,kill_int,kill_bool,kill_str,kill_nils,kill_sl,kill_ia,kill_nilp,kill_nilif,kill_nilfn,kill_nilmp,kill_gl,kill_sref,kill_ptr,kill_agg,kill_tup,kill_fn,kill_ifc,kills_nil,kills_cons,kill_dead,kill_arr,kill_arrf,kill_mp,kill_it,kill_md,kill_map,kill_iter,Nat.reduceEqDiff,reduceCtorEq,if_false,if_true,mv_any,mv_und,mv_int,mv_bool,mv_str,mv_nils,mv_sl,mv_ia,mv_nilp,mv_nilif,mv_nilfn,mv_nilmp,mv_gl,mv_sref,mv_ptr,mv_mp,mv_agg,mv_tup,mv_fn,mv_md,mvs_nil,mvs_cons,omv_dead,omv_arr,omv_arrf,omv_map,List.map_cons,List.map_nil,List.cons_append,List.nil_append,List.getD_cons_zero,List.getD_cons_succ,Nat.add_zero,Nat.reduceAdd];(try (refine sNa ?_)))
   (refine hK _ ?_;clear hK K)
   refine W_ret ?_
   (simp only [thenW,blockW,lendQ,resW,resV,asOne_nil,asOne_one,asOne_two,asOne_three,List.getD_cons_zero,List.getD_cons_succ];exact lend_end [] [0,1,2,3,4,5] rfl rfl (by decide) rfl (by simp only [backN,Nat.reduceLT,if_true,if_false,Nat.reduceSub,mv_any,mv_und,mv_int,mv_bool,mv_str,mv_nils,mv_sl,mv_ia,mv_nilp,mv_nilif,mv_nilfn,mv_nilmp,mv_gl,mv_sref,mv_ptr,mv_mp,mv_agg,mv_tup,mv_fn,mv_md,mvs_nil,mvs_cons,omv_dead,omv_arr,omv_arrf,omv_map,List.map_cons,List.map_nil,List.cons_append,List.nil_append,List.getD_cons_zero,List.getD_cons_succ,Nat.add_zero,Nat.reduceAdd]) (by simp only [backN,Nat.reduceLT,if_true,if_false,Nat.reduceSub,mv_any,mv_und,mv_int,mv_bool,mv_str,mv_nils,mv_sl,mv_ia,mv_nilp,mv_nilif,mv_nilfn,mv_nilmp,mv_gl,mv_sref,mv_ptr,mv_mp,mv_agg,mv_tup,mv_fn,mv_md,mvs_nil,mvs_cons,omv_dead,omv_arr,omv_arrf,omv_map,List.map_cons,List.map_nil,List.cons_append,List.nil_append,List.getD_cons_zero,List.getD_cons_succ,Nat.add_zero,Nat.reduceAdd]) (⟨rfl,rfl⟩))
def bg1:List LL:=[⟨⟨true,dq (1,0),4⟩,zeroB⟩]
theorem sortM_nil:sortM []=[]:=by simp [sortM,keys,sortK]
theorem TG_nil:TG (rfT []):=⟨fun r hr=>(nomatch hr),fun r hr=>(nomatch hr),by simp [rfT]⟩
theorem zeroD_ok:zeroD0.ok:=⟨zeroR_ok,zeroR_ok⟩
theorem dq10_ok:(dq (1,0)).ok:=dq_ok (by decide +kernel)
theorem dq00_ok:(dq (0,0)).ok:=dq_ok (by decide +kernel)
theorem bgvar:Lend Tryz.prog 40 [.ptr 0 0 0] [sxS 0 [] 0,sxB 0 0 0,obC [],obL [],sxV [],.map 0 [] []] [0,1,5] 0 fun r os=>r = .tup [.int .i64 (0:Nat),.int .i64 0]∧os=[sxS 1 [] 0,sxB 0 0 1,obC [],obL (tab rowL [zeroL]),sxV [(0,0)],.map 0 [] []]:=by
 have h:=svar_ok 0 0 0 [] 0 [] [] [] 0 [] [] TG_nil rfl rfl (by omega) (by simp) rfl rfl
 rw [sortM_nil] at h
 exact h
theorem bgev:EvOk [] (([((0:Rat),(0:Rat))].set 0 (dq (1,0)).v).map dq):=by
 refine ⟨fun v=>?_,fun r hr=>(nomatch hr)⟩
 rw [dq_v]
 unfold valD
 split
 ·rename_i h
  have:v=0:=by simp at h;omega
  subst this
  exact ⟨dq10_ok,by decide +kernel⟩
 ·exact ⟨zeroD_ok,by decide +kernel⟩
theorem bgext:(bif true then extL [] (([((0:Rat),(0:Rat))].set 0 (dq (1,0)).v).map dq) else [((0:Rat),(0:Rat))])=[(1,0)]:=by
 rw [dq_v]
 show [(dq (1,0)).v]=_
 rw [dq_v]
theorem bglift:Lend Tryz.prog 28 [.ptr 0 0 0,.int .i64 (0:Nat),cD (1,0),.int .i64 4] [sxS 1 [] 0,sxB 0 0 1,obC [],obL (tab rowL [zeroL]),sxV [(0,0)],.map 0 [] []] [0,1,5] 0 fun r os=>r = .tup [.nils,.int .i64 0]∧os=[sxS 1 [] 0,sxB 0 1 1,obC [.int .i64 0::.bool false::.int .i64 0::zeroB.cells],obL (tab rowL bg1),sxV [(1,0)],.map 0 [] []]:=by
 have h1:=bslift_ok 0 0 1 [] (tab rowL [zeroL]) zeroL 0 (dq (1,0)) 4 rfl (by omega) (by simp [tab]) (by omega) (by omega) (by simp) zeroD_ok zeroD_ok dq10_ok
 have h2:Lend Tryz.prog (asF false) [.ptr 0 0 0,.int .i64 (0:Nat),(dq (1,0)).av,.int .i64 4] [obB 0 0 1,obC [],obL (tab rowL [zeroL])] [0,2] 0 fun r os=>r=saidA 1 0 0∧os=[obB 0 1 1,obC [.int .i64 0::.bool false::.int .i64 0::zeroB.cells],obL (tab rowL bg1)]:=h1.mono fun r os h=>by
  rw [dq_v] at h
  exact h
 have h3:=sasserted_go false 0 0 1 1 [] 0 [] [.int .i64 0::.bool false::.int .i64 0::zeroB.cells] (tab rowL [zeroL]) bg1 [(0,0)] 0 [] [] 0 (dq (1,0)) 4 1 true h2 (by omega) TG_nil rfl (by decide +kernel) (by omega) rfl rfl (by omega) (by simp) dq10_ok (by show LL.nm _=_;unfold LL.nm BB.nm;simp only [bg1,List.getD_cons_zero,dq_v,if_true];rfl) dq10_ok zeroD_ok dq00_ok (by decide +kernel) fun _=>bgev
 have h4:=sassert_ok false 0 0 1 1 [] 0 _ _ _ _ _ _ 0 [] [] 0 (dq (1,0)) 4 none 0 h3
 rw [bgext] at h4
 exact h4
theorem bgpress:Lend Tryz.prog 43 [.ptr 0 0 0,.int .i64 (0:Nat),cD (0,0),.int .i64 5] [sxS 1 [] 0,sxB 0 1 1,obC [.int .i64 0::.bool false::.int .i64 0::zeroB.cells],obL (tab rowL bg1),sxV [(1,0)],.map 0 [] []] [0,1,5] 0 fun r os=>r = .tup [.sl (tab rowQ [(5,1),(4,1)]),.int .i64 90]∧os=[sxS 1 [] 0,sxB 0 1 1,obC [.int .i64 0::.bool false::.int .i64 0::zeroB.cells],obL (tab rowL bg1),sxV [(1,0)],.map 0 [] []]:=by
 have h1:=bspress_ok 0 1 1 [.int .i64 0::.bool false::.int .i64 0::zeroB.cells] (tab rowL bg1) ⟨⟨true,dq (1,0),4⟩,zeroB⟩ 0 (dq (0,0)) 5 rfl (by omega) (by simp [tab,bg1]) (by omega) (by omega) (by simp) dq10_ok zeroD_ok dq00_ok
 have h2:Lend Tryz.prog (asF true) [.ptr 0 0 0,.int .i64 (0:Nat),(dq (0,0)).av,.int .i64 5] [obB 0 1 1,obC [.int .i64 0::.bool false::.int .i64 0::zeroB.cells],obL (tab rowL bg1)] [0,2] 0 fun r os=>r=saidA 2 4 0∧os=[obB 0 1 1,obC [.int .i64 0::.bool false::.int .i64 0::zeroB.cells],obL (tab rowL bg1)]:=h1.mono fun r os h=>by
  have e:decide (dsg (dsub (dq (1,0)).v (dq (0,0)).v)>0)=true:=by rw [dq_v,dq_v];decide +kernel
  dsimp only at h
  rw [e] at h
  exact h
 exact sassert_ok true 0 1 1 1 [] 0 _ _ _ _ _ _ 0 [] [] 0 (dq (0,0)) 5 (some (tab rowQ [(5,1),(4,1)])) 90 (sasserted_clash true 0 1 1 [] 0 _ _ _ 0 [] [] 0 (dq (0,0)) 5 4 h2)
theorem bgvalue:Look Tryz.prog 37 [.ptr 0 0 0,.int .i64 (0:Nat)] [sxS 1 [] 0,sxB 0 1 1,obC [.int .i64 0::.bool false::.int .i64 0::zeroB.cells],obL (tab rowL bg1),sxV [(1,0)],.map 0 [] []] (.tup [cD (1,0),.int .i64 0]) :=
 svalue_ok 0 1 1 [] 0 _ _ [(1,0)] 0 [] [] 0 (by omega) rfl dq10_ok
theorem begun_ok:Pure Tryz.prog 10 [] (· = .bool true):=by
 have h1:=snew_ok
 have h2:=bgvar
 have h3:=bglift
 have h4:=bgpress
 have h5:=bgvalue
 have w0:=f3whole_ok 0 (by omega) (by omega)
 have w1:=f3whole_ok 1 (by omega) (by omega)
 have o0:=f5of_ok (qr 0) (qr_ok (by decide))
 have o1:=f5of_ok (qr 1) (qr_ok (by decide +kernel))
 rw [qr_v,show (qr 0).av=cQ ((0:Int):Rat) from rfl] at o0
 rw [qr_v,show (qr 1).av=cQ ((1:Int):Rat) from rfl] at o1
 have hc:=f5cmp_ok (dq (1,0)) (dq (1,0)) dq10_ok dq10_ok (by rw [dq_v];decide +kernel)
 rw [show dsg (dsub (dq (1,0)).v (dq (1,0)).v)=0 by rw [dq_v];decide +kernel] at hc
 have hlen:(tab rowQ [(5,1),(4,1)]).length=2:=rfl
 generalize tab rowQ [(5,1),(4,1)]=ms at *
 rw [← dq_av] at h3 h4 h5 o0 o1
 generalize tab rowL bg1=LB at *
 generalize tab rowL [zeroL]=LA at *
 generalize (AV.int .i64 0::AV.bool false::AV.int .i64 0::zeroB.cells)=CA at *
 unfold sxS sxB sxV obC obL at *
 generalize tab cellsX [((1:Rat),(0:Rat))]=VB at *
 generalize tab cellsX [((0:Rat),(0:Rat))]=VA at *
 generalize dq ((1:Rat),(0:Rat))=r at *
 generalize dq ((0:Rat),(0:Rat))=u at *
 obtain ⟨⟨r1,r2,r3⟩,⟨r4,r5,r6⟩⟩:=r
 obtain ⟨⟨u1,u2,u3⟩,⟨u4,u5,u6⟩⟩:=u
 simp only [show tab rowU ([]:TM)=[] from rfl,DD.av,DD.cells,Int.natCast_zero,Int.natCast_one] at *
 (refine pureW Tryz.func10 rfl (rs:=[Go.ResultVar.tmp 0]) rfl (n:=70) rfl ?_;simp only [List.length_cons,List.length_nil,List.replicate,List.cons_append,List.nil_append])
 refine W_seq ?_
 ((refine W_regV ?_);intro K hK;(refine sNa ?_))
 (refine hK _ ?_;clear hK K)
 ((refine W_seqR ?_);intro K hK;(refine sNa ?_))
 (refine ⟨by kernel_rfl,call_lendB (h1) [] [10,11,12,13,14,15] [] rfl (by decide) rfl rfl (by simp only [mv_any,mv_und,mv_int,mv_bool,mv_str,mv_nils,mv_sl,mv_ia,mv_nilp,mv_nilif,mv_nilfn,mv_nilmp,mv_gl,mv_sref,mv_ptr,mv_mp,mv_agg,mv_tup,mv_fn,mv_md,mvs_nil,mvs_cons,omv_dead,omv_arr,omv_arrf,omv_map,List.map_cons,List.map_nil,List.cons_append,List.nil_append,List.getD_cons_zero,List.getD_cons_succ,Nat.add_zero,Nat.reduceAdd]) (by simp only [mv_any,mv_und,mv_int,mv_bool,mv_str,mv_nils,mv_sl,mv_ia,mv_nilp,mv_nilif,mv_nilfn,mv_nilmp,mv_gl,mv_sref,mv_ptr,mv_mp,mv_agg,mv_tup,mv_fn,mv_md,mvs_nil,mvs_cons,omv_dead,omv_arr,omv_arrf,omv_map,List.map_cons,List.map_nil,List.cons_append,List.nil_append,List.getD_cons_zero,List.getD_cons_succ,Nat.add_zero,Nat.reduceAdd]) rfl rfl rfl rfl fun r_ os_ hr_ hl_=>?_⟩;obtain ⟨rfl,rfl⟩:=hr_;clear hl_;simp only [killsL_nil,killsL_cons,killO_nil,killO_cons,putL_nil,putL_cons,List.set,kill_any,kill_und,kill_int,kill_bool,kill_str,kill_nils,kill_sl,kill_ia,kill_nilp,kill_nilif,kill_nilfn,kill_nilmp,kill_gl,kill_sref,kill_ptr,kill_agg,kill_tup,kill_fn,kill_ifc,kills_nil,kills_cons,kill_dead,kill_arr,kill_arrf,kill_mp,kill_it,kill_md,kill_map,kill_iter,Nat.reduceEqDiff,reduceCtorEq,if_false,if_true,mv_any,mv_und,mv_int,mv_bool,mv_str,mv_nils,mv_sl,mv_ia,mv_nilp,mv_nilif,mv_nilfn,mv_nilmp,mv_gl,mv_sref,mv_ptr,mv_mp,mv_agg,mv_tup,mv_fn,mv_md,mvs_nil,mvs_cons,omv_dead,omv_arr,omv_arrf,omv_map,List.map_cons,List.map_nil,List.cons_append,List.nil_append,List.getD_cons_zero,List.getD_cons_succ,Nat.add_zero,Nat.reduceAdd];(try (refine sNa ?_)))
 (refine hK _ ?_;clear hK K)
 ((refine W_seq (W_seqV ?_));intro K hK;(refine sNa ?_))
 (refine hK _ ?_;clear hK K)
 refine W_cf rfl ?_
 refine W_skip ?_
 simp only [thenW]
 ((refine W_seqR ?_);intro K hK;(refine sNa ?_))
 (refine ⟨by kernel_rfl,call_lendB (h2) [10,11,12,13,14,15] [] [12,13,14] rfl (by decide) rfl rfl (by simp only [mv_any,mv_und,mv_int,mv_bool,mv_str,mv_nils,mv_sl,mv_ia,mv_nilp,mv_nilif,mv_nilfn,mv_nilmp,mv_gl,mv_sref,mv_ptr,mv_mp,mv_agg,mv_tup,mv_fn,mv_md,mvs_nil,mvs_cons,omv_dead,omv_arr,omv_arrf,omv_map,List.map_cons,List.map_nil,List.cons_append,List.nil_append,List.getD_cons_zero,List.getD_cons_succ,Nat.add_zero,Nat.reduceAdd]) (by simp only [mv_any,mv_und,mv_int,mv_bool,mv_str,mv_nils,mv_sl,mv_ia,mv_nilp,mv_nilif,mv_nilfn,mv_nilmp,mv_gl,mv_sref,mv_ptr,mv_mp,mv_agg,mv_tup,mv_fn,mv_md,mvs_nil,mvs_cons,omv_dead,omv_arr,omv_arrf,omv_map,List.map_cons,List.map_nil,List.cons_append,List.nil_append,List.getD_cons_zero,List.getD_cons_succ,Nat.add_zero,Nat.reduceAdd]) rfl rfl rfl rfl fun r_ os_ hr_ hl_=>?_⟩;obtain ⟨rfl,rfl⟩:=hr_;clear hl_;simp only [killsL_nil,killsL_cons,killO_nil,killO_cons,putL_nil,putL_cons,List.set,kill_any,kill_und,kill_int,kill_bool,kill_str,kill_nils,kill_sl,kill_ia,kill_nilp,kill_nilif,kill_nilfn,kill_nilmp,kill_gl,kill_sref,kill_ptr,kill_agg,kill_tup,kill_fn,kill_ifc,kills_nil,kills_cons,kill_dead,kill_arr,kill_arrf,kill_mp,kill_it,kill_md,kill_map,kill_iter,Nat.reduceEqDiff,reduceCtorEq,if_false,if_true,mv_any,mv_und,mv_int,mv_bool,mv_str,mv_nils,mv_sl,mv_ia,mv_nilp,mv_nilif,mv_nilfn,mv_nilmp,mv_gl,mv_sref,mv_ptr,mv_mp,mv_agg,mv_tup,mv_fn,mv_md,mvs_nil,mvs_cons,omv_dead,omv_arr,omv_arrf,omv_map,List.map_cons,List.map_nil,List.cons_append,List.nil_append,List.getD_cons_zero,List.getD_cons_succ,Nat.add_zero,Nat.reduceAdd];(try (refine sNa ?_)))
 (refine hK _ ?_;clear hK K)
 ((refine W_seqR ?_);intro K hK;(refine sNa ?_))
 (refine ⟨by kernel_rfl,call_pure rfl (w1) fun r hr=>?_⟩;subst hr;(refine sNa ?_;try exact True.intro))
 (refine ⟨by kernel_rfl,call_pure rfl (o1) fun r hr=>?_⟩;subst hr;(refine sNa ?_;try exact True.intro))
 (refine ⟨by kernel_rfl,call_lendB (h3) [10,11,12,13,14,15] [] [12,13,14] rfl (by decide) rfl rfl (by simp only [mv_any,mv_und,mv_int,mv_bool,mv_str,mv_nils,mv_sl,mv_ia,mv_nilp,mv_nilif,mv_nilfn,mv_nilmp,mv_gl,mv_sref,mv_ptr,mv_mp,mv_agg,mv_tup,mv_fn,mv_md,mvs_nil,mvs_cons,omv_dead,omv_arr,omv_arrf,omv_map,List.map_cons,List.map_nil,List.cons_append,List.nil_append,List.getD_cons_zero,List.getD_cons_succ,Nat.add_zero,Nat.reduceAdd]) (by simp only [mv_any,mv_und,mv_int,mv_bool,mv_str,mv_nils,mv_sl,mv_ia,mv_nilp,mv_nilif,mv_nilfn,mv_nilmp,mv_gl,mv_sref,mv_ptr,mv_mp,mv_agg,mv_tup,mv_fn,mv_md,mvs_nil,mvs_cons,omv_dead,omv_arr,omv_arrf,omv_map,List.map_cons,List.map_nil,List.cons_append,List.nil_append,List.getD_cons_zero,List.getD_cons_succ,Nat.add_zero,Nat.reduceAdd]) rfl rfl rfl rfl fun r_ os_ hr_ hl_=>?_⟩;obtain ⟨rfl,rfl⟩:=hr_;clear hl_;simp only [killsL_nil,killsL_cons,killO_nil,killO_cons,putL_nil,putL_cons,List.set,kill_any,kill_und,kill_int,kill_bool,kill_str,kill_nils,kill_sl,kill_ia,kill_nilp,kill_nilif,kill_nilfn,kill_nilmp,kill_gl,kill_sref,kill_ptr,kill_agg,kill_tup,kill_fn,kill_ifc,kills_nil,kills_cons,kill_dead,kill_arr,kill_arrf,kill_mp,kill_it,kill_md,kill_map,kill_iter,Nat.reduceEqDiff,reduceCtorEq,if_false,if_true,mv_any,mv_und,mv_int,mv_bool,mv_str,mv_nils,mv_sl,mv_ia,mv_nilp,mv_nilif,mv_nilfn,mv_nilmp,mv_gl,mv_sref,mv_ptr,mv_mp,mv_agg,mv_tup,mv_fn,mv_md,mvs_nil,mvs_cons,omv_dead,omv_arr,omv_arrf,omv_map,List.map_cons,List.map_nil,List.cons_append,List.nil_append,List.getD_cons_zero,List.getD_cons_succ,Nat.add_zero,Nat.reduceAdd];(try (refine sNa ?_)))
 (refine hK _ ?_;clear hK K)
 ((refine W_seqR ?_);intro K hK;(refine sNa ?_))
 (refine ⟨by kernel_rfl,call_pure rfl (w0) fun r hr=>?_⟩;subst hr;(refine sNa ?_;try exact True.intro))
 (refine ⟨by kernel_rfl,call_pure rfl (o0) fun r hr=>?_⟩;subst hr;(refine sNa ?_;try exact True.intro))
 (refine ⟨by kernel_rfl,call_lendB (h4) [10,11,12,13,14,15] [] [12,13,14] rfl (by decide) rfl rfl (by simp only [mv_any,mv_und,mv_int,mv_bool,mv_str,mv_nils,mv_sl,mv_ia,mv_nilp,mv_nilif,mv_nilfn,mv_nilmp,mv_gl,mv_sref,mv_ptr,mv_mp,mv_agg,mv_tup,mv_fn,mv_md,mvs_nil,mvs_cons,omv_dead,omv_arr,omv_arrf,omv_map,List.map_cons,List.map_nil,List.cons_append,List.nil_append,List.getD_cons_zero,List.getD_cons_succ,Nat.add_zero,Nat.reduceAdd]) (by simp only [mv_any,mv_und,mv_int,mv_bool,mv_str,mv_nils,mv_sl,mv_ia,mv_nilp,mv_nilif,mv_nilfn,mv_nilmp,mv_gl,mv_sref,mv_ptr,mv_mp,mv_agg,mv_tup,mv_fn,mv_md,mvs_nil,mvs_cons,omv_dead,omv_arr,omv_arrf,omv_map,List.map_cons,List.map_nil,List.cons_append,List.nil_append,List.getD_cons_zero,List.getD_cons_succ,Nat.add_zero,Nat.reduceAdd]) rfl rfl rfl rfl fun r_ os_ hr_ hl_=>?_⟩;obtain ⟨rfl,rfl⟩:=hr_;clear hl_;simp only [killsL_nil,killsL_cons,killO_nil,killO_cons,putL_nil,putL_cons,List.set,kill_any,kill_und,kill_int,kill_bool,kill_str,kill_nils,kill_sl,kill_ia,kill_nilp,kill_nilif,kill_nilfn,kill_nilmp,kill_gl,kill_sref,kill_ptr,kill_agg,kill_tup,kill_fn,kill_ifc,kills_nil,kills_cons,kill_dead,kill_arr,kill_arrf,kill_mp,kill_it,kill_md,kill_map,kill_iter,Nat.reduceEqDiff,reduceCtorEq,if_false,if_true,mv_any,mv_und,mv_int,mv_bool,mv_str,mv_nils,mv_sl,mv_ia,mv_nilp,mv_nilif,mv_nilfn,mv_nilmp,mv_gl,mv_sref,mv_ptr,mv_mp,mv_agg,mv_tup,mv_fn,mv_md,mvs_nil,mvs_cons,omv_dead,omv_arr,omv_arrf,omv_map,List.map_cons,List.map_nil,List.cons_append,List.nil_append,List.getD_cons_zero,List.getD_cons_succ,Nat.add_zero,Nat.reduceAdd];(try (refine sNa ?_)))
 (refine hK _ ?_;clear hK K)
 ((refine W_seqVM ?_);intro K hK;(refine sNa ?_))
 (refine ⟨by kernel_rfl,_,.lookB (h5) [10,11,12,13,14,15] rfl (by decide) rfl (fun _=>by simp only [mv_any,mv_und,mv_int,mv_bool,mv_str,mv_nils,mv_sl,mv_ia,mv_nilp,mv_nilif,mv_nilfn,mv_nilmp,mv_gl,mv_sref,mv_ptr,mv_mp,mv_agg,mv_tup,mv_fn,mv_md,mvs_nil,mvs_cons,omv_dead,omv_arr,omv_arrf,omv_map,List.map_cons,List.map_nil,List.cons_append,List.nil_append,List.getD_cons_zero,List.getD_cons_succ,Nat.add_zero,Nat.reduceAdd]) (fun _=>by simp only [mv_any,mv_und,mv_int,mv_bool,mv_str,mv_nils,mv_sl,mv_ia,mv_nilp,mv_nilif,mv_nilfn,mv_nilmp,mv_gl,mv_sref,mv_ptr,mv_mp,mv_agg,mv_tup,mv_fn,mv_md,mvs_nil,mvs_cons,omv_dead,omv_arr,omv_arrf,omv_map,List.map_cons,List.map_nil,List.cons_append,List.nil_append,List.getD_cons_zero,List.getD_cons_succ,Nat.add_zero,Nat.reduceAdd]) rfl (fun _=>by simp only [mv_any,mv_und,mv_int,mv_bool,mv_str,mv_nils,mv_sl,mv_ia,mv_nilp,mv_nilif,mv_nilfn,mv_nilmp,mv_gl,mv_sref,mv_ptr,mv_mp,mv_agg,mv_tup,mv_fn,mv_md,mvs_nil,mvs_cons,omv_dead,omv_arr,omv_arrf,omv_map,List.map_cons,List.map_nil,List.cons_append,List.nil_append,List.getD_cons_zero,List.getD_cons_succ,Nat.add_zero,Nat.reduceAdd]),?_⟩;(try (refine sNa ?_));(repeat refine aI ?_))
 (refine hK _ ?_;clear hK K)
 have e0:((0:Int) == 0)=true:=rfl
 have e9:((90:Int) == 90)=true:=rfl
 have e2:(((2:Nat):Int) == 2)=true:=rfl
 have e22:((2:Int) == 2)=true:=rfl
 ((refine W_seqD mixed [] (by kernel_rfl) ?_);intro K hK;(refine sNaX (And.intro hlen (And.intro e0 (And.intro e9 (And.intro e2 e22)))) ?_))
 (refine ⟨by kernel_rfl,_,.pure rfl (w1),?_⟩;(try (refine sNa ?_)))
 (refine ⟨by kernel_rfl,_,.pure rfl (o1),?_⟩;(try (refine sNa ?_)))
 (refine ⟨by kernel_rfl,_,.pure rfl (hc),?_⟩;(try (refine sNa ?_)))
 (refine sNaX e0 ?_;try exact True.intro)
 (refine hK _ ?_;clear hK K)
 refine W_ret ?_
 (refine qG ?_;try exact True.intro);try (refine sNaV ?_;try exact True.intro)
theorem consts_law:Pure Tryz.prog 3 [] (· = .bool true):=by
 have h1:=begun_ok
 (refine pureW Tryz.func3 rfl (rs:=[Go.ResultVar.tmp 0]) rfl (n:=8) rfl ?_;simp only [List.length_cons,List.length_nil,List.replicate,List.cons_append,List.nil_append])
 refine W_seq ?_
 ((refine W_regV ?_);intro K hK;(refine sNa ?_))
 (refine hK _ ?_;clear hK K)
 ((refine W_seqV ?_);intro K hK;(refine sNa ?_))
 (refine ⟨by kernel_rfl,_,.pure rfl (h1),?_⟩;(try (refine sNa ?_)))
 (refine hK _ ?_;clear hK K)
 refine W_ret ?_
 (refine qG ?_;try exact True.intro);try (refine sNaV ?_;try exact True.intro)
section
variable {H:Type} {encH:TypeId × Value→H} {P:Program} {w:World}
def Opens (encH:TypeId × Value→H) (P:Program) (w:World) (t:TypeId) {α:Type} (e:α→List AV) (good:α→Prop) (wt:α→Nat):Prop :=
 ∀ (fuel:Nat) (cs:List Value) (x:DataW H × List MemPlace),DataW.trod encH P w 0 (fun _=>true) true fuel t cs=some x→∃ a,Rps w (fun _=>False) noPl (e a) cs∧good a∧wt a≤Rows.uptoBulk x.1
theorem Opens.bool {t:TypeId} (ht:P.underlying t=some .bool):Opens encH P w t (fun b:Bool=>[.bool b]) (fun _=>True) (fun _=>1):=by
 intro fuel cs x h
 obtain ⟨b,rfl,rfl⟩:=DataW.trod_bool ht h
 exact ⟨b,⟨_,_,rfl,rfl,rfl⟩,trivial,by simp [Rows.uptoBulk]⟩
theorem Opens.i64 {t:TypeId} (ht:P.underlying t=some (.int .i64)):Opens encH P w t (fun n:Int=>[.int .i64 n]) (fun n => -9223372036854775808≤n∧n≤9223372036854775807) (fun _=>1):=by
 intro fuel cs x h
 obtain ⟨n,rfl,rfl,hw⟩:=DataW.trod_int ht h
 exact ⟨n,⟨_,_,rfl,rfl,rfl⟩,bounds_i64 hw,by simp [Rows.uptoBulk]⟩
theorem Opens.u32 {t:TypeId} (ht:P.underlying t=some (.int .u32)):Opens encH P w t (fun n:Nat=>[.int .u32 (n:Int)]) (fun n=>n<4294967296) (fun _=>1):=by
 intro fuel cs x h
 obtain ⟨n,rfl,rfl,hw⟩:=DataW.trod_int ht h
 obtain ⟨h1,h2⟩:=bounds_u32 hw
 refine ⟨n.toNat,⟨_,_,rfl,?_,rfl⟩,by omega,by simp [Rows.uptoBulk]⟩
 show Value.int .u32 n=_
 rw [Int.toNat_of_nonneg h1]
theorem Opens.str {t:TypeId} (ht:P.underlying t=some .string):Opens encH P w t (fun s:ByteArray=>[.str s]) (fun _=>True) (fun s=>s.size+1):=by
 intro fuel cs x h
 obtain ⟨s,rfl,rfl,hs⟩:=DataW.trod_string ht h
 refine ⟨s,⟨_,_,rfl,rfl,rfl⟩,trivial,?_⟩
 simp only [Rows.uptoBulk]
 have:s.data.toList.length=s.size:=by rw [Array.length_toList];rfl
 omega
theorem Opens.map {t:TypeId} {α β:Type} {e:α→List AV} {good:α→Prop} {wt:α→Nat} (h:Opens encH P w t e good wt) {e':β→List AV} {good':β→Prop} {wt':β→Nat} (f:α→β)
  (he:∀ a,e' (f a)=e a) (hg:∀ a,good a→good' (f a)) (hw:∀ a,wt' (f a)≤wt a):Opens encH P w t e' good' wt':=by
 intro fuel cs x hx
 obtain ⟨a,h1,h2,h3⟩:=h fuel cs x hx
 exact ⟨f a,by rw [he];exact h1,hg a h2,Nat.le_trans (hw a) h3⟩
theorem Opens.two {t:TypeId} {f0 f1:Field} (ht:P.underlying t=some (.struct #[f0,f1])) (o0:f0.offset=0) (o1:f1.offset=P.cellsOf f0.type) (hl:P.cellsOf t=P.cellsOf f0.type+P.cellsOf f1.type)
  {α β:Type} {e0:α→List AV} {g0:α→Prop} {w0:α→Nat} {e1:β→List AV} {g1:β→Prop} {w1:β→Nat} (h0:Opens encH P w f0.type e0 g0 w0) (h1:Opens encH P w f1.type e1 g1 w1) :
  Opens encH P w t (fun p:α × β=>e0 p.1++e1 p.2) (fun p=>g0 p.1∧g1 p.2) (fun p=>w0 p.1+w1 p.2+1):=by
 intro fuel cs x h
 obtain ⟨xs,n,_,rfl,hlen,hxs,hf⟩:=DataW.trod_struct ht h
 match xs,hxs with
 | [y0,y1],_ =>
  obtain ⟨a,r0,q0,b0⟩:=h0 _ _ _ (hf 0 f0 rfl)
  obtain ⟨b,r1,q1,b1⟩:=h1 _ _ _ (hf 1 f1 rfl)
  refine ⟨(a,b),?_,⟨q0,q1⟩,?_⟩
  ·have:=r0.append r1
   rw [o0,o1,List.drop_zero,List.take_of_length_le (l:=cs.drop _) (by rw [List.length_drop];omega),List.take_append_drop] at this
   exact this
  ·simp only [List.map_cons,List.map_nil,Rows.uptoBulk,Rows.uptoBulkAll]
   omega
def sumW {α:Type} (wt:α→Nat):List α→Nat
 | []=>0
 | x::l=>wt x+sumW wt l
theorem sumW_snoc {α:Type} (wt:α→Nat) (l:List α) (x:α):sumW wt (l++[x])=sumW wt l+wt x:=by
 induction l with
 | nil=>simp [sumW]
 | cons y l ih=>simp only [List.cons_append,sumW,ih];omega
theorem bulk_append (l r:List (DataW H)):Rows.uptoBulkAll (l++r)=Rows.uptoBulkAll l+Rows.uptoBulkAll r:=by
 induction l with
 | nil=>simp [Rows.uptoBulkAll]
 | cons x l ih=>simp only [List.cons_append,Rows.uptoBulkAll,ih];omega
theorem Opens.slice {t e:TypeId} (ht:P.underlying t=some (.slice e)) (hpos:0<P.cellsOf e) {α:Type} {enc:α→List AV} {good:α→Prop} {wt:α→Nat} (he:Opens encH P w e enc good wt) :
  Opens encH P w t (fun l:List α=>[.sl (tab enc l)]) (fun l=>∀ x∈l,good x) (fun l=>sumW wt l+1):=by
 intro fuel cs x h
 rcases DataW.trod_slice ht h with ⟨rfl,rfl⟩ | ⟨a,len,cap,elems,rest,n,_,rfl,rfl,hb,hlc,hcm,hlen,hel,_,_⟩
 ·exact ⟨[],⟨_,_,rfl,⟨none,0,rfl,Nat.le_refl _,by decide,.inl rfl⟩,rfl⟩,by simp,by simp [Rows.uptoBulk,sumW]⟩
 ·obtain ⟨b,o,spot⟩:=a
  have step:∀ m,m≤len→∃ (l:List α) (vss:List (List Value)),l.length=m∧vss.flatten.length=m*P.cellsOf e∧RpR w (fun _=>False) noPl (tab enc l) vss∧(∀ x∈l,good x)∧sumW wt l≤Rows.uptoBulkAll ((elems.take m).map (·.1)) ∧
    (0<m→spot=none∧b<w.heap.size)∧CellsAt w b o vss.flatten:=by
   intro m
   induction m with
   | zero=>exact fun _=>⟨[],[],rfl,by simp,rfl,by simp,by simp [sumW,Rows.uptoBulkAll],by omega,fun j u hj=>by simp at hj⟩
   | succ m ih =>
    intro hm
    obtain ⟨l,vss,h1,h2,h3,h4,h5,h6,h7⟩:=ih (by omega)
    have hi:=hel m (by omega)
    have hg:elems[m]?=some (elems[m]'(by omega)):=by simp
    rw [hg] at hi
    obtain ⟨cs',hc,hd⟩:=Option.bind_eq_some_iff.1 hi
    obtain ⟨_,hcl,hcell⟩:=World.cells?_some hc
    obtain ⟨y,hy1,hy2,hy3⟩:=he _ _ _ hd
    obtain ⟨c0,hc0⟩:∃ c0,cs'[0]?=some c0:=⟨cs'[0]'(by omega),by simp⟩
    have g0:w.cell? (((⟨b,o,spot⟩:Addr).add (m*P.cellsOf e)).add 0)=some c0:=by rw [hcell 0 hpos,hc0]
    have hsp:spot=none∧b<w.heap.size:=by
     have hs:spot=none:=by
      cases m with
      | zero=>have:=World.cell?_spot g0;simpa [Addr.add] using this
      | succ m=>exact (h6 (by omega)).1
     refine ⟨hs,?_⟩
     have:((⟨b,o,spot⟩:Addr).add (m*P.cellsOf e)).add 0=⟨b,o+m*P.cellsOf e,none⟩:=by rw [hs,WideShapes.add_plain,WideShapes.add_plain];rfl
     rw [this] at g0
     unfold World.cell? at g0
     split at g0
     ·rename_i heq
      exact (Array.getElem?_eq_some_iff.1 heq).1
     ·cases g0
    obtain ⟨hs,hbs⟩:=hsp
    subst hs
    refine ⟨l++[y],vss++[cs'],by simp [h1],?_,?_,?_,?_,fun _=>⟨rfl,hbs⟩,?_⟩
    ·rw [List.flatten_append,List.length_append,h2,Nat.succ_mul]
     simp [hcl]
    ·rw [← tab_snoc]
     exact h3.append ⟨_,_,rfl,hy1,rfl⟩
    ·intro x hx
     rcases List.mem_append.1 hx with hx | hx
     ·exact h4 x hx
     ·rw [List.mem_singleton] at hx;subst hx;exact hy2
    ·rw [sumW_snoc,List.take_add_one,hg,List.map_append,bulk_append]
     simp only [Option.toList_some,List.map_cons,List.map_nil,Rows.uptoBulkAll]
     omega
    ·intro j u hj
     rw [List.flatten_append] at hj
     by_cases hjl:j<vss.flatten.length
     ·rw [List.getElem?_append_left hjl] at hj
      exact h7 j u hj
     ·rw [List.getElem?_append_right (by omega)] at hj
      simp only [List.flatten_cons,List.flatten_nil,List.append_nil] at hj
      have hlt:j-vss.flatten.length<cs'.length:=(List.getElem?_eq_some_iff.1 hj).1
      have:=hcell (j-vss.flatten.length) (by omega)
      rw [WideShapes.add_plain,WideShapes.add_plain,hj] at this
      rw [← this]
      congr 2
      omega
  obtain ⟨l,vss,h1,h2,h3,h4,h5,h6,h7⟩:=step len (Nat.le_refl _)
  have htl:(tab enc l).length=len:=by rw [tab_length,h1]
  refine ⟨l,⟨_,_,rfl,⟨some ⟨b,o,spot⟩,cap,by rw [htl],by rw [htl];exact hlc,hcm,?_⟩,rfl⟩,h4,?_⟩
  ·by_cases h0:0<len
   ·obtain ⟨rfl,hbs⟩:=h6 h0
    exact .inr ⟨b,o,vss,rfl,fun h=>h,hbs,h7,h3⟩
   ·left
    have:l=[]:=List.eq_nil_of_length_eq_zero (by omega)
    rw [this];rfl
  ·rw [List.take_of_length_le (by omega)] at h5
   simp only [Rows.uptoBulk]
   omega
end
section
variable {H:Type} {encH:TypeId × Value→H} {w:World}
def RR.good (r:RR):Prop:=Limbs r.num∧Limbs r.den
def RR.wt (r:RR):Nat:=r.num.length+r.den.length+5
theorem RR.bits_wt (r:RR):r.bits≤32*r.wt:=by unfold RR.bits RR.wt;omega
def mono_wt (p:Int × RR):Nat:=p.2.wt+2
def form_good (f:List (Int × RR)):Prop:=∀ p∈f,(-9223372036854775808≤p.1∧p.1≤9223372036854775807)∧p.2.good
def form_wt (f:List (Int × RR)):Nat:=sumW mono_wt f+1
def At.good (a:At):Prop:=form_good a.form∧a.bound.good
def At.wt (a:At):Nat:=a.name.size+form_wt a.form+a.bound.wt+3
end
theorem RR.good.ok {r:RR} (h:r.good) (hb:r.wt≤1048576):r.ok:=⟨h.1,h.2,by unfold RR.wt at hb;omega,by unfold RR.wt at hb;omega⟩
theorem RR.good.nb {r:RR} (h:r.good):nb r.v≤32*r.wt:=Nat.le_trans (nb_v r h.1 h.2) r.bits_wt
theorem form_nbs:∀ {f:List (Int × RR)},form_good f→nbs (vals f)≤32*sumW mono_wt f
 | [],_=>by simp [vals,nbs]
 | p::f,h=>by
  have h1:=(h p List.mem_cons_self).2.nb
  have h2:=form_nbs (f:=f) fun q hq=>h q (List.mem_cons_of_mem _ hq)
  simp only [vals,List.map_cons,nbs,sumW,mono_wt] at *
  omega
theorem sumW_mem {α:Type} {wt:α→Nat} {l:List α} {x:α} (h:x∈l):wt x≤sumW wt l:=by
 induction l with
 | nil=>cases h
 | cons y l ih =>
  simp only [sumW]
  rcases List.mem_cons.1 h with rfl | h
  ·omega
  ·have:=ih h;omega
theorem form_ok {f:List (Int × RR)} (h:form_good f) (hb:form_wt f≤1048576):FOk f 67108864∧nbs (vals f)≤67108864:=by
 have h1:=form_nbs h
 unfold form_wt at hb
 refine ⟨⟨fun p hp=>(h p hp).2.ok ?_,(Sz.of _).mono (by omega)⟩,by omega⟩
 have:=sumW_mem (wt:=mono_wt) hp
 unfold mono_wt at this hb
 omega
theorem At.good.ok {a:At} (h:a.good) (hb:a.wt≤1048576):AtOk a:=by
 unfold At.wt at hb
 obtain ⟨h1,h2⟩:=form_ok h.1 (by omega)
 refine ⟨h1,h2,h.2.ok (by omega),?_⟩
 have:=h.2.nb
 omega
section
variable {H:Type} {encH:TypeId × Value→H} {P:Program} {w:World}
end
end Go.Proofs.YtjmkfbhecgkbmaaGreat.Vm
namespace Go.Proofs.YtjmkfbhecgkbmaaGreat.Vm
open Go Go.RowKit Go.ChangeShapes Go.WideShapes Go.ChangeAt
def joinedRest (P:Program) (fn:Func) (s:ChangeSpec) (c:OpenClaim):Bool :=
 (c.wf (OpenSpec.ofChange s))&&(fn.params.all (P.readableRec ·))&&(namedTie P c.named s.vars)&&((c.stops == []))&&((c.knobs == []))&&((c.maps == (fn.params.toList++s.plain.varTypes P).any (P.mapsRec ·)))&&((c.ifaces == (fn.params.toList++s.plain.varTypes P).any (P.ifacesRec ·)))&&((c.mapsOut == P.mapsAmong fn.resultTypes.toList))&&((c.loops == (fn.params.toList++s.plain.varTypes P).any (P.loopsFrom ·)))&&((c.wideKeys == (fn.params.toList++s.plain.varTypes P++fn.resultTypes.toList).any (P.wideKeysFrom ·)))&&(s.vars.all (P.varReadable ·))&&(fn.resultTypes.all (fun t=>P.readableRec t&&decide (t<P.types.size)))&&((c.ifacesOut == fn.resultTypes.toList.any (P.ifacesRec ·)))&&((c.loopsOut == fn.resultTypes.toList.any (P.loopsFrom ·)))&&(c.shortTexts.isNone)&&((c.kinds == (if c.domain.isEmpty then [] else fn.params.toList.map fun t=>match P.underlying t with|some (.int k)=>some k|_=>none)))&&((c.pinned == c.pinnedBy))&&((c.veiled == (fn.params.toList++s.plain.varTypes P++fn.resultTypes.toList).any (P.veiledRec ·)))&&(c.veiledFits P fn.params.toList (fn.params.toList++s.plain.varTypes P++fn.resultTypes.toList))
theorem joined_of {P:Program} {f:FuncId} {fn:Func} {s:ChangeSpec} {c:OpenClaim} (h1:(laidOutB P)=true) (h2:(mapsRowed P)=true) (h6:((P.stops == []))=true) (h8:((P.stopKnobs == []))=true) (h24:(P.stopsHeard)=true) (h25:(P.mayEnter)=true) (h9:((c.inPlace == P.inPlace f))=true) (h10:((c.unfollowed == P.unfollowed f))=true) (h11:((c.recurses == P.recurses f))=true) (h12:((c.named == P.varsNamed f))=true) (h22:((c.plainKeys == P.plainKeys))=true) (h26:((c.lifted == P.liftsFinal))=true) (h27:((P.make == some c.make))=true)
  (h:joinedRest P fn s c=true):joinedFacts P f fn s c=true:=by
 unfold joinedRest at h
 unfold joinedFacts
 simp only [Bool.and_eq_true] at h ⊢
 obtain ⟨⟨⟨⟨⟨⟨⟨⟨⟨⟨⟨⟨⟨⟨⟨⟨⟨⟨r0,r3⟩,r4⟩,r5⟩,r7⟩,r13⟩,r14⟩,r15⟩,r16⟩,r17⟩,r18⟩,r19⟩,r20⟩,r21⟩,r23⟩,r28⟩,r29⟩,r30⟩,r31⟩:=h
 exact ⟨⟨⟨⟨⟨⟨⟨⟨⟨⟨⟨⟨⟨⟨⟨⟨⟨⟨⟨⟨⟨⟨⟨⟨⟨⟨⟨⟨⟨⟨⟨r0,h1⟩,h2⟩,r3⟩,r4⟩,r5⟩,h6⟩,r7⟩,h8⟩,h9⟩,h10⟩,h11⟩,h12⟩,r13⟩,r14⟩,r15⟩,r16⟩,r17⟩,r18⟩,r19⟩,r20⟩,r21⟩,h22⟩,r23⟩,h24⟩,h25⟩,h26⟩,h27⟩,r28⟩,r29⟩,r30⟩,r31⟩
def plainClaim : OpenClaim := { program := "", sum := "", func := "", spec := "" }
theorem pf_laid:laidOutB Tryz.prog=true:=by kernel_rfl
theorem pf_maps:mapsRowed Tryz.prog=true:=by kernel_rfl
theorem pf_stops:(Tryz.prog.stops == [])=true:=by kernel_rfl
theorem pf_knobs:(Tryz.prog.stopKnobs == [])=true:=by kernel_rfl
theorem pf_heard:Tryz.prog.stopsHeard=true:=by kernel_rfl
theorem pf_enter:Tryz.prog.mayEnter=true:=by kernel_rfl
theorem pf_keys:(plainClaim.plainKeys == Tryz.prog.plainKeys)=true:=by kernel_rfl
theorem pf_lifts:(plainClaim.lifted == Tryz.prog.liftsFinal)=true:=by kernel_rfl
theorem pf_make:(Tryz.prog.make == some plainClaim.make)=true:=by kernel_rfl
theorem pf_own:ownKnob Tryz.prog.godebug=none:=by kernel_rfl
namespace simplexConsts_
theorem own:ownKnob Tryz.prog.godebug=none:=pf_own
theorem pf_place:(Rows.simplexConstsRow.inPlace == Tryz.prog.inPlace 3)=true:=by kernel_rfl
theorem pf_foll:(Rows.simplexConstsRow.unfollowed == Tryz.prog.unfollowed 3)=true:=by kernel_rfl
theorem pf_rec:(Rows.simplexConstsRow.recurses == Tryz.prog.recurses 3)=true:=by kernel_rfl
theorem pf_nam:(Rows.simplexConstsRow.named == Tryz.prog.varsNamed 3)=true:=by kernel_rfl
theorem pf_rest:joinedRest Tryz.prog Tryz.f3 Rows.simplexConstsSpec Rows.simplexConstsRow=true:=by kernel_rfl
theorem facts:joinedFacts Tryz.prog 3 Tryz.f3 Rows.simplexConstsSpec Rows.simplexConstsRow=true:=joined_of pf_laid pf_maps pf_stops pf_knobs pf_heard pf_enter pf_place pf_foll pf_rec pf_nam pf_keys pf_lifts pf_make pf_rest
theorem lifted (os:Os) (started:os.Started) (H:Type) (enc:TypeId × Value→H) :
  ReturnsInHanded {} Tryz.checked os 3 .any (Rows.simplexConstsSpec.pre6 enc Tryz.prog Tryz.f3 Rows.simplexConstsRow.domain false) (Rows.simplexConstsSpec.post enc Tryz.prog Tryz.f3 false true false false):=by
 refine returnsInHanded_of_change (C:=Tryz.checked) own started (by kernel_rfl) Tryz.func3
  (ChangeSpec.witness6 (enc:=enc) (C:=Tryz.checked) false ⟨#[],#[],[]⟩ 8 (by kernel_rfl) (by kernel_rfl) (by kernel_rfl) (by kernel_rfl)) ?_
 intro W base args ds gs before hval0 hW hcnd _
 have hW':=hW
 obtain ⟨p,q,hA0,hV,rfl,hfz,hnd⟩:=hW
 have hA:DataW.TrodAll enc Tryz.prog W 0 (fun _=>true) true Tryz.f3.params.toList args.toList ds p:=hA0
 rw [Tryz.params3] at hA
 obtain ⟨rfl,rfl,rfl⟩:=trodAll_none hA
 obtain ⟨rfl,rfl⟩:=trodVars_none hV
 clear hA0 hval0
 simp only [List.append_nil] at hW'
 refine (consts_law W [] (fun _=>False) (fun _ h=>h.elim) rfl).mono fun e W' he=>?_
 obtain ⟨v,r,rfl,rfl,hbel,hrp⟩:=he
 have hv:v = .bool true:=hrp
 subst hv
 exact ⟨_,rfl,⟨_,_,_,[],_,[],hW',trodAll_mk1 (shut_bool Tryz.underlying4 _),trodAll_mk0,rfl,hbel.frame _,fun h=>by cases h⟩⟩
end simplexConsts_
theorem simplexConsts_holds:Rows.SimplexConstsSaid :=
 OpenClaim.holds_of_wide 3 Tryz.f3 rfl rfl rfl rfl rfl rfl rfl ⟨rfl,rfl,rfl,rfl,rfl⟩ rfl rfl rfl rfl rfl (by kernel_rfl) Tryz.func3 simplexConsts_.facts
  (of_decide_eq_true (by kernel_rfl)) (by unfold Func.isWrapper;first | (rw [if_pos (by decide +kernel)];kernel_rfl) | (rw [if_neg (by decide +kernel)];exact ⟨rfl,rfl⟩))
  (fun os started H enc _=>simplexConsts_.lifted os started H enc)
end Go.Proofs.YtjmkfbhecgkbmaaGreat.Vm
