/-
  Part 5 of 9 of a proof.
-/
import Derived.Test.YtjmkfbhecgkbmaaGreatCst4
import Derived.Orders
import Derived.Below
import Derived.Laws.AppendOwn
import Derived.Laws.MakeOwn
import Derived.Laws.CopyRow
import Derived.Laws.Rows
import Derived.Laws.Cells
import Derived.Tactics
import Derived.Laws.BitsLemmas
import Derived.Maps.Range
import Derived.Carry
import Derived.Test.YtjmkfbhecgkbmaaGreatProg
set_option linter.unusedVariables false
set_option linter.unusedSimpArgs false
set_option maxRecDepth 100000

namespace Go.Proofs.YtjmkfbhecgkbmaaGreat.Vm
open Go Go.RowKit
theorem sWa {G G':Prop} (h:G') (e:G=G':=by conv=>lhs;simp (disch:=omega) only [rowsOf,cNat,cN,St.ret,St.seth,Eff.app,Eff.wi,sepL,guardOf,St.known,objOf,List.set,sliceW,litW,copyW,lenOf,bnd,mxOk,ofCells,TI.isAgg,cellsOf,storable,AV.one,dead,laid,overlay,reduceCtorEq,Int.reduceLE,Int.reduceLT,Int.reduceSub,Int.reduceAdd,Nat.reduceMul,Int.reduceToNat,Nat.reducePow,Int.reduceNeg,Nat.reduceAdd,Nat.reduceLT,Nat.reduceLeDiff,sA,sB,i64s_getD,i64s_length,i64s_all,sT]):G:=e.mpr h
theorem sWaX {G G' P:Prop} (p:P) (h:G') (e:P→G=G':=by intro p;conv=>lhs;simp (disch:=omega) only [rowsOf,cNat,cN,St.ret,St.seth,Eff.app,Eff.wi,sepL,guardOf,St.known,objOf,List.set,sliceW,litW,copyW,lenOf,bnd,mxOk,ofCells,TI.isAgg,cellsOf,storable,AV.one,dead,laid,overlay,reduceCtorEq,Int.reduceLE,Int.reduceLT,Int.reduceSub,Int.reduceAdd,Nat.reduceMul,Int.reduceToNat,Nat.reducePow,Int.reduceNeg,Nat.reduceAdd,Nat.reduceLT,Nat.reduceLeDiff,sA,sB,i64s_getD,i64s_length,i64s_all,sT,p]):G:=(e p).mpr h
theorem sWaV {G G':Prop} (h:G') (e:G=G':=by conv=>lhs;simp (disch:=omega) only [rowsOf,cNat,cN,St.ret,St.seth,Eff.app,Eff.wi,sepL,guardOf,St.known,objOf,List.set,sliceW,litW,copyW,lenOf,bnd,mxOk,ofCells,TI.isAgg,cellsOf,storable,AV.one,dead,laid,overlay,reduceCtorEq,Int.reduceLE,Int.reduceLT,Int.reduceSub,Int.reduceAdd,Nat.reduceMul,Int.reduceToNat,Nat.reducePow,Int.reduceNeg,Nat.reduceAdd,Nat.reduceLT,Nat.reduceLeDiff,sA,sB,i64s_getD,i64s_length,i64s_all,sT,view_sref,viewRef,view_agg,views_cons,views_nil,view_bool,view_int,view_sl,view_nils,view_str,view_tup,view_nilif]):G:=e.mpr h
theorem aWa {G G':Prop} (h:G') (f:Wr G'→G:=by intro h;(repeat (first|(refine W_seqV fun K hK=>?_;(try (refine sWa ?_;try exact True.intro));(repeat refine aI ?_);refine hK _ ?_;clear hK K)|(refine W_seqR fun K hK=>?_;(try (refine sWa ?_;try exact True.intro));(repeat refine aI ?_);refine hK _ ?_;clear hK K)|(refine W_seqD mixed [] (by kernel_rfl) fun K hK=>?_;(try (refine sWa ?_;try exact True.intro));(repeat refine aI ?_);refine hK _ ?_;clear hK K)));exact h.out):G:=f ⟨h⟩
set_option maxHeartbeats 1000000 in
theorem core_ok (l:List Nat) (hl:l.length<9223372036854775807):Pure Tryz.prog 218 [cNat l] (·=cNat (trim l)):=by
 (refine pureW Tryz.func218 rfl (rs:=[Go.ResultVar.tmp 2]) rfl (n:=22) rfl ?_;simp only [List.length_cons,List.length_nil,List.replicate,List.cons_append,List.nil_append])
 unfold cNat
 ((refine W_seqR ?_);intro K hK;(refine sWa ?_))
 (refine hK _ ?_;clear hK K)
 ((refine W_seqR ?_);intro K hK;(refine sWa ?_))
 (refine hK _ ?_;clear hK K)
 refine W_seq (W_block (W_loop (fun n:{n:Nat // n≤l.length∧cutLen l n=cutLen l l.length}=>⟨[.sl (u32s l),.any,.any,.int .i64 n.1,.any,.any,.any,.any,.any,.any,.any,.any,.any,.any,.any,.any,.any,.any,.any,.any,.any,.any],[.dead,.dead,.dead,.dead,.dead,.dead,.dead,.dead,.dead,.dead,.dead,.dead,.dead,.dead,.dead,.dead,.dead,.dead,.dead,.dead,.dead,.dead]⟩) (fun n=>n.1) ⟨l.length,Nat.le_refl _,rfl⟩ (Le_of ?_ rfl) fun n=>?_))
 ·simp [leE]
 obtain ⟨n,hn,hc⟩:=n
 refine W_seq ?_
 dsimp only
 rcases Nat.eq_zero_or_pos n with rfl | hpos
 ·((refine W_seqR ?_);intro K hK;(refine sWa ?_))
  (refine hK _ ?_;clear hK K)
  (refine W_cf rfl ?_)
  refine W_exit ?_
  simp only [thenW,blockW,if_true]
  ((refine W_seqR ?_);intro K hK;(refine sWa ?_))
  (refine hK _ ?_;clear hK K)
  refine W_ret ?_
  (refine qG ?_;try exact True.intro)
  simp [trim,← hc,cutLen,u32s]
 ·((refine W_seqR ?_);intro K hK;(refine sWaX hpos ?_))
  refine ⟨by omega,?_⟩
  (refine hK _ ?_;clear hK K)
  refine W_cond rfl (fun h=>?_) (fun h=>?_)
  ·refine W_skip (W_block (W_regR fun K hK=>?_))
   (refine sWa ?_;try exact True.intro)
   refine hK _ ⟨⟨n-1,by omega,?_⟩,Le_of ?_ rfl,?_⟩
   ·rw [← hc]
    obtain ⟨m,rfl⟩:∃ m,n=m+1:=⟨n-1,by omega⟩
    simp at h
    simp only [cutLen,Nat.add_sub_cancel,List.getD_eq_getElem?_getD,h,if_true]
   ·simp [leE]
   ·simp;omega
  refine W_exit ?_
  simp only [thenW,blockW,if_true]
  ((refine W_seqR ?_);intro K hK;(refine sWa ?_))
  refine ⟨hn,?_⟩
  (repeat refine aI ?_);refine hK _ ?_;clear hK K
  refine W_ret ?_
  (refine qG ?_;try exact True.intro)
  obtain ⟨m,rfl⟩:∃ m,n=m+1:=⟨n-1,by omega⟩
  simp at h
  simp only [trim,← hc,cutLen,List.getD_eq_getElem?_getD,h,if_false]
theorem core_ok' (l:List Nat) (h:Limbs l) (hl:l.length<1099511627776):Pure Tryz.prog 218 [cNat l] (·=cN (val l)):=by
 have:=core_ok l (by omega)
 rwa [trim_eq h] at this
set_option maxHeartbeats 1000000 in
theorem wsign_ok (neg:Bool) (l:List Nat) (h:Limbs l) (hl:l.length<1099511627776):Pure Tryz.prog 176 [cI neg l] (· = .int .i64 (iv neg l).sign):=by
 rw [isign]
 have hc:=core_ok' l h hl
 (refine pureW Tryz.func176 rfl (rs:=[Go.ResultVar.tmp 2]) rfl (n:=12) rfl ?_;simp only [List.length_cons,List.length_nil,List.replicate,List.cons_append,List.nil_append])
 unfold cI
 (refine aWa ?_)
 refine W_seq (W_block ?_)
 by_cases h0:val l=0
 ·rw [h0] at hc
  simp only [cN,limbs_zero,cNat] at hc
  rw [if_pos h0]
  ((refine W_seqV ?_);intro K hK;(refine sWa ?_))
  (refine ⟨by kernel_rfl,_,.pure rfl (hc),?_⟩;(try (refine sWa ?_)))
  (refine hK _ ?_;clear hK K)
  (repeat' (first | (exfalso;simp at h;done) | (refine W_seqV fun K hK=>?_;(try (refine sWa ?_));refine hK _ ?_;clear hK K) | (refine W_ret ?_;(refine qG ?_;try exact True.intro)) | (refine W_cond rfl (fun h=>?_) (fun h=>?_) <;> (try simp only [cond_true,cond_false,ne_eq,cB] at h))))
 ·rw [if_neg h0]
  have hp:=limbs_len_pos h0
  have hz:(((limbs (val l)).length:Int) == 0)=false:=by rw [beq_eq_false_iff_ne];omega
  simp only [cN,cNat] at hc
  ((refine W_seqV ?_);intro K hK;(refine sWa ?_))
  (refine ⟨by kernel_rfl,_,.pure rfl (hc),?_⟩;(try (refine sWa ?_)))
  (refine sWaX hz ?_;try exact True.intro)
  (refine hK _ ?_;clear hK K)
  (refine W_cf rfl ?_)
  cases neg
  ·(repeat' (first | (exfalso;simp at h;done) | (refine W_seqV fun K hK=>?_;(try (refine sWa ?_));refine hK _ ?_;clear hK K) | refine W_skip ?_ | (refine W_ret ?_;(refine qG ?_)) | (refine W_cond rfl (fun h=>?_) (fun h=>?_) <;> (try simp only [cond_true,cond_false,ne_eq,cB] at h))))
   rfl
  ·(repeat' (first | (exfalso;simp at h;done) | (refine W_seqV fun K hK=>?_;(try (refine sWa ?_));refine hK _ ?_;clear hK K) | (refine W_ret ?_;(refine qG ?_)) | (refine W_cond rfl (fun h=>?_) (fun h=>?_) <;> (try simp only [cond_true,cond_false,ne_eq,cB] at h))))
   rfl
set_option maxHeartbeats 1000000 in
theorem signed_ok (l:List Nat) (ss:List Int) (h:Limbs l) (hl:l.length<1099511627776) (hss:∀ x∈ss,sg x) (hsl:ss.length<100) :
  Pure Tryz.prog 182 [cNat l,.sl (i64s ss)] (·=cZ (if prodL ss<0 then -(val l:Int) else val l)):=by
 rw [← cZ_of]
 (refine pureW Tryz.func182 rfl (rs:=[Go.ResultVar.cell 4 37]) rfl (n:=29) rfl ?_;simp only [List.length_cons,List.length_nil,List.replicate,List.cons_append,List.nil_append])
 unfold cNat
 (refine aWa ?_)
 ((refine W_seqV ?_);intro K hK;(refine sWa ?_))
 (refine ⟨by kernel_rfl,_,.pure rfl (norm_ok l h hl),?_⟩;(try (refine sWa ?_)))
 (refine hK _ ?_;clear hK K)
 (refine aWa ?_)
 refine W_join (fun s'=>Le [] s' ⟨[.sl (u32s (limbs (val l))),.any,.any,.any,.ptr 4 0 0,.int .i64 (prodL ss),.any,.any,.any,.any,.any,.any,.any,.any,.any,.any,.any,.any,.any,.any,.any,.any,.any,.any,.any,.any,.any,.any,.any],[.dead,.dead,.dead,.dead,.arr 37 2 false [[.bool false,.nils]],.dead,.dead,.dead,.dead,.dead,.dead,.dead,.dead,.dead,.dead,.dead,.dead,.dead,.dead,.dead,.dead,.dead,.dead,.dead,.dead,.dead,.dead,.dead,.dead]⟩) ?_ ?_
 ·(refine aWa ?_)
  refine W_block (W_loop (fun t:{t:Nat // t≤ss.length}=>⟨[.sl (u32s (limbs (val l))),.any,.any,.any,.ptr 4 0 0,.int .i64 (prodL (ss.take t.1)),.any,.any,.any,.any,.sl (i64s ss),.int .i64 ss.length,.int .i64 t.1,.any,.any,.any,.any,.any,.any,.any,.any,.any,.any,.any,.any,.any,.any,.any,.any],[.dead,.dead,.dead,.dead,.arr 37 2 false [[.bool false,.nils]],.dead,.dead,.dead,.dead,.dead,.dead,.dead,.dead,.dead,.dead,.dead,.dead,.dead,.dead,.dead,.dead,.dead,.dead,.dead,.dead,.dead,.dead,.dead,.dead]⟩) (fun t=>ss.length-t.1)
   ⟨0,by omega⟩ (Le_of (by simp [leE,prodL]) rfl) fun t=>?_)
  obtain ⟨i,hi⟩:=t
  dsimp only
  have hw:=sg_wrap (sg_mul (sg_prodL (l:=ss.take i) fun x hx=>hss x (List.mem_of_mem_take hx)) (sg_getD hss i))
  (repeat' (first|refine W_block ?_|(refine W_seqV fun K hK=>?_;(try (refine sWa ?_));(repeat refine aI ?_);refine hK _ ?_;clear hK K)|(refine W_regV fun K hK=>?_;(try (refine sWa ?_));refine hK _ ?_;clear hK K)|refine W_skip ?_|(refine W_exit ?_;simp only [thenW,blockW,if_true,reduceCtorEq,if_false,Nat.reduceEqDiff])|(refine W_cond rfl (fun h=>?_) (fun h=>?_) <;> (try simp only [cond_true,cond_false,ne_eq,cB] at h))|refine W_seq ?_))
  ·simp only [thenW]
   exact ⟨⟨i+1,by omega⟩,Le_of (by simp [leE,prodL_take (show i<ss.length by omega)];simpa using hw) rfl,by dsimp only;omega⟩
  ·obtain rfl:i=ss.length:=by omega
   rw [List.take_length]
   exact Le_of (by simp [leE]) rfl
 rintro s' hle
 refine W.le ?_ hle
 clear hle s'
 by_cases hp:prodL ss<0
 ·have hz:decide (prodL ss<0)=true:=decide_eq_true hp
  ((refine W_seqV ?_);intro K hK;(refine sWaX hz ?_))
  (refine hK _ ?_;clear hK K)
  refine W_ret ?_
  (refine qG ?_;try exact True.intro);try (refine sWaV ?_;try exact True.intro)
  simp only [cI,hz,Bool.true_and,Bool.false_and]
 ·have hz:decide (prodL ss<0)=false:=decide_eq_false hp
  ((refine W_seqV ?_);intro K hK;(refine sWaX hz ?_))
  (refine hK _ ?_;clear hK K)
  refine W_ret ?_
  (refine qG ?_;try exact True.intro);try (refine sWaV ?_;try exact True.intro)
  simp only [cI,hz,Bool.true_and,Bool.false_and]
theorem sWb {G G':Prop} (h:G') (e:G=G':=by conv=>lhs;simp (disch:=omega) only [rowsOf,cNat,cN,St.ret,St.seth,Eff.app,Eff.wi,sepL,guardOf,St.known,objOf,List.set,sliceW,litW,copyW,lenOf,bnd,mxOk,ofCells,TI.isAgg,cellsOf,storable,AV.one,dead,laid,overlay,reduceCtorEq,Int.reduceLE,Int.reduceLT,Int.reduceSub,Int.reduceAdd,Nat.reduceMul,Int.reduceToNat,Nat.reducePow,Int.reduceNeg,Nat.reduceAdd,Nat.reduceLT,Nat.reduceLeDiff,sA,sB,cZ,cI,i64s_getD,i64s_length,i64s_all,sT]):G:=e.mpr h
theorem sWbX {G G' P:Prop} (p:P) (h:G') (e:P→G=G':=by intro p;conv=>lhs;simp (disch:=omega) only [rowsOf,cNat,cN,St.ret,St.seth,Eff.app,Eff.wi,sepL,guardOf,St.known,objOf,List.set,sliceW,litW,copyW,lenOf,bnd,mxOk,ofCells,TI.isAgg,cellsOf,storable,AV.one,dead,laid,overlay,reduceCtorEq,Int.reduceLE,Int.reduceLT,Int.reduceSub,Int.reduceAdd,Nat.reduceMul,Int.reduceToNat,Nat.reducePow,Int.reduceNeg,Nat.reduceAdd,Nat.reduceLT,Nat.reduceLeDiff,sA,sB,cZ,cI,i64s_getD,i64s_length,i64s_all,sT,p]):G:=(e p).mpr h
theorem sWbV {G G':Prop} (h:G') (e:G=G':=by conv=>lhs;simp (disch:=omega) only [rowsOf,cNat,cN,St.ret,St.seth,Eff.app,Eff.wi,sepL,guardOf,St.known,objOf,List.set,sliceW,litW,copyW,lenOf,bnd,mxOk,ofCells,TI.isAgg,cellsOf,storable,AV.one,dead,laid,overlay,reduceCtorEq,Int.reduceLE,Int.reduceLT,Int.reduceSub,Int.reduceAdd,Nat.reduceMul,Int.reduceToNat,Nat.reducePow,Int.reduceNeg,Nat.reduceAdd,Nat.reduceLT,Nat.reduceLeDiff,sA,sB,cZ,cI,i64s_getD,i64s_length,i64s_all,sT,view_sref,viewRef,view_agg,views_cons,views_nil,view_bool,view_int,view_sl,view_nils,view_str,view_tup,view_nilif]):G:=e.mpr h
theorem aWb {G G':Prop} (h:G') (f:Wr G'→G:=by intro h;(repeat (first|(refine W_seqV fun K hK=>?_;(try (refine sWb ?_;try exact True.intro));(repeat refine aI ?_);refine hK _ ?_;clear hK K)|(refine W_seqR fun K hK=>?_;(try (refine sWb ?_;try exact True.intro));(repeat refine aI ?_);refine hK _ ?_;clear hK K)|(refine W_seqD mixed [] (by kernel_rfl) fun K hK=>?_;(try (refine sWb ?_;try exact True.intro));(repeat refine aI ?_);refine hK _ ?_;clear hK K)));exact h.out):G:=f ⟨h⟩
set_option maxHeartbeats 1000000 in
theorem wneg_ok (neg:Bool) (l:List Nat) (h:Limbs l) (hl:l.length<1099511627776):Pure Tryz.prog 184 [cI neg l] (·=cZ (-(iv neg l))):=by
 have hs:=wsign_ok neg l h hl
 have hg:=signed_ok l [-1,(iv neg l).sign] h hl (by intro x hx;simp at hx;rcases hx with rfl | rfl;exact .inl rfl;exact sg_sign _) (by simp)
 rw [iv_neg] at hg
 (refine pureW Tryz.func184 rfl (rs:=[Go.ResultVar.cell 2 37]) rfl (n:=9) rfl ?_;simp only [List.length_cons,List.length_nil,List.replicate,List.cons_append,List.nil_append])
 unfold cI
 (refine aWb ?_)
 ((refine W_seqD mixed [] (by kernel_rfl) ?_);intro K hK;(refine sWb ?_))
 (refine ⟨by kernel_rfl,_,.pure rfl (hs),?_⟩;(try (refine sWb ?_));(repeat refine aI ?_))
 (refine ⟨by kernel_rfl,_,.pure rfl (hg),?_⟩;(try (refine sWb ?_)))
 (refine hK _ ?_;clear hK K)
 refine W_ret ?_
 (refine qG ?_;try exact True.intro);try (refine sWbV ?_;try exact True.intro)
set_option maxHeartbeats 1000000 in
theorem wnorm_ok (neg:Bool) (l:List Nat) (h:Limbs l) (hl:l.length<1099511627776):Pure Tryz.prog 231 [cI neg l] (·=cZ (iv neg l)):=by
 have hs:=wsign_ok neg l h hl
 have hg:=signed_ok l [(iv neg l).sign] h hl (by intro x hx;simp at hx;subst hx;exact sg_sign _) (by simp)
 rw [iv_norm] at hg
 (refine pureW Tryz.func231 rfl (rs:=[Go.ResultVar.cell 2 37]) rfl (n:=9) rfl ?_;simp only [List.length_cons,List.length_nil,List.replicate,List.cons_append,List.nil_append])
 unfold cI
 (refine aWb ?_)
 ((refine W_seqD mixed [] (by kernel_rfl) ?_);intro K hK;(refine sWb ?_))
 (refine ⟨by kernel_rfl,_,.pure rfl (hs),?_⟩;(try (refine sWb ?_));(repeat refine aI ?_))
 (refine ⟨by kernel_rfl,_,.pure rfl (hg),?_⟩;(try (refine sWb ?_)))
 (refine hK _ ?_;clear hK K)
 refine W_ret ?_
 (refine qG ?_;try exact True.intro);try (refine sWbV ?_;try exact True.intro)
set_option maxHeartbeats 1000000 in
theorem wmul_ok (neg:Bool) (l:List Nat) (h:Limbs l) (hl:l.length<274877906944) (neg':Bool) (l':List Nat) (h':Limbs l') (hl':l'.length<274877906944):Pure Tryz.prog 152 [cI neg l,cI neg' l'] (·=cZ (iv neg l*iv neg' l')):=by
 have hs:=wsign_ok neg l h (by omega)
 have hs':=wsign_ok neg' l' h' (by omega)
 have hm:=nmul_ok l l' h h' hl hl'
 have hml:=len_mul (val l) (val l')
 have h1:=limbs_val_length h
 have h2:=limbs_val_length h'
 have hg:=signed_ok (limbs (val l*val l')) [(iv neg l).sign,(iv neg' l').sign] (limbs_limbs _) (by omega) (by intro x hx;simp at hx;rcases hx with rfl | rfl <;> exact sg_sign _) (by simp)
 rw [val_limbs,iv_mul] at hg
 (refine pureW Tryz.func152 rfl (rs:=[Go.ResultVar.cell 4 37]) rfl (n:=16) rfl ?_;simp only [List.length_cons,List.length_nil,List.replicate,List.cons_append,List.nil_append])
 unfold cI
 (refine aWb ?_)
 ((refine W_seqD mixed [] (by kernel_rfl) ?_);intro K hK;(refine sWb ?_))
 (refine ⟨by kernel_rfl,_,.pure rfl (hm),?_⟩;(try (refine sWb ?_)))
 (refine ⟨by kernel_rfl,_,.pure rfl (hs),?_⟩;(try (refine sWb ?_)))
 (refine ⟨by kernel_rfl,_,.pure rfl (hs'),?_⟩;(try (refine sWb ?_));(repeat refine aI ?_))
 (refine ⟨by kernel_rfl,_,.pure rfl (hg),?_⟩;(try (refine sWb ?_)))
 (refine hK _ ?_;clear hK K)
 refine W_ret ?_
 (refine qG ?_;try exact True.intro);try (refine sWbV ?_;try exact True.intro)
set_option maxHeartbeats 4000000 in
theorem wadd_ok (neg:Bool) (l:List Nat) (h:Limbs l) (hl:l.length<274877906944) (neg':Bool) (l':List Nat) (h':Limbs l') (hl':l'.length<274877906944):Pure Tryz.prog 187 [cI neg l,cI neg' l'] (·=cZ (iv neg l+iv neg' l')):=by
 have hs:=wsign_ok neg l h (by omega)
 have hs':=wsign_ok neg' l' h' (by omega)
 have g1:=sg_sign (iv neg l)
 have g2:=sg_sign (iv neg' l')
 have hb:=bor_sg g1 g2
 have hw:=sg_wrap (sg_mul g1 g2)
 have hla:=limbs_val_length h
 have hlb:=limbs_val_length h'
 (refine pureW Tryz.func187 rfl (rs:=[Go.ResultVar.cell 4 37]) rfl (n:=60) rfl ?_;simp only [List.length_cons,List.length_nil,List.replicate,List.cons_append,List.nil_append])
 unfold cI
 (refine aWb ?_)
 ((refine W_seqD mixed [] (by kernel_rfl) ?_);intro K hK;(refine sWb ?_))
 (refine ⟨by kernel_rfl,_,.pure rfl (hs),?_⟩;(try (refine sWb ?_)))
 (refine ⟨by kernel_rfl,_,.pure rfl (hs'),?_⟩;(try (refine sWb ?_)))
 (refine hK _ ?_;clear hK K)
 by_cases hd:0≤(iv neg l).sign*(iv neg' l').sign
 ·have hz:decide (0≤(iv neg l).sign*(iv neg' l').sign)=true:=decide_eq_true hd
  have ha:=nadd_ok l l' h h' (by omega) (by omega)
  have hal:(limbs (val l+val l')).length≤(limbs (val l)).length+(limbs (val l')).length+1:=by
   have:=zl_add (val l) (val l')
   simpa [zl,← Int.natCast_add] using this
  have hg:=signed_ok (limbs (val l+val l')) [if (iv neg l).sign = -1∨(iv neg' l').sign = -1 then -1 else 1] (limbs_limbs _) (by omega) (by intro x hx;simp only [List.mem_singleton] at hx;subst hx;exact sg_bor) (by simp)
  rw [val_limbs,iv_add_same _ _ _ _ hd] at hg
  refine W_seq ?_
  ((refine W_seqV ?_);intro K hK;(refine sWbX (And.intro hw hz) ?_))
  (refine hK _ ?_;clear hK K)
  (refine W_ct rfl ?_)
  ((refine W_seqV ?_);intro K hK;(refine sWbX hb ?_))
  (refine ⟨by kernel_rfl,_,.pure rfl (ha),?_⟩;(try (refine sWb ?_));(repeat refine aI ?_))
  (refine ⟨by kernel_rfl,_,.pure rfl (hg),?_⟩;(try (refine sWb ?_)))
  (refine hK _ ?_;clear hK K)
  refine W_ret ?_
  (refine qG ?_;try exact True.intro);try (refine sWbV ?_;try exact True.intro)
 ·have hz:decide (0≤(iv neg l).sign*(iv neg' l').sign)=false:=decide_eq_false hd
  obtain ⟨e1,e2⟩:=iv_add_diff neg l neg' l' hd
  have hc:=ncmp_ok l l' h h' (by omega) (by omega)
  refine W_seq ?_
  ((refine W_seqV ?_);intro K hK;(refine sWbX (And.intro hw hz) ?_))
  (refine hK _ ?_;clear hK K)
  (refine W_cf rfl ?_)
  refine W_skip ?_
  simp only [thenW]
  by_cases hle:val l'≤val l
  ·have hz2:=sgn_nn hle
   have hsub:=nsub_ok l l' h h' (by omega) (by omega)
   have hsl:=limbs_mono (Nat.sub_le (val l) (val l'))
   have hg:=signed_ok (limbs (val l-val l')) [(iv neg l).sign] (limbs_limbs _) (by omega) (by intro x hx;simp only [List.mem_singleton] at hx;subst hx;exact g1) (by simp)
   rw [val_limbs,e1 hle] at hg
   refine W_seq ?_
   ((refine W_seqV ?_);intro K hK;(refine sWb ?_))
   (refine ⟨by kernel_rfl,_,.pure rfl (hc),?_⟩;(try (refine sWb ?_)))
   (refine sWbX hz2 ?_;try exact True.intro)
   (refine hK _ ?_;clear hK K)
   (refine W_ct rfl ?_)
   ((refine W_seqV ?_);intro K hK;(refine sWb ?_))
   (refine ⟨by kernel_rfl,_,.pure rfl (hsub),?_⟩;(try (refine sWb ?_)))
   (refine hK _ ?_;clear hK K)
   ((refine W_seqV ?_);intro K hK;(refine sWb ?_))
   ((repeat refine aI ?_);refine ⟨by kernel_rfl,_,.pure rfl (hg),?_⟩;(try (refine sWb ?_)))
   (refine hK _ ?_;clear hK K)
   refine W_ret ?_
   (refine qG ?_;try exact True.intro);try (refine sWbV ?_;try exact True.intro)
  ·have hz2:=sgn_ng hle
   have hsub:=nsub_ok l' l h' h (by omega) (by omega)
   have hsl:=limbs_mono (Nat.sub_le (val l') (val l))
   have hg:=signed_ok (limbs (val l'-val l)) [(iv neg' l').sign] (limbs_limbs _) (by omega) (by intro x hx;simp only [List.mem_singleton] at hx;subst hx;exact g2) (by simp)
   rw [val_limbs,e2 (by omega)] at hg
   refine W_seq ?_
   ((refine W_seqV ?_);intro K hK;(refine sWb ?_))
   (refine ⟨by kernel_rfl,_,.pure rfl (hc),?_⟩;(try (refine sWb ?_)))
   (refine sWbX hz2 ?_;try exact True.intro)
   (refine hK _ ?_;clear hK K)
   (refine W_cf rfl ?_)
   refine W_skip ?_
   simp only [thenW]
   ((refine W_seqV ?_);intro K hK;(refine sWb ?_))
   (refine ⟨by kernel_rfl,_,.pure rfl (hsub),?_⟩;(try (refine sWb ?_)))
   (refine hK _ ?_;clear hK K)
   ((refine W_seqV ?_);intro K hK;(refine sWb ?_))
   ((repeat refine aI ?_);refine ⟨by kernel_rfl,_,.pure rfl (hg),?_⟩;(try (refine sWb ?_)))
   (refine hK _ ?_;clear hK K)
   refine W_ret ?_
   (refine qG ?_;try exact True.intro);try (refine sWbV ?_;try exact True.intro)
set_option maxHeartbeats 1000000 in
theorem wsub_ok (neg:Bool) (l:List Nat) (h:Limbs l) (hl:l.length<274877906944) (neg':Bool) (l':List Nat) (h':Limbs l') (hl':l'.length<274877906944):Pure Tryz.prog 204 [cI neg l,cI neg' l'] (·=cZ (iv neg l-iv neg' l')):=by
 have hn:=wneg_ok neg' l' h' (by omega)
 have hlb:=limbs_val_length h'
 have ha:=wadd_ok neg l h hl (decide (-(iv neg' l')<0)) (limbs (-(iv neg' l')).natAbs) (limbs_limbs _) (by rw [Int.natAbs_neg,iv_abs];omega)
 rw [iv_cZ,← Int.sub_eq_add_neg] at ha
 (refine pureW Tryz.func204 rfl (rs:=[Go.ResultVar.cell 4 37]) rfl (n:=9) rfl ?_;simp only [List.length_cons,List.length_nil,List.replicate,List.cons_append,List.nil_append])
 unfold cI
 (refine aWb ?_)
 ((refine W_seqD mixed [] (by kernel_rfl) ?_);intro K hK;(refine sWb ?_))
 (refine ⟨by kernel_rfl,_,.pure rfl (hn),?_⟩;(try (refine sWb ?_)))
 (refine ⟨by kernel_rfl,_,.pure rfl (ha),?_⟩;(try (refine sWb ?_)))
 (refine hK _ ?_;clear hK K)
 refine W_ret ?_
 (refine qG ?_;try exact True.intro);try (refine sWbV ?_;try exact True.intro)
set_option maxHeartbeats 1000000 in
theorem wcmp_ok (neg:Bool) (l:List Nat) (h:Limbs l) (hl:l.length<274877906944) (neg':Bool) (l':List Nat) (h':Limbs l') (hl':l'.length<274877906944):Pure Tryz.prog 151 [cI neg l,cI neg' l'] (· = .int .i64 (iv neg l-iv neg' l').sign):=by
 have hs:=wsub_ok neg l h hl neg' l' h' hl'
 have h1:=limbs_val_length h
 have h2:=limbs_val_length h'
 have hz:=zl_add (iv neg l) (-(iv neg' l'))
 rw [zl_neg,← Int.sub_eq_add_neg] at hz
 simp only [zl,iv_abs] at hz
 have hg:=wsign_ok (decide (iv neg l-iv neg' l'<0)) (limbs (iv neg l-iv neg' l').natAbs) (limbs_limbs _) (by omega)
 rw [iv_cZ] at hg
 (refine pureW Tryz.func151 rfl (rs:=[Go.ResultVar.tmp 4]) rfl (n:=9) rfl ?_;simp only [List.length_cons,List.length_nil,List.replicate,List.cons_append,List.nil_append])
 unfold cI
 (refine aWb ?_)
 ((refine W_seqV ?_);intro K hK;(refine sWb ?_))
 (refine ⟨by kernel_rfl,_,.pure rfl (hs),?_⟩;(try (refine sWb ?_)))
 (refine ⟨by kernel_rfl,_,.pure rfl (hg),?_⟩;(try (refine sWb ?_)))
 (refine hK _ ?_;clear hK K)
 refine W_ret ?_
 (refine qG ?_;try exact True.intro);try (refine sWbV ?_;try exact True.intro)
theorem wrap_u64_neg {n:Int} (h:n<0) (h2 : -9223372036854775808≤n):IntKind.wrap .u64 (0-IntKind.wrap .u64 n)=((n.natAbs:Nat):Int):=by
 unfold IntKind.wrap
 simp [IntKind.bits,IntKind.signed]
 omega
set_option maxHeartbeats 1000000 in
theorem wof_ok (n:Int) (h1 : -9223372036854775808≤n) (h2:n<9223372036854775808):Pure Tryz.prog 126 [.int .i64 n] (·=cZ n):=by
 have ho:=of_ok n.natAbs (by omega)
 have hl:(limbs n.natAbs).length≤2:=len_le (by omega)
 by_cases h0:n<0
 ·have hw:=wrap_u64_neg h0 h1
  have hg:=signed_ok (limbs n.natAbs) [-1] (limbs_limbs _) (by omega) (by intro x hx;simp only [List.mem_singleton] at hx;subst hx;exact .inl rfl) (by simp)
  rw [val_limbs,show (if prodL [-1]<0 then -(n.natAbs:Int) else (n.natAbs:Int))=n by rw [if_pos (by decide)];omega] at hg
  have hz:decide (n<0)=true:=decide_eq_true h0
  (refine pureW Tryz.func126 rfl (rs:=[Go.ResultVar.cell 2 37]) rfl (n:=15) rfl ?_;simp only [List.length_cons,List.length_nil,List.replicate,List.cons_append,List.nil_append])
  (refine aWb ?_)
  refine W_seq ?_
  ((refine W_seqV ?_);intro K hK;(refine sWbX hz ?_))
  (refine hK _ ?_;clear hK K)
  (refine W_ct rfl ?_)
  ((refine W_seqV ?_);intro K hK;(refine sWbX hw ?_))
  (refine ⟨by kernel_rfl,_,.pure rfl (ho),?_⟩;(try (refine sWb ?_));(repeat refine aI ?_))
  (refine ⟨by kernel_rfl,_,.pure rfl (hg),?_⟩;(try (refine sWb ?_)))
  (refine hK _ ?_;clear hK K)
  refine W_ret ?_
  (refine qG ?_;try exact True.intro);try (refine sWbV ?_;try exact True.intro)
 ·have hw:IntKind.wrap .u64 n=((n.natAbs:Nat):Int):=by rw [wrap_u64 (by omega) (by omega)];omega
  have hg:=signed_ok (limbs n.natAbs) [] (limbs_limbs _) (by omega) (by intro x hx;cases hx) (by simp)
  rw [val_limbs,show (if prodL []<0 then -(n.natAbs:Int) else (n.natAbs:Int))=n by rw [if_neg (by decide)];omega] at hg
  have hz:decide (n<0)=false:=decide_eq_false h0
  (refine pureW Tryz.func126 rfl (rs:=[Go.ResultVar.cell 2 37]) rfl (n:=15) rfl ?_;simp only [List.length_cons,List.length_nil,List.replicate,List.cons_append,List.nil_append])
  (refine aWb ?_)
  refine W_seq ?_
  ((refine W_seqV ?_);intro K hK;(refine sWbX hz ?_))
  (refine hK _ ?_;clear hK K)
  (refine W_cf rfl ?_)
  refine W_skip ?_
  simp only [thenW]
  ((refine W_seqV ?_);intro K hK;(refine sWbX hw ?_))
  (refine ⟨by kernel_rfl,_,.pure rfl (ho),?_⟩;(try (refine sWb ?_)))
  (refine ⟨by kernel_rfl,_,.pure rfl (hg),?_⟩;(try (refine sWb ?_)))
  (refine hK _ ?_;clear hK K)
  refine W_ret ?_
  (refine qG ?_;try exact True.intro);try (refine sWbV ?_;try exact True.intro)
structure RR where
 neg:Bool
 num:List Nat
 den:List Nat
def RR.av (r:RR):AV := .agg [.bool r.neg,.sl (u32s r.num),.sl (u32s r.den)]
def RR.v (r:RR):Rat:=mkRat (iv r.neg r.num) (val r.den)
structure RR.ok (r:RR):Prop where
 num:Limbs r.num
 den:Limbs r.den
 nl:r.num.length<17179869184
 dl:r.den.length<17179869184
def qr (q:Rat):RR:=⟨decide (q.num<0),limbs q.num.natAbs,limbs q.den⟩
def cQ (q:Rat):AV := .agg [.bool (decide (q.num<0)),.sl (u32s (limbs q.num.natAbs)),.sl (u32s (limbs q.den))]
theorem qr_av (q:Rat):(qr q).av=cQ q:=rfl
theorem qr_v (q:Rat):(qr q).v=q:=by
 unfold RR.v qr
 dsimp only
 rw [iv_cZ,val_limbs,Rat.mkRat_self]
def H (q:Rat):Nat:=q.num.natAbs+q.den
def nb (q:Rat):Nat:=Nat.log2 (H q)+1
theorem H_pos (q:Rat):0<H q:=by have:=q.den_pos;unfold H;omega
theorem H_lt (q:Rat):H q<2^nb q:=Nat.lt_log2_self
theorem nb_le {q:Rat} {k:Nat} (h:H q<2^k):nb q≤k:=by
 have:=(Nat.log2_lt (Nat.ne_of_gt (H_pos q))).2 h
 unfold nb;omega
theorem H_mkRat (n:Int) {d:Nat} (hd:d≠0):H (mkRat n d)≤n.natAbs+d:=by
 unfold H
 rw [Rat.num_mkRat,Rat.den_mkRat,if_neg hd,if_neg hd]
 have h1:(n / ((d.gcd n.natAbs:Nat):Int)).natAbs=n.natAbs / d.gcd n.natAbs:=by
  rw [Int.natAbs_ediv_of_dvd,Int.natAbs_natCast]
  rw [← Int.dvd_natAbs,Int.ofNat_dvd]
  exact Nat.gcd_dvd_right _ _
 rw [h1]
 have h2:=Nat.div_le_self n.natAbs (d.gcd n.natAbs)
 have h3:=Nat.div_le_self d (d.gcd n.natAbs)
 omega
theorem nb_of {q:Rat} {x y k l:Nat} (h:H q≤x*y) (hx:x<2^k) (hy:y<2^l):nb q≤k+l:=by
 refine nb_le (Nat.lt_of_le_of_lt h ?_)
 rw [Nat.pow_add]
 exact Nat.mul_lt_mul_of_lt_of_le hx (Nat.le_of_lt hy) (Nat.pow_pos (by omega))
theorem natAbs_add_le (a b:Int):(a+b).natAbs≤a.natAbs+b.natAbs:=by omega
theorem H_add (a b:Rat):H (a+b)≤H a*H b:=by
 rw [Rat.add_def']
 refine Nat.le_trans (H_mkRat _ (Nat.mul_ne_zero a.den_nz b.den_nz)) ?_
 have:=natAbs_add_le (a.num*b.den) (b.num*a.den)
 rw [Int.natAbs_mul,Int.natAbs_mul,Int.natAbs_natCast,Int.natAbs_natCast] at this
 unfold H
 rw [Nat.add_mul,Nat.mul_add,Nat.mul_add]
 have h1:b.num.natAbs*a.den=a.den*b.num.natAbs:=Nat.mul_comm _ _
 omega
theorem nb_add (a b:Rat):nb (a+b)≤nb a+nb b:=nb_of (H_add a b) (H_lt a) (H_lt b)
theorem H_neg (a:Rat):H (-a)=H a:=by unfold H;simp
theorem nb_neg (a:Rat):nb (-a)=nb a:=by unfold nb;rw [H_neg]
theorem H_mul (a b:Rat):H (a*b)≤H a*H b:=by
 rw [Rat.mul_def']
 refine Nat.le_trans (H_mkRat _ (Nat.mul_ne_zero a.den_nz b.den_nz)) ?_
 rw [Int.natAbs_mul]
 unfold H
 rw [Nat.add_mul,Nat.mul_add,Nat.mul_add]
 omega
theorem nb_mul (a b:Rat):nb (a*b)≤nb a+nb b:=nb_of (H_mul a b) (H_lt a) (H_lt b)
theorem nb_zero:nb 0=1:=by decide
theorem nb_one:nb 1=2:=by decide
theorem nb_pos (q:Rat):1≤nb q:=by unfold nb;omega
theorem len_bits {n k:Nat} (h:n<2^k):(limbs n).length≤k:=by
 refine limbs_length_le (Nat.lt_of_lt_of_le h ?_)
 rw [show (4294967296:Nat)=2^32 from rfl,← Nat.pow_mul]
 exact Nat.pow_le_pow_right (by omega) (by omega)
theorem len_num (q:Rat):(limbs q.num.natAbs).length≤nb q:=len_bits (Nat.lt_of_le_of_lt (by unfold H;omega) (H_lt q))
theorem len_den (q:Rat):(limbs q.den).length≤nb q:=len_bits (Nat.lt_of_le_of_lt (by unfold H;omega) (H_lt q))
def RR.bits (r:RR):Nat:=32*(r.num.length+r.den.length)+1
theorem nb_v (r:RR) (hn:Limbs r.num) (hd:Limbs r.den):nb r.v≤r.bits:=by
 unfold RR.v RR.bits
 by_cases h0:val r.den=0
 ·rw [h0,Rat.mkRat_zero,nb_zero];omega
 refine nb_le (Nat.lt_of_le_of_lt (H_mkRat _ h0) ?_)
 rw [iv_abs]
 have h1:=val_lt hn
 have h2:=val_lt hd
 rw [show (4294967296:Nat)=2^32 from rfl,← Nat.pow_mul] at h1 h2
 have h3:2^(32*r.num.length)≤2^(32*(r.num.length+r.den.length)):=Nat.pow_le_pow_right (by omega) (by omega)
 have h4:2^(32*r.den.length)≤2^(32*(r.num.length+r.den.length)):=Nat.pow_le_pow_right (by omega) (by omega)
 rw [Nat.pow_succ]
 omega
theorem qr_ok {q:Rat} (h:nb q<17179869184):(qr q).ok :=
 ⟨limbs_limbs _,limbs_limbs _,Nat.lt_of_le_of_lt (len_num q) h,Nat.lt_of_le_of_lt (len_den q) h⟩
theorem mk_num (neg:Bool) (n:List Nat) {d:Nat} (hd:d≠0):(mkRat (iv neg n) d).num=iv neg (limbs (val n / Nat.gcd (val n) d)):=by
 rw [Rat.num_mkRat,if_neg hd,iv_abs,Nat.gcd_comm]
 unfold iv
 rw [val_limbs]
 cases neg
 ·simp
 ·simp only [if_true]
  rw [Int.neg_ediv_of_dvd (Int.ofNat_dvd.2 (Nat.gcd_dvd_left _ _))]
  simp
theorem mk_den (neg:Bool) (n:List Nat) {d:Nat} (hd:d≠0):(mkRat (iv neg n) d).den=d / Nat.gcd (val n) d:=by
 rw [Rat.den_mkRat,if_neg hd,iv_abs,Nat.gcd_comm]
theorem v_len {r:RR} (hr:r.ok):(limbs r.v.num.natAbs).length<17179869184∧(limbs r.v.den).length<17179869184:=by
 unfold RR.v
 by_cases h0:val r.den=0
 ·rw [h0,Rat.mkRat_zero]
  have:(limbs 1).length≤1:=limbs_length_le (by decide)
  simp [limbs_zero]
  omega
 ·rw [mk_num _ _ h0,mk_den _ _ h0,iv_abs,val_limbs]
  have h1:=limbs_mono (Nat.div_le_self (val r.num) (Nat.gcd (val r.num) (val r.den)))
  have h2:=limbs_mono (Nat.div_le_self (val r.den) (Nat.gcd (val r.num) (val r.den)))
  have h3:=limbs_val_length hr.num
  have h4:=limbs_val_length hr.den
  have:=hr.nl
  have:=hr.dl
  exact ⟨by omega,by omega⟩
theorem v_ok {r:RR} (hr:r.ok):(qr r.v).ok:=⟨limbs_limbs _,limbs_limbs _,(v_len hr).1,(v_len hr).2⟩
theorem sRa {G G':Prop} (h:G') (e:G=G':=by conv=>lhs;simp (disch:=omega) only [rowsOf,cNat,cN,St.ret,St.seth,Eff.app,Eff.wi,sepL,guardOf,St.known,objOf,List.set,sliceW,litW,copyW,lenOf,bnd,mxOk,ofCells,TI.isAgg,cellsOf,storable,AV.one,dead,laid,overlay,reduceCtorEq,Int.reduceLE,Int.reduceLT,Int.reduceSub,Int.reduceAdd,Nat.reduceMul,Int.reduceToNat,Nat.reducePow,Int.reduceNeg,Nat.reduceAdd,Nat.reduceLT,Nat.reduceLeDiff,sA,sB,cZ,cI,cQ,sT]):G:=e.mpr h
theorem sRaX {G G' P:Prop} (p:P) (h:G') (e:P→G=G':=by intro p;conv=>lhs;simp (disch:=omega) only [rowsOf,cNat,cN,St.ret,St.seth,Eff.app,Eff.wi,sepL,guardOf,St.known,objOf,List.set,sliceW,litW,copyW,lenOf,bnd,mxOk,ofCells,TI.isAgg,cellsOf,storable,AV.one,dead,laid,overlay,reduceCtorEq,Int.reduceLE,Int.reduceLT,Int.reduceSub,Int.reduceAdd,Nat.reduceMul,Int.reduceToNat,Nat.reducePow,Int.reduceNeg,Nat.reduceAdd,Nat.reduceLT,Nat.reduceLeDiff,sA,sB,cZ,cI,cQ,sT,p]):G:=(e p).mpr h
theorem sRaV {G G':Prop} (h:G') (e:G=G':=by conv=>lhs;simp (disch:=omega) only [rowsOf,cNat,cN,St.ret,St.seth,Eff.app,Eff.wi,sepL,guardOf,St.known,objOf,List.set,sliceW,litW,copyW,lenOf,bnd,mxOk,ofCells,TI.isAgg,cellsOf,storable,AV.one,dead,laid,overlay,reduceCtorEq,Int.reduceLE,Int.reduceLT,Int.reduceSub,Int.reduceAdd,Nat.reduceMul,Int.reduceToNat,Nat.reducePow,Int.reduceNeg,Nat.reduceAdd,Nat.reduceLT,Nat.reduceLeDiff,sA,sB,cZ,cI,cQ,sT,view_sref,viewRef,view_agg,views_cons,views_nil,view_bool,view_int,view_sl,view_nils,view_str,view_tup,view_nilif]):G:=e.mpr h
theorem aRa {G G':Prop} (h:G') (f:Wr G'→G:=by intro h;(repeat (first|(refine W_seqV fun K hK=>?_;(try (refine sRa ?_;try exact True.intro));(repeat refine aI ?_);refine hK _ ?_;clear hK K)|(refine W_seqR fun K hK=>?_;(try (refine sRa ?_;try exact True.intro));(repeat refine aI ?_);refine hK _ ?_;clear hK K)|(refine W_seqD mixed [] (by kernel_rfl) fun K hK=>?_;(try (refine sRa ?_;try exact True.intro));(repeat refine aI ?_);refine hK _ ?_;clear hK K)));exact h.out):G:=f ⟨h⟩
set_option maxHeartbeats 4000000 in
theorem rmade_ok (neg:Bool) (n d:List Nat) (hn:Limbs n) (hd:Limbs d) (h1:n.length<274877906944) (h2:d.length<274877906944) (h0:val d≠0) :
  Pure Tryz.prog 186 [cI neg n,cNat d] (·=cQ (mkRat (iv neg n) (val d))):=by
 have hg:=ngcd_ok n d hn hd h1 h2
 have hnl:=limbs_val_length hn
 have hdl:=limbs_val_length hd
 have hgd:Nat.gcd (val n) (val d)≠0:=fun h=>h0 (Nat.gcd_eq_zero_iff.1 h).2
 have hgl:=limbs_mono (Nat.le_of_dvd (Nat.pos_of_ne_zero h0) (Nat.gcd_dvd_right (val n) (val d)))
 have hd1:=ndiv_ok n (limbs (Nat.gcd (val n) (val d))) hn (limbs_limbs _) h1 (by omega)
 have hd2:=ndiv_ok d (limbs (Nat.gcd (val n) (val d))) hd (limbs_limbs _) h2 (by omega)
 rw [val_limbs,divR,if_neg hgd] at hd1 hd2
 have hq1:=limbs_mono (Nat.div_le_self (val n) (Nat.gcd (val n) (val d)))
 have hw:=wnorm_ok neg (limbs (val n / Nat.gcd (val n) (val d))) (limbs_limbs _) (by omega)
 rw [← mk_num neg n h0] at hw
 have hden:=mk_den neg n h0
 generalize mkRat (iv neg n) (val d)=q at *
 (refine pureW Tryz.func186 rfl (rs:=[Go.ResultVar.cell 4 39]) rfl (n:=38) rfl ?_;simp only [List.length_cons,List.length_nil,List.replicate,List.cons_append,List.nil_append])
 unfold cI
 (refine aRa ?_)
 ((refine W_seqV ?_);intro K hK;(refine sRa ?_))
 (refine ⟨by kernel_rfl,_,.pure rfl (hg),?_⟩;(try (refine sRa ?_)))
 (refine hK _ ?_;clear hK K)
 ((refine W_seqV ?_);intro K hK;(refine sRa ?_))
 (refine ⟨by kernel_rfl,_,.pure rfl (hd1),?_⟩;(try (refine sRa ?_)))
 (refine hK _ ?_;clear hK K)
 ((refine W_seqV ?_);intro K hK;(refine sRa ?_))
 (refine ⟨by kernel_rfl,_,.pure rfl (hd2),?_⟩;(try (refine sRa ?_)))
 (refine hK _ ?_;clear hK K)
 ((refine W_seqV ?_);intro K hK;(refine sRa ?_))
 (refine ⟨by kernel_rfl,_,.pure rfl (hw),?_⟩;(try (refine sRa ?_)))
 (refine hK _ ?_;clear hK K)
 refine W_ret ?_
 (refine qG ?_;try exact True.intro);try (refine sRaV ?_;try exact True.intro)
 rw [hden]
theorem bits_pos {l:List Nat} (h:Limbs l) (h1:l.length<549755813888) (h0:val l≠0):∃ k:Nat,k≠0∧Pure Tryz.prog 185 [cNat l] (· = .int .i64 k):=by
 have hb:=bits_ok l h h1
 rw [if_neg h0] at hb
 refine ⟨_,?_,hb⟩
 have h2:blen ((limbs (val l)).getD ((limbs (val l)).length-1) 0)≠0:=by
  intro h3
  have:=(blen_spec ((limbs (val l)).getD ((limbs (val l)).length-1) 0)).1
  rw [h3] at this
  have:=limbs_top h0
  omega
 omega
theorem limbs_1:limbs 1=[1]:=by rw [limbs_pos (by decide)];simp [limbs_zero]
theorem iz {k:Nat} (h:k≠0):(((k:Nat):Int) == 0)=false:=by rw [beq_eq_false_iff_ne];omega
set_option maxHeartbeats 4000000 in
theorem rnorm_ok (r:RR) (hr:r.ok):Pure Tryz.prog 128 [r.av] (·=cQ r.v):=by
 obtain ⟨neg,n,d⟩:=r
 obtain ⟨hn,hd,h1,h2⟩:=hr
 dsimp only at hn hd h1 h2
 have hb:=bits_ok d hd (by omega)
 simp only [RR.av,RR.v]
 by_cases h0:val d=0
 ·rw [h0,Rat.mkRat_zero]
  rw [if_pos h0] at hb
  (refine pureW Tryz.func128 rfl (rs:=[Go.ResultVar.cell 2 39]) rfl (n:=14) rfl ?_;simp only [List.length_cons,List.length_nil,List.replicate,List.cons_append,List.nil_append])
  (refine aRa ?_)
  refine W_seq ?_
  ((refine W_seqV ?_);intro K hK;(refine sRa ?_))
  (refine ⟨by kernel_rfl,_,.pure rfl (hb),?_⟩;(try (refine sRa ?_)))
  (refine hK _ ?_;clear hK K)
  (repeat' (first | (exfalso;simp at h;done) | (refine W_seqV fun K hK=>?_;(try (refine sRa ?_));(repeat refine aI ?_);refine hK _ ?_;clear hK K) | (refine W_ret ?_;(refine qG ?_)) | (refine W_cond rfl (fun h=>?_) (fun h=>?_) <;> (try simp only [cond_true,cond_false,ne_eq,cB] at h))))
  (try (refine sRaV ?_))
  simp [cQ,limbs_zero,u32s,limbs_1]
 ·have hm:=rmade_ok neg n d hn hd (by omega) (by omega) h0
  obtain ⟨k,hk,hb⟩:=bits_pos hd (by omega) h0
  have hz:=iz hk
  (refine pureW Tryz.func128 rfl (rs:=[Go.ResultVar.cell 2 39]) rfl (n:=14) rfl ?_;simp only [List.length_cons,List.length_nil,List.replicate,List.cons_append,List.nil_append])
  (refine aRa ?_)
  refine W_seq ?_
  ((refine W_seqV ?_);intro K hK;(refine sRa ?_))
  (refine ⟨by kernel_rfl,_,.pure rfl (hb),?_⟩;(try (refine sRa ?_)))
  (refine sRaX hz ?_;try exact True.intro)
  (refine hK _ ?_;clear hK K)
  (refine W_cf rfl ?_)
  refine W_skip ?_
  simp only [thenW]
  ((refine W_seqV ?_);intro K hK;(refine sRa ?_))
  (refine ⟨by kernel_rfl,_,.pure rfl (hm),?_⟩;(try (refine sRa ?_)))
  (refine hK _ ?_;clear hK K)
  refine W_ret ?_
  (refine qG ?_;try exact True.intro);try (refine sRaV ?_;try exact True.intro)
theorem q_num (q:Rat):iv (decide (q.num<0)) (limbs q.num.natAbs)=q.num:=iv_cZ _
theorem sgnq (q:Rat) (h:(qr q).ok):Pure Tryz.prog 176 [cI (decide (q.num<0)) (limbs q.num.natAbs)] (· = .int .i64 q.num.sign):=by
 have:=wsign_ok (decide (q.num<0)) (limbs q.num.natAbs) (limbs_limbs _) (Nat.lt_trans h.nl (by decide))
 rwa [q_num] at this
theorem den_iv (q:Rat):iv false (limbs q.den)=q.den:=by simp [iv,val_limbs]
set_option maxHeartbeats 4000000 in
theorem rsign_ok (r:RR) (hr:r.ok):Pure Tryz.prog 119 [r.av] (· = .int .i64 r.v.num.sign):=by
 have hn:=rnorm_ok r hr
 have hs:=sgnq r.v (v_ok hr)
 obtain ⟨neg,n,d⟩:=r
 simp only [RR.av] at hn ⊢
 generalize RR.v _=q at *
 simp only [cQ] at hn
 (refine pureW Tryz.func119 rfl (rs:=[Go.ResultVar.tmp 2]) rfl (n:=7) rfl ?_;simp only [List.length_cons,List.length_nil,List.replicate,List.cons_append,List.nil_append])
 (refine aRa ?_)
 ((refine W_seqV ?_);intro K hK;(refine sRa ?_))
 (refine ⟨by kernel_rfl,_,.pure rfl (hn),?_⟩;(try (refine sRa ?_)))
 (refine ⟨by kernel_rfl,_,.pure rfl (hs),?_⟩;(try (refine sRa ?_)))
 (refine hK _ ?_;clear hK K)
 refine W_ret ?_
 (refine qG ?_;try exact True.intro);try (refine sRaV ?_;try exact True.intro)
set_option maxHeartbeats 1000000 in
theorem rwhole_ok (n:Int) (h1 : -9223372036854775808≤n) (h2:n<9223372036854775808):Pure Tryz.prog 59 [.int .i64 n] (·=cQ n):=by
 have hw:=wof_ok n h1 h2
 (refine pureW Tryz.func59 rfl (rs:=[Go.ResultVar.cell 2 39]) rfl (n:=7) rfl ?_;simp only [List.length_cons,List.length_nil,List.replicate,List.cons_append,List.nil_append])
 (refine aRa ?_)
 ((refine W_seqV ?_);intro K hK;(refine sRa ?_))
 (refine ⟨by kernel_rfl,_,.pure rfl (hw),?_⟩;(try (refine sRa ?_));(repeat refine aI ?_))
 (refine hK _ ?_;clear hK K)
 refine W_ret ?_
 (refine qG ?_;try exact True.intro);try (refine sRaV ?_;try exact True.intro)
 simp [limbs_1,u32s]
 rfl
theorem sRb {G G':Prop} (h:G') (e:G=G':=by conv=>lhs;simp (disch:=omega) only [rowsOf,cNat,cN,St.ret,St.seth,Eff.app,Eff.wi,sepL,guardOf,St.known,objOf,List.set,sliceW,litW,copyW,lenOf,bnd,mxOk,ofCells,TI.isAgg,cellsOf,storable,AV.one,dead,laid,overlay,reduceCtorEq,Int.reduceLE,Int.reduceLT,Int.reduceSub,Int.reduceAdd,Nat.reduceMul,Int.reduceToNat,Nat.reducePow,Int.reduceNeg,Nat.reduceAdd,Nat.reduceLT,Nat.reduceLeDiff,sA,sB,cZ,cI,cQ,sT]):G:=e.mpr h
theorem sRbV {G G':Prop} (h:G') (e:G=G':=by conv=>lhs;simp (disch:=omega) only [rowsOf,cNat,cN,St.ret,St.seth,Eff.app,Eff.wi,sepL,guardOf,St.known,objOf,List.set,sliceW,litW,copyW,lenOf,bnd,mxOk,ofCells,TI.isAgg,cellsOf,storable,AV.one,dead,laid,overlay,reduceCtorEq,Int.reduceLE,Int.reduceLT,Int.reduceSub,Int.reduceAdd,Nat.reduceMul,Int.reduceToNat,Nat.reducePow,Int.reduceNeg,Nat.reduceAdd,Nat.reduceLT,Nat.reduceLeDiff,sA,sB,cZ,cI,cQ,sT,view_sref,viewRef,view_agg,views_cons,views_nil,view_bool,view_int,view_sl,view_nils,view_str,view_tup,view_nilif]):G:=e.mpr h
def rs (q:Rat):Int:=q.num.sign
theorem rs_mkRat (n:Int) {d:Nat} (h:d≠0):rs (mkRat n d)=n.sign:=by
 unfold rs
 rw [Rat.num_mkRat,if_neg h]
 have hg:0<d.gcd n.natAbs:=Nat.gcd_pos_of_pos_left _ (Nat.pos_of_ne_zero h)
 obtain ⟨k,hk⟩:((d.gcd n.natAbs:Nat):Int)∣n:=by
  rw [← Int.dvd_natAbs,Int.ofNat_dvd];exact Nat.gcd_dvd_right _ _
 generalize d.gcd n.natAbs=g at *
 subst hk
 rw [Int.mul_ediv_cancel_left _ (by omega),Int.sign_mul,Int.sign_eq_one_of_pos (show (0:Int)<(g:Int) by omega),Int.one_mul]
theorem rs_sub (a b:Rat):rs (a-b)=(a.num*b.den-b.num*a.den).sign:=by
 rw [Rat.sub_def',rs_mkRat _ (Nat.mul_ne_zero a.den_nz b.den_nz)]
theorem mkRat_iv (z:Int) (d:Nat):mkRat (iv (decide (z<0)) (limbs z.natAbs)) (val (limbs d))=mkRat z d:=by rw [iv_cZ,val_limbs]
theorem mul_qq (a b:Rat) (ha:(qr a).ok) (hb:(qr b).ok):Pure Tryz.prog 152 [cI (decide (a.num<0)) (limbs a.num.natAbs),cI (decide (b.num<0)) (limbs b.num.natAbs)] (·=cZ (a.num*b.num)):=by
 have:=wmul_ok (decide (a.num<0)) (limbs a.num.natAbs) (limbs_limbs _) (Nat.lt_trans ha.nl (by decide)) (decide (b.num<0)) (limbs b.num.natAbs) (limbs_limbs _) (Nat.lt_trans hb.nl (by decide))
 rwa [q_num,q_num] at this
theorem mul_qd (a b:Rat) (ha:(qr a).ok) (hb:(qr b).ok):Pure Tryz.prog 152 [cI (decide (a.num<0)) (limbs a.num.natAbs),cI false (limbs b.den)] (·=cZ (a.num*b.den)):=by
 have:=wmul_ok (decide (a.num<0)) (limbs a.num.natAbs) (limbs_limbs _) (Nat.lt_trans ha.nl (by decide)) false (limbs b.den) (limbs_limbs _) (Nat.lt_trans hb.dl (by decide))
 rwa [q_num,den_iv] at this
theorem zl_qd (a b:Rat) (ha:(qr a).ok) (hb:(qr b).ok):zl (a.num*b.den)<34359738368:=by
 have h1:=zl_mul a.num b.den
 have h2:zl a.num<17179869184:=ha.nl
 have h3:zl (b.den:Int)<17179869184:=hb.dl
 omega
theorem dd_ok (a b:Rat) (ha:(qr a).ok) (hb:(qr b).ok):Pure Tryz.prog 188 [cNat (limbs a.den),cNat (limbs b.den)] (·=cN (a.den*b.den)):=by
 have:=nmul_ok (limbs a.den) (limbs b.den) (limbs_limbs _) (limbs_limbs _) (Nat.lt_trans ha.dl (by decide)) (Nat.lt_trans hb.dl (by decide))
 rwa [val_limbs,val_limbs] at this
theorem dd_len (a b:Rat) (ha:(qr a).ok) (hb:(qr b).ok):(limbs (a.den*b.den)).length<34359738368:=by
 have h1:=len_mul a.den b.den
 have h2:(limbs a.den).length<17179869184:=ha.dl
 have h3:(limbs b.den).length<17179869184:=hb.dl
 omega
theorem made_zd (z:Int) (d:Nat) (hz:zl z<274877906944) (hd:(limbs d).length<274877906944) (h0:d≠0) :
  Pure Tryz.prog 186 [cI (decide (z<0)) (limbs z.natAbs),cNat (limbs d)] (·=cQ (mkRat z d)):=by
 have:=rmade_ok (decide (z<0)) (limbs z.natAbs) (limbs d) (limbs_limbs _) (limbs_limbs _) hz hd (by rw [val_limbs];exact h0)
 rwa [mkRat_iv] at this
set_option maxHeartbeats 4000000 in
theorem rcmp_ok (r t:RR) (hr:r.ok) (ht:t.ok):Pure Tryz.prog 80 [r.av,t.av] (· = .int .i64 (rs (r.v-t.v))):=by
 have hn:=rnorm_ok r hr
 have hm:=rnorm_ok t ht
 have ho:=v_ok hr
 have hp:=v_ok ht
 obtain ⟨neg,n,d⟩:=r
 obtain ⟨neg',n',d'⟩:=t
 simp only [RR.av] at hn hm ⊢
 generalize RR.v _=q at *
 generalize RR.v _=p at *
 have h1:=mul_qd q p ho hp
 have h2:=mul_qd p q hp ho
 have z1:=zl_qd q p ho hp
 have z2:=zl_qd p q hp ho
 have hc:=wcmp_ok (decide (q.num*p.den<0)) (limbs (q.num*p.den).natAbs) (limbs_limbs _) (Nat.lt_trans z1 (by decide)) (decide (p.num*q.den<0)) (limbs (p.num*q.den).natAbs) (limbs_limbs _) (Nat.lt_trans z2 (by decide))
 rw [iv_cZ,iv_cZ] at hc
 rw [rs_sub]
 simp only [cQ] at hn hm
 (refine pureW Tryz.func80 rfl (rs:=[Go.ResultVar.tmp 4]) rfl (n:=22) rfl ?_;simp only [List.length_cons,List.length_nil,List.replicate,List.cons_append,List.nil_append])
 ((refine W_seqV ?_);intro K hK;(refine sRb ?_))
 (refine hK _ ?_;clear hK K)
 ((refine W_seqD mixed [(2,4)] (by kernel_rfl) ?_);intro K hK;(refine sRb ?_))
 (refine ⟨by kernel_rfl,_,.pure rfl (hn),?_⟩;(try (refine sRb ?_)))
 (refine ⟨by kernel_rfl,_,.pure rfl (hm),?_⟩;(try (refine sRb ?_));(repeat refine aI ?_))
 (refine hK _ ?_;clear hK K)
 ((refine W_seqD mixed [] (by kernel_rfl) ?_);intro K hK;(refine sRb ?_))
 (refine ⟨by kernel_rfl,_,.pure rfl (h1),?_⟩;(try (refine sRb ?_)))
 (refine ⟨by kernel_rfl,_,.pure rfl (h2),?_⟩;(try (refine sRb ?_)))
 (refine ⟨by kernel_rfl,_,.pure rfl (hc),?_⟩;(try (refine sRb ?_)))
 (refine hK _ ?_;clear hK K)
 refine W_ret ?_
 (refine qG ?_;try exact True.intro);try (refine sRbV ?_;try exact True.intro)
set_option maxHeartbeats 4000000 in
theorem radd_ok (r t:RR) (hr:r.ok) (ht:t.ok):Pure Tryz.prog 132 [r.av,t.av] (·=cQ (r.v+t.v)):=by
 have hn:=rnorm_ok r hr
 have hm:=rnorm_ok t ht
 have ho:=v_ok hr
 have hp:=v_ok ht
 obtain ⟨neg,n,d⟩:=r
 obtain ⟨neg',n',d'⟩:=t
 simp only [RR.av] at hn hm ⊢
 generalize RR.v _=q at *
 generalize RR.v _=p at *
 have h1:=mul_qd q p ho hp
 have h2:=mul_qd p q hp ho
 have z1:=zl_qd q p ho hp
 have z2:=zl_qd p q hp ho
 have hc:=wadd_ok (decide (q.num*p.den<0)) (limbs (q.num*p.den).natAbs) (limbs_limbs _) (Nat.lt_trans z1 (by decide)) (decide (p.num*q.den<0)) (limbs (p.num*q.den).natAbs) (limbs_limbs _) (Nat.lt_trans z2 (by decide))
 rw [iv_cZ,iv_cZ] at hc
 have z3:=zl_add (q.num*p.den) (p.num*q.den)
 have hd:=dd_ok q p ho hp
 have hl:=dd_len q p ho hp
 have hmd:=made_zd (q.num*p.den+p.num*q.den) (q.den*p.den) (by omega) (by omega) (Nat.mul_ne_zero q.den_nz p.den_nz)
 rw [← Rat.add_def'] at hmd
 simp only [cQ] at hn hm
 (refine pureW Tryz.func132 rfl (rs:=[Go.ResultVar.cell 4 39]) rfl (n:=30) rfl ?_;simp only [List.length_cons,List.length_nil,List.replicate,List.cons_append,List.nil_append])
 ((refine W_seqV ?_);intro K hK;(refine sRb ?_))
 (refine hK _ ?_;clear hK K)
 ((refine W_seqD mixed [(2,4)] (by kernel_rfl) ?_);intro K hK;(refine sRb ?_))
 (refine ⟨by kernel_rfl,_,.pure rfl (hn),?_⟩;(try (refine sRb ?_)))
 (refine ⟨by kernel_rfl,_,.pure rfl (hm),?_⟩;(try (refine sRb ?_));(repeat refine aI ?_))
 (refine hK _ ?_;clear hK K)
 ((refine W_seqD mixed [(1,13),(3,13),(7,13),(9,13)] (by kernel_rfl) ?_);intro K hK;(refine sRb ?_))
 (refine ⟨by kernel_rfl,_,.pure rfl (h1),?_⟩;(try (refine sRb ?_)))
 (refine ⟨by kernel_rfl,_,.pure rfl (h2),?_⟩;(try (refine sRb ?_)))
 (refine ⟨by kernel_rfl,_,.pure rfl (hc),?_⟩;(try (refine sRb ?_));(repeat refine aI ?_))
 (refine hK _ ?_;clear hK K)
 ((refine W_seqD mixed [] (by kernel_rfl) ?_);intro K hK;(refine sRb ?_))
 (refine ⟨by kernel_rfl,_,.pure rfl (hd),?_⟩;(try (refine sRb ?_)))
 (refine ⟨by kernel_rfl,_,.pure rfl (hmd),?_⟩;(try (refine sRb ?_)))
 (refine hK _ ?_;clear hK K)
 refine W_ret ?_
 (refine qG ?_;try exact True.intro);try (refine sRbV ?_;try exact True.intro)
set_option maxHeartbeats 4000000 in
theorem rmul_ok (r t:RR) (hr:r.ok) (ht:t.ok):Pure Tryz.prog 133 [r.av,t.av] (·=cQ (r.v*t.v)):=by
 have hn:=rnorm_ok r hr
 have hm:=rnorm_ok t ht
 have ho:=v_ok hr
 have hp:=v_ok ht
 obtain ⟨neg,n,d⟩:=r
 obtain ⟨neg',n',d'⟩:=t
 simp only [RR.av] at hn hm ⊢
 generalize RR.v _=q at *
 generalize RR.v _=p at *
 have h1:=mul_qq q p ho hp
 have z1:zl (q.num*p.num)<34359738368:=by
  have h1:=zl_mul q.num p.num
  have h2:zl q.num<17179869184:=ho.nl
  have h3:zl p.num<17179869184:=hp.nl
  omega
 have hd:=dd_ok q p ho hp
 have hl:=dd_len q p ho hp
 have hmd:=made_zd (q.num*p.num) (q.den*p.den) (by omega) (by omega) (Nat.mul_ne_zero q.den_nz p.den_nz)
 rw [← Rat.mul_def'] at hmd
 simp only [cQ] at hn hm
 (refine pureW Tryz.func133 rfl (rs:=[Go.ResultVar.cell 4 39]) rfl (n:=20) rfl ?_;simp only [List.length_cons,List.length_nil,List.replicate,List.cons_append,List.nil_append])
 ((refine W_seqV ?_);intro K hK;(refine sRb ?_))
 (refine hK _ ?_;clear hK K)
 ((refine W_seqD mixed [(2,4)] (by kernel_rfl) ?_);intro K hK;(refine sRb ?_))
 (refine ⟨by kernel_rfl,_,.pure rfl (hn),?_⟩;(try (refine sRb ?_)))
 (refine ⟨by kernel_rfl,_,.pure rfl (hm),?_⟩;(try (refine sRb ?_));(repeat refine aI ?_))
 (refine hK _ ?_;clear hK K)
 ((refine W_seqD mixed [] (by kernel_rfl) ?_);intro K hK;(refine sRb ?_))
 (refine ⟨by kernel_rfl,_,.pure rfl (h1),?_⟩;(try (refine sRb ?_)))
 (refine ⟨by kernel_rfl,_,.pure rfl (hd),?_⟩;(try (refine sRb ?_)))
 (refine ⟨by kernel_rfl,_,.pure rfl (hmd),?_⟩;(try (refine sRb ?_)))
 (refine hK _ ?_;clear hK K)
 refine W_ret ?_
 (refine qG ?_;try exact True.intro);try (refine sRbV ?_;try exact True.intro)
def noQ:AV := .tup [.agg [.bool false,.sl [],.sl []],.int .i64 11]
def cQE (q:Rat):AV := .tup [cQ q,.int .i64 0]
def tab {α:Type} (enc:α→List AV) (l:List α):List (List AV):=l.map enc
section
variable {α:Type} {enc:α→List AV}
theorem tab_length (l:List α):(tab enc l).length=l.length:=by simp [tab]
theorem tab_getD [Inhabited α] {l:List α} {i:Nat} (h:i<l.length):(tab enc l).getD i []=enc (l.getD i default):=by simp [tab,List.getD_eq_getElem?_getD,h]
theorem tab_take (l:List α) (n:Nat):(tab enc l).take n=tab enc (l.take n):=by simp [tab,List.map_take]
theorem tab_drop (l:List α) (n:Nat):(tab enc l).drop n=tab enc (l.drop n):=by simp [tab,List.map_drop]
theorem tab_append (l m:List α):tab enc l++tab enc m=tab enc (l++m):=by simp [tab]
theorem tab_nil:tab enc []=[]:=rfl
theorem tab_snoc (l:List α) (x:α):tab enc l++[enc x]=tab enc (l++[x]):=by simp [tab]
theorem tab_set (l:List α) (n:Nat) (x:α):(tab enc l).set n (enc x)=tab enc (l.set n x):=by simp [tab,List.map_set]
theorem tab_all {k:Nat} (h:∀ x,(enc x).length=k) (l:List α):AllLen k (tab enc l):=by
 intro r hr
 simp only [tab,List.mem_map] at hr
 obtain ⟨x,_,rfl⟩:=hr
 exact h x
theorem tab_one (h:∀ x,(enc x).all AV.one=true) (l:List α):AllOne (tab enc l):=by
 intro r hr
 simp only [tab,List.mem_map] at hr
 obtain ⟨x,_,rfl⟩:=hr
 exact h x
theorem tab_pure (h:∀ x,AV.pures (enc x)=true) (l:List α):AllPure (tab enc l):=by
 intro r hr
 simp only [tab,List.mem_map] at hr
 obtain ⟨x,_,rfl⟩:=hr
 exact h x
end
theorem pos_succ {n:Nat}:(0<n+1)=True:=by simp
theorem drop_one {α:Type} {x:α} {l:List α}:(x::l).drop 1=l:=rfl
theorem tab_getD_zero {α:Type} {enc:α→List AV} {x:α} {l:List α}:(tab enc (x::l)).getD 0 []=enc x:=rfl
theorem tab_cons {α:Type} {enc:α→List AV} {x:α} {l:List α}:tab enc (x::l)=enc x::tab enc l:=rfl
instance:Inhabited RR:=⟨⟨false,[],[]⟩⟩
def rowM (p:Int × RR):List AV:=[.int .i64 p.1,.bool p.2.neg,.sl (u32s p.2.num),.sl (u32s p.2.den)]
def rowQ (p:Int × Rat):List AV:=[.int .i64 p.1,.bool (decide (p.2.num<0)),.sl (u32s (limbs p.2.num.natAbs)),.sl (u32s (limbs p.2.den))]
def cF (f:List (Int × RR)):AV := .sl (tab rowM f)
def cL (l:List (Int × Rat)):AV := .sl (tab rowQ l)
def rf (l:List (Int × Rat)):List (Int × RR):=l.map fun p=>(p.1,qr p.2)
def vals (f:List (Int × RR)):List (Int × Rat):=f.map fun p=>(p.1,p.2.v)
theorem vals_rf (l:List (Int × Rat)):vals (rf l)=l:=by
 simp only [vals,rf,List.map_map]
 conv=>rhs;rw [← List.map_id l]
 refine List.map_congr_left fun p _=>?_
 simp [qr_v]
theorem tab_rf (l:List (Int × Rat)):tab rowM (rf l)=tab rowQ l:=by
 simp only [tab,rf,List.map_map];rfl
theorem cF_rf (l:List (Int × Rat)):cF (rf l)=cL l:=by rw [cF,tab_rf];rfl
theorem rowM_all (f:List (Int × RR)):AllLen 4 (tab rowM f):=tab_all (k:=4) (fun _=>rfl) f
theorem rowQ_all (f:List (Int × Rat)):AllLen 4 (tab rowQ f):=tab_all (k:=4) (fun _=>rfl) f
theorem rowM_one (f:List (Int × RR)):AllOne (tab rowM f):=tab_one (fun _=>rfl) f
theorem rowQ_one (f:List (Int × Rat)):AllOne (tab rowQ f):=tab_one (fun _=>rfl) f
theorem rowM_pure (f:List (Int × RR)):AllPure (tab rowM f):=tab_pure (fun _=>rfl) f
theorem rowQ_pure (f:List (Int × Rat)):AllPure (tab rowQ f):=tab_pure (fun _=>rfl) f
def coef:List (Int × Rat)→Int→Rat
 | [],_=>0
 | p::l,v=>(if p.1=v then p.2 else 0)+coef l v
theorem coef_append (f g:List (Int × Rat)) (v:Int):coef (f++g) v=coef f v+coef g v:=by
 induction f with
 | nil=>simp [coef,Rat.zero_add]
 | cons p f ih=>simp only [List.cons_append,coef,ih,Rat.add_assoc]
def nbv:List (Int × Rat)→Int→Nat
 | [],_=>0
 | p::l,v=>(if p.1=v then nb p.2 else 0)+nbv l v
theorem nbv_append (f g:List (Int × Rat)) (v:Int):nbv (f++g) v=nbv f v+nbv g v:=by
 induction f with
 | nil=>simp [nbv]
 | cons p f ih=>simp only [List.cons_append,nbv,ih];omega
theorem nbv_mem {l:List (Int × Rat)} {p:Int × Rat} (h:p∈l):nb p.2≤nbv l p.1:=by
 induction l with
 | nil=>cases h
 | cons q l ih =>
  simp only [nbv]
  rcases List.mem_cons.1 h with rfl | h
  ·simp
  ·have:=ih h;omega
structure Sz (l:List (Int × Rat)) (B:Nat):Prop where
 b:∀ v,nbv l v≤B
 l:l.length≤B
theorem Sz.mem {l:List (Int × Rat)} {B:Nat} (h:Sz l B) {p:Int × Rat} (hp:p∈l):nb p.2≤B:=Nat.le_trans (nbv_mem hp) (h.b _)
theorem Sz.mono {l:List (Int × Rat)} {B C:Nat} (h:Sz l B) (hc:B≤C):Sz l C:=⟨fun v=>Nat.le_trans (h.b v) hc,Nat.le_trans h.l hc⟩
theorem Sz.append {f g:List (Int × Rat)} {B C:Nat} (hf:Sz f B) (hg:Sz g C):Sz (f++g) (B+C) :=
 ⟨fun v=>by rw [nbv_append];have:=hf.b v;have:=hg.b v;omega,by rw [List.length_append];have:=hf.l;have:=hg.l;omega⟩
theorem Sz.left {f g:List (Int × Rat)} {B:Nat} (h:Sz (f++g) B):Sz f B :=
 ⟨fun v=>by have:=h.b v;rw [nbv_append] at this;omega,by have:=h.l;rw [List.length_append] at this;omega⟩
theorem Sz.right {f g:List (Int × Rat)} {B:Nat} (h:Sz (f++g) B):Sz g B :=
 ⟨fun v=>by have:=h.b v;rw [nbv_append] at this;omega,by have:=h.l;rw [List.length_append] at this;omega⟩
structure NF (l:List (Int × Rat)):Prop where
 lt:l.Pairwise fun p q=>p.1<q.1
 nz:∀ p∈l,p.2≠0
theorem NF.nil:NF []:=⟨List.Pairwise.nil,fun _ h=>by cases h⟩
theorem NF.tail {p:Int × Rat} {l:List (Int × Rat)} (h:NF (p::l)):NF l:=⟨(List.pairwise_cons.1 h.lt).2,fun q hq=>h.nz q (List.mem_cons_of_mem _ hq)⟩
theorem NF.cons {p:Int × Rat} {l:List (Int × Rat)} (h:NF l) (h0:p.2≠0) (hl:∀ q∈l,p.1<q.1):NF (p::l) :=
 ⟨List.pairwise_cons.2 ⟨hl,h.lt⟩,fun q hq=>by rcases List.mem_cons.1 hq with rfl | hq;exact h0;exact h.nz q hq⟩
theorem NF.head {p:Int × Rat} {l:List (Int × Rat)} (h:NF (p::l)):∀ q∈l,p.1<q.1:=(List.pairwise_cons.1 h.lt).1
theorem coef_none {l:List (Int × Rat)} {v:Int} (h:∀ p∈l,p.1≠v):coef l v=0:=by
 induction l with
 | nil=>rfl
 | cons p l ih=>rw [coef,if_neg (h p List.mem_cons_self),ih fun q hq=>h q (List.mem_cons_of_mem _ hq),Rat.zero_add]
theorem NF.coef_head {p:Int × Rat} {l:List (Int × Rat)} (h:NF (p::l)):coef (p::l) p.1=p.2:=by
 rw [coef,if_pos rfl,coef_none fun q hq=>by have:=h.head q hq;omega,Rat.add_zero]
theorem NF.coef_lt {p:Int × Rat} {l:List (Int × Rat)} (h:NF (p::l)) {v:Int} (hv:v<p.1):coef (p::l) v=0 :=
 coef_none fun q hq=>by
  rcases List.mem_cons.1 hq with rfl | hq
  ·omega
  ·have:=h.head q hq;omega
theorem NF.coef_tail {p:Int × Rat} {l:List (Int × Rat)} (h:NF (p::l)) (v:Int):coef l v=if p.1=v then 0 else coef (p::l) v:=by
 split
 ·rename_i hv;subst hv;exact coef_none fun q hq=>by have:=h.head q hq;omega
 ·rename_i hv;rw [coef,if_neg hv,Rat.zero_add]
theorem NF.ext:∀ {f g:List (Int × Rat)},NF f→NF g→(∀ v,coef f v=coef g v)→f=g
 | [],[],_,_,_=>rfl
 | [],q::g,_,hg,h=>by
  have:=h q.1
  rw [hg.coef_head] at this
  exact absurd this.symm (hg.nz q List.mem_cons_self)
 | p::f,[],hf,_,h=>by
  have:=h p.1
  rw [hf.coef_head] at this
  exact absurd this (hf.nz p List.mem_cons_self)
 | p::f,q::g,hf,hg,h=>by
  have h1:p.1=q.1:=by
   rcases Int.lt_trichotomy p.1 q.1 with hlt | he | hlt
   ·have:=h p.1
    rw [hf.coef_head,hg.coef_lt hlt] at this
    exact absurd this (hf.nz p List.mem_cons_self)
   ·exact he
   ·have:=h q.1
    rw [hg.coef_head,hf.coef_lt hlt] at this
    exact absurd this.symm (hg.nz q List.mem_cons_self)
  have h2:p.2=q.2:=by
   have:=h p.1
   rwa [hf.coef_head,h1,hg.coef_head] at this
  have h3:f=g:=NF.ext hf.tail hg.tail fun v=>by rw [hf.coef_tail,hg.coef_tail,h1,h v]
  rw [h3,show p=q from Prod.ext h1 h2]
def mergeF:List (Int × Rat)→List (Int × Rat)→List (Int × Rat)
 | [],g=>g
 | f,[]=>f
 | p::f,q::g=>if p.1<q.1 then p::mergeF f (q::g) else if q.1<p.1 then q::mergeF (p::f) g else if p.2+q.2=0 then mergeF f g else (p.1,p.2+q.2)::mergeF f g
 termination_by f g=>f.length+g.length
theorem mergeF_nil_left (g:List (Int × Rat)):mergeF [] g=g:=by simp [mergeF]
theorem mergeF_nil_right (f:List (Int × Rat)):mergeF f []=f:=by cases f <;> simp [mergeF]
theorem mergeF_cons (p:Int × Rat) (f:List (Int × Rat)) (q:Int × Rat) (g:List (Int × Rat)):mergeF (p::f) (q::g)=if p.1<q.1 then p::mergeF f (q::g) else if q.1<p.1 then q::mergeF (p::f) g else if p.2+q.2=0 then mergeF f g else (p.1,p.2+q.2)::mergeF f g:=by
 rw [mergeF]
theorem mergeF_ind {P:List (Int × Rat)→List (Int × Rat)→Prop} (h1:∀ g,P [] g) (h2:∀ f,P f [])
  (h3:∀ p f q g,P f (q::g)→P (p::f) g→P f g→P (p::f) (q::g)):∀ f g,P f g:=by
 intro f g
 induction hn:f.length+g.length using Nat.strongRecOn generalizing f g with
 | _ n ih =>
  match f,g with
  | [],g=>exact h1 g
  | p::f,[]=>exact h2 _
  | p::f,q::g =>
   simp only [List.length_cons] at hn
   exact h3 p f q g (ih _ (by simp only [List.length_cons];omega) f (q::g) rfl) (ih _ (by simp only [List.length_cons];omega) (p::f) g rfl) (ih _ (by omega) f g rfl)
theorem coef_merge (v:Int):∀ f g:List (Int × Rat),coef (mergeF f g) v=coef f v+coef g v:=by
 refine mergeF_ind (fun g=>?_) (fun f=>?_) fun p f q g i1 i2 i3=>?_
 ·rw [mergeF_nil_left,coef,Rat.zero_add]
 ·rw [mergeF_nil_right];simp [coef,Rat.add_zero]
 ·rw [mergeF_cons]
  split
  ·simp only [coef,i1];grind
  ·split
   ·simp only [coef,i2];grind
   ·have he:p.1=q.1:=by omega
    split
    ·rename_i h0
     simp only [i3,coef,he]
     split <;> grind
    ·simp only [coef,i3,he]
     split <;> grind
theorem mem_merge {r:Int × Rat}:∀ f g:List (Int × Rat),r∈mergeF f g→(∃ p∈f,p.1=r.1)∨∃ q∈g,q.1=r.1:=by
 refine mergeF_ind (fun g h=>?_) (fun f h=>?_) fun p f q g i1 i2 i3 h=>?_
 ·rw [mergeF_nil_left] at h;exact .inr ⟨r,h,rfl⟩
 ·rw [mergeF_nil_right] at h;exact .inl ⟨r,h,rfl⟩
 ·rw [mergeF_cons] at h
  have lift:∀ {f' g':List (Int × Rat)},(∀ x∈f',x∈p::f)→(∀ x∈g',x∈q::g)→((∃ x∈f',x.1=r.1)∨∃ x∈g',x.1=r.1)→(∃ x∈p::f,x.1=r.1)∨∃ x∈q::g,x.1=r.1:=by
   rintro f' g' hf hg (⟨x,hx,e⟩ | ⟨x,hx,e⟩)
   ·exact .inl ⟨x,hf x hx,e⟩
   ·exact .inr ⟨x,hg x hx,e⟩
  split at h
  ·rcases List.mem_cons.1 h with rfl | h
   ·exact .inl ⟨r,List.mem_cons_self,rfl⟩
   ·exact lift (fun x hx=>List.mem_cons_of_mem _ hx) (fun x hx=>hx) (i1 h)
  ·split at h
   ·rcases List.mem_cons.1 h with rfl | h
    ·exact .inr ⟨r,List.mem_cons_self,rfl⟩
    ·exact lift (fun x hx=>hx) (fun x hx=>List.mem_cons_of_mem _ hx) (i2 h)
   ·split at h
    ·exact lift (fun x hx=>List.mem_cons_of_mem _ hx) (fun x hx=>List.mem_cons_of_mem _ hx) (i3 h)
    ·rcases List.mem_cons.1 h with rfl | h
     ·exact .inl ⟨p,List.mem_cons_self,rfl⟩
     ·exact lift (fun x hx=>List.mem_cons_of_mem _ hx) (fun x hx=>List.mem_cons_of_mem _ hx) (i3 h)
theorem NF.merge:∀ f g:List (Int × Rat),NF f→NF g→NF (mergeF f g):=by
 refine mergeF_ind (fun g hf hg=>?_) (fun f hf hg=>?_) fun p f q g i1 i2 i3 hf hg=>?_
 ·rwa [mergeF_nil_left]
 ·rwa [mergeF_nil_right]
 ·rw [mergeF_cons]
  have lo:∀ v,(∀ x∈p::f,v≤x.1)→True:=fun _ _=>trivial
  split
  ·rename_i h
   refine NF.cons (i1 hf.tail hg) (hf.nz p List.mem_cons_self) fun r hr=>?_
   rcases mem_merge _ _ hr with ⟨x,hx,e⟩ | ⟨x,hx,e⟩
   ·have:=hf.head x hx;omega
   ·rcases List.mem_cons.1 hx with rfl | hx
    ·omega
    ·have:=hg.head x hx;omega
  ·split
   ·rename_i h1 h
    refine NF.cons (i2 hf hg.tail) (hg.nz q List.mem_cons_self) fun r hr=>?_
    rcases mem_merge _ _ hr with ⟨x,hx,e⟩ | ⟨x,hx,e⟩
    ·rcases List.mem_cons.1 hx with rfl | hx
     ·omega
     ·have:=hf.head x hx;omega
    ·have:=hg.head x hx;omega
   ·have he:p.1=q.1:=by omega
    split
    ·exact i3 hf.tail hg.tail
    ·rename_i h0
     refine NF.cons (i3 hf.tail hg.tail) h0 fun r hr=>?_
     rcases mem_merge _ _ hr with ⟨x,hx,e⟩ | ⟨x,hx,e⟩
     ·have:=hf.head x hx;dsimp only;omega
     ·have:=hg.head x hx;dsimp only;omega
theorem nbv_merge (v:Int):∀ f g:List (Int × Rat),nbv (mergeF f g) v≤nbv f v+nbv g v:=by
 refine mergeF_ind (fun g=>?_) (fun f=>?_) fun p f q g i1 i2 i3=>?_
 ·rw [mergeF_nil_left];simp [nbv]
 ·rw [mergeF_nil_right];simp [nbv]
 ·rw [mergeF_cons]
  simp only [nbv] at *
  split
  ·simp only [nbv];omega
  ·split
   ·simp only [nbv];omega
   ·have he:p.1=q.1:=by omega
    split
    ·omega
    ·simp only [nbv]
     have:=nb_add p.2 q.2
     rw [he]
     split <;> omega
theorem len_merge:∀ f g:List (Int × Rat),(mergeF f g).length≤f.length+g.length:=by
 refine mergeF_ind (fun g=>?_) (fun f=>?_) fun p f q g i1 i2 i3=>?_
 ·rw [mergeF_nil_left];simp
 ·rw [mergeF_nil_right];simp
 ·rw [mergeF_cons]
  simp only [List.length_cons] at *
  split
  ·simp only [List.length_cons];omega
  ·split
   ·simp only [List.length_cons];omega
   ·split
    ·omega
    ·simp only [List.length_cons];omega
def normF:List (Int × Rat)→List (Int × Rat)
 | []=>[]
 | p::f=>mergeF (if p.2=0 then [] else [p]) (normF f)
theorem coef_norm (v:Int):∀ f:List (Int × Rat),coef (normF f) v=coef f v
 | []=>rfl
 | p::f=>by
  rw [normF,coef_merge,coef_norm v f,coef]
  split
  ·rename_i h;rw [h];simp [coef]
  ·simp [coef,Rat.add_zero]
theorem NF.norm:∀ f:List (Int × Rat),NF (normF f)
 | []=>NF.nil
 | p::f=>by
  rw [normF]
  refine NF.merge _ _ ?_ (NF.norm f)
  split
  ·exact NF.nil
  ·rename_i h;exact NF.cons NF.nil h fun _ h=>by cases h
theorem nbv_norm (v:Int):∀ f:List (Int × Rat),nbv (normF f) v≤nbv f v
 | []=>Nat.le_refl _
 | p::f=>by
  rw [normF]
  refine Nat.le_trans (nbv_merge _ _ _) ?_
  have:=nbv_norm v f
  simp only [nbv]
  split
  ·simp only [nbv];omega
  ·simp only [nbv];omega
theorem len_norm:∀ f:List (Int × Rat),(normF f).length≤f.length
 | []=>Nat.le_refl _
 | p::f=>by
  rw [normF]
  refine Nat.le_trans (len_merge _ _) ?_
  have:=len_norm f
  split <;> simp only [List.length_cons,List.length_nil] <;> omega
theorem Sz.norm {f:List (Int × Rat)} {B:Nat} (h:Sz f B):Sz (normF f) B:=⟨fun v=>Nat.le_trans (nbv_norm v f) (h.b v),Nat.le_trans (len_norm f) h.l⟩
theorem norm_of {f g:List (Int × Rat)} (hg:NF g) (h:∀ v,coef g v=coef f v):g=normF f:=NF.ext hg (NF.norm f) fun v=>by rw [h,coef_norm]
theorem norm_self {f:List (Int × Rat)} (h:NF f):normF f=f:=(norm_of h fun _=>rfl).symm
theorem norm_split (f g:List (Int × Rat)):mergeF (normF f) (normF g)=normF (f++g) :=
 norm_of (NF.merge _ _ (NF.norm f) (NF.norm g)) fun v=>by rw [coef_merge,coef_norm,coef_norm,coef_append]
def nbs:List (Int × Rat)→Nat
 | []=>0
 | p::l=>nb p.2+nbs l
theorem nbs_append (f g:List (Int × Rat)):nbs (f++g)=nbs f+nbs g:=by
 induction f with
 | nil=>simp [nbs]
 | cons p f ih=>simp only [List.cons_append,nbs,ih];omega
theorem nbv_le_nbs (l:List (Int × Rat)) (v:Int):nbv l v≤nbs l:=by
 induction l with
 | nil=>exact Nat.le_refl _
 | cons p l ih=>simp only [nbv,nbs];split <;> omega
theorem nbs_len (l:List (Int × Rat)):l.length≤nbs l:=by
 induction l with
 | nil=>simp
 | cons p l ih=>simp only [nbs,List.length_cons];have:=nb_pos p.2;omega
theorem Sz.of (l:List (Int × Rat)):Sz l (nbs l):=⟨nbv_le_nbs l,nbs_len l⟩
theorem nbs_merge:∀ f g:List (Int × Rat),nbs (mergeF f g)≤nbs f+nbs g:=by
 refine mergeF_ind (fun g=>?_) (fun f=>?_) fun p f q g i1 i2 i3=>?_
 ·rw [mergeF_nil_left];simp [nbs]
 ·rw [mergeF_nil_right];simp [nbs]
 ·rw [mergeF_cons]
  simp only [nbs] at *
  split
  ·simp only [nbs];omega
  ·split
   ·simp only [nbs];omega
   ·split
    ·omega
    ·simp only [nbs]
     have:=nb_add p.2 q.2
     omega
theorem nbs_norm:∀ f:List (Int × Rat),nbs (normF f)≤nbs f
 | []=>Nat.le_refl _
 | p::f=>by
  rw [normF]
  refine Nat.le_trans (nbs_merge _ _) ?_
  have:=nbs_norm f
  simp only [nbs]
  split <;> simp only [nbs] <;> omega
def ev2 (x:Int→Rat):List (Int × Rat)→Rat
 | []=>0
 | p::l=>p.2*x p.1+ev2 x l
theorem ev2_append (x:Int→Rat) (f g:List (Int × Rat)):ev2 x (f++g)=ev2 x f+ev2 x g:=by
 induction f with
 | nil=>simp [ev2,Rat.zero_add]
 | cons p f ih=>simp only [List.cons_append,ev2,ih,Rat.add_assoc]
theorem ev2_merge (x:Int→Rat):∀ f g:List (Int × Rat),ev2 x (mergeF f g)=ev2 x f+ev2 x g:=by
 refine mergeF_ind (fun g=>?_) (fun f=>?_) fun p f q g i1 i2 i3=>?_
 ·rw [mergeF_nil_left,ev2,Rat.zero_add]
 ·rw [mergeF_nil_right];simp [ev2,Rat.add_zero]
 ·rw [mergeF_cons]
  split
  ·rw [ev2,i1,ev2,ev2];grind
  ·split
   ·rw [ev2,i2,ev2,ev2];grind
   ·have he:p.1=q.1:=by omega
    split
    ·rename_i h0
     rw [i3,ev2,ev2,he]
     grind
    ·rw [ev2,i3,ev2,ev2,he]
     grind
theorem ev2_norm (x:Int→Rat):∀ f:List (Int × Rat),ev2 x (normF f)=ev2 x f
 | []=>rfl
 | p::f=>by
  rw [normF,ev2_merge,ev2_norm x f,ev2]
  split
  ·rename_i h;rw [h];simp [ev2]
  ·simp [ev2,Rat.add_zero]
def scaleF (c:Rat) (f:List (Int × Rat)):List (Int × Rat):=f.map fun p=>(p.1,c*p.2)
theorem coef_scale (c:Rat) (f:List (Int × Rat)) (v:Int):coef (scaleF c f) v=c*coef f v:=by
 induction f with
 | nil=>simp [scaleF,coef]
 | cons p f ih =>
  simp only [scaleF,List.map_cons,coef] at *
  rw [ih]
  split <;> grind
theorem NF.scale {f:List (Int × Rat)} (h:NF f) {c:Rat} (hc:c≠0):NF (scaleF c f):=by
 refine ⟨?_,fun p hp=>?_⟩
 ·have:=h.lt
  simp only [scaleF,List.pairwise_map]
  exact this
 ·simp only [scaleF,List.mem_map] at hp
  obtain ⟨q,hq,rfl⟩:=hp
  dsimp only
  intro h0
  rcases Rat.mul_eq_zero.1 h0 with h1 | h1
  ·exact hc h1
  ·exact h.nz q hq h1
theorem ev2_scale (x:Int→Rat) (c:Rat) (f:List (Int × Rat)):ev2 x (scaleF c f)=c*ev2 x f:=by
 induction f with
 | nil=>simp [scaleF,ev2]
 | cons p f ih =>
  simp only [scaleF,List.map_cons,ev2] at *
  rw [ih]
  grind
theorem nbv_none {l:List (Int × Rat)} {v:Int} (h:∀ p∈l,p.1≠v):nbv l v=0:=by
 induction l with
 | nil=>rfl
 | cons p l ih=>rw [nbv,if_neg (h p List.mem_cons_self),ih fun q hq=>h q (List.mem_cons_of_mem _ hq)]
theorem Sz.scale {l:List (Int × Rat)} (hl:NF l) {B:Nat} (h:Sz l B) (c:Rat):Sz (scaleF c l) (nb c+B):=by
 refine ⟨fun v=>?_,by have:=h.l;simp [scaleF];omega⟩
 have key:∀ l:List (Int × Rat),NF l→nbv (scaleF c l) v≤nb c+nbv l v:=by
  intro l
  induction l with
  | nil=>intro _;simp [scaleF,nbv]
  | cons p l ih =>
   intro hl
   have h1:=ih hl.tail
   simp only [scaleF,List.map_cons,nbv] at *
   have h2:=nb_mul c p.2
   split
   ·rename_i hv
    subst hv
    have h3:nbv (l.map fun p=>(p.1,c*p.2)) p.1=0:=nbv_none fun q hq=>by
     simp only [List.mem_map] at hq
     obtain ⟨r,hr,rfl⟩:=hq
     have:=hl.head r hr
     dsimp only
     omega
    rw [h3]
    omega
   ·omega
 have:=key l hl
 have:=h.b v
 omega
def topF (l:List (Int × Rat)):Nat:=l.foldl (fun t p=>Nat.gcd t p.2.num.natAbs) 0
def botF (l:List (Int × Rat)):Nat:=l.foldl (fun t p=>Nat.lcm t p.2.den) 1
def primeC (l:List (Int × Rat)):Rat:=match l with
 | []=>1
 | p::_=>mkRat (iv (decide (p.2.num.sign<0)) (limbs (topF l))) (botF l)
def primeF (l:List (Int × Rat)):List (Int × Rat):=scaleF (primeC l)⁻¹ l
end Go.Proofs.YtjmkfbhecgkbmaaGreat.Vm
namespace Go.Proofs.YtjmkfbhecgkbmaaGreat.Vm
open Go Go.RowKit
set_option maxHeartbeats 2000000 in
theorem fnorm_new0 (l:List Nat) (hl:l.length<1099511627776):New Tryz.prog 139 [cNat l] 179 1 (·=u32s (trim l)):=by
 have hcl:=cutLen_le l l.length
 (refine new_of_W (T:=179) (k:=1) Tryz.func139 rfl (rs:=[Go.ResultVar.tmp 2]) rfl (nt:=35) rfl ?_;simp only [List.length_cons,List.length_nil,List.replicate,List.cons_append,List.nil_append])
 unfold cNat
 (refine aNa ?_)
 refine W_join (fun s'=>Le [] s' ⟨[.sl (u32s l),.any,.nils,.int .i64 (cutLen l l.length),.any,.any,.any,.any,.any,.any,.any,.any,.any,.any,.any,.any,.any,.any,.any,.any,.any,.any,.any,.any,.any,.any,.any,.any,.any,.any,.any,.any,.any,.any,.any],[.dead,.dead,.dead,.dead,.dead,.dead,.dead,.dead,.dead,.dead,.dead,.dead,.dead,.dead,.dead,.dead,.dead,.dead,.dead,.dead,.dead,.dead,.dead,.dead,.dead,.dead,.dead,.dead,.dead,.dead,.dead,.dead,.dead,.dead,.dead]⟩) ?_ ?_
 ·refine W_block (W_loop (fun n:{n:Nat // n≤l.length∧cutLen l n=cutLen l l.length}=>⟨[.sl (u32s l),.any,.nils,.int .i64 n.1,.any,.any,.any,.any,.any,.any,.any,.any,.any,.any,.any,.any,.any,.any,.any,.any,.any,.any,.any,.any,.any,.any,.any,.any,.any,.any,.any,.any,.any,.any,.any],[.dead,.dead,.dead,.dead,.dead,.dead,.dead,.dead,.dead,.dead,.dead,.dead,.dead,.dead,.dead,.dead,.dead,.dead,.dead,.dead,.dead,.dead,.dead,.dead,.dead,.dead,.dead,.dead,.dead,.dead,.dead,.dead,.dead,.dead,.dead]⟩) (fun n=>n.1) ⟨l.length,Nat.le_refl _,rfl⟩ (Le_of (by simp [leE]) rfl) fun n=>?_)
  obtain ⟨n,hn,hc⟩:=n
  refine W_seq ?_
  dsimp only
  rcases Nat.eq_zero_or_pos n with rfl | hpos
  ·((refine W_seqV ?_);intro K hK;(refine sNa ?_))
   (refine hK _ ?_;clear hK K)
   (refine W_cf rfl ?_)
   refine W_exit ?_
   simp only [thenW,blockW,if_true]
   rw [← hc]
   exact Le_of (by simp [leE,cutLen]) rfl
  ·((refine W_seqV ?_);intro K hK;(refine sNaX hpos ?_))
   (repeat refine aI ?_);refine hK _ ?_;clear hK K
   refine W_cond rfl (fun h=>?_) (fun h=>?_)
   ·refine W_skip ?_
    simp only [thenW]
    refine W_block ?_
    ((refine W_regV ?_);intro K hK;(refine sNa ?_))
    (refine hK _ ?_;clear hK K)
    simp only [thenW,blockW]
    refine ⟨⟨n-1,by omega,?_⟩,Le_of (by simp [leE]) rfl,?_⟩
    ·rw [← hc]
     obtain ⟨m,rfl⟩:∃ m,n=m+1:=⟨n-1,by omega⟩
     simp at h
     simp only [cutLen,Nat.add_sub_cancel,List.getD_eq_getElem?_getD,h,if_true]
    ·simp;omega
   ·refine W_exit ?_
    simp only [thenW,blockW,if_true]
    rw [← hc]
    obtain ⟨m,rfl⟩:∃ m,n=m+1:=⟨n-1,by omega⟩
    simp at h
    refine Le_of ?_ rfl
    simp only [leE,cutLen,List.getD_eq_getElem?_getD,h,if_false]
    simp
 intro s' hle
 refine W.le ?_ hle
 clear hle s'
 unfold trim
 generalize cutLen l l.length=n at *
 ((refine W_seqR ?_);intro K hK;(refine sNa ?_))
 (repeat refine aI ?_);refine hK _ ?_;clear hK K
 ((refine W_seq (W_seqV ?_));intro K hK;(refine sNa ?_))
 (refine hK _ ?_;clear hK K)
 refine W_block (W_loop (fun t:{t:Nat × List Nat // t.1≤n∧t.2.length=n∧t.2.take t.1=l.take t.1}=>⟨[.sl (u32s l),.any,.nils,.int .i64 n,.sref 21 0 n,.int .i64 t.1.1,.any,.any,.any,.any,.any,.any,.any,.any,.any,.any,.any,.any,.any,.any,.any,.any,.any,.any,.any,.any,.any,.any,.any,.any,.any,.any,.any,.any,.any],[.dead,.dead,.dead,.dead,.dead,.dead,.dead,.dead,.dead,.dead,.dead,.dead,.dead,.dead,.dead,.dead,.dead,.dead,.dead,.dead,.dead,.arr 179 1 true (u32s t.1.2),.dead,.dead,.dead,.dead,.dead,.dead,.dead,.dead,.dead,.dead,.dead,.dead,.dead]⟩) (fun t=>n-t.1.1) ⟨(0,List.replicate n 0),by simp,by simp,by simp⟩ (Le_of (by simp [leE]) (by simp)) fun t=>?_)
 obtain ⟨⟨i,c⟩,hi,hc,ht⟩:=t
 dsimp only at hi hc ht ⊢
 by_cases hlt:i<n
 ·refine W_seq ?_
  ((refine W_seqV ?_);intro K hK;(refine sNaX hlt ?_))
  (refine hK _ ?_;clear hK K)
  (refine W_ct rfl ?_)
  refine W_skip ?_
  simp only [thenW]
  refine W_seq ?_
  refine W_block ?_
  ((refine W_regV ?_);intro K hK;(refine sNa ?_))
  (repeat refine aI ?_);refine hK _ ?_;clear hK K
  simp only [thenW,blockW]
  ((refine W_regV ?_);intro K hK;(refine sNa ?_))
  (refine hK _ ?_;clear hK K)
  simp only [thenW,blockW]
  refine ⟨⟨(i+1,c.set i (l.getD i 0)),by dsimp only;omega,by simpa using hc,?_⟩,Le_of (by simp [leE]) (by simp),by dsimp only;omega⟩
  dsimp only
  rw [take_set_succ (by omega),ht,List.take_succ_eq_append_getElem (by omega)]
  congr 1
  simp [List.getD_eq_getElem?_getD,show i<l.length by omega]
 ·obtain rfl:i=n:=by omega
  refine W_seq ?_
  ((refine W_seqV ?_);intro K hK;(refine sNa ?_))
  (refine hK _ ?_;clear hK K)
  (refine W_cf rfl ?_)
  refine W_exit ?_
  simp only [thenW,blockW,if_true]
  ((refine W_seqV ?_);intro K hK;(refine sNa ?_))
  (refine hK _ ?_;clear hK K)
  refine W_ret ?_
  (refine qG ?_;try exact True.intro)
  rw [List.take_of_length_le (by omega)] at ht
  exact ⟨u32s c,by simp,by simp [u32s_length,hc],rfl,by rw [ht]⟩
theorem fnorm_new (l:List Nat) (h:Limbs l) (hl:l.length<1099511627776):New Tryz.prog 139 [cNat l] 179 1 (·=u32s (limbs (val l))):=by
 have:=fnorm_new0 l hl
 rwa [trim_eq h] at this
theorem fnorm_ok (l:List Nat) (h:Limbs l) (hl:l.length<1099511627776):Pure Tryz.prog 139 [cNat l] (·=cN (val l)) :=
 (fnorm_new l h hl).pure.mono fun r h=>by obtain ⟨rows,rfl,rfl⟩:=h;rfl
set_option maxHeartbeats 1000000 in
theorem at_ok (l:List Nat) (hL:Limbs l) (i:Nat):Pure Tryz.prog 234 [cNat l,.int .i64 i] (· = .int .u64 (l.getD i 0)):=by
 (refine pureW Tryz.func234 rfl (rs:=[Go.ResultVar.tmp 4]) rfl (n:=14) rfl ?_;simp only [List.length_cons,List.length_nil,List.replicate,List.cons_append,List.nil_append])
 unfold cNat
 by_cases hlt:i<l.length
 ·have hge:decide (l.length≤i)=false:=decide_eq_false (by omega)
  (refine aNa ?_)
  refine W_seq ?_
  ((refine W_seqV ?_);intro K hK;(refine sNaX hge ?_))
  (refine hK _ ?_;clear hK K)
  (refine W_cf rfl ?_)
  refine W_skip ?_
  simp only [thenW]
  have hx:=hL.getD i
  ((refine W_seqV ?_);intro K hK;(refine sNaX hlt ?_))
  (refine hK _ ?_;clear hK K)
  refine W_ret ?_
  (refine qG ?_;try exact True.intro)
 ·have hge:decide (l.length≤i)=true:=decide_eq_true (by omega)
  (refine aNa ?_)
  refine W_seq ?_
  ((refine W_seqV ?_);intro K hK;(refine sNaX hge ?_))
  (refine hK _ ?_;clear hK K)
  (refine W_ct rfl ?_)
  ((refine W_seqV ?_);intro K hK;(refine sNa ?_))
  (refine hK _ ?_;clear hK K)
  refine W_ret ?_
  (refine qG ?_;try exact True.intro)
  simp [List.getD_eq_getElem?_getD,List.getElem?_eq_none (show l.length≤i by omega)]
theorem cmp_lt {l m:List Nat} (hl:Limbs l) {i:Nat} (h:val l+val (m.take (i+1))=val m+val (l.take (i+1))) (hlt:l.getD i 0<m.getD i 0):val l<val m:=by
 rw [val_take_succ,val_take_succ] at h
 have h1:=val_lt (hl.take i)
 have h2:4294967296^(l.take i).length≤4294967296^i:=Nat.pow_le_pow_right (by omega) (by rw [List.length_take];omega)
 have h3:4294967296^i*(l.getD i 0+1)≤4294967296^i*m.getD i 0:=Nat.mul_le_mul_left _ hlt
 rw [Nat.mul_add] at h3
 omega
theorem cmp_eq {l m:List Nat} {i:Nat} (h:val l+val (m.take (i+1))=val m+val (l.take (i+1))) (he:l.getD i 0=m.getD i 0):val l+val (m.take i)=val m+val (l.take i):=by
 rw [val_take_succ,val_take_succ,he] at h
 omega
set_option maxHeartbeats 4000000 in
theorem fcmp_ok (l m:List Nat) (hl:Limbs l) (hm:Limbs m) (h1:l.length<1099511627776) (h2:m.length<1099511627776):Pure Tryz.prog 190 [cNat l,cNat m] (· = .int .i64 (sgn (val l) (val m))):=by
 obtain ⟨N,hN⟩:∃ N,N=max l.length m.length:=⟨_,rfl⟩
 (refine pureW Tryz.func190 rfl (rs:=[Go.ResultVar.tmp 4]) rfl (n:=35) rfl ?_;simp only [List.length_cons,List.length_nil,List.replicate,List.cons_append,List.nil_append])
 unfold cNat
 (refine aNa ?_)
 refine W_join (fun s'=>Le [] s' ⟨[.sl (u32s l),.sl (u32s m),.any,.any,.int .i64 0,.int .i64 (N:Int),.any,.any,.any,.any,.any,.any,.any,.any,.any,.any,.any,.any,.any,.any,.any,.any,.any,.any,.any,.any,.any,.any,.any,.any,.any,.any,.any,.any,.any],[.dead,.dead,.dead,.dead,.dead,.dead,.dead,.dead,.dead,.dead,.dead,.dead,.dead,.dead,.dead,.dead,.dead,.dead,.dead,.dead,.dead,.dead,.dead,.dead,.dead,.dead,.dead,.dead,.dead,.dead,.dead,.dead,.dead,.dead,.dead]⟩) ?_ ?_
 ·by_cases hgt:l.length<m.length
  ·((refine W_seqV ?_);intro K hK;(refine sNaX hgt ?_))
   (refine hK _ ?_;clear hK K)
   (refine W_ct rfl ?_)
   ((refine W_regV ?_);intro K hK;(refine sNa ?_))
   (refine hK _ ?_;clear hK K)
   simp only [thenW]
   exact Le_of (by simp [leE];omega) rfl
  ·have hgt':decide (l.length<m.length)=false:=decide_eq_false hgt
   ((refine W_seqV ?_);intro K hK;(refine sNaX hgt' ?_))
   (refine hK _ ?_;clear hK K)
   (refine W_cf rfl ?_)
   refine W_skip ?_
   simp only [thenW]
   exact Le_of (by simp [leE];omega) rfl
 intro s' hle
 refine W.le ?_ hle
 clear hle s'
 have hwN:IntKind.wrap .i64 ((N:Int)-1)=(N:Int)-1:=wrap_i64 (by omega) (by omega)
 ((refine W_seq (W_seqV ?_));intro K hK;(refine sNaX hwN ?_))
 (refine hK _ ?_;clear hK K)
 refine W_block (W_loop (fun t:{t:Nat // t≤N∧val l+val (m.take t)=val m+val (l.take t)}=>⟨[.sl (u32s l),.sl (u32s m),.any,.any,.int .i64 0,.any,.int .i64 ((t.1:Int)-1),.any,.any,.any,.any,.any,.any,.any,.any,.any,.any,.any,.any,.any,.any,.any,.any,.any,.any,.any,.any,.any,.any,.any,.any,.any,.any,.any,.any],[.dead,.dead,.dead,.dead,.dead,.dead,.dead,.dead,.dead,.dead,.dead,.dead,.dead,.dead,.dead,.dead,.dead,.dead,.dead,.dead,.dead,.dead,.dead,.dead,.dead,.dead,.dead,.dead,.dead,.dead,.dead,.dead,.dead,.dead,.dead]⟩) (fun t=>t.1) ⟨N,Nat.le_refl _,by rw [List.take_of_length_le (by omega),List.take_of_length_le (by omega)];omega⟩ (Le_of (by simp [leE]) rfl) fun t=>?_)
 obtain ⟨i,hi,hv⟩:=t
 dsimp only
 rcases i with _ | i
 ·have hz:decide (((0:Nat):Int)-1≥0)=false:=by decide
  refine W_seq ?_
  ((refine W_seqV ?_);intro K hK;(refine sNa ?_))
  (refine hK _ ?_;clear hK K)
  (refine W_cf rfl ?_)
  refine W_exit ?_
  simp only [thenW,blockW,if_true]
  ((refine W_seqV ?_);intro K hK;(refine sNa ?_))
  (refine hK _ ?_;clear hK K)
  refine W_ret ?_
  (refine qG ?_;try exact True.intro)
  have he:val l=val m:=by simpa [val] using hv
  simp [he]
 ·have hj:((i+1:Nat):Int)-1=i:=by omega
  have ha:=at_ok l hl i
  have hb:=at_ok m hm i
  simp only [cNat] at ha hb
  rw [hj]
  refine W_seq ?_
  ((refine W_seqV ?_);intro K hK;(refine sNa ?_))
  (refine hK _ ?_;clear hK K)
  (refine W_ct rfl ?_)
  refine W_skip ?_
  simp only [thenW]
  refine W_seq (W_block ?_)
  refine W_seq ?_
  ((refine W_seqV ?_);intro K hK;(refine sNa ?_))
  (refine ⟨by kernel_rfl,_,.pure rfl (ha),?_⟩;(try (refine sNa ?_)))
  (refine ⟨by kernel_rfl,_,.pure rfl (hb),?_⟩;(try (refine sNa ?_)))
  (refine hK _ ?_;clear hK K)
  by_cases hlt:l.getD i 0<m.getD i 0
  ·have hlv:=cmp_lt hl hv hlt
   have hz:decide (l.getD i 0<m.getD i 0)=true:=decide_eq_true hlt
   rw [hz]
   (refine W_ct rfl ?_)
   ((refine W_seqV ?_);intro K hK;(refine sNa ?_))
   (refine hK _ ?_;clear hK K)
   refine W_ret ?_
   (refine qG ?_;try exact True.intro)
   simp [sgn,hlv]
  have hz:decide (l.getD i 0<m.getD i 0)=false:=decide_eq_false hlt
  rw [hz]
  (refine W_cf rfl ?_)
  refine W_skip ?_
  simp only [thenW]
  ((refine W_seqV ?_);intro K hK;(refine sNa ?_))
  (refine ⟨by kernel_rfl,_,.pure rfl (ha),?_⟩;(try (refine sNa ?_)))
  (refine ⟨by kernel_rfl,_,.pure rfl (hb),?_⟩;(try (refine sNa ?_)))
  (refine hK _ ?_;clear hK K)
  by_cases hgt:m.getD i 0<l.getD i 0
  ·have hlv:=cmp_lt hm hv.symm hgt
   have hz:decide (m.getD i 0<l.getD i 0)=true:=decide_eq_true hgt
   rw [hz]
   (refine W_ct rfl ?_)
   ((refine W_seqV ?_);intro K hK;(refine sNa ?_))
   (refine hK _ ?_;clear hK K)
   refine W_ret ?_
   (refine qG ?_;try exact True.intro)
   simp [sgn,hlv,Nat.lt_asymm hlv]
  have hz:decide (m.getD i 0<l.getD i 0)=false:=decide_eq_false hgt
  rw [hz]
  (refine W_cf rfl ?_)
  refine W_skip ?_
  simp only [thenW,blockW]
  have hwi:IntKind.wrap .i64 ((i:Int)-1)=(i:Int)-1:=wrap_i64 (by omega) (by omega)
  ((refine W_regV ?_);intro K hK;(refine sNaX hwi ?_))
  (refine hK _ ?_;clear hK K)
  simp only [thenW,blockW]
  exact ⟨⟨i,by omega,cmp_eq hv (by omega)⟩,Le_of (by simp [leE]) rfl,by dsimp only;omega⟩
end Go.Proofs.YtjmkfbhecgkbmaaGreat.Vm
namespace Go.Proofs.YtjmkfbhecgkbmaaGreat.Vm
open Go Go.RowKit
theorem add_end {l m:List Nat} {N k v:Nat} (hl:Limbs l) (hm:Limbs m) (h1:l.length≤N) (h2:m.length≤N) (hk:k≤1) (h:v+4294967296^(N+1)*k=val l+val m):k=0:=by
 rcases Nat.eq_zero_or_pos k with h0 | h0
 ·exact h0
 ·have e1:k=1:=by omega
  subst e1
  have b1:=val_lt hl
  have b2:=val_lt hm
  have b3:4294967296^l.length≤4294967296^N:=Nat.pow_le_pow_right (by omega) h1
  have b4:4294967296^m.length≤4294967296^N:=Nat.pow_le_pow_right (by omega) h2
  rw [Nat.pow_succ] at h
  generalize 4294967296^N=P at *
  omega
set_option maxHeartbeats 4000000 in
theorem fadd_ok (l m:List Nat) (hl:Limbs l) (hm:Limbs m) (h1:l.length<549755813888) (h2:m.length<549755813888):Pure Tryz.prog 189 [cNat l,cNat m] (·=cN (val l+val m)):=by
 obtain ⟨N,hN⟩:∃ N,N=max l.length m.length:=⟨_,rfl⟩
 (refine pureW Tryz.func189 rfl (rs:=[Go.ResultVar.tmp 4]) rfl (n:=44) rfl ?_;simp only [List.length_cons,List.length_nil,List.replicate,List.cons_append,List.nil_append])
 unfold cNat
 (refine aNa ?_)
 refine W_join (fun s'=>Le [] s' ⟨[.sl (u32s l),.sl (u32s m),.any,.any,.any,.int .i64 (N:Int),.any,.any,.any,.any,.any,.any,.any,.any,.any,.any,.any,.any,.any,.any,.any,.any,.any,.any,.any,.any,.any,.any,.any,.any,.any,.any,.any,.any,.any,.any,.any,.any,.any,.any,.any,.any,.any,.any],[.dead,.dead,.dead,.dead,.dead,.dead,.dead,.dead,.dead,.dead,.dead,.dead,.dead,.dead,.dead,.dead,.dead,.dead,.dead,.dead,.dead,.dead,.dead,.dead,.dead,.dead,.dead,.dead,.dead,.dead,.dead,.dead,.dead,.dead,.dead,.dead,.dead,.dead,.dead,.dead,.dead,.dead,.dead,.dead]⟩) ?_ ?_
 ·by_cases hgt:l.length<m.length
  ·((refine W_seqV ?_);intro K hK;(refine sNaX hgt ?_))
   (refine hK _ ?_;clear hK K)
   (refine W_ct rfl ?_)
   ((refine W_regV ?_);intro K hK;(refine sNa ?_))
   (refine hK _ ?_;clear hK K)
   simp only [thenW]
   exact Le_of (by simp [leE];omega) rfl
  ·have hgt':decide (l.length<m.length)=false:=decide_eq_false hgt
   ((refine W_seqV ?_);intro K hK;(refine sNaX hgt' ?_))
   (refine hK _ ?_;clear hK K)
   (refine W_cf rfl ?_)
   refine W_skip ?_
   simp only [thenW]
   exact Le_of (by simp [leE];omega) rfl
 intro s' hle
 refine W.le ?_ hle
 clear hle s'
 ((refine W_seqR ?_);intro K hK;(refine sNa ?_))
 (repeat refine aI ?_);refine hK _ ?_;clear hK K
 (refine aNa ?_)
 refine W_seq ?_
 ((refine W_seqV ?_);intro K hK;(refine sNa ?_))
 (refine hK _ ?_;clear hK K)
 refine W_block (W_loop (fun t:{t:Nat × List Nat × Nat // t.1≤N+1∧t.2.1.length=N+1∧Limbs t.2.1∧t.2.2≤1∧val (t.2.1.take t.1)+4294967296^t.1*t.2.2=val (l.take t.1)+val (m.take t.1)} =>
   ⟨[.sl (u32s l),.sl (u32s m),.any,.any,.any,.int .i64 (N:Int),.sref 20 0 (N+1),.int .u64 t.1.2.2,.int .i64 t.1.1,.any,.any,.any,.any,.any,.any,.any,.any,.any,.any,.any,.any,.any,.any,.any,.any,.any,.any,.any,.any,.any,.any,.any,.any,.any,.any,.any,.any,.any,.any,.any,.any,.any,.any,.any],[.dead,.dead,.dead,.dead,.dead,.dead,.dead,.dead,.dead,.dead,.dead,.dead,.dead,.dead,.dead,.dead,.dead,.dead,.dead,.dead,.arr 179 1 true (u32s t.1.2.1),.dead,.dead,.dead,.dead,.dead,.dead,.dead,.dead,.dead,.dead,.dead,.dead,.dead,.dead,.dead,.dead,.dead,.dead,.dead,.dead,.dead,.dead,.dead]⟩) (fun t=>N+1-t.1.1)
  ⟨(0,List.replicate (N+1) 0,0),by simp,by simp,Limbs.rep _,by simp,by simp [val]⟩ (Le_of (by simp [leE]) (by simp)) fun t=>?_)
 obtain ⟨⟨i,c,k⟩,h3,h4,h5,h6,h7⟩:=t
 dsimp only at h3 h4 h5 h6 h7 ⊢
 by_cases hlt:i≤N
 ·have hx:=hl.getD i
  have hy:=hm.getD i
  have ha:=at_ok l hl i
  have hb:=at_ok m hm i
  simp only [cNat] at ha hb
  have hi:i<c.length:=by omega
  refine W_seq ?_
  ((refine W_seqV ?_);intro K hK;(refine sNaX hlt ?_))
  (refine hK _ ?_;clear hK K)
  (refine W_ct rfl ?_)
  refine W_skip ?_
  simp only [thenW]
  refine W_seq (W_block ?_)
  ((refine W_seqV ?_);intro K hK;(refine sNa ?_))
  (refine ⟨by kernel_rfl,_,.pure rfl (ha),?_⟩;(try (refine sNa ?_)))
  (refine ⟨by kernel_rfl,_,.pure rfl (hb),?_⟩;(try (refine sNa ?_)))
  (refine hK _ ?_;clear hK K)
  ((refine W_seqV ?_);intro K hK;(refine sNa ?_))
  (repeat refine aI ?_);refine hK _ ?_;clear hK K
  ((refine W_regV ?_);intro K hK;(refine sNa ?_))
  (refine hK _ ?_;clear hK K)
  simp only [thenW,blockW]
  ((refine W_regV ?_);intro K hK;(refine sNa ?_))
  (refine hK _ ?_;clear hK K)
  simp only [thenW,blockW]
  refine ⟨⟨(i+1,c.set i ((l.getD i 0+m.getD i 0+k)%4294967296),(l.getD i 0+m.getD i 0+k) / 4294967296),by dsimp only;omega,by simpa using h4,h5.set i (by omega),by dsimp only;omega,?_⟩,Le_of (by simp [leE]) (by simp),by dsimp only;omega⟩
  dsimp only
  rw [val_take_set hi,val_take_succ,val_take_succ,Nat.pow_succ]
  exact add_round h7 (by omega)
 ·obtain rfl:i=N+1:=by omega
  have hlt':(N+1≤N)=False:=by simp
  rw [List.take_of_length_le (by omega),List.take_of_length_le (by omega),List.take_of_length_le (by omega)] at h7
  have hk:k=0:=add_end hl hm (by omega) (by omega) h6 h7
  subst hk
  rw [Nat.mul_zero,Nat.add_zero] at h7
  refine W_seq ?_
  ((refine W_seqV ?_);intro K hK;(refine sNaX hlt' ?_))
  (refine hK _ ?_;clear hK K)
  (refine W_cf rfl ?_)
  refine W_exit ?_
  simp only [thenW,blockW,if_true]
  (refine W.le ?_ (Le_freeze 20 (rows:=u32s c) rfl (by simp) (.inl rfl));simp only [St.freeze,List.map_cons,List.map_nil,List.set,if_true,if_false,Nat.reduceEqDiff,reduceCtorEq,List.drop_zero,u32s_take,u32s_drop,froz_any,froz_und,froz_int,froz_bool,froz_str,froz_nils,froz_sl,froz_ia,froz_nilp,froz_nilif,froz_nilfn,froz_nilmp,froz_gl,froz_sref,froz_ptr,froz_agg,froz_tup,froz_fn,froz_ifc,frozs_nil,frozs_cons,froz_dead,froz_arr,froz_mp,froz_it,froz_md,froz_map,froz_iter])
  rw [List.take_of_length_le (by omega)]
  ((refine W_seqV ?_);intro K hK;(refine sNa ?_))
  (refine ⟨by kernel_rfl,_,.pure rfl (fnorm_ok c h5 (by omega)),?_⟩;(try (refine sNa ?_)))
  (refine hK _ ?_;clear hK K)
  refine W_ret ?_
  (refine qG ?_;try exact True.intro)
  rw [h7]
theorem usub64 {x y k:Nat} (hx:x<4294967296) (hy:y<4294967296) (hk:k≤1):IntKind.wrap .u64 (IntKind.wrap .u64 ((x:Int)-(y:Int))-(k:Int))=(((x+18446744073709551616-y-k)%18446744073709551616:Nat):Int):=by
 unfold IntKind.wrap
 simp [IntKind.bits,IntKind.signed]
 omega
theorem usub_lo {x y k:Nat} (hx:x<4294967296) (hy:y<4294967296) (hk:k≤1):(x+18446744073709551616-y-k)%18446744073709551616%4294967296+y+k=x+4294967296*(if x<y+k then 1 else 0):=by
 split <;> omega
theorem usub_hi {x y k:Nat} (hx:x<4294967296) (hy:y<4294967296) (hk:k≤1):(x+18446744073709551616-y-k)%18446744073709551616 / 9223372036854775808=if x<y+k then 1 else 0:=by
 split <;> omega
theorem val_take_of_lt {m:List Nat} {n:Nat} (h:val m<4294967296^n):val (m.take n)=val m:=by
 by_cases hn:n≤m.length
 ·have h1:=val_drop_split m n hn
  generalize 4294967296^n=P at *
  rcases Nat.eq_zero_or_pos (val (m.drop n)) with h0 | h0
  ·rw [h0,Nat.mul_zero,Nat.add_zero] at h1
   exact h1.symm
  ·have:P*1≤P*val (m.drop n):=Nat.mul_le_mul_left _ h0
   omega
 ·rw [List.take_of_length_le (by omega)]
theorem sub_end {l m c:List Nat} {k:Nat} (hc:Limbs c) (hcl:c.length=l.length) (hk:k≤1) (hle:val m≤val l) (h:val c+val m=val l+4294967296^l.length*k):k=0∧val c=val l-val m:=by
 have h1:=val_lt hc
 rw [hcl] at h1
 generalize 4294967296^l.length=P at *
 have hk0:k=0:=by
  rcases Nat.eq_zero_or_pos k with h0 | h0
  ·exact h0
  ·have:k=1:=by omega
   subst this
   omega
 subst hk0
 omega
set_option maxHeartbeats 4000000 in
theorem fsub_ok (l m:List Nat) (hl:Limbs l) (hm:Limbs m) (h1:l.length<549755813888) (h2:m.length<549755813888) (hle:val m≤val l):Pure Tryz.prog 191 [cNat l,cNat m] (· = .tup [cN (val l-val m),.int .i64 0]):=by
 have hcmp:=fcmp_ok l m hl hm (by omega) (by omega)
 have hs:=sgn_ge (a:=val l) (b:=val m) (by omega)
 simp only [cNat] at hcmp
 (refine pureW Tryz.func191 rfl (rs:=[Go.ResultVar.tmp 4,Go.ResultVar.tmp 5]) rfl (n:=41) rfl ?_;simp only [List.length_cons,List.length_nil,List.replicate,List.cons_append,List.nil_append])
 unfold cNat
 (refine aNa ?_)
 refine W_seq ?_
 ((refine W_seqV ?_);intro K hK;(refine sNa ?_))
 (refine ⟨by kernel_rfl,_,.pure rfl (hcmp),?_⟩;(try (refine sNa ?_)))
 (refine sNaX hs ?_;try exact True.intro)
 (refine hK _ ?_;clear hK K)
 (refine W_cf rfl ?_)
 refine W_skip ?_
 simp only [thenW]
 ((refine W_seqR ?_);intro K hK;(refine sNa ?_))
 (repeat refine aI ?_);refine hK _ ?_;clear hK K
 (refine aNa ?_)
 refine W_seq ?_
 ((refine W_seqV ?_);intro K hK;(refine sNa ?_))
 (refine hK _ ?_;clear hK K)
 refine W_block (W_loop (fun t:{t:Nat × List Nat × Nat // t.1≤l.length∧t.2.1.length=l.length∧Limbs t.2.1∧t.2.2≤1∧val (t.2.1.take t.1)+val (m.take t.1)=val (l.take t.1)+4294967296^t.1*t.2.2} =>
   ⟨[.sl (u32s l),.sl (u32s m),.any,.any,.any,.int .i64 0,.sref 16 0 l.length,.int .u64 t.1.2.2,.int .i64 t.1.1,.any,.any,.any,.any,.any,.any,.any,.any,.any,.any,.any,.any,.any,.any,.any,.any,.any,.any,.any,.any,.any,.any,.any,.any,.any,.any,.any,.any,.any,.any,.any,.any],[.dead,.dead,.dead,.dead,.dead,.dead,.dead,.dead,.dead,.dead,.dead,.dead,.dead,.dead,.dead,.dead,.arr 179 1 true (u32s t.1.2.1),.dead,.dead,.dead,.dead,.dead,.dead,.dead,.dead,.dead,.dead,.dead,.dead,.dead,.dead,.dead,.dead,.dead,.dead,.dead,.dead,.dead,.dead,.dead,.dead]⟩) (fun t=>l.length-t.1.1)
  ⟨(0,List.replicate l.length 0,0),by simp,by simp,Limbs.rep _,by simp,by simp [val]⟩ (Le_of (by simp [leE]) (by simp)) fun t=>?_)
 obtain ⟨⟨i,c,k⟩,h3,h4,h5,h6,h7⟩:=t
 dsimp only at h3 h4 h5 h6 h7 ⊢
 by_cases hlt:i<l.length
 ·have hx:=hl.getD i
  have hy:=hm.getD i
  have ha:=at_ok l hl i
  have hb:=at_ok m hm i
  simp only [cNat] at ha hb
  have hi:i<c.length:=by omega
  have hw:=usub64 hx hy h6
  have hlo:=usub_lo hx hy h6
  have hhi:=usub_hi hx hy h6
  refine W_seq ?_
  ((refine W_seqV ?_);intro K hK;(refine sNaX hlt ?_))
  (refine hK _ ?_;clear hK K)
  (refine W_ct rfl ?_)
  refine W_skip ?_
  simp only [thenW]
  refine W_seq (W_block ?_)
  ((refine W_seqV ?_);intro K hK;(refine sNa ?_))
  (refine ⟨by kernel_rfl,_,.pure rfl (ha),?_⟩;(try (refine sNa ?_)))
  (refine ⟨by kernel_rfl,_,.pure rfl (hb),?_⟩;(try (refine sNa ?_)))
  (refine sNaX hw ?_;try exact True.intro)
  (refine hK _ ?_;clear hK K)
  generalize (l.getD i 0+18446744073709551616-m.getD i 0-k)%18446744073709551616=d at *
  ((refine W_seqV ?_);intro K hK;(refine sNa ?_))
  (repeat refine aI ?_);refine hK _ ?_;clear hK K
  ((refine W_regV ?_);intro K hK;(refine sNaX hhi ?_))
  (refine hK _ ?_;clear hK K)
  simp only [thenW,blockW]
  ((refine W_regV ?_);intro K hK;(refine sNa ?_))
  (refine hK _ ?_;clear hK K)
  simp only [thenW,blockW]
  refine ⟨⟨(i+1,c.set i (d%4294967296),if l.getD i 0<m.getD i 0+k then 1 else 0),by dsimp only;omega,by simpa using h4,h5.set i (by omega),by dsimp only;split <;> omega,?_⟩,Le_of (by simp [leE]) (by simp),by dsimp only;omega⟩
  dsimp only
  rw [val_take_set hi,val_take_succ,val_take_succ,Nat.pow_succ]
  exact sub_round h7 hlo
 ·obtain rfl:i=l.length:=by omega
  have hml:m.length≤l.length∨l.length<m.length:=by omega
  have h8:val c+val m=val l+4294967296^l.length*k:=by
   rw [List.take_length,List.take_of_length_le (by omega),val_take_of_lt (Nat.lt_of_le_of_lt hle (val_lt hl))] at h7
   exact h7
  obtain ⟨rfl,hv⟩:=sub_end h5 h4 h6 hle h8
  have hlt':decide (l.length<l.length)=false:=decide_eq_false (by omega)
  refine W_seq ?_
  ((refine W_seqV ?_);intro K hK;(refine sNaX hlt' ?_))
  (refine hK _ ?_;clear hK K)
  (refine W_cf rfl ?_)
  refine W_exit ?_
  simp only [thenW,blockW,if_true]
  (refine W.le ?_ (Le_freeze 16 (rows:=u32s c) rfl (by simp) (.inl rfl));simp only [St.freeze,List.map_cons,List.map_nil,List.set,if_true,if_false,Nat.reduceEqDiff,reduceCtorEq,List.drop_zero,u32s_take,u32s_drop,froz_any,froz_und,froz_int,froz_bool,froz_str,froz_nils,froz_sl,froz_ia,froz_nilp,froz_nilif,froz_nilfn,froz_nilmp,froz_gl,froz_sref,froz_ptr,froz_agg,froz_tup,froz_fn,froz_ifc,frozs_nil,frozs_cons,froz_dead,froz_arr,froz_mp,froz_it,froz_md,froz_map,froz_iter])
  rw [List.take_of_length_le (by omega)]
  ((refine W_seqV ?_);intro K hK;(refine sNa ?_))
  (refine ⟨by kernel_rfl,_,.pure rfl (fnorm_ok c h5 (by omega)),?_⟩;(try (refine sNa ?_)))
  (refine hK _ ?_;clear hK K)
  refine W_ret ?_
  (refine qG ?_;try exact True.intro)
  rw [hv]
set_option maxHeartbeats 4000000 in
theorem fmul_ok (l m:List Nat) (hl:Limbs l) (hm:Limbs m) (h1:l.length<274877906944) (h2:m.length<274877906944):Pure Tryz.prog 137 [cNat l,cNat m] (·=cN (val l*val m)):=by
 (refine pureW Tryz.func137 rfl (rs:=[Go.ResultVar.tmp 4]) rfl (n:=68) rfl ?_;simp only [List.length_cons,List.length_nil,List.replicate,List.cons_append,List.nil_append])
 unfold cNat
 (refine aNa ?_)
 ((refine W_seq (W_seqR ?_));intro K hK;(refine sNa ?_))
 (refine hK _ ?_;clear hK K)
 refine W_block (W_loop (fun t:{t:Nat × List Nat // t.1≤l.length∧t.2.length=l.length+m.length∧Limbs t.2∧val (t.2.take (t.1+m.length))=val (l.take t.1)*val m} =>
   ((fun (a_:AV) (d_:Ob)=>(⟨((.sl (u32s l))::(.sl (u32s m))::a_::a_::a_::(.sref 15 0 (l.length+m.length))::(.int .i64 t.1.1)::a_::a_::a_::a_::a_::a_::a_::a_::a_::a_::a_::a_::a_::a_::a_::a_::a_::a_::a_::a_::a_::a_::a_::a_::a_::a_::a_::a_::a_::a_::a_::a_::a_::a_::a_::a_::a_::a_::a_::a_::a_::a_::a_::a_::a_::a_::a_::a_::a_::a_::a_::a_::a_::a_::a_::a_::a_::a_::a_::a_::a_::[]),(d_::d_::d_::d_::d_::d_::d_::d_::d_::d_::d_::d_::d_::d_::d_::(.arr 179 1 true (u32s t.1.2))::d_::d_::d_::d_::d_::d_::d_::d_::d_::d_::d_::d_::d_::d_::d_::d_::d_::d_::d_::d_::d_::d_::d_::d_::d_::d_::d_::d_::d_::d_::d_::d_::d_::d_::d_::d_::d_::d_::d_::d_::d_::d_::d_::d_::d_::d_::d_::d_::d_::d_::d_::d_::[])⟩:St)) .any .dead)) (fun t=>l.length-t.1.1)
  ⟨(0,List.replicate (l.length+m.length) 0),by simp,by simp,Limbs.rep _,by simp [val,List.take_replicate,val_zeros]⟩ (Le_of (by simp [leE]) (by simp)) fun t=>?_)
 obtain ⟨⟨i,c0⟩,h3,h4,h5,h7⟩:=t
 dsimp only at h3 h4 h5 h7 ⊢
 by_cases hlt:i<l.length
 ·have hx:=hl.getD i
  refine W_seq ?_
  ((refine W_seqV ?_);intro K hK;(refine sNaX hlt ?_))
  (refine hK _ ?_;clear hK K)
  (refine W_ct rfl ?_)
  refine W_skip ?_
  simp only [thenW]
  refine W_seq (W_block ?_)
  (refine aNa ?_)
  refine W_seq ?_
  ((refine W_seqV ?_);intro K hK;(refine sNa ?_))
  (refine hK _ ?_;clear hK K)
  refine W_block (W_loop (fun t:{t:Nat × List Nat × Nat // t.1≤m.length∧t.2.1.length=l.length+m.length∧Limbs t.2.1∧t.2.2<4294967296∧val (t.2.1.take (i+m.length))+4294967296^(i+t.1)*t.2.2=val (c0.take (i+m.length))+4294967296^i*l.getD i 0*val (m.take t.1)} =>
   ((fun (a_:AV) (d_:Ob)=>(⟨((.sl (u32s l))::(.sl (u32s m))::a_::a_::a_::(.sref 15 0 (l.length+m.length))::(.int .i64 i)::(.int .u64 t.1.2.2)::(.int .i64 t.1.1)::a_::a_::a_::a_::a_::a_::a_::a_::a_::a_::a_::a_::a_::a_::a_::a_::a_::a_::a_::a_::a_::a_::a_::a_::a_::a_::a_::a_::a_::a_::a_::a_::a_::a_::a_::a_::a_::a_::a_::a_::a_::a_::a_::a_::a_::a_::a_::a_::a_::a_::a_::a_::a_::a_::a_::a_::a_::a_::a_::[]),(d_::d_::d_::d_::d_::d_::d_::d_::d_::d_::d_::d_::d_::d_::d_::(.arr 179 1 true (u32s t.1.2.1))::d_::d_::d_::d_::d_::d_::d_::d_::d_::d_::d_::d_::d_::d_::d_::d_::d_::d_::d_::d_::d_::d_::d_::d_::d_::d_::d_::d_::d_::d_::d_::d_::d_::d_::d_::d_::d_::d_::d_::d_::d_::d_::d_::d_::d_::d_::d_::d_::d_::d_::d_::d_::[])⟩:St)) .any .dead)) (fun t=>m.length-t.1.1)
   ⟨(0,c0,0),by simp,h4,h5,by simp,by simp [val]⟩ (Le_of (by simp [leE]) rfl) fun t=>?_)
  obtain ⟨⟨j,c,k⟩,h8,h9,h10,h11,h12⟩:=t
  dsimp only at h8 h9 h10 h11 h12 ⊢
  by_cases hjt:j<m.length
  ·have hy:=hm.getD j
   have hz:=h10.getD (i+j)
   have hxy:l.getD i 0*m.getD j 0≤4294967295*4294967295:=Nat.mul_le_mul (by omega) (by omega)
   refine W_seq ?_
   ((refine W_seqV ?_);intro K hK;(refine sNaX hjt ?_))
   (refine hK _ ?_;clear hK K)
   (refine W_ct rfl ?_)
   refine W_skip ?_
   simp only [thenW]
   refine W_seq (W_block ?_)
   ((refine W_seqD mixed [] (by kernel_rfl) ?_);intro K hK;(refine sNaX hlt ?_))
   (repeat refine aI ?_);refine hK _ ?_;clear hK K
   ((refine W_seqV ?_);intro K hK;(refine sNa ?_))
   (repeat refine aI ?_);refine hK _ ?_;clear hK K
   ((refine W_regV ?_);intro K hK;(refine sNa ?_))
   (refine hK _ ?_;clear hK K)
   simp only [thenW,blockW]
   ((refine W_regV ?_);intro K hK;(refine sNa ?_))
   (refine hK _ ?_;clear hK K)
   simp only [thenW,blockW]
   refine ⟨⟨(j+1,c.set (i+j) ((l.getD i 0*m.getD j 0+c.getD (i+j) 0+k)%4294967296),(l.getD i 0*m.getD j 0+c.getD (i+j) 0+k) / 4294967296),by dsimp only;omega,by simpa using h9,h10.set _ (by omega),by dsimp only;omega,?_⟩,Le_of (by simp [leE]) (by simp),by dsimp only;omega⟩
   dsimp only
   have hp:i+j<(c.take (i+m.length)).length:=by rw [List.length_take];omega
   have hset:=val_set hp ((l.getD i 0*m.getD j 0+c.getD (i+j) 0+k)%4294967296)
   rw [show (c.take (i+m.length)).getD (i+j) 0=c.getD (i+j) 0 by simp [List.getD_eq_getElem?_getD,List.getElem?_take,show j<m.length by omega]] at hset
   rw [List.take_set,val_take_succ,← Nat.add_assoc,Nat.pow_succ]
   exact mul_round h12 hset (by omega) (Nat.pow_add _ _ _)
  ·obtain rfl:j=m.length:=by omega
   have hjt':decide (m.length<m.length)=false:=decide_eq_false (by omega)
   have hp:i+m.length<c.length:=by omega
   rw [List.take_length] at h12
   refine W_seq ?_
   ((refine W_seqV ?_);intro K hK;(refine sNaX hjt' ?_))
   (refine hK _ ?_;clear hK K)
   (refine W_cf rfl ?_)
   refine W_exit ?_
   simp only [thenW,blockW,if_true]
   ((refine W_regV ?_);intro K hK;(refine sNa ?_))
   (repeat refine aI ?_);refine hK _ ?_;clear hK K
   simp only [thenW,blockW]
   ((refine W_regV ?_);intro K hK;(refine sNa ?_))
   (refine hK _ ?_;clear hK K)
   simp only [thenW,blockW]
   refine ⟨⟨(i+1,c.set (i+m.length) (k%4294967296)),by dsimp only;omega,by simpa using h9,h10.set _ (by omega),?_⟩,Le_of (by simp [leE]) (by simp),by dsimp only;omega⟩
   dsimp only
   rw [show i+1+m.length=i+m.length+1 by omega,val_take_set hp,Nat.mod_eq_of_lt h11,h12,h7,val_take_succ,Nat.add_mul]
 ·obtain rfl:i=l.length:=by omega
  have hlt':decide (l.length<l.length)=false:=decide_eq_false (by omega)
  rw [List.take_length,List.take_of_length_le (by omega)] at h7
  refine W_seq ?_
  ((refine W_seqV ?_);intro K hK;(refine sNaX hlt' ?_))
  (refine hK _ ?_;clear hK K)
  (refine W_cf rfl ?_)
  refine W_exit ?_
  simp only [thenW,blockW,if_true]
  (refine W.le ?_ (Le_freeze 15 (rows:=u32s c0) rfl (by simp) (.inl rfl));simp only [St.freeze,List.map_cons,List.map_nil,List.set,if_true,if_false,Nat.reduceEqDiff,reduceCtorEq,List.drop_zero,u32s_take,u32s_drop,froz_any,froz_und,froz_int,froz_bool,froz_str,froz_nils,froz_sl,froz_ia,froz_nilp,froz_nilif,froz_nilfn,froz_nilmp,froz_gl,froz_sref,froz_ptr,froz_agg,froz_tup,froz_fn,froz_ifc,frozs_nil,frozs_cons,froz_dead,froz_arr,froz_mp,froz_it,froz_md,froz_map,froz_iter])
  rw [List.take_of_length_le (by omega)]
  ((refine W_seqV ?_);intro K hK;(refine sNa ?_))
  (refine ⟨by kernel_rfl,_,.pure rfl (fnorm_ok c0 h5 (by omega)),?_⟩;(try (refine sNa ?_)))
  (refine hK _ ?_;clear hK K)
  refine W_ret ?_
  (refine qG ?_;try exact True.intro)
  rw [h7]
theorem val_div (l:List Nat) (h:Limbs l) (p:Nat):val l / 4294967296^p=val (l.drop p):=by
 by_cases hp:p≤l.length
 ·have h1:=val_drop_split l p hp
  have h2:=val_lt (h.take p)
  rw [List.length_take,Nat.min_eq_left hp] at h2
  rw [h1]
  generalize 4294967296^p=P at *
  rw [Nat.add_comm,Nat.mul_add_div (by omega),Nat.div_eq_of_lt h2,Nat.add_zero]
 ·rw [List.drop_eq_nil_of_le (by omega)]
  have h2:=val_lt h
  have h3:4294967296^l.length≤4294967296^p:=Nat.pow_le_pow_right (by omega) (by omega)
  generalize 4294967296^p=P at *
  rw [Nat.div_eq_of_lt (by omega)]
  rfl
theorem val_limb (l:List Nat) (h:Limbs l) (p:Nat):val l / 4294967296^p%4294967296=l.getD p 0:=by
 rw [val_div l h]
 by_cases hp:p<l.length
 ·have h1:=h.getD p
  rw [drop_getD hp,val]
  omega
 ·rw [List.drop_eq_nil_of_le (by omega),List.getD_eq_getElem?_getD,List.getElem?_eq_none (by omega)]
  rfl
theorem pow_B (p r:Nat):2^(32*p+r)=4294967296^p*2^r:=by
 rw [Nat.pow_add,Nat.pow_mul]
theorem bit_limb (l:List Nat) (h:Limbs l) (p r:Nat) (hr:r<32):val l / 2^(32*p+r)%2=l.getD p 0 / 2^r%2:=by
 rw [pow_B,← Nat.div_div_eq_div_mul,← val_limb l h p]
 generalize val l / 4294967296^p=x
 have h1:(4294967296:Nat)=2^r*2^(32-r):=by rw [← Nat.pow_add,show r+(32-r)=32 by omega]
 have h2:2^(32-r)=2*2^(31-r):=by rw [show 32-r=(31-r)+1 by omega,Nat.pow_succ,Nat.mul_comm]
 rw [h1,Nat.mod_mul_right_div_self,h2,Nat.mod_mul_right_mod]
def bitV (n i:Nat):Bool:=n / 2^i%2 == 1
theorem and1 (x:Nat):x &&& 1=x%2:=Nat.and_one_is_mod x
theorem limb_mul {q:List Nat} (h:Limbs q) {p r k:Nat} (hr:r<32) (hv:val q=2^(32*p+r+1)*k):q.getD p 0%2^(r+1)=0:=by
 rw [← val_limb q h p,hv,show 32*p+r+1=32*p+(r+1) by omega,pow_B,Nat.mul_assoc,Nat.mul_div_cancel_left _ (Nat.pow_pos (by omega))]
 have h1:(4294967296:Nat)=2^(r+1)*2^(31-r):=by rw [← Nat.pow_add,show r+1+(31-r)=32 by omega]
 rw [h1,Nat.mod_mul_right_mod,Nat.mul_mod_right]
theorem or_bit {x r:Nat} (h:x%2^(r+1)=0):(x ||| 2^r)=x+2^r:=by
 obtain ⟨k,rfl⟩:∃ k,x=k*2^(r+1):=⟨x / 2^(r+1),by have:=Nat.div_add_mod x (2^(r+1));rw [h,Nat.add_zero,Nat.mul_comm] at this;exact this.symm⟩
 exact or_add (a:=k) (k:=r+1) (b:=2^r) (by rw [Nat.pow_succ];have:0<2^r:=Nat.pow_pos (by omega);omega)
theorem or_bit_lt {x r:Nat} (hx:x<4294967296) (hr:r<32) (h:x%2^(r+1)=0):x+2^r<4294967296:=by
 have h1:(4294967296:Nat)=2^(r+1)*2^(31-r):=by rw [← Nat.pow_add,show r+1+(31-r)=32 by omega]
 have h3:x / 2^(r+1)<2^(31-r):=Nat.div_lt_of_lt_mul (by rw [← h1];exact hx)
 have h4:x=2^(r+1)*(x / 2^(r+1)):=by have:=Nat.div_add_mod x (2^(r+1));omega
 have h5:2^(r+1)*(x / 2^(r+1)+1)≤2^(r+1)*2^(31-r):=Nat.mul_le_mul_left _ h3
 rw [Nat.mul_add,← h4,← h1,Nat.pow_succ] at h5
 have:0<2^r:=Nat.pow_pos (by omega)
 omega
theorem div_step {a b i r q:Nat} (hb:0<b) (hr:r=a / 2^(i+1)%b) (hq:q=a / 2^(i+1) / b*2^(i+1)) :
  a / 2^i=b*(2*(a / 2^(i+1) / b))+(2*r+a / 2^i%2)∧2*r+a / 2^i%2<2*b ∧
  (b≤2*r+a / 2^i%2→(2*r+a / 2^i%2)-b=a / 2^i%b∧q+2^i=a / 2^i / b*2^i) ∧
  (2*r+a / 2^i%2<b→2*r+a / 2^i%2=a / 2^i%b∧q=a / 2^i / b*2^i):=by
 have e1:a / 2^(i+1)=a / 2^i / 2:=by rw [Nat.pow_succ,Nat.div_div_eq_div_mul]
 rw [e1] at hr hq ⊢
 generalize hx:a / 2^i=x at *
 have e2:=Nat.div_add_mod x 2
 have e3:=Nat.div_add_mod (x / 2) b
 have e4:=Nat.mod_lt (x / 2) hb
 generalize hm:x / 2 / b=m at *
 have e5:x=b*(2*m)+(2*r+x%2):=by
  rw [hr]
  have:b*(2*m)=2*(b*m):=by rw [← Nat.mul_assoc,Nat.mul_comm b 2,Nat.mul_assoc]
  omega
 have hrb:r<b:=by omega
 refine ⟨e5,by omega,fun h=>?_,fun h=>?_⟩
 ·have e6:x=b*(2*m+1)+(2*r+x%2-b):=by rw [Nat.mul_add,Nat.mul_one];omega
  have e7:x / b=2*m+1:=by
   rw [e6,Nat.mul_add_div hb,Nat.div_eq_of_lt (by omega),Nat.add_zero]
  have e8:x%b=2*r+x%2-b:=by
   conv=>lhs;rw [e6]
   rw [Nat.mul_add_mod,Nat.mod_eq_of_lt (by omega)]
  refine ⟨e8.symm,?_⟩
  rw [e7,hq,Nat.pow_succ,Nat.add_mul,Nat.one_mul]
  rw [show m*(2^i*2)=2*m*2^i by rw [Nat.mul_comm (2^i) 2,← Nat.mul_assoc,Nat.mul_comm m 2]]
 ·have e7:x / b=2*m:=by
   rw [e5,Nat.mul_add_div hb,Nat.div_eq_of_lt h,Nat.add_zero]
  have e8:x%b=2*r+x%2:=by
   conv=>lhs;rw [e5]
   rw [Nat.mul_add_mod,Nat.mod_eq_of_lt h]
  refine ⟨e8.symm,?_⟩
  rw [e7,hq,Nat.pow_succ]
  rw [show m*(2^i*2)=2*m*2^i by rw [Nat.mul_comm (2^i) 2,← Nat.mul_assoc,Nat.mul_comm m 2]]
theorem twice_lo {x k:Nat} (hk:k≤1):(x*2^1%4294967296 ||| k)=x*2%4294967296+k:=by
 have h1:x*2^1%4294967296=(x%2147483648)*2^1:=by omega
 rw [h1,or_add (by omega)]
theorem twice_round {C L P x k c' k':Nat} (h:C+P*k=2*L+c') (hk:k≤1) (hx:x<4294967296) (hk':k'=x / 2147483648):C+P*(x*2%4294967296+k)+P*4294967296*k'=2*(L+P*x)+c':=by
 subst hk'
 have h1:x*2%4294967296+4294967296*(x / 2147483648)=2*x:=by omega
 have h2:P*(x*2%4294967296)+P*4294967296*(x / 2147483648)=2*(P*x):=by
  rw [Nat.mul_assoc,← Nat.mul_add,h1,← Nat.mul_assoc,Nat.mul_comm P 2,Nat.mul_assoc]
 rw [Nat.mul_add,Nat.mul_add]
 omega
theorem gcd_half_left {a b:Nat} (ha:a%2=0) (hb:b%2=1):Nat.gcd (a / 2) b=Nat.gcd a b:=by
 obtain ⟨x,rfl⟩:∃ x,a=2*x:=⟨a / 2,by omega⟩
 rw [Nat.mul_div_cancel_left _ (by omega)]
 have hc:Nat.Coprime 2 b:=by
  rw [Nat.coprime_comm,Nat.Coprime]
  have h1:=Nat.gcd_dvd_left b 2
  have h2:=Nat.le_of_dvd (by omega) (Nat.gcd_dvd_right b 2)
  have h3:=Nat.gcd_pos_of_pos_right b (show 0<2 by omega)
  rcases (show Nat.gcd b 2=1∨Nat.gcd b 2=2 by omega) with h | h
  ·exact h
  ·rw [h] at h1;omega
 exact (hc.gcd_mul_left_cancel x).symm
theorem gcd_half_right {a b:Nat} (ha:a%2=1) (hb:b%2=0):Nat.gcd a (b / 2)=Nat.gcd a b:=by
 rw [Nat.gcd_comm,gcd_half_left hb ha,Nat.gcd_comm]
theorem gcd_less {a b:Nat} (h:a≤b):Nat.gcd a (b-a)=Nat.gcd a b:=by
 have:=Nat.gcd_add_self_right (m:=a) (n:=b-a)
 rw [Nat.sub_add_cancel h] at this
 exact this.symm
theorem sFc {G G':Prop} (h:G') (e:G=G':=by conv=>lhs;simp (disch:=omega) only [rowsOf,cNat,cN,St.ret,St.seth,Eff.app,Eff.wi,sepL,guardOf,St.known,objOf,List.set,sliceW,litW,copyW,lenOf,bnd,mxOk,ofCells,TI.isAgg,cellsOf,storable,AV.one,dead,laid,overlay,reduceCtorEq,Int.reduceLE,Int.reduceLT,Int.reduceSub,Int.reduceAdd,Nat.reduceMul,Int.reduceToNat,Nat.reducePow,Int.reduceNeg,Nat.reduceAdd,Nat.reduceLT,Nat.reduceLeDiff,sA,sB,tyUint,sT]):G:=e.mpr h
theorem sFcX {G G' P:Prop} (p:P) (h:G') (e:P→G=G':=by intro p;conv=>lhs;simp (disch:=omega) only [rowsOf,cNat,cN,St.ret,St.seth,Eff.app,Eff.wi,sepL,guardOf,St.known,objOf,List.set,sliceW,litW,copyW,lenOf,bnd,mxOk,ofCells,TI.isAgg,cellsOf,storable,AV.one,dead,laid,overlay,reduceCtorEq,Int.reduceLE,Int.reduceLT,Int.reduceSub,Int.reduceAdd,Nat.reduceMul,Int.reduceToNat,Nat.reducePow,Int.reduceNeg,Nat.reduceAdd,Nat.reduceLT,Nat.reduceLeDiff,sA,sB,tyUint,sT,p]):G:=(e p).mpr h
theorem aFc {G G':Prop} (h:G') (f:Wr G'→G:=by intro h;(repeat (first|(refine W_seqV fun K hK=>?_;(try (refine sFc ?_;try exact True.intro));(repeat refine aI ?_);refine hK _ ?_;clear hK K)|(refine W_seqR fun K hK=>?_;(try (refine sFc ?_;try exact True.intro));(repeat refine aI ?_);refine hK _ ?_;clear hK K)|(refine W_seqD mixed [] (by kernel_rfl) fun K hK=>?_;(try (refine sFc ?_;try exact True.intro));(repeat refine aI ?_);refine hK _ ?_;clear hK K)));exact h.out):G:=f ⟨h⟩
theorem tyUint:tyOf Tryz.prog 256=⟨.int .u64,1,8,true,[.int .u64 0]⟩:=by kernel_rfl
set_option maxHeartbeats 1000000 in
theorem f1of_ok (n:Nat) (h:n<18446744073709551616):Pure Tryz.prog 173 [.int .u64 n] (·=cN n):=by
 have hv:val [n%4294967296,n / 4294967296%4294967296]=n:=by simp only [val];omega
 have hl:Limbs [n%4294967296,n / 4294967296%4294967296]:=by
  intro x hx
  simp only [List.mem_cons,List.not_mem_nil,or_false] at hx
  omega
 have ho:=fnorm_ok _ hl (by simp)
 rw [hv] at ho
 (refine pureW Tryz.func173 rfl (rs:=[Go.ResultVar.tmp 2]) rfl (n:=10) rfl ?_;simp only [List.length_cons,List.length_nil,List.replicate,List.cons_append,List.nil_append])
 (refine aFc ?_)
 ((refine W_seqV ?_);intro K hK;(refine sFc ?_))
 refine ⟨⟨rfl,rfl⟩,?_⟩
 (refine ⟨by kernel_rfl,_,.pure rfl (ho),?_⟩;(try (refine sFc ?_)))
 (refine hK _ ?_;clear hK K)
 refine W_ret ?_
 (refine qG ?_;try exact True.intro)
set_option maxHeartbeats 4000000 in
theorem ftwice_ok (l:List Nat) (d:Bool) (hl:Limbs l) (h1:l.length<549755813888):Pure Tryz.prog 194 [cNat l,.bool d] (·=cN (2*val l+d.toNat)):=by
 have hd:d.toNat≤1:=by cases d <;> decide
 (refine pureW Tryz.func194 rfl (rs:=[Go.ResultVar.tmp 4]) rfl (n:=41) rfl ?_;simp only [List.length_cons,List.length_nil,List.replicate,List.cons_append,List.nil_append])
 unfold cNat
 (refine aFc ?_)
 refine W_join (fun s'=>Le [] s' ⟨[.sl (u32s l),.any,.any,.any,.any,.sref 11 0 (l.length+1),.int .u32 (d.toNat:Int),.any,.any,.any,.any,.any,.any,.any,.any,.any,.any,.any,.any,.any,.any,.any,.any,.any,.any,.any,.any,.any,.any,.any,.any,.any,.any,.any,.any,.any,.any,.any,.any,.any,.any],[.dead,.dead,.dead,.dead,.dead,.dead,.dead,.dead,.dead,.dead,.dead,.arr 179 1 true (u32s (List.replicate (l.length+1) 0)),.dead,.dead,.dead,.dead,.dead,.dead,.dead,.dead,.dead,.dead,.dead,.dead,.dead,.dead,.dead,.dead,.dead,.dead,.dead,.dead,.dead,.dead,.dead,.dead,.dead,.dead,.dead,.dead,.dead]⟩) ?_ ?_
 ·cases d
  ·((refine W_seqV ?_);intro K hK;(refine sFc ?_))
   (refine hK _ ?_;clear hK K)
   (refine W_cf rfl ?_)
   refine W_skip ?_
   simp only [thenW]
   exact Le_of (by simp [leE]) (by simp)
  ·((refine W_seqV ?_);intro K hK;(refine sFc ?_))
   (refine hK _ ?_;clear hK K)
   (refine W_ct rfl ?_)
   ((refine W_regV ?_);intro K hK;(refine sFc ?_))
   (refine hK _ ?_;clear hK K)
   simp only [thenW]
   exact Le_of (by simp [leE]) (by simp)
 intro s' hle
 refine W.le ?_ hle
 clear hle s'
 generalize d.toNat=k0 at *
 ((refine W_seq (W_seqV ?_));intro K hK;(refine sFc ?_))
 (refine hK _ ?_;clear hK K)
 refine W_block (W_loop (fun t:{t:Nat × List Nat × Nat // t.1≤l.length∧t.2.1.length=l.length+1∧Limbs t.2.1∧t.2.2≤1∧val (t.2.1.take t.1)+4294967296^t.1*t.2.2=2*val (l.take t.1)+k0} =>
   ⟨[.sl (u32s l),.any,.any,.any,.any,.sref 11 0 (l.length+1),.int .u32 t.1.2.2,.int .i64 t.1.1,.any,.any,.any,.any,.any,.any,.any,.any,.any,.any,.any,.any,.any,.any,.any,.any,.any,.any,.any,.any,.any,.any,.any,.any,.any,.any,.any,.any,.any,.any,.any,.any,.any],[.dead,.dead,.dead,.dead,.dead,.dead,.dead,.dead,.dead,.dead,.dead,.arr 179 1 true (u32s t.1.2.1),.dead,.dead,.dead,.dead,.dead,.dead,.dead,.dead,.dead,.dead,.dead,.dead,.dead,.dead,.dead,.dead,.dead,.dead,.dead,.dead,.dead,.dead,.dead,.dead,.dead,.dead,.dead,.dead,.dead]⟩) (fun t=>l.length-t.1.1)
  ⟨(0,List.replicate (l.length+1) 0,k0),by simp,by simp,Limbs.rep _,hd,by simp [val]⟩ (Le_of (by simp [leE]) (by simp)) fun t=>?_)
 obtain ⟨⟨i,c,k⟩,h3,h4,h5,h6,h7⟩:=t
 dsimp only at h3 h4 h5 h6 h7 ⊢
 by_cases hlt:i<l.length
 ·have hx:=hl.getD i
  have hi:i<c.length:=by omega
  have hor:=twice_lo (x:=l.getD i 0) h6
  have hk32:k<4294967296:=by omega
  have hlo:l.getD i 0*2^1%4294967296<4294967296:=Nat.mod_lt _ (by omega)
  refine W_seq ?_
  ((refine W_seqV ?_);intro K hK;(refine sFcX hlt ?_))
  (refine hK _ ?_;clear hK K)
  (refine W_ct rfl ?_)
  refine W_skip ?_
  simp only [thenW]
  refine W_seq (W_block ?_)
  ((refine W_seqV ?_);intro K hK;(refine sFcX hlt ?_))
  (repeat refine aI ?_);refine hK _ ?_;clear hK K
  ((refine W_regV ?_);intro K hK;(refine sFcX hlt ?_))
  (refine hK _ ?_;clear hK K)
  simp only [thenW,blockW]
  ((refine W_regV ?_);intro K hK;(refine sFc ?_))
  (refine hK _ ?_;clear hK K)
  simp only [thenW,blockW]
  have hor2:l.getD i 0*2%4294967296 ||| k=l.getD i 0*2%4294967296+k:=hor
  have hkk:l.getD i 0 / 2^31=l.getD i 0 / 2147483648:=rfl
  simp only [Nat.pow_one,hor2,hkk]
  refine ⟨⟨(i+1,c.set i (l.getD i 0*2%4294967296+k),l.getD i 0 / 2147483648),by dsimp only;omega,by simpa using h4,h5.set i (by omega),by dsimp only;omega,?_⟩,Le_of (by simp [leE]) (by simp),by dsimp only;omega⟩
  dsimp only
  rw [val_take_set hi,val_take_succ,Nat.pow_succ]
  exact twice_round h7 h6 hx rfl
 ·obtain rfl:i=l.length:=by omega
  have hlt':decide (l.length<l.length)=false:=decide_eq_false (by omega)
  have hi:l.length<c.length:=by omega
  have hv:=val_take_set hi k
  rw [List.take_length] at h7
  rw [List.take_of_length_le (by simp;omega),h7] at hv
  have hn:=fnorm_ok (c.set l.length k) (h5.set _ (by omega)) (by simp;omega)
  rw [hv] at hn
  refine W_seq ?_
  ((refine W_seqV ?_);intro K hK;(refine sFcX hlt' ?_))
  (refine hK _ ?_;clear hK K)
  (refine W_cf rfl ?_)
  refine W_exit ?_
  simp only [thenW,blockW,if_true]
  ((refine W_seqV ?_);intro K hK;(refine sFc ?_))
  (repeat refine aI ?_);refine hK _ ?_;clear hK K
  (refine W.le ?_ (Le_freeze 11 (rows:=u32s (c.set l.length k)) rfl (by simp) (.inl rfl));simp only [St.freeze,List.map_cons,List.map_nil,List.set,if_true,if_false,Nat.reduceEqDiff,reduceCtorEq,List.drop_zero,u32s_take,u32s_drop,froz_any,froz_und,froz_int,froz_bool,froz_str,froz_nils,froz_sl,froz_ia,froz_nilp,froz_nilif,froz_nilfn,froz_nilmp,froz_gl,froz_sref,froz_ptr,froz_agg,froz_tup,froz_fn,froz_ifc,frozs_nil,frozs_cons,froz_dead,froz_arr,froz_mp,froz_it,froz_md,froz_map,froz_iter])
  rw [List.take_of_length_le (by simp;omega)]
  ((refine W_seqV ?_);intro K hK;(refine sFc ?_))
  (refine ⟨by kernel_rfl,_,.pure rfl (hn),?_⟩;(try (refine sFc ?_)))
  (refine hK _ ?_;clear hK K)
  refine W_ret ?_
  (refine qG ?_;try exact True.intro)
set_option maxHeartbeats 4000000 in
theorem fbit_ok (l:List Nat) (i:Nat) (hl:Limbs l) (h1:l.length<549755813888) (hi:i<1125899906842624):Pure Tryz.prog 192 [cNat l,.int .i64 i] (· = .bool (bitV (val l) i)):=by
 have hx:=hl.getD (i / 32)
 have hb:bitV (val l) i=(l.getD (i / 32) 0 / 2^(i%32)%2 == 1):=by
  unfold bitV
  rw [← bit_limb l hl (i / 32) (i%32) (Nat.mod_lt _ (by omega)),Nat.div_add_mod]
 have hq:IntKind.wrap .i64 ((i:Int).tdiv 32)=((i / 32:Nat):Int):=by
  rw [show (i:Int).tdiv 32=((i / 32:Nat):Int) from rfl];exact wrap_i64_nat (by omega)
 have hr:(i:Int).tmod 32=((i%32:Nat):Int):=rfl
 have hm:min (i%32) 32=i%32:=Nat.min_eq_left (by omega)
 have hge:decide ((0:Int)≤(i:Int))=true:=decide_eq_true (by omega)
 by_cases hlt:i / 32<l.length
 ·(refine pureW Tryz.func192 rfl (rs:=[Go.ResultVar.tmp 4]) rfl (n:=27) rfl ?_;simp only [List.length_cons,List.length_nil,List.replicate,List.cons_append,List.nil_append])
  unfold cNat
  (refine aFc ?_)
  ((refine W_seqV ?_);intro K hK;(refine sFcX (And.intro hq (And.intro hr (And.intro hlt hge))) ?_))
  repeat refine And.intro (by first | decide | omega) ?_
  refine hK _ ?_
  refine W_ret ?_
  (refine qG ?_;try exact True.intro)
  rw [hb]
  have hand:=band_u32 (x:=l.getD (i / 32) 0 / 2^(i%32)) (y:=1) (Nat.lt_of_le_of_lt (Nat.div_le_self _ _) hx) (by decide)
  rw [show ((1:Nat):Int)=1 from rfl] at hand
  rw [hand,and1]
  congr 1
  rw [Bool.eq_iff_iff,beq_iff_eq,beq_iff_eq]
  omega
 ·have hlt':decide (i / 32<l.length)=false:=decide_eq_false hlt
  have h0:l.getD (i / 32) 0=0:=by simp [List.getD_eq_getElem?_getD,List.getElem?_eq_none (show l.length≤i / 32 by omega)]
  rw [hb,h0]
  (refine pureW Tryz.func192 rfl (rs:=[Go.ResultVar.tmp 4]) rfl (n:=27) rfl ?_;simp only [List.length_cons,List.length_nil,List.replicate,List.cons_append,List.nil_append])
  unfold cNat
  (refine aFc ?_)
  ((refine W_seqV ?_);intro K hK;(refine sFcX (And.intro hq (And.intro hr (And.intro hlt' hge))) ?_))
  repeat refine And.intro (by first | decide | omega) ?_
  refine hK _ ?_
  refine W_ret ?_
  (refine qG ?_;try exact True.intro)
  simp
theorem shr_pos {l:List Nat} (h:Limbs l):l.getD 0 0%2=val l%2:=by
 cases l with
 | nil=>rfl
 | cons x l=>simp only [List.getD_cons_zero,val];omega
structure Hf (l c:List Nat) (i:Nat):Prop where
 len:c.length=l.length
 limbs:Limbs c
 eq:2*val c+(if i=0 then 0 else l.getD 0 0%2)=val (l.take i)
 zero:∀ j,i≤j→c.getD j 0=0
 low:0<i→c.getD (i-1) 0<2147483648
theorem Hf.start (l:List Nat):Hf l (List.replicate l.length 0) 0 :=
 ⟨by simp,Limbs.rep _,by simp [val,val_zeros],fun j _=>by simp [List.getD_eq_getElem?_getD,List.getElem?_replicate];split <;> simp,fun h=>by omega⟩
theorem Hf.zero_step {l c:List Nat} (h:Hf l c 0) (hl:0<l.length) (hL:Limbs l):Hf l (c.set 0 (l.getD 0 0 / 2)) 1:=by
 have hx:=hL.getD 0
 have h1:=h.len
 have h2:=val_set (l:=c) (p:=0) (by omega) (l.getD 0 0 / 2)
 have h3:=h.eq
 have h4:=h.zero 0 (Nat.le_refl _)
 rw [h4] at h2
 simp only [Nat.pow_zero,Nat.one_mul,Nat.add_zero,List.take_zero,val,if_true] at h2 h3
 refine ⟨by simpa using h1,h.limbs.set _ (by omega),?_,fun j hj=>?_,fun _=>?_⟩
 ·rw [val_take_succ]
  simp only [List.take_zero,val,Nat.pow_zero,Nat.one_mul,Nat.zero_add,show (1:Nat)≠0 by omega,if_false]
  omega
 ·rw [List.getD_eq_getElem?_getD,List.getElem?_set_ne (by omega),← List.getD_eq_getElem?_getD]
  exact h.zero j (by omega)
 ·rw [List.getD_eq_getElem?_getD,Nat.sub_self,List.getElem?_set_self (by omega)]
  simp only [Option.getD_some]
  omega
theorem half_alg {V2 V1 V0 P B M y x t:Nat} (hB:B=2*M) (h2:V1+P*y=V0+P*(y+x%2*M)) (h3:V2=V1+P*B*(x / 2)):2*V2+t=2*V0+t+P*B*x:=by
 subst hB
 rw [Nat.mul_add] at h2
 have h4:V1=V0+P*(x%2*M):=by omega
 subst h4 h3
 have e1:P*(2*M)*x=P*(2*M)*(2*(x / 2)+x%2):=by rw [Nat.div_add_mod]
 rw [e1]
 generalize x / 2=u
 generalize x%2=w
 have e2:P*(2*M)*(2*u+w)=2*(P*(2*M)*u)+2*(P*(w*M)):=by
  rw [Nat.mul_add,← Nat.mul_assoc _ 2,Nat.mul_comm _ 2,Nat.mul_assoc 2]
  congr 1
  rw [Nat.mul_assoc,Nat.mul_assoc,Nat.mul_comm M w,← Nat.mul_assoc P 2,Nat.mul_comm P 2,Nat.mul_assoc 2]
 rw [e2]
 omega
theorem Hf.step {l c:List Nat} {i:Nat} (h:Hf l c (i+1)) (hi:i+1<l.length) (hL:Limbs l) :
  Hf l ((c.set i (c.getD i 0+l.getD (i+1) 0%2*2147483648)).set (i+1) (l.getD (i+1) 0 / 2)) (i+2):=by
 have hx:=hL.getD (i+1)
 have h1:=h.len
 have hlow:=h.low (by omega)
 rw [Nat.add_sub_cancel] at hlow
 have h2:=val_set (l:=c) (p:=i) (by omega) (c.getD i 0+l.getD (i+1) 0%2*2147483648)
 have h3:=val_set (l:=c.set i (c.getD i 0+l.getD (i+1) 0%2*2147483648)) (p:=i+1) (by simp;omega) (l.getD (i+1) 0 / 2)
 have h4:(c.set i (c.getD i 0+l.getD (i+1) 0%2*2147483648)).getD (i+1) 0=0:=by
  rw [List.getD_eq_getElem?_getD,List.getElem?_set_ne (by omega),← List.getD_eq_getElem?_getD]
  exact h.zero _ (Nat.le_refl _)
 rw [h4] at h3
 have h5:=h.eq
 simp only [show i+1≠0 by omega,if_false] at h5
 refine ⟨by simpa using h1,(h.limbs.set _ (by omega)).set _ (by omega),?_,fun j hj=>?_,fun _=>?_⟩
 ·rw [val_take_succ,← h5]
  simp only [show i+1+1≠0 by omega,if_false]
  rw [Nat.pow_succ] at h3 ⊢
  rw [Nat.mul_zero,Nat.add_zero] at h3
  exact half_alg (by decide) h2 h3
 ·rw [List.getD_eq_getElem?_getD,List.getElem?_set_ne (by omega),List.getElem?_set_ne (by omega),← List.getD_eq_getElem?_getD]
  exact h.zero j (by omega)
 ·rw [List.getD_eq_getElem?_getD,show i+2-1=i+1 by omega,List.getElem?_set_self (by simp;omega)]
  simp only [Option.getD_some]
  omega
theorem Hf.done {l c:List Nat} (h:Hf l c l.length) (hL:Limbs l):val c=val l / 2:=by
 have h1:=h.eq
 rw [List.take_length] at h1
 have h2:=shr_pos hL
 split at h1
 ·rename_i h0
  rw [List.eq_nil_of_length_eq_zero h0] at h1 ⊢
  simp only [val] at *
  omega
 ·omega
theorem sFd {G G':Prop} (h:G') (e:G=G':=by conv=>lhs;simp (disch:=omega) only [rowsOf,cNat,cN,St.ret,St.seth,Eff.app,Eff.wi,sepL,guardOf,St.known,objOf,List.set,sliceW,litW,copyW,lenOf,bnd,mxOk,ofCells,TI.isAgg,cellsOf,storable,AV.one,dead,laid,overlay,reduceCtorEq,Int.reduceLE,Int.reduceLT,Int.reduceSub,Int.reduceAdd,Nat.reduceMul,Int.reduceToNat,Nat.reducePow,Int.reduceNeg,Nat.reduceAdd,Nat.reduceLT,Nat.reduceLeDiff,sA,sB,tyUint,sT]):G:=e.mpr h
theorem sFdX {G G' P:Prop} (p:P) (h:G') (e:P→G=G':=by intro p;conv=>lhs;simp (disch:=omega) only [rowsOf,cNat,cN,St.ret,St.seth,Eff.app,Eff.wi,sepL,guardOf,St.known,objOf,List.set,sliceW,litW,copyW,lenOf,bnd,mxOk,ofCells,TI.isAgg,cellsOf,storable,AV.one,dead,laid,overlay,reduceCtorEq,Int.reduceLE,Int.reduceLT,Int.reduceSub,Int.reduceAdd,Nat.reduceMul,Int.reduceToNat,Nat.reducePow,Int.reduceNeg,Nat.reduceAdd,Nat.reduceLT,Nat.reduceLeDiff,sA,sB,tyUint,sT,p]):G:=(e p).mpr h
theorem aFd {G G':Prop} (h:G') (f:Wr G'→G:=by intro h;(repeat (first|(refine W_seqV fun K hK=>?_;(try (refine sFd ?_;try exact True.intro));(repeat refine aI ?_);refine hK _ ?_;clear hK K)|(refine W_seqR fun K hK=>?_;(try (refine sFd ?_;try exact True.intro));(repeat refine aI ?_);refine hK _ ?_;clear hK K)|(refine W_seqD mixed [] (by kernel_rfl) fun K hK=>?_;(try (refine sFd ?_;try exact True.intro));(repeat refine aI ?_);refine hK _ ?_;clear hK K)));exact h.out):G:=f ⟨h⟩
theorem shr_lo {x y:Nat} (hy:y<2147483648):(y ||| x*2147483648%4294967296)=y+x%2*2147483648:=by
 have h1:x*2147483648%4294967296=(x%2)*2^31:=by omega
 rw [h1,Nat.or_comm,or_add (by omega)]
 omega
theorem shr_hi {x:Nat} (hx:x<4294967296):(0 ||| x*2147483648 / 4294967296%4294967296)=x / 2:=by
 rw [Nat.zero_or]
 omega
set_option maxHeartbeats 8000000 in
theorem fshr_ok (l:List Nat) (hl:Limbs l) (h1:l.length<549755813888):Pure Tryz.prog 193 [cNat l,.int .i64 (-1)] (· = .tup [cN (val l / 2),.int .i64 0]):=by
 have hn:=fnorm_ok l hl (by omega)
 have hnl:=limbs_val_length hl
 have c1:IntKind.wrap .i64 (Int.tdiv (-1) 32)=0:=rfl
 have c2:Int.tmod (-1) 32 = -1:=rfl
 have c3:IntKind.wrap .i64 (-1) = -1:=rfl
 have c4:IntKind.wrap .i64 31=31:=rfl
 have c5:IntKind.wrap .u64 31=31:=rfl
 simp only [cN,cNat] at hn
 by_cases h0:val l=0
 ·rw [h0,limbs_zero] at hn
  (refine pureW Tryz.func193 rfl (rs:=[Go.ResultVar.tmp 4,Go.ResultVar.tmp 5]) rfl (n:=106) rfl ?_;simp only [List.length_cons,List.length_nil,List.replicate,List.cons_append,List.nil_append])
  unfold cNat
  (refine aFd ?_)
  refine W_seq ?_
  ((refine W_seqV ?_);intro K hK;(refine sFd ?_))
  (refine hK _ ?_;clear hK K)
  (refine W_cf rfl ?_)
  refine W_skip ?_
  simp only [thenW]
  refine W_seq ?_
  ((refine W_seqV ?_);intro K hK;(refine sFd ?_))
  (refine ⟨by kernel_rfl,_,.pure rfl (hn),?_⟩;(try (refine sFd ?_)))
  (refine hK _ ?_;clear hK K)
  (refine W_ct rfl ?_)
  ((refine W_seqV ?_);intro K hK;(refine sFd ?_))
  (refine hK _ ?_;clear hK K)
  refine W_ret ?_
  (refine qG ?_;try exact True.intro)
  simp [h0,cN,cNat,limbs_zero,u32s]
 ·have hp:=limbs_len_pos h0
  have hz:(((limbs (val l)).length:Int) == 0)=false:=by rw [beq_eq_false_iff_ne];omega
  have hlp:0<l.length:=by omega
  (refine pureW Tryz.func193 rfl (rs:=[Go.ResultVar.tmp 4,Go.ResultVar.tmp 5]) rfl (n:=106) rfl ?_;simp only [List.length_cons,List.length_nil,List.replicate,List.cons_append,List.nil_append])
  unfold cNat
  (refine aFd ?_)
  refine W_seq ?_
  ((refine W_seqV ?_);intro K hK;(refine sFd ?_))
  (refine hK _ ?_;clear hK K)
  (refine W_cf rfl ?_)
  refine W_skip ?_
  simp only [thenW]
  refine W_seq ?_
  ((refine W_seqV ?_);intro K hK;(refine sFd ?_))
  (refine ⟨by kernel_rfl,_,.pure rfl (hn),?_⟩;(try (refine sFd ?_)))
  (refine sFdX hz ?_;try exact True.intro)
  (refine hK _ ?_;clear hK K)
  (refine W_cf rfl ?_)
  refine W_skip ?_
  simp only [thenW]
  clear hn hz
  (refine aFd ?_)
  refine W_seq ?_
  ((refine W_seqV ?_);intro K hK;(refine sFd ?_))
  (refine hK _ ?_;clear hK K)
  (refine W_cf rfl ?_)
  refine W_skip ?_
  simp only [thenW]
  ((refine W_seqR ?_);intro K hK;(refine sFd ?_))
  (repeat refine aI ?_);refine hK _ ?_;clear hK K
  ((refine W_seqV ?_);intro K hK;(refine sFdX c1 ?_))
  (repeat refine aI ?_);refine hK _ ?_;clear hK K
  ((refine W_seqV ?_);intro K hK;(refine sFdX c2 ?_))
  (repeat refine aI ?_);refine hK _ ?_;clear hK K
  refine W_seq ?_
  ((refine W_seqV ?_);intro K hK;(refine sFd ?_))
  (refine hK _ ?_;clear hK K)
  (refine W_ct rfl ?_)
  ((refine W_seqV ?_);intro K hK;(refine sFdX c3 ?_))
  (refine hK _ ?_;clear hK K)
  ((refine W_regV ?_);intro K hK;(refine sFdX c4 ?_))
  (refine hK _ ?_;clear hK K)
  simp only [thenW]
  ((refine W_seq (W_seqV ?_));intro K hK;(refine sFd ?_))
  (refine hK _ ?_;clear hK K)
  refine W_block (W_loop (fun t:{t:Nat × List Nat // t.1≤l.length∧Hf l t.2 t.1} =>
   ((fun (a_:AV) (d_:Ob)=>(⟨((.sl (u32s l))::(.int .i64 (-1))::a_::a_::a_::(.int .i64 0)::(.int .i64 l.length)::(.sref 33 0 l.length)::(.int .i64 (-1))::(.int .i64 31)::(.int .i64 t.1.1)::a_::a_::a_::a_::a_::a_::a_::a_::a_::a_::a_::a_::a_::a_::a_::a_::a_::a_::a_::a_::a_::a_::a_::a_::a_::a_::a_::a_::a_::a_::a_::a_::a_::a_::a_::a_::a_::a_::a_::a_::a_::a_::a_::a_::a_::a_::a_::a_::a_::a_::a_::a_::a_::a_::a_::a_::a_::a_::a_::a_::a_::a_::a_::a_::a_::a_::a_::a_::a_::a_::a_::a_::a_::a_::a_::a_::a_::a_::a_::a_::a_::a_::a_::a_::a_::a_::a_::a_::a_::a_::a_::a_::a_::a_::a_::[]),(d_::d_::d_::d_::d_::d_::d_::d_::d_::d_::d_::d_::d_::d_::d_::d_::d_::d_::d_::d_::d_::d_::d_::d_::d_::d_::d_::d_::d_::d_::d_::d_::d_::(.arr 179 1 true (u32s t.1.2))::d_::d_::d_::d_::d_::d_::d_::d_::d_::d_::d_::d_::d_::d_::d_::d_::d_::d_::d_::d_::d_::d_::d_::d_::d_::d_::d_::d_::d_::d_::d_::d_::d_::d_::d_::d_::d_::d_::d_::d_::d_::d_::d_::d_::d_::d_::d_::d_::d_::d_::d_::d_::d_::d_::d_::d_::d_::d_::d_::d_::d_::d_::d_::d_::d_::d_::d_::d_::d_::d_::d_::d_::[])⟩:St)) .any .dead)) (fun t=>l.length-t.1.1)
   ⟨(0,List.replicate l.length 0),by simp,Hf.start l⟩ (Le_of (by simp [leE,c3,c4]) (by simp)) fun t=>?_)
  obtain ⟨⟨i,c⟩,h3,hH⟩:=t
  dsimp only at h3 hH ⊢
  have hcl:=hH.len
  by_cases hlt:i<l.length
  ·have hx:=hl.getD i
   have hhi:=shr_hi hx
   have hz:=hH.zero i (Nat.le_refl _)
   have hd:l.getD i 0 / 2<4294967296:=by omega
   have hw:IntKind.wrap .i64 (IntKind.wrap .i64 ((i:Int) + -1)+1)=(i:Int):=by rw [wrap_i64 (x:=(i:Int) + -1) (by omega) (by omega),wrap_i64 (by omega) (by omega)];omega
   have hge:decide (0≤(i:Int))=true:=decide_eq_true (by omega)
   refine W_seq ?_
   ((refine W_seqV ?_);intro K hK;(refine sFdX hlt ?_))
   (refine hK _ ?_;clear hK K)
   (refine W_ct rfl ?_)
   refine W_skip ?_
   simp only [thenW]
   refine W_seq (W_block ?_)
   ((refine W_seqV ?_);intro K hK;(refine sFdX (And.intro hlt c5) ?_))
   (refine hK _ ?_;clear hK K)
   rcases i with _ | i
   ·have hneg:decide (0≤IntKind.wrap .i64 (((0:Nat):Int) + -1))=false:=rfl
    have hst:=hH.zero_step hlt hl
    have hw0:IntKind.wrap .i64 (IntKind.wrap .i64 (-1)+1)=0:=rfl
    have hw1:IntKind.wrap .i64 0=0:=rfl
    refine W_seq ?_
    ((refine W_seqV ?_);intro K hK;(refine sFdX c3 ?_))
    (refine hK _ ?_;clear hK K)
    (refine W_cf rfl ?_)
    refine W_skip ?_
    simp only [thenW]
    ((refine W_seqV ?_);intro K hK;(refine sFdX (And.intro c3 (And.intro hlt hw1)) ?_))
    (refine hK _ ?_;clear hK K)
    (refine W_ct rfl ?_)
    have hc0:c.getD 0 0<4294967296:=by omega
    ((refine W_regV ?_);intro K hK;(refine sFdX (And.intro c3 (And.intro hlt hw1)) ?_))
    (repeat refine aI ?_);refine hK _ ?_;clear hK K
    simp only [thenW,blockW]
    ((refine W_regV ?_);intro K hK;(refine sFd ?_))
    (refine hK _ ?_;clear hK K)
    simp only [thenW,blockW]
    refine ⟨⟨(1,c.set 0 (l.getD 0 0 / 2)),by dsimp only;omega,hst⟩,Le_of (by simp [leE];try rfl) ?_,by dsimp only;omega⟩
    dsimp only
    simp only [List.cons.injEq,Ob.arr.injEq,true_and,and_true]
    simp only [hz,hhi,u32s_set]
   ·have hneg:IntKind.wrap .i64 (((i+1:Nat):Int) + -1)=(i:Int):=by rw [wrap_i64 (by omega) (by omega)];omega
    have hlow:=hH.low (by omega)
    rw [Nat.add_sub_cancel] at hlow
    have hlo:=shr_lo (x:=l.getD (i+1) 0) hlow
    have hst:=hH.step hlt hl
    have hgi:decide (0≤(i:Int))=true:=decide_eq_true (by omega)
    have hil:i<l.length:=by omega
    have hyl:c.getD i 0<4294967296:=by omega
    refine W_seq ?_
    ((refine W_seqV ?_);intro K hK;(refine sFdX (And.intro hneg (And.intro hgi hil)) ?_))
    (refine hK _ ?_;clear hK K)
    (refine W_ct rfl ?_)
    ((refine W_regV ?_);intro K hK;(refine sFdX (And.intro hneg hil) ?_))
    (repeat refine aI ?_);refine hK _ ?_;clear hK K
    simp only [thenW]
    simp only [hlo]
    have hz2:(c.set i (c.getD i 0+l.getD (i+1) 0%2*2147483648)).getD (i+1) 0=0:=by
     rw [List.getD_eq_getElem?_getD,List.getElem?_set_ne (by omega),← List.getD_eq_getElem?_getD];exact hz
    have hz3:(c.set i (c.getD i 0+l.getD (i+1) 0%2*2147483648)).getD (i+1) 0<4294967296:=by omega
    ((refine W_seqV ?_);intro K hK;(refine sFdX (And.intro hw (And.intro hge hlt)) ?_))
    (refine hK _ ?_;clear hK K)
    (refine W_ct rfl ?_)
    ((refine W_regV ?_);intro K hK;(refine sFdX (And.intro hw hlt) ?_))
    (repeat refine aI ?_);refine hK _ ?_;clear hK K
    simp only [thenW,blockW]
    ((refine W_regV ?_);intro K hK;(refine sFd ?_))
    (refine hK _ ?_;clear hK K)
    simp only [thenW,blockW]
    refine ⟨⟨(i+1+1,(c.set i (c.getD i 0+l.getD (i+1) 0%2*2147483648)).set (i+1) (l.getD (i+1) 0 / 2)),by dsimp only;omega,hst⟩,Le_of (by simp [leE];try rfl) ?_,by dsimp only;omega⟩
    dsimp only
    simp only [List.cons.injEq,Ob.arr.injEq,true_and,and_true]
    simp only [hz2,hhi,u32s_set]
  ·obtain rfl:i=l.length:=by omega
   have hv:=hH.done hl
   have hlt':decide (l.length<l.length)=false:=decide_eq_false (by omega)
   have hn:=fnorm_ok c hH.limbs (by omega)
   rw [hv] at hn
   refine W_seq ?_
   ((refine W_seqV ?_);intro K hK;(refine sFdX hlt' ?_))
   (refine hK _ ?_;clear hK K)
   (refine W_cf rfl ?_)
   refine W_exit ?_
   simp only [thenW,blockW,if_true]
   (refine W.le ?_ (Le_freeze 33 (rows:=u32s c) rfl (by simp) (.inl rfl));simp only [St.freeze,List.map_cons,List.map_nil,List.set,if_true,if_false,Nat.reduceEqDiff,reduceCtorEq,List.drop_zero,u32s_take,u32s_drop,froz_any,froz_und,froz_int,froz_bool,froz_str,froz_nils,froz_sl,froz_ia,froz_nilp,froz_nilif,froz_nilfn,froz_nilmp,froz_gl,froz_sref,froz_ptr,froz_agg,froz_tup,froz_fn,froz_ifc,frozs_nil,frozs_cons,froz_dead,froz_arr,froz_mp,froz_it,froz_md,froz_map,froz_iter])
   rw [List.take_of_length_le (by omega)]
   ((refine W_seqV ?_);intro K hK;(refine sFd ?_))
   (refine ⟨by kernel_rfl,_,.pure rfl (hn),?_⟩;(try (refine sFd ?_)))
   (refine hK _ ?_;clear hK K)
   refine W_ret ?_
   (refine qG ?_;try exact True.intro)
theorem sFe {G G':Prop} (h:G') (e:G=G':=by conv=>lhs;simp (disch:=omega) only [rowsOf,cNat,cN,St.ret,St.seth,Eff.app,Eff.wi,sepL,guardOf,St.known,objOf,List.set,sliceW,litW,copyW,lenOf,bnd,mxOk,ofCells,TI.isAgg,cellsOf,storable,AV.one,dead,laid,overlay,reduceCtorEq,Int.reduceLE,Int.reduceLT,Int.reduceSub,Int.reduceAdd,Nat.reduceMul,Int.reduceToNat,Nat.reducePow,Int.reduceNeg,Nat.reduceAdd,Nat.reduceLT,Nat.reduceLeDiff,sA,sB,tyUint,List.take_length,sT]):G:=e.mpr h
theorem sFeX {G G' P:Prop} (p:P) (h:G') (e:P→G=G':=by intro p;conv=>lhs;simp (disch:=omega) only [rowsOf,cNat,cN,St.ret,St.seth,Eff.app,Eff.wi,sepL,guardOf,St.known,objOf,List.set,sliceW,litW,copyW,lenOf,bnd,mxOk,ofCells,TI.isAgg,cellsOf,storable,AV.one,dead,laid,overlay,reduceCtorEq,Int.reduceLE,Int.reduceLT,Int.reduceSub,Int.reduceAdd,Nat.reduceMul,Int.reduceToNat,Nat.reducePow,Int.reduceNeg,Nat.reduceAdd,Nat.reduceLT,Nat.reduceLeDiff,sA,sB,tyUint,List.take_length,sT,p]):G:=(e p).mpr h
theorem aFe {G G':Prop} (h:G') (f:Wr G'→G:=by intro h;(repeat (first|(refine W_seqV fun K hK=>?_;(try (refine sFe ?_;try exact True.intro));(repeat refine aI ?_);refine hK _ ?_;clear hK K)|(refine W_seqR fun K hK=>?_;(try (refine sFe ?_;try exact True.intro));(repeat refine aI ?_);refine hK _ ?_;clear hK K)|(refine W_seqD mixed [] (by kernel_rfl) fun K hK=>?_;(try (refine sFe ?_;try exact True.intro));(repeat refine aI ?_);refine hK _ ?_;clear hK K)));exact h.out):G:=f ⟨h⟩
theorem fbit_v (n i:Nat) (h:(limbs n).length<549755813888) (hi:i<1125899906842624):Pure Tryz.prog 192 [cN n,.int .i64 i] (· = .bool (bitV n i)):=by
 have:=fbit_ok (limbs n) i (limbs_limbs n) h hi
 rwa [val_limbs] at this
theorem ftwice_v (n:Nat) (d:Bool) (h:(limbs n).length<549755813888):Pure Tryz.prog 194 [cN n,.bool d] (·=cN (2*n+d.toNat)):=by
 have:=ftwice_ok (limbs n) d (limbs_limbs n) h
 rwa [val_limbs] at this
theorem fcmp_v (n m:Nat) (h:(limbs n).length<549755813888) (h':(limbs m).length<549755813888):Pure Tryz.prog 190 [cN n,cN m] (· = .int .i64 (sgn n m)):=by
 have:=fcmp_ok (limbs n) (limbs m) (limbs_limbs n) (limbs_limbs m) (by omega) (by omega)
 rwa [val_limbs,val_limbs] at this
theorem fsub_v (n m:Nat) (h:(limbs n).length<549755813888) (h':(limbs m).length<549755813888) (hle:m≤n):Pure Tryz.prog 191 [cN n,cN m] (· = .tup [cN (n-m),.int .i64 0]):=by
 have:=fsub_ok (limbs n) (limbs m) (limbs_limbs n) (limbs_limbs m) h h' (by rw [val_limbs,val_limbs];exact hle)
 rwa [val_limbs,val_limbs] at this
theorem fshr_v (n:Nat) (h:(limbs n).length<549755813888):Pure Tryz.prog 193 [cN n,.int .i64 (-1)] (· = .tup [cN (n / 2),.int .i64 0]):=by
 have:=fshr_ok (limbs n) (limbs_limbs n) h
 rwa [val_limbs] at this
theorem limbs_low {n:Nat} (h:n≠0):4294967296^((limbs n).length-1)≤n:=by
 have h1:=limbs_len_pos h
 have h2:=limbs_top h
 obtain ⟨k,hk⟩:∃ k,(limbs n).length=k+1:=⟨(limbs n).length-1,by omega⟩
 rw [hk,Nat.add_sub_cancel] at h2 ⊢
 have h3:=val_top hk
 rw [val_limbs] at h3
 have h4:4294967296^k*1≤4294967296^k*(limbs n).getD k 0:=Nat.mul_le_mul_left _ (by omega)
 generalize 4294967296^k=P at *
 omega
theorem div_start {a b h:Nat} (hb:b≠0) (hh:h=min ((limbs b).length-1) (limbs a).length) :
  val ((limbs a).drop ((limbs a).length-h))=a / 2^(32*((limbs a).length-h))∧a / 2^(32*((limbs a).length-h))<b:=by
 have h1:=val_div (limbs a) (limbs_limbs a) ((limbs a).length-h)
 rw [val_limbs] at h1
 have h2:=pow_B ((limbs a).length-h) 0
 rw [Nat.add_zero,Nat.pow_zero,Nat.mul_one] at h2
 rw [h2,h1]
 refine ⟨rfl,?_⟩
 have h3:=val_lt ((limbs_limbs a).drop ((limbs a).length-h))
 have h4:=limbs_low hb
 have h5:((limbs a).drop ((limbs a).length-h)).length≤(limbs b).length-1:=by rw [List.length_drop];omega
 have h6:4294967296^((limbs a).drop ((limbs a).length-h)).length≤4294967296^((limbs b).length-1):=Nat.pow_le_pow_right (by omega) h5
 exact Nat.lt_of_lt_of_le h3 (Nat.le_trans h6 h4)
theorem bitV_toNat (n i:Nat):(bitV n i).toNat=n / 2^i%2:=by
 unfold bitV
 have:n / 2^i%2<2:=Nat.mod_lt _ (by omega)
 rcases (show n / 2^i%2=0∨n / 2^i%2=1 by omega) with h | h <;> rw [h] <;> rfl
set_option maxHeartbeats 8000000 in
theorem fdiv_ok (l m:List Nat) (hl:Limbs l) (hm:Limbs m) (h1:l.length<274877906944) (h2:m.length<274877906944) :
  Pure Tryz.prog 141 [cNat l,cNat m] (·=divR (val l) (val m)):=by
 have hna:=fnorm_ok l hl (by omega)
 have hnb:=fnorm_ok m hm (by omega)
 have hal:=limbs_val_length hl
 have hbl:=limbs_val_length hm
 simp only [cN,cNat] at hna hnb
 generalize val l=a at *
 generalize val m=b at *
 by_cases hb0:b=0
 ·subst hb0
  rw [limbs_zero] at hnb
  (refine pureW Tryz.func141 rfl (rs:=[Go.ResultVar.tmp 4,Go.ResultVar.tmp 5,Go.ResultVar.tmp 6]) rfl (n:=76) rfl ?_;simp only [List.length_cons,List.length_nil,List.replicate,List.cons_append,List.nil_append])
  unfold cNat
  (refine aFe ?_)
  ((refine W_seqV ?_);intro K hK;(refine sFe ?_))
  (refine ⟨by kernel_rfl,_,.pure rfl (hnb),?_⟩;(try (refine sFe ?_)))
  (refine hK _ ?_;clear hK K)
  refine W_seq ?_
  ((refine W_seqV ?_);intro K hK;(refine sFe ?_))
  (refine hK _ ?_;clear hK K)
  (refine W_ct rfl ?_)
  ((refine W_seqV ?_);intro K hK;(refine sFe ?_))
  (refine hK _ ?_;clear hK K)
  refine W_ret ?_
  (refine qG ?_;try exact True.intro)
  simp [divR,cN,cNat,limbs_zero,u32s]
 ·have hbp:=limbs_len_pos hb0
  have hz:(((limbs b).length:Int) == 0)=false:=by rw [beq_eq_false_iff_ne];omega
  rw [divR,if_neg hb0]
  obtain ⟨hi,hhi⟩:∃ hi,hi=min ((limbs b).length-1) (limbs a).length:=⟨_,rfl⟩
  obtain ⟨hs1,hs2⟩:=div_start hb0 hhi
  have hLd:=(limbs_limbs a).drop ((limbs a).length-hi)
  have hr0:=fnorm_ok _ hLd (by rw [List.length_drop];omega)
  rw [hs1] at hr0
  simp only [cN,cNat] at hr0
  (refine pureW Tryz.func141 rfl (rs:=[Go.ResultVar.tmp 4,Go.ResultVar.tmp 5,Go.ResultVar.tmp 6]) rfl (n:=76) rfl ?_;simp only [List.length_cons,List.length_nil,List.replicate,List.cons_append,List.nil_append])
  unfold cNat
  (refine aFe ?_)
  ((refine W_seqV ?_);intro K hK;(refine sFe ?_))
  (refine ⟨by kernel_rfl,_,.pure rfl (hnb),?_⟩;(try (refine sFe ?_)))
  (refine hK _ ?_;clear hK K)
  refine W_seq ?_
  ((refine W_seqV ?_);intro K hK;(refine sFeX hz ?_))
  (refine hK _ ?_;clear hK K)
  (refine W_cf rfl ?_)
  refine W_skip ?_
  simp only [thenW]
  ((refine W_seqV ?_);intro K hK;(refine sFe ?_))
  (refine ⟨by kernel_rfl,_,.pure rfl (hna),?_⟩;(try (refine sFe ?_)))
  (refine hK _ ?_;clear hK K)
  ((refine W_seqR ?_);intro K hK;(refine sFe ?_))
  (repeat refine aI ?_);refine hK _ ?_;clear hK K
  ((refine W_seqV ?_);intro K hK;(refine sFe ?_))
  (refine hK _ ?_;clear hK K)
  refine W_join (fun s'=>Le [] s' ((fun (a_:AV) (d_:Ob)=>(⟨((.sl (u32s (limbs a)))::(.sl (u32s (limbs b)))::a_::a_::a_::a_::(.int .i64 0)::(.sref 20 0 (limbs a).length)::(.int .i64 (hi:Int))::a_::a_::a_::a_::a_::a_::a_::a_::a_::a_::a_::a_::a_::a_::a_::a_::a_::a_::a_::a_::a_::a_::a_::a_::a_::a_::a_::a_::a_::a_::a_::a_::a_::a_::a_::a_::a_::a_::a_::a_::a_::a_::a_::a_::a_::a_::a_::a_::a_::a_::a_::a_::a_::a_::a_::a_::a_::a_::a_::a_::a_::a_::a_::a_::a_::a_::a_::[]),(d_::d_::d_::d_::d_::d_::d_::d_::d_::d_::d_::d_::d_::d_::d_::d_::d_::d_::d_::d_::(.arr 179 1 true (u32s (List.replicate (limbs a).length 0)))::d_::d_::d_::d_::d_::d_::d_::d_::d_::d_::d_::d_::d_::d_::d_::d_::d_::d_::d_::d_::d_::d_::d_::d_::d_::d_::d_::d_::d_::d_::d_::d_::d_::d_::d_::d_::d_::d_::d_::d_::d_::d_::d_::d_::d_::d_::d_::d_::d_::d_::d_::d_::d_::d_::d_::[])⟩:St)) .any .dead)) ?_ ?_
  ·by_cases hgt:(limbs a).length<(limbs b).length-1
   ·((refine W_seqV ?_);intro K hK;(refine sFeX hgt ?_))
    (refine hK _ ?_;clear hK K)
    (refine W_ct rfl ?_)
    ((refine W_regV ?_);intro K hK;(refine sFe ?_))
    (refine hK _ ?_;clear hK K)
    simp only [thenW]
    exact Le_of (by simp [leE];omega) (by simp)
   ·have hgt':decide ((limbs a).length<(limbs b).length-1)=false:=decide_eq_false hgt
    ((refine W_seqV ?_);intro K hK;(refine sFeX hgt' ?_))
    (refine hK _ ?_;clear hK K)
    (refine W_cf rfl ?_)
    refine W_skip ?_
    simp only [thenW]
    exact Le_of (by simp [leE];omega) (by simp)
  intro s' hle
  refine W.le ?_ hle
  clear hle s'
  have hw32:IntKind.wrap .i64 (IntKind.wrap .i64 (32*(((limbs a).length-hi:Nat):Int))-1)=((32*((limbs a).length-hi):Nat):Int)-1:=by
   rw [wrap_i64 (x:=32*(((limbs a).length-hi:Nat):Int)) (by omega) (by omega),wrap_i64 (by omega) (by omega)];omega
  ((refine W_seqV ?_);intro K hK;(refine sFe ?_))
  ((repeat refine aI ?_);refine ⟨by kernel_rfl,_,.pure rfl (hr0),?_⟩;(try (refine sFe ?_)))
  (refine hK _ ?_;clear hK K)
  ((refine W_seq (W_seqV ?_));intro K hK;(refine sFeX hw32 ?_))
  (refine hK _ ?_;clear hK K)
  have hb:0<b:=by omega
  refine W_block (W_loop (fun t:{t:Nat × List Nat // t.1≤32*((limbs a).length-hi)∧t.2.length=(limbs a).length∧Limbs t.2∧val t.2=a / 2^t.1 / b*2^t.1} =>
   ((fun (a_:AV) (d_:Ob)=>(⟨((.sl (u32s (limbs a)))::(.sl (u32s (limbs b)))::a_::a_::a_::a_::(.int .i64 0)::(.sref 20 0 (limbs a).length)::a_::(cN (a / 2^t.1.1%b))::(.int .i64 ((t.1.1:Int)-1))::a_::a_::a_::a_::a_::a_::a_::a_::a_::a_::a_::a_::a_::a_::a_::a_::a_::a_::a_::a_::a_::a_::a_::a_::a_::a_::a_::a_::a_::a_::a_::a_::a_::a_::a_::a_::a_::a_::a_::a_::a_::a_::a_::a_::a_::a_::a_::a_::a_::a_::a_::a_::a_::a_::a_::a_::a_::a_::a_::a_::a_::a_::a_::a_::a_::[]),(d_::d_::d_::d_::d_::d_::d_::d_::d_::d_::d_::d_::d_::d_::d_::d_::d_::d_::d_::d_::(.arr 179 1 true (u32s t.1.2))::d_::d_::d_::d_::d_::d_::d_::d_::d_::d_::d_::d_::d_::d_::d_::d_::d_::d_::d_::d_::d_::d_::d_::d_::d_::d_::d_::d_::d_::d_::d_::d_::d_::d_::d_::d_::d_::d_::d_::d_::d_::d_::d_::d_::d_::d_::d_::d_::d_::d_::d_::d_::d_::d_::d_::[])⟩:St)) .any .dead)) (fun t=>t.1.1)
   ⟨(32*((limbs a).length-hi),List.replicate (limbs a).length 0),Nat.le_refl _,by simp,Limbs.rep _,by dsimp only;rw [Nat.div_eq_of_lt hs2,Nat.zero_mul];exact val_zeros _⟩ (Le_of (by simp [leE,cN,cNat,Nat.mod_eq_of_lt hs2]) (by simp)) fun t=>?_)
  obtain ⟨⟨t,q⟩,ht,hql,hqL,hqv⟩:=t
  dsimp only at ht hql hqL hqv ⊢
  simp only [cN,cNat]
  rcases t with _ | t
  ·have hq0:val q=a / b:=by rw [hqv];simp
   have hnq:=fnorm_ok q hqL (by omega)
   rw [hq0] at hnq
   refine W_seq ?_
   ((refine W_seqV ?_);intro K hK;(refine sFe ?_))
   (refine hK _ ?_;clear hK K)
   (refine W_cf rfl ?_)
   refine W_exit ?_
   simp only [thenW,blockW,if_true]
   (refine W.le ?_ (Le_freeze 20 (rows:=u32s q) rfl (by simp) (.inl rfl));simp only [St.freeze,List.map_cons,List.map_nil,List.set,if_true,if_false,Nat.reduceEqDiff,reduceCtorEq,List.drop_zero,u32s_take,u32s_drop,froz_any,froz_und,froz_int,froz_bool,froz_str,froz_nils,froz_sl,froz_ia,froz_nilp,froz_nilif,froz_nilfn,froz_nilmp,froz_gl,froz_sref,froz_ptr,froz_agg,froz_tup,froz_fn,froz_ifc,frozs_nil,frozs_cons,froz_dead,froz_arr,froz_mp,froz_it,froz_md,froz_map,froz_iter])
   rw [List.take_of_length_le (by omega)]
   ((refine W_seqV ?_);intro K hK;(refine sFe ?_))
   (refine ⟨by kernel_rfl,_,.pure rfl (hnq),?_⟩;(try (refine sFe ?_)))
   (refine hK _ ?_;clear hK K)
   refine W_ret ?_
   (refine qG ?_;try exact True.intro)
   simp
  ·have hj:((t+1:Nat):Int)-1=t:=by omega
   rw [hj]
   obtain ⟨e1,e2,e3,e4⟩:=div_step hb (rfl:a / 2^(t+1)%b=_) hqv
   have hbv:=bitV_toNat a t
   have hrb:a / 2^(t+1)%b<b:=Nat.mod_lt _ hb
   have hrl:=limbs_mono (Nat.le_of_lt hrb)
   have hbt:=fbit_v a t (by omega) (by omega)
   have htw:=ftwice_v (a / 2^(t+1)%b) (bitV a t) (by omega)
   rw [hbv] at htw
   have hr2:(limbs (2*(a / 2^(t+1)%b)+a / 2^t%2)).length≤(limbs b).length+1:=by
    refine limbs_length_le (Nat.lt_of_lt_of_le e2 ?_)
    have:=lt_len b
    rw [Nat.pow_succ]
    generalize 4294967296^(limbs b).length=P at *
    omega
   have hcm:=fcmp_v (2*(a / 2^(t+1)%b)+a / 2^t%2) b (by omega) (by omega)
   have hge:decide ((0:Int)≤(t:Int))=true:=decide_eq_true (by omega)
   have hwt:IntKind.wrap .i64 ((t:Int)-1)=(t:Int)-1:=wrap_i64 (by omega) (by omega)
   simp only [cN,cNat] at hbt htw
   refine W_seq ?_
   ((refine W_seqV ?_);intro K hK;(refine sFeX hge ?_))
   (refine hK _ ?_;clear hK K)
   (refine W_ct rfl ?_)
   refine W_skip ?_
   simp only [thenW]
   refine W_seq (W_block ?_)
   ((refine W_seqV ?_);intro K hK;(refine sFe ?_))
   (refine ⟨by kernel_rfl,_,.pure rfl (hbt),?_⟩;(try (refine sFe ?_)))
   (refine ⟨by kernel_rfl,_,.pure rfl (htw),?_⟩;(try (refine sFe ?_)))
   (refine hK _ ?_;clear hK K)
   by_cases hle:b≤2*(a / 2^(t+1)%b)+a / 2^t%2
   ·obtain ⟨e5,e6⟩:=e3 hle
    have hs:=sgn_nn hle
    have hsb:=fsub_v (2*(a / 2^(t+1)%b)+a / 2^t%2) b (by omega) (by omega) hle
    rw [e5] at hsb
    simp only [cN,cNat] at hsb hcm
    refine W_seq ?_
    ((refine W_regV ?_);intro K hK;(refine sFe ?_))
    (refine ⟨by kernel_rfl,_,.pure rfl (hcm),?_⟩;(try (refine sFe ?_)))
    (refine sFeX hs ?_;try exact True.intro)
    (refine hK _ ?_;clear hK K)
    (refine W_ct rfl ?_)
    ((refine W_seqV ?_);intro K hK;(refine sFe ?_))
    (refine ⟨by kernel_rfl,_,.pure rfl (hsb),?_⟩;(try (refine sFe ?_)))
    (refine hK _ ?_;clear hK K)
    have hr32:t%32<32:=Nat.mod_lt _ (by omega)
    have hp32:t / 32<q.length:=by omega
    have hp32':t / 32<(limbs a).length:=by omega
    have hx:=hqL.getD (t / 32)
    have h2lt:2^(t%32)<4294967296:=Nat.lt_of_lt_of_le (Nat.pow_lt_pow_right (by omega) hr32) (by decide)
    have hmul:=limb_mul (q:=q) hqL (p:=t / 32) (r:=t%32) (k:=a / 2^(t+1) / b) hr32 (by rw [hqv,Nat.div_add_mod,Nat.mul_comm])
    have hor:=or_bit hmul
    have hlt32:=or_bit_lt hx hr32 hmul
    have hset:=val_set hp32 (q.getD (t / 32) 0+2^(t%32))
    rw [Nat.mul_add,← pow_B,Nat.div_add_mod] at hset
    have hvs:val (q.set (t / 32) (q.getD (t / 32) 0+2^(t%32)))=a / 2^t / b*2^t:=by omega
    have hqq:IntKind.wrap .i64 ((t:Int).tdiv 32)=((t / 32:Nat):Int):=by
     rw [show (t:Int).tdiv 32=((t / 32:Nat):Int) from rfl];exact wrap_i64_nat (by omega)
    have hrr:(t:Int).tmod 32=((t%32:Nat):Int):=rfl
    have hsh:IntKind.wrap .u32 (1*p2 (t%32))=((2^(t%32):Nat):Int):=by
     have:=shl_u32 (n:=1) (k:=t%32)
     rw [Nat.one_mul,Nat.mod_eq_of_lt h2lt] at this
     exact this
    have hmi:min (t%32) 32=t%32:=Nat.min_eq_left (by omega)
    ((refine W_regV ?_);intro K hK;(refine sFeX (And.intro hqq (And.intro hrr (And.intro hsh (And.intro hmi hp32')))) ?_))
    (repeat refine aI ?_);refine hK _ ?_;clear hK K
    simp only [thenW,blockW]
    ((refine W_regV ?_);intro K hK;(refine sFeX hwt ?_))
    (refine hK _ ?_;clear hK K)
    simp only [thenW,blockW]
    exact ⟨⟨(t,q.set (t / 32) (q.getD (t / 32) 0+2^(t%32))),by dsimp only;omega,by simpa using hql,hqL.set _ hlt32,hvs⟩,Le_of (by simp [leE,cN,cNat]) (by simp only [hor]),by dsimp only;omega⟩
   ·obtain ⟨e5,e6⟩:=e4 (by omega)
    have hs:=sgn_ng hle
    simp only [cN,cNat] at hcm
    refine W_seq ?_
    ((refine W_regV ?_);intro K hK;(refine sFe ?_))
    (refine ⟨by kernel_rfl,_,.pure rfl (hcm),?_⟩;(try (refine sFe ?_)))
    (refine sFeX hs ?_;try exact True.intro)
    (refine hK _ ?_;clear hK K)
    (refine W_cf rfl ?_)
    refine W_skip ?_
    simp only [thenW,blockW]
    ((refine W_regV ?_);intro K hK;(refine sFeX hwt ?_))
    (refine hK _ ?_;clear hK K)
    simp only [thenW,blockW]
    exact ⟨⟨(t,q),by dsimp only;omega,hql,hqL,e6⟩,Le_of (by simp [leE,cN,cNat,e5]) rfl,by dsimp only;omega⟩
end Go.Proofs.YtjmkfbhecgkbmaaGreat.Vm
