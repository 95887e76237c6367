/-
  Part 6 of 9 of a proof.
-/
import Derived.Test.YtjmkfbhecgkbmaaGreatCst5
import Derived.Orders
import Derived.Below
import Derived.Laws.AppendOwn
import Derived.Laws.MakeOwn
import Derived.Laws.CopyRow
import Derived.Laws.Rows
import Derived.Laws.Cells
import Derived.Tactics
import Derived.Laws.BitsLemmas
import Derived.Maps.Range
import Derived.Carry
import Derived.Test.YtjmkfbhecgkbmaaGreatProg
set_option linter.unusedVariables false
set_option linter.unusedSimpArgs false
set_option maxRecDepth 100000

namespace Go.Proofs.YtjmkfbhecgkbmaaGreat.Vm
open Go Go.RowKit
theorem sFf {G G':Prop} (h:G') (e:G=G':=by conv=>lhs;simp (disch:=omega) only [rowsOf,cNat,cN,St.ret,St.seth,Eff.app,Eff.wi,sepL,guardOf,St.known,objOf,List.set,sliceW,litW,copyW,lenOf,bnd,mxOk,ofCells,TI.isAgg,cellsOf,storable,AV.one,dead,laid,overlay,reduceCtorEq,Int.reduceLE,Int.reduceLT,Int.reduceSub,Int.reduceAdd,Nat.reduceMul,Int.reduceToNat,Nat.reducePow,Int.reduceNeg,Nat.reduceAdd,Nat.reduceLT,Nat.reduceLeDiff,sA,sB,tyUint,List.take_length,sT]):G:=e.mpr h
theorem sFfX {G G' P:Prop} (p:P) (h:G') (e:P→G=G':=by intro p;conv=>lhs;simp (disch:=omega) only [rowsOf,cNat,cN,St.ret,St.seth,Eff.app,Eff.wi,sepL,guardOf,St.known,objOf,List.set,sliceW,litW,copyW,lenOf,bnd,mxOk,ofCells,TI.isAgg,cellsOf,storable,AV.one,dead,laid,overlay,reduceCtorEq,Int.reduceLE,Int.reduceLT,Int.reduceSub,Int.reduceAdd,Nat.reduceMul,Int.reduceToNat,Nat.reducePow,Int.reduceNeg,Nat.reduceAdd,Nat.reduceLT,Nat.reduceLeDiff,sA,sB,tyUint,List.take_length,sT,p]):G:=(e p).mpr h
theorem aFf {G G':Prop} (h:G') (f:Wr G'→G:=by intro h;(repeat (first|(refine W_seqV fun K hK=>?_;(try (refine sFf ?_;try exact True.intro));(repeat refine aI ?_);refine hK _ ?_;clear hK K)|(refine W_seqR fun K hK=>?_;(try (refine sFf ?_;try exact True.intro));(repeat refine aI ?_);refine hK _ ?_;clear hK K)|(refine W_seqD mixed [] (by kernel_rfl) fun K hK=>?_;(try (refine sFf ?_;try exact True.intro));(repeat refine aI ?_);refine hK _ ?_;clear hK K)));exact h.out):G:=f ⟨h⟩
theorem even_bit (n:Nat):bitV n 0=decide (n%2=1):=by
 unfold bitV
 rw [Nat.pow_zero,Nat.div_one,Bool.eq_iff_iff]
 simp
theorem gcd_lims {x t a:Nat} (h0:a≠0) (h:x*2^t=a):0<x∧(limbs x).length≤(limbs a).length∧t≤32*(limbs a).length:=by
 have h1:0<x:=by
  rcases Nat.eq_zero_or_pos x with hz | hz
  ·subst hz;rw [Nat.zero_mul] at h;omega
  ·exact hz
 have h2:0<2^t:=Nat.pow_pos (by omega)
 refine ⟨h1,limbs_mono (by rw [← h];exact Nat.le_mul_of_pos_right _ h2),?_⟩
 have h3:=lt_len a
 rw [show (4294967296:Nat)=2^32 from rfl,← Nat.pow_mul] at h3
 have h4:2^t≤a:=by rw [← h];exact Nat.le_mul_of_pos_left _ h1
 have h5:2^t<2^(32*(limbs a).length):=Nat.lt_of_le_of_lt h4 h3
 exact Nat.le_of_lt ((Nat.pow_lt_pow_iff_right (by omega)).1 h5)
theorem half_pow {x t a:Nat} (h0:x%2=0) (h:x*2^t=a):x / 2*2^(t+1)=a:=by
 rw [Nat.pow_succ,← h,← Nat.mul_assoc,Nat.mul_right_comm,Nat.div_mul_cancel (by omega)]
set_option maxHeartbeats 16000000 in
theorem fgcd_ok (l m:List Nat) (hl:Limbs l) (hm:Limbs m) (h1:l.length<274877906944) (h2:m.length<274877906944) :
  Pure Tryz.prog 140 [cNat l,cNat m] (·=cN (Nat.gcd (val l) (val m))):=by
 have hna:=fnorm_ok l hl (by omega)
 have hnb:=fnorm_ok m hm (by omega)
 have hal:=limbs_val_length hl
 have hbl:=limbs_val_length hm
 simp only [cN,cNat] at hna hnb
 generalize val l=a at *
 generalize val m=b at *
 clear hl hm
 by_cases ha0:a=0
 ·subst ha0
  rw [limbs_zero] at hna
  (refine pureW Tryz.func140 rfl (rs:=[Go.ResultVar.tmp 4]) rfl (n:=91) rfl ?_;simp only [List.length_cons,List.length_nil,List.replicate,List.cons_append,List.nil_append])
  unfold cNat
  (refine aFf ?_)
  ((refine W_seqV ?_);intro K hK;(refine sFf ?_))
  (refine ⟨by kernel_rfl,_,.pure rfl (hna),?_⟩;(try (refine sFf ?_)))
  (refine hK _ ?_;clear hK K)
  ((refine W_seqV ?_);intro K hK;(refine sFf ?_))
  (refine ⟨by kernel_rfl,_,.pure rfl (hnb),?_⟩;(try (refine sFf ?_)))
  (refine hK _ ?_;clear hK K)
  refine W_seq ?_
  ((refine W_seqV ?_);intro K hK;(refine sFf ?_))
  (refine hK _ ?_;clear hK K)
  (refine W_ct rfl ?_)
  ((refine W_seqV ?_);intro K hK;(refine sFf ?_))
  (refine hK _ ?_;clear hK K)
  refine W_ret ?_
  (refine qG ?_;try exact True.intro)
  rw [Nat.gcd_zero_left]
 have hap:=limbs_len_pos ha0
 have hza:(((limbs a).length:Int) == 0)=false:=by rw [beq_eq_false_iff_ne];omega
 by_cases hb0:b=0
 ·subst hb0
  rw [limbs_zero] at hnb
  (refine pureW Tryz.func140 rfl (rs:=[Go.ResultVar.tmp 4]) rfl (n:=91) rfl ?_;simp only [List.length_cons,List.length_nil,List.replicate,List.cons_append,List.nil_append])
  unfold cNat
  (refine aFf ?_)
  ((refine W_seqV ?_);intro K hK;(refine sFf ?_))
  (refine ⟨by kernel_rfl,_,.pure rfl (hna),?_⟩;(try (refine sFf ?_)))
  (refine hK _ ?_;clear hK K)
  ((refine W_seqV ?_);intro K hK;(refine sFf ?_))
  (refine ⟨by kernel_rfl,_,.pure rfl (hnb),?_⟩;(try (refine sFf ?_)))
  (refine hK _ ?_;clear hK K)
  refine W_seq ?_
  ((refine W_seqV ?_);intro K hK;(refine sFfX hza ?_))
  (refine hK _ ?_;clear hK K)
  (refine W_cf rfl ?_)
  refine W_skip ?_
  simp only [thenW]
  refine W_seq ?_
  ((refine W_seqV ?_);intro K hK;(refine sFf ?_))
  (refine hK _ ?_;clear hK K)
  (refine W_ct rfl ?_)
  ((refine W_seqV ?_);intro K hK;(refine sFf ?_))
  (refine hK _ ?_;clear hK K)
  refine W_ret ?_
  (refine qG ?_;try exact True.intro)
  rw [Nat.gcd_zero_right]
 have hbp:=limbs_len_pos hb0
 have hzb:(((limbs b).length:Int) == 0)=false:=by rw [beq_eq_false_iff_ne];omega
 have hl1:limbs 1=[1]:=by rw [limbs_pos (by decide)];simp [limbs_zero]
 have hca:=fcmp_v a 1 (by omega) (by rw [hl1];simp)
 have hcb:=fcmp_v b 1 (by omega) (by rw [hl1];simp)
 simp only [cN,cNat,hl1] at hca hcb
 have he1:(sgn a 1 == 0)=decide (a=1):=by
  unfold sgn
  by_cases h:a=1
  ·subst h;rfl
  ·rw [if_neg (by omega),if_pos (by omega),decide_eq_false h];rfl
 have he2:(sgn b 1 == 0)=decide (b=1):=by
  unfold sgn
  by_cases h:b=1
  ·subst h;rfl
  ·rw [if_neg (by omega),if_pos (by omega),decide_eq_false h];rfl
 have hMa:(limbs a).length<274877906944:=by omega
 have hMb:(limbs b).length<274877906944:=by omega
 clear hal hbl h1 h2
 (refine pureW Tryz.func140 rfl (rs:=[Go.ResultVar.tmp 4]) rfl (n:=91) rfl ?_;simp only [List.length_cons,List.length_nil,List.replicate,List.cons_append,List.nil_append])
 unfold cNat
 (refine aFf ?_)
 ((refine W_seqV ?_);intro K hK;(refine sFf ?_))
 (refine ⟨by kernel_rfl,_,.pure rfl (hna),?_⟩;(try (refine sFf ?_)))
 (refine hK _ ?_;clear hK K)
 ((refine W_seqV ?_);intro K hK;(refine sFf ?_))
 (refine ⟨by kernel_rfl,_,.pure rfl (hnb),?_⟩;(try (refine sFf ?_)))
 (refine hK _ ?_;clear hK K)
 refine W_seq ?_
 ((refine W_seqV ?_);intro K hK;(refine sFfX hza ?_))
 (refine hK _ ?_;clear hK K)
 (refine W_cf rfl ?_)
 refine W_skip ?_
 simp only [thenW]
 refine W_seq ?_
 ((refine W_seqV ?_);intro K hK;(refine sFfX hzb ?_))
 (refine hK _ ?_;clear hK K)
 (refine W_cf rfl ?_)
 refine W_skip ?_
 simp only [thenW]
 ((refine W_seqV ?_);intro K hK;(refine sFf ?_))
 (repeat refine aI ?_);refine hK _ ?_;clear hK K
 clear hna hnb
 by_cases ha1:a=1
 ·rw [decide_eq_true ha1] at he1
  refine W_seq ?_
  ((refine W_seqV ?_);intro K hK;(refine sFf ?_))
  (refine ⟨by kernel_rfl,_,.pure rfl (hca),?_⟩;(try (refine sFf ?_)))
  (refine sFfX he1 ?_;try exact True.intro)
  (refine hK _ ?_;clear hK K)
  (refine W_ct rfl ?_)
  ((refine W_seqV ?_);intro K hK;(refine sFf ?_))
  (refine hK _ ?_;clear hK K)
  refine W_ret ?_
  (refine qG ?_;try exact True.intro)
  rw [ha1,Nat.gcd_one_left,hl1]
  rfl
 rw [decide_eq_false ha1] at he1
 by_cases hb1:b=1
 ·rw [decide_eq_true hb1] at he2
  refine W_seq ?_
  ((refine W_seqV ?_);intro K hK;(refine sFf ?_))
  (refine ⟨by kernel_rfl,_,.pure rfl (hca),?_⟩;(try (refine sFf ?_)))
  (refine sFfX he1 ?_;try exact True.intro)
  (refine ⟨by kernel_rfl,_,.pure rfl (hcb),?_⟩;(try (refine sFf ?_)))
  (refine sFfX he2 ?_;try exact True.intro)
  (refine hK _ ?_;clear hK K)
  (refine W_ct rfl ?_)
  ((refine W_seqV ?_);intro K hK;(refine sFf ?_))
  (refine hK _ ?_;clear hK K)
  refine W_ret ?_
  (refine qG ?_;try exact True.intro)
  rw [hb1,Nat.gcd_one_right,hl1]
  rfl
 rw [decide_eq_false hb1] at he2
 refine W_seq ?_
 ((refine W_seqV ?_);intro K hK;(refine sFf ?_))
 (refine ⟨by kernel_rfl,_,.pure rfl (hca),?_⟩;(try (refine sFf ?_)))
 (refine sFfX he1 ?_;try exact True.intro)
 (refine ⟨by kernel_rfl,_,.pure rfl (hcb),?_⟩;(try (refine sFf ?_)))
 (refine sFfX he2 ?_;try exact True.intro)
 (refine hK _ ?_;clear hK K)
 (refine W_cf rfl ?_)
 refine W_skip ?_
 simp only [thenW]
 clear hca hcb he1 he2 hl1
 ((refine W_seqV ?_);intro K hK;(refine sFf ?_))
 (refine hK _ ?_;clear hK K)
 refine W_join (fun s'=>∃ x y tw,x*2^tw=a∧y*2^tw=b∧(x%2=1∨y%2=1)∧Le [] s' ((fun (a_:AV) (d_:Ob)=>(⟨((cN x)::(cN y)::a_::a_::a_::a_::(.int .i64 ((tw:Nat):Int))::a_::a_::a_::a_::a_::a_::a_::a_::a_::a_::a_::a_::a_::a_::a_::a_::a_::a_::a_::a_::a_::a_::a_::a_::a_::a_::a_::a_::a_::a_::a_::a_::a_::a_::a_::a_::a_::a_::a_::a_::a_::a_::a_::a_::a_::a_::a_::a_::a_::a_::a_::a_::a_::a_::a_::a_::a_::a_::a_::a_::a_::a_::a_::a_::a_::a_::a_::a_::a_::a_::a_::a_::a_::a_::a_::a_::a_::a_::a_::a_::a_::a_::a_::a_::[]),(d_::d_::d_::d_::d_::d_::d_::d_::d_::d_::d_::d_::d_::d_::d_::d_::d_::d_::d_::d_::d_::d_::d_::d_::d_::d_::d_::d_::d_::d_::d_::d_::d_::d_::d_::d_::d_::d_::d_::d_::d_::d_::d_::d_::d_::d_::d_::d_::d_::d_::d_::d_::d_::d_::d_::d_::d_::d_::d_::d_::d_::d_::d_::d_::d_::d_::d_::d_::d_::d_::d_::d_::d_::d_::d_::d_::d_::d_::d_::d_::d_::d_::d_::d_::d_::d_::d_::d_::d_::d_::d_::[])⟩:St)) .any .dead)) ?_ ?_
 ·refine W_block (W_loop (fun t:{t:Nat × Nat × Nat // t.1*2^t.2.2=a∧t.2.1*2^t.2.2=b}=>((fun (a_:AV) (d_:Ob)=>(⟨((cN t.1.1)::(cN t.1.2.1)::a_::a_::a_::a_::(.int .i64 ((t.1.2.2:Nat):Int))::a_::a_::a_::a_::a_::a_::a_::a_::a_::a_::a_::a_::a_::a_::a_::a_::a_::a_::a_::a_::a_::a_::a_::a_::a_::a_::a_::a_::a_::a_::a_::a_::a_::a_::a_::a_::a_::a_::a_::a_::a_::a_::a_::a_::a_::a_::a_::a_::a_::a_::a_::a_::a_::a_::a_::a_::a_::a_::a_::a_::a_::a_::a_::a_::a_::a_::a_::a_::a_::a_::a_::a_::a_::a_::a_::a_::a_::a_::a_::a_::a_::a_::a_::a_::[]),(d_::d_::d_::d_::d_::d_::d_::d_::d_::d_::d_::d_::d_::d_::d_::d_::d_::d_::d_::d_::d_::d_::d_::d_::d_::d_::d_::d_::d_::d_::d_::d_::d_::d_::d_::d_::d_::d_::d_::d_::d_::d_::d_::d_::d_::d_::d_::d_::d_::d_::d_::d_::d_::d_::d_::d_::d_::d_::d_::d_::d_::d_::d_::d_::d_::d_::d_::d_::d_::d_::d_::d_::d_::d_::d_::d_::d_::d_::d_::d_::d_::d_::d_::d_::d_::d_::d_::d_::d_::d_::d_::[])⟩:St)) .any .dead)) (fun t=>t.1.1) ⟨(a,b,0),by simp,by simp⟩ (Le_of (by simp [leE,cN,cNat]) rfl) fun t=>?_)
  obtain ⟨⟨x,y,tw⟩,hx,hy⟩:=t
  dsimp only at hx hy ⊢
  obtain ⟨p1,p2,p3⟩:=gcd_lims ha0 hx
  obtain ⟨q1,q2,q3⟩:=gcd_lims hb0 hy
  have bx:=fbit_v x 0 (by omega) (by omega)
  have by_:=fbit_v y 0 (by omega) (by omega)
  have sx:=fshr_v x (by omega)
  have sy:=fshr_v y (by omega)
  rw [even_bit] at bx by_
  simp only [cN,cNat,Int.natCast_zero] at bx by_ sx sy ⊢
  by_cases ex:x%2=1
  ·rw [decide_eq_true ex] at bx
   refine W_seq ?_
   ((refine W_seqV ?_);intro K hK;(refine sFf ?_))
   (refine ⟨by kernel_rfl,_,.pure rfl (bx),?_⟩;(try (refine sFf ?_)))
   (refine hK _ ?_;clear hK K)
   (refine W_cf rfl ?_)
   refine W_exit ?_
   simp only [thenW,blockW,if_true]
   exact ⟨x,y,tw,hx,hy,.inl ex,Le_of (by simp [leE,cN,cNat]) rfl⟩
  rw [decide_eq_false ex] at bx
  by_cases ey:y%2=1
  ·rw [decide_eq_true ey] at by_
   refine W_seq ?_
   ((refine W_seqV ?_);intro K hK;(refine sFf ?_))
   (refine ⟨by kernel_rfl,_,.pure rfl (bx),?_⟩;(try (refine sFf ?_)))
   (refine ⟨by kernel_rfl,_,.pure rfl (by_),?_⟩;(try (refine sFf ?_)))
   (refine hK _ ?_;clear hK K)
   (refine W_cf rfl ?_)
   refine W_exit ?_
   simp only [thenW,blockW,if_true]
   exact ⟨x,y,tw,hx,hy,.inr ey,Le_of (by simp [leE,cN,cNat]) rfl⟩
  rw [decide_eq_false ey] at by_
  refine W_seq ?_
  ((refine W_seqV ?_);intro K hK;(refine sFf ?_))
  (refine ⟨by kernel_rfl,_,.pure rfl (bx),?_⟩;(try (refine sFf ?_)))
  (refine ⟨by kernel_rfl,_,.pure rfl (by_),?_⟩;(try (refine sFf ?_)))
  (refine hK _ ?_;clear hK K)
  (refine W_ct rfl ?_)
  refine W_skip ?_
  simp only [thenW]
  refine W_block ?_
  ((refine W_seqV ?_);intro K hK;(refine sFf ?_))
  (refine ⟨by kernel_rfl,_,.pure rfl (sx),?_⟩;(try (refine sFf ?_)))
  (refine hK _ ?_;clear hK K)
  ((refine W_seqV ?_);intro K hK;(refine sFf ?_))
  (refine ⟨by kernel_rfl,_,.pure rfl (sy),?_⟩;(try (refine sFf ?_)))
  (refine hK _ ?_;clear hK K)
  ((refine W_regV ?_);intro K hK;(refine sFf ?_))
  (refine hK _ ?_;clear hK K)
  simp only [thenW,blockW]
  refine ⟨⟨(x / 2,y / 2,tw+1),half_pow (by omega) hx,half_pow (by omega) hy⟩,Le_of (by simp [leE,cN,cNat]) rfl,?_⟩
  dsimp only
  omega
 rintro s' ⟨x0,y0,tw,hx,hy,hodd,hle⟩
 refine W.le ?_ hle
 clear hle s' hza hzb hap hbp
 obtain ⟨p1,p2,p3⟩:=gcd_lims ha0 hx
 obtain ⟨q1,q2,q3⟩:=gcd_lims hb0 hy
 have hG:Nat.gcd a b=Nat.gcd x0 y0*2^tw:=by rw [← hx,← hy,Nat.gcd_mul_right]
 have hgx:Nat.gcd x0 y0≤x0:=Nat.le_of_dvd p1 (Nat.gcd_dvd_left x0 y0)
 rw [hG]
 refine W_join (fun s'=>Le [] s' ((fun (a_:AV) (d_:Ob)=>(⟨((cN (Nat.gcd x0 y0))::a_::a_::a_::a_::a_::(.int .i64 ((tw:Nat):Int))::a_::a_::a_::a_::a_::a_::a_::a_::a_::a_::a_::a_::a_::a_::a_::a_::a_::a_::a_::a_::a_::a_::a_::a_::a_::a_::a_::a_::a_::a_::a_::a_::a_::a_::a_::a_::a_::a_::a_::a_::a_::a_::a_::a_::a_::a_::a_::a_::a_::a_::a_::a_::a_::a_::a_::a_::a_::a_::a_::a_::a_::a_::a_::a_::a_::a_::a_::a_::a_::a_::a_::a_::a_::a_::a_::a_::a_::a_::a_::a_::a_::a_::a_::a_::[]),(d_::d_::d_::d_::d_::d_::d_::d_::d_::d_::d_::d_::d_::d_::d_::d_::d_::d_::d_::d_::d_::d_::d_::d_::d_::d_::d_::d_::d_::d_::d_::d_::d_::d_::d_::d_::d_::d_::d_::d_::d_::d_::d_::d_::d_::d_::d_::d_::d_::d_::d_::d_::d_::d_::d_::d_::d_::d_::d_::d_::d_::d_::d_::d_::d_::d_::d_::d_::d_::d_::d_::d_::d_::d_::d_::d_::d_::d_::d_::d_::d_::d_::d_::d_::d_::d_::d_::d_::d_::d_::d_::[])⟩:St)) .any .dead)) ?_ ?_
 ·refine W_block (W_loop (fun t:{t:Nat × Nat // 0<t.1∧(t.1%2=1∨t.2%2=1)∧Nat.gcd t.1 t.2=Nat.gcd x0 y0∧(limbs t.1).length<274877906944∧(limbs t.2).length<274877906944}=>((fun (a_:AV) (d_:Ob)=>(⟨((cN t.1.1)::(cN t.1.2)::a_::a_::a_::a_::(.int .i64 ((tw:Nat):Int))::a_::a_::a_::a_::a_::a_::a_::a_::a_::a_::a_::a_::a_::a_::a_::a_::a_::a_::a_::a_::a_::a_::a_::a_::a_::a_::a_::a_::a_::a_::a_::a_::a_::a_::a_::a_::a_::a_::a_::a_::a_::a_::a_::a_::a_::a_::a_::a_::a_::a_::a_::a_::a_::a_::a_::a_::a_::a_::a_::a_::a_::a_::a_::a_::a_::a_::a_::a_::a_::a_::a_::a_::a_::a_::a_::a_::a_::a_::a_::a_::a_::a_::a_::a_::[]),(d_::d_::d_::d_::d_::d_::d_::d_::d_::d_::d_::d_::d_::d_::d_::d_::d_::d_::d_::d_::d_::d_::d_::d_::d_::d_::d_::d_::d_::d_::d_::d_::d_::d_::d_::d_::d_::d_::d_::d_::d_::d_::d_::d_::d_::d_::d_::d_::d_::d_::d_::d_::d_::d_::d_::d_::d_::d_::d_::d_::d_::d_::d_::d_::d_::d_::d_::d_::d_::d_::d_::d_::d_::d_::d_::d_::d_::d_::d_::d_::d_::d_::d_::d_::d_::d_::d_::d_::d_::d_::d_::[])⟩:St)) .any .dead)) (fun t=>t.1.1+t.1.2) ⟨(x0,y0),p1,hodd,rfl,by dsimp only;omega,by dsimp only;omega⟩ (Le_of (by simp [leE]) rfl) fun t=>?_)
  obtain ⟨⟨x,y⟩,hx0,ho,hg,hlx,hly⟩:=t
  dsimp only at hx0 ho hg hlx hly ⊢
  by_cases y0':y=0
  ·subst y0'
   rw [Nat.gcd_zero_right] at hg
   subst hg
   simp only [cN,cNat,limbs_zero]
   refine W_seq ?_
   ((refine W_seqV ?_);intro K hK;(refine sFf ?_))
   (refine hK _ ?_;clear hK K)
   (refine W_cf rfl ?_)
   refine W_exit ?_
   simp only [thenW,blockW,if_true]
   exact Le_of (by simp [leE,cN,cNat]) rfl
  ·have hyp:=limbs_len_pos y0'
   simp only [cN,cNat]
   refine W_seq ?_
   ((refine W_seqV ?_);intro K hK;(refine sFfX hyp ?_))
   (refine hK _ ?_;clear hK K)
   (refine W_ct rfl ?_)
   refine W_skip ?_
   simp only [thenW]
   refine W_block ?_
   refine W_join (fun s'=>∃ x',0<x'∧x'%2=1∧x'≤x∧Nat.gcd x' y=Nat.gcd x0 y0∧Le [] s' ((fun (a_:AV) (d_:Ob)=>(⟨((cN x')::(cN y)::a_::a_::a_::a_::(.int .i64 ((tw:Nat):Int))::a_::a_::a_::a_::a_::a_::a_::a_::a_::a_::a_::a_::a_::a_::a_::a_::a_::a_::a_::a_::a_::a_::a_::a_::a_::a_::a_::a_::a_::a_::a_::a_::a_::a_::a_::a_::a_::a_::a_::a_::a_::a_::a_::a_::a_::a_::a_::a_::a_::a_::a_::a_::a_::a_::a_::a_::a_::a_::a_::a_::a_::a_::a_::a_::a_::a_::a_::a_::a_::a_::a_::a_::a_::a_::a_::a_::a_::a_::a_::a_::a_::a_::a_::a_::[]),(d_::d_::d_::d_::d_::d_::d_::d_::d_::d_::d_::d_::d_::d_::d_::d_::d_::d_::d_::d_::d_::d_::d_::d_::d_::d_::d_::d_::d_::d_::d_::d_::d_::d_::d_::d_::d_::d_::d_::d_::d_::d_::d_::d_::d_::d_::d_::d_::d_::d_::d_::d_::d_::d_::d_::d_::d_::d_::d_::d_::d_::d_::d_::d_::d_::d_::d_::d_::d_::d_::d_::d_::d_::d_::d_::d_::d_::d_::d_::d_::d_::d_::d_::d_::d_::d_::d_::d_::d_::d_::d_::[])⟩:St)) .any .dead)) ?_ ?_
   ·refine W_block (W_loop (fun t:{t:Nat // 0<t∧t≤x∧(t%2=1∨y%2=1)∧Nat.gcd t y=Nat.gcd x0 y0}=>((fun (a_:AV) (d_:Ob)=>(⟨((cN t.1)::(cN y)::a_::a_::a_::a_::(.int .i64 ((tw:Nat):Int))::a_::a_::a_::a_::a_::a_::a_::a_::a_::a_::a_::a_::a_::a_::a_::a_::a_::a_::a_::a_::a_::a_::a_::a_::a_::a_::a_::a_::a_::a_::a_::a_::a_::a_::a_::a_::a_::a_::a_::a_::a_::a_::a_::a_::a_::a_::a_::a_::a_::a_::a_::a_::a_::a_::a_::a_::a_::a_::a_::a_::a_::a_::a_::a_::a_::a_::a_::a_::a_::a_::a_::a_::a_::a_::a_::a_::a_::a_::a_::a_::a_::a_::a_::a_::[]),(d_::d_::d_::d_::d_::d_::d_::d_::d_::d_::d_::d_::d_::d_::d_::d_::d_::d_::d_::d_::d_::d_::d_::d_::d_::d_::d_::d_::d_::d_::d_::d_::d_::d_::d_::d_::d_::d_::d_::d_::d_::d_::d_::d_::d_::d_::d_::d_::d_::d_::d_::d_::d_::d_::d_::d_::d_::d_::d_::d_::d_::d_::d_::d_::d_::d_::d_::d_::d_::d_::d_::d_::d_::d_::d_::d_::d_::d_::d_::d_::d_::d_::d_::d_::d_::d_::d_::d_::d_::d_::d_::[])⟩:St)) .any .dead)) (fun t=>t.1) ⟨x,hx0,Nat.le_refl _,ho,hg⟩ (Le_of (by simp [leE,cN,cNat]) rfl) fun t=>?_)
    obtain ⟨t,ht0,htx,hto,htg⟩:=t
    dsimp only
    have htl:=limbs_mono htx
    have bx:=fbit_v t 0 (by omega) (by omega)
    have sx:=fshr_v t (by omega)
    rw [even_bit] at bx
    simp only [cN,cNat,Int.natCast_zero] at bx sx ⊢
    by_cases ex:t%2=1
    ·rw [decide_eq_true ex] at bx
     refine W_seq ?_
     ((refine W_seqV ?_);intro K hK;(refine sFf ?_))
     (refine ⟨by kernel_rfl,_,.pure rfl (bx),?_⟩;(try (refine sFf ?_)))
     (refine hK _ ?_;clear hK K)
     (refine W_cf rfl ?_)
     refine W_exit ?_
     simp only [thenW,blockW,if_true]
     exact ⟨t,ht0,ex,htx,htg,Le_of (by simp [leE,cN,cNat]) rfl⟩
    ·rw [decide_eq_false ex] at bx
     refine W_seq ?_
     ((refine W_seqV ?_);intro K hK;(refine sFf ?_))
     (refine ⟨by kernel_rfl,_,.pure rfl (bx),?_⟩;(try (refine sFf ?_)))
     (refine hK _ ?_;clear hK K)
     (refine W_ct rfl ?_)
     refine W_skip ?_
     simp only [thenW]
     refine W_block ?_
     ((refine W_regV ?_);intro K hK;(refine sFf ?_))
     (refine ⟨by kernel_rfl,_,.pure rfl (sx),?_⟩;(try (refine sFf ?_)))
     (refine hK _ ?_;clear hK K)
     simp only [thenW,blockW]
     refine ⟨⟨t / 2,by omega,by omega,.inr (hto.resolve_left ex),by rw [gcd_half_left (by omega) (hto.resolve_left ex)];exact htg⟩,Le_of (by simp [leE,cN,cNat]) rfl,?_⟩
     dsimp only
     omega
   rintro s' ⟨x',hx'0,hx'o,hx'x,hx'g,hle⟩
   refine W.le ?_ hle
   clear hle s'
   refine W_join (fun s'=>∃ y',0<y'∧y'%2=1∧y'≤y∧Nat.gcd x' y'=Nat.gcd x0 y0∧Le [] s' ((fun (a_:AV) (d_:Ob)=>(⟨((cN x')::(cN y')::a_::a_::a_::a_::(.int .i64 ((tw:Nat):Int))::a_::a_::a_::a_::a_::a_::a_::a_::a_::a_::a_::a_::a_::a_::a_::a_::a_::a_::a_::a_::a_::a_::a_::a_::a_::a_::a_::a_::a_::a_::a_::a_::a_::a_::a_::a_::a_::a_::a_::a_::a_::a_::a_::a_::a_::a_::a_::a_::a_::a_::a_::a_::a_::a_::a_::a_::a_::a_::a_::a_::a_::a_::a_::a_::a_::a_::a_::a_::a_::a_::a_::a_::a_::a_::a_::a_::a_::a_::a_::a_::a_::a_::a_::a_::[]),(d_::d_::d_::d_::d_::d_::d_::d_::d_::d_::d_::d_::d_::d_::d_::d_::d_::d_::d_::d_::d_::d_::d_::d_::d_::d_::d_::d_::d_::d_::d_::d_::d_::d_::d_::d_::d_::d_::d_::d_::d_::d_::d_::d_::d_::d_::d_::d_::d_::d_::d_::d_::d_::d_::d_::d_::d_::d_::d_::d_::d_::d_::d_::d_::d_::d_::d_::d_::d_::d_::d_::d_::d_::d_::d_::d_::d_::d_::d_::d_::d_::d_::d_::d_::d_::d_::d_::d_::d_::d_::d_::[])⟩:St)) .any .dead)) ?_ ?_
   ·refine W_block (W_loop (fun t:{t:Nat // 0<t∧t≤y∧Nat.gcd x' t=Nat.gcd x0 y0}=>((fun (a_:AV) (d_:Ob)=>(⟨((cN x')::(cN t.1)::a_::a_::a_::a_::(.int .i64 ((tw:Nat):Int))::a_::a_::a_::a_::a_::a_::a_::a_::a_::a_::a_::a_::a_::a_::a_::a_::a_::a_::a_::a_::a_::a_::a_::a_::a_::a_::a_::a_::a_::a_::a_::a_::a_::a_::a_::a_::a_::a_::a_::a_::a_::a_::a_::a_::a_::a_::a_::a_::a_::a_::a_::a_::a_::a_::a_::a_::a_::a_::a_::a_::a_::a_::a_::a_::a_::a_::a_::a_::a_::a_::a_::a_::a_::a_::a_::a_::a_::a_::a_::a_::a_::a_::a_::a_::[]),(d_::d_::d_::d_::d_::d_::d_::d_::d_::d_::d_::d_::d_::d_::d_::d_::d_::d_::d_::d_::d_::d_::d_::d_::d_::d_::d_::d_::d_::d_::d_::d_::d_::d_::d_::d_::d_::d_::d_::d_::d_::d_::d_::d_::d_::d_::d_::d_::d_::d_::d_::d_::d_::d_::d_::d_::d_::d_::d_::d_::d_::d_::d_::d_::d_::d_::d_::d_::d_::d_::d_::d_::d_::d_::d_::d_::d_::d_::d_::d_::d_::d_::d_::d_::d_::d_::d_::d_::d_::d_::d_::[])⟩:St)) .any .dead)) (fun t=>t.1) ⟨y,by omega,Nat.le_refl _,hx'g⟩ (Le_of (by simp [leE,cN,cNat]) rfl) fun t=>?_)
    obtain ⟨t,ht0,htx,htg⟩:=t
    dsimp only
    have htl:=limbs_mono htx
    have bx:=fbit_v t 0 (by omega) (by omega)
    have sx:=fshr_v t (by omega)
    rw [even_bit] at bx
    simp only [cN,cNat,Int.natCast_zero] at bx sx ⊢
    by_cases ex:t%2=1
    ·rw [decide_eq_true ex] at bx
     refine W_seq ?_
     ((refine W_seqV ?_);intro K hK;(refine sFf ?_))
     (refine ⟨by kernel_rfl,_,.pure rfl (bx),?_⟩;(try (refine sFf ?_)))
     (refine hK _ ?_;clear hK K)
     (refine W_cf rfl ?_)
     refine W_exit ?_
     simp only [thenW,blockW,if_true]
     exact ⟨t,ht0,ex,htx,htg,Le_of (by simp [leE,cN,cNat]) rfl⟩
    ·rw [decide_eq_false ex] at bx
     refine W_seq ?_
     ((refine W_seqV ?_);intro K hK;(refine sFf ?_))
     (refine ⟨by kernel_rfl,_,.pure rfl (bx),?_⟩;(try (refine sFf ?_)))
     (refine hK _ ?_;clear hK K)
     (refine W_ct rfl ?_)
     refine W_skip ?_
     simp only [thenW]
     refine W_block ?_
     ((refine W_regV ?_);intro K hK;(refine sFf ?_))
     (refine ⟨by kernel_rfl,_,.pure rfl (sx),?_⟩;(try (refine sFf ?_)))
     (refine hK _ ?_;clear hK K)
     simp only [thenW,blockW]
     refine ⟨⟨t / 2,by omega,by omega,by rw [gcd_half_right hx'o (by omega)];exact htg⟩,Le_of (by simp [leE,cN,cNat]) rfl,?_⟩
     dsimp only
     omega
   rintro s' ⟨y',hy'0,hy'o,hy'y,hy'g,hle⟩
   refine W.le ?_ hle
   clear hle s'
   have hxl':=limbs_mono hx'x
   have hyl':=limbs_mono hy'y
   have hcm:=fcmp_v x' y' (by omega) (by omega)
   simp only [cN,cNat] at hcm ⊢
   by_cases hgt:y'<x'
   ·have hs:decide (0<sgn x' y')=true:=by rw [sgn,if_neg (by omega),if_pos hgt];rfl
    have hsb:=fsub_v x' y' (by omega) (by omega) (by omega)
    have hdl:=limbs_mono (Nat.sub_le x' y')
    simp only [cN,cNat] at hsb
    refine W_seq ?_
    refine W_seq ?_
    ((refine W_regV ?_);intro K hK;(refine sFf ?_))
    (refine ⟨by kernel_rfl,_,.pure rfl (hcm),?_⟩;(try (refine sFf ?_)))
    (refine sFfX hs ?_;try exact True.intro)
    (refine hK _ ?_;clear hK K)
    (refine W_ct rfl ?_)
    ((refine W_regV ?_);intro K hK;(refine sFf ?_))
    (refine hK _ ?_;clear hK K)
    simp only [thenW]
    ((refine W_regV ?_);intro K hK;(refine sFf ?_))
    (refine ⟨by kernel_rfl,_,.pure rfl (hsb),?_⟩;(try (refine sFf ?_)))
    (refine hK _ ?_;clear hK K)
    simp only [thenW,blockW]
    refine ⟨⟨(y',x'-y'),hy'0,.inl hy'o,by dsimp only;rw [gcd_less (by omega),Nat.gcd_comm];exact hy'g,by dsimp only;omega,by dsimp only;omega⟩,Le_of (by simp [leE,cN,cNat]) rfl,?_⟩
    dsimp only
    omega
   ·have hs:decide (0<sgn x' y')=false:=by
     rw [sgn,if_neg hgt]
     split <;> rfl
    have hsb:=fsub_v y' x' (by omega) (by omega) (by omega)
    have hdl:=limbs_mono (Nat.sub_le y' x')
    simp only [cN,cNat] at hsb
    refine W_seq ?_
    refine W_seq ?_
    ((refine W_regV ?_);intro K hK;(refine sFf ?_))
    (refine ⟨by kernel_rfl,_,.pure rfl (hcm),?_⟩;(try (refine sFf ?_)))
    (refine sFfX hs ?_;try exact True.intro)
    (refine hK _ ?_;clear hK K)
    (refine W_cf rfl ?_)
    refine W_skip ?_
    simp only [thenW]
    ((refine W_regV ?_);intro K hK;(refine sFf ?_))
    (refine ⟨by kernel_rfl,_,.pure rfl (hsb),?_⟩;(try (refine sFf ?_)))
    (refine hK _ ?_;clear hK K)
    simp only [thenW,blockW]
    refine ⟨⟨(x',y'-x'),hx'0,.inl hx'o,by dsimp only;rw [gcd_less (by omega)];exact hy'g,by dsimp only;omega,by dsimp only;omega⟩,Le_of (by simp [leE,cN,cNat]) rfl,?_⟩
    dsimp only
    omega
 intro s' hle
 refine W.le ?_ hle
 clear hle s'
 generalize hge:Nat.gcd x0 y0=g at *
 have hgl:∀ j,j≤tw→(limbs (g*2^j)).length<274877906944:=fun j hj=>by
  have:=limbs_mono (Nat.le_trans (Nat.mul_le_mul hgx (Nat.pow_le_pow_right (show 0<2 by omega) hj)) (Nat.le_of_eq hx))
  omega
 have htw:tw<8796093022208:=by omega
 clear p1 p2 p3 q1 q2 q3 hx hy hodd hG hge hgx ha0 hb0 ha1 hb1 hMa hMb
 simp only [cN,cNat]
 ((refine W_seq (W_seqV ?_));intro K hK;(refine sFf ?_))
 (refine hK _ ?_;clear hK K)
 refine W_block (W_loop (fun t:{t:Nat // t≤tw}=>((fun (a_:AV) (d_:Ob)=>(⟨((cN (g*2^t.1))::a_::a_::a_::a_::a_::(.int .i64 ((tw:Nat):Int))::(.int .i64 ((t.1:Nat):Int))::a_::a_::a_::a_::a_::a_::a_::a_::a_::a_::a_::a_::a_::a_::a_::a_::a_::a_::a_::a_::a_::a_::a_::a_::a_::a_::a_::a_::a_::a_::a_::a_::a_::a_::a_::a_::a_::a_::a_::a_::a_::a_::a_::a_::a_::a_::a_::a_::a_::a_::a_::a_::a_::a_::a_::a_::a_::a_::a_::a_::a_::a_::a_::a_::a_::a_::a_::a_::a_::a_::a_::a_::a_::a_::a_::a_::a_::a_::a_::a_::a_::a_::a_::[]),(d_::d_::d_::d_::d_::d_::d_::d_::d_::d_::d_::d_::d_::d_::d_::d_::d_::d_::d_::d_::d_::d_::d_::d_::d_::d_::d_::d_::d_::d_::d_::d_::d_::d_::d_::d_::d_::d_::d_::d_::d_::d_::d_::d_::d_::d_::d_::d_::d_::d_::d_::d_::d_::d_::d_::d_::d_::d_::d_::d_::d_::d_::d_::d_::d_::d_::d_::d_::d_::d_::d_::d_::d_::d_::d_::d_::d_::d_::d_::d_::d_::d_::d_::d_::d_::d_::d_::d_::d_::d_::d_::[])⟩:St)) .any .dead)) (fun t=>tw-t.1) ⟨0,by omega⟩ (Le_of (by simp [leE,cN,cNat]) rfl) fun t=>?_)
 obtain ⟨j,hj⟩:=t
 dsimp only
 have hjl:=hgl j hj
 have htv:=ftwice_v (g*2^j) false (by omega)
 rw [show 2*(g*2^j)+false.toNat=g*2^(j+1) by rw [Nat.pow_succ,Bool.toNat_false,Nat.add_zero,Nat.mul_comm 2,Nat.mul_assoc]] at htv
 simp only [cN,cNat] at htv ⊢
 by_cases hlt:j<tw
 ·refine W_seq ?_
  ((refine W_seqV ?_);intro K hK;(refine sFfX hlt ?_))
  (refine hK _ ?_;clear hK K)
  (refine W_ct rfl ?_)
  refine W_skip ?_
  simp only [thenW]
  refine W_seq (W_block ?_)
  ((refine W_regV ?_);intro K hK;(refine sFf ?_))
  (refine ⟨by kernel_rfl,_,.pure rfl (htv),?_⟩;(try (refine sFf ?_)))
  (refine hK _ ?_;clear hK K)
  simp only [thenW,blockW]
  ((refine W_regV ?_);intro K hK;(refine sFf ?_))
  (refine hK _ ?_;clear hK K)
  simp only [thenW,blockW]
  exact ⟨⟨j+1,by omega⟩,Le_of (by simp [leE,cN,cNat]) rfl,by dsimp only;omega⟩
 ·obtain rfl:j=tw:=by omega
  have hlt':decide (j<j)=false:=decide_eq_false (by omega)
  refine W_seq ?_
  ((refine W_seqV ?_);intro K hK;(refine sFfX hlt' ?_))
  (refine hK _ ?_;clear hK K)
  (refine W_cf rfl ?_)
  refine W_exit ?_
  simp only [thenW,blockW,if_true]
  ((refine W_seqV ?_);intro K hK;(refine sFf ?_))
  (refine hK _ ?_;clear hK K)
  refine W_ret ?_
  (refine qG ?_;try exact True.intro)
theorem sGa {G G':Prop} (h:G') (e:G=G':=by conv=>lhs;simp (disch:=omega) only [rowsOf,cNat,cN,St.ret,St.seth,Eff.app,Eff.wi,sepL,guardOf,St.known,objOf,List.set,sliceW,litW,copyW,lenOf,bnd,mxOk,ofCells,TI.isAgg,cellsOf,storable,AV.one,dead,laid,overlay,reduceCtorEq,Int.reduceLE,Int.reduceLT,Int.reduceSub,Int.reduceAdd,Nat.reduceMul,Int.reduceToNat,Nat.reducePow,Int.reduceNeg,Nat.reduceAdd,Nat.reduceLT,Nat.reduceLeDiff,sA,sB,cZ,cI,sT]):G:=e.mpr h
theorem sGaX {G G' P:Prop} (p:P) (h:G') (e:P→G=G':=by intro p;conv=>lhs;simp (disch:=omega) only [rowsOf,cNat,cN,St.ret,St.seth,Eff.app,Eff.wi,sepL,guardOf,St.known,objOf,List.set,sliceW,litW,copyW,lenOf,bnd,mxOk,ofCells,TI.isAgg,cellsOf,storable,AV.one,dead,laid,overlay,reduceCtorEq,Int.reduceLE,Int.reduceLT,Int.reduceSub,Int.reduceAdd,Nat.reduceMul,Int.reduceToNat,Nat.reducePow,Int.reduceNeg,Nat.reduceAdd,Nat.reduceLT,Nat.reduceLeDiff,sA,sB,cZ,cI,sT,p]):G:=(e p).mpr h
theorem sGaV {G G':Prop} (h:G') (e:G=G':=by conv=>lhs;simp (disch:=omega) only [rowsOf,cNat,cN,St.ret,St.seth,Eff.app,Eff.wi,sepL,guardOf,St.known,objOf,List.set,sliceW,litW,copyW,lenOf,bnd,mxOk,ofCells,TI.isAgg,cellsOf,storable,AV.one,dead,laid,overlay,reduceCtorEq,Int.reduceLE,Int.reduceLT,Int.reduceSub,Int.reduceAdd,Nat.reduceMul,Int.reduceToNat,Nat.reducePow,Int.reduceNeg,Nat.reduceAdd,Nat.reduceLT,Nat.reduceLeDiff,sA,sB,cZ,cI,sT,view_sref,viewRef,view_agg,views_cons,views_nil,view_bool,view_int,view_sl,view_nils,view_str,view_tup,view_nilif]):G:=e.mpr h
theorem aGa {G G':Prop} (h:G') (f:Wr G'→G:=by intro h;(repeat (first|(refine W_seqV fun K hK=>?_;(try (refine sGa ?_;try exact True.intro));(repeat refine aI ?_);refine hK _ ?_;clear hK K)|(refine W_seqR fun K hK=>?_;(try (refine sGa ?_;try exact True.intro));(repeat refine aI ?_);refine hK _ ?_;clear hK K)|(refine W_seqD mixed [] (by kernel_rfl) fun K hK=>?_;(try (refine sGa ?_;try exact True.intro));(repeat refine aI ?_);refine hK _ ?_;clear hK K)));exact h.out):G:=f ⟨h⟩
theorem cZ_made (neg:Bool) (n:Nat):cI (neg&&decide (0<(limbs n).length)) (limbs n)=cZ (if neg then -(n:Int) else n):=by
 cases neg
 ·have:=cZ_of 1 n
  simpa using this
 ·have:=cZ_of (-1) n
  simpa using this
theorem iv_if (neg:Bool) (l:List Nat):iv neg l=if neg then -(val l:Int) else val l:=rfl
set_option maxHeartbeats 2000000 in
theorem f2made_ok (neg:Bool) (l:List Nat) (h:Limbs l) (hl:l.length<274877906944):Pure Tryz.prog 172 [.bool neg,cNat l] (·=cZ (iv neg l)):=by
 have hn:=fnorm_ok l h (by omega)
 rw [iv_if,← cZ_made]
 simp only [cN,cNat] at hn
 (refine pureW Tryz.func172 rfl (rs:=[Go.ResultVar.cell 4 37]) rfl (n:=16) rfl ?_;simp only [List.length_cons,List.length_nil,List.replicate,List.cons_append,List.nil_append])
 unfold cNat
 (refine aGa ?_)
 ((refine W_seqV ?_);intro K hK;(refine sGa ?_))
 (refine ⟨by kernel_rfl,_,.pure rfl (hn),?_⟩;(try (refine sGa ?_)))
 (refine hK _ ?_;clear hK K)
 cases neg
 ·((refine W_seqV ?_);intro K hK;(refine sGa ?_))
  (refine hK _ ?_;clear hK K)
  refine W_ret ?_
  (refine qG ?_;try exact True.intro);try (refine sGaV ?_;try exact True.intro)
  try rfl
 ·((refine W_seqV ?_);intro K hK;(refine sGa ?_))
  (refine hK _ ?_;clear hK K)
  refine W_ret ?_
  (refine qG ?_;try exact True.intro);try (refine sGaV ?_;try exact True.intro)
  try simp
theorem f2made_v (neg:Bool) (n:Nat) (hl:(limbs n).length<274877906944):Pure Tryz.prog 172 [.bool neg,cN n] (·=cZ (if neg then -(n:Int) else n)):=by
 have:=f2made_ok neg (limbs n) (limbs_limbs n) hl
 rwa [iv_if,val_limbs] at this
set_option maxHeartbeats 2000000 in
theorem f2norm_ok (neg:Bool) (l:List Nat) (h:Limbs l) (hl:l.length<274877906944):Pure Tryz.prog 138 [cI neg l] (·=cZ (iv neg l)):=by
 have hm:=f2made_ok neg l h hl
 (refine pureW Tryz.func138 rfl (rs:=[Go.ResultVar.cell 2 37]) rfl (n:=8) rfl ?_;simp only [List.length_cons,List.length_nil,List.replicate,List.cons_append,List.nil_append])
 unfold cI
 (refine aGa ?_)
 ((refine W_seqV ?_);intro K hK;(refine sGa ?_))
 (refine ⟨by kernel_rfl,_,.pure rfl (hm),?_⟩;(try (refine sGa ?_)))
 (refine hK _ ?_;clear hK K)
 refine W_ret ?_
 (refine qG ?_;try exact True.intro);try (refine sGaV ?_;try exact True.intro)
set_option maxHeartbeats 2000000 in
theorem f2neg_ok (neg:Bool) (l:List Nat) (h:Limbs l) (hl:l.length<274877906944):Pure Tryz.prog 175 [cI neg l] (·=cZ (-(iv neg l))):=by
 have hm:=f2made_ok (!neg) l h hl
 rw [show iv (!neg) l = -(iv neg l) by cases neg <;> simp [iv]] at hm
 (refine pureW Tryz.func175 rfl (rs:=[Go.ResultVar.cell 2 37]) rfl (n:=9) rfl ?_;simp only [List.length_cons,List.length_nil,List.replicate,List.cons_append,List.nil_append])
 unfold cI
 (refine aGa ?_)
 ((refine W_seqV ?_);intro K hK;(refine sGa ?_))
 (refine ⟨by kernel_rfl,_,.pure rfl (hm),?_⟩;(try (refine sGa ?_)))
 (refine hK _ ?_;clear hK K)
 refine W_ret ?_
 (refine qG ?_;try exact True.intro);try (refine sGaV ?_;try exact True.intro)
set_option maxHeartbeats 2000000 in
theorem f2sign_ok (neg:Bool) (l:List Nat) (h:Limbs l) (hl:l.length<274877906944):Pure Tryz.prog 67 [cI neg l] (· = .int .i64 (iv neg l).sign):=by
 have hm:=f2norm_ok neg l h hl
 have hab:=iv_abs neg l
 generalize iv neg l=z at *
 by_cases hz:z<0
 ·have hz':=decide_eq_true hz
  rw [Int.sign_eq_neg_one_of_neg hz]
  (refine pureW Tryz.func67 rfl (rs:=[Go.ResultVar.tmp 2]) rfl (n:=12) rfl ?_;simp only [List.length_cons,List.length_nil,List.replicate,List.cons_append,List.nil_append])
  unfold cI
  (refine aGa ?_)
  ((refine W_seqV ?_);intro K hK;(refine sGa ?_))
  (refine ⟨by kernel_rfl,_,.pure rfl (hm),?_⟩;(try (refine sGa ?_)))
  (refine hK _ ?_;clear hK K)
  refine W_seq ?_
  ((refine W_seqV ?_);intro K hK;(refine sGaX hz' ?_))
  (refine hK _ ?_;clear hK K)
  (refine W_ct rfl ?_)
  ((refine W_seqV ?_);intro K hK;(refine sGa ?_))
  (refine hK _ ?_;clear hK K)
  refine W_ret ?_
  (refine qG ?_;try exact True.intro);try (refine sGaV ?_;try exact True.intro)
 ·have hz':=decide_eq_false hz
  by_cases h0:z=0
  ·subst h0
   (refine pureW Tryz.func67 rfl (rs:=[Go.ResultVar.tmp 2]) rfl (n:=12) rfl ?_;simp only [List.length_cons,List.length_nil,List.replicate,List.cons_append,List.nil_append])
   unfold cI
   (refine aGa ?_)
   ((refine W_seqV ?_);intro K hK;(refine sGa ?_))
   (refine ⟨by kernel_rfl,_,.pure rfl (hm),?_⟩;(try (refine sGa ?_)))
   (refine hK _ ?_;clear hK K)
   refine W_seq ?_
   ((refine W_seqV ?_);intro K hK;(refine sGaX hz' ?_))
   (refine hK _ ?_;clear hK K)
   (refine W_cf rfl ?_)
   refine W_skip ?_
   simp only [thenW]
   refine W_seq ?_
   ((refine W_seqV ?_);intro K hK;simp (disch:=omega) only [Int.natAbs_zero,limbs_zero,sB,sT,sA,Nat.reduceAdd,Nat.reduceLT,reduceCtorEq,Eff.app,List.set,Eff.wi,TI.isAgg,objOf,Nat.reduceLeDiff,ofCells,sepL])
   (refine hK _ ?_;clear hK K)
   (refine W_cf rfl ?_)
   refine W_skip ?_
   simp only [thenW]
   ((refine W_seqV ?_);intro K hK;(refine sGa ?_))
   (refine hK _ ?_;clear hK K)
   refine W_ret ?_
   (refine qG ?_;try exact True.intro);try (refine sGaV ?_;try exact True.intro)
   try rfl
  ·have hlp:=limbs_len_pos (n:=z.natAbs) (by omega)
   rw [Int.sign_eq_one_of_pos (by omega)]
   (refine pureW Tryz.func67 rfl (rs:=[Go.ResultVar.tmp 2]) rfl (n:=12) rfl ?_;simp only [List.length_cons,List.length_nil,List.replicate,List.cons_append,List.nil_append])
   unfold cI
   (refine aGa ?_)
   ((refine W_seqV ?_);intro K hK;(refine sGa ?_))
   (refine ⟨by kernel_rfl,_,.pure rfl (hm),?_⟩;(try (refine sGa ?_)))
   (refine hK _ ?_;clear hK K)
   refine W_seq ?_
   ((refine W_seqV ?_);intro K hK;(refine sGaX hz' ?_))
   (refine hK _ ?_;clear hK K)
   (refine W_cf rfl ?_)
   refine W_skip ?_
   simp only [thenW]
   refine W_seq ?_
   ((refine W_seqV ?_);intro K hK;(refine sGaX hlp ?_))
   (refine hK _ ?_;clear hK K)
   (refine W_ct rfl ?_)
   ((refine W_seqV ?_);intro K hK;(refine sGa ?_))
   (refine hK _ ?_;clear hK K)
   refine W_ret ?_
   (refine qG ?_;try exact True.intro);try (refine sGaV ?_;try exact True.intro)
set_option maxHeartbeats 2000000 in
theorem f2mul_ok (neg:Bool) (l:List Nat) (h:Limbs l) (hl:l.length<68719476736) (neg':Bool) (l':List Nat) (h':Limbs l') (hl':l'.length<68719476736):Pure Tryz.prog 135 [cI neg l,cI neg' l'] (·=cZ (iv neg l*iv neg' l')):=by
 have hm:=fmul_ok l l' h h' (by omega) (by omega)
 have hlm:=len_mul (val l) (val l')
 have h1:=limbs_val_length h
 have h2:=limbs_val_length h'
 have hd:=f2made_v (!(neg == neg')) (val l*val l') (by omega)
 rw [show (if (!(neg == neg'))=true then -((val l*val l':Nat):Int) else ((val l*val l':Nat):Int))=iv neg l*iv neg' l' by cases neg <;> cases neg' <;> simp [iv,Int.neg_mul,Int.mul_neg]] at hd
 (refine pureW Tryz.func135 rfl (rs:=[Go.ResultVar.cell 4 37]) rfl (n:=16) rfl ?_;simp only [List.length_cons,List.length_nil,List.replicate,List.cons_append,List.nil_append])
 unfold cI
 (refine aGa ?_)
 ((refine W_seqD mixed [] (by kernel_rfl) ?_);intro K hK;(refine sGa ?_))
 (refine ⟨by kernel_rfl,_,.pure rfl (hm),?_⟩;(try (refine sGa ?_)))
 (refine ⟨by kernel_rfl,_,.pure rfl (hd),?_⟩;(try (refine sGa ?_)))
 (refine hK _ ?_;clear hK K)
 refine W_ret ?_
 (refine qG ?_;try exact True.intro);try (refine sGaV ?_;try exact True.intro)
set_option maxHeartbeats 4000000 in
theorem f2add_ok (neg:Bool) (l:List Nat) (h:Limbs l) (hl:l.length<137438953472) (neg':Bool) (l':List Nat) (h':Limbs l') (hl':l'.length<137438953472):Pure Tryz.prog 134 [cI neg l,cI neg' l'] (·=cZ (iv neg l+iv neg' l')):=by
 have h1:=limbs_val_length h
 have h2:=limbs_val_length h'
 cases hnn:neg == neg'
 ·have hc:=fcmp_ok l l' h h' (by omega) (by omega)
  by_cases hle:val l'≤val l
  ·have hs:=sgn_nn hle
   have hsub:=fsub_ok l l' h h' (by omega) (by omega) hle
   have hsl:=limbs_mono (Nat.sub_le (val l) (val l'))
   have hd:=f2made_v neg (val l-val l') (by omega)
   rw [show (if neg=true then -((val l-val l':Nat):Int) else ((val l-val l':Nat):Int))=iv neg l+iv neg' l' by cases neg <;> cases neg' <;> simp [iv] at * <;> omega] at hd
   (refine pureW Tryz.func134 rfl (rs:=[Go.ResultVar.cell 4 37]) rfl (n:=52) rfl ?_;simp only [List.length_cons,List.length_nil,List.replicate,List.cons_append,List.nil_append])
   unfold cI
   (refine aGa ?_)
   refine W_seq ?_
   ((refine W_seqV ?_);intro K hK;(refine sGaX hnn ?_))
   (refine hK _ ?_;clear hK K)
   (refine W_cf rfl ?_)
   refine W_skip ?_
   simp only [thenW]
   refine W_seq ?_
   ((refine W_seqV ?_);intro K hK;(refine sGa ?_))
   (refine ⟨by kernel_rfl,_,.pure rfl (hc),?_⟩;(try (refine sGa ?_)))
   (refine sGaX hs ?_;try exact True.intro)
   (refine hK _ ?_;clear hK K)
   (refine W_ct rfl ?_)
   ((refine W_seqV ?_);intro K hK;(refine sGa ?_))
   (refine ⟨by kernel_rfl,_,.pure rfl (hsub),?_⟩;(try (refine sGa ?_)))
   (refine hK _ ?_;clear hK K)
   ((refine W_seqV ?_);intro K hK;(refine sGa ?_))
   (refine ⟨by kernel_rfl,_,.pure rfl (hd),?_⟩;(try (refine sGa ?_)))
   (refine hK _ ?_;clear hK K)
   refine W_ret ?_
   (refine qG ?_;try exact True.intro);try (refine sGaV ?_;try exact True.intro)
  ·have hs:=sgn_ng hle
   have hsub:=fsub_ok l' l h' h (by omega) (by omega) (by omega)
   have hsl:=limbs_mono (Nat.sub_le (val l') (val l))
   have hd:=f2made_v neg' (val l'-val l) (by omega)
   rw [show (if neg'=true then -((val l'-val l:Nat):Int) else ((val l'-val l:Nat):Int))=iv neg l+iv neg' l' by cases neg <;> cases neg' <;> simp [iv] at * <;> omega] at hd
   (refine pureW Tryz.func134 rfl (rs:=[Go.ResultVar.cell 4 37]) rfl (n:=52) rfl ?_;simp only [List.length_cons,List.length_nil,List.replicate,List.cons_append,List.nil_append])
   unfold cI
   (refine aGa ?_)
   refine W_seq ?_
   ((refine W_seqV ?_);intro K hK;(refine sGaX hnn ?_))
   (refine hK _ ?_;clear hK K)
   (refine W_cf rfl ?_)
   refine W_skip ?_
   simp only [thenW]
   refine W_seq ?_
   ((refine W_seqV ?_);intro K hK;(refine sGa ?_))
   (refine ⟨by kernel_rfl,_,.pure rfl (hc),?_⟩;(try (refine sGa ?_)))
   (refine sGaX hs ?_;try exact True.intro)
   (refine hK _ ?_;clear hK K)
   (refine W_cf rfl ?_)
   refine W_skip ?_
   simp only [thenW]
   ((refine W_seqV ?_);intro K hK;(refine sGa ?_))
   (refine ⟨by kernel_rfl,_,.pure rfl (hsub),?_⟩;(try (refine sGa ?_)))
   (refine hK _ ?_;clear hK K)
   ((refine W_seqV ?_);intro K hK;(refine sGa ?_))
   (refine ⟨by kernel_rfl,_,.pure rfl (hd),?_⟩;(try (refine sGa ?_)))
   (refine hK _ ?_;clear hK K)
   refine W_ret ?_
   (refine qG ?_;try exact True.intro);try (refine sGaV ?_;try exact True.intro)
 ·have ha:=fadd_ok l l' h h' (by omega) (by omega)
  have hal:(limbs (val l+val l')).length≤(limbs (val l)).length+(limbs (val l')).length+1:=by
   have:=zl_add (val l) (val l')
   simpa [zl,← Int.natCast_add] using this
  have hd:=f2made_v neg (val l+val l') (by omega)
  rw [show (if neg=true then -((val l+val l':Nat):Int) else ((val l+val l':Nat):Int))=iv neg l+iv neg' l' by cases neg <;> cases neg' <;> simp [iv] at * <;> omega] at hd
  (refine pureW Tryz.func134 rfl (rs:=[Go.ResultVar.cell 4 37]) rfl (n:=52) rfl ?_;simp only [List.length_cons,List.length_nil,List.replicate,List.cons_append,List.nil_append])
  unfold cI
  (refine aGa ?_)
  refine W_seq ?_
  ((refine W_seqV ?_);intro K hK;(refine sGaX hnn ?_))
  (refine hK _ ?_;clear hK K)
  (refine W_ct rfl ?_)
  ((refine W_seqD mixed [] (by kernel_rfl) ?_);intro K hK;(refine sGa ?_))
  (refine ⟨by kernel_rfl,_,.pure rfl (ha),?_⟩;(try (refine sGa ?_)))
  (refine ⟨by kernel_rfl,_,.pure rfl (hd),?_⟩;(try (refine sGa ?_)))
  (refine hK _ ?_;clear hK K)
  refine W_ret ?_
  (refine qG ?_;try exact True.intro);try (refine sGaV ?_;try exact True.intro)
set_option maxHeartbeats 2000000 in
theorem f2of_ok (n:Int) (h1 : -9223372036854775808≤n) (h2:n<9223372036854775808):Pure Tryz.prog 107 [.int .i64 n] (·=cZ n):=by
 have ho:=f1of_ok n.natAbs (by omega)
 have hl:(limbs n.natAbs).length≤2:=len_le (by omega)
 by_cases h0:n<0
 ·have hw:=wrap_u64_neg h0 h1
  have hd:=f2made_v true n.natAbs (by omega)
  rw [show (if true=true then -(n.natAbs:Int) else (n.natAbs:Int))=n by rw [if_pos rfl];omega] at hd
  have hz:decide (n<0)=true:=decide_eq_true h0
  (refine pureW Tryz.func107 rfl (rs:=[Go.ResultVar.cell 2 37]) rfl (n:=14) rfl ?_;simp only [List.length_cons,List.length_nil,List.replicate,List.cons_append,List.nil_append])
  (refine aGa ?_)
  refine W_seq ?_
  ((refine W_seqV ?_);intro K hK;(refine sGaX hz ?_))
  (refine hK _ ?_;clear hK K)
  (refine W_ct rfl ?_)
  ((refine W_seqV ?_);intro K hK;(refine sGaX hw ?_))
  (refine ⟨by kernel_rfl,_,.pure rfl (ho),?_⟩;(try (refine sGa ?_)))
  (refine ⟨by kernel_rfl,_,.pure rfl (hd),?_⟩;(try (refine sGa ?_)))
  (refine hK _ ?_;clear hK K)
  refine W_ret ?_
  (refine qG ?_;try exact True.intro);try (refine sGaV ?_;try exact True.intro)
 ·have hw:IntKind.wrap .u64 n=((n.natAbs:Nat):Int):=by rw [wrap_u64 (by omega) (by omega)];omega
  have hd:=f2made_v false n.natAbs (by omega)
  rw [show (if false=true then -(n.natAbs:Int) else (n.natAbs:Int))=n by rw [if_neg (by decide)];omega] at hd
  have hz:decide (n<0)=false:=decide_eq_false h0
  (refine pureW Tryz.func107 rfl (rs:=[Go.ResultVar.cell 2 37]) rfl (n:=14) rfl ?_;simp only [List.length_cons,List.length_nil,List.replicate,List.cons_append,List.nil_append])
  (refine aGa ?_)
  refine W_seq ?_
  ((refine W_seqV ?_);intro K hK;(refine sGaX hz ?_))
  (refine hK _ ?_;clear hK K)
  (refine W_cf rfl ?_)
  refine W_skip ?_
  simp only [thenW]
  ((refine W_seqV ?_);intro K hK;(refine sGaX hw ?_))
  (refine ⟨by kernel_rfl,_,.pure rfl (ho),?_⟩;(try (refine sGa ?_)))
  (refine ⟨by kernel_rfl,_,.pure rfl (hd),?_⟩;(try (refine sGa ?_)))
  (refine hK _ ?_;clear hK K)
  refine W_ret ?_
  (refine qG ?_;try exact True.intro);try (refine sGaV ?_;try exact True.intro)
theorem sGb {G G':Prop} (h:G') (e:G=G':=by conv=>lhs;simp (disch:=omega) only [rowsOf,cNat,cN,St.ret,St.seth,Eff.app,Eff.wi,sepL,guardOf,St.known,objOf,List.set,sliceW,litW,copyW,lenOf,bnd,mxOk,ofCells,TI.isAgg,cellsOf,storable,AV.one,dead,laid,overlay,reduceCtorEq,Int.reduceLE,Int.reduceLT,Int.reduceSub,Int.reduceAdd,Nat.reduceMul,Int.reduceToNat,Nat.reducePow,Int.reduceNeg,Nat.reduceAdd,Nat.reduceLT,Nat.reduceLeDiff,sA,sB,cZ,cI,cQ,sT]):G:=e.mpr h
theorem sGbX {G G' P:Prop} (p:P) (h:G') (e:P→G=G':=by intro p;conv=>lhs;simp (disch:=omega) only [rowsOf,cNat,cN,St.ret,St.seth,Eff.app,Eff.wi,sepL,guardOf,St.known,objOf,List.set,sliceW,litW,copyW,lenOf,bnd,mxOk,ofCells,TI.isAgg,cellsOf,storable,AV.one,dead,laid,overlay,reduceCtorEq,Int.reduceLE,Int.reduceLT,Int.reduceSub,Int.reduceAdd,Nat.reduceMul,Int.reduceToNat,Nat.reducePow,Int.reduceNeg,Nat.reduceAdd,Nat.reduceLT,Nat.reduceLeDiff,sA,sB,cZ,cI,cQ,sT,p]):G:=(e p).mpr h
theorem sGbV {G G':Prop} (h:G') (e:G=G':=by conv=>lhs;simp (disch:=omega) only [rowsOf,cNat,cN,St.ret,St.seth,Eff.app,Eff.wi,sepL,guardOf,St.known,objOf,List.set,sliceW,litW,copyW,lenOf,bnd,mxOk,ofCells,TI.isAgg,cellsOf,storable,AV.one,dead,laid,overlay,reduceCtorEq,Int.reduceLE,Int.reduceLT,Int.reduceSub,Int.reduceAdd,Nat.reduceMul,Int.reduceToNat,Nat.reducePow,Int.reduceNeg,Nat.reduceAdd,Nat.reduceLT,Nat.reduceLeDiff,sA,sB,cZ,cI,cQ,sT,view_sref,viewRef,view_agg,views_cons,views_nil,view_bool,view_int,view_sl,view_nils,view_str,view_tup,view_nilif]):G:=e.mpr h
theorem aGb {G G':Prop} (h:G') (f:Wr G'→G:=by intro h;(repeat (first|(refine W_seqV fun K hK=>?_;(try (refine sGb ?_;try exact True.intro));(repeat refine aI ?_);refine hK _ ?_;clear hK K)|(refine W_seqR fun K hK=>?_;(try (refine sGb ?_;try exact True.intro));(repeat refine aI ?_);refine hK _ ?_;clear hK K)|(refine W_seqD mixed [] (by kernel_rfl) fun K hK=>?_;(try (refine sGb ?_;try exact True.intro));(repeat refine aI ?_);refine hK _ ?_;clear hK K)));exact h.out):G:=f ⟨h⟩
theorem fgcd_v (a b:Nat) (ha:(limbs a).length<274877906944) (hb:(limbs b).length<274877906944):Pure Tryz.prog 140 [cN a,cN b] (·=cN (Nat.gcd a b)):=by
 have:=fgcd_ok (limbs a) (limbs b) (limbs_limbs a) (limbs_limbs b) ha hb
 rwa [val_limbs,val_limbs] at this
theorem fdiv_v (a b:Nat) (ha:(limbs a).length<274877906944) (hb:(limbs b).length<274877906944) (h0:b≠0):Pure Tryz.prog 141 [cN a,cN b] (· = .tup [cN (a / b),cN (a%b),.int .i64 0]):=by
 have:=fdiv_ok (limbs a) (limbs b) (limbs_limbs a) (limbs_limbs b) ha hb
 rwa [val_limbs,val_limbs,divR,if_neg h0] at this
theorem mk_cQ (z:Int) {d:Nat} (hd:d≠0) (hz:z≠0):cQ (mkRat z d) = .agg [.bool (decide (z<0)),cN (z.natAbs / Nat.gcd z.natAbs d),cN (d / Nat.gcd z.natAbs d)]:=by
 have h1:=mk_num (decide (z<0)) (limbs z.natAbs) hd
 have h2:=mk_den (decide (z<0)) (limbs z.natAbs) hd
 rw [iv_cZ,val_limbs] at h1 h2
 have hg:0<Nat.gcd z.natAbs d:=Nat.gcd_pos_of_pos_right _ (Nat.pos_of_ne_zero hd)
 have hn0:z.natAbs / Nat.gcd z.natAbs d≠0:=by
  have:=Nat.div_pos (Nat.le_of_dvd (by omega) (Nat.gcd_dvd_left z.natAbs d)) hg
  omega
 unfold cQ
 rw [h1,h2,iv_abs,val_limbs]
 simp only [cN,cNat]
 congr 2
 rw [AV.bool.injEq,decide_eq_decide]
 unfold iv
 rw [val_limbs]
 generalize z.natAbs / Nat.gcd z.natAbs d=w at *
 split
 ·rename_i h;simp only [decide_eq_true_eq] at h;omega
 ·rename_i h;simp only [decide_eq_true_eq] at h;omega
theorem cQ_zero:cQ 0 = .agg [.bool false,.sl [],.sl [[.int .u32 1]]]:=by
 unfold cQ
 simp [limbs_zero,limbs_1,u32s]
set_option maxHeartbeats 4000000 in
theorem f3norm_ok0 (neg:Bool) (n d:List Nat) (hn:Limbs n) (hd:Limbs d) (h1:n.length<137438953472) (h2:d.length<137438953472) :
  Pure Tryz.prog 68 [.agg [.bool neg,.sl (u32s n),.sl (u32s d)]] (·=cQ (mkRat (iv neg n) (val d))):=by
 have hz:=f2norm_ok neg n hn (by omega)
 have hdn:=fnorm_ok d hd (by omega)
 have hnl:=limbs_val_length hn
 have hdl:=limbs_val_length hd
 have hab:=iv_abs neg n
 generalize iv neg n=z at *
 rw [← hab] at hnl
 clear hab
 generalize val d=e at *
 have z00:((0:Int) == 0)=true:=rfl
 by_cases he:e=0
 ·subst he
  rw [Rat.mkRat_zero,cQ_zero]
  simp only [cN,cNat,limbs_zero] at hdn
  (refine pureW Tryz.func68 rfl (rs:=[Go.ResultVar.cell 2 39]) rfl (n:=55) rfl ?_;simp only [List.length_cons,List.length_nil,List.replicate,List.cons_append,List.nil_append])
  (refine aGb ?_)
  ((refine W_seqV ?_);intro K hK;(refine sGb ?_))
  (refine ⟨by kernel_rfl,_,.pure rfl (hz),?_⟩;(try (refine sGb ?_)))
  (refine hK _ ?_;clear hK K)
  ((refine W_seqV ?_);intro K hK;(refine sGb ?_))
  (refine ⟨by kernel_rfl,_,.pure rfl (hdn),?_⟩;(try (refine sGb ?_)))
  (refine hK _ ?_;clear hK K)
  refine W_seq ?_
  ((refine W_seqV ?_);intro K hK;(refine sGbX z00 ?_))
  (refine hK _ ?_;clear hK K)
  (refine W_ct rfl ?_)
  ((refine W_seqV ?_);intro K hK;(refine sGb ?_))
  (repeat refine aI ?_);refine hK _ ?_;clear hK K
  refine W_ret ?_
  (refine qG ?_;try exact True.intro);try (refine sGbV ?_;try exact True.intro)
  try rfl
 have hep:=limbs_len_pos he
 have hze:(((limbs e).length:Int) == 0)=false:=by rw [beq_eq_false_iff_ne];omega
 simp only [cN,cNat] at hdn
 by_cases h0:z=0
 ·subst h0
  rw [show mkRat 0 e=0 by simp,cQ_zero]
  simp only [cZ,cI,Int.natAbs_zero,limbs_zero] at hz
  (refine pureW Tryz.func68 rfl (rs:=[Go.ResultVar.cell 2 39]) rfl (n:=55) rfl ?_;simp only [List.length_cons,List.length_nil,List.replicate,List.cons_append,List.nil_append])
  (refine aGb ?_)
  ((refine W_seqV ?_);intro K hK;(refine sGb ?_))
  (refine ⟨by kernel_rfl,_,.pure rfl (hz),?_⟩;(try (refine sGb ?_)))
  (refine hK _ ?_;clear hK K)
  ((refine W_seqV ?_);intro K hK;(refine sGb ?_))
  (refine ⟨by kernel_rfl,_,.pure rfl (hdn),?_⟩;(try (refine sGb ?_)))
  (refine hK _ ?_;clear hK K)
  refine W_seq ?_
  ((refine W_seqV ?_);intro K hK;(refine sGbX (And.intro hze z00) ?_))
  (refine hK _ ?_;clear hK K)
  (refine W_ct rfl ?_)
  ((refine W_seqV ?_);intro K hK;(refine sGb ?_))
  (repeat refine aI ?_);refine hK _ ?_;clear hK K
  refine W_ret ?_
  (refine qG ?_;try exact True.intro);try (refine sGbV ?_;try exact True.intro)
  try rfl
 have hzp:=limbs_len_pos (n:=z.natAbs) (by omega)
 have hzz:(((limbs z.natAbs).length:Int) == 0)=false:=by rw [beq_eq_false_iff_ne];omega
 rw [mk_cQ z he h0]
 have hg:=fgcd_v z.natAbs e (by omega) (by omega)
 have hg0:Nat.gcd z.natAbs e≠0:=fun h=>he (Nat.gcd_eq_zero_iff.1 h).2
 have hgl:=limbs_mono (Nat.le_of_dvd (Nat.pos_of_ne_zero he) (Nat.gcd_dvd_right z.natAbs e))
 have d1:=fdiv_v z.natAbs (Nat.gcd z.natAbs e) (by omega) (by omega) hg0
 have d2:=fdiv_v e (Nat.gcd z.natAbs e) (by omega) (by omega) hg0
 simp only [cN,cNat] at hg d1 d2 ⊢
 (refine pureW Tryz.func68 rfl (rs:=[Go.ResultVar.cell 2 39]) rfl (n:=55) rfl ?_;simp only [List.length_cons,List.length_nil,List.replicate,List.cons_append,List.nil_append])
 (refine aGb ?_)
 ((refine W_seqV ?_);intro K hK;(refine sGb ?_))
 (refine ⟨by kernel_rfl,_,.pure rfl (hz),?_⟩;(try (refine sGb ?_)))
 (refine hK _ ?_;clear hK K)
 ((refine W_seqV ?_);intro K hK;(refine sGb ?_))
 (refine ⟨by kernel_rfl,_,.pure rfl (hdn),?_⟩;(try (refine sGb ?_)))
 (refine hK _ ?_;clear hK K)
 refine W_seq ?_
 ((refine W_seqV ?_);intro K hK;(refine sGbX (And.intro hze hzz) ?_))
 (refine hK _ ?_;clear hK K)
 (refine W_cf rfl ?_)
 refine W_skip ?_
 simp only [thenW]
 ((refine W_seqV ?_);intro K hK;(refine sGb ?_))
 (refine ⟨by kernel_rfl,_,.pure rfl (hg),?_⟩;(try (refine sGb ?_)))
 (refine hK _ ?_;clear hK K)
 ((refine W_seqV ?_);intro K hK;(refine sGb ?_))
 (refine ⟨by kernel_rfl,_,.pure rfl (d1),?_⟩;(try (refine sGb ?_)))
 (refine hK _ ?_;clear hK K)
 ((refine W_seqV ?_);intro K hK;(refine sGb ?_))
 (refine ⟨by kernel_rfl,_,.pure rfl (d2),?_⟩;(try (refine sGb ?_)))
 (refine hK _ ?_;clear hK K)
 ((refine W_seqV ?_);intro K hK;(refine sGb ?_))
 (refine hK _ ?_;clear hK K)
 refine W_ret ?_
 (refine qG ?_;try exact True.intro);try (refine sGbV ?_;try exact True.intro)
theorem f3norm_ok (r:RR) (hr:r.ok):Pure Tryz.prog 68 [r.av] (·=cQ r.v) :=
 f3norm_ok0 r.neg r.num r.den hr.num hr.den (Nat.lt_trans hr.nl (by decide)) (Nat.lt_trans hr.dl (by decide))
theorem f3norm_zd (z:Int) (d:Nat) (hz:zl z<137438953472) (hd:(limbs d).length<137438953472) :
  Pure Tryz.prog 68 [.agg [.bool (decide (z<0)),.sl (u32s (limbs z.natAbs)),.sl (u32s (limbs d))]] (·=cQ (mkRat z d)):=by
 have:=f3norm_ok0 (decide (z<0)) (limbs z.natAbs) (limbs d) (limbs_limbs _) (limbs_limbs _) hz hd
 rwa [mkRat_iv] at this
set_option maxHeartbeats 1000000 in
theorem positive_ok (l:List Nat):Pure Tryz.prog 136 [cNat l] (·=cI false l):=by
 (refine pureW Tryz.func136 rfl (rs:=[Go.ResultVar.cell 2 37]) rfl (n:=5) rfl ?_;simp only [List.length_cons,List.length_nil,List.replicate,List.cons_append,List.nil_append])
 unfold cNat
 (refine aGb ?_)
 refine W_ret ?_
 (refine qG ?_;try exact True.intro);try (refine sGbV ?_;try exact True.intro)
theorem f2mul_qd (a b:Rat) (ha:(qr a).ok) (hb:(qr b).ok):Pure Tryz.prog 135 [cI (decide (a.num<0)) (limbs a.num.natAbs),cI false (limbs b.den)] (·=cZ (a.num*b.den)):=by
 have:=f2mul_ok (decide (a.num<0)) (limbs a.num.natAbs) (limbs_limbs _) (Nat.lt_trans ha.nl (by decide)) false (limbs b.den) (limbs_limbs _) (Nat.lt_trans hb.dl (by decide))
 rwa [q_num,den_iv] at this
theorem f1dd_ok (a b:Rat) (ha:(qr a).ok) (hb:(qr b).ok):Pure Tryz.prog 137 [cNat (limbs a.den),cNat (limbs b.den)] (·=cN (a.den*b.den)):=by
 have:=fmul_ok (limbs a.den) (limbs b.den) (limbs_limbs _) (limbs_limbs _) (Nat.lt_trans ha.dl (by decide)) (Nat.lt_trans hb.dl (by decide))
 rwa [val_limbs,val_limbs] at this
set_option maxHeartbeats 4000000 in
theorem f3add_ok (r t:RR) (hr:r.ok) (ht:t.ok):Pure Tryz.prog 65 [r.av,t.av] (·=cQ (r.v+t.v)):=by
 have hn:=f3norm_ok r hr
 have hm:=f3norm_ok t ht
 have ho:=v_ok hr
 have hp:=v_ok ht
 obtain ⟨neg,n,d⟩:=r
 obtain ⟨neg',n',d'⟩:=t
 simp only [RR.av] at hn hm ⊢
 generalize RR.v _=q at *
 generalize RR.v _=p at *
 have h1:=f2mul_qd q p ho hp
 have h2:=f2mul_qd p q hp ho
 have p1:=positive_ok (limbs p.den)
 have p2:=positive_ok (limbs q.den)
 have z1:=zl_qd q p ho hp
 have z2:=zl_qd p q hp ho
 have hc:=f2add_ok (decide (q.num*p.den<0)) (limbs (q.num*p.den).natAbs) (limbs_limbs _) (Nat.lt_trans z1 (by decide)) (decide (p.num*q.den<0)) (limbs (p.num*q.den).natAbs) (limbs_limbs _) (Nat.lt_trans z2 (by decide))
 rw [iv_cZ,iv_cZ] at hc
 have z3:=zl_add (q.num*p.den) (p.num*q.den)
 have hd:=f1dd_ok q p ho hp
 have hl:=dd_len q p ho hp
 have hmd:=f3norm_zd (q.num*p.den+p.num*q.den) (q.den*p.den) (by omega) (by omega)
 rw [← Rat.add_def'] at hmd
 simp only [cQ] at hn hm
 (refine pureW Tryz.func65 rfl (rs:=[Go.ResultVar.cell 4 39]) rfl (n:=31) rfl ?_;simp only [List.length_cons,List.length_nil,List.replicate,List.cons_append,List.nil_append])
 (refine aGb ?_)
 ((refine W_seqV ?_);intro K hK;(refine sGb ?_))
 (refine ⟨by kernel_rfl,_,.pure rfl (hn),?_⟩;(try (refine sGb ?_)))
 (refine hK _ ?_;clear hK K)
 ((refine W_seqV ?_);intro K hK;(refine sGb ?_))
 (refine ⟨by kernel_rfl,_,.pure rfl (hm),?_⟩;(try (refine sGb ?_)))
 (refine hK _ ?_;clear hK K)
 ((refine W_seqD mixed [(1,13),(3,13),(7,13),(9,13)] (by kernel_rfl) ?_);intro K hK;(refine sGb ?_))
 (refine ⟨by kernel_rfl,_,.pure rfl (p1),?_⟩;(try (refine sGb ?_)))
 (refine ⟨by kernel_rfl,_,.pure rfl (h1),?_⟩;(try (refine sGb ?_)))
 (refine ⟨by kernel_rfl,_,.pure rfl (p2),?_⟩;(try (refine sGb ?_)))
 (refine ⟨by kernel_rfl,_,.pure rfl (h2),?_⟩;(try (refine sGb ?_)))
 (refine ⟨by kernel_rfl,_,.pure rfl (hc),?_⟩;(try (refine sGb ?_));(repeat refine aI ?_))
 (refine hK _ ?_;clear hK K)
 ((refine W_seqD mixed [] (by kernel_rfl) ?_);intro K hK;(refine sGb ?_))
 (refine ⟨by kernel_rfl,_,.pure rfl (hd),?_⟩;(try (refine sGb ?_)))
 (refine ⟨by kernel_rfl,_,.pure rfl (hmd),?_⟩;(try (refine sGb ?_)))
 (refine hK _ ?_;clear hK K)
 refine W_ret ?_
 (refine qG ?_;try exact True.intro);try (refine sGbV ?_;try exact True.intro)
theorem qneg_ok {q:Rat} (h:(qr q).ok):(qr (-q)).ok:=⟨limbs_limbs _,limbs_limbs _,by have:=h.nl;simp only [qr] at this ⊢;rwa [Rat.neg_num,Int.natAbs_neg],h.dl⟩
theorem mkRat_neg_q (q:Rat):mkRat (-q.num) q.den = -q:=by
 rw [← Rat.neg_mkRat,Rat.mkRat_self]
set_option maxHeartbeats 4000000 in
theorem f3neg_ok (r:RR) (hr:r.ok):Pure Tryz.prog 114 [r.av] (·=cQ (-r.v)):=by
 have hn:=f3norm_ok r hr
 have ho:=v_ok hr
 obtain ⟨neg,n,d⟩:=r
 simp only [RR.av] at hn ⊢
 generalize RR.v _=q at *
 have h1:=f2neg_ok (decide (q.num<0)) (limbs q.num.natAbs) (limbs_limbs _) (Nat.lt_trans ho.nl (by decide))
 rw [q_num] at h1
 have hmd:=f3norm_zd (-q.num) q.den (by rw [zl_neg];exact Nat.lt_trans ho.nl (by decide)) (Nat.lt_trans ho.dl (by decide))
 rw [mkRat_neg_q] at hmd
 simp only [cQ] at hn
 (refine pureW Tryz.func114 rfl (rs:=[Go.ResultVar.cell 2 39]) rfl (n:=12) rfl ?_;simp only [List.length_cons,List.length_nil,List.replicate,List.cons_append,List.nil_append])
 (refine aGb ?_)
 ((refine W_seqV ?_);intro K hK;(refine sGb ?_))
 (refine ⟨by kernel_rfl,_,.pure rfl (hn),?_⟩;(try (refine sGb ?_)))
 (refine hK _ ?_;clear hK K)
 ((refine W_seqD mixed [] (by kernel_rfl) ?_);intro K hK;(refine sGb ?_))
 (refine ⟨by kernel_rfl,_,.pure rfl (h1),?_⟩;(try (refine sGb ?_)))
 (refine ⟨by kernel_rfl,_,.pure rfl (hmd),?_⟩;(try (refine sGb ?_)))
 (refine hK _ ?_;clear hK K)
 refine W_ret ?_
 (refine qG ?_;try exact True.intro);try (refine sGbV ?_;try exact True.intro)
set_option maxHeartbeats 4000000 in
theorem f3sub_ok (r t:RR) (hr:r.ok) (ht:t.ok):Pure Tryz.prog 63 [r.av,t.av] (·=cQ (r.v-t.v)):=by
 have hn:=f3neg_ok t ht
 have ha:=f3add_ok r (qr (-t.v)) hr (qneg_ok (v_ok ht))
 rw [qr_v,← Rat.sub_eq_add_neg] at ha
 obtain ⟨neg,n,d⟩:=r
 obtain ⟨neg',n',d'⟩:=t
 simp only [RR.av,qr] at hn ha ⊢
 simp only [cQ] at hn
 (refine pureW Tryz.func63 rfl (rs:=[Go.ResultVar.cell 4 39]) rfl (n:=9) rfl ?_;simp only [List.length_cons,List.length_nil,List.replicate,List.cons_append,List.nil_append])
 ((refine W_seqV ?_);intro K hK;(refine sGb ?_))
 (refine hK _ ?_;clear hK K)
 ((refine W_seqD mixed [] (by kernel_rfl) ?_);intro K hK;(refine sGb ?_))
 (refine ⟨by kernel_rfl,_,.pure rfl (hn),?_⟩;(try (refine sGb ?_)))
 (refine ⟨by kernel_rfl,_,.pure rfl (ha),?_⟩;(try (refine sGb ?_)))
 (refine hK _ ?_;clear hK K)
 refine W_ret ?_
 (refine qG ?_;try exact True.intro);try (refine sGbV ?_;try exact True.intro)
set_option maxHeartbeats 4000000 in
theorem f3sign_ok (r:RR) (hr:r.ok):Pure Tryz.prog 19 [r.av] (· = .int .i64 (rs r.v)):=by
 have hn:=f3norm_ok r hr
 have ho:=v_ok hr
 obtain ⟨neg,n,d⟩:=r
 simp only [RR.av] at hn ⊢
 generalize RR.v _=q at *
 have hs:=f2sign_ok (decide (q.num<0)) (limbs q.num.natAbs) (limbs_limbs _) (Nat.lt_trans ho.nl (by decide))
 rw [q_num] at hs
 change Pure _ _ _ (· = .int .i64 (rs q)) at hs
 simp only [cQ] at hn
 (refine pureW Tryz.func19 rfl (rs:=[Go.ResultVar.tmp 2]) rfl (n:=7) rfl ?_;simp only [List.length_cons,List.length_nil,List.replicate,List.cons_append,List.nil_append])
 (refine aGb ?_)
 ((refine W_seqV ?_);intro K hK;(refine sGb ?_))
 (refine ⟨by kernel_rfl,_,.pure rfl (hn),?_⟩;(try (refine sGb ?_)))
 (refine ⟨by kernel_rfl,_,.pure rfl (hs),?_⟩;(try (refine sGb ?_)))
 (refine hK _ ?_;clear hK K)
 refine W_ret ?_
 (refine qG ?_;try exact True.intro);try (refine sGbV ?_;try exact True.intro)
set_option maxHeartbeats 1000000 in
theorem f3whole_ok (n:Int) (h1 : -9223372036854775808≤n) (h2:n<9223372036854775808):Pure Tryz.prog 42 [.int .i64 n] (·=cQ n):=by
 have hw:=f2of_ok n h1 h2
 have hm:=f3norm_zd n 1 (by have:(limbs n.natAbs).length≤2:=len_le (by omega);unfold zl;omega) (by rw [limbs_1];simp)
 rw [show mkRat n 1=(n:Rat) by rw [← Rat.mkRat_self (n:Rat)];rfl,limbs_1] at hm
 (refine pureW Tryz.func42 rfl (rs:=[Go.ResultVar.cell 2 39]) rfl (n:=8) rfl ?_;simp only [List.length_cons,List.length_nil,List.replicate,List.cons_append,List.nil_append])
 (refine aGb ?_)
 ((refine W_seqV ?_);intro K hK;(refine sGb ?_))
 (refine ⟨by kernel_rfl,_,.pure rfl (hw),?_⟩;(try (refine sGb ?_));(repeat refine aI ?_))
 (refine ⟨by kernel_rfl,_,.pure rfl (hm),?_⟩;(try (refine sGb ?_)))
 (refine hK _ ?_;clear hK K)
 refine W_ret ?_
 (refine qG ?_;try exact True.intro);try (refine sGbV ?_;try exact True.intro)
def rowR (r:RR):List AV:=[.bool r.neg,.sl (u32s r.num),.sl (u32s r.den)]
def rowS (s:ByteArray):List AV:=[.str s]
instance:Inhabited ByteArray:=⟨ByteArray.empty⟩
def zeroR:RR:=⟨false,[],[]⟩
theorem zeroR_ok:zeroR.ok:=⟨fun _ h=>(by cases h),fun _ h=>(by cases h),(by decide),(by decide)⟩
theorem zeroR_v:zeroR.v=0:=by simp [zeroR,RR.v,val]
theorem sLa {G G':Prop} (h:G') (e:G=G':=by conv=>lhs;simp (disch:=omega) only [rowsOf,cNat,cN,St.ret,St.seth,Eff.app,Eff.wi,sepL,guardOf,St.known,objOf,List.set,sliceW,litW,copyW,lenOf,bnd,mxOk,ofCells,TI.isAgg,cellsOf,storable,AV.one,dead,laid,overlay,reduceCtorEq,Int.reduceLE,Int.reduceLT,Int.reduceSub,Int.reduceAdd,Nat.reduceMul,Int.reduceToNat,Nat.reducePow,Int.reduceNeg,Nat.reduceAdd,Nat.reduceLT,Nat.reduceLeDiff,sA,sB,cQ,rowQ,pos_succ,drop_one,tab_getD_zero,List.take_length,List.length_append,tab_length,tab_drop,tab_take,tab_append,tab_snoc,tab_nil,rowQ_all,rowQ_one,rowQ_pure,sT]):G:=e.mpr h
theorem sLaV {G G':Prop} (h:G') (e:G=G':=by conv=>lhs;simp (disch:=omega) only [rowsOf,cNat,cN,St.ret,St.seth,Eff.app,Eff.wi,sepL,guardOf,St.known,objOf,List.set,sliceW,litW,copyW,lenOf,bnd,mxOk,ofCells,TI.isAgg,cellsOf,storable,AV.one,dead,laid,overlay,reduceCtorEq,Int.reduceLE,Int.reduceLT,Int.reduceSub,Int.reduceAdd,Nat.reduceMul,Int.reduceToNat,Nat.reducePow,Int.reduceNeg,Nat.reduceAdd,Nat.reduceLT,Nat.reduceLeDiff,sA,sB,cQ,rowQ,pos_succ,drop_one,tab_getD_zero,List.take_length,List.length_append,tab_length,tab_drop,tab_take,tab_append,tab_snoc,tab_nil,rowQ_all,rowQ_one,rowQ_pure,sT,view_sref,viewRef,view_agg,views_cons,views_nil,view_bool,view_int,view_sl,view_nils,view_str,view_tup,view_nilif]):G:=e.mpr h
theorem aLa {G G':Prop} (h:G') (f:Wr G'→G:=by intro h;(repeat (first|(refine W_seqV fun K hK=>?_;(try (refine sLa ?_;try exact True.intro));(repeat refine aI ?_);refine hK _ ?_;clear hK K)|(refine W_seqR fun K hK=>?_;(try (refine sLa ?_;try exact True.intro));(repeat refine aI ?_);refine hK _ ?_;clear hK K)|(refine W_seqD mixed [] (by kernel_rfl) fun K hK=>?_;(try (refine sLa ?_;try exact True.intro));(repeat refine aI ?_);refine hK _ ?_;clear hK K)));exact h.out):G:=f ⟨h⟩
def cmpV (a b:Int):Int:=if a<b then -1 else if b<a then 1 else 0
set_option maxHeartbeats 1000000 in
theorem byVar_ok (p q:Int × RR):Pure Tryz.prog 202 [.agg (rowM p),.agg (rowM q)] (· = .int .i64 (cmpV p.1 q.1)):=by
 obtain ⟨v,a⟩:=p
 obtain ⟨w,b⟩:=q
 (refine pureW Tryz.func202 rfl (rs:=[Go.ResultVar.tmp 4]) rfl (n:=17) rfl ?_;simp only [List.length_cons,List.length_nil,List.replicate,List.cons_append,List.nil_append])
 simp only [rowM]
 (repeat' (first | refine W_block ?_ | (refine W_seqV fun K hK=>?_;(try (refine sLa ?_));refine hK _ ?_;clear hK K) | refine W_skip ?_ | (refine W_ret ?_;(refine qG ?_)) | (refine W_cond rfl (fun h=>?_) (fun h=>?_) <;> (try simp only [cond_true,cond_false,ne_eq,cB] at h)) | refine W_seq ?_))
 all_goals (congr 1;unfold cmpV;(repeat split) <;> omega)
theorem rs_ne (q:Rat):(q.num.sign != 0)=decide (q≠0):=by
 by_cases h:q=0
 ·subst h;rfl
 ·rw [decide_eq_true h,bne_iff_ne]
  intro h0
  exact h (Rat.num_eq_zero.1 (Int.sign_eq_zero_iff_zero.1 h0))
set_option maxHeartbeats 1000000 in
theorem together_ok (p q:Int × Rat) (hp:(qr p.2).ok) (hq:(qr q.2).ok) (hs:(qr (p.2+q.2)).ok) :
  Pure Tryz.prog 203 [.agg (rowQ p),.agg (rowQ q)] (· = .tup [.agg (rowQ (p.1,p.2+q.2)),.bool (decide (p.2+q.2≠0))]):=by
 have ha:=radd_ok (qr p.2) (qr q.2) hp hq
 rw [qr_v,qr_v] at ha
 have hg:=rsign_ok (qr (p.2+q.2)) hs
 rw [qr_v] at hg
 have hne:=rs_ne (p.2+q.2)
 obtain ⟨v,a⟩:=p
 obtain ⟨w,b⟩:=q
 dsimp only at *
 simp only [RR.av,qr] at ha hg
 rw [← hne]
 (refine pureW Tryz.func203 rfl (rs:=[Go.ResultVar.cell 4 123,Go.ResultVar.tmp 5]) rfl (n:=19) rfl ?_;simp only [List.length_cons,List.length_nil,List.replicate,List.cons_append,List.nil_append])
 unfold rowQ
 ((refine W_seqV ?_);intro K hK;(refine sLa ?_))
 (refine hK _ ?_;clear hK K)
 ((refine W_seqV ?_);intro K hK;(refine sLa ?_))
 (refine ⟨by kernel_rfl,_,.pure rfl (ha),?_⟩;(try (refine sLa ?_)))
 (refine hK _ ?_;clear hK K)
 ((refine W_seqD mixed [(4,7)] (by kernel_rfl) ?_);intro K hK;(refine sLa ?_))
 (refine ⟨by kernel_rfl,_,.pure rfl (hg),?_⟩;(try (refine sLa ?_));(repeat refine aI ?_))
 (refine hK _ ?_;clear hK K)
 refine W_ret ?_
 (refine qG ?_;try exact True.intro);try (refine sLaV ?_;try exact True.intro)
theorem byVar_q (p q:Int × Rat):Pure Tryz.prog 202 [.agg (rowQ p),.agg (rowQ q)] (· = .int .i64 (cmpV p.1 q.1)):=byVar_ok (p.1,qr p.2) (q.1,qr q.2)
structure Mg (f g f' g' out:List (Int × Rat)):Prop where
 eq:out++mergeF f' g'=mergeF f g
 nb:∀ v,nbv out v+nbv f' v+nbv g' v≤nbv f v+nbv g v
 len:out.length+f'.length+g'.length≤f.length+g.length
set_option maxHeartbeats 4000000 in
theorem merge_new (f g:List (Int × Rat)) {B:Nat} (h:Sz (f++g) B) (hB:B<17179869184) :
  New Tryz.prog 201 [cL f,cL g,.fn (.func 202) [] [],.fn (.func 203) [] []] 123 4 (·=tab rowQ (mergeF f g)):=by
 (refine new_of_W (T:=123) (k:=4) Tryz.func201 rfl (rs:=[Go.ResultVar.tmp 8]) rfl (nt:=76) rfl ?_;simp only [List.length_cons,List.length_nil,List.replicate,List.cons_append,List.nil_append])
 simp only [cL]
 (refine aLa ?_)
 refine W.le ?_ (Le_nil 9 9 123 4 true rfl rfl)
 simp only [List.set]
 refine W_seq (W_block (W_loop (fun t:{t:List (Int × Rat) × List (Int × Rat) × List (Int × Rat) // Mg f g t.1 t.2.1 t.2.2} =>
   ((fun (a_:AV) (d_:Ob)=>(⟨((cL t.1.1)::(cL t.1.2.1)::(.fn (.func 202) [] [])::(.fn (.func 203) [] [])::a_::a_::a_::a_::a_::(.sref 9 0 t.1.2.2.length)::a_::a_::a_::a_::a_::a_::a_::a_::a_::a_::a_::a_::a_::a_::a_::a_::a_::a_::a_::a_::a_::a_::a_::a_::a_::a_::a_::a_::a_::a_::a_::a_::a_::a_::a_::a_::a_::a_::a_::a_::a_::a_::a_::a_::a_::a_::a_::a_::a_::a_::a_::a_::a_::a_::a_::a_::a_::a_::a_::a_::a_::a_::a_::a_::a_::a_::[]),(d_::d_::d_::d_::d_::d_::d_::d_::d_::(.arr 123 4 true (tab rowQ t.1.2.2))::d_::d_::d_::d_::d_::d_::d_::d_::d_::d_::d_::d_::d_::d_::d_::d_::d_::d_::d_::d_::d_::d_::d_::d_::d_::d_::d_::d_::d_::d_::d_::d_::d_::d_::d_::d_::d_::d_::d_::d_::d_::d_::d_::d_::d_::d_::d_::d_::d_::d_::d_::d_::d_::d_::d_::d_::d_::d_::d_::d_::d_::d_::d_::d_::d_::d_::[])⟩:St)) .any .dead)) (fun t=>t.1.1.length+t.1.2.1.length)
   ⟨(f,g,[]),⟨rfl,by simp [nbv],by simp⟩⟩ (Le_of (by simp [leE,cL]) rfl) fun t=>?_))
 obtain ⟨⟨f',g',out⟩,hM⟩:=t
 dsimp only at hM ⊢
 have hll:=hM.len
 have hnb:=hM.nb
 have hle:f.length+g.length≤B:=by have:=h.l;rwa [List.length_append] at this
 have hbv:∀ v,nbv f v+nbv g v≤B:=fun v=>by have:=h.b v;rwa [nbv_append] at this
 simp only [cL]
 rcases f' with _ | ⟨p,f'⟩
 ·refine W_seq ?_
  ((refine W_seqV ?_);intro K hK;(refine sLa ?_))
  (refine hK _ ?_;clear hK K)
  (refine W_cf rfl ?_)
  refine W_exit ?_
  simp only [thenW,blockW,if_true]
  have heq:=hM.eq
  rw [mergeF_nil_left] at heq
  ((refine W_seqR ?_);intro K hK;(refine sLa ?_))
  (repeat refine aI ?_);refine hK _ ?_;clear hK K
  refine W_ret ?_
  (refine qG ?_;try exact True.intro)
  exact ⟨_,by simp,by simp [tab_length],rfl,by rw [← heq]⟩
 rcases g' with _ | ⟨q,g'⟩
 ·refine W_seq ?_
  ((refine W_seqV ?_);intro K hK;(refine sLa ?_))
  (refine hK _ ?_;clear hK K)
  (refine W_cf rfl ?_)
  refine W_exit ?_
  simp only [thenW,blockW,if_true]
  have heq:=hM.eq
  rw [mergeF_nil_right] at heq
  simp only [List.length_cons] at hll
  ((refine W_seqR ?_);intro K hK;(refine sLa ?_))
  (repeat refine aI ?_);refine hK _ ?_;clear hK K
  refine W_ret ?_
  (refine qG ?_;try exact True.intro)
  exact ⟨_,by simp,by simp [tab_length],rfl,by rw [← heq,List.take_of_length_le (by simp)]⟩
 have hc:=byVar_q p q
 simp only [rowQ] at hc
 have hnp:nb p.2≤nbv (p::f') p.1:=nbv_mem List.mem_cons_self
 have hnq:nb q.2≤nbv (q::g') q.1:=nbv_mem List.mem_cons_self
 have hnp2:=hnb p.1
 have hnq2:=hnb q.1
 have hbp:=hbv p.1
 have hbq:=hbv q.1
 simp only [List.length_cons] at hll
 have hmc:=mergeF_cons p f' q g'
 have heq:=hM.eq
 have hsn:∀ (r:Int × Rat) (v:Int),nbv (out++[r]) v=nbv out v+(if r.1=v then nb r.2 else 0):=fun r v=>by rw [nbv_append];simp [nbv]
 refine W_seq ?_
 ((refine W_seqV ?_);intro K hK;(refine sLa ?_))
 (refine hK _ ?_;clear hK K)
 (refine W_ct rfl ?_)
 refine W_skip ?_
 simp only [thenW]
 refine W_block ?_
 ((refine W_seqD mixed [] (by kernel_rfl) ?_);intro K hK;(refine sLa ?_))
 (refine ⟨by kernel_rfl,_,.pure rfl (hc),?_⟩;(try (refine sLa ?_)))
 (refine hK _ ?_;clear hK K)
 refine W_block ?_
 refine W_seq ?_
 ((refine W_regV ?_);intro K hK;(refine sLa ?_))
 (refine hK _ ?_;clear hK K)
 rcases Int.lt_trichotomy p.1 q.1 with hlt | hee | hgt
 ·have hcv:cmpV p.1 q.1 = -1:=by simp [cmpV,hlt]
  rw [hcv]
  (refine W_ct rfl ?_)
  ((refine W_seqR ?_);intro K hK;(refine sLa ?_))
  (repeat refine aI ?_);refine hK _ ?_;clear hK K
  ((refine W_regV ?_);intro K hK;(refine sLa ?_))
  (repeat refine aI ?_);refine hK _ ?_;clear hK K
  simp only [blockW,thenW]
  rw [if_pos hlt] at hmc
  refine ⟨⟨(f',q::g',out++[p]),⟨?_,?_,?_⟩⟩,Le_drop (by simp [leE,cL]) (by simp [leH,← tab_snoc,rowQ]) rfl rfl,?_⟩
  ·rw [← heq,hmc];simp
  ·intro v;have:=hnb v;rw [hsn];simp only [nbv] at *;omega
  ·simp only [List.length_append,List.length_cons,List.length_nil];omega
  ·simp
 ·have hcv:cmpV p.1 q.1=0:=by simp [cmpV,hee]
  rw [hcv]
  rw [if_neg (by omega),if_neg (by omega)] at hmc
  have hadd:=nb_add p.2 q.2
  have hnq':nb q.2≤nbv (q::g') p.1:=by rw [hee];exact hnq
  have ht:=together_ok p q (qr_ok (by omega)) (qr_ok (by omega)) (qr_ok (by omega))
  simp only [rowQ] at ht
  (refine W_cf rfl ?_)
  refine W_seq ?_
  ((refine W_regV ?_);intro K hK;(refine sLa ?_))
  (refine hK _ ?_;clear hK K)
  (refine W_cf rfl ?_)
  refine W_seq ?_
  ((refine W_seqD mixed [(2,11),(3,11),(5,11),(6,11)] (by kernel_rfl) ?_);intro K hK;(refine sLa ?_))
  (refine ⟨by kernel_rfl,_,.pure rfl (ht),?_⟩;(try (refine sLa ?_));(repeat refine aI ?_))
  (refine hK _ ?_;clear hK K)
  by_cases h0:p.2+q.2=0
  ·rw [if_pos h0] at hmc
   have hz:decide (p.2+q.2≠0)=false:=by simp [h0]
   rw [hz]
   ((refine W_seqV ?_);intro K hK;(refine sLa ?_))
   (refine hK _ ?_;clear hK K)
   (refine W_cf rfl ?_)
   refine W_skip ?_
   simp only [thenW]
   (refine W_regD mixed [] (by kernel_rfl) fun K hK=>?_;(refine sLa ?_;try exact True.intro))
   (repeat refine aI ?_);refine hK _ ?_;clear hK K
   simp only [blockW,thenW]
   refine ⟨⟨(f',g',out),⟨?_,?_,?_⟩⟩,Le_drop (by simp [leE,cL]) (by simp [leH]) rfl rfl,?_⟩
   ·rw [← heq,hmc]
   ·intro v;have:=hnb v;simp only [nbv] at *;omega
   ·dsimp only;omega
   ·dsimp only [List.length_cons];omega
  ·rw [if_neg h0] at hmc
   have hz:decide (p.2+q.2≠0)=true:=by simp [h0]
   rw [hz]
   ((refine W_seqV ?_);intro K hK;(refine sLa ?_))
   (refine hK _ ?_;clear hK K)
   (refine W_ct rfl ?_)
   (refine W_regR fun K hK=>?_;(refine sLa ?_;try exact True.intro))
   (repeat refine aI ?_);refine hK _ ?_;clear hK K
   simp only [thenW]
   (refine W_regD mixed [] (by kernel_rfl) fun K hK=>?_;(refine sLa ?_;try exact True.intro))
   (repeat refine aI ?_);refine hK _ ?_;clear hK K
   simp only [blockW,thenW]
   refine ⟨⟨(f',g',out++[(p.1,p.2+q.2)]),⟨?_,?_,?_⟩⟩,Le_drop (by simp [leE,cL]) (by simp [leH,← tab_snoc,rowQ]) rfl rfl,?_⟩
   ·rw [← heq,hmc];simp
   ·intro v;have:=hnb v;rw [hsn];simp only [nbv] at *;rw [hee] at *;split <;> simp_all <;> omega
   ·simp only [List.length_append,List.length_cons,List.length_nil];omega
   ·dsimp only [List.length_cons];omega
 ·have hcv:cmpV p.1 q.1=1:=by rw [cmpV,if_neg (by omega),if_pos hgt]
  rw [hcv]
  (refine W_cf rfl ?_)
  refine W_seq ?_
  ((refine W_regV ?_);intro K hK;(refine sLa ?_))
  (refine hK _ ?_;clear hK K)
  (refine W_ct rfl ?_)
  ((refine W_seqR ?_);intro K hK;(refine sLa ?_))
  (repeat refine aI ?_);refine hK _ ?_;clear hK K
  ((refine W_regV ?_);intro K hK;(refine sLa ?_))
  (repeat refine aI ?_);refine hK _ ?_;clear hK K
  simp only [blockW,thenW]
  rw [if_neg (by omega),if_pos hgt] at hmc
  refine ⟨⟨(p::f',g',out++[q]),⟨?_,?_,?_⟩⟩,Le_drop (by simp [leE,cL]) (by simp [leH,← tab_snoc,rowQ]) rfl rfl,?_⟩
  ·rw [← heq,hmc];simp
  ·intro v;have:=hnb v;rw [hsn];simp only [nbv] at *;omega
  ·simp only [List.length_append,List.length_cons,List.length_nil];omega
  ·simp
set_option maxHeartbeats 1000000 in
theorem sum_new (f g:List (Int × Rat)) {B:Nat} (h:Sz (f++g) B) (hB:B<17179869184):New Tryz.prog 150 [cL f,cL g] 123 4 (·=tab rowQ (mergeF f g)):=by
 have hm:=merge_new f g h hB
 (refine new_of_W (T:=123) (k:=4) Tryz.func150 rfl (rs:=[Go.ResultVar.tmp 4]) rfl (nt:=8) rfl ?_;simp only [List.length_cons,List.length_nil,List.replicate,List.cons_append,List.nil_append])
 simp only [cL] at hm ⊢
 (refine aLa ?_)
 (refine W_seqR fun K hK=>?_;(refine sLa ?_;try exact True.intro))
 refine ⟨by kernel_rfl,?_⟩
 refine call_new 7 rfl rfl hm fun rows hr=>?_
 subst hr
 (refine sLa ?_;try exact True.intro)
 (refine hK _ ?_;clear hK K)
 refine W_ret ?_
 (refine qG ?_;try exact True.intro)
 exact ⟨tab rowQ (mergeF f g),by simp [tab_length],by simp [tab_length],rfl,rfl⟩
theorem sLb {G G':Prop} (h:G') (e:G=G':=by conv=>lhs;simp (disch:=omega) only [rowsOf,cNat,cN,St.ret,St.seth,Eff.app,Eff.wi,sepL,guardOf,St.known,objOf,List.set,sliceW,litW,copyW,lenOf,bnd,mxOk,ofCells,TI.isAgg,cellsOf,storable,AV.one,dead,laid,overlay,reduceCtorEq,Int.reduceLE,Int.reduceLT,Int.reduceSub,Int.reduceAdd,Nat.reduceMul,Int.reduceToNat,Nat.reducePow,Int.reduceNeg,Nat.reduceAdd,Nat.reduceLT,Nat.reduceLeDiff,sA,sB,cQ,rowQ,rowM,tab_length,tab_getD_zero,List.take_length,List.length_append,tab_drop,tab_take,tab_append,tab_nil,rowQ_all,rowQ_one,rowQ_pure,rowM_all,rowM_one,rowM_pure,sT]):G:=e.mpr h
theorem sLbX {G G' P:Prop} (p:P) (h:G') (e:P→G=G':=by intro p;conv=>lhs;simp (disch:=omega) only [rowsOf,cNat,cN,St.ret,St.seth,Eff.app,Eff.wi,sepL,guardOf,St.known,objOf,List.set,sliceW,litW,copyW,lenOf,bnd,mxOk,ofCells,TI.isAgg,cellsOf,storable,AV.one,dead,laid,overlay,reduceCtorEq,Int.reduceLE,Int.reduceLT,Int.reduceSub,Int.reduceAdd,Nat.reduceMul,Int.reduceToNat,Nat.reducePow,Int.reduceNeg,Nat.reduceAdd,Nat.reduceLT,Nat.reduceLeDiff,sA,sB,cQ,rowQ,rowM,tab_length,tab_getD_zero,List.take_length,List.length_append,tab_drop,tab_take,tab_append,tab_nil,rowQ_all,rowQ_one,rowQ_pure,rowM_all,rowM_one,rowM_pure,sT,p]):G:=(e p).mpr h
theorem aLb {G G':Prop} (h:G') (f:Wr G'→G:=by intro h;(repeat (first|(refine W_seqV fun K hK=>?_;(try (refine sLb ?_;try exact True.intro));(repeat refine aI ?_);refine hK _ ?_;clear hK K)|(refine W_seqR fun K hK=>?_;(try (refine sLb ?_;try exact True.intro));(repeat refine aI ?_);refine hK _ ?_;clear hK K)|(refine W_seqD mixed [] (by kernel_rfl) fun K hK=>?_;(try (refine sLb ?_;try exact True.intro));(repeat refine aI ?_);refine hK _ ?_;clear hK K)));exact h.out):G:=f ⟨h⟩
structure FOk (f:List (Int × RR)) (B:Nat):Prop where
 ok:∀ p∈f,p.2.ok
 sz:Sz (vals f) B
theorem vals_length (f:List (Int × RR)):(vals f).length=f.length:=by simp [vals]
theorem vals_append (f g:List (Int × RR)):vals (f++g)=vals f++vals g:=by simp [vals]
theorem FOk.len {f:List (Int × RR)} {B:Nat} (h:FOk f B):f.length≤B:=by
 have:=h.sz.l
 rwa [vals_length] at this
theorem FOk.take {f:List (Int × RR)} {B:Nat} (h:FOk f B) (n:Nat):FOk (f.take n) B:=by
 refine ⟨fun p hp=>h.ok p (List.mem_of_mem_take hp),?_⟩
 have h1:=h.sz
 rw [← List.take_append_drop n f,vals_append] at h1
 exact h1.left
theorem FOk.drop {f:List (Int × RR)} {B:Nat} (h:FOk f B) (n:Nat):FOk (f.drop n) B:=by
 refine ⟨fun p hp=>h.ok p (List.mem_of_mem_drop hp),?_⟩
 have h1:=h.sz
 rw [← List.take_append_drop n f,vals_append] at h1
 exact h1.right
theorem FOk.rf {l:List (Int × Rat)} {B:Nat} (h:Sz l B) (hB:B<17179869184):FOk (rf l) B:=by
 refine ⟨fun p hp=>?_,by rw [vals_rf];exact h⟩
 simp only [Vm.rf,List.mem_map] at hp
 obtain ⟨q,hq,rfl⟩:=hp
 exact qr_ok (Nat.lt_of_le_of_lt (h.mem hq) hB)
theorem rs_eq (q:Rat):(q.num.sign == 0)=decide (q=0):=by
 by_cases h:q=0
 ·subst h;rfl
 ·rw [decide_eq_false h,beq_eq_false_iff_ne]
  intro h0
  exact h (Rat.num_eq_zero.1 (Int.sign_eq_zero_iff_zero.1 h0))
theorem half_lt {n:Nat} (h:2≤n):n / 2<n∧0<n / 2:=by omega
set_option maxHeartbeats 4000000 in
theorem lnorm_new (f:List (Int × RR)) {B:Nat} (h:FOk f B) (hB:B<17179869184):New Tryz.prog 78 [cF f] 123 4 (·=tab rowQ (normF (vals f))):=by
 induction hn:f.length using Nat.strongRecOn generalizing f with
 | _ n ih =>
  have hlen:=h.len
  match f,hn with
  | [],_ =>
   (refine new_of_W (T:=123) (k:=4) Tryz.func78 rfl (rs:=[Go.ResultVar.tmp 2]) rfl (nt:=39) rfl ?_;simp only [List.length_cons,List.length_nil,List.replicate,List.cons_append,List.nil_append])
   simp only [cF]
   (repeat' (first | (exfalso;simp at h;done) | refine W_block ?_ | (refine W_seqV fun K hK=>?_;(try (refine sLb ?_));refine hK _ ?_;clear hK K) | (refine W_ret ?_;(refine qG ?_)) | (refine W_cond rfl (fun h=>?_) (fun h=>?_) <;> (try simp only [cond_true,cond_false,ne_eq,cB] at h)) | refine W_seq ?_))
   rfl
  | [p],hn =>
   have hg:=rsign_ok p.2 (h.ok p List.mem_cons_self)
   have hm:=rnorm_ok p.2 (h.ok p List.mem_cons_self)
   obtain ⟨v,r⟩:=p
   have heq:=rs_eq r.v
   simp only [RR.av] at hg hm
   try dsimp only at hg hm heq
   by_cases h0:r.v=0
   ·rw [decide_eq_true h0] at heq
    have hv:vals [(v,r)]=[(v,0)]:=by simp [vals,h0]
    have hnn:normF [(v,(0:Rat))]=[]:=by simp [normF,mergeF]
    rw [hv,hnn]
    (refine new_of_W (T:=123) (k:=4) Tryz.func78 rfl (rs:=[Go.ResultVar.tmp 2]) rfl (nt:=39) rfl ?_;simp only [List.length_cons,List.length_nil,List.replicate,List.cons_append,List.nil_append])
    simp only [cF]
    (refine aLb ?_)
    refine W_seq ?_
    ((refine W_seqV ?_);intro K hK;(refine sLb ?_))
    (refine hK _ ?_;clear hK K)
    refine W_block ?_
    refine W_seq ?_
    ((refine W_regV ?_);intro K hK;(refine sLb ?_))
    (refine hK _ ?_;clear hK K)
    (refine W_cf rfl ?_)
    refine W_seq ?_
    ((refine W_regV ?_);intro K hK;(refine sLb ?_))
    (refine hK _ ?_;clear hK K)
    (refine W_ct rfl ?_)
    refine W_seq ?_
    refine W_seq ?_
    ((refine W_regV ?_);intro K hK;(refine sLb ?_))
    (refine ⟨by kernel_rfl,_,.pure rfl (hg),?_⟩;(try (refine sLb ?_)))
    (refine sLbX heq ?_;try exact True.intro)
    (refine hK _ ?_;clear hK K)
    (refine W_ct rfl ?_)
    ((refine W_seqV ?_);intro K hK;(refine sLb ?_))
    (refine hK _ ?_;clear hK K)
    refine W_ret ?_
    (refine qG ?_;try exact True.intro)
    try rfl
   ·rw [decide_eq_false h0] at heq
    have hv:normF (vals [(v,r)])=[(v,r.v)]:=by simp [vals,normF,mergeF,h0]
    rw [hv]
    (refine new_of_W (T:=123) (k:=4) Tryz.func78 rfl (rs:=[Go.ResultVar.tmp 2]) rfl (nt:=39) rfl ?_;simp only [List.length_cons,List.length_nil,List.replicate,List.cons_append,List.nil_append])
    simp only [cF]
    (refine aLb ?_)
    refine W_seq ?_
    ((refine W_seqV ?_);intro K hK;(refine sLb ?_))
    (refine hK _ ?_;clear hK K)
    refine W_block ?_
    refine W_seq ?_
    ((refine W_regV ?_);intro K hK;(refine sLb ?_))
    (refine hK _ ?_;clear hK K)
    (refine W_cf rfl ?_)
    refine W_seq ?_
    ((refine W_regV ?_);intro K hK;(refine sLb ?_))
    (refine hK _ ?_;clear hK K)
    (refine W_ct rfl ?_)
    refine W_seq ?_
    refine W_seq ?_
    ((refine W_regV ?_);intro K hK;(refine sLb ?_))
    (refine ⟨by kernel_rfl,_,.pure rfl (hg),?_⟩;(try (refine sLb ?_)))
    (refine sLbX heq ?_;try exact True.intro)
    (refine hK _ ?_;clear hK K)
    (refine W_cf rfl ?_)
    refine W_skip ?_
    simp only [thenW]
    ((refine W_seqS mixed 10 [] (by kernel_rfl) ?_);intro K hK;(refine sLb ?_))
    (refine ⟨by kernel_rfl,_,.pure rfl (hm),?_⟩;(try (refine sLb ?_)))
    (refine hK _ ?_;clear hK K)
    refine W_ret ?_
    (refine qG ?_;try exact True.intro)
    exact ⟨_,by simp,rfl,rfl,by simp [tab,rowQ]⟩
  | p::q::g,hn =>
   obtain ⟨l1,l2⟩:=half_lt (n:=(p::q::g).length) (by simp)
   generalize hfe:p::q::g=f at *
   have ht:=(ih (f.take (f.length / 2)).length (by rw [List.length_take];omega) (f.take (f.length / 2)) (h.take _) rfl).pure
   have hd:=(ih (f.drop (f.length / 2)).length (by rw [List.length_drop];omega) (f.drop (f.length / 2)) (h.drop _) rfl).pure
   have hv1:vals f=vals (f.take (f.length / 2))++vals (f.drop (f.length / 2)):=by
    simp only [vals];rw [← List.map_append,List.take_append_drop]
   have hsz:=h.sz
   rw [hv1] at hsz
   have hsz2:Sz (normF (vals (f.take (f.length / 2)))++normF (vals (f.drop (f.length / 2)))) B:=by
    refine ⟨fun v=>?_,?_⟩
    ·have h1:=hsz.b v
     rw [nbv_append] at h1 ⊢
     have:=nbv_norm v (vals (f.take (f.length / 2)))
     have:=nbv_norm v (vals (f.drop (f.length / 2)))
     omega
    ·have h1:=hsz.l
     rw [List.length_append] at h1 ⊢
     have:=len_norm (vals (f.take (f.length / 2)))
     have:=len_norm (vals (f.drop (f.length / 2)))
     omega
   have hs:=sum_new _ _ hsz2 hB
   rw [norm_split,← hv1] at hs
   have h3:2≤f.length:=by rw [← hfe];simp
   clear hfe ih
   have ht':=ht.mono (R':=(·=cL (normF (vals (f.take (f.length / 2)))))) fun r hr=>by obtain ⟨rows,rfl,rfl⟩:=hr;rfl
   have hd':=hd.mono (R':=(·=cL (normF (vals (f.drop (f.length / 2)))))) fun r hr=>by obtain ⟨rows,rfl,rfl⟩:=hr;rfl
   (refine new_of_W (T:=123) (k:=4) Tryz.func78 rfl (rs:=[Go.ResultVar.tmp 2]) rfl (nt:=39) rfl ?_;simp only [List.length_cons,List.length_nil,List.replicate,List.cons_append,List.nil_append])
   simp only [cF,cL] at hs ht' hd' ⊢
   have z0:((f.length:Int) == 0)=false:=by rw [beq_eq_false_iff_ne];omega
   have z1:((f.length:Int) == 1)=false:=by rw [beq_eq_false_iff_ne];omega
   (refine aLb ?_)
   refine W_seq ?_
   ((refine W_seqV ?_);intro K hK;(refine sLb ?_))
   (refine hK _ ?_;clear hK K)
   refine W_block ?_
   refine W_seq ?_
   ((refine W_regV ?_);intro K hK;(refine sLbX z0 ?_))
   (refine hK _ ?_;clear hK K)
   (refine W_cf rfl ?_)
   refine W_seq ?_
   ((refine W_regV ?_);intro K hK;(refine sLbX z1 ?_))
   (refine hK _ ?_;clear hK K)
   (refine W_cf rfl ?_)
   refine W_skip ?_
   simp only [thenW,blockW]
   have hw:IntKind.wrap .i64 ((f.length:Int).tdiv 2)=((f.length / 2:Nat):Int):=by
    rw [show (f.length:Int).tdiv 2=((f.length / 2:Nat):Int) from rfl]
    exact wrap_i64_nat (by omega)
   ((refine W_seqV ?_);intro K hK;(refine sLbX hw ?_))
   (repeat refine aI ?_);refine hK _ ?_;clear hK K
   ((refine W_seqS mixed 8 [] (by kernel_rfl) ?_);intro K hK;(refine sLb ?_))
   ((repeat refine aI ?_);refine ⟨by kernel_rfl,_,.pure rfl (ht'),?_⟩;(try (refine sLb ?_));(repeat refine aI ?_))
   (refine ⟨by kernel_rfl,_,.pure rfl (hd'),?_⟩;(try (refine sLb ?_)))
   (refine ⟨by kernel_rfl,call_new 38 rfl rfl (hs) fun rows hr=>?_⟩;subst hr;(try (refine sLb ?_)))
   (refine hK _ ?_;clear hK K)
   refine W_ret ?_
   (refine qG ?_;try exact True.intro)
   exact ⟨tab rowQ (normF (vals f)),by simp,by simp [tab_length],rfl,rfl⟩
theorem lnorm_ok (f:List (Int × RR)) {B:Nat} (h:FOk f B) (hB:B<17179869184):Pure Tryz.prog 78 [cF f] (·=cL (normF (vals f))) :=
 (lnorm_new f h hB).pure.mono fun r h=>by obtain ⟨rows,rfl,rfl⟩:=h;rfl
def negF (l:List (Int × Rat)):List (Int × Rat):=scaleF (-1) l
theorem nb_m1:nb (-1)=2:=by decide
theorem nbv_neg (l:List (Int × Rat)) (v:Int):nbv (negF l) v=nbv l v:=by
 induction l with
 | nil=>rfl
 | cons p l ih =>
  simp only [negF,scaleF,List.map_cons,nbv] at *
  rw [ih,show (-1:Rat)*p.2 = -p.2 by grind,nb_neg]
def subF (f g:List (Int × Rat)):List (Int × Rat):=normF (f++negF (normF g))
theorem coef_sub (f g:List (Int × Rat)) (v:Int):coef (subF f g) v=coef f v-coef g v:=by
 rw [subF,coef_norm,coef_append,negF,coef_scale,coef_norm];grind
theorem ev2_sub (x:Int→Rat) (f g:List (Int × Rat)):ev2 x (subF f g)=ev2 x f-ev2 x g:=by
 rw [subF,ev2_norm,ev2_append,negF,ev2_scale,ev2_norm];grind
theorem NF.sub (f g:List (Int × Rat)):NF (subF f g):=NF.norm _
theorem Sz.neg {l:List (Int × Rat)} {B:Nat} (h:Sz l B):Sz (negF l) B:=⟨fun v=>by rw [nbv_neg];exact h.b v,by have:=h.l;simpa [negF,scaleF] using this⟩
theorem Sz.sub {f g:List (Int × Rat)} {B C:Nat} (hf:Sz f B) (hg:Sz g C):Sz (subF f g) (B+C):=(hf.append hg.norm.neg).norm
def cmpF (f g:List (Int × Rat)):Int:=match subF f g with | []=>0 | p::_=>p.2.num.sign
theorem sJa {G G':Prop} (h:G') (e:G=G':=by conv=>lhs;simp (disch:=omega) only [rowsOf,cNat,cN,St.ret,St.seth,Eff.app,Eff.wi,sepL,guardOf,St.known,objOf,List.set,sliceW,litW,copyW,lenOf,bnd,mxOk,ofCells,TI.isAgg,cellsOf,storable,AV.one,dead,laid,overlay,reduceCtorEq,Int.reduceLE,Int.reduceLT,Int.reduceSub,Int.reduceAdd,Nat.reduceMul,Int.reduceToNat,Nat.reducePow,Int.reduceNeg,Nat.reduceAdd,Nat.reduceLT,Nat.reduceLeDiff,sA,sB,cQ,rowM,tab_length,tab_getD_zero,List.take_length,List.length_append,tab_drop,tab_take,tab_append,tab_nil,rowM_all,rowM_one,rowM_pure,rowQ_all,rowQ_one,rowQ_pure,sT]):G:=e.mpr h
theorem sJaX {G G' P:Prop} (p:P) (h:G') (e:P→G=G':=by intro p;conv=>lhs;simp (disch:=omega) only [rowsOf,cNat,cN,St.ret,St.seth,Eff.app,Eff.wi,sepL,guardOf,St.known,objOf,List.set,sliceW,litW,copyW,lenOf,bnd,mxOk,ofCells,TI.isAgg,cellsOf,storable,AV.one,dead,laid,overlay,reduceCtorEq,Int.reduceLE,Int.reduceLT,Int.reduceSub,Int.reduceAdd,Nat.reduceMul,Int.reduceToNat,Nat.reducePow,Int.reduceNeg,Nat.reduceAdd,Nat.reduceLT,Nat.reduceLeDiff,sA,sB,cQ,rowM,tab_length,tab_getD_zero,List.take_length,List.length_append,tab_drop,tab_take,tab_append,tab_nil,rowM_all,rowM_one,rowM_pure,rowQ_all,rowQ_one,rowQ_pure,sT,p]):G:=(e p).mpr h
theorem sJaV {G G':Prop} (h:G') (e:G=G':=by conv=>lhs;simp (disch:=omega) only [rowsOf,cNat,cN,St.ret,St.seth,Eff.app,Eff.wi,sepL,guardOf,St.known,objOf,List.set,sliceW,litW,copyW,lenOf,bnd,mxOk,ofCells,TI.isAgg,cellsOf,storable,AV.one,dead,laid,overlay,reduceCtorEq,Int.reduceLE,Int.reduceLT,Int.reduceSub,Int.reduceAdd,Nat.reduceMul,Int.reduceToNat,Nat.reducePow,Int.reduceNeg,Nat.reduceAdd,Nat.reduceLT,Nat.reduceLeDiff,sA,sB,cQ,rowM,tab_length,tab_getD_zero,List.take_length,List.length_append,tab_drop,tab_take,tab_append,tab_nil,rowM_all,rowM_one,rowM_pure,rowQ_all,rowQ_one,rowQ_pure,sT,view_sref,viewRef,view_agg,views_cons,views_nil,view_bool,view_int,view_sl,view_nils,view_str,view_tup,view_nilif]):G:=e.mpr h
theorem aJa {G G':Prop} (h:G') (f:Wr G'→G:=by intro h;(repeat (first|(refine W_seqV fun K hK=>?_;(try (refine sJa ?_;try exact True.intro));(repeat refine aI ?_);refine hK _ ?_;clear hK K)|(refine W_seqR fun K hK=>?_;(try (refine sJa ?_;try exact True.intro));(repeat refine aI ?_);refine hK _ ?_;clear hK K)|(refine W_seqD mixed [] (by kernel_rfl) fun K hK=>?_;(try (refine sJa ?_;try exact True.intro));(repeat refine aI ?_);refine hK _ ?_;clear hK K)));exact h.out):G:=f ⟨h⟩
theorem f6zero_ok:Pure Tryz.prog 64 [] (·=cQ 0):=by
 have h1:=f3whole_ok 0 (by omega) (by omega)
 change Pure _ _ _ (·=cQ 0) at h1
 generalize (0:Rat)=q at *
 simp only [cQ] at h1
 (refine pureW Tryz.func64 rfl (rs:=[Go.ResultVar.cell 0 39]) rfl (n:=2) rfl ?_;simp only [List.length_cons,List.length_nil,List.replicate,List.cons_append,List.nil_append])
 (refine aJa ?_)
 ((refine W_seqV ?_);intro K hK;(refine sJa ?_))
 (refine ⟨by kernel_rfl,_,.pure rfl (h1),?_⟩;(try (refine sJa ?_)))
 (refine hK _ ?_;clear hK K)
 refine W_ret ?_
 (refine qG ?_;try exact True.intro);try (refine sJaV ?_;try exact True.intro)
theorem coef_take (v:Int) (f:List (Int × Rat)) {i:Nat} (h:i<f.length):coef (f.take (i+1)) v=coef (f.take i) v+if (f.getD i default).1=v then (f.getD i default).2 else 0:=by
 rw [List.take_succ_eq_append_getElem h,coef_append]
 have:f.getD i default=f[i]:=by simp [List.getD_eq_getElem?_getD,h]
 rw [this]
 simp only [coef]
 grind
theorem nb_coef (l:List (Int × Rat)) (v:Int):nb (coef l v)≤1+nbv l v:=by
 induction l with
 | nil=>simp [coef,nb_zero]
 | cons p l ih =>
  simp only [coef,nbv]
  split
  ·have:=nb_add p.2 (coef l v);omega
  ·rw [Rat.zero_add];omega
theorem nbv_take (f:List (Int × Rat)) (v:Int) (i:Nat):nbv (f.take i) v≤nbv f v:=by
 induction f generalizing i with
 | nil=>simp
 | cons p f ih =>
  cases i with
  | zero=>simp [nbv]
  | succ i=>have:=ih i;simp only [List.take_succ_cons,nbv];omega
structure PF (f:List (Int × RR)) (B:Nat):Prop where
 ok:∀ p∈f,p.2.ok
 pre:∀ i v,nb (coef ((vals f).take i) v)≤B
 len:f.length<549755813888
theorem FOk.pf {f:List (Int × RR)} {B:Nat} (h:FOk f B) (hB:B<549755813888):PF f (1+B) :=
 ⟨h.ok,fun i v=>by
  have h1:=nb_coef ((vals f).take i) v
  have h2:=nbv_take (vals f) v i
  have h3:=h.sz.b v
  omega,by have:=h.len;omega⟩
theorem PF.coef {f:List (Int × RR)} {B:Nat} (h:PF f B) (v:Int):nb (coef (vals f) v)≤B:=by
 have:=h.pre (vals f).length v
 rwa [List.take_length] at this
theorem PF.mono {f:List (Int × RR)} {B C:Nat} (h:PF f B) (hc:B≤C):PF f C:=⟨h.ok,fun i v=>Nat.le_trans (h.pre i v) hc,h.len⟩
theorem PF.append {f g:List (Int × RR)} {B C:Nat} (hf:PF f B) (hg:PF g C) (hl:f.length+g.length<549755813888):PF (f++g) (B+C):=by
 refine ⟨fun p hp=>(List.mem_append.1 hp).elim (hf.ok p) (hg.ok p),fun i v=>?_,by simpa using hl⟩
 rw [vals_append,List.take_append,coef_append]
 have h1:=hf.pre i v
 have h2:=hg.pre (i-(vals f).length) v
 have h3:=nb_add (Vm.coef ((vals f).take i) v) (Vm.coef ((vals g).take (i-(vals f).length)) v)
 omega
theorem PF.scale {f:List (Int × RR)} {B C:Nat} (hf:PF f B) {c:Rat} (h:∀ p∈f,nb c+nb p.2.v<17179869184) (hc:nb c≤C):PF (rf (scaleF c (vals f))) (C+B):=by
 refine ⟨fun p hp=>?_,fun i v=>?_,by simpa [rf,scaleF,vals] using hf.len⟩
 ·simp only [rf,scaleF,vals,List.mem_map] at hp
  obtain ⟨_,⟨_,⟨p,hp,rfl⟩,rfl⟩,rfl⟩:=hp
  have h1:=h p hp
  have h2:=nb_mul c p.2.v
  exact qr_ok (by dsimp only;omega)
 ·rw [vals_rf]
  have h0:(scaleF c (vals f)).take i=scaleF c ((vals f).take i):=by simp [scaleF,List.map_take]
  rw [h0,coef_scale]
  have h1:=hf.pre i v
  have h2:=nb_mul c (Vm.coef ((vals f).take i) v)
  omega
theorem f6coef_ok (f:List (Int × RR)) (v:Int) {B:Nat} (hf:PF f B) (hB:B≤8589934592) :
  Pure Tryz.prog 111 [cF f,.int .i64 v] (·=cQ (coef (vals f) v)):=by
 have hz:=f6zero_ok
 have hfl:=hf.len
 have hvl:(vals f).length=f.length:=by simp [vals]
 have hnv:∀ i,nb (coef ((vals f).take i) v)≤8589934592:=fun i=>Nat.le_trans (hf.pre i v) hB
 have hst:∀ i,i<f.length→coef ((vals f).take (i+1)) v=coef ((vals f).take i) v+if (f.getD i default).1=v then (f.getD i default).2.v else 0:=fun i hi=>by
  rw [coef_take _ _ (by omega)]
  have:(vals f).getD i default=((f.getD i default).1,(f.getD i default).2.v):=by simp [vals,List.getD_eq_getElem?_getD,hi]
  rw [this]
 have h0:coef ((vals f).take 0) v=0:=rfl
 have hlast:(vals f).take f.length=vals f:=List.take_of_length_le (by omega)
 have hok:∀ i,i<f.length→(f.getD i default).2.ok:=fun i hi=>hf.ok _ (by simp [List.getD_eq_getElem?_getD,hi])
 rw [← hlast]
 generalize hE:(fun i=>coef ((vals f).take i) v)=E at *
 have hE':∀ i,coef ((vals f).take i) v=E i:=fun i=>congrFun hE i
 simp only [hE'] at *
 clear hE hE' hlast
 simp only [cQ] at hz
 (refine pureW Tryz.func111 rfl (rs:=[Go.ResultVar.cell 4 39]) rfl (n:=29) rfl ?_;simp only [List.length_cons,List.length_nil,List.replicate,List.cons_append,List.nil_append])
 simp only [cF]
 (refine aJa ?_)
 ((refine W_seqV ?_);intro K hK;(refine sJa ?_))
 (refine ⟨by kernel_rfl,_,.pure rfl (hz),?_⟩;(try (refine sJa ?_)))
 (refine hK _ ?_;clear hK K)
 ((refine W_seq (W_seqV ?_));intro K hK;(refine sJa ?_))
 (refine hK _ ?_;clear hK K)
 refine W_block (W_loop (fun t:{t:Nat // t≤f.length} =>
   ⟨[.sl (tab rowM f),.int .i64 v,.any,.any,.ptr 4 0 0,.ptr 5 0 0,.int .i64 t.1,.any,.any,.any,.any,.any,.any,.any,.any,.any,.any,.any,.any,.any,.any,.any,.any,.any,.any,.any,.any,.any,.any],[.dead,.dead,.dead,.dead,.arr 39 3 false [[.bool false,.nils,.nils]],.arr 39 3 false [[.bool (decide ((E t.1).num<0)),.sl (u32s (limbs (E t.1).num.natAbs)),.sl (u32s (limbs (E t.1).den))]],.dead,.dead,.dead,.dead,.dead,.dead,.dead,.dead,.dead,.dead,.dead,.dead,.dead,.dead,.dead,.dead,.dead,.dead,.dead,.dead,.dead,.dead,.dead]⟩) (fun t=>f.length-t.1)
   ⟨0,by omega⟩ (Le_of (by simp [leE]) (by simp [h0])) fun t=>?_)
 obtain ⟨i,hi⟩:=t
 dsimp only
 by_cases hlt:i<f.length
 ·have hXi:(tab rowM f).getD i []=rowM (f.getD i default):=tab_getD hlt
  have hsi:=hst i hlt
  have hp1:=hok i hlt
  have hni:=hnv i
  generalize f.getD i default=p at *
  simp only [rowM] at hXi
  refine W_seq ?_
  ((refine W_seqV ?_);intro K hK;(refine sJaX hlt ?_))
  (refine hK _ ?_;clear hK K)
  (refine W_ct rfl ?_)
  refine W_skip ?_
  simp only [thenW]
  refine W_seq ?_
  refine W_block ?_
  ((refine W_seqV ?_);intro K hK;(refine sJaX (And.intro hXi hlt) ?_))
  (refine hK _ ?_;clear hK K)
  by_cases hv:p.1=v
  ·rw [if_pos hv] at hsi
   have hadd:=f3add_ok (qr (E i)) p.2 (qr_ok (by omega)) hp1
   rw [qr_v,← hsi] at hadd
   simp only [RR.av,qr,cQ] at hadd
   have hb:(p.1 == v)=true:=by simp [hv]
   rw [hb]
   (refine W_ct rfl ?_)
   ((refine W_regD mixed [] (by kernel_rfl) ?_);intro K hK;(refine sJaX (And.intro hXi hlt) ?_))
   (refine ⟨by kernel_rfl,_,.pure rfl (hadd),?_⟩;(try (refine sJa ?_)))
   (refine hK _ ?_;clear hK K)
   simp only [blockW,thenW]
   ((refine W_regV ?_);intro K hK;(refine sJa ?_))
   (refine hK _ ?_;clear hK K)
   simp only [blockW,thenW]
   refine ⟨⟨i+1,by omega⟩,Le_drop (by simp [leE]) (by simp [leH]) rfl rfl,?_⟩
   dsimp only
   omega
  ·rw [if_neg hv,Rat.add_zero] at hsi
   have hb:(p.1 == v)=false:=by simp [hv]
   rw [hb]
   (refine W_cf rfl ?_)
   refine W_skip ?_
   simp only [blockW,thenW]
   ((refine W_regV ?_);intro K hK;(refine sJa ?_))
   (refine hK _ ?_;clear hK K)
   simp only [blockW,thenW]
   refine ⟨⟨i+1,by omega⟩,Le_drop (by simp [leE]) (by simp [leH,hsi]) rfl rfl,?_⟩
   dsimp only
   omega
 ·obtain rfl:i=f.length:=by omega
  refine W_seq ?_
  ((refine W_seqV ?_);intro K hK;(refine sJa ?_))
  (refine hK _ ?_;clear hK K)
  (refine W_cf rfl ?_)
  refine W_exit ?_
  simp only [thenW,blockW,if_true]
  ((refine W_seqV ?_);intro K hK;(refine sJa ?_))
  (refine hK _ ?_;clear hK K)
  refine W_ret ?_
  (refine qG ?_;try exact True.intro);try (refine sJaV ?_;try exact True.intro)
theorem i64s_take (l:List Int) (n:Nat):(i64s l).take n=i64s (l.take n):=by simp [i64s,List.map_take]
theorem i64s_drop (l:List Int) (n:Nat):(i64s l).drop n=i64s (l.drop n):=by simp [i64s,List.map_drop]
theorem i64s_set (l:List Int) (n:Nat) (x:Int):(i64s l).set n [.int .i64 x]=i64s (l.set n x):=by simp [i64s,List.map_set]
theorem i64s_append (l m:List Int):i64s l++i64s m=i64s (l++m):=by simp [i64s]
theorem i64s_one (l:List Int):AllOne (i64s l):=by
 intro r hr
 simp only [i64s,List.mem_map] at hr
 obtain ⟨x,_,rfl⟩:=hr
 rfl
theorem i64s_pure (l:List Int):AllPure (i64s l):=by
 intro r hr
 simp only [i64s,List.mem_map] at hr
 obtain ⟨x,_,rfl⟩:=hr
 rfl
def insI (x:Int):List Int→List Int
 | []=>[x]
 | y::l=>if y<x then y::insI x l else if y=x then y::l else x::y::l
def sortI (l:List Int):List Int:=l.foldl (fun o x=>insI x o) []
theorem insI_at {x:Int}:∀ {out:List Int} {k:Nat},k≤out.length→(∀ j,j<k→out.getD j 0<x)→(k=out.length∨x≤out.getD k 0) →
  insI x out=if k<out.length∧out.getD k 0=x then out else out.take k++x::out.drop k
 | [],k,h0,_,_=>by
  obtain rfl:k=0:=by simpa using h0
  simp [insI]
 | y::out,0,_,_,h2=>by
  have h3:x≤y:=by simpa using h2
  simp only [insI,if_neg (show ¬ y<x by omega)]
  simp
 | y::out,k+1,h0,h1,h2=>by
  have h3:y<x:=by simpa using h1 0 (by omega)
  have:=insI_at (x:=x) (out:=out) (k:=k) (by simpa using h0) (fun j hj=>by simpa using h1 (j+1) (by omega)) (by simpa using h2)
  simp only [insI,if_pos h3,this]
  simp only [List.length_cons,List.getD_cons_succ,List.take_succ_cons,List.drop_succ_cons,Nat.add_lt_add_iff_right]
  split <;> simp
theorem mem_insI {x y:Int}:∀ {l:List Int},y∈insI x l↔y=x∨y∈l
 | []=>by simp [insI]
 | z::l=>by
  have ih:=mem_insI (x:=x) (y:=y) (l:=l)
  simp only [insI]
  split
  ·simp only [List.mem_cons,ih];grind
  ·split
   ·rename_i h;subst h;simp
   ·simp
theorem insI_lt {x:Int}:∀ {l:List Int},l.Pairwise (·<·)→(insI x l).Pairwise (·<·)
 | [],_=>by simp [insI]
 | z::l,h=>by
  have ih:=insI_lt (x:=x) (List.pairwise_cons.1 h).2
  have hz:=(List.pairwise_cons.1 h).1
  simp only [insI]
  split
  ·refine List.pairwise_cons.2 ⟨fun y hy=>?_,ih⟩
   rcases mem_insI.1 hy with rfl | hy
   ·assumption
   ·exact hz y hy
  ·split
   ·exact h
   ·refine List.pairwise_cons.2 ⟨fun y hy=>?_,h⟩
    rcases List.mem_cons.1 hy with rfl | hy
    ·omega
    ·have:=hz y hy;omega
theorem insI_len {x:Int}:∀ {l:List Int},(insI x l).length≤l.length+1
 | []=>by simp [insI]
 | z::l=>by
  have ih:=insI_len (x:=x) (l:=l)
  simp only [insI]
  split
  ·simpa using ih
  ·split <;> simp
theorem sortI_take {l:List Int} {i:Nat} (h:i<l.length):sortI (l.take (i+1))=insI (l.getD i 0) (sortI (l.take i)):=by
 unfold sortI
 rw [List.take_succ_eq_append_getElem h,List.foldl_append]
 simp [List.getD_eq_getElem?_getD,h]
theorem foldl_insI:∀ (l o:List Int),o.Pairwise (·<·)→(l.foldl (fun o x=>insI x o) o).Pairwise (·<·)∧(∀ y,y∈l.foldl (fun o x=>insI x o) o↔y∈o∨y∈l)∧(l.foldl (fun o x=>insI x o) o).length≤o.length+l.length
 | [],o,h=>⟨h,by simp,by simp⟩
 | x::l,o,h=>by
  have ⟨h1,h2,h3⟩:=foldl_insI l (insI x o) (insI_lt h)
  refine ⟨h1,fun y=>?_,?_⟩
  ·simp only [List.foldl_cons]
   rw [h2 y,mem_insI]
   simp only [List.mem_cons]
   grind
  ·have:=insI_len (x:=x) (l:=o)
   simp only [List.foldl_cons,List.length_cons]
   omega
theorem sortI_lt (l:List Int):(sortI l).Pairwise (·<·):=(foldl_insI l [] List.Pairwise.nil).1
theorem mem_sortI {l:List Int} {y:Int}:y∈sortI l↔y∈l:=by have:=(foldl_insI l [] List.Pairwise.nil).2.1 y;simpa [sortI] using this
theorem sortI_len (l:List Int):(sortI l).length≤l.length:=by have:=(foldl_insI l [] List.Pairwise.nil).2.2;simpa [sortI] using this
def pickF (f:List (Int × Rat)):List Int→List (Int × Rat)
 | []=>[]
 | v::l=>if coef f v=0 then pickF f l else (v,coef f v)::pickF f l
theorem pickF_append (f:List (Int × Rat)) (l m:List Int):pickF f (l++m)=pickF f l++pickF f m:=by
 induction l with
 | nil=>rfl
 | cons v l ih=>simp only [List.cons_append,pickF,ih];split <;> simp
theorem pickF_take {f:List (Int × Rat)} {l:List Int} {i:Nat} (h:i<l.length):pickF f (l.take (i+1))=pickF f (l.take i)++if coef f (l.getD i 0)=0 then [] else [(l.getD i 0,coef f (l.getD i 0))]:=by
 rw [List.take_succ_eq_append_getElem h,pickF_append]
 have:l.getD i 0=l[i]:=by simp [List.getD_eq_getElem?_getD,h]
 rw [this]
 simp only [pickF]
theorem mem_pickF {f:List (Int × Rat)} {p:Int × Rat}:∀ {l:List Int},p∈pickF f l→p.1∈l∧p.2=coef f p.1∧p.2≠0
 | v::l,h=>by
  simp only [pickF] at h
  split at h
  ·have:=mem_pickF h;exact ⟨List.mem_cons_of_mem _ this.1,this.2⟩
  ·rcases List.mem_cons.1 h with rfl | h
   ·exact ⟨List.mem_cons_self,rfl,by assumption⟩
   ·have:=mem_pickF h;exact ⟨List.mem_cons_of_mem _ this.1,this.2⟩
theorem pickF_nf {f:List (Int × Rat)}:∀ {l:List Int},l.Pairwise (·<·)→NF (pickF f l)
 | [],_=>NF.nil
 | v::l,h=>by
  have ih:=pickF_nf (f:=f) (List.pairwise_cons.1 h).2
  simp only [pickF]
  split
  ·exact ih
  ·exact NF.cons ih (by assumption) fun q hq=>(List.pairwise_cons.1 h).1 _ (mem_pickF hq).1
theorem pickF_coef {f:List (Int × Rat)} {v:Int}:∀ {l:List Int},l.Pairwise (·<·)→coef (pickF f l) v=if v∈l then coef f v else 0
 | [],_=>by simp [pickF,coef]
 | w::l,h=>by
  have ih:=pickF_coef (f:=f) (v:=v) (List.pairwise_cons.1 h).2
  have hw:=(List.pairwise_cons.1 h).1
  simp only [pickF]
  by_cases hv:v=w
  ·subst hv
   have h1:v∉l:=fun hm=>by have:=hw v hm;omega
   rw [if_neg h1] at ih
   split
   ·rename_i h0;rw [ih,if_pos List.mem_cons_self,h0]
   ·simp only [coef,if_true,ih,if_pos List.mem_cons_self,Rat.add_zero]
  ·have h1:(v∈w::l)=(v∈l):=by simp [hv]
   simp only [h1]
   split
   ·exact ih
   ·simp only [coef,if_neg (show ¬ w=v from fun e=>hv e.symm),ih,Rat.zero_add]
theorem pick_norm (f:List (Int × Rat)):pickF f (sortI (f.map (·.1)))=normF f:=by
 refine norm_of (pickF_nf (sortI_lt _)) fun v=>?_
 rw [pickF_coef (sortI_lt _)]
 split
 ·rfl
 ·rename_i h
  rw [mem_sortI] at h
  exact (coef_none fun p hp e=>h (List.mem_map.2 ⟨p,hp,e⟩)).symm
theorem pickF_len (f:List (Int × Rat)):∀ l:List Int,(pickF f l).length≤l.length
 | []=>Nat.le_refl _
 | v::l=>by
  have:=pickF_len f l
  simp only [pickF]
  split <;> simp only [List.length_cons] <;> omega
theorem sJb {G G':Prop} (h:G') (e:G=G':=by conv=>lhs;simp (disch:=omega) only [rowsOf,cNat,cN,St.ret,St.seth,Eff.app,Eff.wi,sepL,guardOf,St.known,objOf,List.set,sliceW,litW,copyW,lenOf,bnd,mxOk,ofCells,TI.isAgg,cellsOf,storable,AV.one,dead,laid,overlay,reduceCtorEq,Int.reduceLE,Int.reduceLT,Int.reduceSub,Int.reduceAdd,Nat.reduceMul,Int.reduceToNat,Nat.reducePow,Int.reduceNeg,Nat.reduceAdd,Nat.reduceLT,Nat.reduceLeDiff,sA,sB,i64s_getD,i64s_length,i64s_all,i64s_take,i64s_drop,i64s_set,i64s_one,i64s_pure,i64s_append,List.take_length,List.length_append,sT]):G:=e.mpr h
theorem sJbX {G G' P:Prop} (p:P) (h:G') (e:P→G=G':=by intro p;conv=>lhs;simp (disch:=omega) only [rowsOf,cNat,cN,St.ret,St.seth,Eff.app,Eff.wi,sepL,guardOf,St.known,objOf,List.set,sliceW,litW,copyW,lenOf,bnd,mxOk,ofCells,TI.isAgg,cellsOf,storable,AV.one,dead,laid,overlay,reduceCtorEq,Int.reduceLE,Int.reduceLT,Int.reduceSub,Int.reduceAdd,Nat.reduceMul,Int.reduceToNat,Nat.reducePow,Int.reduceNeg,Nat.reduceAdd,Nat.reduceLT,Nat.reduceLeDiff,sA,sB,i64s_getD,i64s_length,i64s_all,i64s_take,i64s_drop,i64s_set,i64s_one,i64s_pure,i64s_append,List.take_length,List.length_append,sT,p]):G:=(e p).mpr h
theorem sJbV {G G':Prop} (h:G') (e:G=G':=by conv=>lhs;simp (disch:=omega) only [rowsOf,cNat,cN,St.ret,St.seth,Eff.app,Eff.wi,sepL,guardOf,St.known,objOf,List.set,sliceW,litW,copyW,lenOf,bnd,mxOk,ofCells,TI.isAgg,cellsOf,storable,AV.one,dead,laid,overlay,reduceCtorEq,Int.reduceLE,Int.reduceLT,Int.reduceSub,Int.reduceAdd,Nat.reduceMul,Int.reduceToNat,Nat.reducePow,Int.reduceNeg,Nat.reduceAdd,Nat.reduceLT,Nat.reduceLeDiff,sA,sB,i64s_getD,i64s_length,i64s_all,i64s_take,i64s_drop,i64s_set,i64s_one,i64s_pure,i64s_append,List.take_length,List.length_append,sT,view_sref,viewRef,view_agg,views_cons,views_nil,view_bool,view_int,view_sl,view_nils,view_str,view_tup,view_nilif]):G:=e.mpr h
theorem aJb {G G':Prop} (h:G') (f:Wr G'→G:=by intro h;(repeat (first|(refine W_seqV fun K hK=>?_;(try (refine sJb ?_;try exact True.intro));(repeat refine aI ?_);refine hK _ ?_;clear hK K)|(refine W_seqR fun K hK=>?_;(try (refine sJb ?_;try exact True.intro));(repeat refine aI ?_);refine hK _ ?_;clear hK K)|(refine W_seqD mixed [] (by kernel_rfl) fun K hK=>?_;(try (refine sJb ?_;try exact True.intro));(repeat refine aI ?_);refine hK _ ?_;clear hK K)));exact h.out):G:=f ⟨h⟩
def shI (out:List Int) (k:Nat):List Int:=out.take k++((out++[0]).getD k 0)::out.drop k
theorem shI_len {out:List Int} {k:Nat} (h:k≤out.length):(shI out k).length=out.length+1:=by simp [shI];omega
theorem shI_top (out:List Int):shI out out.length=out++[0]:=by simp [shI]
theorem shI_low {out:List Int} {k j:Nat} (h:k≤out.length) (hj:j<k):(shI out k).getD j 0=out.getD j 0:=by
 simp only [shI,List.getD_eq_getElem?_getD]
 rw [List.getElem?_append_left (by simp;omega)]
 simp [hj]
theorem shI_step {out:List Int} {k:Nat} (h:k<out.length):(shI out (k+1)).set (k+1) (out.getD k 0)=shI out k:=by
 have h1:out.take (k+1)=out.take k++[out.getD k 0]:=by rw [List.take_succ_eq_append_getElem h];simp [List.getD_eq_getElem?_getD,h]
 have h2:out.drop k=out.getD k 0::out.drop (k+1):=by rw [List.drop_eq_getElem_cons h];simp [List.getD_eq_getElem?_getD,h]
 have h3:(out++[0]).getD k 0=out.getD k 0:=by simp only [List.getD_eq_getElem?_getD];rw [List.getElem?_append_left h]
 rw [shI,shI,h3,h2,h1]
 rw [List.set_append_right _ _ (by simp;omega)]
 have:k+1-(List.take k out++[out.getD k 0]).length=0:=by simp;omega
 rw [this]
 simp
theorem shI_set {out:List Int} {k:Nat} (h:k≤out.length) (x:Int):(shI out k).set k x=out.take k++x::out.drop k:=by
 rw [shI,List.set_append_right _ _ (by simp;omega)]
 have:k-(List.take k out).length=0:=by simp;omega
 rw [this]
 simp
theorem f6sorted_ok (l:List Int) (hl:l.length<1099511627776) :
  Pure Tryz.prog 174 [.sl (i64s l)] (· = .sl (i64s (sortI l))):=by
 (refine pureW Tryz.func174 rfl (rs:=[Go.ResultVar.tmp 2]) rfl (n:=72) rfl ?_;simp only [List.length_cons,List.length_nil,List.replicate,List.cons_append,List.nil_append])
 (refine aJb ?_)
 refine W.le ?_ (Le_nil 3 3 3 1 true rfl rfl)
 simp only [List.set]
 have hst:∀ i,i<l.length→sortI (l.take (i+1))=insI (l.getD i 0) (sortI (l.take i)):=fun i hi=>sortI_take hi
 have hln:∀ i,(sortI (l.take i)).length≤l.length:=fun i=>by have:=sortI_len (l.take i);simp at this;omega
 have h0:sortI (l.take 0)=[]:=rfl
 have hlast:l.take l.length=l:=List.take_of_length_le (by omega)
 rw [← hlast]
 generalize hE:(fun i=>sortI (l.take i))=E at *
 have hE':∀ i,sortI (l.take i)=E i:=fun i=>congrFun hE i
 simp only [hE'] at *
 clear hE hE'
 rw [hlast]
 ((refine W_seq (W_seqV ?_));intro K hK;(refine sJb ?_))
 (refine hK _ ?_;clear hK K)
 refine W_block (W_loop (fun t:{t:Nat // t≤l.length} =>
   ((fun (a_:AV) (d_:Ob)=>(⟨((.sl (i64s l))::a_::a_::(.sref 3 0 (E t.1).length)::(.int .i64 t.1)::a_::a_::a_::a_::a_::a_::a_::a_::a_::a_::a_::a_::a_::a_::a_::a_::a_::a_::a_::a_::a_::a_::a_::a_::a_::a_::a_::a_::a_::a_::a_::a_::a_::a_::a_::a_::a_::a_::a_::a_::a_::a_::a_::a_::a_::a_::a_::a_::a_::a_::a_::a_::a_::a_::a_::a_::a_::a_::a_::a_::a_::a_::a_::a_::a_::a_::a_::[]),(d_::d_::d_::(.arr 3 1 true (i64s (E t.1)))::d_::d_::d_::d_::d_::d_::d_::d_::d_::d_::d_::d_::d_::d_::d_::d_::d_::d_::d_::d_::d_::d_::d_::d_::d_::d_::d_::d_::d_::d_::d_::d_::d_::d_::d_::d_::d_::d_::d_::d_::d_::d_::d_::d_::d_::d_::d_::d_::d_::d_::d_::d_::d_::d_::d_::d_::d_::d_::d_::d_::d_::d_::d_::d_::d_::d_::d_::d_::[])⟩:St)) .any .dead)) (fun t=>l.length-t.1)
   ⟨0,by omega⟩ (Le_of (by simp [leE,h0]) (by simp [h0,i64s])) fun t=>?_)
 obtain ⟨i,hi⟩:=t
 dsimp only
 by_cases hlt:i<l.length
 ·have hsi:=hst i hlt
  have hlo:=hln i
  have hlo1:=hln (i+1)
  generalize hx:l.getD i 0=x at *
  generalize E i=o at *
  refine W_seq ?_
  ((refine W_seqV ?_);intro K hK;(refine sJbX hlt ?_))
  (refine hK _ ?_;clear hK K)
  (refine W_ct rfl ?_)
  refine W_skip ?_
  simp only [thenW]
  refine W_seq ?_
  refine W_block ?_
  ((refine W_seqV ?_);intro K hK;(refine sJb ?_))
  (refine hK _ ?_;clear hK K)
  refine W_join (fun s'=>∃ k,k≤o.length∧(∀ j,j<k→o.getD j 0<x)∧(k=o.length∨x≤o.getD k 0)∧Le [] s' ((fun (a_:AV) (d_:Ob)=>(⟨((.sl (i64s l))::a_::a_::(.sref 3 0 o.length)::(.int .i64 i)::(.int .i64 k)::a_::a_::a_::a_::a_::a_::a_::a_::a_::a_::a_::a_::a_::a_::a_::a_::a_::a_::a_::a_::a_::a_::a_::a_::a_::a_::a_::a_::a_::a_::a_::a_::a_::a_::a_::a_::a_::a_::a_::a_::a_::a_::a_::a_::a_::a_::a_::a_::a_::a_::a_::a_::a_::a_::a_::a_::a_::a_::a_::a_::a_::a_::a_::a_::a_::a_::[]),(d_::d_::d_::(.arr 3 1 true (i64s o))::d_::d_::d_::d_::d_::d_::d_::d_::d_::d_::d_::d_::d_::d_::d_::d_::d_::d_::d_::d_::d_::d_::d_::d_::d_::d_::d_::d_::d_::d_::d_::d_::d_::d_::d_::d_::d_::d_::d_::d_::d_::d_::d_::d_::d_::d_::d_::d_::d_::d_::d_::d_::d_::d_::d_::d_::d_::d_::d_::d_::d_::d_::d_::d_::d_::d_::d_::d_::[])⟩:St)) .any .dead)) ?_ ?_
  ·refine W_block (W_loop (fun t:{t:Nat // t≤o.length∧∀ j,j<t→o.getD j 0<x} =>
    ((fun (a_:AV) (d_:Ob)=>(⟨((.sl (i64s l))::a_::a_::(.sref 3 0 o.length)::(.int .i64 i)::(.int .i64 t.1)::a_::a_::a_::a_::a_::a_::a_::a_::a_::a_::a_::a_::a_::a_::a_::a_::a_::a_::a_::a_::a_::a_::a_::a_::a_::a_::a_::a_::a_::a_::a_::a_::a_::a_::a_::a_::a_::a_::a_::a_::a_::a_::a_::a_::a_::a_::a_::a_::a_::a_::a_::a_::a_::a_::a_::a_::a_::a_::a_::a_::a_::a_::a_::a_::a_::a_::[]),(d_::d_::d_::(.arr 3 1 true (i64s o))::d_::d_::d_::d_::d_::d_::d_::d_::d_::d_::d_::d_::d_::d_::d_::d_::d_::d_::d_::d_::d_::d_::d_::d_::d_::d_::d_::d_::d_::d_::d_::d_::d_::d_::d_::d_::d_::d_::d_::d_::d_::d_::d_::d_::d_::d_::d_::d_::d_::d_::d_::d_::d_::d_::d_::d_::d_::d_::d_::d_::d_::d_::d_::d_::d_::d_::d_::d_::[])⟩:St)) .any .dead)) (fun t=>o.length-t.1)
    ⟨0,by omega,by simp⟩ (Le_of (by simp [leE]) (by simp)) fun t=>?_)
   obtain ⟨k,hk,hkl⟩:=t
   dsimp only
   by_cases hlk:k<o.length
   ·generalize hy:o.getD k 0=y at *
    by_cases hyx:y<x
    ·refine W_seq ?_
     ((refine W_seqD mixed [] (by kernel_rfl) ?_);intro K hK;(refine sJbX (And.intro hlt (And.intro hlk (And.intro hx (And.intro hy hyx)))) ?_))
     (refine hK _ ?_;clear hK K)
     (refine W_ct rfl ?_)
     refine W_skip ?_
     simp only [blockW,thenW]
     refine W_block ?_
     ((refine W_regV ?_);intro K hK;(refine sJb ?_))
     (refine hK _ ?_;clear hK K)
     simp only [blockW,thenW]
     refine ⟨⟨k+1,by omega,fun j hj=>?_⟩,Le_drop (by simp [leE]) (by simp [leH]) rfl rfl,?_⟩
     ·by_cases hjk:j=k
      ·rw [hjk,hy];exact hyx
      ·exact hkl j (by omega)
     ·dsimp only;omega
    ·refine W_seq ?_
     ((refine W_seqD mixed [] (by kernel_rfl) ?_);intro K hK;(refine sJbX (And.intro hlt (And.intro hlk (And.intro hx (And.intro hy hyx)))) ?_))
     (refine hK _ ?_;clear hK K)
     (refine W_cf rfl ?_)
     refine W_exit ?_
     simp only [thenW,blockW,if_true]
     exact ⟨k,hk,hkl,.inr (by rw [hy];omega),Le_of (by simp [leE]) (by simp)⟩
   ·refine W_seq ?_
    ((refine W_seqD mixed [] (by kernel_rfl) ?_);intro K hK;(refine sJbX (And.intro hlt hlk) ?_))
    (refine hK _ ?_;clear hK K)
    (refine W_cf rfl ?_)
    refine W_exit ?_
    simp only [thenW,blockW,if_true]
    exact ⟨k,hk,hkl,.inl (by omega),Le_of (by simp [leE]) (by simp)⟩
  rintro s' ⟨k,hk,hkl,hkx,hle⟩
  refine W.le ?_ hle
  clear hle s'
  have hins:=insI_at hk hkl hkx
  rw [hins] at hsi
  by_cases heq:k<o.length∧o.getD k 0=x
  ·rw [if_pos heq] at hsi
   obtain ⟨hlk,hyx⟩:=heq
   refine W_seq ?_
   have hxx:(x == x)=true:=by simp
   ((refine W_seqD mixed [] (by kernel_rfl) ?_);intro K hK;(refine sJbX (And.intro hlt (And.intro hlk (And.intro hx (And.intro hyx hxx)))) ?_))
   (refine hK _ ?_;clear hK K)
   (refine W_ct rfl ?_)
   refine W_exit ?_
   simp only [thenW,blockW,if_true]
   ((refine W_regV ?_);intro K hK;(refine sJb ?_))
   (refine hK _ ?_;clear hK K)
   simp only [blockW,thenW]
   refine ⟨⟨i+1,by omega⟩,Le_drop (by simp [leE,hsi]) (by simp [leH,hsi]) rfl rfl,?_⟩
   dsimp only
   omega
  ·rw [if_neg heq] at hsi
   refine W_join (fun s'=>Le [] s' ((fun (a_:AV) (d_:Ob)=>(⟨((.sl (i64s l))::a_::a_::(.sref 3 0 o.length)::(.int .i64 i)::(.int .i64 k)::a_::a_::a_::a_::a_::a_::a_::a_::a_::a_::a_::a_::a_::a_::a_::a_::a_::a_::a_::a_::a_::a_::a_::a_::a_::a_::a_::a_::a_::a_::a_::a_::a_::a_::a_::a_::a_::a_::a_::a_::a_::a_::a_::a_::a_::a_::a_::a_::a_::a_::a_::a_::a_::a_::a_::a_::a_::a_::a_::a_::a_::a_::a_::a_::a_::a_::[]),(d_::d_::d_::(.arr 3 1 true (i64s o))::d_::d_::d_::d_::d_::d_::d_::d_::d_::d_::d_::d_::d_::d_::d_::d_::d_::d_::d_::d_::d_::d_::d_::d_::d_::d_::d_::d_::d_::d_::d_::d_::d_::d_::d_::d_::d_::d_::d_::d_::d_::d_::d_::d_::d_::d_::d_::d_::d_::d_::d_::d_::d_::d_::d_::d_::d_::d_::d_::d_::d_::d_::d_::d_::d_::d_::d_::d_::[])⟩:St)) .any .dead)) ?_ ?_
   ·by_cases hlk:k<o.length
    ·have hyx:¬ o.getD k 0=x:=fun e=>heq ⟨hlk,e⟩
     generalize hy:o.getD k 0=y at *
     have hyb:(y == x)=false:=by simp [hyx]
     refine W_seq ?_
     ((refine W_regD mixed [] (by kernel_rfl) ?_);intro K hK;(refine sJbX (And.intro hlt (And.intro hlk (And.intro hx (And.intro hy hyb)))) ?_))
     (refine hK _ ?_;clear hK K)
     (refine W_cf rfl ?_)
     refine W_skip ?_
     simp only [blockW,thenW]
     exact Le_of (by simp [leE]) (by simp)
    ·refine W_seq ?_
     ((refine W_regD mixed [] (by kernel_rfl) ?_);intro K hK;(refine sJbX (And.intro hlt hlk) ?_))
     (refine hK _ ?_;clear hK K)
     (refine W_cf rfl ?_)
     refine W_skip ?_
     simp only [blockW,thenW]
     exact Le_of (by simp [leE]) (by simp)
   intro s' hle
   refine W.le ?_ hle
   clear hle s'
   ((refine W_seqR ?_);intro K hK;(refine sJb ?_))
   (repeat refine aI ?_);refine hK _ ?_;clear hK K
   refine W_seq ?_
   ((refine W_seqV ?_);intro K hK;(refine sJb ?_))
   (refine hK _ ?_;clear hK K)
   refine W_block (W_loop (fun t:{t:Nat // k≤t∧t≤o.length} =>
    ((fun (a_:AV) (d_:Ob)=>(⟨((.sl (i64s l))::a_::a_::(.sref 3 0 (o.length+1))::(.int .i64 i)::(.int .i64 k)::(.int .i64 t.1)::a_::a_::a_::a_::a_::a_::a_::a_::a_::a_::a_::a_::a_::a_::a_::a_::a_::a_::a_::a_::a_::a_::a_::a_::a_::a_::a_::a_::a_::a_::a_::a_::a_::a_::a_::a_::a_::a_::a_::a_::a_::a_::a_::a_::a_::a_::a_::a_::a_::a_::a_::a_::a_::a_::a_::a_::a_::a_::a_::a_::a_::a_::a_::a_::a_::[]),(d_::d_::d_::(.arr 3 1 true (i64s (shI o t.1)))::d_::d_::d_::d_::d_::d_::d_::d_::d_::d_::d_::d_::d_::d_::d_::d_::d_::d_::d_::d_::d_::d_::d_::d_::d_::d_::d_::d_::d_::d_::d_::d_::d_::d_::d_::d_::d_::d_::d_::d_::d_::d_::d_::d_::d_::d_::d_::d_::d_::d_::d_::d_::d_::d_::d_::d_::d_::d_::d_::d_::d_::d_::d_::d_::d_::d_::d_::d_::[])⟩:St)) .any .dead)) (fun t=>t.1)
    ⟨o.length,by omega,by omega⟩ (Le_drop (by simp [leE]) (by simp [leH,shI_top,i64s]) rfl rfl) fun t=>?_)
   obtain ⟨j,hkj,hjo⟩:=t
   dsimp only
   have hsl:=shI_len hjo
   generalize hc:shI o j=c at *
   by_cases hgt:k<j
   ·have hgt':(k:Int)<j:=by omega
    have hlow:=shI_low (j:=j-1) hjo (by omega)
    have hstp:=shI_step (out:=o) (k:=j-1) (by omega)
    rw [show j-1+1=j by omega,hc] at hstp
    rw [hc] at hlow
    refine W_seq ?_
    ((refine W_seqV ?_);intro K hK;(refine sJbX hgt' ?_))
    (refine hK _ ?_;clear hK K)
    (refine W_ct rfl ?_)
    refine W_skip ?_
    simp only [thenW]
    refine W_seq ?_
    refine W_block ?_
    have h1:j-1<c.length:=by omega
    have h2:j<c.length:=by omega
    have h3:(0:Int)≤(j:Int)-1:=by omega
    have h5:((j:Int)-1)<((o.length:Int)+1):=by omega
    have h6:(j:Int)<((o.length:Int)+1):=by omega
    have h7:((j:Int)-1).toNat=j-1:=by omega
    ((refine W_regV ?_);intro K hK;(refine sJbX (And.intro h1 (And.intro h2 (And.intro hlow (And.intro hstp (And.intro h3 (And.intro h5 (And.intro h6 h7))))))) ?_))
    (repeat refine aI ?_);refine hK _ ?_;clear hK K
    simp only [blockW,thenW]
    ((refine W_regV ?_);intro K hK;(refine sJb ?_))
    (refine hK _ ?_;clear hK K)
    simp only [blockW,thenW]
    refine ⟨⟨j-1,by omega,by omega⟩,Le_drop (by simp [leE]) (by simp [leH]) rfl rfl,?_⟩
    dsimp only
    omega
   ·obtain rfl:j=k:=by omega
    have hset:=shI_set hk x
    rw [hc,← hsi] at hset
    refine W_seq ?_
    ((refine W_seqV ?_);intro K hK;(refine sJb ?_))
    (refine hK _ ?_;clear hK K)
    (refine W_cf rfl ?_)
    refine W_exit ?_
    simp only [thenW,blockW,if_true]
    have h2:j<c.length:=by omega
    have h6:(j:Int)<((o.length:Int)+1):=by omega
    ((refine W_regV ?_);intro K hK;(refine sJbX (And.intro h2 (And.intro h6 (And.intro hlt (And.intro hx hset)))) ?_))
    (repeat refine aI ?_);refine hK _ ?_;clear hK K
    simp only [blockW,thenW]
    ((refine W_regV ?_);intro K hK;(refine sJb ?_))
    (refine hK _ ?_;clear hK K)
    simp only [blockW,thenW]
    refine ⟨⟨i+1,by omega⟩,Le_drop (by simp [leE,hsi];omega) (by simp [leH,hsi]) rfl rfl,?_⟩
    dsimp only
    omega
 ·obtain rfl:i=l.length:=by omega
  refine W_seq ?_
  ((refine W_seqV ?_);intro K hK;(refine sJb ?_))
  (refine hK _ ?_;clear hK K)
  (refine W_cf rfl ?_)
  refine W_exit ?_
  simp only [thenW,blockW,if_true]
  ((refine W_seqV ?_);intro K hK;(refine sJb ?_))
  (refine hK _ ?_;clear hK K)
  refine W_ret ?_
  (refine qG ?_;try exact True.intro);try (refine sJbV ?_;try exact True.intro)
theorem sJc {G G':Prop} (h:G') (e:G=G':=by conv=>lhs;simp (disch:=omega) only [rowsOf,cNat,cN,St.ret,St.seth,Eff.app,Eff.wi,sepL,guardOf,St.known,objOf,List.set,sliceW,litW,copyW,lenOf,bnd,mxOk,ofCells,TI.isAgg,cellsOf,storable,AV.one,dead,laid,overlay,reduceCtorEq,Int.reduceLE,Int.reduceLT,Int.reduceSub,Int.reduceAdd,Nat.reduceMul,Int.reduceToNat,Nat.reducePow,Int.reduceNeg,Nat.reduceAdd,Nat.reduceLT,Nat.reduceLeDiff,sA,sB,cQ,rowM,rowQ,i64s_getD,i64s_length,i64s_all,i64s_take,i64s_drop,i64s_set,i64s_one,i64s_pure,i64s_append,tab_length,tab_drop,tab_take,tab_append,tab_nil,rowM_all,rowM_one,rowM_pure,rowQ_all,rowQ_one,rowQ_pure,List.take_length,List.length_append,sT]):G:=e.mpr h
theorem sJcX {G G' P:Prop} (p:P) (h:G') (e:P→G=G':=by intro p;conv=>lhs;simp (disch:=omega) only [rowsOf,cNat,cN,St.ret,St.seth,Eff.app,Eff.wi,sepL,guardOf,St.known,objOf,List.set,sliceW,litW,copyW,lenOf,bnd,mxOk,ofCells,TI.isAgg,cellsOf,storable,AV.one,dead,laid,overlay,reduceCtorEq,Int.reduceLE,Int.reduceLT,Int.reduceSub,Int.reduceAdd,Nat.reduceMul,Int.reduceToNat,Nat.reducePow,Int.reduceNeg,Nat.reduceAdd,Nat.reduceLT,Nat.reduceLeDiff,sA,sB,cQ,rowM,rowQ,i64s_getD,i64s_length,i64s_all,i64s_take,i64s_drop,i64s_set,i64s_one,i64s_pure,i64s_append,tab_length,tab_drop,tab_take,tab_append,tab_nil,rowM_all,rowM_one,rowM_pure,rowQ_all,rowQ_one,rowQ_pure,List.take_length,List.length_append,sT,p]):G:=(e p).mpr h
theorem sJcV {G G':Prop} (h:G') (e:G=G':=by conv=>lhs;simp (disch:=omega) only [rowsOf,cNat,cN,St.ret,St.seth,Eff.app,Eff.wi,sepL,guardOf,St.known,objOf,List.set,sliceW,litW,copyW,lenOf,bnd,mxOk,ofCells,TI.isAgg,cellsOf,storable,AV.one,dead,laid,overlay,reduceCtorEq,Int.reduceLE,Int.reduceLT,Int.reduceSub,Int.reduceAdd,Nat.reduceMul,Int.reduceToNat,Nat.reducePow,Int.reduceNeg,Nat.reduceAdd,Nat.reduceLT,Nat.reduceLeDiff,sA,sB,cQ,rowM,rowQ,i64s_getD,i64s_length,i64s_all,i64s_take,i64s_drop,i64s_set,i64s_one,i64s_pure,i64s_append,tab_length,tab_drop,tab_take,tab_append,tab_nil,rowM_all,rowM_one,rowM_pure,rowQ_all,rowQ_one,rowQ_pure,List.take_length,List.length_append,sT,view_sref,viewRef,view_agg,views_cons,views_nil,view_bool,view_int,view_sl,view_nils,view_str,view_tup,view_nilif]):G:=e.mpr h
theorem aJc {G G':Prop} (h:G') (f:Wr G'→G:=by intro h;(repeat (first|(refine W_seqV fun K hK=>?_;(try (refine sJc ?_;try exact True.intro));(repeat refine aI ?_);refine hK _ ?_;clear hK K)|(refine W_seqR fun K hK=>?_;(try (refine sJc ?_;try exact True.intro));(repeat refine aI ?_);refine hK _ ?_;clear hK K)|(refine W_seqD mixed [] (by kernel_rfl) fun K hK=>?_;(try (refine sJc ?_;try exact True.intro));(repeat refine aI ?_);refine hK _ ?_;clear hK K)));exact h.out):G:=f ⟨h⟩
def vars (f:List (Int × RR)):List Int:=f.map (·.1)
theorem vars_len (f:List (Int × RR)):(vars f).length=f.length:=by simp [vars]
theorem vars_take {f:List (Int × RR)} {i:Nat} (h:i<f.length):vars (f.take (i+1))=vars (f.take i)++[(f.getD i default).1]:=by
 unfold vars
 rw [List.take_succ_eq_append_getElem h,List.map_append]
 simp [List.getD_eq_getElem?_getD,h]
theorem f6all_ok (f:List (Int × RR)) (hl:f.length<1099511627776) :
  Pure Tryz.prog 110 [cF f,.sl []] (· = .sl (i64s (sortI (vars f)))):=by
 have hs:=f6sorted_ok (vars f) (by rw [vars_len];omega)
 have hst:∀ i,i<f.length→vars (f.take (i+1))=vars (f.take i)++[(f.getD i default).1]:=fun i hi=>vars_take hi
 have h0:vars (f.take 0)=[]:=rfl
 have hln:∀ i,i≤f.length→(vars (f.take i)).length=i:=fun i h=>by rw [vars_len];simp;omega
 have hlast:vars (f.take f.length)=vars f:=by rw [List.take_length]
 generalize hE:(fun i=>vars (f.take i))=E at *
 have hE':∀ i,vars (f.take i)=E i:=fun i=>congrFun hE i
 simp only [hE'] at *
 clear hE hE'
 generalize vars f=V at *
 (refine pureW Tryz.func110 rfl (rs:=[Go.ResultVar.tmp 4]) rfl (n:=38) rfl ?_;simp only [List.length_cons,List.length_nil,List.replicate,List.cons_append,List.nil_append])
 simp only [cF]
 (refine aJc ?_)
 refine W.le ?_ (Le_nil 5 5 3 1 true rfl rfl)
 simp only [List.set]
 refine W_seq ?_
 ((refine W_seqV ?_);intro K hK;(refine sJc ?_))
 (refine hK _ ?_;clear hK K)
 refine W_block (W_loop (fun t:{t:Nat // t≤f.length} =>
   ⟨[.sl (tab rowM f),.sl [],.any,.any,.any,.sref 5 0 t.1,.int .i64 t.1,.any,.any,.any,.any,.any,.any,.any,.any,.any,.any,.any,.any,.any,.any,.any,.any,.any,.any,.any,.any,.any,.any,.any,.any,.any,.any,.any,.any,.any,.any,.any],[.dead,.dead,.dead,.dead,.dead,.arr 3 1 true (i64s (E t.1)),.dead,.dead,.dead,.dead,.dead,.dead,.dead,.dead,.dead,.dead,.dead,.dead,.dead,.dead,.dead,.dead,.dead,.dead,.dead,.dead,.dead,.dead,.dead,.dead,.dead,.dead,.dead,.dead,.dead,.dead,.dead,.dead]⟩) (fun t=>f.length-t.1)
   ⟨0,by omega⟩ (Le_of (by simp [leE]) (by simp [h0,i64s])) fun t=>?_)
 obtain ⟨i,hi⟩:=t
 dsimp only
 by_cases hlt:i<f.length
 ·have hXi:(tab rowM f).getD i []=rowM (f.getD i default):=tab_getD hlt
  have hsi:=hst i hlt
  have hni:=hln i (by omega)
  generalize f.getD i default=p at *
  simp only [rowM] at hXi
  generalize E i=o at *
  refine W_seq ?_
  ((refine W_seqV ?_);intro K hK;(refine sJcX hlt ?_))
  (refine hK _ ?_;clear hK K)
  (refine W_ct rfl ?_)
  refine W_skip ?_
  simp only [thenW]
  refine W_seq ?_
  refine W_block ?_
  ((refine W_regR ?_);intro K hK;(refine sJcX (And.intro hXi (And.intro hlt hni)) ?_))
  (repeat refine aI ?_);refine hK _ ?_;clear hK K
  simp only [blockW,thenW]
  ((refine W_regV ?_);intro K hK;(refine sJc ?_))
  (refine hK _ ?_;clear hK K)
  simp only [blockW,thenW]
  refine ⟨⟨i+1,by omega⟩,Le_drop (by simp [leE]) (by simp [leH,hsi,i64s,List.take_of_length_le,hni]) rfl rfl,?_⟩
  dsimp only
  omega
 ·obtain rfl:i=f.length:=by omega
  have hni:=hln f.length (by omega)
  refine W_seq ?_
  ((refine W_seqV ?_);intro K hK;(refine sJc ?_))
  (refine hK _ ?_;clear hK K)
  (refine W_cf rfl ?_)
  refine W_exit ?_
  simp only [thenW,blockW,if_true]
  ((refine W_seq (W_seqV ?_));intro K hK;(refine sJc ?_))
  (refine hK _ ?_;clear hK K)
  refine W_block (W_loop (fun t:Unit =>
   ⟨[.sl (tab rowM f),.sl [],.any,.any,.any,.sref 5 0 f.length,.any,.int .i64 0,.any,.any,.any,.any,.any,.any,.any,.any,.any,.any,.any,.any,.any,.any,.any,.any,.any,.any,.any,.any,.any,.any,.any,.any,.any,.any,.any,.any,.any,.any],[.dead,.dead,.dead,.dead,.dead,.arr 3 1 true (i64s (E f.length)),.dead,.dead,.dead,.dead,.dead,.dead,.dead,.dead,.dead,.dead,.dead,.dead,.dead,.dead,.dead,.dead,.dead,.dead,.dead,.dead,.dead,.dead,.dead,.dead,.dead,.dead,.dead,.dead,.dead,.dead,.dead,.dead]⟩) (fun t=>0)
   () (Le_of (by simp [leE]) (by simp)) fun t=>?_)
  refine W_seq ?_
  ((refine W_seqV ?_);intro K hK;(refine sJc ?_))
  (refine hK _ ?_;clear hK K)
  (refine W_cf rfl ?_)
  refine W_exit ?_
  simp only [thenW,blockW,if_true]
  rw [hlast] at hni ⊢
  (refine W.le ?_ (Le_freeze 5 (rows:=i64s V) rfl (by simp) (.inl rfl));simp only [St.freeze,List.map_cons,List.map_nil,List.set,if_true,if_false,Nat.reduceEqDiff,reduceCtorEq,List.drop_zero,u32s_take,u32s_drop,froz_any,froz_und,froz_int,froz_bool,froz_str,froz_nils,froz_sl,froz_ia,froz_nilp,froz_nilif,froz_nilfn,froz_nilmp,froz_gl,froz_sref,froz_ptr,froz_agg,froz_tup,froz_fn,froz_ifc,frozs_nil,frozs_cons,froz_dead,froz_arr,froz_mp,froz_it,froz_md,froz_map,froz_iter])
  rw [i64s_take,List.take_of_length_le (by omega)]
  ((refine W_seqV ?_);intro K hK;(refine sJc ?_))
  (refine ⟨by kernel_rfl,_,.pure rfl (hs),?_⟩;(try (refine sJc ?_)))
  (refine hK _ ?_;clear hK K)
  refine W_ret ?_
  (refine qG ?_;try exact True.intro)
theorem vars_vals (f:List (Int × RR)):(vals f).map (·.1)=vars f:=by simp [vals,vars]
theorem f6norm_ok (f:List (Int × RR)) {B:Nat} (hf:PF f B) (hB:B≤8589934592) :
  Pure Tryz.prog 47 [cF f] (·=cL (normF (vals f))):=by
 have hall:=f6all_ok f (by have:=hf.len;omega)
 have hco:=fun v=>f6coef_ok f v hf hB
 have hsg:∀ v,Pure Tryz.prog 19 [cQ (coef (vals f) v)] (· = .int .i64 (rs (coef (vals f) v))):=fun v=>by
  have:=f3sign_ok (qr (coef (vals f) v)) (qr_ok (by have:=hf.coef v;omega))
  rwa [qr_v,qr_av] at this
 rw [← pick_norm,vars_vals]
 have hSl:=sortI_len (vars f)
 have hfl:=hf.len
 rw [vars_len] at hSl
 generalize sortI (vars f)=S at *
 have hst:∀ i,i<S.length→pickF (vals f) (S.take (i+1))=pickF (vals f) (S.take i)++if coef (vals f) (S.getD i 0)=0 then [] else [(S.getD i 0,coef (vals f) (S.getD i 0))]:=fun i h=>pickF_take h
 have h0:pickF (vals f) (S.take 0)=[]:=rfl
 have hln:∀ i,(pickF (vals f) (S.take i)).length≤S.length:=fun i=>by have:=pickF_len (vals f) (S.take i);simp at this;omega
 have hlast:pickF (vals f) (S.take S.length)=pickF (vals f) S:=by rw [List.take_length]
 generalize hC:coef (vals f)=C at *
 rw [← hlast]
 generalize hE:(fun i=>pickF (vals f) (S.take i))=E at *
 have hE':∀ i,pickF (vals f) (S.take i)=E i:=fun i=>congrFun hE i
 simp only [hE'] at *
 clear hE hE' hlast hC
 (refine pureW Tryz.func47 rfl (rs:=[Go.ResultVar.tmp 2]) rfl (n:=34) rfl ?_;simp only [List.length_cons,List.length_nil,List.replicate,List.cons_append,List.nil_append])
 simp only [cF] at *
 (refine aJc ?_)
 ((refine W_seqV ?_);intro K hK;(refine sJc ?_))
 (refine ⟨by kernel_rfl,_,.pure rfl (hall),?_⟩;(try (refine sJc ?_)))
 (refine hK _ ?_;clear hK K)
 refine W.le ?_ (Le_nil 3 3 123 4 true rfl rfl)
 simp only [List.set]
 ((refine W_seq (W_seqV ?_));intro K hK;(refine sJc ?_))
 (refine hK _ ?_;clear hK K)
 refine W_block (W_loop (fun t:{t:Nat // t≤S.length} =>
   ⟨[.sl (tab rowM f),.any,.any,.sref 3 0 (E t.1).length,.sl (i64s S),.int .i64 t.1,.any,.any,.any,.any,.any,.any,.any,.any,.any,.any,.any,.any,.any,.any,.any,.any,.any,.any,.any,.any,.any,.any,.any,.any,.any,.any,.any,.any],[.dead,.dead,.dead,.arr 123 4 true (tab rowQ (E t.1)),.dead,.dead,.dead,.dead,.dead,.dead,.dead,.dead,.dead,.dead,.dead,.dead,.dead,.dead,.dead,.dead,.dead,.dead,.dead,.dead,.dead,.dead,.dead,.dead,.dead,.dead,.dead,.dead,.dead,.dead]⟩) (fun t=>S.length-t.1)
   ⟨0,by omega⟩ (Le_of (by simp [leE,h0]) (by simp [h0,tab])) fun t=>?_)
 obtain ⟨i,hi⟩:=t
 dsimp only
 by_cases hlt:i<S.length
 ·have hsi:=hst i hlt
  have hli:=hln i
  generalize hv:S.getD i 0=v at *
  have hcv:=hco v
  have hsv:=hsg v
  have hne:=rs_ne (C v)
  generalize E i=o at *
  generalize C v=q at *
  simp only [cQ] at hcv hsv
  refine W_seq ?_
  ((refine W_seqV ?_);intro K hK;(refine sJcX hlt ?_))
  (refine hK _ ?_;clear hK K)
  (refine W_ct rfl ?_)
  refine W_skip ?_
  simp only [thenW]
  refine W_seq ?_
  refine W_block ?_
  ((refine W_seqV ?_);intro K hK;(refine sJcX (And.intro hv hlt) ?_))
  (refine ⟨by kernel_rfl,_,.pure rfl (hcv),?_⟩;(try (refine sJc ?_)))
  (refine hK _ ?_;clear hK K)
  by_cases hq:q=0
  ·have hneg:(rs q != 0)=false:=hne.trans (by simp [hq])
   rw [if_pos hq,List.append_nil] at hsi
   ((refine W_seqV ?_);intro K hK;(refine sJcX hneg ?_))
   (refine ⟨by kernel_rfl,_,.pure rfl (hsv),?_⟩;(try (refine sJc ?_)))
   rw [hneg]
   (refine hK _ ?_;clear hK K)
   (refine W_cf rfl ?_)
   refine W_skip ?_
   simp only [blockW,thenW]
   ((refine W_regV ?_);intro K hK;(refine sJc ?_))
   (refine hK _ ?_;clear hK K)
   simp only [blockW,thenW]
   refine ⟨⟨i+1,by omega⟩,Le_drop (by simp [leE,hsi]) (by simp [leH,hsi]) rfl rfl,?_⟩
   dsimp only
   omega
  ·have hneg:(rs q != 0)=true:=hne.trans (by simp [hq])
   rw [if_neg hq] at hsi
   ((refine W_seqV ?_);intro K hK;(refine sJcX hneg ?_))
   (refine ⟨by kernel_rfl,_,.pure rfl (hsv),?_⟩;(try (refine sJc ?_)))
   rw [hneg]
   (refine hK _ ?_;clear hK K)
   (refine W_ct rfl ?_)
   ((refine W_regS mixed 8 [] (by kernel_rfl) ?_);intro K hK;(refine sJcX (And.intro hv hlt) ?_))
   (repeat refine aI ?_);refine hK _ ?_;clear hK K
   simp only [blockW,thenW]
   ((refine W_regV ?_);intro K hK;(refine sJc ?_))
   (refine hK _ ?_;clear hK K)
   simp only [blockW,thenW]
   refine ⟨⟨i+1,by omega⟩,Le_drop (by simp [leE,hsi]) (by simp [leH,hsi,← tab_snoc,rowQ,tab_take,List.take_of_length_le]) rfl rfl,?_⟩
   dsimp only
   omega
 ·obtain rfl:i=S.length:=by omega
  refine W_seq ?_
  ((refine W_seqV ?_);intro K hK;(refine sJc ?_))
  (refine hK _ ?_;clear hK K)
  (refine W_cf rfl ?_)
  refine W_exit ?_
  simp only [thenW,blockW,if_true]
  ((refine W_seqV ?_);intro K hK;(refine sJc ?_))
  (refine hK _ ?_;clear hK K)
  refine W_ret ?_
  (refine qG ?_;try exact True.intro);try (refine sJcV ?_;try exact True.intro)
  rfl
end Go.Proofs.YtjmkfbhecgkbmaaGreat.Vm
namespace Go.Proofs.YtjmkfbhecgkbmaaGreat.Vm
open Go Go.RowKit
end Go.Proofs.YtjmkfbhecgkbmaaGreat.Vm
namespace Go.Proofs.YtjmkfbhecgkbmaaGreat.Vm
open Go Go.RowKit
end Go.Proofs.YtjmkfbhecgkbmaaGreat.Vm
namespace Go.Proofs.YtjmkfbhecgkbmaaGreat.Vm
open Go Go.RowKit
end Go.Proofs.YtjmkfbhecgkbmaaGreat.Vm
namespace Go.Proofs.YtjmkfbhecgkbmaaGreat.Vm
open Go Go.RowKit
structure At where
 name:ByteArray
 form:List (Int × RR)
 bound:RR
 strict:Bool
def At.cells (a:At):List AV:=[.str a.name,.sl (tab rowM a.form),.bool a.bound.neg,.sl (u32s a.bound.num),.sl (u32s a.bound.den),.bool a.strict]
structure AtOk (a:At):Prop where
 form:FOk a.form 67108864
 nbs:nbs (vals a.form)≤67108864
 bound:a.bound.ok
 nb:nb a.bound.v≤67108864
structure Half where
 name:ByteArray
 shape:List (Int × Rat)
 truth:Bool
 down:Bool
 strict:Bool
 at_:RR
def Half.cells (h:Half):List AV:=[.str h.name,.sl (tab rowQ h.shape),.bool h.truth,.bool h.down,.bool h.strict,.bool h.at_.neg,.sl (u32s h.at_.num),.sl (u32s h.at_.den)]
structure HalfOk (h:Half):Prop where
 shape:Sz h.shape 268435456
 at_:h.at_.ok
 nb:nb h.at_.v≤268435456
def named (b:ByteArray):Bool:=!(b.toList == (ByteArray.mk #[]).toList)
def Half.alone (h:Half):Bool:=named h.name || decide (0<h.shape.length) || h.truth
def together (a b:Half):Bool :=
 if (!a.alone || !b.alone)=true then false
 else if (named a.name || named b.name)=true then !(a.name.toList == b.name.toList) || (a.truth == b.truth)
 else if ((cmpF a.shape b.shape != 0) || (a.down == b.down))=true then true
 else decide ((if a.down then -(rs (a.at_.v-b.at_.v)) else rs (a.at_.v-b.at_.v))<0) || (((if a.down then -(rs (a.at_.v-b.at_.v)) else rs (a.at_.v-b.at_.v)) == 0)&&!a.strict&&!b.strict)
def saysH (a:At) (sign:Bool):Half :=
 if named a.name=true then ⟨a.name,[],sign,false,false,zeroR⟩
 else match normF (vals a.form) with
  | []=>⟨ByteArray.mk #[],[],(decide (0<rs a.bound.v) || (rs a.bound.v == 0&&!a.strict)) == sign,false,false,zeroR⟩
  | p::l=>⟨ByteArray.mk #[],primeF (p::l),false,decide (0<rs (primeC (p::l))) == sign,a.strict == sign,qr (a.bound.v / primeC (p::l))⟩
def rowC (c:List Int):List AV:=[.sl (i64s c)]
def prs:List (Int × Int):=[(1,2),(1,-2),(-1,2),(-1,-2)]
def holds2 (a b:At) (p:Int × Int):Bool:=!together (saysH a (decide (p.1<0))) (saysH b (decide (p.2<0)))
def relT (a b:At) (n:Nat):List (List Int):=((prs.take n).filter (holds2 a b)).map fun p=>[p.1,p.2]
def asg (xs:List Rat) (v:Int):Rat:=if 0≤v then xs.getD v.toNat 0 else 0
def nbl:List Rat→Nat
 | []=>0
 | x::xs=>nb x+nbl xs
theorem nbl_drop (xs:List Rat) {a k:Nat} (h:a≤k):nbl (xs.drop k)≤nbl (xs.drop a):=by
 induction k with
 | zero=>rw [show a=0 by omega];exact Nat.le_refl _
 | succ k ih =>
  by_cases hk:a=k+1
  ·subst hk;exact Nat.le_refl _
  ·refine Nat.le_trans ?_ (ih (by omega))
   by_cases hl:k<xs.length
   ·rw [List.drop_eq_getElem_cons hl,nbl];omega
   ·rw [List.drop_eq_nil_of_le (show xs.length≤k by omega),List.drop_eq_nil_of_le (by omega)]
    exact Nat.le_refl _
theorem nbl_at (xs:List Rat) {a k:Nat} (h:a≤k) (hk:k<xs.length):nb (xs.getD k 0)+nbl (xs.drop (k+1))≤nbl (xs.drop a):=by
 refine Nat.le_trans ?_ (nbl_drop xs h)
 rw [List.drop_eq_getElem_cons hk,nbl]
 simp [List.getD_eq_getElem?_getD,hk]
def nbx (x:Int→Rat):List (Int × Rat)→Nat
 | []=>0
 | p::l=>nb (x p.1)+nbx x l
theorem nbx_le (xs:List Rat):∀ (l:List (Int × Rat)) (a:Nat),NF l→(∀ p∈l,0≤p.1→(a:Int)≤p.1)→nbx (asg xs) l≤l.length+nbl (xs.drop a)
 | [],a,_,_=>by simp [nbx]
 | p::l,a,h,ha=>by
  simp only [nbx,List.length_cons]
  by_cases hp:0≤p.1∧p.1.toNat<xs.length
  ·have h1:=ha p List.mem_cons_self hp.1
   have h2:=nbl_at xs (a:=a) (k:=p.1.toNat) (by omega) hp.2
   have h3:=nbx_le xs l (p.1.toNat+1) h.tail fun q hq _=>by have:=h.head q hq;omega
   have h4:asg xs p.1=xs.getD p.1.toNat 0:=if_pos hp.1
   rw [h4]
   omega
  ·have h4:asg xs p.1=0:=by
    unfold asg
    split
    ·rename_i h0
     have:¬ p.1.toNat<xs.length:=fun h=>hp ⟨h0,h⟩
     rw [List.getD_eq_getElem?_getD,List.getElem?_eq_none (by omega)]
     rfl
    ·rfl
   have h3:=nbx_le xs l a h.tail fun q hq h0=>ha q (List.mem_cons_of_mem _ hq) h0
   rw [h4,nb_zero]
   omega
theorem nb_ev2 (x:Int→Rat):∀ l:List (Int × Rat),nb (ev2 x l)≤1+nbs l+nbx x l
 | []=>by simp [ev2,nb_zero,nbs,nbx]
 | p::l=>by
  have h1:=nb_add (p.2*x p.1) (ev2 x l)
  have h2:=nb_mul p.2 (x p.1)
  have h3:=nb_ev2 x l
  simp only [ev2,nbs,nbx]
  omega
theorem nb_value (xs:List Rat) (f:List (Int × Rat)):nb (ev2 (asg xs) f)≤1+2*nbs f+nbl xs:=by
 rw [← ev2_norm]
 have h1:=nb_ev2 (asg xs) (normF f)
 have h2:=nbx_le xs (normF f) 0 (NF.norm f) fun p _ h=>by simpa using h
 rw [List.drop_zero] at h2
 have h3:=nbs_norm f
 have h4:=nbs_len (normF f)
 omega
theorem nb_asg (xs:List Rat) (v:Int):nb (asg xs v)≤1+nbl xs:=by
 unfold asg
 split
 ·by_cases h:v.toNat<xs.length
  ·have:=nbl_at xs (a:=0) (k:=v.toNat) (by omega) h
   rw [List.drop_zero] at this
   omega
  ·rw [List.getD_eq_getElem?_getD,List.getElem?_eq_none (by omega)]
   show nb 0≤_
   rw [nb_zero];omega
 ·rw [nb_zero];omega
def inN (names:List ByteArray) (n:ByteArray):Bool:=names.any fun m=>m.toList == n.toList
def truth (a:At) (xs:List Rat) (names:List ByteArray):Bool :=
 if named a.name=true then inN names a.name
 else decide (rs (ev2 (asg xs) (vals a.form)-a.bound.v)<0) || (rs (ev2 (asg xs) (vals a.form)-a.bound.v) == 0&&!a.strict)
def Half.so (h:Half) (xs:List Rat) (names:List ByteArray):Bool :=
 if named h.name=true then inN names h.name == h.truth
 else if h.shape=[] then h.truth
 else if h.down=true then decide (ev2 (asg xs) h.shape<h.at_.v) || (decide (ev2 (asg xs) h.shape=h.at_.v)&&!h.strict)
 else decide (h.at_.v<ev2 (asg xs) h.shape) || (decide (ev2 (asg xs) h.shape=h.at_.v)&&!h.strict)
structure Half.fit (h:Half):Prop where
 nf:NF h.shape
 up:h.shape=[]→h.down=false
def absQ (q:Rat):Rat:=if q<0 then -q else q
theorem sDa {G G':Prop} (h:G') (e:G=G':=by conv=>lhs;simp (disch:=omega) only [rowsOf,cNat,cN,St.ret,St.seth,Eff.app,Eff.wi,sepL,guardOf,St.known,objOf,List.set,sliceW,litW,copyW,lenOf,bnd,mxOk,ofCells,TI.isAgg,cellsOf,storable,AV.one,dead,laid,overlay,reduceCtorEq,Int.reduceLE,Int.reduceLT,Int.reduceSub,Int.reduceAdd,Nat.reduceMul,Int.reduceToNat,Nat.reducePow,Int.reduceNeg,Nat.reduceAdd,Nat.reduceLT,Nat.reduceLeDiff,sA,sB,cQ,sT]):G:=e.mpr h
theorem sDaX {G G' P:Prop} (p:P) (h:G') (e:P→G=G':=by intro p;conv=>lhs;simp (disch:=omega) only [rowsOf,cNat,cN,St.ret,St.seth,Eff.app,Eff.wi,sepL,guardOf,St.known,objOf,List.set,sliceW,litW,copyW,lenOf,bnd,mxOk,ofCells,TI.isAgg,cellsOf,storable,AV.one,dead,laid,overlay,reduceCtorEq,Int.reduceLE,Int.reduceLT,Int.reduceSub,Int.reduceAdd,Nat.reduceMul,Int.reduceToNat,Nat.reducePow,Int.reduceNeg,Nat.reduceAdd,Nat.reduceLT,Nat.reduceLeDiff,sA,sB,cQ,sT,p]):G:=(e p).mpr h
theorem sDaV {G G':Prop} (h:G') (e:G=G':=by conv=>lhs;simp (disch:=omega) only [rowsOf,cNat,cN,St.ret,St.seth,Eff.app,Eff.wi,sepL,guardOf,St.known,objOf,List.set,sliceW,litW,copyW,lenOf,bnd,mxOk,ofCells,TI.isAgg,cellsOf,storable,AV.one,dead,laid,overlay,reduceCtorEq,Int.reduceLE,Int.reduceLT,Int.reduceSub,Int.reduceAdd,Nat.reduceMul,Int.reduceToNat,Nat.reducePow,Int.reduceNeg,Nat.reduceAdd,Nat.reduceLT,Nat.reduceLeDiff,sA,sB,cQ,sT,view_sref,viewRef,view_agg,views_cons,views_nil,view_bool,view_int,view_sl,view_nils,view_str,view_tup,view_nilif]):G:=e.mpr h
theorem aDa {G G':Prop} (h:G') (f:Wr G'→G:=by intro h;(repeat (first|(refine W_seqV fun K hK=>?_;(try (refine sDa ?_;try exact True.intro));(repeat refine aI ?_);refine hK _ ?_;clear hK K)|(refine W_seqR fun K hK=>?_;(try (refine sDa ?_;try exact True.intro));(repeat refine aI ?_);refine hK _ ?_;clear hK K)|(refine W_seqD mixed [] (by kernel_rfl) fun K hK=>?_;(try (refine sDa ?_;try exact True.intro));(repeat refine aI ?_);refine hK _ ?_;clear hK K)));exact h.out):G:=f ⟨h⟩
structure DD where
 a:RR
 b:RR
def DD.cells (d:DD):List AV:=[.bool d.a.neg,.sl (u32s d.a.num),.sl (u32s d.a.den),.bool d.b.neg,.sl (u32s d.b.num),.sl (u32s d.b.den)]
def DD.av (d:DD):AV := .agg d.cells
def DD.v (d:DD):Rat × Rat:=(d.a.v,d.b.v)
def DD.ok (d:DD):Prop:=d.a.ok∧d.b.ok
def dq (x:Rat × Rat):DD:=⟨qr x.1,qr x.2⟩
def cD (x:Rat × Rat):AV := .agg [.bool (decide (x.1.num<0)),.sl (u32s (limbs x.1.num.natAbs)),.sl (u32s (limbs x.1.den)),.bool (decide (x.2.num<0)),.sl (u32s (limbs x.2.num.natAbs)),.sl (u32s (limbs x.2.den))]
theorem dq_av (x:Rat × Rat):(dq x).av=cD x:=rfl
theorem dq_v (x:Rat × Rat):(dq x).v=x:=by simp [dq,DD.v,qr_v]
def nb2 (x:Rat × Rat):Nat:=max (nb x.1) (nb x.2)
theorem nb2_1 (x:Rat × Rat):nb x.1≤nb2 x:=Nat.le_max_left _ _
theorem nb2_2 (x:Rat × Rat):nb x.2≤nb2 x:=Nat.le_max_right _ _
theorem nb2_le {x:Rat × Rat} {k:Nat} (h1:nb x.1≤k) (h2:nb x.2≤k):nb2 x≤k:=Nat.max_le.2 ⟨h1,h2⟩
theorem dq_ok {x:Rat × Rat} (h:nb2 x<17179869184):(dq x).ok:=⟨qr_ok (by have:=nb2_1 x;omega),qr_ok (by have:=nb2_2 x;omega)⟩
def dadd (x y:Rat × Rat):Rat × Rat:=(x.1+y.1,x.2+y.2)
def dsub (x y:Rat × Rat):Rat × Rat:=(x.1-y.1,x.2-y.2)
def dneg (x:Rat × Rat):Rat × Rat:=(-x.1,-x.2)
def dscale (c:Rat) (x:Rat × Rat):Rat × Rat:=(c*x.1,c*x.2)
def lexI (a b:Int):Int:=if a≠0 then a else b
def dsg (x:Rat × Rat):Int:=lexI (rs x.1) (rs x.2)
theorem nb2_scale (c:Rat) (x:Rat × Rat):nb2 (dscale c x)≤nb c+nb2 x:=nb2_le (Nat.le_trans (nb_mul _ _) (Nat.add_le_add_left (nb2_1 _) _)) (Nat.le_trans (nb_mul _ _) (Nat.add_le_add_left (nb2_2 _) _))
theorem f5norm_ok (d:DD) (h:d.ok):Pure Tryz.prog 97 [d.av] (·=cD d.v):=by
 have h1:=f3norm_ok d.a h.1
 have h2:=f3norm_ok d.b h.2
 obtain ⟨⟨n,x,y⟩,⟨m,z,w⟩⟩:=d
 simp only [DD.av,DD.cells,DD.v,RR.av] at *
 generalize RR.v _=p at *
 generalize RR.v _=q at *
 simp only [cD,cQ] at *
 (refine pureW Tryz.func97 rfl (rs:=[Go.ResultVar.cell 2 41]) rfl (n:=10) rfl ?_;simp only [List.length_cons,List.length_nil,List.replicate,List.cons_append,List.nil_append])
 (refine aDa ?_)
 ((refine W_seqD mixed [] (by kernel_rfl) ?_);intro K hK;(refine sDa ?_))
 (refine ⟨by kernel_rfl,_,.pure rfl (h1),?_⟩;(try (refine sDa ?_)))
 (refine ⟨by kernel_rfl,_,.pure rfl (h2),?_⟩;(try (refine sDa ?_)))
 (refine hK _ ?_;clear hK K)
 refine W_ret ?_
 (refine qG ?_;try exact True.intro);try (refine sDaV ?_;try exact True.intro)
theorem f5sub_ok (d e:DD) (hd:d.ok) (he:e.ok):Pure Tryz.prog 109 [d.av,e.av] (·=cD (dsub d.v e.v)):=by
 have h1:=f3sub_ok d.a e.a hd.1 he.1
 have h2:=f3sub_ok d.b e.b hd.2 he.2
 obtain ⟨⟨n,x,y⟩,⟨m,z,w⟩⟩:=d
 obtain ⟨⟨n',x',y'⟩,⟨m',z',w'⟩⟩:=e
 simp only [DD.av,DD.cells,DD.v,dsub,RR.av] at *
 generalize RR.v _-RR.v _=p at *
 generalize RR.v _-RR.v _=q at *
 simp only [cD,cQ] at *
 (refine pureW Tryz.func109 rfl (rs:=[Go.ResultVar.cell 4 41]) rfl (n:=16) rfl ?_;simp only [List.length_cons,List.length_nil,List.replicate,List.cons_append,List.nil_append])
 (refine aDa ?_)
 ((refine W_seqD mixed [] (by kernel_rfl) ?_);intro K hK;(refine sDa ?_))
 (refine ⟨by kernel_rfl,_,.pure rfl (h1),?_⟩;(try (refine sDa ?_)))
 (refine ⟨by kernel_rfl,_,.pure rfl (h2),?_⟩;(try (refine sDa ?_)))
 (refine hK _ ?_;clear hK K)
 refine W_ret ?_
 (refine qG ?_;try exact True.intro);try (refine sDaV ?_;try exact True.intro)
theorem dadd_ok (d e:DD) (hd:d.ok) (he:e.ok):Pure Tryz.prog 122 [d.av,e.av] (·=cD (dadd d.v e.v)):=by
 have h1:=radd_ok d.a e.a hd.1 he.1
 have h2:=radd_ok d.b e.b hd.2 he.2
 obtain ⟨⟨n,x,y⟩,⟨m,z,w⟩⟩:=d
 obtain ⟨⟨n',x',y'⟩,⟨m',z',w'⟩⟩:=e
 simp only [DD.av,DD.cells,DD.v,dadd,RR.av] at *
 generalize RR.v _+RR.v _=p at *
 generalize RR.v _+RR.v _=q at *
 simp only [cD,cQ] at *
 (refine pureW Tryz.func122 rfl (rs:=[Go.ResultVar.cell 4 41]) rfl (n:=16) rfl ?_;simp only [List.length_cons,List.length_nil,List.replicate,List.cons_append,List.nil_append])
 (refine aDa ?_)
 ((refine W_seqD mixed [] (by kernel_rfl) ?_);intro K hK;(refine sDa ?_))
 (refine ⟨by kernel_rfl,_,.pure rfl (h1),?_⟩;(try (refine sDa ?_)))
 (refine ⟨by kernel_rfl,_,.pure rfl (h2),?_⟩;(try (refine sDa ?_)))
 (refine hK _ ?_;clear hK K)
 refine W_ret ?_
 (refine qG ?_;try exact True.intro);try (refine sDaV ?_;try exact True.intro)
theorem dscale_ok (c:RR) (d:DD) (hc:c.ok) (hd:d.ok):Pure Tryz.prog 123 [c.av,d.av] (·=cD (dscale c.v d.v)):=by
 have h1:=rmul_ok c d.a hc hd.1
 have h2:=rmul_ok c d.b hc hd.2
 obtain ⟨⟨n,x,y⟩,⟨m,z,w⟩⟩:=d
 obtain ⟨n',x',y'⟩:=c
 simp only [DD.av,DD.cells,DD.v,dscale,RR.av] at *
 generalize RR.v _*RR.v _=p at *
 generalize RR.v _*RR.v _=q at *
 simp only [cD,cQ] at *
 (refine pureW Tryz.func123 rfl (rs:=[Go.ResultVar.cell 4 41]) rfl (n:=14) rfl ?_;simp only [List.length_cons,List.length_nil,List.replicate,List.cons_append,List.nil_append])
 (refine aDa ?_)
 ((refine W_seqD mixed [] (by kernel_rfl) ?_);intro K hK;(refine sDa ?_))
 (refine ⟨by kernel_rfl,_,.pure rfl (h1),?_⟩;(try (refine sDa ?_)))
 (refine ⟨by kernel_rfl,_,.pure rfl (h2),?_⟩;(try (refine sDa ?_)))
 (refine hK _ ?_;clear hK K)
 refine W_ret ?_
 (refine qG ?_;try exact True.intro);try (refine sDaV ?_;try exact True.intro)
theorem f5of_ok (r:RR) (h:r.ok):Pure Tryz.prog 41 [r.av] (·=cD (r.v,0)):=by
 have h1:=f5norm_ok ⟨r,⟨false,[],[]⟩⟩ ⟨h,⟨fun x hx=>by simp at hx,fun x hx=>by simp at hx,by simp,by simp⟩⟩
 have h2:DD.v ⟨r,⟨false,[],[]⟩⟩=(r.v,0):=by
  simp only [DD.v,RR.v]
  rw [show val []=0 from rfl]
  simp [Rat.mkRat_zero]
 rw [h2] at h1
 obtain ⟨n,x,y⟩:=r
 simp only [DD.av,DD.cells,RR.av,show u32s []=[] from rfl] at *
 generalize ((RR.v _,0):Rat × Rat)=p at *
 simp only [cD] at *
 (refine pureW Tryz.func41 rfl (rs:=[Go.ResultVar.cell 2 41]) rfl (n:=6) rfl ?_;simp only [List.length_cons,List.length_nil,List.replicate,List.cons_append,List.nil_append])
 (refine aDa ?_)
 ((refine W_seqV ?_);intro K hK;(refine sDa ?_))
 (refine ⟨by kernel_rfl,_,.pure rfl (h1),?_⟩;(try (refine sDa ?_)))
 (refine hK _ ?_;clear hK K)
 refine W_ret ?_
 (refine qG ?_;try exact True.intro);try (refine sDaV ?_;try exact True.intro)
theorem dof_ok (r:RR) (h:r.ok):Pure Tryz.prog 106 [r.av] (·=cD (r.v,0)):=by
 have h1:=rnorm_ok r h
 have h2:=rwhole_ok 0 (by omega) (by omega)
 obtain ⟨n,x,y⟩:=r
 have h3:(((0:Int)):Rat)=0:=rfl
 rw [h3] at h2
 simp only [RR.av] at *
 generalize RR.v _=p at *
 generalize (0:Rat)=q at *
 simp only [cD,cQ] at *
 (refine pureW Tryz.func106 rfl (rs:=[Go.ResultVar.cell 2 41]) rfl (n:=7) rfl ?_;simp only [List.length_cons,List.length_nil,List.replicate,List.cons_append,List.nil_append])
 (refine aDa ?_)
 ((refine W_seqV ?_);intro K hK;(refine sDa ?_))
 (refine ⟨by kernel_rfl,_,.pure rfl (h1),?_⟩;(try (refine sDa ?_)))
 (refine ⟨by kernel_rfl,_,.pure rfl (h2),?_⟩;(try (refine sDa ?_)))
 (refine hK _ ?_;clear hK K)
 refine W_ret ?_
 (refine qG ?_;try exact True.intro);try (refine sDaV ?_;try exact True.intro)
theorem ne_z {z:Int} (h:z≠0):(z != 0)=true:=by simp [h]
theorem f5sign_ok (d:DD) (h:d.ok):Pure Tryz.prog 108 [d.av] (· = .int .i64 (dsg d.v)):=by
 have h1:=f3sign_ok d.a h.1
 have h2:=f3sign_ok d.b h.2
 obtain ⟨⟨n,x,y⟩,⟨m,z,w⟩⟩:=d
 simp only [DD.av,DD.cells,DD.v,dsg,RR.av] at *
 generalize rs (RR.v _)=p at *
 generalize rs (RR.v _)=q at *
 unfold lexI
 by_cases h0:p=0
 ·subst h0
  have hz:((0:Int) != 0)=false:=rfl
  rw [if_neg (by simp)]
  (refine pureW Tryz.func108 rfl (rs:=[Go.ResultVar.tmp 2]) rfl (n:=13) rfl ?_;simp only [List.length_cons,List.length_nil,List.replicate,List.cons_append,List.nil_append])
  (refine aDa ?_)
  ((refine W_seq (W_seqV ?_));intro K hK;(refine sDa ?_))
  (refine ⟨by kernel_rfl,_,.pure rfl (h1),?_⟩;(try (refine sDa ?_)))
  (refine hK _ ?_;clear hK K)
  refine W_seq ?_
  ((refine W_regV ?_);intro K hK;(refine sDaX hz ?_))
  (refine hK _ ?_;clear hK K)
  (refine W_cf rfl ?_)
  refine W_skip ?_
  simp only [thenW]
  ((refine W_seqV ?_);intro K hK;(refine sDa ?_))
  (refine ⟨by kernel_rfl,_,.pure rfl (h2),?_⟩;(try (refine sDa ?_)))
  (refine hK _ ?_;clear hK K)
  refine W_ret ?_
  (refine qG ?_;try exact True.intro);try (refine sDaV ?_;try exact True.intro)
 ·have hz:=ne_z h0
  rw [if_pos h0]
  (refine pureW Tryz.func108 rfl (rs:=[Go.ResultVar.tmp 2]) rfl (n:=13) rfl ?_;simp only [List.length_cons,List.length_nil,List.replicate,List.cons_append,List.nil_append])
  (refine aDa ?_)
  ((refine W_seq (W_seqV ?_));intro K hK;(refine sDa ?_))
  (refine ⟨by kernel_rfl,_,.pure rfl (h1),?_⟩;(try (refine sDa ?_)))
  (refine hK _ ?_;clear hK K)
  refine W_seq ?_
  ((refine W_regV ?_);intro K hK;(refine sDaX hz ?_))
  (refine hK _ ?_;clear hK K)
  (refine W_ct rfl ?_)
  ((refine W_seqV ?_);intro K hK;(refine sDa ?_))
  (refine hK _ ?_;clear hK K)
  refine W_ret ?_
  (refine qG ?_;try exact True.intro);try (refine sDaV ?_;try exact True.intro)
theorem f5cmp_ok (d e:DD) (hd:d.ok) (he:e.ok) (hs:nb2 (dsub d.v e.v)<17179869184):Pure Tryz.prog 44 [d.av,e.av] (· = .int .i64 (dsg (dsub d.v e.v))):=by
 have h1:=f5sub_ok d e hd he
 have h2:=f5sign_ok (dq (dsub d.v e.v)) (dq_ok hs)
 rw [dq_av,dq_v] at h2
 generalize dsub d.v e.v=p at *
 obtain ⟨⟨n,x,y⟩,⟨m,z,w⟩⟩:=d
 obtain ⟨⟨n',x',y'⟩,⟨m',z',w'⟩⟩:=e
 simp only [DD.av,DD.cells,cD] at *
 (refine pureW Tryz.func44 rfl (rs:=[Go.ResultVar.tmp 4]) rfl (n:=9) rfl ?_;simp only [List.length_cons,List.length_nil,List.replicate,List.cons_append,List.nil_append])
 (refine aDa ?_)
 ((refine W_seqV ?_);intro K hK;(refine sDa ?_))
 (refine ⟨by kernel_rfl,_,.pure rfl (h1),?_⟩;(try (refine sDa ?_)))
 (refine ⟨by kernel_rfl,_,.pure rfl (h2),?_⟩;(try (refine sDa ?_)))
 (refine hK _ ?_;clear hK K)
 refine W_ret ?_
 (refine qG ?_;try exact True.intro);try (refine sDaV ?_;try exact True.intro)
theorem dcmp_ok (d e:DD) (hd:d.ok) (he:e.ok):Pure Tryz.prog 57 [d.av,e.av] (· = .int .i64 (dsg (dsub d.v e.v))):=by
 have h1:=rcmp_ok d.a e.a hd.1 he.1
 have h2:=rcmp_ok d.b e.b hd.2 he.2
 obtain ⟨⟨n,x,y⟩,⟨m,z,w⟩⟩:=d
 obtain ⟨⟨n',x',y'⟩,⟨m',z',w'⟩⟩:=e
 simp only [DD.av,DD.cells,DD.v,dsg,dsub,RR.av] at *
 generalize rs (RR.v _-RR.v _)=p at *
 generalize rs (RR.v _-RR.v _)=q at *
 unfold lexI
 by_cases h0:p=0
 ·subst h0
  have hz:((0:Int) != 0)=false:=rfl
  rw [if_neg (by simp)]
  (refine pureW Tryz.func57 rfl (rs:=[Go.ResultVar.tmp 4]) rfl (n:=19) rfl ?_;simp only [List.length_cons,List.length_nil,List.replicate,List.cons_append,List.nil_append])
  (refine aDa ?_)
  ((refine W_seq (W_seqV ?_));intro K hK;(refine sDa ?_))
  (refine ⟨by kernel_rfl,_,.pure rfl (h1),?_⟩;(try (refine sDa ?_)))
  (refine hK _ ?_;clear hK K)
  refine W_seq ?_
  ((refine W_regV ?_);intro K hK;(refine sDaX hz ?_))
  (refine hK _ ?_;clear hK K)
  (refine W_cf rfl ?_)
  refine W_skip ?_
  simp only [thenW]
  ((refine W_seqV ?_);intro K hK;(refine sDa ?_))
  (refine ⟨by kernel_rfl,_,.pure rfl (h2),?_⟩;(try (refine sDa ?_)))
  (refine hK _ ?_;clear hK K)
  refine W_ret ?_
  (refine qG ?_;try exact True.intro);try (refine sDaV ?_;try exact True.intro)
 ·have hz:=ne_z h0
  rw [if_pos h0]
  (refine pureW Tryz.func57 rfl (rs:=[Go.ResultVar.tmp 4]) rfl (n:=19) rfl ?_;simp only [List.length_cons,List.length_nil,List.replicate,List.cons_append,List.nil_append])
  (refine aDa ?_)
  ((refine W_seq (W_seqV ?_));intro K hK;(refine sDa ?_))
  (refine ⟨by kernel_rfl,_,.pure rfl (h1),?_⟩;(try (refine sDa ?_)))
  (refine hK _ ?_;clear hK K)
  refine W_seq ?_
  ((refine W_regV ?_);intro K hK;(refine sDaX hz ?_))
  (refine hK _ ?_;clear hK K)
  (refine W_ct rfl ?_)
  ((refine W_seqV ?_);intro K hK;(refine sDa ?_))
  (refine hK _ ?_;clear hK K)
  refine W_ret ?_
  (refine qG ?_;try exact True.intro);try (refine sDaV ?_;try exact True.intro)
theorem sLd {G G':Prop} (h:G') (e:G=G':=by conv=>lhs;simp (disch:=omega) only [rowsOf,cNat,cN,St.ret,St.seth,Eff.app,Eff.wi,sepL,guardOf,St.known,objOf,List.set,sliceW,litW,copyW,lenOf,bnd,mxOk,ofCells,TI.isAgg,cellsOf,storable,AV.one,dead,laid,overlay,reduceCtorEq,Int.reduceLE,Int.reduceLT,Int.reduceSub,Int.reduceAdd,Nat.reduceMul,Int.reduceToNat,Nat.reducePow,Int.reduceNeg,Nat.reduceAdd,Nat.reduceLT,Nat.reduceLeDiff,sA,sB,cQ,rowM,rowQ,i64s_length,i64s_all,i64s_take,i64s_one,i64s_pure,i64s_append,tab_length,tab_getD_zero,List.take_length,List.length_append,tab_drop,tab_take,tab_append,tab_nil,rowM_all,rowM_one,rowM_pure,rowQ_all,rowQ_one,rowQ_pure,sT]):G:=e.mpr h
theorem sLdX {G G' P:Prop} (p:P) (h:G') (e:P→G=G':=by intro p;conv=>lhs;simp (disch:=omega) only [rowsOf,cNat,cN,St.ret,St.seth,Eff.app,Eff.wi,sepL,guardOf,St.known,objOf,List.set,sliceW,litW,copyW,lenOf,bnd,mxOk,ofCells,TI.isAgg,cellsOf,storable,AV.one,dead,laid,overlay,reduceCtorEq,Int.reduceLE,Int.reduceLT,Int.reduceSub,Int.reduceAdd,Nat.reduceMul,Int.reduceToNat,Nat.reducePow,Int.reduceNeg,Nat.reduceAdd,Nat.reduceLT,Nat.reduceLeDiff,sA,sB,cQ,rowM,rowQ,i64s_length,i64s_all,i64s_take,i64s_one,i64s_pure,i64s_append,tab_length,tab_getD_zero,List.take_length,List.length_append,tab_drop,tab_take,tab_append,tab_nil,rowM_all,rowM_one,rowM_pure,rowQ_all,rowQ_one,rowQ_pure,sT,p]):G:=(e p).mpr h
theorem sLdV {G G':Prop} (h:G') (e:G=G':=by conv=>lhs;simp (disch:=omega) only [rowsOf,cNat,cN,St.ret,St.seth,Eff.app,Eff.wi,sepL,guardOf,St.known,objOf,List.set,sliceW,litW,copyW,lenOf,bnd,mxOk,ofCells,TI.isAgg,cellsOf,storable,AV.one,dead,laid,overlay,reduceCtorEq,Int.reduceLE,Int.reduceLT,Int.reduceSub,Int.reduceAdd,Nat.reduceMul,Int.reduceToNat,Nat.reducePow,Int.reduceNeg,Nat.reduceAdd,Nat.reduceLT,Nat.reduceLeDiff,sA,sB,cQ,rowM,rowQ,i64s_length,i64s_all,i64s_take,i64s_one,i64s_pure,i64s_append,tab_length,tab_getD_zero,List.take_length,List.length_append,tab_drop,tab_take,tab_append,tab_nil,rowM_all,rowM_one,rowM_pure,rowQ_all,rowQ_one,rowQ_pure,sT,view_sref,viewRef,view_agg,views_cons,views_nil,view_bool,view_int,view_sl,view_nils,view_str,view_tup,view_nilif]):G:=e.mpr h
theorem aLd {G G':Prop} (h:G') (f:Wr G'→G:=by intro h;(repeat (first|(refine W_seqV fun K hK=>?_;(try (refine sLd ?_;try exact True.intro));(repeat refine aI ?_);refine hK _ ?_;clear hK K)|(refine W_seqR fun K hK=>?_;(try (refine sLd ?_;try exact True.intro));(repeat refine aI ?_);refine hK _ ?_;clear hK K)|(refine W_seqD mixed [] (by kernel_rfl) fun K hK=>?_;(try (refine sLd ?_;try exact True.intro));(repeat refine aI ?_);refine hK _ ?_;clear hK K)));exact h.out):G:=f ⟨h⟩
theorem lvars_ok (f:List (Int × RR)) {B:Nat} (h:FOk f B) (hB:B<17179869184):Pure Tryz.prog 79 [cF f] (· = .sl (i64s ((normF (vals f)).map (·.1)))):=by
 have hn:=lnorm_ok f h hB
 have hl:=len_norm (vals f)
 rw [vals_length] at hl
 have hfl:=h.len
 generalize normF (vals f)=l at *
 have hst:∀ i,i<l.length→(l.take (i+1)).map (·.1)=(l.take i).map (·.1)++[(l.getD i default).1]:=fun i hi=>by
  rw [List.take_succ_eq_append_getElem hi,List.map_append]
  simp [List.getD_eq_getElem?_getD,hi]
 have hln:∀ i,i≤l.length→((l.take i).map (·.1)).length=i:=fun i h=>by simp;omega
 have h0:(l.take 0).map (·.1)=[]:=rfl
 have hlast:(l.take l.length).map (·.1)=l.map (·.1):=by rw [List.take_length]
 rw [← hlast]
 generalize hE:(fun i=>(l.take i).map (·.1))=E at *
 have hE':∀ i,(l.take i).map (·.1)=E i:=fun i=>congrFun hE i
 simp only [hE'] at *
 clear hE hE' hlast
 simp only [cF,cL] at hn ⊢
 (refine pureW Tryz.func79 rfl (rs:=[Go.ResultVar.tmp 2]) rfl (n:=20) rfl ?_;simp only [List.length_cons,List.length_nil,List.replicate,List.cons_append,List.nil_append])
 (refine aLd ?_)
 refine W.le ?_ (Le_nil 3 3 3 1 true rfl rfl)
 simp only [List.set]
 refine W_seq ?_
 ((refine W_seqV ?_);intro K hK;(refine sLd ?_))
 (refine ⟨by kernel_rfl,_,.pure rfl (hn),?_⟩;(try (refine sLd ?_)))
 (refine hK _ ?_;clear hK K)
 refine W_block (W_loop (fun t:{t:Nat // t≤l.length} =>
   ⟨[.any,.any,.any,.sref 3 0 t.1,.any,.any,.any,.sl (tab rowQ l),.int .i64 l.length,.int .i64 t.1,.any,.any,.any,.any,.any,.any,.any,.any,.any,.any],[.dead,.dead,.dead,.arr 3 1 true (i64s (E t.1)),.dead,.dead,.dead,.dead,.dead,.dead,.dead,.dead,.dead,.dead,.dead,.dead,.dead,.dead,.dead,.dead]⟩) (fun t=>l.length-t.1)
   ⟨0,by omega⟩ (Le_of (by simp [leE]) (by simp [h0,i64s])) fun t=>?_)
 obtain ⟨i,hi⟩:=t
 dsimp only
 by_cases hlt:i<l.length
 ·have hXi:(tab rowQ l).getD i []=rowQ (l.getD i default):=tab_getD hlt
  have hsi:=hst i hlt
  have hli:=hln i (by omega)
  generalize l.getD i default=p at *
  generalize E i=o at *
  simp only [rowQ] at hXi
  refine W_seq ?_
  ((refine W_regV ?_);intro K hK;(refine sLdX hlt ?_))
  (refine hK _ ?_;clear hK K)
  (refine W_seq (W_ct rfl ?_))
  refine W_skip ?_
  simp only [thenW]
  refine W_seq ?_
  refine W_block ?_
  ((refine W_seqV ?_);intro K hK;(refine sLdX (And.intro hXi hlt) ?_))
  (refine hK _ ?_;clear hK K)
  ((refine W_regR ?_);intro K hK;(refine sLdX hli ?_))
  (repeat refine aI ?_);refine hK _ ?_;clear hK K
  simp only [blockW,thenW]
  ((refine W_regV ?_);intro K hK;(refine sLd ?_))
  (refine hK _ ?_;clear hK K)
  simp only [blockW,thenW]
  refine ⟨⟨i+1,by omega⟩,Le_drop (by simp [leE]) (by simp [leH,hsi,i64s,List.take_of_length_le,hli]) rfl rfl,?_⟩
  dsimp only
  omega
 ·obtain rfl:i=l.length:=by omega
  have hli:=hln l.length (by omega)
  refine W_seq ?_
  ((refine W_regV ?_);intro K hK;(refine sLd ?_))
  (refine hK _ ?_;clear hK K)
  (refine W_seq (W_cf rfl ?_))
  refine W_exit ?_
  simp only [thenW,blockW,if_true]
  ((refine W_seqV ?_);intro K hK;(refine sLd ?_))
  (refine hK _ ?_;clear hK K)
  refine W_ret ?_
  (refine qG ?_;try exact True.intro);try (refine sLdV ?_;try exact True.intro)
  rw [List.take_of_length_le (by simp [i64s,hli])]
def idxF (l:List (Int × Rat)) (v:Int):Int :=
 match l with
 | [] => -1
 | p::l=>if p.1=v then 0 else (let r:=idxF l v;if r<0 then -1 else r+1)
def delF (l:List (Int × Rat)) (v:Int):List (Int × Rat):=l.filter fun p=>!(p.1 == v)
theorem delF_len (l:List (Int × Rat)) (v:Int):(delF l v).length≤l.length:=List.length_filter_le _ _
end Go.Proofs.YtjmkfbhecgkbmaaGreat.Vm
namespace Go.Proofs.YtjmkfbhecgkbmaaGreat.Vm
open Go Go.RowKit
end Go.Proofs.YtjmkfbhecgkbmaaGreat.Vm
namespace Go.Proofs.YtjmkfbhecgkbmaaGreat.Vm
open Go Go.RowKit
def affM (f:List (Int × RR)) (r:RR):List AV:=[.sl (tab rowM f),.bool r.neg,.sl (u32s r.num),.sl (u32s r.den)]
def affQ (f:List (Int × Rat)) (q:Rat):List AV:=[.sl (tab rowQ f),.bool (decide (q.num<0)),.sl (u32s (limbs q.num.natAbs)),.sl (u32s (limbs q.den))]
theorem delF_sz {l:List (Int × Rat)} {B:Nat} (h:Sz l B) (v:Int):Sz (delF l v) B:=by
 refine ⟨fun w=>?_,Nat.le_trans (delF_len l v) h.l⟩
 refine Nat.le_trans ?_ (h.b w)
 unfold delF
 induction l with
 | nil=>exact Nat.le_refl _
 | cons p l ih =>
  have ih:=ih ⟨fun w=>by have:=h.b w;simp only [nbv] at this;omega,by have:=h.l;simp at this;omega⟩
  rw [List.filter_cons]
  split
  ·simp only [nbv];omega
  ·simp only [nbv];omega
structure BB where
 has:Bool
 at_:DD
 why:Int
def BB.cells (b:BB):List AV:=[.bool b.has,.bool b.at_.a.neg,.sl (u32s b.at_.a.num),.sl (u32s b.at_.a.den),.bool b.at_.b.neg,.sl (u32s b.at_.b.num),.sl (u32s b.at_.b.den),.int .i64 b.why]
structure LL where
 lower:BB
 upper:BB
def LL.cells (l:LL):List AV:=[.bool l.lower.has,.bool l.lower.at_.a.neg,.sl (u32s l.lower.at_.a.num),.sl (u32s l.lower.at_.a.den),.bool l.lower.at_.b.neg,.sl (u32s l.lower.at_.b.num),.sl (u32s l.lower.at_.b.den),.int .i64 l.lower.why,
 .bool l.upper.has,.bool l.upper.at_.a.neg,.sl (u32s l.upper.at_.a.num),.sl (u32s l.upper.at_.a.den),.bool l.upper.at_.b.neg,.sl (u32s l.upper.at_.b.num),.sl (u32s l.upper.at_.b.den),.int .i64 l.upper.why]
def zeroD0:DD:=⟨zeroR,zeroR⟩
def zeroB:BB:=⟨false,zeroD0,0⟩
def zeroL:LL:=⟨zeroB,zeroB⟩
instance:Inhabited LL:=⟨zeroL⟩
def rowL (l:LL):List AV:=l.cells
theorem rowL_all (f:List LL):AllLen 16 (tab rowL f):=tab_all (k:=16) (fun _=>rfl) f
theorem rowL_one (f:List LL):AllOne (tab rowL f):=tab_one (fun _=>rfl) f
theorem rowL_pure (f:List LL):AllPure (tab rowL f):=tab_pure (fun _=>rfl) f
def limOf (ls:List LL) (v:Int):LL:=if 0≤v∧v<(ls.length:Int) then ls.getD v.toNat default else zeroL
def pickB (u:Bool) (c:Rat) (l:LL):BB:=if (decide (0<rs c) == u)=true then l.upper else l.lower
end Go.Proofs.YtjmkfbhecgkbmaaGreat.Vm
