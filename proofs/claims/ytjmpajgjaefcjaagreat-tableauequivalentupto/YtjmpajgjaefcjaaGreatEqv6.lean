/-
  Part 6 of 9 of a proof.
-/
import Derived.Test.YtjmpajgjaefcjaaGreatEqv5
import Derived.Orders
import Derived.Below
import Derived.Laws.AppendOwn
import Derived.Laws.MakeOwn
import Derived.Laws.CopyRow
import Derived.Laws.Rows
import Derived.Laws.Cells
import Derived.Tactics
import Derived.Laws.BitsLemmas
import Derived.Maps.Range
import Derived.Carry
import Derived.Test.YtjmpajgjaefcjaaGreatProg
set_option linter.unusedVariables false
set_option linter.unusedSimpArgs false
set_option maxRecDepth 100000

namespace Go.Proofs.YtjmpajgjaefcjaaGreat.Vm
open Go Go.RowKit
theorem sGb {G G':Prop} (h:G') (e:G=G':=by conv=>lhs;simp (disch:=omega) only [rowsOf,cNat,cN,St.ret,St.seth,Eff.app,Eff.wi,sepL,guardOf,St.known,objOf,List.set,sliceW,litW,copyW,lenOf,bnd,mxOk,ofCells,TI.isAgg,cellsOf,storable,AV.one,dead,laid,overlay,reduceCtorEq,Int.reduceLE,Int.reduceLT,Int.reduceSub,Int.reduceAdd,Nat.reduceMul,Int.reduceToNat,Nat.reducePow,Int.reduceNeg,Nat.reduceAdd,Nat.reduceLT,Nat.reduceLeDiff,sA,sB,cZ,cI,cQ,sT]):G:=e.mpr h
theorem sGbX {G G' P:Prop} (p:P) (h:G') (e:P→G=G':=by intro p;conv=>lhs;simp (disch:=omega) only [rowsOf,cNat,cN,St.ret,St.seth,Eff.app,Eff.wi,sepL,guardOf,St.known,objOf,List.set,sliceW,litW,copyW,lenOf,bnd,mxOk,ofCells,TI.isAgg,cellsOf,storable,AV.one,dead,laid,overlay,reduceCtorEq,Int.reduceLE,Int.reduceLT,Int.reduceSub,Int.reduceAdd,Nat.reduceMul,Int.reduceToNat,Nat.reducePow,Int.reduceNeg,Nat.reduceAdd,Nat.reduceLT,Nat.reduceLeDiff,sA,sB,cZ,cI,cQ,sT,p]):G:=(e p).mpr h
theorem sGbV {G G':Prop} (h:G') (e:G=G':=by conv=>lhs;simp (disch:=omega) only [rowsOf,cNat,cN,St.ret,St.seth,Eff.app,Eff.wi,sepL,guardOf,St.known,objOf,List.set,sliceW,litW,copyW,lenOf,bnd,mxOk,ofCells,TI.isAgg,cellsOf,storable,AV.one,dead,laid,overlay,reduceCtorEq,Int.reduceLE,Int.reduceLT,Int.reduceSub,Int.reduceAdd,Nat.reduceMul,Int.reduceToNat,Nat.reducePow,Int.reduceNeg,Nat.reduceAdd,Nat.reduceLT,Nat.reduceLeDiff,sA,sB,cZ,cI,cQ,sT,view_sref,viewRef,view_agg,views_cons,views_nil,view_bool,view_int,view_sl,view_nils,view_str,view_tup,view_nilif]):G:=e.mpr h
theorem aGb {G G':Prop} (h:G') (f:Wr G'→G:=by intro h;(repeat (first|(refine W_seqV fun K hK=>?_;(try (refine sGb ?_;try exact True.intro));(repeat refine aI ?_);refine hK _ ?_;clear hK K)|(refine W_seqR fun K hK=>?_;(try (refine sGb ?_;try exact True.intro));(repeat refine aI ?_);refine hK _ ?_;clear hK K)|(refine W_seqD mixed [] (by kernel_rfl) fun K hK=>?_;(try (refine sGb ?_;try exact True.intro));(repeat refine aI ?_);refine hK _ ?_;clear hK K)));exact h.out):G:=f ⟨h⟩
theorem fgcd_v (a b:Nat) (ha:(limbs a).length<274877906944) (hb:(limbs b).length<274877906944):Pure Tryz.prog 117 [cN a,cN b] (·=cN (Nat.gcd a b)):=by
 have:=fgcd_ok (limbs a) (limbs b) (limbs_limbs a) (limbs_limbs b) ha hb
 rwa [val_limbs,val_limbs] at this
theorem fdiv_v (a b:Nat) (ha:(limbs a).length<274877906944) (hb:(limbs b).length<274877906944) (h0:b≠0):Pure Tryz.prog 118 [cN a,cN b] (· = .tup [cN (a / b),cN (a%b),.int .i64 0]):=by
 have:=fdiv_ok (limbs a) (limbs b) (limbs_limbs a) (limbs_limbs b) ha hb
 rwa [val_limbs,val_limbs,divR,if_neg h0] at this
theorem mk_cQ (z:Int) {d:Nat} (hd:d≠0) (hz:z≠0):cQ (mkRat z d) = .agg [.bool (decide (z<0)),cN (z.natAbs / Nat.gcd z.natAbs d),cN (d / Nat.gcd z.natAbs d)]:=by
 have h1:=mk_num (decide (z<0)) (limbs z.natAbs) hd
 have h2:=mk_den (decide (z<0)) (limbs z.natAbs) hd
 rw [iv_cZ,val_limbs] at h1 h2
 have hg:0<Nat.gcd z.natAbs d:=Nat.gcd_pos_of_pos_right _ (Nat.pos_of_ne_zero hd)
 have hn0:z.natAbs / Nat.gcd z.natAbs d≠0:=by
  have:=Nat.div_pos (Nat.le_of_dvd (by omega) (Nat.gcd_dvd_left z.natAbs d)) hg
  omega
 unfold cQ
 rw [h1,h2,iv_abs,val_limbs]
 simp only [cN,cNat]
 congr 2
 rw [AV.bool.injEq,decide_eq_decide]
 unfold iv
 rw [val_limbs]
 generalize z.natAbs / Nat.gcd z.natAbs d=w at *
 split
 ·rename_i h;simp only [decide_eq_true_eq] at h;omega
 ·rename_i h;simp only [decide_eq_true_eq] at h;omega
theorem cQ_zero:cQ 0 = .agg [.bool false,.sl [],.sl [[.int .u32 1]]]:=by
 unfold cQ
 simp [limbs_zero,limbs_1,u32s]
set_option maxHeartbeats 4000000 in
theorem f3norm_ok0 (neg:Bool) (n d:List Nat) (hn:Limbs n) (hd:Limbs d) (h1:n.length<137438953472) (h2:d.length<137438953472) :
  Pure Tryz.prog 76 [.agg [.bool neg,.sl (u32s n),.sl (u32s d)]] (·=cQ (mkRat (iv neg n) (val d))):=by
 have hz:=f2norm_ok neg n hn (by omega)
 have hdn:=fnorm_ok d hd (by omega)
 have hnl:=limbs_val_length hn
 have hdl:=limbs_val_length hd
 have hab:=iv_abs neg n
 generalize iv neg n=z at *
 rw [← hab] at hnl
 clear hab
 generalize val d=e at *
 have z00:((0:Int) == 0)=true:=rfl
 by_cases he:e=0
 ·subst he
  rw [Rat.mkRat_zero,cQ_zero]
  simp only [cN,cNat,limbs_zero] at hdn
  (refine pureW Tryz.func76 rfl (rs:=[Go.ResultVar.cell 2 53]) rfl (n:=55) rfl ?_;simp only [List.length_cons,List.length_nil,List.replicate,List.cons_append,List.nil_append])
  (refine aGb ?_)
  ((refine W_seqV ?_);intro K hK;(refine sGb ?_))
  (refine ⟨by kernel_rfl,_,.pure rfl (hz),?_⟩;(try (refine sGb ?_)))
  (refine hK _ ?_;clear hK K)
  ((refine W_seqV ?_);intro K hK;(refine sGb ?_))
  (refine ⟨by kernel_rfl,_,.pure rfl (hdn),?_⟩;(try (refine sGb ?_)))
  (refine hK _ ?_;clear hK K)
  refine W_seq ?_
  ((refine W_seqV ?_);intro K hK;(refine sGbX z00 ?_))
  (refine hK _ ?_;clear hK K)
  (refine W_ct rfl ?_)
  ((refine W_seqV ?_);intro K hK;(refine sGb ?_))
  (repeat refine aI ?_);refine hK _ ?_;clear hK K
  refine W_ret ?_
  (refine qG ?_;try exact True.intro);try (refine sGbV ?_;try exact True.intro)
  try rfl
 have hep:=limbs_len_pos he
 have hze:(((limbs e).length:Int) == 0)=false:=by rw [beq_eq_false_iff_ne];omega
 simp only [cN,cNat] at hdn
 by_cases h0:z=0
 ·subst h0
  rw [show mkRat 0 e=0 by simp,cQ_zero]
  simp only [cZ,cI,Int.natAbs_zero,limbs_zero] at hz
  (refine pureW Tryz.func76 rfl (rs:=[Go.ResultVar.cell 2 53]) rfl (n:=55) rfl ?_;simp only [List.length_cons,List.length_nil,List.replicate,List.cons_append,List.nil_append])
  (refine aGb ?_)
  ((refine W_seqV ?_);intro K hK;(refine sGb ?_))
  (refine ⟨by kernel_rfl,_,.pure rfl (hz),?_⟩;(try (refine sGb ?_)))
  (refine hK _ ?_;clear hK K)
  ((refine W_seqV ?_);intro K hK;(refine sGb ?_))
  (refine ⟨by kernel_rfl,_,.pure rfl (hdn),?_⟩;(try (refine sGb ?_)))
  (refine hK _ ?_;clear hK K)
  refine W_seq ?_
  ((refine W_seqV ?_);intro K hK;(refine sGbX (And.intro hze z00) ?_))
  (refine hK _ ?_;clear hK K)
  (refine W_ct rfl ?_)
  ((refine W_seqV ?_);intro K hK;(refine sGb ?_))
  (repeat refine aI ?_);refine hK _ ?_;clear hK K
  refine W_ret ?_
  (refine qG ?_;try exact True.intro);try (refine sGbV ?_;try exact True.intro)
  try rfl
 have hzp:=limbs_len_pos (n:=z.natAbs) (by omega)
 have hzz:(((limbs z.natAbs).length:Int) == 0)=false:=by rw [beq_eq_false_iff_ne];omega
 rw [mk_cQ z he h0]
 have hg:=fgcd_v z.natAbs e (by omega) (by omega)
 have hg0:Nat.gcd z.natAbs e≠0:=fun h=>he (Nat.gcd_eq_zero_iff.1 h).2
 have hgl:=limbs_mono (Nat.le_of_dvd (Nat.pos_of_ne_zero he) (Nat.gcd_dvd_right z.natAbs e))
 have d1:=fdiv_v z.natAbs (Nat.gcd z.natAbs e) (by omega) (by omega) hg0
 have d2:=fdiv_v e (Nat.gcd z.natAbs e) (by omega) (by omega) hg0
 simp only [cN,cNat] at hg d1 d2 ⊢
 (refine pureW Tryz.func76 rfl (rs:=[Go.ResultVar.cell 2 53]) rfl (n:=55) rfl ?_;simp only [List.length_cons,List.length_nil,List.replicate,List.cons_append,List.nil_append])
 (refine aGb ?_)
 ((refine W_seqV ?_);intro K hK;(refine sGb ?_))
 (refine ⟨by kernel_rfl,_,.pure rfl (hz),?_⟩;(try (refine sGb ?_)))
 (refine hK _ ?_;clear hK K)
 ((refine W_seqV ?_);intro K hK;(refine sGb ?_))
 (refine ⟨by kernel_rfl,_,.pure rfl (hdn),?_⟩;(try (refine sGb ?_)))
 (refine hK _ ?_;clear hK K)
 refine W_seq ?_
 ((refine W_seqV ?_);intro K hK;(refine sGbX (And.intro hze hzz) ?_))
 (refine hK _ ?_;clear hK K)
 (refine W_cf rfl ?_)
 refine W_skip ?_
 simp only [thenW]
 ((refine W_seqV ?_);intro K hK;(refine sGb ?_))
 (refine ⟨by kernel_rfl,_,.pure rfl (hg),?_⟩;(try (refine sGb ?_)))
 (refine hK _ ?_;clear hK K)
 ((refine W_seqV ?_);intro K hK;(refine sGb ?_))
 (refine ⟨by kernel_rfl,_,.pure rfl (d1),?_⟩;(try (refine sGb ?_)))
 (refine hK _ ?_;clear hK K)
 ((refine W_seqV ?_);intro K hK;(refine sGb ?_))
 (refine ⟨by kernel_rfl,_,.pure rfl (d2),?_⟩;(try (refine sGb ?_)))
 (refine hK _ ?_;clear hK K)
 ((refine W_seqV ?_);intro K hK;(refine sGb ?_))
 (refine hK _ ?_;clear hK K)
 refine W_ret ?_
 (refine qG ?_;try exact True.intro);try (refine sGbV ?_;try exact True.intro)
theorem f3norm_ok (r:RR) (hr:r.ok):Pure Tryz.prog 76 [r.av] (·=cQ r.v) :=
 f3norm_ok0 r.neg r.num r.den hr.num hr.den (Nat.lt_trans hr.nl (by decide)) (Nat.lt_trans hr.dl (by decide))
theorem f3norm_zd (z:Int) (d:Nat) (hz:zl z<137438953472) (hd:(limbs d).length<137438953472) :
  Pure Tryz.prog 76 [.agg [.bool (decide (z<0)),.sl (u32s (limbs z.natAbs)),.sl (u32s (limbs d))]] (·=cQ (mkRat z d)):=by
 have:=f3norm_ok0 (decide (z<0)) (limbs z.natAbs) (limbs d) (limbs_limbs _) (limbs_limbs _) hz hd
 rwa [mkRat_iv] at this
set_option maxHeartbeats 1000000 in
theorem positive_ok (l:List Nat):Pure Tryz.prog 157 [cNat l] (·=cI false l):=by
 (refine pureW Tryz.func157 rfl (rs:=[Go.ResultVar.cell 2 51]) rfl (n:=5) rfl ?_;simp only [List.length_cons,List.length_nil,List.replicate,List.cons_append,List.nil_append])
 unfold cNat
 (refine aGb ?_)
 refine W_ret ?_
 (refine qG ?_;try exact True.intro);try (refine sGbV ?_;try exact True.intro)
theorem f2mul_qq (a b:Rat) (ha:(qr a).ok) (hb:(qr b).ok):Pure Tryz.prog 156 [cI (decide (a.num<0)) (limbs a.num.natAbs),cI (decide (b.num<0)) (limbs b.num.natAbs)] (·=cZ (a.num*b.num)):=by
 have:=f2mul_ok (decide (a.num<0)) (limbs a.num.natAbs) (limbs_limbs _) (Nat.lt_trans ha.nl (by decide)) (decide (b.num<0)) (limbs b.num.natAbs) (limbs_limbs _) (Nat.lt_trans hb.nl (by decide))
 rwa [q_num,q_num] at this
theorem f2mul_qd (a b:Rat) (ha:(qr a).ok) (hb:(qr b).ok):Pure Tryz.prog 156 [cI (decide (a.num<0)) (limbs a.num.natAbs),cI false (limbs b.den)] (·=cZ (a.num*b.den)):=by
 have:=f2mul_ok (decide (a.num<0)) (limbs a.num.natAbs) (limbs_limbs _) (Nat.lt_trans ha.nl (by decide)) false (limbs b.den) (limbs_limbs _) (Nat.lt_trans hb.dl (by decide))
 rwa [q_num,den_iv] at this
theorem f1dd_ok (a b:Rat) (ha:(qr a).ok) (hb:(qr b).ok):Pure Tryz.prog 158 [cNat (limbs a.den),cNat (limbs b.den)] (·=cN (a.den*b.den)):=by
 have:=fmul_ok (limbs a.den) (limbs b.den) (limbs_limbs _) (limbs_limbs _) (Nat.lt_trans ha.dl (by decide)) (Nat.lt_trans hb.dl (by decide))
 rwa [val_limbs,val_limbs] at this
set_option maxHeartbeats 4000000 in
theorem f3add_ok (r t:RR) (hr:r.ok) (ht:t.ok):Pure Tryz.prog 121 [r.av,t.av] (·=cQ (r.v+t.v)):=by
 have hn:=f3norm_ok r hr
 have hm:=f3norm_ok t ht
 have ho:=v_ok hr
 have hp:=v_ok ht
 obtain ⟨neg,n,d⟩:=r
 obtain ⟨neg',n',d'⟩:=t
 simp only [RR.av] at hn hm ⊢
 generalize RR.v _=q at *
 generalize RR.v _=p at *
 have h1:=f2mul_qd q p ho hp
 have h2:=f2mul_qd p q hp ho
 have p1:=positive_ok (limbs p.den)
 have p2:=positive_ok (limbs q.den)
 have z1:=zl_qd q p ho hp
 have z2:=zl_qd p q hp ho
 have hc:=f2add_ok (decide (q.num*p.den<0)) (limbs (q.num*p.den).natAbs) (limbs_limbs _) (Nat.lt_trans z1 (by decide)) (decide (p.num*q.den<0)) (limbs (p.num*q.den).natAbs) (limbs_limbs _) (Nat.lt_trans z2 (by decide))
 rw [iv_cZ,iv_cZ] at hc
 have z3:=zl_add (q.num*p.den) (p.num*q.den)
 have hd:=f1dd_ok q p ho hp
 have hl:=dd_len q p ho hp
 have hmd:=f3norm_zd (q.num*p.den+p.num*q.den) (q.den*p.den) (by omega) (by omega)
 rw [← Rat.add_def'] at hmd
 simp only [cQ] at hn hm
 (refine pureW Tryz.func121 rfl (rs:=[Go.ResultVar.cell 4 53]) rfl (n:=31) rfl ?_;simp only [List.length_cons,List.length_nil,List.replicate,List.cons_append,List.nil_append])
 (refine aGb ?_)
 ((refine W_seqV ?_);intro K hK;(refine sGb ?_))
 (refine ⟨by kernel_rfl,_,.pure rfl (hn),?_⟩;(try (refine sGb ?_)))
 (refine hK _ ?_;clear hK K)
 ((refine W_seqV ?_);intro K hK;(refine sGb ?_))
 (refine ⟨by kernel_rfl,_,.pure rfl (hm),?_⟩;(try (refine sGb ?_)))
 (refine hK _ ?_;clear hK K)
 ((refine W_seqD mixed [(1,13),(3,13),(7,13),(9,13)] (by kernel_rfl) ?_);intro K hK;(refine sGb ?_))
 (refine ⟨by kernel_rfl,_,.pure rfl (p1),?_⟩;(try (refine sGb ?_)))
 (refine ⟨by kernel_rfl,_,.pure rfl (h1),?_⟩;(try (refine sGb ?_)))
 (refine ⟨by kernel_rfl,_,.pure rfl (p2),?_⟩;(try (refine sGb ?_)))
 (refine ⟨by kernel_rfl,_,.pure rfl (h2),?_⟩;(try (refine sGb ?_)))
 (refine ⟨by kernel_rfl,_,.pure rfl (hc),?_⟩;(try (refine sGb ?_));(repeat refine aI ?_))
 (refine hK _ ?_;clear hK K)
 ((refine W_seqD mixed [] (by kernel_rfl) ?_);intro K hK;(refine sGb ?_))
 (refine ⟨by kernel_rfl,_,.pure rfl (hd),?_⟩;(try (refine sGb ?_)))
 (refine ⟨by kernel_rfl,_,.pure rfl (hmd),?_⟩;(try (refine sGb ?_)))
 (refine hK _ ?_;clear hK K)
 refine W_ret ?_
 (refine qG ?_;try exact True.intro);try (refine sGbV ?_;try exact True.intro)
set_option maxHeartbeats 4000000 in
theorem f3mul_ok (r t:RR) (hr:r.ok) (ht:t.ok):Pure Tryz.prog 122 [r.av,t.av] (·=cQ (r.v*t.v)):=by
 have hn:=f3norm_ok r hr
 have hm:=f3norm_ok t ht
 have ho:=v_ok hr
 have hp:=v_ok ht
 obtain ⟨neg,n,d⟩:=r
 obtain ⟨neg',n',d'⟩:=t
 simp only [RR.av] at hn hm ⊢
 generalize RR.v _=q at *
 generalize RR.v _=p at *
 have h1:=f2mul_qq q p ho hp
 have z1:zl (q.num*p.num)<34359738368:=by
  have h1:=zl_mul q.num p.num
  have h2:zl q.num<17179869184:=ho.nl
  have h3:zl p.num<17179869184:=hp.nl
  omega
 have hd:=f1dd_ok q p ho hp
 have hl:=dd_len q p ho hp
 have hmd:=f3norm_zd (q.num*p.num) (q.den*p.den) (by omega) (by omega)
 rw [← Rat.mul_def'] at hmd
 simp only [cQ] at hn hm
 (refine pureW Tryz.func122 rfl (rs:=[Go.ResultVar.cell 4 53]) rfl (n:=21) rfl ?_;simp only [List.length_cons,List.length_nil,List.replicate,List.cons_append,List.nil_append])
 (refine aGb ?_)
 ((refine W_seqV ?_);intro K hK;(refine sGb ?_))
 (refine ⟨by kernel_rfl,_,.pure rfl (hn),?_⟩;(try (refine sGb ?_)))
 (refine hK _ ?_;clear hK K)
 ((refine W_seqV ?_);intro K hK;(refine sGb ?_))
 (refine ⟨by kernel_rfl,_,.pure rfl (hm),?_⟩;(try (refine sGb ?_)))
 (refine hK _ ?_;clear hK K)
 ((refine W_seqD mixed [] (by kernel_rfl) ?_);intro K hK;(refine sGb ?_))
 (refine ⟨by kernel_rfl,_,.pure rfl (h1),?_⟩;(try (refine sGb ?_)))
 (refine ⟨by kernel_rfl,_,.pure rfl (hd),?_⟩;(try (refine sGb ?_)))
 (refine ⟨by kernel_rfl,_,.pure rfl (hmd),?_⟩;(try (refine sGb ?_)))
 (refine hK _ ?_;clear hK K)
 refine W_ret ?_
 (refine qG ?_;try exact True.intro);try (refine sGbV ?_;try exact True.intro)
set_option maxHeartbeats 4000000 in
theorem f3sign_ok (r:RR) (hr:r.ok):Pure Tryz.prog 90 [r.av] (· = .int .i64 (rs r.v)):=by
 have hn:=f3norm_ok r hr
 have ho:=v_ok hr
 obtain ⟨neg,n,d⟩:=r
 simp only [RR.av] at hn ⊢
 generalize RR.v _=q at *
 have hs:=f2sign_ok (decide (q.num<0)) (limbs q.num.natAbs) (limbs_limbs _) (Nat.lt_trans ho.nl (by decide))
 rw [q_num] at hs
 change Pure _ _ _ (· = .int .i64 (rs q)) at hs
 simp only [cQ] at hn
 (refine pureW Tryz.func90 rfl (rs:=[Go.ResultVar.tmp 2]) rfl (n:=7) rfl ?_;simp only [List.length_cons,List.length_nil,List.replicate,List.cons_append,List.nil_append])
 (refine aGb ?_)
 ((refine W_seqV ?_);intro K hK;(refine sGb ?_))
 (refine ⟨by kernel_rfl,_,.pure rfl (hn),?_⟩;(try (refine sGb ?_)))
 (refine ⟨by kernel_rfl,_,.pure rfl (hs),?_⟩;(try (refine sGb ?_)))
 (refine hK _ ?_;clear hK K)
 refine W_ret ?_
 (refine qG ?_;try exact True.intro);try (refine sGbV ?_;try exact True.intro)
set_option maxHeartbeats 1000000 in
theorem f3whole_ok (n:Int) (h1 : -9223372036854775808≤n) (h2:n<9223372036854775808):Pure Tryz.prog 85 [.int .i64 n] (·=cQ n):=by
 have hw:=f2of_ok n h1 h2
 have hm:=f3norm_zd n 1 (by have:(limbs n.natAbs).length≤2:=len_le (by omega);unfold zl;omega) (by rw [limbs_1];simp)
 rw [show mkRat n 1=(n:Rat) by rw [← Rat.mkRat_self (n:Rat)];rfl,limbs_1] at hm
 (refine pureW Tryz.func85 rfl (rs:=[Go.ResultVar.cell 2 53]) rfl (n:=8) rfl ?_;simp only [List.length_cons,List.length_nil,List.replicate,List.cons_append,List.nil_append])
 (refine aGb ?_)
 ((refine W_seqV ?_);intro K hK;(refine sGb ?_))
 (refine ⟨by kernel_rfl,_,.pure rfl (hw),?_⟩;(try (refine sGb ?_));(repeat refine aI ?_))
 (refine ⟨by kernel_rfl,_,.pure rfl (hm),?_⟩;(try (refine sGb ?_)))
 (refine hK _ ?_;clear hK K)
 refine W_ret ?_
 (refine qG ?_;try exact True.intro);try (refine sGbV ?_;try exact True.intro)
def rowR (r:RR):List AV:=[.bool r.neg,.sl (u32s r.num),.sl (u32s r.den)]
def rowS (s:ByteArray):List AV:=[.str s]
instance:Inhabited ByteArray:=⟨ByteArray.empty⟩
def zeroR:RR:=⟨false,[],[]⟩
theorem zeroR_ok:zeroR.ok:=⟨fun _ h=>(by cases h),fun _ h=>(by cases h),(by decide),(by decide)⟩
theorem zeroR_v:zeroR.v=0:=by simp [zeroR,RR.v,val]
theorem sLa {G G':Prop} (h:G') (e:G=G':=by conv=>lhs;simp (disch:=omega) only [rowsOf,cNat,cN,St.ret,St.seth,Eff.app,Eff.wi,sepL,guardOf,St.known,objOf,List.set,sliceW,litW,copyW,lenOf,bnd,mxOk,ofCells,TI.isAgg,cellsOf,storable,AV.one,dead,laid,overlay,reduceCtorEq,Int.reduceLE,Int.reduceLT,Int.reduceSub,Int.reduceAdd,Nat.reduceMul,Int.reduceToNat,Nat.reducePow,Int.reduceNeg,Nat.reduceAdd,Nat.reduceLT,Nat.reduceLeDiff,sA,sB,cQ,rowQ,pos_succ,drop_one,tab_getD_zero,List.take_length,List.length_append,tab_length,tab_drop,tab_take,tab_append,tab_snoc,tab_nil,rowQ_all,rowQ_one,rowQ_pure,sT]):G:=e.mpr h
theorem sLaV {G G':Prop} (h:G') (e:G=G':=by conv=>lhs;simp (disch:=omega) only [rowsOf,cNat,cN,St.ret,St.seth,Eff.app,Eff.wi,sepL,guardOf,St.known,objOf,List.set,sliceW,litW,copyW,lenOf,bnd,mxOk,ofCells,TI.isAgg,cellsOf,storable,AV.one,dead,laid,overlay,reduceCtorEq,Int.reduceLE,Int.reduceLT,Int.reduceSub,Int.reduceAdd,Nat.reduceMul,Int.reduceToNat,Nat.reducePow,Int.reduceNeg,Nat.reduceAdd,Nat.reduceLT,Nat.reduceLeDiff,sA,sB,cQ,rowQ,pos_succ,drop_one,tab_getD_zero,List.take_length,List.length_append,tab_length,tab_drop,tab_take,tab_append,tab_snoc,tab_nil,rowQ_all,rowQ_one,rowQ_pure,sT,view_sref,viewRef,view_agg,views_cons,views_nil,view_bool,view_int,view_sl,view_nils,view_str,view_tup,view_nilif]):G:=e.mpr h
theorem aLa {G G':Prop} (h:G') (f:Wr G'→G:=by intro h;(repeat (first|(refine W_seqV fun K hK=>?_;(try (refine sLa ?_;try exact True.intro));(repeat refine aI ?_);refine hK _ ?_;clear hK K)|(refine W_seqR fun K hK=>?_;(try (refine sLa ?_;try exact True.intro));(repeat refine aI ?_);refine hK _ ?_;clear hK K)|(refine W_seqD mixed [] (by kernel_rfl) fun K hK=>?_;(try (refine sLa ?_;try exact True.intro));(repeat refine aI ?_);refine hK _ ?_;clear hK K)));exact h.out):G:=f ⟨h⟩
def cmpV (a b:Int):Int:=if a<b then -1 else if b<a then 1 else 0
set_option maxHeartbeats 1000000 in
theorem byVar_ok (p q:Int × RR):Pure Tryz.prog 188 [.agg (rowM p),.agg (rowM q)] (· = .int .i64 (cmpV p.1 q.1)):=by
 obtain ⟨v,a⟩:=p
 obtain ⟨w,b⟩:=q
 (refine pureW Tryz.func188 rfl (rs:=[Go.ResultVar.tmp 4]) rfl (n:=17) rfl ?_;simp only [List.length_cons,List.length_nil,List.replicate,List.cons_append,List.nil_append])
 simp only [rowM]
 (repeat' (first | refine W_block ?_ | (refine W_seqV fun K hK=>?_;(try (refine sLa ?_));refine hK _ ?_;clear hK K) | refine W_skip ?_ | (refine W_ret ?_;(refine qG ?_)) | (refine W_cond rfl (fun h=>?_) (fun h=>?_) <;> (try simp only [cond_true,cond_false,ne_eq,cB] at h)) | refine W_seq ?_))
 all_goals (congr 1;unfold cmpV;(repeat split) <;> omega)
theorem rs_ne (q:Rat):(q.num.sign != 0)=decide (q≠0):=by
 by_cases h:q=0
 ·subst h;rfl
 ·rw [decide_eq_true h,bne_iff_ne]
  intro h0
  exact h (Rat.num_eq_zero.1 (Int.sign_eq_zero_iff_zero.1 h0))
set_option maxHeartbeats 1000000 in
theorem together_ok (p q:Int × Rat) (hp:(qr p.2).ok) (hq:(qr q.2).ok) (hs:(qr (p.2+q.2)).ok) :
  Pure Tryz.prog 189 [.agg (rowQ p),.agg (rowQ q)] (· = .tup [.agg (rowQ (p.1,p.2+q.2)),.bool (decide (p.2+q.2≠0))]):=by
 have ha:=radd_ok (qr p.2) (qr q.2) hp hq
 rw [qr_v,qr_v] at ha
 have hg:=rsign_ok (qr (p.2+q.2)) hs
 rw [qr_v] at hg
 have hne:=rs_ne (p.2+q.2)
 obtain ⟨v,a⟩:=p
 obtain ⟨w,b⟩:=q
 dsimp only at *
 simp only [RR.av,qr] at ha hg
 rw [← hne]
 (refine pureW Tryz.func189 rfl (rs:=[Go.ResultVar.cell 4 55,Go.ResultVar.tmp 5]) rfl (n:=19) rfl ?_;simp only [List.length_cons,List.length_nil,List.replicate,List.cons_append,List.nil_append])
 unfold rowQ
 ((refine W_seqV ?_);intro K hK;(refine sLa ?_))
 (refine hK _ ?_;clear hK K)
 ((refine W_seqV ?_);intro K hK;(refine sLa ?_))
 (refine ⟨by kernel_rfl,_,.pure rfl (ha),?_⟩;(try (refine sLa ?_)))
 (refine hK _ ?_;clear hK K)
 ((refine W_seqD mixed [(4,7)] (by kernel_rfl) ?_);intro K hK;(refine sLa ?_))
 (refine ⟨by kernel_rfl,_,.pure rfl (hg),?_⟩;(try (refine sLa ?_));(repeat refine aI ?_))
 (refine hK _ ?_;clear hK K)
 refine W_ret ?_
 (refine qG ?_;try exact True.intro);try (refine sLaV ?_;try exact True.intro)
theorem byVar_q (p q:Int × Rat):Pure Tryz.prog 188 [.agg (rowQ p),.agg (rowQ q)] (· = .int .i64 (cmpV p.1 q.1)):=byVar_ok (p.1,qr p.2) (q.1,qr q.2)
structure Mg (f g f' g' out:List (Int × Rat)):Prop where
 eq:out++mergeF f' g'=mergeF f g
 nb:∀ v,nbv out v+nbv f' v+nbv g' v≤nbv f v+nbv g v
 len:out.length+f'.length+g'.length≤f.length+g.length
set_option maxHeartbeats 4000000 in
theorem merge_new (f g:List (Int × Rat)) {B:Nat} (h:Sz (f++g) B) (hB:B<17179869184) :
  New Tryz.prog 187 [cL f,cL g,.fn (.func 188) [] [],.fn (.func 189) [] []] 55 4 (·=tab rowQ (mergeF f g)):=by
 (refine new_of_W (T:=55) (k:=4) Tryz.func187 rfl (rs:=[Go.ResultVar.tmp 8]) rfl (nt:=76) rfl ?_;simp only [List.length_cons,List.length_nil,List.replicate,List.cons_append,List.nil_append])
 simp only [cL]
 (refine aLa ?_)
 refine W.le ?_ (Le_nil 9 9 55 4 true rfl rfl)
 simp only [List.set]
 refine W_seq (W_block (W_loop (fun t:{t:List (Int × Rat) × List (Int × Rat) × List (Int × Rat) // Mg f g t.1 t.2.1 t.2.2} =>
   ((fun (a_:AV) (d_:Ob)=>(⟨((cL t.1.1)::(cL t.1.2.1)::(.fn (.func 188) [] [])::(.fn (.func 189) [] [])::a_::a_::a_::a_::a_::(.sref 9 0 t.1.2.2.length)::a_::a_::a_::a_::a_::a_::a_::a_::a_::a_::a_::a_::a_::a_::a_::a_::a_::a_::a_::a_::a_::a_::a_::a_::a_::a_::a_::a_::a_::a_::a_::a_::a_::a_::a_::a_::a_::a_::a_::a_::a_::a_::a_::a_::a_::a_::a_::a_::a_::a_::a_::a_::a_::a_::a_::a_::a_::a_::a_::a_::a_::a_::a_::a_::a_::a_::[]),(d_::d_::d_::d_::d_::d_::d_::d_::d_::(.arr 55 4 true (tab rowQ t.1.2.2))::d_::d_::d_::d_::d_::d_::d_::d_::d_::d_::d_::d_::d_::d_::d_::d_::d_::d_::d_::d_::d_::d_::d_::d_::d_::d_::d_::d_::d_::d_::d_::d_::d_::d_::d_::d_::d_::d_::d_::d_::d_::d_::d_::d_::d_::d_::d_::d_::d_::d_::d_::d_::d_::d_::d_::d_::d_::d_::d_::d_::d_::d_::d_::d_::d_::d_::[])⟩:St)) .any .dead)) (fun t=>t.1.1.length+t.1.2.1.length)
   ⟨(f,g,[]),⟨rfl,by simp [nbv],by simp⟩⟩ (Le_of (by simp [leE,cL]) rfl) fun t=>?_))
 obtain ⟨⟨f',g',out⟩,hM⟩:=t
 dsimp only at hM ⊢
 have hll:=hM.len
 have hnb:=hM.nb
 have hle:f.length+g.length≤B:=by have:=h.l;rwa [List.length_append] at this
 have hbv:∀ v,nbv f v+nbv g v≤B:=fun v=>by have:=h.b v;rwa [nbv_append] at this
 simp only [cL]
 rcases f' with _ | ⟨p,f'⟩
 ·refine W_seq ?_
  ((refine W_seqV ?_);intro K hK;(refine sLa ?_))
  (refine hK _ ?_;clear hK K)
  (refine W_cf rfl ?_)
  refine W_exit ?_
  simp only [thenW,blockW,if_true]
  have heq:=hM.eq
  rw [mergeF_nil_left] at heq
  ((refine W_seqR ?_);intro K hK;(refine sLa ?_))
  (repeat refine aI ?_);refine hK _ ?_;clear hK K
  refine W_ret ?_
  (refine qG ?_;try exact True.intro)
  exact ⟨_,by simp,by simp [tab_length],rfl,by rw [← heq]⟩
 rcases g' with _ | ⟨q,g'⟩
 ·refine W_seq ?_
  ((refine W_seqV ?_);intro K hK;(refine sLa ?_))
  (refine hK _ ?_;clear hK K)
  (refine W_cf rfl ?_)
  refine W_exit ?_
  simp only [thenW,blockW,if_true]
  have heq:=hM.eq
  rw [mergeF_nil_right] at heq
  simp only [List.length_cons] at hll
  ((refine W_seqR ?_);intro K hK;(refine sLa ?_))
  (repeat refine aI ?_);refine hK _ ?_;clear hK K
  refine W_ret ?_
  (refine qG ?_;try exact True.intro)
  exact ⟨_,by simp,by simp [tab_length],rfl,by rw [← heq,List.take_of_length_le (by simp)]⟩
 have hc:=byVar_q p q
 simp only [rowQ] at hc
 have hnp:nb p.2≤nbv (p::f') p.1:=nbv_mem List.mem_cons_self
 have hnq:nb q.2≤nbv (q::g') q.1:=nbv_mem List.mem_cons_self
 have hnp2:=hnb p.1
 have hnq2:=hnb q.1
 have hbp:=hbv p.1
 have hbq:=hbv q.1
 simp only [List.length_cons] at hll
 have hmc:=mergeF_cons p f' q g'
 have heq:=hM.eq
 have hsn:∀ (r:Int × Rat) (v:Int),nbv (out++[r]) v=nbv out v+(if r.1=v then nb r.2 else 0):=fun r v=>by rw [nbv_append];simp [nbv]
 refine W_seq ?_
 ((refine W_seqV ?_);intro K hK;(refine sLa ?_))
 (refine hK _ ?_;clear hK K)
 (refine W_ct rfl ?_)
 refine W_skip ?_
 simp only [thenW]
 refine W_block ?_
 ((refine W_seqD mixed [] (by kernel_rfl) ?_);intro K hK;(refine sLa ?_))
 (refine ⟨by kernel_rfl,_,.pure rfl (hc),?_⟩;(try (refine sLa ?_)))
 (refine hK _ ?_;clear hK K)
 refine W_block ?_
 refine W_seq ?_
 ((refine W_regV ?_);intro K hK;(refine sLa ?_))
 (refine hK _ ?_;clear hK K)
 rcases Int.lt_trichotomy p.1 q.1 with hlt | hee | hgt
 ·have hcv:cmpV p.1 q.1 = -1:=by simp [cmpV,hlt]
  rw [hcv]
  (refine W_ct rfl ?_)
  ((refine W_seqR ?_);intro K hK;(refine sLa ?_))
  (repeat refine aI ?_);refine hK _ ?_;clear hK K
  ((refine W_regV ?_);intro K hK;(refine sLa ?_))
  (repeat refine aI ?_);refine hK _ ?_;clear hK K
  simp only [blockW,thenW]
  rw [if_pos hlt] at hmc
  refine ⟨⟨(f',q::g',out++[p]),⟨?_,?_,?_⟩⟩,Le_drop (by simp [leE,cL]) (by simp [leH,← tab_snoc,rowQ]) rfl rfl,?_⟩
  ·rw [← heq,hmc];simp
  ·intro v;have:=hnb v;rw [hsn];simp only [nbv] at *;omega
  ·simp only [List.length_append,List.length_cons,List.length_nil];omega
  ·simp
 ·have hcv:cmpV p.1 q.1=0:=by simp [cmpV,hee]
  rw [hcv]
  rw [if_neg (by omega),if_neg (by omega)] at hmc
  have hadd:=nb_add p.2 q.2
  have hnq':nb q.2≤nbv (q::g') p.1:=by rw [hee];exact hnq
  have ht:=together_ok p q (qr_ok (by omega)) (qr_ok (by omega)) (qr_ok (by omega))
  simp only [rowQ] at ht
  (refine W_cf rfl ?_)
  refine W_seq ?_
  ((refine W_regV ?_);intro K hK;(refine sLa ?_))
  (refine hK _ ?_;clear hK K)
  (refine W_cf rfl ?_)
  refine W_seq ?_
  ((refine W_seqD mixed [(2,11),(3,11),(5,11),(6,11)] (by kernel_rfl) ?_);intro K hK;(refine sLa ?_))
  (refine ⟨by kernel_rfl,_,.pure rfl (ht),?_⟩;(try (refine sLa ?_));(repeat refine aI ?_))
  (refine hK _ ?_;clear hK K)
  by_cases h0:p.2+q.2=0
  ·rw [if_pos h0] at hmc
   have hz:decide (p.2+q.2≠0)=false:=by simp [h0]
   rw [hz]
   ((refine W_seqV ?_);intro K hK;(refine sLa ?_))
   (refine hK _ ?_;clear hK K)
   (refine W_cf rfl ?_)
   refine W_skip ?_
   simp only [thenW]
   (refine W_regD mixed [] (by kernel_rfl) fun K hK=>?_;(refine sLa ?_;try exact True.intro))
   (repeat refine aI ?_);refine hK _ ?_;clear hK K
   simp only [blockW,thenW]
   refine ⟨⟨(f',g',out),⟨?_,?_,?_⟩⟩,Le_drop (by simp [leE,cL]) (by simp [leH]) rfl rfl,?_⟩
   ·rw [← heq,hmc]
   ·intro v;have:=hnb v;simp only [nbv] at *;omega
   ·dsimp only;omega
   ·dsimp only [List.length_cons];omega
  ·rw [if_neg h0] at hmc
   have hz:decide (p.2+q.2≠0)=true:=by simp [h0]
   rw [hz]
   ((refine W_seqV ?_);intro K hK;(refine sLa ?_))
   (refine hK _ ?_;clear hK K)
   (refine W_ct rfl ?_)
   (refine W_regR fun K hK=>?_;(refine sLa ?_;try exact True.intro))
   (repeat refine aI ?_);refine hK _ ?_;clear hK K
   simp only [thenW]
   (refine W_regD mixed [] (by kernel_rfl) fun K hK=>?_;(refine sLa ?_;try exact True.intro))
   (repeat refine aI ?_);refine hK _ ?_;clear hK K
   simp only [blockW,thenW]
   refine ⟨⟨(f',g',out++[(p.1,p.2+q.2)]),⟨?_,?_,?_⟩⟩,Le_drop (by simp [leE,cL]) (by simp [leH,← tab_snoc,rowQ]) rfl rfl,?_⟩
   ·rw [← heq,hmc];simp
   ·intro v;have:=hnb v;rw [hsn];simp only [nbv] at *;rw [hee] at *;split <;> simp_all <;> omega
   ·simp only [List.length_append,List.length_cons,List.length_nil];omega
   ·dsimp only [List.length_cons];omega
 ·have hcv:cmpV p.1 q.1=1:=by rw [cmpV,if_neg (by omega),if_pos hgt]
  rw [hcv]
  (refine W_cf rfl ?_)
  refine W_seq ?_
  ((refine W_regV ?_);intro K hK;(refine sLa ?_))
  (refine hK _ ?_;clear hK K)
  (refine W_ct rfl ?_)
  ((refine W_seqR ?_);intro K hK;(refine sLa ?_))
  (repeat refine aI ?_);refine hK _ ?_;clear hK K
  ((refine W_regV ?_);intro K hK;(refine sLa ?_))
  (repeat refine aI ?_);refine hK _ ?_;clear hK K
  simp only [blockW,thenW]
  rw [if_neg (by omega),if_pos hgt] at hmc
  refine ⟨⟨(p::f',g',out++[q]),⟨?_,?_,?_⟩⟩,Le_drop (by simp [leE,cL]) (by simp [leH,← tab_snoc,rowQ]) rfl rfl,?_⟩
  ·rw [← heq,hmc];simp
  ·intro v;have:=hnb v;rw [hsn];simp only [nbv] at *;omega
  ·simp only [List.length_append,List.length_cons,List.length_nil];omega
  ·simp
set_option maxHeartbeats 1000000 in
theorem sum_new (f g:List (Int × Rat)) {B:Nat} (h:Sz (f++g) B) (hB:B<17179869184):New Tryz.prog 148 [cL f,cL g] 55 4 (·=tab rowQ (mergeF f g)):=by
 have hm:=merge_new f g h hB
 (refine new_of_W (T:=55) (k:=4) Tryz.func148 rfl (rs:=[Go.ResultVar.tmp 4]) rfl (nt:=8) rfl ?_;simp only [List.length_cons,List.length_nil,List.replicate,List.cons_append,List.nil_append])
 simp only [cL] at hm ⊢
 (refine aLa ?_)
 (refine W_seqR fun K hK=>?_;(refine sLa ?_;try exact True.intro))
 refine ⟨by kernel_rfl,?_⟩
 refine call_new 7 rfl rfl hm fun rows hr=>?_
 subst hr
 (refine sLa ?_;try exact True.intro)
 (refine hK _ ?_;clear hK K)
 refine W_ret ?_
 (refine qG ?_;try exact True.intro)
 exact ⟨tab rowQ (mergeF f g),by simp [tab_length],by simp [tab_length],rfl,rfl⟩
theorem sLb {G G':Prop} (h:G') (e:G=G':=by conv=>lhs;simp (disch:=omega) only [rowsOf,cNat,cN,St.ret,St.seth,Eff.app,Eff.wi,sepL,guardOf,St.known,objOf,List.set,sliceW,litW,copyW,lenOf,bnd,mxOk,ofCells,TI.isAgg,cellsOf,storable,AV.one,dead,laid,overlay,reduceCtorEq,Int.reduceLE,Int.reduceLT,Int.reduceSub,Int.reduceAdd,Nat.reduceMul,Int.reduceToNat,Nat.reducePow,Int.reduceNeg,Nat.reduceAdd,Nat.reduceLT,Nat.reduceLeDiff,sA,sB,cQ,rowQ,rowM,tab_length,tab_getD_zero,List.take_length,List.length_append,tab_drop,tab_take,tab_append,tab_nil,rowQ_all,rowQ_one,rowQ_pure,rowM_all,rowM_one,rowM_pure,sT]):G:=e.mpr h
theorem sLbX {G G' P:Prop} (p:P) (h:G') (e:P→G=G':=by intro p;conv=>lhs;simp (disch:=omega) only [rowsOf,cNat,cN,St.ret,St.seth,Eff.app,Eff.wi,sepL,guardOf,St.known,objOf,List.set,sliceW,litW,copyW,lenOf,bnd,mxOk,ofCells,TI.isAgg,cellsOf,storable,AV.one,dead,laid,overlay,reduceCtorEq,Int.reduceLE,Int.reduceLT,Int.reduceSub,Int.reduceAdd,Nat.reduceMul,Int.reduceToNat,Nat.reducePow,Int.reduceNeg,Nat.reduceAdd,Nat.reduceLT,Nat.reduceLeDiff,sA,sB,cQ,rowQ,rowM,tab_length,tab_getD_zero,List.take_length,List.length_append,tab_drop,tab_take,tab_append,tab_nil,rowQ_all,rowQ_one,rowQ_pure,rowM_all,rowM_one,rowM_pure,sT,p]):G:=(e p).mpr h
theorem aLb {G G':Prop} (h:G') (f:Wr G'→G:=by intro h;(repeat (first|(refine W_seqV fun K hK=>?_;(try (refine sLb ?_;try exact True.intro));(repeat refine aI ?_);refine hK _ ?_;clear hK K)|(refine W_seqR fun K hK=>?_;(try (refine sLb ?_;try exact True.intro));(repeat refine aI ?_);refine hK _ ?_;clear hK K)|(refine W_seqD mixed [] (by kernel_rfl) fun K hK=>?_;(try (refine sLb ?_;try exact True.intro));(repeat refine aI ?_);refine hK _ ?_;clear hK K)));exact h.out):G:=f ⟨h⟩
structure FOk (f:List (Int × RR)) (B:Nat):Prop where
 ok:∀ p∈f,p.2.ok
 sz:Sz (vals f) B
theorem vals_length (f:List (Int × RR)):(vals f).length=f.length:=by simp [vals]
theorem vals_append (f g:List (Int × RR)):vals (f++g)=vals f++vals g:=by simp [vals]
theorem FOk.len {f:List (Int × RR)} {B:Nat} (h:FOk f B):f.length≤B:=by
 have:=h.sz.l
 rwa [vals_length] at this
theorem FOk.take {f:List (Int × RR)} {B:Nat} (h:FOk f B) (n:Nat):FOk (f.take n) B:=by
 refine ⟨fun p hp=>h.ok p (List.mem_of_mem_take hp),?_⟩
 have h1:=h.sz
 rw [← List.take_append_drop n f,vals_append] at h1
 exact h1.left
theorem FOk.drop {f:List (Int × RR)} {B:Nat} (h:FOk f B) (n:Nat):FOk (f.drop n) B:=by
 refine ⟨fun p hp=>h.ok p (List.mem_of_mem_drop hp),?_⟩
 have h1:=h.sz
 rw [← List.take_append_drop n f,vals_append] at h1
 exact h1.right
theorem FOk.rf {l:List (Int × Rat)} {B:Nat} (h:Sz l B) (hB:B<17179869184):FOk (rf l) B:=by
 refine ⟨fun p hp=>?_,by rw [vals_rf];exact h⟩
 simp only [Vm.rf,List.mem_map] at hp
 obtain ⟨q,hq,rfl⟩:=hp
 exact qr_ok (Nat.lt_of_le_of_lt (h.mem hq) hB)
theorem rs_eq (q:Rat):(q.num.sign == 0)=decide (q=0):=by
 by_cases h:q=0
 ·subst h;rfl
 ·rw [decide_eq_false h,beq_eq_false_iff_ne]
  intro h0
  exact h (Rat.num_eq_zero.1 (Int.sign_eq_zero_iff_zero.1 h0))
theorem half_lt {n:Nat} (h:2≤n):n / 2<n∧0<n / 2:=by omega
set_option maxHeartbeats 4000000 in
theorem lnorm_new (f:List (Int × RR)) {B:Nat} (h:FOk f B) (hB:B<17179869184):New Tryz.prog 108 [cF f] 55 4 (·=tab rowQ (normF (vals f))):=by
 induction hn:f.length using Nat.strongRecOn generalizing f with
 | _ n ih =>
  have hlen:=h.len
  match f,hn with
  | [],_ =>
   (refine new_of_W (T:=55) (k:=4) Tryz.func108 rfl (rs:=[Go.ResultVar.tmp 2]) rfl (nt:=39) rfl ?_;simp only [List.length_cons,List.length_nil,List.replicate,List.cons_append,List.nil_append])
   simp only [cF]
   (repeat' (first | (exfalso;simp at h;done) | refine W_block ?_ | (refine W_seqV fun K hK=>?_;(try (refine sLb ?_));refine hK _ ?_;clear hK K) | (refine W_ret ?_;(refine qG ?_)) | (refine W_cond rfl (fun h=>?_) (fun h=>?_) <;> (try simp only [cond_true,cond_false,ne_eq,cB] at h)) | refine W_seq ?_))
   rfl
  | [p],hn =>
   have hg:=rsign_ok p.2 (h.ok p List.mem_cons_self)
   have hm:=rnorm_ok p.2 (h.ok p List.mem_cons_self)
   obtain ⟨v,r⟩:=p
   have heq:=rs_eq r.v
   simp only [RR.av] at hg hm
   try dsimp only at hg hm heq
   by_cases h0:r.v=0
   ·rw [decide_eq_true h0] at heq
    have hv:vals [(v,r)]=[(v,0)]:=by simp [vals,h0]
    have hnn:normF [(v,(0:Rat))]=[]:=by simp [normF,mergeF]
    rw [hv,hnn]
    (refine new_of_W (T:=55) (k:=4) Tryz.func108 rfl (rs:=[Go.ResultVar.tmp 2]) rfl (nt:=39) rfl ?_;simp only [List.length_cons,List.length_nil,List.replicate,List.cons_append,List.nil_append])
    simp only [cF]
    (refine aLb ?_)
    refine W_seq ?_
    ((refine W_seqV ?_);intro K hK;(refine sLb ?_))
    (refine hK _ ?_;clear hK K)
    refine W_block ?_
    refine W_seq ?_
    ((refine W_regV ?_);intro K hK;(refine sLb ?_))
    (refine hK _ ?_;clear hK K)
    (refine W_cf rfl ?_)
    refine W_seq ?_
    ((refine W_regV ?_);intro K hK;(refine sLb ?_))
    (refine hK _ ?_;clear hK K)
    (refine W_ct rfl ?_)
    refine W_seq ?_
    refine W_seq ?_
    ((refine W_regV ?_);intro K hK;(refine sLb ?_))
    (refine ⟨by kernel_rfl,_,.pure rfl (hg),?_⟩;(try (refine sLb ?_)))
    (refine sLbX heq ?_;try exact True.intro)
    (refine hK _ ?_;clear hK K)
    (refine W_ct rfl ?_)
    ((refine W_seqV ?_);intro K hK;(refine sLb ?_))
    (refine hK _ ?_;clear hK K)
    refine W_ret ?_
    (refine qG ?_;try exact True.intro)
    try rfl
   ·rw [decide_eq_false h0] at heq
    have hv:normF (vals [(v,r)])=[(v,r.v)]:=by simp [vals,normF,mergeF,h0]
    rw [hv]
    (refine new_of_W (T:=55) (k:=4) Tryz.func108 rfl (rs:=[Go.ResultVar.tmp 2]) rfl (nt:=39) rfl ?_;simp only [List.length_cons,List.length_nil,List.replicate,List.cons_append,List.nil_append])
    simp only [cF]
    (refine aLb ?_)
    refine W_seq ?_
    ((refine W_seqV ?_);intro K hK;(refine sLb ?_))
    (refine hK _ ?_;clear hK K)
    refine W_block ?_
    refine W_seq ?_
    ((refine W_regV ?_);intro K hK;(refine sLb ?_))
    (refine hK _ ?_;clear hK K)
    (refine W_cf rfl ?_)
    refine W_seq ?_
    ((refine W_regV ?_);intro K hK;(refine sLb ?_))
    (refine hK _ ?_;clear hK K)
    (refine W_ct rfl ?_)
    refine W_seq ?_
    refine W_seq ?_
    ((refine W_regV ?_);intro K hK;(refine sLb ?_))
    (refine ⟨by kernel_rfl,_,.pure rfl (hg),?_⟩;(try (refine sLb ?_)))
    (refine sLbX heq ?_;try exact True.intro)
    (refine hK _ ?_;clear hK K)
    (refine W_cf rfl ?_)
    refine W_skip ?_
    simp only [thenW]
    ((refine W_seqS mixed 10 [] (by kernel_rfl) ?_);intro K hK;(refine sLb ?_))
    (refine ⟨by kernel_rfl,_,.pure rfl (hm),?_⟩;(try (refine sLb ?_)))
    (refine hK _ ?_;clear hK K)
    refine W_ret ?_
    (refine qG ?_;try exact True.intro)
    exact ⟨_,by simp,rfl,rfl,by simp [tab,rowQ]⟩
  | p::q::g,hn =>
   obtain ⟨l1,l2⟩:=half_lt (n:=(p::q::g).length) (by simp)
   generalize hfe:p::q::g=f at *
   have ht:=(ih (f.take (f.length / 2)).length (by rw [List.length_take];omega) (f.take (f.length / 2)) (h.take _) rfl).pure
   have hd:=(ih (f.drop (f.length / 2)).length (by rw [List.length_drop];omega) (f.drop (f.length / 2)) (h.drop _) rfl).pure
   have hv1:vals f=vals (f.take (f.length / 2))++vals (f.drop (f.length / 2)):=by
    simp only [vals];rw [← List.map_append,List.take_append_drop]
   have hsz:=h.sz
   rw [hv1] at hsz
   have hsz2:Sz (normF (vals (f.take (f.length / 2)))++normF (vals (f.drop (f.length / 2)))) B:=by
    refine ⟨fun v=>?_,?_⟩
    ·have h1:=hsz.b v
     rw [nbv_append] at h1 ⊢
     have:=nbv_norm v (vals (f.take (f.length / 2)))
     have:=nbv_norm v (vals (f.drop (f.length / 2)))
     omega
    ·have h1:=hsz.l
     rw [List.length_append] at h1 ⊢
     have:=len_norm (vals (f.take (f.length / 2)))
     have:=len_norm (vals (f.drop (f.length / 2)))
     omega
   have hs:=sum_new _ _ hsz2 hB
   rw [norm_split,← hv1] at hs
   have h3:2≤f.length:=by rw [← hfe];simp
   clear hfe ih
   have ht':=ht.mono (R':=(·=cL (normF (vals (f.take (f.length / 2)))))) fun r hr=>by obtain ⟨rows,rfl,rfl⟩:=hr;rfl
   have hd':=hd.mono (R':=(·=cL (normF (vals (f.drop (f.length / 2)))))) fun r hr=>by obtain ⟨rows,rfl,rfl⟩:=hr;rfl
   (refine new_of_W (T:=55) (k:=4) Tryz.func108 rfl (rs:=[Go.ResultVar.tmp 2]) rfl (nt:=39) rfl ?_;simp only [List.length_cons,List.length_nil,List.replicate,List.cons_append,List.nil_append])
   simp only [cF,cL] at hs ht' hd' ⊢
   have z0:((f.length:Int) == 0)=false:=by rw [beq_eq_false_iff_ne];omega
   have z1:((f.length:Int) == 1)=false:=by rw [beq_eq_false_iff_ne];omega
   (refine aLb ?_)
   refine W_seq ?_
   ((refine W_seqV ?_);intro K hK;(refine sLb ?_))
   (refine hK _ ?_;clear hK K)
   refine W_block ?_
   refine W_seq ?_
   ((refine W_regV ?_);intro K hK;(refine sLbX z0 ?_))
   (refine hK _ ?_;clear hK K)
   (refine W_cf rfl ?_)
   refine W_seq ?_
   ((refine W_regV ?_);intro K hK;(refine sLbX z1 ?_))
   (refine hK _ ?_;clear hK K)
   (refine W_cf rfl ?_)
   refine W_skip ?_
   simp only [thenW,blockW]
   have hw:IntKind.wrap .i64 ((f.length:Int).tdiv 2)=((f.length / 2:Nat):Int):=by
    rw [show (f.length:Int).tdiv 2=((f.length / 2:Nat):Int) from rfl]
    exact wrap_i64_nat (by omega)
   ((refine W_seqV ?_);intro K hK;(refine sLbX hw ?_))
   (repeat refine aI ?_);refine hK _ ?_;clear hK K
   ((refine W_seqS mixed 8 [] (by kernel_rfl) ?_);intro K hK;(refine sLb ?_))
   ((repeat refine aI ?_);refine ⟨by kernel_rfl,_,.pure rfl (ht'),?_⟩;(try (refine sLb ?_));(repeat refine aI ?_))
   (refine ⟨by kernel_rfl,_,.pure rfl (hd'),?_⟩;(try (refine sLb ?_)))
   (refine ⟨by kernel_rfl,call_new 38 rfl rfl (hs) fun rows hr=>?_⟩;subst hr;(try (refine sLb ?_)))
   (refine hK _ ?_;clear hK K)
   refine W_ret ?_
   (refine qG ?_;try exact True.intro)
   exact ⟨tab rowQ (normF (vals f)),by simp,by simp [tab_length],rfl,rfl⟩
theorem lnorm_ok (f:List (Int × RR)) {B:Nat} (h:FOk f B) (hB:B<17179869184):Pure Tryz.prog 108 [cF f] (·=cL (normF (vals f))) :=
 (lnorm_new f h hB).pure.mono fun r h=>by obtain ⟨rows,rfl,rfl⟩:=h;rfl
set_option maxHeartbeats 1000000 in
theorem ladd_new (f g:List (Int × RR)) {B C:Nat} (hf:FOk f B) (hg:FOk g C) (hs:B+C<17179869184):New Tryz.prog 130 [cF f,cF g] 55 4 (·=tab rowQ (normF (vals f++vals g))):=by
 have h1:=lnorm_ok f hf (by omega)
 have h2:=lnorm_ok g hg (by omega)
 have h3:=sum_new (normF (vals f)) (normF (vals g)) (hf.sz.norm.append hg.sz.norm) hs
 rw [norm_split] at h3
 (refine new_of_W (T:=55) (k:=4) Tryz.func130 rfl (rs:=[Go.ResultVar.tmp 4]) rfl (nt:=10) rfl ?_;simp only [List.length_cons,List.length_nil,List.replicate,List.cons_append,List.nil_append])
 simp only [cF,cL] at h1 h2 h3 ⊢
 (refine aLb ?_)
 ((refine W_seqR ?_);intro K hK;(refine sLb ?_))
 (refine ⟨by kernel_rfl,call_pure rfl (h1) fun r hr=>?_⟩;subst hr;(refine sLb ?_;try exact True.intro))
 (refine ⟨by kernel_rfl,call_pure rfl (h2) fun r hr=>?_⟩;subst hr;(refine sLb ?_;try exact True.intro))
 (refine ⟨by kernel_rfl,call_new 9 rfl rfl (h3) fun rows hr=>?_⟩;subst hr;(try (refine sLb ?_)))
 (refine hK _ ?_;clear hK K)
 refine W_ret ?_
 (refine qG ?_;try exact True.intro)
 exact ⟨tab rowQ (normF (vals f++vals g)),by simp,by simp [tab_length],rfl,rfl⟩
theorem ladd_ok (f g:List (Int × RR)) {B C:Nat} (hf:FOk f B) (hg:FOk g C) (hs:B+C<17179869184):Pure Tryz.prog 130 [cF f,cF g] (·=cL (normF (vals f++vals g))) :=
 (ladd_new f g hf hg hs).pure.mono fun r h=>by obtain ⟨rows,rfl,rfl⟩:=h;rfl
set_option maxHeartbeats 4000000 in
theorem lscale_new (r:RR) (f:List (Int × RR)) {B:Nat} (hr:r.ok) (hf:FOk f B) (hs:nb r.v+B<17179869184) :
  New Tryz.prog 131 [r.av,cF f] 55 4 (·=tab rowQ (if r.v=0 then [] else scaleF r.v (normF (vals f)))):=by
 have hg:=rsign_ok r hr
 have heq:=rs_eq r.v
 have hn:=lnorm_new f hf (by omega)
 have hsz:=hf.sz.norm
 have hlen:=hsz.l
 have hmul:∀ p∈normF (vals f),Pure Tryz.prog 169 [r.av,cQ p.2] (·=cQ (r.v*p.2)):=fun p hp=>by
  have hb:=hsz.mem hp
  have:=rmul_ok r (qr p.2) hr (qr_ok (by omega))
  rwa [qr_v] at this
 generalize normF (vals f)=l at *
 obtain ⟨neg,n,d⟩:=r
 simp only [RR.av] at hg hmul ⊢
 generalize RR.v _=c at *
 by_cases h0:c=0
 ·rw [decide_eq_true h0] at heq
  rw [if_pos h0]
  (refine new_of_W (T:=55) (k:=4) Tryz.func131 rfl (rs:=[Go.ResultVar.tmp 4]) rfl (nt:=30) rfl ?_;simp only [List.length_cons,List.length_nil,List.replicate,List.cons_append,List.nil_append])
  simp only [cF]
  (refine aLb ?_)
  refine W_seq ?_
  ((refine W_seqV ?_);intro K hK;(refine sLb ?_))
  (refine ⟨by kernel_rfl,_,.pure rfl (hg),?_⟩;(try (refine sLb ?_)))
  (refine sLbX heq ?_;try exact True.intro)
  (refine hK _ ?_;clear hK K)
  (refine W_ct rfl ?_)
  ((refine W_seqV ?_);intro K hK;(refine sLb ?_))
  (refine hK _ ?_;clear hK K)
  refine W_ret ?_
  (refine qG ?_;try exact True.intro)
  rfl
 ·rw [decide_eq_false h0] at heq
  rw [if_neg h0]
  (refine new_of_W (T:=55) (k:=4) Tryz.func131 rfl (rs:=[Go.ResultVar.tmp 4]) rfl (nt:=30) rfl ?_;simp only [List.length_cons,List.length_nil,List.replicate,List.cons_append,List.nil_append])
  simp only [cF] at hn ⊢
  (refine aLb ?_)
  refine W_seq ?_
  ((refine W_seqV ?_);intro K hK;(refine sLb ?_))
  (refine ⟨by kernel_rfl,_,.pure rfl (hg),?_⟩;(try (refine sLb ?_)))
  (refine sLbX heq ?_;try exact True.intro)
  (refine hK _ ?_;clear hK K)
  (refine W_cf rfl ?_)
  refine W_skip ?_
  simp only [thenW]
  ((refine W_seqR ?_);intro K hK;(refine sLb ?_))
  (refine ⟨by kernel_rfl,call_new 11 rfl rfl (hn) fun rows hr=>?_⟩;subst hr;(try (refine sLb ?_)))
  (refine hK _ ?_;clear hK K)
  ((refine W_seq (W_seqV ?_));intro K hK;(refine sLb ?_))
  (refine hK _ ?_;clear hK K)
  refine W_block (W_loop (fun t:{t:Nat // t≤l.length} =>
   ⟨[.any,.any,.ptr 2 0 0,.any,.any,.sref 11 0 l.length,.any,.any,.any,.any,.any,.any,.any,.int .i64 l.length,.int .i64 t.1,.any,.any,.any,.any,.any,.any,.any,.any,.any,.any,.any,.any,.any,.any,.any],[.dead,.dead,.arr 53 3 false [[.bool neg,.sl (u32s n),.sl (u32s d)]],.dead,.dead,.dead,.dead,.dead,.dead,.dead,.dead,.arr 55 4 true (tab rowQ (scaleF c (l.take t.1)++l.drop t.1)),.dead,.dead,.dead,.dead,.dead,.dead,.dead,.dead,.dead,.dead,.dead,.dead,.dead,.dead,.dead,.dead,.dead,.dead]⟩) (fun t=>l.length-t.1)
   ⟨0,by omega⟩ (Le_of (by simp [leE]) (by simp [scaleF])) fun t=>?_)
  obtain ⟨i,hi⟩:=t
  dsimp only
  have hle:(scaleF c (l.take i)++l.drop i).length=l.length:=by simp [scaleF];omega
  by_cases hlt:i<l.length
  ·have hmem:l.getD i default∈l:=by simp [List.getD_eq_getElem?_getD,hlt]
   have hX2:(scaleF c (l.take i)++l.drop i).getD i default=l.getD i default:=by
    have h1:(scaleF c (l.take i)).length=i:=by simp [scaleF];omega
    rw [List.getD_eq_getElem?_getD,List.getElem?_append_right (by omega),h1,List.getElem?_drop]
    simp [List.getD_eq_getElem?_getD]
   have hset:(scaleF c (l.take i)++l.drop i).set i ((l.getD i default).1,c*(l.getD i default).2)=scaleF c (l.take (i+1))++l.drop (i+1):=by
    have h1:(scaleF c (l.take i)).length=i:=by simp [scaleF];omega
    rw [List.set_append_right _ _ (by omega),h1,Nat.sub_self,List.drop_eq_getElem_cons hlt,List.set_cons_zero,List.take_succ_eq_append_getElem hlt]
    simp only [scaleF,List.map_append,List.map_cons,List.map_nil,List.append_assoc,List.cons_append,List.nil_append]
    simp [List.getD_eq_getElem?_getD,hlt]
   have hm:=hmul _ hmem
   generalize hXe:scaleF c (l.take i)++l.drop i=X at *
   generalize hpe:l.getD i default=p at *
   have htset:=congrArg (tab rowQ) hset
   rw [← tab_set] at htset
   have hcol:((i:Nat):Int)<((l.length:Nat):Int):=by omega
   have hXi:(tab rowQ X).getD i []=rowQ p:=by rw [tab_getD (by omega),hX2]
   simp only [rowQ] at htset hXi
   simp only [cQ] at hm
   refine W_seq ?_
   ((refine W_regV ?_);intro K hK;(refine sLbX hlt ?_))
   (refine hK _ ?_;clear hK K)
   (refine W_seq (W_ct rfl ?_))
   refine W_skip ?_
   simp only [thenW]
   refine W_seq ?_
   refine W_block ?_
   ((refine W_seqV ?_);intro K hK;(refine sLb ?_))
   (refine hK _ ?_;clear hK K)
   ((refine W_regS mixed 11 [] (by kernel_rfl) fun K hK=>?_);(refine sLbX hXi ?_))
   ((repeat refine aI ?_);refine ⟨by kernel_rfl,_,.pure rfl (hm),?_⟩;(try (refine sLb ?_));(repeat refine aI ?_))
   (refine hK _ ?_;clear hK K)
   simp only [blockW,thenW]
   ((refine W_regV ?_);intro K hK;(refine sLb ?_))
   (refine hK _ ?_;clear hK K)
   try simp only [blockW,thenW]
   refine ⟨⟨i+1,by omega⟩,Le_drop (by simp [leE]) (by simp [leH,htset]) rfl rfl,?_⟩
   dsimp only
   omega
  ·obtain rfl:i=l.length:=by omega
   refine W_seq ?_
   ((refine W_regV ?_);intro K hK;(refine sLb ?_))
   (refine hK _ ?_;clear hK K)
   (refine W_seq (W_cf rfl ?_))
   refine W_exit ?_
   simp only [thenW,blockW,if_true]
   ((refine W_seqV ?_);intro K hK;(refine sLb ?_))
   (refine hK _ ?_;clear hK K)
   refine W_ret ?_
   (refine qG ?_;try exact True.intro)
   exact ⟨tab rowQ (scaleF c l),by simp,by simp [tab_length,scaleF],by simp,rfl⟩
theorem lscale_ok (r:RR) (f:List (Int × RR)) {B:Nat} (hr:r.ok) (hf:FOk f B) (hs:nb r.v+B<17179869184) :
  Pure Tryz.prog 131 [r.av,cF f] (·=cL (if r.v=0 then [] else scaleF r.v (normF (vals f)))) :=
 (lscale_new r f hr hf hs).pure.mono fun r h=>by obtain ⟨rows,rfl,rfl⟩:=h;rfl
def negF (l:List (Int × Rat)):List (Int × Rat):=scaleF (-1) l
theorem nb_m1:nb (-1)=2:=by decide
theorem nbv_neg (l:List (Int × Rat)) (v:Int):nbv (negF l) v=nbv l v:=by
 induction l with
 | nil=>rfl
 | cons p l ih =>
  simp only [negF,scaleF,List.map_cons,nbv] at *
  rw [ih,show (-1:Rat)*p.2 = -p.2 by grind,nb_neg]
def subF (f g:List (Int × Rat)):List (Int × Rat):=normF (f++negF (normF g))
theorem coef_sub (f g:List (Int × Rat)) (v:Int):coef (subF f g) v=coef f v-coef g v:=by
 rw [subF,coef_norm,coef_append,negF,coef_scale,coef_norm];grind
theorem ev2_sub (x:Int→Rat) (f g:List (Int × Rat)):ev2 x (subF f g)=ev2 x f-ev2 x g:=by
 rw [subF,ev2_norm,ev2_append,negF,ev2_scale,ev2_norm];grind
theorem NF.sub (f g:List (Int × Rat)):NF (subF f g):=NF.norm _
theorem Sz.neg {l:List (Int × Rat)} {B:Nat} (h:Sz l B):Sz (negF l) B:=⟨fun v=>by rw [nbv_neg];exact h.b v,by have:=h.l;simpa [negF,scaleF] using this⟩
theorem Sz.sub {f g:List (Int × Rat)} {B C:Nat} (hf:Sz f B) (hg:Sz g C):Sz (subF f g) (B+C):=(hf.append hg.norm.neg).norm
set_option maxHeartbeats 1000000 in
theorem lsub_new (f g:List (Int × RR)) {B C:Nat} (hf:FOk f B) (hg:FOk g C) (hs:B+C<8589934592):New Tryz.prog 92 [cF f,cF g] 55 4 (·=tab rowQ (subF (vals f) (vals g))):=by
 have h1:=rwhole_ok (-1) (by decide) (by decide)
 have h2:=lscale_ok (qr (-1)) g (qr_ok (by decide)) hg (by rw [qr_v,nb_m1];omega)
 rw [qr_v,if_neg (by decide),qr_av] at h2
 have h3:=ladd_new f (rf (negF (normF (vals g)))) hf (FOk.rf hg.sz.norm.neg (by omega)) (by omega)
 rw [vals_rf,cF_rf] at h3
 change New _ _ _ _ _ (·=tab rowQ (subF (vals f) (vals g))) at h3
 rw [show ((-1:Int):Rat)=(-1:Rat) from rfl] at h1
 change Pure _ _ _ (·=cL (negF (normF (vals g)))) at h2
 (refine new_of_W (T:=55) (k:=4) Tryz.func92 rfl (rs:=[Go.ResultVar.tmp 4]) rfl (nt:=10) rfl ?_;simp only [List.length_cons,List.length_nil,List.replicate,List.cons_append,List.nil_append])
 simp only [cF,cL] at h2 h3 ⊢
 (refine aLb ?_)
 ((refine W_seqR ?_);intro K hK;(refine sLb ?_))
 (refine ⟨by kernel_rfl,call_pure rfl (h1) fun r hr=>?_⟩;subst hr;(refine sLb ?_;try exact True.intro))
 (refine ⟨by kernel_rfl,call_pure rfl (h2) fun r hr=>?_⟩;subst hr;(refine sLb ?_;try exact True.intro))
 (refine ⟨by kernel_rfl,call_new 9 rfl rfl (h3) fun rows hr=>?_⟩;subst hr;(try (refine sLb ?_)))
 (refine hK _ ?_;clear hK K)
 refine W_ret ?_
 (refine qG ?_;try exact True.intro)
 exact ⟨tab rowQ (subF (vals f) (vals g)),by simp,by simp [tab_length],rfl,rfl⟩
theorem lsub_ok (f g:List (Int × RR)) {B C:Nat} (hf:FOk f B) (hg:FOk g C) (hs:B+C<8589934592):Pure Tryz.prog 92 [cF f,cF g] (·=cL (subF (vals f) (vals g))) :=
 (lsub_new f g hf hg hs).pure.mono fun r h=>by obtain ⟨rows,rfl,rfl⟩:=h;rfl
def cmpF (f g:List (Int × Rat)):Int:=match subF f g with | []=>0 | p::_=>p.2.num.sign
theorem sJa {G G':Prop} (h:G') (e:G=G':=by conv=>lhs;simp (disch:=omega) only [rowsOf,cNat,cN,St.ret,St.seth,Eff.app,Eff.wi,sepL,guardOf,St.known,objOf,List.set,sliceW,litW,copyW,lenOf,bnd,mxOk,ofCells,TI.isAgg,cellsOf,storable,AV.one,dead,laid,overlay,reduceCtorEq,Int.reduceLE,Int.reduceLT,Int.reduceSub,Int.reduceAdd,Nat.reduceMul,Int.reduceToNat,Nat.reducePow,Int.reduceNeg,Nat.reduceAdd,Nat.reduceLT,Nat.reduceLeDiff,sA,sB,cQ,rowM,tab_length,tab_getD_zero,List.take_length,List.length_append,tab_drop,tab_take,tab_append,tab_nil,rowM_all,rowM_one,rowM_pure,rowQ_all,rowQ_one,rowQ_pure,sT]):G:=e.mpr h
theorem sJaX {G G' P:Prop} (p:P) (h:G') (e:P→G=G':=by intro p;conv=>lhs;simp (disch:=omega) only [rowsOf,cNat,cN,St.ret,St.seth,Eff.app,Eff.wi,sepL,guardOf,St.known,objOf,List.set,sliceW,litW,copyW,lenOf,bnd,mxOk,ofCells,TI.isAgg,cellsOf,storable,AV.one,dead,laid,overlay,reduceCtorEq,Int.reduceLE,Int.reduceLT,Int.reduceSub,Int.reduceAdd,Nat.reduceMul,Int.reduceToNat,Nat.reducePow,Int.reduceNeg,Nat.reduceAdd,Nat.reduceLT,Nat.reduceLeDiff,sA,sB,cQ,rowM,tab_length,tab_getD_zero,List.take_length,List.length_append,tab_drop,tab_take,tab_append,tab_nil,rowM_all,rowM_one,rowM_pure,rowQ_all,rowQ_one,rowQ_pure,sT,p]):G:=(e p).mpr h
theorem sJaV {G G':Prop} (h:G') (e:G=G':=by conv=>lhs;simp (disch:=omega) only [rowsOf,cNat,cN,St.ret,St.seth,Eff.app,Eff.wi,sepL,guardOf,St.known,objOf,List.set,sliceW,litW,copyW,lenOf,bnd,mxOk,ofCells,TI.isAgg,cellsOf,storable,AV.one,dead,laid,overlay,reduceCtorEq,Int.reduceLE,Int.reduceLT,Int.reduceSub,Int.reduceAdd,Nat.reduceMul,Int.reduceToNat,Nat.reducePow,Int.reduceNeg,Nat.reduceAdd,Nat.reduceLT,Nat.reduceLeDiff,sA,sB,cQ,rowM,tab_length,tab_getD_zero,List.take_length,List.length_append,tab_drop,tab_take,tab_append,tab_nil,rowM_all,rowM_one,rowM_pure,rowQ_all,rowQ_one,rowQ_pure,sT,view_sref,viewRef,view_agg,views_cons,views_nil,view_bool,view_int,view_sl,view_nils,view_str,view_tup,view_nilif]):G:=e.mpr h
theorem aJa {G G':Prop} (h:G') (f:Wr G'→G:=by intro h;(repeat (first|(refine W_seqV fun K hK=>?_;(try (refine sJa ?_;try exact True.intro));(repeat refine aI ?_);refine hK _ ?_;clear hK K)|(refine W_seqR fun K hK=>?_;(try (refine sJa ?_;try exact True.intro));(repeat refine aI ?_);refine hK _ ?_;clear hK K)|(refine W_seqD mixed [] (by kernel_rfl) fun K hK=>?_;(try (refine sJa ?_;try exact True.intro));(repeat refine aI ?_);refine hK _ ?_;clear hK K)));exact h.out):G:=f ⟨h⟩
theorem f6zero_ok:Pure Tryz.prog 80 [] (·=cQ 0):=by
 have h1:=f3whole_ok 0 (by omega) (by omega)
 change Pure _ _ _ (·=cQ 0) at h1
 generalize (0:Rat)=q at *
 simp only [cQ] at h1
 (refine pureW Tryz.func80 rfl (rs:=[Go.ResultVar.cell 0 53]) rfl (n:=2) rfl ?_;simp only [List.length_cons,List.length_nil,List.replicate,List.cons_append,List.nil_append])
 (refine aJa ?_)
 ((refine W_seqV ?_);intro K hK;(refine sJa ?_))
 (refine ⟨by kernel_rfl,_,.pure rfl (h1),?_⟩;(try (refine sJa ?_)))
 (refine hK _ ?_;clear hK K)
 refine W_ret ?_
 (refine qG ?_;try exact True.intro);try (refine sJaV ?_;try exact True.intro)
theorem coef_take (v:Int) (f:List (Int × Rat)) {i:Nat} (h:i<f.length):coef (f.take (i+1)) v=coef (f.take i) v+if (f.getD i default).1=v then (f.getD i default).2 else 0:=by
 rw [List.take_succ_eq_append_getElem h,coef_append]
 have:f.getD i default=f[i]:=by simp [List.getD_eq_getElem?_getD,h]
 rw [this]
 simp only [coef]
 grind
theorem nb_coef (l:List (Int × Rat)) (v:Int):nb (coef l v)≤1+nbv l v:=by
 induction l with
 | nil=>simp [coef,nb_zero]
 | cons p l ih =>
  simp only [coef,nbv]
  split
  ·have:=nb_add p.2 (coef l v);omega
  ·rw [Rat.zero_add];omega
theorem nbv_take (f:List (Int × Rat)) (v:Int) (i:Nat):nbv (f.take i) v≤nbv f v:=by
 induction f generalizing i with
 | nil=>simp
 | cons p f ih =>
  cases i with
  | zero=>simp [nbv]
  | succ i=>have:=ih i;simp only [List.take_succ_cons,nbv];omega
structure PF (f:List (Int × RR)) (B:Nat):Prop where
 ok:∀ p∈f,p.2.ok
 pre:∀ i v,nb (coef ((vals f).take i) v)≤B
 len:f.length<549755813888
theorem FOk.pf {f:List (Int × RR)} {B:Nat} (h:FOk f B) (hB:B<549755813888):PF f (1+B) :=
 ⟨h.ok,fun i v=>by
  have h1:=nb_coef ((vals f).take i) v
  have h2:=nbv_take (vals f) v i
  have h3:=h.sz.b v
  omega,by have:=h.len;omega⟩
theorem PF.coef {f:List (Int × RR)} {B:Nat} (h:PF f B) (v:Int):nb (coef (vals f) v)≤B:=by
 have:=h.pre (vals f).length v
 rwa [List.take_length] at this
theorem PF.mono {f:List (Int × RR)} {B C:Nat} (h:PF f B) (hc:B≤C):PF f C:=⟨h.ok,fun i v=>Nat.le_trans (h.pre i v) hc,h.len⟩
theorem PF.append {f g:List (Int × RR)} {B C:Nat} (hf:PF f B) (hg:PF g C) (hl:f.length+g.length<549755813888):PF (f++g) (B+C):=by
 refine ⟨fun p hp=>(List.mem_append.1 hp).elim (hf.ok p) (hg.ok p),fun i v=>?_,by simpa using hl⟩
 rw [vals_append,List.take_append,coef_append]
 have h1:=hf.pre i v
 have h2:=hg.pre (i-(vals f).length) v
 have h3:=nb_add (Vm.coef ((vals f).take i) v) (Vm.coef ((vals g).take (i-(vals f).length)) v)
 omega
theorem PF.scale {f:List (Int × RR)} {B C:Nat} (hf:PF f B) {c:Rat} (h:∀ p∈f,nb c+nb p.2.v<17179869184) (hc:nb c≤C):PF (rf (scaleF c (vals f))) (C+B):=by
 refine ⟨fun p hp=>?_,fun i v=>?_,by simpa [rf,scaleF,vals] using hf.len⟩
 ·simp only [rf,scaleF,vals,List.mem_map] at hp
  obtain ⟨_,⟨_,⟨p,hp,rfl⟩,rfl⟩,rfl⟩:=hp
  have h1:=h p hp
  have h2:=nb_mul c p.2.v
  exact qr_ok (by dsimp only;omega)
 ·rw [vals_rf]
  have h0:(scaleF c (vals f)).take i=scaleF c ((vals f).take i):=by simp [scaleF,List.map_take]
  rw [h0,coef_scale]
  have h1:=hf.pre i v
  have h2:=nb_mul c (Vm.coef ((vals f).take i) v)
  omega
theorem f6coef_ok (f:List (Int × RR)) (v:Int) {B:Nat} (hf:PF f B) (hB:B≤8589934592) :
  Pure Tryz.prog 91 [cF f,.int .i64 v] (·=cQ (coef (vals f) v)):=by
 have hz:=f6zero_ok
 have hfl:=hf.len
 have hvl:(vals f).length=f.length:=by simp [vals]
 have hnv:∀ i,nb (coef ((vals f).take i) v)≤8589934592:=fun i=>Nat.le_trans (hf.pre i v) hB
 have hst:∀ i,i<f.length→coef ((vals f).take (i+1)) v=coef ((vals f).take i) v+if (f.getD i default).1=v then (f.getD i default).2.v else 0:=fun i hi=>by
  rw [coef_take _ _ (by omega)]
  have:(vals f).getD i default=((f.getD i default).1,(f.getD i default).2.v):=by simp [vals,List.getD_eq_getElem?_getD,hi]
  rw [this]
 have h0:coef ((vals f).take 0) v=0:=rfl
 have hlast:(vals f).take f.length=vals f:=List.take_of_length_le (by omega)
 have hok:∀ i,i<f.length→(f.getD i default).2.ok:=fun i hi=>hf.ok _ (by simp [List.getD_eq_getElem?_getD,hi])
 rw [← hlast]
 generalize hE:(fun i=>coef ((vals f).take i) v)=E at *
 have hE':∀ i,coef ((vals f).take i) v=E i:=fun i=>congrFun hE i
 simp only [hE'] at *
 clear hE hE' hlast
 simp only [cQ] at hz
 (refine pureW Tryz.func91 rfl (rs:=[Go.ResultVar.cell 4 53]) rfl (n:=29) rfl ?_;simp only [List.length_cons,List.length_nil,List.replicate,List.cons_append,List.nil_append])
 simp only [cF]
 (refine aJa ?_)
 ((refine W_seqV ?_);intro K hK;(refine sJa ?_))
 (refine ⟨by kernel_rfl,_,.pure rfl (hz),?_⟩;(try (refine sJa ?_)))
 (refine hK _ ?_;clear hK K)
 ((refine W_seq (W_seqV ?_));intro K hK;(refine sJa ?_))
 (refine hK _ ?_;clear hK K)
 refine W_block (W_loop (fun t:{t:Nat // t≤f.length} =>
   ⟨[.sl (tab rowM f),.int .i64 v,.any,.any,.ptr 4 0 0,.ptr 5 0 0,.int .i64 t.1,.any,.any,.any,.any,.any,.any,.any,.any,.any,.any,.any,.any,.any,.any,.any,.any,.any,.any,.any,.any,.any,.any],[.dead,.dead,.dead,.dead,.arr 53 3 false [[.bool false,.nils,.nils]],.arr 53 3 false [[.bool (decide ((E t.1).num<0)),.sl (u32s (limbs (E t.1).num.natAbs)),.sl (u32s (limbs (E t.1).den))]],.dead,.dead,.dead,.dead,.dead,.dead,.dead,.dead,.dead,.dead,.dead,.dead,.dead,.dead,.dead,.dead,.dead,.dead,.dead,.dead,.dead,.dead,.dead]⟩) (fun t=>f.length-t.1)
   ⟨0,by omega⟩ (Le_of (by simp [leE]) (by simp [h0])) fun t=>?_)
 obtain ⟨i,hi⟩:=t
 dsimp only
 by_cases hlt:i<f.length
 ·have hXi:(tab rowM f).getD i []=rowM (f.getD i default):=tab_getD hlt
  have hsi:=hst i hlt
  have hp1:=hok i hlt
  have hni:=hnv i
  generalize f.getD i default=p at *
  simp only [rowM] at hXi
  refine W_seq ?_
  ((refine W_seqV ?_);intro K hK;(refine sJaX hlt ?_))
  (refine hK _ ?_;clear hK K)
  (refine W_ct rfl ?_)
  refine W_skip ?_
  simp only [thenW]
  refine W_seq ?_
  refine W_block ?_
  ((refine W_seqV ?_);intro K hK;(refine sJaX (And.intro hXi hlt) ?_))
  (refine hK _ ?_;clear hK K)
  by_cases hv:p.1=v
  ·rw [if_pos hv] at hsi
   have hadd:=f3add_ok (qr (E i)) p.2 (qr_ok (by omega)) hp1
   rw [qr_v,← hsi] at hadd
   simp only [RR.av,qr,cQ] at hadd
   have hb:(p.1 == v)=true:=by simp [hv]
   rw [hb]
   (refine W_ct rfl ?_)
   ((refine W_regD mixed [] (by kernel_rfl) ?_);intro K hK;(refine sJaX (And.intro hXi hlt) ?_))
   (refine ⟨by kernel_rfl,_,.pure rfl (hadd),?_⟩;(try (refine sJa ?_)))
   (refine hK _ ?_;clear hK K)
   simp only [blockW,thenW]
   ((refine W_regV ?_);intro K hK;(refine sJa ?_))
   (refine hK _ ?_;clear hK K)
   simp only [blockW,thenW]
   refine ⟨⟨i+1,by omega⟩,Le_drop (by simp [leE]) (by simp [leH]) rfl rfl,?_⟩
   dsimp only
   omega
  ·rw [if_neg hv,Rat.add_zero] at hsi
   have hb:(p.1 == v)=false:=by simp [hv]
   rw [hb]
   (refine W_cf rfl ?_)
   refine W_skip ?_
   simp only [blockW,thenW]
   ((refine W_regV ?_);intro K hK;(refine sJa ?_))
   (refine hK _ ?_;clear hK K)
   simp only [blockW,thenW]
   refine ⟨⟨i+1,by omega⟩,Le_drop (by simp [leE]) (by simp [leH,hsi]) rfl rfl,?_⟩
   dsimp only
   omega
 ·obtain rfl:i=f.length:=by omega
  refine W_seq ?_
  ((refine W_seqV ?_);intro K hK;(refine sJa ?_))
  (refine hK _ ?_;clear hK K)
  (refine W_cf rfl ?_)
  refine W_exit ?_
  simp only [thenW,blockW,if_true]
  ((refine W_seqV ?_);intro K hK;(refine sJa ?_))
  (refine hK _ ?_;clear hK K)
  refine W_ret ?_
  (refine qG ?_;try exact True.intro);try (refine sJaV ?_;try exact True.intro)
theorem i64s_take (l:List Int) (n:Nat):(i64s l).take n=i64s (l.take n):=by simp [i64s,List.map_take]
theorem i64s_drop (l:List Int) (n:Nat):(i64s l).drop n=i64s (l.drop n):=by simp [i64s,List.map_drop]
theorem i64s_set (l:List Int) (n:Nat) (x:Int):(i64s l).set n [.int .i64 x]=i64s (l.set n x):=by simp [i64s,List.map_set]
theorem i64s_append (l m:List Int):i64s l++i64s m=i64s (l++m):=by simp [i64s]
theorem i64s_one (l:List Int):AllOne (i64s l):=by
 intro r hr
 simp only [i64s,List.mem_map] at hr
 obtain ⟨x,_,rfl⟩:=hr
 rfl
theorem i64s_pure (l:List Int):AllPure (i64s l):=by
 intro r hr
 simp only [i64s,List.mem_map] at hr
 obtain ⟨x,_,rfl⟩:=hr
 rfl
def insI (x:Int):List Int→List Int
 | []=>[x]
 | y::l=>if y<x then y::insI x l else if y=x then y::l else x::y::l
def sortI (l:List Int):List Int:=l.foldl (fun o x=>insI x o) []
theorem insI_at {x:Int}:∀ {out:List Int} {k:Nat},k≤out.length→(∀ j,j<k→out.getD j 0<x)→(k=out.length∨x≤out.getD k 0) →
  insI x out=if k<out.length∧out.getD k 0=x then out else out.take k++x::out.drop k
 | [],k,h0,_,_=>by
  obtain rfl:k=0:=by simpa using h0
  simp [insI]
 | y::out,0,_,_,h2=>by
  have h3:x≤y:=by simpa using h2
  simp only [insI,if_neg (show ¬ y<x by omega)]
  simp
 | y::out,k+1,h0,h1,h2=>by
  have h3:y<x:=by simpa using h1 0 (by omega)
  have:=insI_at (x:=x) (out:=out) (k:=k) (by simpa using h0) (fun j hj=>by simpa using h1 (j+1) (by omega)) (by simpa using h2)
  simp only [insI,if_pos h3,this]
  simp only [List.length_cons,List.getD_cons_succ,List.take_succ_cons,List.drop_succ_cons,Nat.add_lt_add_iff_right]
  split <;> simp
theorem mem_insI {x y:Int}:∀ {l:List Int},y∈insI x l↔y=x∨y∈l
 | []=>by simp [insI]
 | z::l=>by
  have ih:=mem_insI (x:=x) (y:=y) (l:=l)
  simp only [insI]
  split
  ·simp only [List.mem_cons,ih];grind
  ·split
   ·rename_i h;subst h;simp
   ·simp
theorem insI_lt {x:Int}:∀ {l:List Int},l.Pairwise (·<·)→(insI x l).Pairwise (·<·)
 | [],_=>by simp [insI]
 | z::l,h=>by
  have ih:=insI_lt (x:=x) (List.pairwise_cons.1 h).2
  have hz:=(List.pairwise_cons.1 h).1
  simp only [insI]
  split
  ·refine List.pairwise_cons.2 ⟨fun y hy=>?_,ih⟩
   rcases mem_insI.1 hy with rfl | hy
   ·assumption
   ·exact hz y hy
  ·split
   ·exact h
   ·refine List.pairwise_cons.2 ⟨fun y hy=>?_,h⟩
    rcases List.mem_cons.1 hy with rfl | hy
    ·omega
    ·have:=hz y hy;omega
theorem insI_len {x:Int}:∀ {l:List Int},(insI x l).length≤l.length+1
 | []=>by simp [insI]
 | z::l=>by
  have ih:=insI_len (x:=x) (l:=l)
  simp only [insI]
  split
  ·simpa using ih
  ·split <;> simp
theorem sortI_take {l:List Int} {i:Nat} (h:i<l.length):sortI (l.take (i+1))=insI (l.getD i 0) (sortI (l.take i)):=by
 unfold sortI
 rw [List.take_succ_eq_append_getElem h,List.foldl_append]
 simp [List.getD_eq_getElem?_getD,h]
theorem foldl_insI:∀ (l o:List Int),o.Pairwise (·<·)→(l.foldl (fun o x=>insI x o) o).Pairwise (·<·)∧(∀ y,y∈l.foldl (fun o x=>insI x o) o↔y∈o∨y∈l)∧(l.foldl (fun o x=>insI x o) o).length≤o.length+l.length
 | [],o,h=>⟨h,by simp,by simp⟩
 | x::l,o,h=>by
  have ⟨h1,h2,h3⟩:=foldl_insI l (insI x o) (insI_lt h)
  refine ⟨h1,fun y=>?_,?_⟩
  ·simp only [List.foldl_cons]
   rw [h2 y,mem_insI]
   simp only [List.mem_cons]
   grind
  ·have:=insI_len (x:=x) (l:=o)
   simp only [List.foldl_cons,List.length_cons]
   omega
theorem sortI_lt (l:List Int):(sortI l).Pairwise (·<·):=(foldl_insI l [] List.Pairwise.nil).1
theorem mem_sortI {l:List Int} {y:Int}:y∈sortI l↔y∈l:=by have:=(foldl_insI l [] List.Pairwise.nil).2.1 y;simpa [sortI] using this
theorem sortI_len (l:List Int):(sortI l).length≤l.length:=by have:=(foldl_insI l [] List.Pairwise.nil).2.2;simpa [sortI] using this
def pickF (f:List (Int × Rat)):List Int→List (Int × Rat)
 | []=>[]
 | v::l=>if coef f v=0 then pickF f l else (v,coef f v)::pickF f l
theorem pickF_append (f:List (Int × Rat)) (l m:List Int):pickF f (l++m)=pickF f l++pickF f m:=by
 induction l with
 | nil=>rfl
 | cons v l ih=>simp only [List.cons_append,pickF,ih];split <;> simp
theorem pickF_take {f:List (Int × Rat)} {l:List Int} {i:Nat} (h:i<l.length):pickF f (l.take (i+1))=pickF f (l.take i)++if coef f (l.getD i 0)=0 then [] else [(l.getD i 0,coef f (l.getD i 0))]:=by
 rw [List.take_succ_eq_append_getElem h,pickF_append]
 have:l.getD i 0=l[i]:=by simp [List.getD_eq_getElem?_getD,h]
 rw [this]
 simp only [pickF]
theorem mem_pickF {f:List (Int × Rat)} {p:Int × Rat}:∀ {l:List Int},p∈pickF f l→p.1∈l∧p.2=coef f p.1∧p.2≠0
 | v::l,h=>by
  simp only [pickF] at h
  split at h
  ·have:=mem_pickF h;exact ⟨List.mem_cons_of_mem _ this.1,this.2⟩
  ·rcases List.mem_cons.1 h with rfl | h
   ·exact ⟨List.mem_cons_self,rfl,by assumption⟩
   ·have:=mem_pickF h;exact ⟨List.mem_cons_of_mem _ this.1,this.2⟩
theorem pickF_nf {f:List (Int × Rat)}:∀ {l:List Int},l.Pairwise (·<·)→NF (pickF f l)
 | [],_=>NF.nil
 | v::l,h=>by
  have ih:=pickF_nf (f:=f) (List.pairwise_cons.1 h).2
  simp only [pickF]
  split
  ·exact ih
  ·exact NF.cons ih (by assumption) fun q hq=>(List.pairwise_cons.1 h).1 _ (mem_pickF hq).1
theorem pickF_coef {f:List (Int × Rat)} {v:Int}:∀ {l:List Int},l.Pairwise (·<·)→coef (pickF f l) v=if v∈l then coef f v else 0
 | [],_=>by simp [pickF,coef]
 | w::l,h=>by
  have ih:=pickF_coef (f:=f) (v:=v) (List.pairwise_cons.1 h).2
  have hw:=(List.pairwise_cons.1 h).1
  simp only [pickF]
  by_cases hv:v=w
  ·subst hv
   have h1:v∉l:=fun hm=>by have:=hw v hm;omega
   rw [if_neg h1] at ih
   split
   ·rename_i h0;rw [ih,if_pos List.mem_cons_self,h0]
   ·simp only [coef,if_true,ih,if_pos List.mem_cons_self,Rat.add_zero]
  ·have h1:(v∈w::l)=(v∈l):=by simp [hv]
   simp only [h1]
   split
   ·exact ih
   ·simp only [coef,if_neg (show ¬ w=v from fun e=>hv e.symm),ih,Rat.zero_add]
theorem pick_norm (f:List (Int × Rat)):pickF f (sortI (f.map (·.1)))=normF f:=by
 refine norm_of (pickF_nf (sortI_lt _)) fun v=>?_
 rw [pickF_coef (sortI_lt _)]
 split
 ·rfl
 ·rename_i h
  rw [mem_sortI] at h
  exact (coef_none fun p hp e=>h (List.mem_map.2 ⟨p,hp,e⟩)).symm
theorem pickF_len (f:List (Int × Rat)):∀ l:List Int,(pickF f l).length≤l.length
 | []=>Nat.le_refl _
 | v::l=>by
  have:=pickF_len f l
  simp only [pickF]
  split <;> simp only [List.length_cons] <;> omega
theorem sJb {G G':Prop} (h:G') (e:G=G':=by conv=>lhs;simp (disch:=omega) only [rowsOf,cNat,cN,St.ret,St.seth,Eff.app,Eff.wi,sepL,guardOf,St.known,objOf,List.set,sliceW,litW,copyW,lenOf,bnd,mxOk,ofCells,TI.isAgg,cellsOf,storable,AV.one,dead,laid,overlay,reduceCtorEq,Int.reduceLE,Int.reduceLT,Int.reduceSub,Int.reduceAdd,Nat.reduceMul,Int.reduceToNat,Nat.reducePow,Int.reduceNeg,Nat.reduceAdd,Nat.reduceLT,Nat.reduceLeDiff,sA,sB,i64s_getD,i64s_length,i64s_all,i64s_take,i64s_drop,i64s_set,i64s_one,i64s_pure,i64s_append,List.take_length,List.length_append,sT]):G:=e.mpr h
theorem sJbX {G G' P:Prop} (p:P) (h:G') (e:P→G=G':=by intro p;conv=>lhs;simp (disch:=omega) only [rowsOf,cNat,cN,St.ret,St.seth,Eff.app,Eff.wi,sepL,guardOf,St.known,objOf,List.set,sliceW,litW,copyW,lenOf,bnd,mxOk,ofCells,TI.isAgg,cellsOf,storable,AV.one,dead,laid,overlay,reduceCtorEq,Int.reduceLE,Int.reduceLT,Int.reduceSub,Int.reduceAdd,Nat.reduceMul,Int.reduceToNat,Nat.reducePow,Int.reduceNeg,Nat.reduceAdd,Nat.reduceLT,Nat.reduceLeDiff,sA,sB,i64s_getD,i64s_length,i64s_all,i64s_take,i64s_drop,i64s_set,i64s_one,i64s_pure,i64s_append,List.take_length,List.length_append,sT,p]):G:=(e p).mpr h
theorem sJbV {G G':Prop} (h:G') (e:G=G':=by conv=>lhs;simp (disch:=omega) only [rowsOf,cNat,cN,St.ret,St.seth,Eff.app,Eff.wi,sepL,guardOf,St.known,objOf,List.set,sliceW,litW,copyW,lenOf,bnd,mxOk,ofCells,TI.isAgg,cellsOf,storable,AV.one,dead,laid,overlay,reduceCtorEq,Int.reduceLE,Int.reduceLT,Int.reduceSub,Int.reduceAdd,Nat.reduceMul,Int.reduceToNat,Nat.reducePow,Int.reduceNeg,Nat.reduceAdd,Nat.reduceLT,Nat.reduceLeDiff,sA,sB,i64s_getD,i64s_length,i64s_all,i64s_take,i64s_drop,i64s_set,i64s_one,i64s_pure,i64s_append,List.take_length,List.length_append,sT,view_sref,viewRef,view_agg,views_cons,views_nil,view_bool,view_int,view_sl,view_nils,view_str,view_tup,view_nilif]):G:=e.mpr h
theorem aJb {G G':Prop} (h:G') (f:Wr G'→G:=by intro h;(repeat (first|(refine W_seqV fun K hK=>?_;(try (refine sJb ?_;try exact True.intro));(repeat refine aI ?_);refine hK _ ?_;clear hK K)|(refine W_seqR fun K hK=>?_;(try (refine sJb ?_;try exact True.intro));(repeat refine aI ?_);refine hK _ ?_;clear hK K)|(refine W_seqD mixed [] (by kernel_rfl) fun K hK=>?_;(try (refine sJb ?_;try exact True.intro));(repeat refine aI ?_);refine hK _ ?_;clear hK K)));exact h.out):G:=f ⟨h⟩
def shI (out:List Int) (k:Nat):List Int:=out.take k++((out++[0]).getD k 0)::out.drop k
theorem shI_len {out:List Int} {k:Nat} (h:k≤out.length):(shI out k).length=out.length+1:=by simp [shI];omega
theorem shI_top (out:List Int):shI out out.length=out++[0]:=by simp [shI]
theorem shI_low {out:List Int} {k j:Nat} (h:k≤out.length) (hj:j<k):(shI out k).getD j 0=out.getD j 0:=by
 simp only [shI,List.getD_eq_getElem?_getD]
 rw [List.getElem?_append_left (by simp;omega)]
 simp [hj]
theorem shI_step {out:List Int} {k:Nat} (h:k<out.length):(shI out (k+1)).set (k+1) (out.getD k 0)=shI out k:=by
 have h1:out.take (k+1)=out.take k++[out.getD k 0]:=by rw [List.take_succ_eq_append_getElem h];simp [List.getD_eq_getElem?_getD,h]
 have h2:out.drop k=out.getD k 0::out.drop (k+1):=by rw [List.drop_eq_getElem_cons h];simp [List.getD_eq_getElem?_getD,h]
 have h3:(out++[0]).getD k 0=out.getD k 0:=by simp only [List.getD_eq_getElem?_getD];rw [List.getElem?_append_left h]
 rw [shI,shI,h3,h2,h1]
 rw [List.set_append_right _ _ (by simp;omega)]
 have:k+1-(List.take k out++[out.getD k 0]).length=0:=by simp;omega
 rw [this]
 simp
theorem shI_set {out:List Int} {k:Nat} (h:k≤out.length) (x:Int):(shI out k).set k x=out.take k++x::out.drop k:=by
 rw [shI,List.set_append_right _ _ (by simp;omega)]
 have:k-(List.take k out).length=0:=by simp;omega
 rw [this]
 simp
theorem f6sorted_ok (l:List Int) (hl:l.length<1099511627776) :
  Pure Tryz.prog 160 [.sl (i64s l)] (· = .sl (i64s (sortI l))):=by
 (refine pureW Tryz.func160 rfl (rs:=[Go.ResultVar.tmp 2]) rfl (n:=72) rfl ?_;simp only [List.length_cons,List.length_nil,List.replicate,List.cons_append,List.nil_append])
 (refine aJb ?_)
 refine W.le ?_ (Le_nil 3 3 3 1 true rfl rfl)
 simp only [List.set]
 have hst:∀ i,i<l.length→sortI (l.take (i+1))=insI (l.getD i 0) (sortI (l.take i)):=fun i hi=>sortI_take hi
 have hln:∀ i,(sortI (l.take i)).length≤l.length:=fun i=>by have:=sortI_len (l.take i);simp at this;omega
 have h0:sortI (l.take 0)=[]:=rfl
 have hlast:l.take l.length=l:=List.take_of_length_le (by omega)
 rw [← hlast]
 generalize hE:(fun i=>sortI (l.take i))=E at *
 have hE':∀ i,sortI (l.take i)=E i:=fun i=>congrFun hE i
 simp only [hE'] at *
 clear hE hE'
 rw [hlast]
 ((refine W_seq (W_seqV ?_));intro K hK;(refine sJb ?_))
 (refine hK _ ?_;clear hK K)
 refine W_block (W_loop (fun t:{t:Nat // t≤l.length} =>
   ((fun (a_:AV) (d_:Ob)=>(⟨((.sl (i64s l))::a_::a_::(.sref 3 0 (E t.1).length)::(.int .i64 t.1)::a_::a_::a_::a_::a_::a_::a_::a_::a_::a_::a_::a_::a_::a_::a_::a_::a_::a_::a_::a_::a_::a_::a_::a_::a_::a_::a_::a_::a_::a_::a_::a_::a_::a_::a_::a_::a_::a_::a_::a_::a_::a_::a_::a_::a_::a_::a_::a_::a_::a_::a_::a_::a_::a_::a_::a_::a_::a_::a_::a_::a_::a_::a_::a_::a_::a_::a_::[]),(d_::d_::d_::(.arr 3 1 true (i64s (E t.1)))::d_::d_::d_::d_::d_::d_::d_::d_::d_::d_::d_::d_::d_::d_::d_::d_::d_::d_::d_::d_::d_::d_::d_::d_::d_::d_::d_::d_::d_::d_::d_::d_::d_::d_::d_::d_::d_::d_::d_::d_::d_::d_::d_::d_::d_::d_::d_::d_::d_::d_::d_::d_::d_::d_::d_::d_::d_::d_::d_::d_::d_::d_::d_::d_::d_::d_::d_::d_::[])⟩:St)) .any .dead)) (fun t=>l.length-t.1)
   ⟨0,by omega⟩ (Le_of (by simp [leE,h0]) (by simp [h0,i64s])) fun t=>?_)
 obtain ⟨i,hi⟩:=t
 dsimp only
 by_cases hlt:i<l.length
 ·have hsi:=hst i hlt
  have hlo:=hln i
  have hlo1:=hln (i+1)
  generalize hx:l.getD i 0=x at *
  generalize E i=o at *
  refine W_seq ?_
  ((refine W_seqV ?_);intro K hK;(refine sJbX hlt ?_))
  (refine hK _ ?_;clear hK K)
  (refine W_ct rfl ?_)
  refine W_skip ?_
  simp only [thenW]
  refine W_seq ?_
  refine W_block ?_
  ((refine W_seqV ?_);intro K hK;(refine sJb ?_))
  (refine hK _ ?_;clear hK K)
  refine W_join (fun s'=>∃ k,k≤o.length∧(∀ j,j<k→o.getD j 0<x)∧(k=o.length∨x≤o.getD k 0)∧Le [] s' ((fun (a_:AV) (d_:Ob)=>(⟨((.sl (i64s l))::a_::a_::(.sref 3 0 o.length)::(.int .i64 i)::(.int .i64 k)::a_::a_::a_::a_::a_::a_::a_::a_::a_::a_::a_::a_::a_::a_::a_::a_::a_::a_::a_::a_::a_::a_::a_::a_::a_::a_::a_::a_::a_::a_::a_::a_::a_::a_::a_::a_::a_::a_::a_::a_::a_::a_::a_::a_::a_::a_::a_::a_::a_::a_::a_::a_::a_::a_::a_::a_::a_::a_::a_::a_::a_::a_::a_::a_::a_::a_::[]),(d_::d_::d_::(.arr 3 1 true (i64s o))::d_::d_::d_::d_::d_::d_::d_::d_::d_::d_::d_::d_::d_::d_::d_::d_::d_::d_::d_::d_::d_::d_::d_::d_::d_::d_::d_::d_::d_::d_::d_::d_::d_::d_::d_::d_::d_::d_::d_::d_::d_::d_::d_::d_::d_::d_::d_::d_::d_::d_::d_::d_::d_::d_::d_::d_::d_::d_::d_::d_::d_::d_::d_::d_::d_::d_::d_::d_::[])⟩:St)) .any .dead)) ?_ ?_
  ·refine W_block (W_loop (fun t:{t:Nat // t≤o.length∧∀ j,j<t→o.getD j 0<x} =>
    ((fun (a_:AV) (d_:Ob)=>(⟨((.sl (i64s l))::a_::a_::(.sref 3 0 o.length)::(.int .i64 i)::(.int .i64 t.1)::a_::a_::a_::a_::a_::a_::a_::a_::a_::a_::a_::a_::a_::a_::a_::a_::a_::a_::a_::a_::a_::a_::a_::a_::a_::a_::a_::a_::a_::a_::a_::a_::a_::a_::a_::a_::a_::a_::a_::a_::a_::a_::a_::a_::a_::a_::a_::a_::a_::a_::a_::a_::a_::a_::a_::a_::a_::a_::a_::a_::a_::a_::a_::a_::a_::a_::[]),(d_::d_::d_::(.arr 3 1 true (i64s o))::d_::d_::d_::d_::d_::d_::d_::d_::d_::d_::d_::d_::d_::d_::d_::d_::d_::d_::d_::d_::d_::d_::d_::d_::d_::d_::d_::d_::d_::d_::d_::d_::d_::d_::d_::d_::d_::d_::d_::d_::d_::d_::d_::d_::d_::d_::d_::d_::d_::d_::d_::d_::d_::d_::d_::d_::d_::d_::d_::d_::d_::d_::d_::d_::d_::d_::d_::d_::[])⟩:St)) .any .dead)) (fun t=>o.length-t.1)
    ⟨0,by omega,by simp⟩ (Le_of (by simp [leE]) (by simp)) fun t=>?_)
   obtain ⟨k,hk,hkl⟩:=t
   dsimp only
   by_cases hlk:k<o.length
   ·generalize hy:o.getD k 0=y at *
    by_cases hyx:y<x
    ·refine W_seq ?_
     ((refine W_seqD mixed [] (by kernel_rfl) ?_);intro K hK;(refine sJbX (And.intro hlt (And.intro hlk (And.intro hx (And.intro hy hyx)))) ?_))
     (refine hK _ ?_;clear hK K)
     (refine W_ct rfl ?_)
     refine W_skip ?_
     simp only [blockW,thenW]
     refine W_block ?_
     ((refine W_regV ?_);intro K hK;(refine sJb ?_))
     (refine hK _ ?_;clear hK K)
     simp only [blockW,thenW]
     refine ⟨⟨k+1,by omega,fun j hj=>?_⟩,Le_drop (by simp [leE]) (by simp [leH]) rfl rfl,?_⟩
     ·by_cases hjk:j=k
      ·rw [hjk,hy];exact hyx
      ·exact hkl j (by omega)
     ·dsimp only;omega
    ·refine W_seq ?_
     ((refine W_seqD mixed [] (by kernel_rfl) ?_);intro K hK;(refine sJbX (And.intro hlt (And.intro hlk (And.intro hx (And.intro hy hyx)))) ?_))
     (refine hK _ ?_;clear hK K)
     (refine W_cf rfl ?_)
     refine W_exit ?_
     simp only [thenW,blockW,if_true]
     exact ⟨k,hk,hkl,.inr (by rw [hy];omega),Le_of (by simp [leE]) (by simp)⟩
   ·refine W_seq ?_
    ((refine W_seqD mixed [] (by kernel_rfl) ?_);intro K hK;(refine sJbX (And.intro hlt hlk) ?_))
    (refine hK _ ?_;clear hK K)
    (refine W_cf rfl ?_)
    refine W_exit ?_
    simp only [thenW,blockW,if_true]
    exact ⟨k,hk,hkl,.inl (by omega),Le_of (by simp [leE]) (by simp)⟩
  rintro s' ⟨k,hk,hkl,hkx,hle⟩
  refine W.le ?_ hle
  clear hle s'
  have hins:=insI_at hk hkl hkx
  rw [hins] at hsi
  by_cases heq:k<o.length∧o.getD k 0=x
  ·rw [if_pos heq] at hsi
   obtain ⟨hlk,hyx⟩:=heq
   refine W_seq ?_
   have hxx:(x == x)=true:=by simp
   ((refine W_seqD mixed [] (by kernel_rfl) ?_);intro K hK;(refine sJbX (And.intro hlt (And.intro hlk (And.intro hx (And.intro hyx hxx)))) ?_))
   (refine hK _ ?_;clear hK K)
   (refine W_ct rfl ?_)
   refine W_exit ?_
   simp only [thenW,blockW,if_true]
   ((refine W_regV ?_);intro K hK;(refine sJb ?_))
   (refine hK _ ?_;clear hK K)
   simp only [blockW,thenW]
   refine ⟨⟨i+1,by omega⟩,Le_drop (by simp [leE,hsi]) (by simp [leH,hsi]) rfl rfl,?_⟩
   dsimp only
   omega
  ·rw [if_neg heq] at hsi
   refine W_join (fun s'=>Le [] s' ((fun (a_:AV) (d_:Ob)=>(⟨((.sl (i64s l))::a_::a_::(.sref 3 0 o.length)::(.int .i64 i)::(.int .i64 k)::a_::a_::a_::a_::a_::a_::a_::a_::a_::a_::a_::a_::a_::a_::a_::a_::a_::a_::a_::a_::a_::a_::a_::a_::a_::a_::a_::a_::a_::a_::a_::a_::a_::a_::a_::a_::a_::a_::a_::a_::a_::a_::a_::a_::a_::a_::a_::a_::a_::a_::a_::a_::a_::a_::a_::a_::a_::a_::a_::a_::a_::a_::a_::a_::a_::a_::[]),(d_::d_::d_::(.arr 3 1 true (i64s o))::d_::d_::d_::d_::d_::d_::d_::d_::d_::d_::d_::d_::d_::d_::d_::d_::d_::d_::d_::d_::d_::d_::d_::d_::d_::d_::d_::d_::d_::d_::d_::d_::d_::d_::d_::d_::d_::d_::d_::d_::d_::d_::d_::d_::d_::d_::d_::d_::d_::d_::d_::d_::d_::d_::d_::d_::d_::d_::d_::d_::d_::d_::d_::d_::d_::d_::d_::d_::[])⟩:St)) .any .dead)) ?_ ?_
   ·by_cases hlk:k<o.length
    ·have hyx:¬ o.getD k 0=x:=fun e=>heq ⟨hlk,e⟩
     generalize hy:o.getD k 0=y at *
     have hyb:(y == x)=false:=by simp [hyx]
     refine W_seq ?_
     ((refine W_regD mixed [] (by kernel_rfl) ?_);intro K hK;(refine sJbX (And.intro hlt (And.intro hlk (And.intro hx (And.intro hy hyb)))) ?_))
     (refine hK _ ?_;clear hK K)
     (refine W_cf rfl ?_)
     refine W_skip ?_
     simp only [blockW,thenW]
     exact Le_of (by simp [leE]) (by simp)
    ·refine W_seq ?_
     ((refine W_regD mixed [] (by kernel_rfl) ?_);intro K hK;(refine sJbX (And.intro hlt hlk) ?_))
     (refine hK _ ?_;clear hK K)
     (refine W_cf rfl ?_)
     refine W_skip ?_
     simp only [blockW,thenW]
     exact Le_of (by simp [leE]) (by simp)
   intro s' hle
   refine W.le ?_ hle
   clear hle s'
   ((refine W_seqR ?_);intro K hK;(refine sJb ?_))
   (repeat refine aI ?_);refine hK _ ?_;clear hK K
   refine W_seq ?_
   ((refine W_seqV ?_);intro K hK;(refine sJb ?_))
   (refine hK _ ?_;clear hK K)
   refine W_block (W_loop (fun t:{t:Nat // k≤t∧t≤o.length} =>
    ((fun (a_:AV) (d_:Ob)=>(⟨((.sl (i64s l))::a_::a_::(.sref 3 0 (o.length+1))::(.int .i64 i)::(.int .i64 k)::(.int .i64 t.1)::a_::a_::a_::a_::a_::a_::a_::a_::a_::a_::a_::a_::a_::a_::a_::a_::a_::a_::a_::a_::a_::a_::a_::a_::a_::a_::a_::a_::a_::a_::a_::a_::a_::a_::a_::a_::a_::a_::a_::a_::a_::a_::a_::a_::a_::a_::a_::a_::a_::a_::a_::a_::a_::a_::a_::a_::a_::a_::a_::a_::a_::a_::a_::a_::a_::[]),(d_::d_::d_::(.arr 3 1 true (i64s (shI o t.1)))::d_::d_::d_::d_::d_::d_::d_::d_::d_::d_::d_::d_::d_::d_::d_::d_::d_::d_::d_::d_::d_::d_::d_::d_::d_::d_::d_::d_::d_::d_::d_::d_::d_::d_::d_::d_::d_::d_::d_::d_::d_::d_::d_::d_::d_::d_::d_::d_::d_::d_::d_::d_::d_::d_::d_::d_::d_::d_::d_::d_::d_::d_::d_::d_::d_::d_::d_::d_::[])⟩:St)) .any .dead)) (fun t=>t.1)
    ⟨o.length,by omega,by omega⟩ (Le_drop (by simp [leE]) (by simp [leH,shI_top,i64s]) rfl rfl) fun t=>?_)
   obtain ⟨j,hkj,hjo⟩:=t
   dsimp only
   have hsl:=shI_len hjo
   generalize hc:shI o j=c at *
   by_cases hgt:k<j
   ·have hgt':(k:Int)<j:=by omega
    have hlow:=shI_low (j:=j-1) hjo (by omega)
    have hstp:=shI_step (out:=o) (k:=j-1) (by omega)
    rw [show j-1+1=j by omega,hc] at hstp
    rw [hc] at hlow
    refine W_seq ?_
    ((refine W_seqV ?_);intro K hK;(refine sJbX hgt' ?_))
    (refine hK _ ?_;clear hK K)
    (refine W_ct rfl ?_)
    refine W_skip ?_
    simp only [thenW]
    refine W_seq ?_
    refine W_block ?_
    have h1:j-1<c.length:=by omega
    have h2:j<c.length:=by omega
    have h3:(0:Int)≤(j:Int)-1:=by omega
    have h5:((j:Int)-1)<((o.length:Int)+1):=by omega
    have h6:(j:Int)<((o.length:Int)+1):=by omega
    have h7:((j:Int)-1).toNat=j-1:=by omega
    ((refine W_regV ?_);intro K hK;(refine sJbX (And.intro h1 (And.intro h2 (And.intro hlow (And.intro hstp (And.intro h3 (And.intro h5 (And.intro h6 h7))))))) ?_))
    (repeat refine aI ?_);refine hK _ ?_;clear hK K
    simp only [blockW,thenW]
    ((refine W_regV ?_);intro K hK;(refine sJb ?_))
    (refine hK _ ?_;clear hK K)
    simp only [blockW,thenW]
    refine ⟨⟨j-1,by omega,by omega⟩,Le_drop (by simp [leE]) (by simp [leH]) rfl rfl,?_⟩
    dsimp only
    omega
   ·obtain rfl:j=k:=by omega
    have hset:=shI_set hk x
    rw [hc,← hsi] at hset
    refine W_seq ?_
    ((refine W_seqV ?_);intro K hK;(refine sJb ?_))
    (refine hK _ ?_;clear hK K)
    (refine W_cf rfl ?_)
    refine W_exit ?_
    simp only [thenW,blockW,if_true]
    have h2:j<c.length:=by omega
    have h6:(j:Int)<((o.length:Int)+1):=by omega
    ((refine W_regV ?_);intro K hK;(refine sJbX (And.intro h2 (And.intro h6 (And.intro hlt (And.intro hx hset)))) ?_))
    (repeat refine aI ?_);refine hK _ ?_;clear hK K
    simp only [blockW,thenW]
    ((refine W_regV ?_);intro K hK;(refine sJb ?_))
    (refine hK _ ?_;clear hK K)
    simp only [blockW,thenW]
    refine ⟨⟨i+1,by omega⟩,Le_drop (by simp [leE,hsi];omega) (by simp [leH,hsi]) rfl rfl,?_⟩
    dsimp only
    omega
 ·obtain rfl:i=l.length:=by omega
  refine W_seq ?_
  ((refine W_seqV ?_);intro K hK;(refine sJb ?_))
  (refine hK _ ?_;clear hK K)
  (refine W_cf rfl ?_)
  refine W_exit ?_
  simp only [thenW,blockW,if_true]
  ((refine W_seqV ?_);intro K hK;(refine sJb ?_))
  (refine hK _ ?_;clear hK K)
  refine W_ret ?_
  (refine qG ?_;try exact True.intro);try (refine sJbV ?_;try exact True.intro)
theorem sJc {G G':Prop} (h:G') (e:G=G':=by conv=>lhs;simp (disch:=omega) only [rowsOf,cNat,cN,St.ret,St.seth,Eff.app,Eff.wi,sepL,guardOf,St.known,objOf,List.set,sliceW,litW,copyW,lenOf,bnd,mxOk,ofCells,TI.isAgg,cellsOf,storable,AV.one,dead,laid,overlay,reduceCtorEq,Int.reduceLE,Int.reduceLT,Int.reduceSub,Int.reduceAdd,Nat.reduceMul,Int.reduceToNat,Nat.reducePow,Int.reduceNeg,Nat.reduceAdd,Nat.reduceLT,Nat.reduceLeDiff,sA,sB,cQ,rowM,rowQ,i64s_getD,i64s_length,i64s_all,i64s_take,i64s_drop,i64s_set,i64s_one,i64s_pure,i64s_append,tab_length,tab_drop,tab_take,tab_append,tab_nil,rowM_all,rowM_one,rowM_pure,rowQ_all,rowQ_one,rowQ_pure,List.take_length,List.length_append,sT]):G:=e.mpr h
theorem sJcX {G G' P:Prop} (p:P) (h:G') (e:P→G=G':=by intro p;conv=>lhs;simp (disch:=omega) only [rowsOf,cNat,cN,St.ret,St.seth,Eff.app,Eff.wi,sepL,guardOf,St.known,objOf,List.set,sliceW,litW,copyW,lenOf,bnd,mxOk,ofCells,TI.isAgg,cellsOf,storable,AV.one,dead,laid,overlay,reduceCtorEq,Int.reduceLE,Int.reduceLT,Int.reduceSub,Int.reduceAdd,Nat.reduceMul,Int.reduceToNat,Nat.reducePow,Int.reduceNeg,Nat.reduceAdd,Nat.reduceLT,Nat.reduceLeDiff,sA,sB,cQ,rowM,rowQ,i64s_getD,i64s_length,i64s_all,i64s_take,i64s_drop,i64s_set,i64s_one,i64s_pure,i64s_append,tab_length,tab_drop,tab_take,tab_append,tab_nil,rowM_all,rowM_one,rowM_pure,rowQ_all,rowQ_one,rowQ_pure,List.take_length,List.length_append,sT,p]):G:=(e p).mpr h
theorem sJcV {G G':Prop} (h:G') (e:G=G':=by conv=>lhs;simp (disch:=omega) only [rowsOf,cNat,cN,St.ret,St.seth,Eff.app,Eff.wi,sepL,guardOf,St.known,objOf,List.set,sliceW,litW,copyW,lenOf,bnd,mxOk,ofCells,TI.isAgg,cellsOf,storable,AV.one,dead,laid,overlay,reduceCtorEq,Int.reduceLE,Int.reduceLT,Int.reduceSub,Int.reduceAdd,Nat.reduceMul,Int.reduceToNat,Nat.reducePow,Int.reduceNeg,Nat.reduceAdd,Nat.reduceLT,Nat.reduceLeDiff,sA,sB,cQ,rowM,rowQ,i64s_getD,i64s_length,i64s_all,i64s_take,i64s_drop,i64s_set,i64s_one,i64s_pure,i64s_append,tab_length,tab_drop,tab_take,tab_append,tab_nil,rowM_all,rowM_one,rowM_pure,rowQ_all,rowQ_one,rowQ_pure,List.take_length,List.length_append,sT,view_sref,viewRef,view_agg,views_cons,views_nil,view_bool,view_int,view_sl,view_nils,view_str,view_tup,view_nilif]):G:=e.mpr h
theorem aJc {G G':Prop} (h:G') (f:Wr G'→G:=by intro h;(repeat (first|(refine W_seqV fun K hK=>?_;(try (refine sJc ?_;try exact True.intro));(repeat refine aI ?_);refine hK _ ?_;clear hK K)|(refine W_seqR fun K hK=>?_;(try (refine sJc ?_;try exact True.intro));(repeat refine aI ?_);refine hK _ ?_;clear hK K)|(refine W_seqD mixed [] (by kernel_rfl) fun K hK=>?_;(try (refine sJc ?_;try exact True.intro));(repeat refine aI ?_);refine hK _ ?_;clear hK K)));exact h.out):G:=f ⟨h⟩
def vars (f:List (Int × RR)):List Int:=f.map (·.1)
theorem vars_len (f:List (Int × RR)):(vars f).length=f.length:=by simp [vars]
theorem vars_take {f:List (Int × RR)} {i:Nat} (h:i<f.length):vars (f.take (i+1))=vars (f.take i)++[(f.getD i default).1]:=by
 unfold vars
 rw [List.take_succ_eq_append_getElem h,List.map_append]
 simp [List.getD_eq_getElem?_getD,h]
theorem f6all_ok (f:List (Int × RR)) (hl:f.length<1099511627776) :
  Pure Tryz.prog 124 [cF f,.sl []] (· = .sl (i64s (sortI (vars f)))):=by
 have hs:=f6sorted_ok (vars f) (by rw [vars_len];omega)
 have hst:∀ i,i<f.length→vars (f.take (i+1))=vars (f.take i)++[(f.getD i default).1]:=fun i hi=>vars_take hi
 have h0:vars (f.take 0)=[]:=rfl
 have hln:∀ i,i≤f.length→(vars (f.take i)).length=i:=fun i h=>by rw [vars_len];simp;omega
 have hlast:vars (f.take f.length)=vars f:=by rw [List.take_length]
 generalize hE:(fun i=>vars (f.take i))=E at *
 have hE':∀ i,vars (f.take i)=E i:=fun i=>congrFun hE i
 simp only [hE'] at *
 clear hE hE'
 generalize vars f=V at *
 (refine pureW Tryz.func124 rfl (rs:=[Go.ResultVar.tmp 4]) rfl (n:=38) rfl ?_;simp only [List.length_cons,List.length_nil,List.replicate,List.cons_append,List.nil_append])
 simp only [cF]
 (refine aJc ?_)
 refine W.le ?_ (Le_nil 5 5 3 1 true rfl rfl)
 simp only [List.set]
 refine W_seq ?_
 ((refine W_seqV ?_);intro K hK;(refine sJc ?_))
 (refine hK _ ?_;clear hK K)
 refine W_block (W_loop (fun t:{t:Nat // t≤f.length} =>
   ⟨[.sl (tab rowM f),.sl [],.any,.any,.any,.sref 5 0 t.1,.int .i64 t.1,.any,.any,.any,.any,.any,.any,.any,.any,.any,.any,.any,.any,.any,.any,.any,.any,.any,.any,.any,.any,.any,.any,.any,.any,.any,.any,.any,.any,.any,.any,.any],[.dead,.dead,.dead,.dead,.dead,.arr 3 1 true (i64s (E t.1)),.dead,.dead,.dead,.dead,.dead,.dead,.dead,.dead,.dead,.dead,.dead,.dead,.dead,.dead,.dead,.dead,.dead,.dead,.dead,.dead,.dead,.dead,.dead,.dead,.dead,.dead,.dead,.dead,.dead,.dead,.dead,.dead]⟩) (fun t=>f.length-t.1)
   ⟨0,by omega⟩ (Le_of (by simp [leE]) (by simp [h0,i64s])) fun t=>?_)
 obtain ⟨i,hi⟩:=t
 dsimp only
 by_cases hlt:i<f.length
 ·have hXi:(tab rowM f).getD i []=rowM (f.getD i default):=tab_getD hlt
  have hsi:=hst i hlt
  have hni:=hln i (by omega)
  generalize f.getD i default=p at *
  simp only [rowM] at hXi
  generalize E i=o at *
  refine W_seq ?_
  ((refine W_seqV ?_);intro K hK;(refine sJcX hlt ?_))
  (refine hK _ ?_;clear hK K)
  (refine W_ct rfl ?_)
  refine W_skip ?_
  simp only [thenW]
  refine W_seq ?_
  refine W_block ?_
  ((refine W_regR ?_);intro K hK;(refine sJcX (And.intro hXi (And.intro hlt hni)) ?_))
  (repeat refine aI ?_);refine hK _ ?_;clear hK K
  simp only [blockW,thenW]
  ((refine W_regV ?_);intro K hK;(refine sJc ?_))
  (refine hK _ ?_;clear hK K)
  simp only [blockW,thenW]
  refine ⟨⟨i+1,by omega⟩,Le_drop (by simp [leE]) (by simp [leH,hsi,i64s,List.take_of_length_le,hni]) rfl rfl,?_⟩
  dsimp only
  omega
 ·obtain rfl:i=f.length:=by omega
  have hni:=hln f.length (by omega)
  refine W_seq ?_
  ((refine W_seqV ?_);intro K hK;(refine sJc ?_))
  (refine hK _ ?_;clear hK K)
  (refine W_cf rfl ?_)
  refine W_exit ?_
  simp only [thenW,blockW,if_true]
  ((refine W_seq (W_seqV ?_));intro K hK;(refine sJc ?_))
  (refine hK _ ?_;clear hK K)
  refine W_block (W_loop (fun t:Unit =>
   ⟨[.sl (tab rowM f),.sl [],.any,.any,.any,.sref 5 0 f.length,.any,.int .i64 0,.any,.any,.any,.any,.any,.any,.any,.any,.any,.any,.any,.any,.any,.any,.any,.any,.any,.any,.any,.any,.any,.any,.any,.any,.any,.any,.any,.any,.any,.any],[.dead,.dead,.dead,.dead,.dead,.arr 3 1 true (i64s (E f.length)),.dead,.dead,.dead,.dead,.dead,.dead,.dead,.dead,.dead,.dead,.dead,.dead,.dead,.dead,.dead,.dead,.dead,.dead,.dead,.dead,.dead,.dead,.dead,.dead,.dead,.dead,.dead,.dead,.dead,.dead,.dead,.dead]⟩) (fun t=>0)
   () (Le_of (by simp [leE]) (by simp)) fun t=>?_)
  refine W_seq ?_
  ((refine W_seqV ?_);intro K hK;(refine sJc ?_))
  (refine hK _ ?_;clear hK K)
  (refine W_cf rfl ?_)
  refine W_exit ?_
  simp only [thenW,blockW,if_true]
  rw [hlast] at hni ⊢
  (refine W.le ?_ (Le_freeze 5 (rows:=i64s V) rfl (by simp) (.inl rfl));simp only [St.freeze,List.map_cons,List.map_nil,List.set,if_true,if_false,Nat.reduceEqDiff,reduceCtorEq,List.drop_zero,u32s_take,u32s_drop,froz_any,froz_und,froz_int,froz_bool,froz_str,froz_nils,froz_sl,froz_ia,froz_nilp,froz_nilif,froz_nilfn,froz_nilmp,froz_gl,froz_sref,froz_ptr,froz_agg,froz_tup,froz_fn,froz_ifc,frozs_nil,frozs_cons,froz_dead,froz_arr,froz_mp,froz_it,froz_md,froz_map,froz_iter])
  rw [i64s_take,List.take_of_length_le (by omega)]
  ((refine W_seqV ?_);intro K hK;(refine sJc ?_))
  (refine ⟨by kernel_rfl,_,.pure rfl (hs),?_⟩;(try (refine sJc ?_)))
  (refine hK _ ?_;clear hK K)
  refine W_ret ?_
  (refine qG ?_;try exact True.intro)
theorem vars_vals (f:List (Int × RR)):(vals f).map (·.1)=vars f:=by simp [vals,vars]
theorem f6norm_ok (f:List (Int × RR)) {B:Nat} (hf:PF f B) (hB:B≤8589934592) :
  Pure Tryz.prog 86 [cF f] (·=cL (normF (vals f))):=by
 have hall:=f6all_ok f (by have:=hf.len;omega)
 have hco:=fun v=>f6coef_ok f v hf hB
 have hsg:∀ v,Pure Tryz.prog 90 [cQ (coef (vals f) v)] (· = .int .i64 (rs (coef (vals f) v))):=fun v=>by
  have:=f3sign_ok (qr (coef (vals f) v)) (qr_ok (by have:=hf.coef v;omega))
  rwa [qr_v,qr_av] at this
 rw [← pick_norm,vars_vals]
 have hSl:=sortI_len (vars f)
 have hfl:=hf.len
 rw [vars_len] at hSl
 generalize sortI (vars f)=S at *
 have hst:∀ i,i<S.length→pickF (vals f) (S.take (i+1))=pickF (vals f) (S.take i)++if coef (vals f) (S.getD i 0)=0 then [] else [(S.getD i 0,coef (vals f) (S.getD i 0))]:=fun i h=>pickF_take h
 have h0:pickF (vals f) (S.take 0)=[]:=rfl
 have hln:∀ i,(pickF (vals f) (S.take i)).length≤S.length:=fun i=>by have:=pickF_len (vals f) (S.take i);simp at this;omega
 have hlast:pickF (vals f) (S.take S.length)=pickF (vals f) S:=by rw [List.take_length]
 generalize hC:coef (vals f)=C at *
 rw [← hlast]
 generalize hE:(fun i=>pickF (vals f) (S.take i))=E at *
 have hE':∀ i,pickF (vals f) (S.take i)=E i:=fun i=>congrFun hE i
 simp only [hE'] at *
 clear hE hE' hlast hC
 (refine pureW Tryz.func86 rfl (rs:=[Go.ResultVar.tmp 2]) rfl (n:=34) rfl ?_;simp only [List.length_cons,List.length_nil,List.replicate,List.cons_append,List.nil_append])
 simp only [cF] at *
 (refine aJc ?_)
 ((refine W_seqV ?_);intro K hK;(refine sJc ?_))
 (refine ⟨by kernel_rfl,_,.pure rfl (hall),?_⟩;(try (refine sJc ?_)))
 (refine hK _ ?_;clear hK K)
 refine W.le ?_ (Le_nil 3 3 55 4 true rfl rfl)
 simp only [List.set]
 ((refine W_seq (W_seqV ?_));intro K hK;(refine sJc ?_))
 (refine hK _ ?_;clear hK K)
 refine W_block (W_loop (fun t:{t:Nat // t≤S.length} =>
   ⟨[.sl (tab rowM f),.any,.any,.sref 3 0 (E t.1).length,.sl (i64s S),.int .i64 t.1,.any,.any,.any,.any,.any,.any,.any,.any,.any,.any,.any,.any,.any,.any,.any,.any,.any,.any,.any,.any,.any,.any,.any,.any,.any,.any,.any,.any],[.dead,.dead,.dead,.arr 55 4 true (tab rowQ (E t.1)),.dead,.dead,.dead,.dead,.dead,.dead,.dead,.dead,.dead,.dead,.dead,.dead,.dead,.dead,.dead,.dead,.dead,.dead,.dead,.dead,.dead,.dead,.dead,.dead,.dead,.dead,.dead,.dead,.dead,.dead]⟩) (fun t=>S.length-t.1)
   ⟨0,by omega⟩ (Le_of (by simp [leE,h0]) (by simp [h0,tab])) fun t=>?_)
 obtain ⟨i,hi⟩:=t
 dsimp only
 by_cases hlt:i<S.length
 ·have hsi:=hst i hlt
  have hli:=hln i
  generalize hv:S.getD i 0=v at *
  have hcv:=hco v
  have hsv:=hsg v
  have hne:=rs_ne (C v)
  generalize E i=o at *
  generalize C v=q at *
  simp only [cQ] at hcv hsv
  refine W_seq ?_
  ((refine W_seqV ?_);intro K hK;(refine sJcX hlt ?_))
  (refine hK _ ?_;clear hK K)
  (refine W_ct rfl ?_)
  refine W_skip ?_
  simp only [thenW]
  refine W_seq ?_
  refine W_block ?_
  ((refine W_seqV ?_);intro K hK;(refine sJcX (And.intro hv hlt) ?_))
  (refine ⟨by kernel_rfl,_,.pure rfl (hcv),?_⟩;(try (refine sJc ?_)))
  (refine hK _ ?_;clear hK K)
  by_cases hq:q=0
  ·have hneg:(rs q != 0)=false:=hne.trans (by simp [hq])
   rw [if_pos hq,List.append_nil] at hsi
   ((refine W_seqV ?_);intro K hK;(refine sJcX hneg ?_))
   (refine ⟨by kernel_rfl,_,.pure rfl (hsv),?_⟩;(try (refine sJc ?_)))
   rw [hneg]
   (refine hK _ ?_;clear hK K)
   (refine W_cf rfl ?_)
   refine W_skip ?_
   simp only [blockW,thenW]
   ((refine W_regV ?_);intro K hK;(refine sJc ?_))
   (refine hK _ ?_;clear hK K)
   simp only [blockW,thenW]
   refine ⟨⟨i+1,by omega⟩,Le_drop (by simp [leE,hsi]) (by simp [leH,hsi]) rfl rfl,?_⟩
   dsimp only
   omega
  ·have hneg:(rs q != 0)=true:=hne.trans (by simp [hq])
   rw [if_neg hq] at hsi
   ((refine W_seqV ?_);intro K hK;(refine sJcX hneg ?_))
   (refine ⟨by kernel_rfl,_,.pure rfl (hsv),?_⟩;(try (refine sJc ?_)))
   rw [hneg]
   (refine hK _ ?_;clear hK K)
   (refine W_ct rfl ?_)
   ((refine W_regS mixed 8 [] (by kernel_rfl) ?_);intro K hK;(refine sJcX (And.intro hv hlt) ?_))
   (repeat refine aI ?_);refine hK _ ?_;clear hK K
   simp only [blockW,thenW]
   ((refine W_regV ?_);intro K hK;(refine sJc ?_))
   (refine hK _ ?_;clear hK K)
   simp only [blockW,thenW]
   refine ⟨⟨i+1,by omega⟩,Le_drop (by simp [leE,hsi]) (by simp [leH,hsi,← tab_snoc,rowQ,tab_take,List.take_of_length_le]) rfl rfl,?_⟩
   dsimp only
   omega
 ·obtain rfl:i=S.length:=by omega
  refine W_seq ?_
  ((refine W_seqV ?_);intro K hK;(refine sJc ?_))
  (refine hK _ ?_;clear hK K)
  (refine W_cf rfl ?_)
  refine W_exit ?_
  simp only [thenW,blockW,if_true]
  ((refine W_seqV ?_);intro K hK;(refine sJc ?_))
  (refine hK _ ?_;clear hK K)
  refine W_ret ?_
  (refine qG ?_;try exact True.intro);try (refine sJcV ?_;try exact True.intro)
  rfl
end Go.Proofs.YtjmpajgjaefcjaaGreat.Vm
namespace Go.Proofs.YtjmpajgjaefcjaaGreat.Vm
open Go Go.RowKit
end Go.Proofs.YtjmpajgjaefcjaaGreat.Vm
namespace Go.Proofs.YtjmpajgjaefcjaaGreat.Vm
open Go Go.RowKit
end Go.Proofs.YtjmpajgjaefcjaaGreat.Vm
namespace Go.Proofs.YtjmpajgjaefcjaaGreat.Vm
open Go Go.RowKit
end Go.Proofs.YtjmpajgjaefcjaaGreat.Vm
namespace Go.Proofs.YtjmpajgjaefcjaaGreat.Vm
open Go Go.RowKit
structure At where
 name:ByteArray
 form:List (Int × RR)
 bound:RR
 strict:Bool
def At.cells (a:At):List AV:=[.str a.name,.sl (tab rowM a.form),.bool a.bound.neg,.sl (u32s a.bound.num),.sl (u32s a.bound.den),.bool a.strict]
structure AtOk (a:At):Prop where
 form:FOk a.form 67108864
 nbs:nbs (vals a.form)≤67108864
 bound:a.bound.ok
 nb:nb a.bound.v≤67108864
structure Half where
 name:ByteArray
 shape:List (Int × Rat)
 truth:Bool
 down:Bool
 strict:Bool
 at_:RR
def Half.cells (h:Half):List AV:=[.str h.name,.sl (tab rowQ h.shape),.bool h.truth,.bool h.down,.bool h.strict,.bool h.at_.neg,.sl (u32s h.at_.num),.sl (u32s h.at_.den)]
structure HalfOk (h:Half):Prop where
 shape:Sz h.shape 268435456
 at_:h.at_.ok
 nb:nb h.at_.v≤268435456
def named (b:ByteArray):Bool:=!(b.toList == (ByteArray.mk #[]).toList)
def Half.alone (h:Half):Bool:=named h.name || decide (0<h.shape.length) || h.truth
def together (a b:Half):Bool :=
 if (!a.alone || !b.alone)=true then false
 else if (named a.name || named b.name)=true then !(a.name.toList == b.name.toList) || (a.truth == b.truth)
 else if ((cmpF a.shape b.shape != 0) || (a.down == b.down))=true then true
 else decide ((if a.down then -(rs (a.at_.v-b.at_.v)) else rs (a.at_.v-b.at_.v))<0) || (((if a.down then -(rs (a.at_.v-b.at_.v)) else rs (a.at_.v-b.at_.v)) == 0)&&!a.strict&&!b.strict)
def saysH (a:At) (sign:Bool):Half :=
 if named a.name=true then ⟨a.name,[],sign,false,false,zeroR⟩
 else match normF (vals a.form) with
  | []=>⟨ByteArray.mk #[],[],(decide (0<rs a.bound.v) || (rs a.bound.v == 0&&!a.strict)) == sign,false,false,zeroR⟩
  | p::l=>⟨ByteArray.mk #[],primeF (p::l),false,decide (0<rs (primeC (p::l))) == sign,a.strict == sign,qr (a.bound.v / primeC (p::l))⟩
def rowC (c:List Int):List AV:=[.sl (i64s c)]
def prs:List (Int × Int):=[(1,2),(1,-2),(-1,2),(-1,-2)]
def holds2 (a b:At) (p:Int × Int):Bool:=!together (saysH a (decide (p.1<0))) (saysH b (decide (p.2<0)))
def relT (a b:At) (n:Nat):List (List Int):=((prs.take n).filter (holds2 a b)).map fun p=>[p.1,p.2]
def asg (xs:List Rat) (v:Int):Rat:=if 0≤v then xs.getD v.toNat 0 else 0
def nbl:List Rat→Nat
 | []=>0
 | x::xs=>nb x+nbl xs
theorem nbl_drop (xs:List Rat) {a k:Nat} (h:a≤k):nbl (xs.drop k)≤nbl (xs.drop a):=by
 induction k with
 | zero=>rw [show a=0 by omega];exact Nat.le_refl _
 | succ k ih =>
  by_cases hk:a=k+1
  ·subst hk;exact Nat.le_refl _
  ·refine Nat.le_trans ?_ (ih (by omega))
   by_cases hl:k<xs.length
   ·rw [List.drop_eq_getElem_cons hl,nbl];omega
   ·rw [List.drop_eq_nil_of_le (show xs.length≤k by omega),List.drop_eq_nil_of_le (by omega)]
    exact Nat.le_refl _
theorem nbl_at (xs:List Rat) {a k:Nat} (h:a≤k) (hk:k<xs.length):nb (xs.getD k 0)+nbl (xs.drop (k+1))≤nbl (xs.drop a):=by
 refine Nat.le_trans ?_ (nbl_drop xs h)
 rw [List.drop_eq_getElem_cons hk,nbl]
 simp [List.getD_eq_getElem?_getD,hk]
def nbx (x:Int→Rat):List (Int × Rat)→Nat
 | []=>0
 | p::l=>nb (x p.1)+nbx x l
theorem nbx_le (xs:List Rat):∀ (l:List (Int × Rat)) (a:Nat),NF l→(∀ p∈l,0≤p.1→(a:Int)≤p.1)→nbx (asg xs) l≤l.length+nbl (xs.drop a)
 | [],a,_,_=>by simp [nbx]
 | p::l,a,h,ha=>by
  simp only [nbx,List.length_cons]
  by_cases hp:0≤p.1∧p.1.toNat<xs.length
  ·have h1:=ha p List.mem_cons_self hp.1
   have h2:=nbl_at xs (a:=a) (k:=p.1.toNat) (by omega) hp.2
   have h3:=nbx_le xs l (p.1.toNat+1) h.tail fun q hq _=>by have:=h.head q hq;omega
   have h4:asg xs p.1=xs.getD p.1.toNat 0:=if_pos hp.1
   rw [h4]
   omega
  ·have h4:asg xs p.1=0:=by
    unfold asg
    split
    ·rename_i h0
     have:¬ p.1.toNat<xs.length:=fun h=>hp ⟨h0,h⟩
     rw [List.getD_eq_getElem?_getD,List.getElem?_eq_none (by omega)]
     rfl
    ·rfl
   have h3:=nbx_le xs l a h.tail fun q hq h0=>ha q (List.mem_cons_of_mem _ hq) h0
   rw [h4,nb_zero]
   omega
theorem nb_ev2 (x:Int→Rat):∀ l:List (Int × Rat),nb (ev2 x l)≤1+nbs l+nbx x l
 | []=>by simp [ev2,nb_zero,nbs,nbx]
 | p::l=>by
  have h1:=nb_add (p.2*x p.1) (ev2 x l)
  have h2:=nb_mul p.2 (x p.1)
  have h3:=nb_ev2 x l
  simp only [ev2,nbs,nbx]
  omega
theorem nb_value (xs:List Rat) (f:List (Int × Rat)):nb (ev2 (asg xs) f)≤1+2*nbs f+nbl xs:=by
 rw [← ev2_norm]
 have h1:=nb_ev2 (asg xs) (normF f)
 have h2:=nbx_le xs (normF f) 0 (NF.norm f) fun p _ h=>by simpa using h
 rw [List.drop_zero] at h2
 have h3:=nbs_norm f
 have h4:=nbs_len (normF f)
 omega
theorem nb_asg (xs:List Rat) (v:Int):nb (asg xs v)≤1+nbl xs:=by
 unfold asg
 split
 ·by_cases h:v.toNat<xs.length
  ·have:=nbl_at xs (a:=0) (k:=v.toNat) (by omega) h
   rw [List.drop_zero] at this
   omega
  ·rw [List.getD_eq_getElem?_getD,List.getElem?_eq_none (by omega)]
   show nb 0≤_
   rw [nb_zero];omega
 ·rw [nb_zero];omega
def inN (names:List ByteArray) (n:ByteArray):Bool:=names.any fun m=>m.toList == n.toList
def truth (a:At) (xs:List Rat) (names:List ByteArray):Bool :=
 if named a.name=true then inN names a.name
 else decide (rs (ev2 (asg xs) (vals a.form)-a.bound.v)<0) || (rs (ev2 (asg xs) (vals a.form)-a.bound.v) == 0&&!a.strict)
def Half.so (h:Half) (xs:List Rat) (names:List ByteArray):Bool :=
 if named h.name=true then inN names h.name == h.truth
 else if h.shape=[] then h.truth
 else if h.down=true then decide (ev2 (asg xs) h.shape<h.at_.v) || (decide (ev2 (asg xs) h.shape=h.at_.v)&&!h.strict)
 else decide (h.at_.v<ev2 (asg xs) h.shape) || (decide (ev2 (asg xs) h.shape=h.at_.v)&&!h.strict)
structure Half.fit (h:Half):Prop where
 nf:NF h.shape
 up:h.shape=[]→h.down=false
def absQ (q:Rat):Rat:=if q<0 then -q else q
theorem sDa {G G':Prop} (h:G') (e:G=G':=by conv=>lhs;simp (disch:=omega) only [rowsOf,cNat,cN,St.ret,St.seth,Eff.app,Eff.wi,sepL,guardOf,St.known,objOf,List.set,sliceW,litW,copyW,lenOf,bnd,mxOk,ofCells,TI.isAgg,cellsOf,storable,AV.one,dead,laid,overlay,reduceCtorEq,Int.reduceLE,Int.reduceLT,Int.reduceSub,Int.reduceAdd,Nat.reduceMul,Int.reduceToNat,Nat.reducePow,Int.reduceNeg,Nat.reduceAdd,Nat.reduceLT,Nat.reduceLeDiff,sA,sB,cQ,sT]):G:=e.mpr h
theorem sDaX {G G' P:Prop} (p:P) (h:G') (e:P→G=G':=by intro p;conv=>lhs;simp (disch:=omega) only [rowsOf,cNat,cN,St.ret,St.seth,Eff.app,Eff.wi,sepL,guardOf,St.known,objOf,List.set,sliceW,litW,copyW,lenOf,bnd,mxOk,ofCells,TI.isAgg,cellsOf,storable,AV.one,dead,laid,overlay,reduceCtorEq,Int.reduceLE,Int.reduceLT,Int.reduceSub,Int.reduceAdd,Nat.reduceMul,Int.reduceToNat,Nat.reducePow,Int.reduceNeg,Nat.reduceAdd,Nat.reduceLT,Nat.reduceLeDiff,sA,sB,cQ,sT,p]):G:=(e p).mpr h
theorem sDaV {G G':Prop} (h:G') (e:G=G':=by conv=>lhs;simp (disch:=omega) only [rowsOf,cNat,cN,St.ret,St.seth,Eff.app,Eff.wi,sepL,guardOf,St.known,objOf,List.set,sliceW,litW,copyW,lenOf,bnd,mxOk,ofCells,TI.isAgg,cellsOf,storable,AV.one,dead,laid,overlay,reduceCtorEq,Int.reduceLE,Int.reduceLT,Int.reduceSub,Int.reduceAdd,Nat.reduceMul,Int.reduceToNat,Nat.reducePow,Int.reduceNeg,Nat.reduceAdd,Nat.reduceLT,Nat.reduceLeDiff,sA,sB,cQ,sT,view_sref,viewRef,view_agg,views_cons,views_nil,view_bool,view_int,view_sl,view_nils,view_str,view_tup,view_nilif]):G:=e.mpr h
theorem aDa {G G':Prop} (h:G') (f:Wr G'→G:=by intro h;(repeat (first|(refine W_seqV fun K hK=>?_;(try (refine sDa ?_;try exact True.intro));(repeat refine aI ?_);refine hK _ ?_;clear hK K)|(refine W_seqR fun K hK=>?_;(try (refine sDa ?_;try exact True.intro));(repeat refine aI ?_);refine hK _ ?_;clear hK K)|(refine W_seqD mixed [] (by kernel_rfl) fun K hK=>?_;(try (refine sDa ?_;try exact True.intro));(repeat refine aI ?_);refine hK _ ?_;clear hK K)));exact h.out):G:=f ⟨h⟩
structure DD where
 a:RR
 b:RR
def DD.cells (d:DD):List AV:=[.bool d.a.neg,.sl (u32s d.a.num),.sl (u32s d.a.den),.bool d.b.neg,.sl (u32s d.b.num),.sl (u32s d.b.den)]
def DD.av (d:DD):AV := .agg d.cells
def DD.v (d:DD):Rat × Rat:=(d.a.v,d.b.v)
def DD.ok (d:DD):Prop:=d.a.ok∧d.b.ok
def dq (x:Rat × Rat):DD:=⟨qr x.1,qr x.2⟩
def cD (x:Rat × Rat):AV := .agg [.bool (decide (x.1.num<0)),.sl (u32s (limbs x.1.num.natAbs)),.sl (u32s (limbs x.1.den)),.bool (decide (x.2.num<0)),.sl (u32s (limbs x.2.num.natAbs)),.sl (u32s (limbs x.2.den))]
theorem dq_av (x:Rat × Rat):(dq x).av=cD x:=rfl
theorem dq_v (x:Rat × Rat):(dq x).v=x:=by simp [dq,DD.v,qr_v]
def nb2 (x:Rat × Rat):Nat:=max (nb x.1) (nb x.2)
theorem nb2_1 (x:Rat × Rat):nb x.1≤nb2 x:=Nat.le_max_left _ _
theorem nb2_2 (x:Rat × Rat):nb x.2≤nb2 x:=Nat.le_max_right _ _
theorem nb2_le {x:Rat × Rat} {k:Nat} (h1:nb x.1≤k) (h2:nb x.2≤k):nb2 x≤k:=Nat.max_le.2 ⟨h1,h2⟩
theorem dq_ok {x:Rat × Rat} (h:nb2 x<17179869184):(dq x).ok:=⟨qr_ok (by have:=nb2_1 x;omega),qr_ok (by have:=nb2_2 x;omega)⟩
def dadd (x y:Rat × Rat):Rat × Rat:=(x.1+y.1,x.2+y.2)
def dsub (x y:Rat × Rat):Rat × Rat:=(x.1-y.1,x.2-y.2)
def dneg (x:Rat × Rat):Rat × Rat:=(-x.1,-x.2)
def dscale (c:Rat) (x:Rat × Rat):Rat × Rat:=(c*x.1,c*x.2)
def lexI (a b:Int):Int:=if a≠0 then a else b
def dsg (x:Rat × Rat):Int:=lexI (rs x.1) (rs x.2)
theorem nb2_scale (c:Rat) (x:Rat × Rat):nb2 (dscale c x)≤nb c+nb2 x:=nb2_le (Nat.le_trans (nb_mul _ _) (Nat.add_le_add_left (nb2_1 _) _)) (Nat.le_trans (nb_mul _ _) (Nat.add_le_add_left (nb2_2 _) _))
theorem f5norm_ok (d:DD) (h:d.ok):Pure Tryz.prog 120 [d.av] (·=cD d.v):=by
 have h1:=f3norm_ok d.a h.1
 have h2:=f3norm_ok d.b h.2
 obtain ⟨⟨n,x,y⟩,⟨m,z,w⟩⟩:=d
 simp only [DD.av,DD.cells,DD.v,RR.av] at *
 generalize RR.v _=p at *
 generalize RR.v _=q at *
 simp only [cD,cQ] at *
 (refine pureW Tryz.func120 rfl (rs:=[Go.ResultVar.cell 2 58]) rfl (n:=10) rfl ?_;simp only [List.length_cons,List.length_nil,List.replicate,List.cons_append,List.nil_append])
 (refine aDa ?_)
 ((refine W_seqD mixed [] (by kernel_rfl) ?_);intro K hK;(refine sDa ?_))
 (refine ⟨by kernel_rfl,_,.pure rfl (h1),?_⟩;(try (refine sDa ?_)))
 (refine ⟨by kernel_rfl,_,.pure rfl (h2),?_⟩;(try (refine sDa ?_)))
 (refine hK _ ?_;clear hK K)
 refine W_ret ?_
 (refine qG ?_;try exact True.intro);try (refine sDaV ?_;try exact True.intro)
theorem f5add_ok (d e:DD) (hd:d.ok) (he:e.ok):Pure Tryz.prog 81 [d.av,e.av] (·=cD (dadd d.v e.v)):=by
 have h1:=f3add_ok d.a e.a hd.1 he.1
 have h2:=f3add_ok d.b e.b hd.2 he.2
 obtain ⟨⟨n,x,y⟩,⟨m,z,w⟩⟩:=d
 obtain ⟨⟨n',x',y'⟩,⟨m',z',w'⟩⟩:=e
 simp only [DD.av,DD.cells,DD.v,dadd,RR.av] at *
 generalize RR.v _+RR.v _=p at *
 generalize RR.v _+RR.v _=q at *
 simp only [cD,cQ] at *
 (refine pureW Tryz.func81 rfl (rs:=[Go.ResultVar.cell 4 58]) rfl (n:=16) rfl ?_;simp only [List.length_cons,List.length_nil,List.replicate,List.cons_append,List.nil_append])
 (refine aDa ?_)
 ((refine W_seqD mixed [] (by kernel_rfl) ?_);intro K hK;(refine sDa ?_))
 (refine ⟨by kernel_rfl,_,.pure rfl (h1),?_⟩;(try (refine sDa ?_)))
 (refine ⟨by kernel_rfl,_,.pure rfl (h2),?_⟩;(try (refine sDa ?_)))
 (refine hK _ ?_;clear hK K)
 refine W_ret ?_
 (refine qG ?_;try exact True.intro);try (refine sDaV ?_;try exact True.intro)
theorem dadd_ok (d e:DD) (hd:d.ok) (he:e.ok):Pure Tryz.prog 140 [d.av,e.av] (·=cD (dadd d.v e.v)):=by
 have h1:=radd_ok d.a e.a hd.1 he.1
 have h2:=radd_ok d.b e.b hd.2 he.2
 obtain ⟨⟨n,x,y⟩,⟨m,z,w⟩⟩:=d
 obtain ⟨⟨n',x',y'⟩,⟨m',z',w'⟩⟩:=e
 simp only [DD.av,DD.cells,DD.v,dadd,RR.av] at *
 generalize RR.v _+RR.v _=p at *
 generalize RR.v _+RR.v _=q at *
 simp only [cD,cQ] at *
 (refine pureW Tryz.func140 rfl (rs:=[Go.ResultVar.cell 4 58]) rfl (n:=16) rfl ?_;simp only [List.length_cons,List.length_nil,List.replicate,List.cons_append,List.nil_append])
 (refine aDa ?_)
 ((refine W_seqD mixed [] (by kernel_rfl) ?_);intro K hK;(refine sDa ?_))
 (refine ⟨by kernel_rfl,_,.pure rfl (h1),?_⟩;(try (refine sDa ?_)))
 (refine ⟨by kernel_rfl,_,.pure rfl (h2),?_⟩;(try (refine sDa ?_)))
 (refine hK _ ?_;clear hK K)
 refine W_ret ?_
 (refine qG ?_;try exact True.intro);try (refine sDaV ?_;try exact True.intro)
theorem f5scale_ok (c:RR) (d:DD) (hc:c.ok) (hd:d.ok):Pure Tryz.prog 82 [c.av,d.av] (·=cD (dscale c.v d.v)):=by
 have h1:=f3mul_ok c d.a hc hd.1
 have h2:=f3mul_ok c d.b hc hd.2
 obtain ⟨⟨n,x,y⟩,⟨m,z,w⟩⟩:=d
 obtain ⟨n',x',y'⟩:=c
 simp only [DD.av,DD.cells,DD.v,dscale,RR.av] at *
 generalize RR.v _*RR.v _=p at *
 generalize RR.v _*RR.v _=q at *
 simp only [cD,cQ] at *
 (refine pureW Tryz.func82 rfl (rs:=[Go.ResultVar.cell 4 58]) rfl (n:=14) rfl ?_;simp only [List.length_cons,List.length_nil,List.replicate,List.cons_append,List.nil_append])
 (refine aDa ?_)
 ((refine W_seqD mixed [] (by kernel_rfl) ?_);intro K hK;(refine sDa ?_))
 (refine ⟨by kernel_rfl,_,.pure rfl (h1),?_⟩;(try (refine sDa ?_)))
 (refine ⟨by kernel_rfl,_,.pure rfl (h2),?_⟩;(try (refine sDa ?_)))
 (refine hK _ ?_;clear hK K)
 refine W_ret ?_
 (refine qG ?_;try exact True.intro);try (refine sDaV ?_;try exact True.intro)
theorem dscale_ok (c:RR) (d:DD) (hc:c.ok) (hd:d.ok):Pure Tryz.prog 141 [c.av,d.av] (·=cD (dscale c.v d.v)):=by
 have h1:=rmul_ok c d.a hc hd.1
 have h2:=rmul_ok c d.b hc hd.2
 obtain ⟨⟨n,x,y⟩,⟨m,z,w⟩⟩:=d
 obtain ⟨n',x',y'⟩:=c
 simp only [DD.av,DD.cells,DD.v,dscale,RR.av] at *
 generalize RR.v _*RR.v _=p at *
 generalize RR.v _*RR.v _=q at *
 simp only [cD,cQ] at *
 (refine pureW Tryz.func141 rfl (rs:=[Go.ResultVar.cell 4 58]) rfl (n:=14) rfl ?_;simp only [List.length_cons,List.length_nil,List.replicate,List.cons_append,List.nil_append])
 (refine aDa ?_)
 ((refine W_seqD mixed [] (by kernel_rfl) ?_);intro K hK;(refine sDa ?_))
 (refine ⟨by kernel_rfl,_,.pure rfl (h1),?_⟩;(try (refine sDa ?_)))
 (refine ⟨by kernel_rfl,_,.pure rfl (h2),?_⟩;(try (refine sDa ?_)))
 (refine hK _ ?_;clear hK K)
 refine W_ret ?_
 (refine qG ?_;try exact True.intro);try (refine sDaV ?_;try exact True.intro)
theorem f5of_ok (r:RR) (h:r.ok):Pure Tryz.prog 79 [r.av] (·=cD (r.v,0)):=by
 have h1:=f5norm_ok ⟨r,⟨false,[],[]⟩⟩ ⟨h,⟨fun x hx=>by simp at hx,fun x hx=>by simp at hx,by simp,by simp⟩⟩
 have h2:DD.v ⟨r,⟨false,[],[]⟩⟩=(r.v,0):=by
  simp only [DD.v,RR.v]
  rw [show val []=0 from rfl]
  simp [Rat.mkRat_zero]
 rw [h2] at h1
 obtain ⟨n,x,y⟩:=r
 simp only [DD.av,DD.cells,RR.av,show u32s []=[] from rfl] at *
 generalize ((RR.v _,0):Rat × Rat)=p at *
 simp only [cD] at *
 (refine pureW Tryz.func79 rfl (rs:=[Go.ResultVar.cell 2 58]) rfl (n:=6) rfl ?_;simp only [List.length_cons,List.length_nil,List.replicate,List.cons_append,List.nil_append])
 (refine aDa ?_)
 ((refine W_seqV ?_);intro K hK;(refine sDa ?_))
 (refine ⟨by kernel_rfl,_,.pure rfl (h1),?_⟩;(try (refine sDa ?_)))
 (refine hK _ ?_;clear hK K)
 refine W_ret ?_
 (refine qG ?_;try exact True.intro);try (refine sDaV ?_;try exact True.intro)
theorem ne_z {z:Int} (h:z≠0):(z != 0)=true:=by simp [h]
theorem dcmp_ok (d e:DD) (hd:d.ok) (he:e.ok):Pure Tryz.prog 101 [d.av,e.av] (· = .int .i64 (dsg (dsub d.v e.v))):=by
 have h1:=rcmp_ok d.a e.a hd.1 he.1
 have h2:=rcmp_ok d.b e.b hd.2 he.2
 obtain ⟨⟨n,x,y⟩,⟨m,z,w⟩⟩:=d
 obtain ⟨⟨n',x',y'⟩,⟨m',z',w'⟩⟩:=e
 simp only [DD.av,DD.cells,DD.v,dsg,dsub,RR.av] at *
 generalize rs (RR.v _-RR.v _)=p at *
 generalize rs (RR.v _-RR.v _)=q at *
 unfold lexI
 by_cases h0:p=0
 ·subst h0
  have hz:((0:Int) != 0)=false:=rfl
  rw [if_neg (by simp)]
  (refine pureW Tryz.func101 rfl (rs:=[Go.ResultVar.tmp 4]) rfl (n:=19) rfl ?_;simp only [List.length_cons,List.length_nil,List.replicate,List.cons_append,List.nil_append])
  (refine aDa ?_)
  ((refine W_seq (W_seqV ?_));intro K hK;(refine sDa ?_))
  (refine ⟨by kernel_rfl,_,.pure rfl (h1),?_⟩;(try (refine sDa ?_)))
  (refine hK _ ?_;clear hK K)
  refine W_seq ?_
  ((refine W_regV ?_);intro K hK;(refine sDaX hz ?_))
  (refine hK _ ?_;clear hK K)
  (refine W_cf rfl ?_)
  refine W_skip ?_
  simp only [thenW]
  ((refine W_seqV ?_);intro K hK;(refine sDa ?_))
  (refine ⟨by kernel_rfl,_,.pure rfl (h2),?_⟩;(try (refine sDa ?_)))
  (refine hK _ ?_;clear hK K)
  refine W_ret ?_
  (refine qG ?_;try exact True.intro);try (refine sDaV ?_;try exact True.intro)
 ·have hz:=ne_z h0
  rw [if_pos h0]
  (refine pureW Tryz.func101 rfl (rs:=[Go.ResultVar.tmp 4]) rfl (n:=19) rfl ?_;simp only [List.length_cons,List.length_nil,List.replicate,List.cons_append,List.nil_append])
  (refine aDa ?_)
  ((refine W_seq (W_seqV ?_));intro K hK;(refine sDa ?_))
  (refine ⟨by kernel_rfl,_,.pure rfl (h1),?_⟩;(try (refine sDa ?_)))
  (refine hK _ ?_;clear hK K)
  refine W_seq ?_
  ((refine W_regV ?_);intro K hK;(refine sDaX hz ?_))
  (refine hK _ ?_;clear hK K)
  (refine W_ct rfl ?_)
  ((refine W_seqV ?_);intro K hK;(refine sDa ?_))
  (refine hK _ ?_;clear hK K)
  refine W_ret ?_
  (refine qG ?_;try exact True.intro);try (refine sDaV ?_;try exact True.intro)
theorem sLd {G G':Prop} (h:G') (e:G=G':=by conv=>lhs;simp (disch:=omega) only [rowsOf,cNat,cN,St.ret,St.seth,Eff.app,Eff.wi,sepL,guardOf,St.known,objOf,List.set,sliceW,litW,copyW,lenOf,bnd,mxOk,ofCells,TI.isAgg,cellsOf,storable,AV.one,dead,laid,overlay,reduceCtorEq,Int.reduceLE,Int.reduceLT,Int.reduceSub,Int.reduceAdd,Nat.reduceMul,Int.reduceToNat,Nat.reducePow,Int.reduceNeg,Nat.reduceAdd,Nat.reduceLT,Nat.reduceLeDiff,sA,sB,cQ,rowM,rowQ,i64s_length,i64s_all,i64s_take,i64s_one,i64s_pure,i64s_append,tab_length,tab_getD_zero,List.take_length,List.length_append,tab_drop,tab_take,tab_append,tab_nil,rowM_all,rowM_one,rowM_pure,rowQ_all,rowQ_one,rowQ_pure,sT]):G:=e.mpr h
theorem sLdX {G G' P:Prop} (p:P) (h:G') (e:P→G=G':=by intro p;conv=>lhs;simp (disch:=omega) only [rowsOf,cNat,cN,St.ret,St.seth,Eff.app,Eff.wi,sepL,guardOf,St.known,objOf,List.set,sliceW,litW,copyW,lenOf,bnd,mxOk,ofCells,TI.isAgg,cellsOf,storable,AV.one,dead,laid,overlay,reduceCtorEq,Int.reduceLE,Int.reduceLT,Int.reduceSub,Int.reduceAdd,Nat.reduceMul,Int.reduceToNat,Nat.reducePow,Int.reduceNeg,Nat.reduceAdd,Nat.reduceLT,Nat.reduceLeDiff,sA,sB,cQ,rowM,rowQ,i64s_length,i64s_all,i64s_take,i64s_one,i64s_pure,i64s_append,tab_length,tab_getD_zero,List.take_length,List.length_append,tab_drop,tab_take,tab_append,tab_nil,rowM_all,rowM_one,rowM_pure,rowQ_all,rowQ_one,rowQ_pure,sT,p]):G:=(e p).mpr h
theorem sLdV {G G':Prop} (h:G') (e:G=G':=by conv=>lhs;simp (disch:=omega) only [rowsOf,cNat,cN,St.ret,St.seth,Eff.app,Eff.wi,sepL,guardOf,St.known,objOf,List.set,sliceW,litW,copyW,lenOf,bnd,mxOk,ofCells,TI.isAgg,cellsOf,storable,AV.one,dead,laid,overlay,reduceCtorEq,Int.reduceLE,Int.reduceLT,Int.reduceSub,Int.reduceAdd,Nat.reduceMul,Int.reduceToNat,Nat.reducePow,Int.reduceNeg,Nat.reduceAdd,Nat.reduceLT,Nat.reduceLeDiff,sA,sB,cQ,rowM,rowQ,i64s_length,i64s_all,i64s_take,i64s_one,i64s_pure,i64s_append,tab_length,tab_getD_zero,List.take_length,List.length_append,tab_drop,tab_take,tab_append,tab_nil,rowM_all,rowM_one,rowM_pure,rowQ_all,rowQ_one,rowQ_pure,sT,view_sref,viewRef,view_agg,views_cons,views_nil,view_bool,view_int,view_sl,view_nils,view_str,view_tup,view_nilif]):G:=e.mpr h
theorem aLd {G G':Prop} (h:G') (f:Wr G'→G:=by intro h;(repeat (first|(refine W_seqV fun K hK=>?_;(try (refine sLd ?_;try exact True.intro));(repeat refine aI ?_);refine hK _ ?_;clear hK K)|(refine W_seqR fun K hK=>?_;(try (refine sLd ?_;try exact True.intro));(repeat refine aI ?_);refine hK _ ?_;clear hK K)|(refine W_seqD mixed [] (by kernel_rfl) fun K hK=>?_;(try (refine sLd ?_;try exact True.intro));(repeat refine aI ?_);refine hK _ ?_;clear hK K)));exact h.out):G:=f ⟨h⟩
theorem lcoef_ok (f:List (Int × RR)) (v:Int) {B:Nat} (hf:PF f B) (hB:B≤8589934592) :
  Pure Tryz.prog 89 [cF f,.int .i64 v] (·=cQ (coef (vals f) v)):=by
 have hfl:=hf.len
 have hvl:(vals f).length=f.length:=by simp [vals]
 have hst:∀ i,i<f.length→coef ((vals f).take (i+1)) v=coef ((vals f).take i) v+if (f.getD i default).1=v then (f.getD i default).2.v else 0:=fun i hi=>by
  rw [coef_take _ _ (by omega)]
  have:(vals f).getD i default=((f.getD i default).1,(f.getD i default).2.v):=by simp [vals,List.getD_eq_getElem?_getD,hi]
  rw [this]
 have hz:zeroR.ok∧zeroR.v=0:=⟨zeroR_ok,zeroR_v⟩
 have hnv:∀ i,nb (coef ((vals f).take i) v)≤8589934592:=fun i=>Nat.le_trans (hf.pre i v) hB
 have hok:∀ i,i<f.length→(f.getD i default).2.ok:=fun i hi=>hf.ok _ (by simp [List.getD_eq_getElem?_getD,hi])
 have hnr:=rnorm_ok
 have hlast:coef ((vals f).take f.length) v=coef (vals f) v:=by rw [← hvl,List.take_length]
 rw [← hlast]
 generalize hE:(fun i=>coef ((vals f).take i) v)=E at *
 have hE':∀ i,coef ((vals f).take i) v=E i:=fun i=>congrFun hE i
 have h0:E 0=0:=by rw [← hE];rfl
 simp only [hE'] at *
 clear hE hE' hlast
 (refine pureW Tryz.func89 rfl (rs:=[Go.ResultVar.cell 4 53]) rfl (n:=26) rfl ?_;simp only [List.length_cons,List.length_nil,List.replicate,List.cons_append,List.nil_append])
 simp only [cF]
 (refine aLd ?_)
 refine W.le ?_ (Le_datas 5 rfl)
 simp only [List.set,List.map_cons,List.map_nil,AV.datas,AV.data]
 refine W_seq ?_
 ((refine W_seqV ?_);intro K hK;(refine sLd ?_))
 (refine hK _ ?_;clear hK K)
 refine W_block (W_loop (fun t:{t:Nat × RR // t.1≤f.length∧t.2.ok∧t.2.v=E t.1} =>
   ⟨[.any,.int .i64 v,.any,.any,.ptr 4 0 0,.ptr 5 0 0,.any,.any,.any,.sl (tab rowM f),.int .i64 f.length,.int .i64 t.1.1,.any,.any,.any,.any,.any,.any,.any,.any,.any,.any,.any,.any,.any,.any],[.dead,.dead,.dead,.dead,.arr 53 3 false [[.bool false,.nils,.nils]],.arr 53 3 false [[.bool t.1.2.neg,.sl (u32s t.1.2.num),.sl (u32s t.1.2.den)]],.dead,.dead,.dead,.dead,.dead,.dead,.dead,.dead,.dead,.dead,.dead,.dead,.dead,.dead,.dead,.dead,.dead,.dead,.dead,.dead]⟩) (fun t=>f.length-t.1.1)
   ⟨(0,zeroR),by omega,hz.1,by rw [hz.2,h0]⟩ (Le_of (by simp [leE]) (by simp [zeroR,u32s])) fun t=>?_)
 obtain ⟨⟨i,q⟩,hi,hq,hqv⟩:=t
 replace hqv:q.v=E i:=hqv
 replace hq:q.ok:=hq
 replace hi:i≤f.length:=hi
 dsimp only
 by_cases hlt:i<f.length
 ·have hXi:(tab rowM f).getD i []=rowM (f.getD i default):=tab_getD hlt
  have hsi:=hst i hlt
  have hp1:=hok i hlt
  generalize f.getD i default=p at *
  simp only [rowM] at hXi
  refine W_seq ?_
  ((refine W_regV ?_);intro K hK;(refine sLdX hlt ?_))
  (refine hK _ ?_;clear hK K)
  (refine W_seq (W_ct rfl ?_))
  refine W_skip ?_
  simp only [thenW]
  refine W_seq ?_
  refine W_block ?_
  ((refine W_seqV ?_);intro K hK;(refine sLdX (And.intro hXi hlt) ?_))
  (refine hK _ ?_;clear hK K)
  by_cases hv:p.1=v
  ·rw [if_pos hv,← hqv] at hsi
   have hadd:=radd_ok q p.2 hq hp1
   have hb:(p.1 == v)=true:=by simp [hv]
   have hnx:=hnv (i+1)
   rw [hsi] at hnx
   have hqo:(qr (q.v+p.2.v)).ok:=qr_ok (by omega)
   have hqw:(qr (q.v+p.2.v)).v=E (i+1):=by rw [qr_v,hsi]
   have hqa:cQ (q.v+p.2.v)=(qr (q.v+p.2.v)).av:=(qr_av _).symm
   rw [hqa] at hadd
   generalize qr (q.v+p.2.v)=q' at *
   simp only [RR.av] at hadd
   ((refine W_seqV ?_);intro K hK;(refine sLdX (And.intro hXi (And.intro hlt hb)) ?_))
   (refine hK _ ?_;clear hK K)
   (refine W_ct rfl ?_)
   ((refine W_regV ?_);intro K hK;(refine sLdX (And.intro hXi hlt) ?_))
   (refine ⟨by kernel_rfl,_,.pure rfl (hadd),?_⟩;(try (refine sLd ?_)))
   (refine hK _ ?_;clear hK K)
   simp only [blockW,thenW]
   ((refine W_regV ?_);intro K hK;(refine sLd ?_))
   (refine hK _ ?_;clear hK K)
   simp only [blockW,thenW]
   refine ⟨⟨(i+1,q'),by omega,hqo,hqw⟩,Le_drop (by simp [leE]) (by simp [leH]) rfl rfl,?_⟩
   dsimp only
   omega
  ·rw [if_neg hv,Rat.add_zero] at hsi
   have hb:(p.1 == v)=false:=by simp [hv]
   ((refine W_seqV ?_);intro K hK;(refine sLdX hb ?_))
   (refine hK _ ?_;clear hK K)
   (refine W_cf rfl ?_)
   refine W_skip ?_
   simp only [blockW,thenW]
   ((refine W_regV ?_);intro K hK;(refine sLd ?_))
   (refine hK _ ?_;clear hK K)
   simp only [blockW,thenW]
   refine ⟨⟨(i+1,q),by omega,hq,by rw [hqv,hsi]⟩,Le_drop (by simp [leE]) (by simp [leH]) rfl rfl,?_⟩
   dsimp only
   omega
 ·obtain rfl:i=f.length:=by omega
  have hn:=hnr q hq
  rw [hqv] at hn
  simp only [RR.av,cQ] at hn
  refine W_seq ?_
  ((refine W_regV ?_);intro K hK;(refine sLd ?_))
  (refine hK _ ?_;clear hK K)
  (refine W_seq (W_cf rfl ?_))
  refine W_exit ?_
  simp only [thenW,blockW,if_true]
  ((refine W_seqV ?_);intro K hK;(refine sLd ?_))
  (refine ⟨by kernel_rfl,_,.pure rfl (hn),?_⟩;(try (refine sLd ?_)))
  (refine hK _ ?_;clear hK K)
  refine W_ret ?_
  (refine qG ?_;try exact True.intro);try (refine sLdV ?_;try exact True.intro)
theorem lvars_ok (f:List (Int × RR)) {B:Nat} (h:FOk f B) (hB:B<17179869184):Pure Tryz.prog 109 [cF f] (· = .sl (i64s ((normF (vals f)).map (·.1)))):=by
 have hn:=lnorm_ok f h hB
 have hl:=len_norm (vals f)
 rw [vals_length] at hl
 have hfl:=h.len
 generalize normF (vals f)=l at *
 have hst:∀ i,i<l.length→(l.take (i+1)).map (·.1)=(l.take i).map (·.1)++[(l.getD i default).1]:=fun i hi=>by
  rw [List.take_succ_eq_append_getElem hi,List.map_append]
  simp [List.getD_eq_getElem?_getD,hi]
 have hln:∀ i,i≤l.length→((l.take i).map (·.1)).length=i:=fun i h=>by simp;omega
 have h0:(l.take 0).map (·.1)=[]:=rfl
 have hlast:(l.take l.length).map (·.1)=l.map (·.1):=by rw [List.take_length]
 rw [← hlast]
 generalize hE:(fun i=>(l.take i).map (·.1))=E at *
 have hE':∀ i,(l.take i).map (·.1)=E i:=fun i=>congrFun hE i
 simp only [hE'] at *
 clear hE hE' hlast
 simp only [cF,cL] at hn ⊢
 (refine pureW Tryz.func109 rfl (rs:=[Go.ResultVar.tmp 2]) rfl (n:=20) rfl ?_;simp only [List.length_cons,List.length_nil,List.replicate,List.cons_append,List.nil_append])
 (refine aLd ?_)
 refine W.le ?_ (Le_nil 3 3 3 1 true rfl rfl)
 simp only [List.set]
 refine W_seq ?_
 ((refine W_seqV ?_);intro K hK;(refine sLd ?_))
 (refine ⟨by kernel_rfl,_,.pure rfl (hn),?_⟩;(try (refine sLd ?_)))
 (refine hK _ ?_;clear hK K)
 refine W_block (W_loop (fun t:{t:Nat // t≤l.length} =>
   ⟨[.any,.any,.any,.sref 3 0 t.1,.any,.any,.any,.sl (tab rowQ l),.int .i64 l.length,.int .i64 t.1,.any,.any,.any,.any,.any,.any,.any,.any,.any,.any],[.dead,.dead,.dead,.arr 3 1 true (i64s (E t.1)),.dead,.dead,.dead,.dead,.dead,.dead,.dead,.dead,.dead,.dead,.dead,.dead,.dead,.dead,.dead,.dead]⟩) (fun t=>l.length-t.1)
   ⟨0,by omega⟩ (Le_of (by simp [leE]) (by simp [h0,i64s])) fun t=>?_)
 obtain ⟨i,hi⟩:=t
 dsimp only
 by_cases hlt:i<l.length
 ·have hXi:(tab rowQ l).getD i []=rowQ (l.getD i default):=tab_getD hlt
  have hsi:=hst i hlt
  have hli:=hln i (by omega)
  generalize l.getD i default=p at *
  generalize E i=o at *
  simp only [rowQ] at hXi
  refine W_seq ?_
  ((refine W_regV ?_);intro K hK;(refine sLdX hlt ?_))
  (refine hK _ ?_;clear hK K)
  (refine W_seq (W_ct rfl ?_))
  refine W_skip ?_
  simp only [thenW]
  refine W_seq ?_
  refine W_block ?_
  ((refine W_seqV ?_);intro K hK;(refine sLdX (And.intro hXi hlt) ?_))
  (refine hK _ ?_;clear hK K)
  ((refine W_regR ?_);intro K hK;(refine sLdX hli ?_))
  (repeat refine aI ?_);refine hK _ ?_;clear hK K
  simp only [blockW,thenW]
  ((refine W_regV ?_);intro K hK;(refine sLd ?_))
  (refine hK _ ?_;clear hK K)
  simp only [blockW,thenW]
  refine ⟨⟨i+1,by omega⟩,Le_drop (by simp [leE]) (by simp [leH,hsi,i64s,List.take_of_length_le,hli]) rfl rfl,?_⟩
  dsimp only
  omega
 ·obtain rfl:i=l.length:=by omega
  have hli:=hln l.length (by omega)
  refine W_seq ?_
  ((refine W_regV ?_);intro K hK;(refine sLd ?_))
  (refine hK _ ?_;clear hK K)
  (refine W_seq (W_cf rfl ?_))
  refine W_exit ?_
  simp only [thenW,blockW,if_true]
  ((refine W_seqV ?_);intro K hK;(refine sLd ?_))
  (refine hK _ ?_;clear hK K)
  refine W_ret ?_
  (refine qG ?_;try exact True.intro);try (refine sLdV ?_;try exact True.intro)
  rw [List.take_of_length_le (by simp [i64s,hli])]
theorem sLe {G G':Prop} (h:G') (e:G=G':=by conv=>lhs;simp (disch:=omega) only [rowsOf,cNat,cN,St.ret,St.seth,Eff.app,Eff.wi,sepL,guardOf,St.known,objOf,List.set,sliceW,litW,copyW,lenOf,bnd,mxOk,ofCells,TI.isAgg,cellsOf,storable,AV.one,dead,laid,overlay,reduceCtorEq,Int.reduceLE,Int.reduceLT,Int.reduceSub,Int.reduceAdd,Nat.reduceMul,Int.reduceToNat,Nat.reducePow,Int.reduceNeg,Nat.reduceAdd,Nat.reduceLT,Nat.reduceLeDiff,sA,sB,cQ,rowQ,tab_length,tab_getD_zero,List.take_length,List.length_append,tab_drop,tab_take,tab_append,tab_nil,rowQ_all,rowQ_one,rowQ_pure,AV.ren,sT]):G:=e.mpr h
theorem sLeX {G G' P:Prop} (p:P) (h:G') (e:P→G=G':=by intro p;conv=>lhs;simp (disch:=omega) only [rowsOf,cNat,cN,St.ret,St.seth,Eff.app,Eff.wi,sepL,guardOf,St.known,objOf,List.set,sliceW,litW,copyW,lenOf,bnd,mxOk,ofCells,TI.isAgg,cellsOf,storable,AV.one,dead,laid,overlay,reduceCtorEq,Int.reduceLE,Int.reduceLT,Int.reduceSub,Int.reduceAdd,Nat.reduceMul,Int.reduceToNat,Nat.reducePow,Int.reduceNeg,Nat.reduceAdd,Nat.reduceLT,Nat.reduceLeDiff,sA,sB,cQ,rowQ,tab_length,tab_getD_zero,List.take_length,List.length_append,tab_drop,tab_take,tab_append,tab_nil,rowQ_all,rowQ_one,rowQ_pure,AV.ren,sT,p]):G:=(e p).mpr h
theorem sLeV {G G':Prop} (h:G') (e:G=G':=by conv=>lhs;simp (disch:=omega) only [rowsOf,cNat,cN,St.ret,St.seth,Eff.app,Eff.wi,sepL,guardOf,St.known,objOf,List.set,sliceW,litW,copyW,lenOf,bnd,mxOk,ofCells,TI.isAgg,cellsOf,storable,AV.one,dead,laid,overlay,reduceCtorEq,Int.reduceLE,Int.reduceLT,Int.reduceSub,Int.reduceAdd,Nat.reduceMul,Int.reduceToNat,Nat.reducePow,Int.reduceNeg,Nat.reduceAdd,Nat.reduceLT,Nat.reduceLeDiff,sA,sB,cQ,rowQ,tab_length,tab_getD_zero,List.take_length,List.length_append,tab_drop,tab_take,tab_append,tab_nil,rowQ_all,rowQ_one,rowQ_pure,AV.ren,sT,view_sref,viewRef,view_agg,views_cons,views_nil,view_bool,view_int,view_sl,view_nils,view_str,view_tup,view_nilif]):G:=e.mpr h
theorem aLe {G G':Prop} (h:G') (f:Wr G'→G:=by intro h;(repeat (first|(refine W_seqV fun K hK=>?_;(try (refine sLe ?_;try exact True.intro));(repeat refine aI ?_);refine hK _ ?_;clear hK K)|(refine W_seqR fun K hK=>?_;(try (refine sLe ?_;try exact True.intro));(repeat refine aI ?_);refine hK _ ?_;clear hK K)|(refine W_seqD mixed [] (by kernel_rfl) fun K hK=>?_;(try (refine sLe ?_;try exact True.intro));(repeat refine aI ?_);refine hK _ ?_;clear hK K)));exact h.out):G:=f ⟨h⟩
theorem without1_ok (p:Int × Rat) (v:Int):Pure Tryz.prog 175 [.agg (rowQ p),.ia [.int .i64 v] 0] (· = .bool (p.1 == v)):=by
 (refine pureW Tryz.func175 rfl (rs:=[Go.ResultVar.tmp 3]) rfl (n:=8) rfl ?_;simp only [List.length_cons,List.length_nil,List.replicate,List.cons_append,List.nil_append])
 simp only [rowQ]
 (refine aLe ?_)
 refine W_ret ?_
 (refine qG ?_;try exact True.intro);try (refine sLeV ?_;try exact True.intro)
def idxF (l:List (Int × Rat)) (v:Int):Int :=
 match l with
 | [] => -1
 | p::l=>if p.1=v then 0 else (let r:=idxF l v;if r<0 then -1 else r+1)
theorem idxF_spec (v:Int):∀ l:List (Int × Rat),(idxF l v = -1∧∀ p∈l,p.1≠v)∨(∃ i:Nat,idxF l v=i∧i<l.length∧(l.getD i default).1=v∧∀ j,j<i→(l.getD j default).1≠v)
 | [] => .inl ⟨rfl,by simp⟩
 | p::l=>by
  unfold idxF
  by_cases h:p.1=v
  ·rw [if_pos h]
   exact .inr ⟨0,rfl,by simp,by simpa using h,by omega⟩
  ·rw [if_neg h]
   rcases idxF_spec v l with ⟨h1,h2⟩ | ⟨i,h1,h2,h3,h4⟩
   ·left
    refine ⟨by simp [h1],fun q hq=>?_⟩
    rcases List.mem_cons.1 hq with rfl | hq
    ·exact h
    ·exact h2 q hq
   ·right
    refine ⟨i+1,by simp only [h1];rw [if_neg (by omega)];omega,by simp;omega,by simpa using h3,fun j hj=>?_⟩
    cases j with
    | zero=>simpa using h
    | succ j=>simpa using h4 j (by omega)
theorem idx_ok (l:List (Int × Rat)) (v:Int) (hl:l.length<1099511627776):Pure Tryz.prog 212 [.sl (tab rowQ l),.fn (.func 175) [] [.ia [.int .i64 v] 0]] (· = .int .i64 (idxF l v)):=by
 have hsp:=idxF_spec v l
 generalize idxF l v=r at *
 (refine pureW Tryz.func212 rfl (rs:=[Go.ResultVar.tmp 4]) rfl (n:=19) rfl ?_;simp only [List.length_cons,List.length_nil,List.replicate,List.cons_append,List.nil_append])
 (refine aLe ?_)
 refine W_seq ?_
 ((refine W_seqV ?_);intro K hK;(refine sLe ?_))
 (refine hK _ ?_;clear hK K)
 refine W_block (W_loop (fun t:{t:Nat // t≤l.length∧∀ j,j<t→(l.getD j default).1≠v} =>
   ⟨[.sl (tab rowQ l),.fn (.func 175) [] [.ia [.int .i64 v] 0],.any,.any,.any,.any,.any,.int .i64 l.length,.int .i64 t.1,.any,.any,.any,.any,.any,.any,.any,.any,.any,.any],[.dead,.dead,.dead,.dead,.dead,.dead,.dead,.dead,.dead,.dead,.dead,.dead,.dead,.dead,.dead,.dead,.dead,.dead,.dead]⟩) (fun t=>l.length-t.1)
   ⟨0,by omega,by omega⟩ (Le_of (by simp [leE]) (by simp)) fun t=>?_)
 obtain ⟨i,hi,hbe⟩:=t
 dsimp only
 by_cases hlt:i<l.length
 ·have hXi:(tab rowQ l).getD i []=rowQ (l.getD i default):=tab_getD hlt
  have hw:=without1_ok (l.getD i default) v
  have hme:l.getD i default∈l:=by simp [List.getD_eq_getElem?_getD,hlt]
  generalize hp:l.getD i default=p at *
  simp only [rowQ] at hXi hw
  refine W_seq ?_
  ((refine W_regV ?_);intro K hK;(refine sLeX hlt ?_))
  (refine hK _ ?_;clear hK K)
  refine W_seq ?_
  (refine W_ct rfl ?_)
  refine W_skip ?_
  simp only [thenW]
  refine W_seq ?_
  refine W_block ?_
  ((refine W_seqV ?_);intro K hK;(refine sLe ?_))
  (refine hK _ ?_;clear hK K)
  by_cases hv:p.1=v
  ·have hb:(p.1 == v)=true:=by simp [hv]
   rw [hb] at hw
   have hr:r=i:=by
    rcases hsp with ⟨h1,h2⟩ | ⟨k,h1,h2,h3,h4⟩
    ·exact absurd hv (h2 p hme)
    ·rcases Nat.lt_trichotomy k i with h | h | h
     ·exact absurd h3 (hbe k h)
     ·rw [h1,h]
     ·exact absurd (by rw [hp];exact hv) (h4 i h)
   subst hr
   ((refine W_seqV ?_);intro K hK;(refine sLeX (And.intro hXi hlt) ?_))
   (refine ⟨by kernel_rfl,_,.pure rfl (hw),?_⟩;(try (refine sLe ?_)))
   (refine hK _ ?_;clear hK K)
   (refine W_ct rfl ?_)
   ((refine W_seqV ?_);intro K hK;(refine sLe ?_))
   (refine hK _ ?_;clear hK K)
   refine W_ret ?_
   (refine qG ?_;try exact True.intro)
  ·have hb:(p.1 == v)=false:=by simp [hv]
   rw [hb] at hw
   ((refine W_seqV ?_);intro K hK;(refine sLeX (And.intro hXi hlt) ?_))
   (refine ⟨by kernel_rfl,_,.pure rfl (hw),?_⟩;(try (refine sLe ?_)))
   (refine hK _ ?_;clear hK K)
   (refine W_cf rfl ?_)
   refine W_skip ?_
   simp only [blockW,thenW]
   ((refine W_regV ?_);intro K hK;(refine sLe ?_))
   (refine hK _ ?_;clear hK K)
   simp only [blockW,thenW]
   refine ⟨⟨i+1,by omega,fun j hj=>?_⟩,Le_drop (by simp [leE]) (by simp [leH]) rfl rfl,?_⟩
   ·rcases Nat.lt_or_ge j i with h | h
    ·exact hbe j h
    ·rw [show j=i by omega,hp];exact hv
   ·dsimp only
    omega
 ·obtain rfl:i=l.length:=by omega
  have hr:r = -1:=by
   rcases hsp with ⟨h1,h2⟩ | ⟨k,h1,h2,h3,h4⟩
   ·exact h1
   ·exact absurd h3 (hbe k h2)
  subst hr
  refine W_seq ?_
  ((refine W_regV ?_);intro K hK;(refine sLe ?_))
  (refine hK _ ?_;clear hK K)
  refine W_seq ?_
  (refine W_cf rfl ?_)
  refine W_exit ?_
  simp only [thenW,blockW,if_true]
  ((refine W_seqV ?_);intro K hK;(refine sLe ?_))
  (refine hK _ ?_;clear hK K)
  refine W_ret ?_
  (refine qG ?_;try exact True.intro)
def delF (l:List (Int × Rat)) (v:Int):List (Int × Rat):=l.filter fun p=>!(p.1 == v)
theorem delF_take {l:List (Int × Rat)} {v:Int} {i:Nat} (h:i<l.length):delF (l.take (i+1)) v=delF (l.take i) v++if (l.getD i default).1=v then [] else [l.getD i default]:=by
 unfold delF
 rw [List.take_succ_eq_append_getElem h,List.filter_append]
 have:l.getD i default=l[i]:=by simp [List.getD_eq_getElem?_getD,h]
 rw [this]
 by_cases hv:l[i].1=v
 ·have hb:(l[i].1 == v)=true:=by simp [hv]
  simp [List.filter,hv]
 ·have hb:(l[i].1 == v)=false:=by simp [hv]
  rw [List.filter_cons_of_pos (by simp [hb]),if_neg hv]
  simp
theorem delF_len (l:List (Int × Rat)) (v:Int):(delF l v).length≤l.length:=List.length_filter_le _ _
theorem delF_none {l:List (Int × Rat)} {v:Int} (h:∀ p∈l,p.1≠v):delF l v=l:=by
 unfold delF
 rw [List.filter_eq_self]
 intro p hp
 simp [h p hp]
theorem del_ok (l:List (Int × Rat)) (v:Int) (hl:l.length<1099511627776) :
  Mut2 Tryz.prog 174 55 4 (tab rowQ l) 0 l.length [.fn (.func 175) [] [.ia [.int .i64 v] 0]]
   (fun r rows'=>r = .sref 0 0 (delF l v).length∧rows'.take (delF l v).length=tab rowQ (delF l v)):=by
 have hix:=idx_ok l v hl
 have hsp:=idxF_spec v l
 generalize idxF l v=r at *
 have hview:Pure Tryz.prog 212 (views ((List.replicate 42 Ob.dead).set 0 (.arr 55 4 true (tab rowQ l))) 3 [.sref 0 0 l.length,.fn (.func 175) [] [.ia [.int .i64 v] 0]]) (· = .int .i64 r):=by
  simp only [views,view,List.replicate,List.set,List.getD_cons_zero,List.drop_zero]
  rw [List.take_of_length_le (by simp [tab_length])]
  exact hix
 simp only [List.replicate,List.set] at hview
 (refine mut2_of_W Tryz.func174 rfl (rs:=[Go.ResultVar.tmp 4]) rfl (nt:=42) rfl (by decide) ?_;simp only [List.length_cons,List.length_nil,List.replicate,List.cons_append,List.nil_append,List.set,AV.datas,AV.data])
 (refine aLe ?_)
 ((refine W_seqR ?_);intro K hK;(refine sLe ?_))
 (refine ⟨by kernel_rfl,call_flat (hview) fun r hr=>⟨by subst hr;rfl,?_⟩⟩;subst hr;(refine sLe ?_;try exact True.intro))
 (refine hK _ ?_;clear hK K)
 clear hview hix
 rcases hsp with ⟨h1,h2⟩ | ⟨i,h1,h2,h3,h4⟩
 ·subst h1
  have hz:((-1:Int) == -1)=true:=rfl
  have hd:=delF_none h2
  refine W_seq ?_
  ((refine W_seqV ?_);intro K hK;(refine sLeX hz ?_))
  (refine hK _ ?_;clear hK K)
  (refine W_ct rfl ?_)
  ((refine W_seqV ?_);intro K hK;(refine sLe ?_))
  (refine hK _ ?_;clear hK K)
  refine W_ret ?_
  (refine qG ?_;try exact True.intro)
  rw [hd]
  exact ⟨tab rowQ l,rfl,.inr ⟨0,l.length,rfl⟩,rfl,List.take_of_length_le (by simp [tab_length])⟩
 ·subst h1
  have hz:((i:Int) == -1)=false:=by rw [beq_eq_false_iff_ne];omega
  have hd0:delF (l.take (i+1)) v=l.take i:=by
   rw [delF_take h2,if_pos h3,List.append_nil]
   refine delF_none fun p hp=>?_
   obtain ⟨j,hj,rfl⟩:=List.mem_iff_getElem.1 hp
   have hjl:j<i:=by simp at hj;omega
   have:=h4 j hjl
   simpa [List.getD_eq_getElem?_getD,show j<l.length by omega] using this
  refine W_seq ?_
  ((refine W_seqV ?_);intro K hK;(refine sLeX hz ?_))
  (refine hK _ ?_;clear hK K)
  (refine W_cf rfl ?_)
  refine W_skip ?_
  simp only [thenW]
  refine W_seq ?_
  ((refine W_seqV ?_);intro K hK;(refine sLe ?_))
  (refine hK _ ?_;clear hK K)
  refine W_block (W_loop (fun t:{t:Nat × List (Int × Rat) // t.1≤l.length∧t.2.length=l.length∧t.2.take (delF (l.take t.1) v).length=delF (l.take t.1) v∧t.2.drop t.1=l.drop t.1∧(delF (l.take t.1) v).length≤t.1} =>
   ⟨[.sref 0 0 l.length,.fn (.func 175) [] [.ia [.int .i64 v] 0],.any,.any,.any,.int .i64 (delF (l.take t.1.1) v).length,.int .i64 t.1.1,.any,.any,.any,.any,.any,.any,.any,.any,.any,.any,.any,.any,.any,.any,.any,.any,.any,.any,.any,.any,.any,.any,.any,.any,.any,.any,.any,.any,.any,.any,.any,.any,.any,.any,.any],[.arr 55 4 true (tab rowQ t.1.2),.dead,.dead,.dead,.dead,.dead,.dead,.dead,.dead,.dead,.dead,.dead,.dead,.dead,.dead,.dead,.dead,.dead,.dead,.dead,.dead,.dead,.dead,.dead,.dead,.dead,.dead,.dead,.dead,.dead,.dead,.dead,.dead,.dead,.dead,.dead,.dead,.dead,.dead,.dead,.dead,.dead]⟩) (fun t=>l.length-t.1.1)
   ⟨(i+1,l),by dsimp only;omega,rfl,by dsimp only;rw [hd0];simp,rfl,by dsimp only;rw [hd0];simp;omega⟩ (Le_of (by simp [leE,hd0];omega) (by simp)) fun t=>?_)
  obtain ⟨⟨j,c⟩,hj,hcl,hct,hcd,hkj⟩:=t
  replace hj:j≤l.length:=hj
  replace hcl:c.length=l.length:=hcl
  replace hct:c.take (delF (l.take j) v).length=delF (l.take j) v:=hct
  replace hcd:c.drop j=l.drop j:=hcd
  replace hkj:(delF (l.take j) v).length≤j:=hkj
  dsimp only
  by_cases hlt:j<l.length
  ·have hdt:=delF_take (v:=v) hlt
   generalize hk:delF (l.take j) v=D at *
   have hcj:c.getD j default=l.getD j default:=by
    have e1:(c.drop j)[0]?=(l.drop j)[0]?:=by rw [hcd]
    simpa [List.getD_eq_getElem?_getD] using congrArg (fun o=>o.getD default) e1
   have hXi:(tab rowQ c).getD j []=rowQ (c.getD j default):=tab_getD (by omega)
   rw [hcj] at hXi
   have hw:=without1_ok (l.getD j default) v
   have hcs:∀ x:Int × Rat,(tab rowQ c).set D.length (rowQ x)=tab rowQ (c.set D.length x):=fun x=>tab_set c D.length x
   generalize l.getD j default=p at *
   have hcs1:=hcs p
   simp only [rowQ] at hXi hw hcs1
   have h5:(j:Int)<(l.length:Int):=by omega
   have h6:(D.length:Int)<(l.length:Int):=by omega
   have h7:D.length<(tab rowQ c).length:=by rw [tab_length];omega
   refine W_seq ?_
   ((refine W_seqV ?_);intro K hK;(refine sLeX h5 ?_))
   (refine hK _ ?_;clear hK K)
   (refine W_ct rfl ?_)
   refine W_skip ?_
   simp only [thenW]
   refine W_seq ?_
   refine W_block ?_
   ((refine W_seqV ?_);intro K hK;(refine sLeX (And.intro hXi h5) ?_))
   (repeat refine aI ?_);refine hK _ ?_;clear hK K
   have hYk:(tab rowQ c).getD D.length []=rowQ (c.getD D.length default):=tab_getD (by omega)
   generalize c.getD D.length default=y at *
   simp only [rowQ] at hYk
   by_cases hv:p.1=v
   ·have hb:(p.1 == v)=true:=by simp [hv]
    rw [hb] at hw
    rw [if_pos hv,List.append_nil] at hdt
    ((refine W_seqV ?_);intro K hK;(refine sLe ?_))
    (refine ⟨by kernel_rfl,_,.pure rfl (hw),?_⟩;(try (refine sLe ?_)))
    (refine hK _ ?_;clear hK K)
    (refine W_cf rfl ?_)
    refine W_skip ?_
    simp only [blockW,thenW]
    ((refine W_regV ?_);intro K hK;(refine sLe ?_))
    (refine hK _ ?_;clear hK K)
    simp only [blockW,thenW]
    have hdn:c.drop (j+1)=l.drop (j+1):=by rw [← List.drop_drop,hcd,List.drop_drop]
    refine ⟨⟨(j+1,c),by dsimp only;omega,hcl,by dsimp only;rw [hdt];exact hct,hdn,by dsimp only;rw [hdt];omega⟩,Le_drop (by simp [leE,hdt]) (by simp [leH]) rfl rfl,?_⟩
    dsimp only
    omega
   ·have hb:(p.1 == v)=false:=by simp [hv]
    rw [hb] at hw
    rw [if_neg hv] at hdt
    ((refine W_seqV ?_);intro K hK;(refine sLe ?_))
    (refine ⟨by kernel_rfl,_,.pure rfl (hw),?_⟩;(try (refine sLe ?_)))
    (refine hK _ ?_;clear hK K)
    (refine W_ct rfl ?_)
    refine W_seq ?_
    ((refine W_regV ?_);intro K hK;(refine sLeX (And.intro hYk (And.intro h6 (And.intro h7 hcs1))) ?_))
    (repeat refine aI ?_);refine hK _ ?_;clear hK K
    simp only [thenW]
    ((refine W_regV ?_);intro K hK;(refine sLe ?_))
    (refine hK _ ?_;clear hK K)
    simp only [blockW,thenW]
    ((refine W_regV ?_);intro K hK;(refine sLe ?_))
    (refine hK _ ?_;clear hK K)
    simp only [blockW,thenW]
    have hln:(delF (l.take (j+1)) v).length=D.length+1:=by rw [hdt];simp
    have hdn:(c.set D.length p).drop (j+1)=l.drop (j+1):=by
     rw [List.drop_set_of_lt (by omega),← List.drop_drop,hcd,List.drop_drop]
    have htk:(c.set D.length p).take (D.length+1)=D++[p]:=by
     rw [List.take_succ_eq_append_getElem (by simp;omega),List.take_set_of_le (Nat.le_refl _),hct]
     simp
    refine ⟨⟨(j+1,c.set D.length p),by dsimp only;omega,by simp [hcl],by dsimp only;rw [hln,hdt];exact htk,hdn,by dsimp only;rw [hln];omega⟩,Le_drop (by simp [leE,hln]) (by simp [leH]) rfl rfl,?_⟩
    dsimp only
    omega
  ·obtain rfl:j=l.length:=by omega
   rw [List.take_length] at hct hkj ⊢
   generalize delF l v=D at *
   have h5:(D.length:Int)≤(l.length:Int):=by omega
   have h6:D.length+(l.length-D.length)≤(tab rowQ c).length:=by rw [tab_length];omega
   refine W_seq ?_
   ((refine W_seqV ?_);intro K hK;(refine sLe ?_))
   (refine hK _ ?_;clear hK K)
   (refine W_cf rfl ?_)
   refine W_exit ?_
   simp only [thenW,blockW,if_true]
   ((refine W_seqR ?_);intro K hK;(refine sLeX (And.intro h5 h6) ?_))
   refine ⟨Nat.le_refl _,by omega,?_⟩
   refine hK _ ?_
   clear hK K
   rw [hct]
   generalize c.drop (D.length+(l.length-D.length))=rest
   generalize List.replicate (l.length-D.length) [AV.int .i64 0,.bool false,.nils,.nils]=zs
   ((refine W_seqV ?_);intro K hK;(refine sLeX h5 ?_))
   (refine hK _ ?_;clear hK K)
   refine W_ret ?_
   (refine qG ?_;try exact True.intro)
   refine ⟨_,rfl,.inr ⟨0,D.length,by simp⟩,by simp,?_⟩
   rw [List.append_assoc,List.take_append_of_le_length (by rw [tab_length];omega),List.take_of_length_le (by rw [tab_length];omega)]
theorem lwithout_ok (f:List (Int × RR)) (v:Int) {B:Nat} (h:FOk f B) (hB:B<17179869184):Pure Tryz.prog 136 [cF f,.int .i64 v] (·=cL (delF (normF (vals f)) v)):=by
 have hn:=lnorm_new f h hB
 have hl:=len_norm (vals f)
 rw [vals_length] at hl
 have hfl:=h.len
 have hd:=del_ok (normF (vals f)) v (by omega)
 generalize normF (vals f)=l at *
 simp only [cF,cL] at hn ⊢
 (refine pureW Tryz.func136 rfl (rs:=[Go.ResultVar.tmp 4]) rfl (n:=9) rfl ?_;simp only [List.length_cons,List.length_nil,List.replicate,List.cons_append,List.nil_append])
 (refine aLe ?_)
 refine W.le ?_ (Le_freeze 3 (rows:=[[.int .i64 v]]) rfl (by simp) (.inr (fun r hr=>by simp at hr;subst hr;rfl)))
 simp only [St.freeze,List.map_cons,List.map_nil,List.set,if_true,if_false,Nat.reduceEqDiff,reduceCtorEq,List.getD_cons_zero,froz_any,froz_und,froz_int,froz_bool,froz_str,froz_nils,froz_sl,froz_ia,froz_nilp,froz_nilif,froz_nilfn,froz_nilmp,froz_gl,froz_sref,froz_ptr,froz_agg,froz_tup,froz_fn,froz_ifc,frozs_nil,frozs_cons,froz_dead,froz_arr]
 ((refine W_seqR ?_);intro K hK;(refine sLe ?_))
 refine ⟨by kernel_rfl,?_⟩
 refine call_new 6 rfl rfl hn fun rows hr=>?_
 subst hr
 (refine sLe ?_;try exact True.intro)
 refine ⟨by kernel_rfl,?_⟩
 refine call_mut2C hd rfl rfl fun r rows' hr=>?_
 obtain ⟨rfl,hr⟩:=hr
 (refine sLe ?_;try exact True.intro)
 (refine hK _ ?_;clear hK K)
 refine W_ret ?_
 (refine qG ?_;try exact True.intro)
 rw [hr]
theorem sLh {G G':Prop} (h:G') (e:G=G':=by conv=>lhs;simp (disch:=omega) only [rowsOf,cNat,cN,St.ret,St.seth,Eff.app,Eff.wi,sepL,guardOf,St.known,objOf,List.set,sliceW,litW,copyW,lenOf,bnd,mxOk,ofCells,TI.isAgg,cellsOf,storable,AV.one,dead,laid,overlay,reduceCtorEq,Int.reduceLE,Int.reduceLT,Int.reduceSub,Int.reduceAdd,Nat.reduceMul,Int.reduceToNat,Nat.reducePow,Int.reduceNeg,Nat.reduceAdd,Nat.reduceLT,Nat.reduceLeDiff,sA,sB,cI,cZ,cQ,sT]):G:=e.mpr h
theorem sLhV {G G':Prop} (h:G') (e:G=G':=by conv=>lhs;simp (disch:=omega) only [rowsOf,cNat,cN,St.ret,St.seth,Eff.app,Eff.wi,sepL,guardOf,St.known,objOf,List.set,sliceW,litW,copyW,lenOf,bnd,mxOk,ofCells,TI.isAgg,cellsOf,storable,AV.one,dead,laid,overlay,reduceCtorEq,Int.reduceLE,Int.reduceLT,Int.reduceSub,Int.reduceAdd,Nat.reduceMul,Int.reduceToNat,Nat.reducePow,Int.reduceNeg,Nat.reduceAdd,Nat.reduceLT,Nat.reduceLeDiff,sA,sB,cI,cZ,cQ,sT,view_sref,viewRef,view_agg,views_cons,views_nil,view_bool,view_int,view_sl,view_nils,view_str,view_tup,view_nilif]):G:=e.mpr h
theorem aLh {G G':Prop} (h:G') (f:Wr G'→G:=by intro h;(repeat (first|(refine W_seqV fun K hK=>?_;(try (refine sLh ?_;try exact True.intro));(repeat refine aI ?_);refine hK _ ?_;clear hK K)|(refine W_seqR fun K hK=>?_;(try (refine sLh ?_;try exact True.intro));(repeat refine aI ?_);refine hK _ ?_;clear hK K)|(refine W_seqD mixed [] (by kernel_rfl) fun K hK=>?_;(try (refine sLh ?_;try exact True.intro));(repeat refine aI ?_);refine hK _ ?_;clear hK K)));exact h.out):G:=f ⟨h⟩
theorem rneg_ok (r:RR) (hr:r.ok):Pure Tryz.prog 135 [r.av] (·=cQ (-r.v)):=by
 have hn:=rnorm_ok r hr
 have ho:=v_ok hr
 have hw:=wneg_ok (decide (r.v.num<0)) (limbs r.v.num.natAbs) (limbs_limbs _) (Nat.lt_trans ho.nl (by decide))
 rw [q_num] at hw
 obtain ⟨neg,n,d⟩:=r
 simp only [RR.av] at *
 generalize RR.v _=q at *
 have hq:cQ (-q) = .agg [.bool (decide (-q.num<0)),.sl (u32s (limbs (-q.num).natAbs)),.sl (u32s (limbs q.den))]:=by
  simp only [cQ,Rat.neg_num,Rat.neg_den]
 rw [hq]
 simp only [cQ,cZ,cI] at *
 generalize -q.num=m at *
 (refine pureW Tryz.func135 rfl (rs:=[Go.ResultVar.cell 2 53]) rfl (n:=11) rfl ?_;simp only [List.length_cons,List.length_nil,List.replicate,List.cons_append,List.nil_append])
 (refine aLh ?_)
 ((refine W_seqV ?_);intro K hK;(refine sLh ?_))
 (refine ⟨by kernel_rfl,_,.pure rfl (hn),?_⟩;(try (refine sLh ?_)))
 (refine hK _ ?_;clear hK K)
 ((refine W_seqD mixed [] (by kernel_rfl) ?_);intro K hK;(refine sLh ?_))
 (refine ⟨by kernel_rfl,_,.pure rfl (hw),?_⟩;(try (refine sLh ?_)))
 (refine hK _ ?_;clear hK K)
 refine W_ret ?_
 (refine qG ?_;try exact True.intro);try (refine sLhV ?_;try exact True.intro)
theorem sLf {G G':Prop} (h:G') (e:G=G':=by conv=>lhs;simp (disch:=omega) only [rowsOf,cNat,cN,St.ret,St.seth,Eff.app,Eff.wi,sepL,guardOf,St.known,objOf,List.set,sliceW,litW,copyW,lenOf,bnd,mxOk,ofCells,TI.isAgg,cellsOf,storable,AV.one,dead,laid,overlay,reduceCtorEq,Int.reduceLE,Int.reduceLT,Int.reduceSub,Int.reduceAdd,Nat.reduceMul,Int.reduceToNat,Nat.reducePow,Int.reduceNeg,Nat.reduceAdd,Nat.reduceLT,Nat.reduceLeDiff,sA,sB,cQ,rowQ,rowM,tab_length,List.take_length,List.length_append,tab_drop,tab_take,tab_append,tab_nil,rowQ_all,rowQ_one,rowQ_pure,rowM_all,rowM_one,rowM_pure,sT]):G:=e.mpr h
theorem sLfX {G G' P:Prop} (p:P) (h:G') (e:P→G=G':=by intro p;conv=>lhs;simp (disch:=omega) only [rowsOf,cNat,cN,St.ret,St.seth,Eff.app,Eff.wi,sepL,guardOf,St.known,objOf,List.set,sliceW,litW,copyW,lenOf,bnd,mxOk,ofCells,TI.isAgg,cellsOf,storable,AV.one,dead,laid,overlay,reduceCtorEq,Int.reduceLE,Int.reduceLT,Int.reduceSub,Int.reduceAdd,Nat.reduceMul,Int.reduceToNat,Nat.reducePow,Int.reduceNeg,Nat.reduceAdd,Nat.reduceLT,Nat.reduceLeDiff,sA,sB,cQ,rowQ,rowM,tab_length,List.take_length,List.length_append,tab_drop,tab_take,tab_append,tab_nil,rowQ_all,rowQ_one,rowQ_pure,rowM_all,rowM_one,rowM_pure,sT,p]):G:=(e p).mpr h
theorem sLfV {G G':Prop} (h:G') (e:G=G':=by conv=>lhs;simp (disch:=omega) only [rowsOf,cNat,cN,St.ret,St.seth,Eff.app,Eff.wi,sepL,guardOf,St.known,objOf,List.set,sliceW,litW,copyW,lenOf,bnd,mxOk,ofCells,TI.isAgg,cellsOf,storable,AV.one,dead,laid,overlay,reduceCtorEq,Int.reduceLE,Int.reduceLT,Int.reduceSub,Int.reduceAdd,Nat.reduceMul,Int.reduceToNat,Nat.reducePow,Int.reduceNeg,Nat.reduceAdd,Nat.reduceLT,Nat.reduceLeDiff,sA,sB,cQ,rowQ,rowM,tab_length,List.take_length,List.length_append,tab_drop,tab_take,tab_append,tab_nil,rowQ_all,rowQ_one,rowQ_pure,rowM_all,rowM_one,rowM_pure,sT,view_sref,viewRef,view_agg,views_cons,views_nil,view_bool,view_int,view_sl,view_nils,view_str,view_tup,view_nilif]):G:=e.mpr h
theorem aLf {G G':Prop} (h:G') (f:Wr G'→G:=by intro h;(repeat (first|(refine W_seqV fun K hK=>?_;(try (refine sLf ?_;try exact True.intro));(repeat refine aI ?_);refine hK _ ?_;clear hK K)|(refine W_seqR fun K hK=>?_;(try (refine sLf ?_;try exact True.intro));(repeat refine aI ?_);refine hK _ ?_;clear hK K)|(refine W_seqD mixed [] (by kernel_rfl) fun K hK=>?_;(try (refine sLf ?_;try exact True.intro));(repeat refine aI ?_);refine hK _ ?_;clear hK K)));exact h.out):G:=f ⟨h⟩
def affM (f:List (Int × RR)) (r:RR):List AV:=[.sl (tab rowM f),.bool r.neg,.sl (u32s r.num),.sl (u32s r.den)]
def affQ (f:List (Int × Rat)) (q:Rat):List AV:=[.sl (tab rowQ f),.bool (decide (q.num<0)),.sl (u32s (limbs q.num.natAbs)),.sl (u32s (limbs q.den))]
theorem lplus_ok (f:List (Int × RR)) (r c:RR) (g:List (Int × RR)) (s:RR) {B C:Nat} (hf:FOk f B) (hg:FOk g C) (hr:r.ok) (hc:c.ok) (hs:s.ok) (h1:B+(nb c.v+C)<8589934592) (h2:nb c.v+nb s.v<17179869184) :
  Pure Tryz.prog 134 [.agg (affM f r),c.av,.agg (affM g s)] (· = .agg (affQ (normF (vals f++if c.v=0 then [] else scaleF c.v (normF (vals g)))) (r.v+c.v*s.v))):=by
 have a1:=lscale_ok c g hc hg (by omega)
 have hsz:Sz (if c.v=0 then [] else scaleF c.v (normF (vals g))) (nb c.v+C):=by
  split
  ·exact ⟨fun v=>by simp [nbv],by simp⟩
  ·exact Sz.scale (NF.norm _) hg.sz.norm c.v
 have a2:=ladd_ok f (rf (if c.v=0 then [] else scaleF c.v (normF (vals g)))) hf (FOk.rf hsz (by omega)) (by omega)
 rw [vals_rf,cF_rf] at a2
 have a3:=rmul_ok c s hc hs
 have a4:=radd_ok r (qr (c.v*s.v)) hr (qr_ok (by have:=nb_mul c.v s.v;omega))
 rw [qr_v,qr_av] at a4
 generalize normF (vals f++_)=R at *
 generalize (if c.v=0 then [] else _)=G at *
 generalize r.v+c.v*s.v=p at *
 generalize c.v*s.v=q at *
 obtain ⟨rn,rm,rd⟩:=r
 obtain ⟨cn,cm,cd⟩:=c
 obtain ⟨sn,sm,sd⟩:=s
 unfold affM affQ
 simp only [RR.av,cF,cL,cQ] at *
 (refine pureW Tryz.func134 rfl (rs:=[Go.ResultVar.cell 6 121]) rfl (n:=22) rfl ?_;simp only [List.length_cons,List.length_nil,List.replicate,List.cons_append,List.nil_append])
 (refine aLf ?_)
 ((refine W_seqD mixed [] (by kernel_rfl) ?_);intro K hK;(refine sLf ?_))
 (refine ⟨by kernel_rfl,_,.pure rfl (a1),?_⟩;(try (refine sLf ?_)))
 (refine ⟨by kernel_rfl,_,.pure rfl (a2),?_⟩;(try (refine sLf ?_)))
 (refine ⟨by kernel_rfl,_,.pure rfl (a3),?_⟩;(try (refine sLf ?_)))
 (refine ⟨by kernel_rfl,_,.pure rfl (a4),?_⟩;(try (refine sLf ?_)))
 (refine hK _ ?_;clear hK K)
 refine W_ret ?_
 (refine qG ?_;try exact True.intro);try (refine sLfV ?_;try exact True.intro)
theorem norm_nil_del (l:List (Int × Rat)) (v:Int) (c:Rat) (h:NF l):normF (([]:List (Int × Rat))++if c=0 then [] else scaleF c (normF (delF l v)))=if c=0 then [] else scaleF c (delF l v):=by
 have hd:NF (delF l v):=⟨h.lt.filter _,fun p hp=>h.nz p (List.mem_filter.1 hp).1⟩
 rw [List.nil_append,norm_self hd]
 split
 ·rfl
 ·rename_i h0;exact norm_self (hd.scale h0)
theorem delF_sz {l:List (Int × Rat)} {B:Nat} (h:Sz l B) (v:Int):Sz (delF l v) B:=by
 refine ⟨fun w=>?_,Nat.le_trans (delF_len l v) h.l⟩
 refine Nat.le_trans ?_ (h.b w)
 unfold delF
 induction l with
 | nil=>exact Nat.le_refl _
 | cons p l ih =>
  have ih:=ih ⟨fun w=>by have:=h.b w;simp only [nbv] at this;omega,by have:=h.l;simp at this;omega⟩
  rw [List.filter_cons]
  split
  ·simp only [nbv];omega
  ·simp only [nbv];omega
theorem lsolve_ok (f:List (Int × RR)) (v:Int) {B:Nat} (hf:FOk f B) (hB:4*B<4294967296) (h0:coef (vals f) v≠0) :
  Pure Tryz.prog 94 [.agg (affM f zeroR),.int .i64 v] (· = .tup [.agg (affQ (scaleF (-(coef (vals f) v)⁻¹) (delF (normF (vals f)) v)) 0),.int .i64 0]):=by
 have b0:=lcoef_ok f v (hf.pf (by omega)) (by omega)
 have hnc:nb (coef (vals f) v)≤1+B:=(hf.pf (by omega)).coef v
 have b1:=rinv_ok (qr (coef (vals f) v)) (qr_ok (by omega))
 rw [qr_v,if_neg h0] at b1
 have b2:=rneg_ok (qr (coef (vals f) v)⁻¹) (qr_ok (by rw [nb_inv];omega))
 rw [qr_v] at b2
 have b3:=lwithout_ok f v hf (by omega)
 have hNF:=NF.norm (vals f)
 have hsz:=hf.sz.norm
 have hc0 : -(coef (vals f) v)⁻¹≠0:=fun h=>h0 (by
  have h1:(coef (vals f) v)⁻¹=0:=by grind
  have:=Rat.inv_inv (coef (vals f) v)
  rw [h1,Rat.inv_zero] at this
  exact this.symm)
 have b4:=lplus_ok [] zeroR (qr (-(coef (vals f) v)⁻¹)) (rf (delF (normF (vals f)) v)) zeroR (B:=0) (C:=B) ⟨by simp,⟨fun v=>by simp [vals,nbv],by simp [vals]⟩⟩ (FOk.rf (delF_sz hsz v) (by omega)) zeroR_ok (qr_ok (by rw [nb_neg,nb_inv];omega)) zeroR_ok (by rw [qr_v,nb_neg,nb_inv];omega) (by rw [qr_v,nb_neg,nb_inv,zeroR_v,nb_zero];omega)
 rw [qr_v,vals_rf,show vals []=[] from rfl,norm_nil_del _ _ _ hNF,if_neg hc0,zeroR_v,Rat.mul_zero,Rat.add_zero] at b4
 generalize scaleF (-(coef (vals f) v)⁻¹) (delF (normF (vals f)) v)=R at *
 generalize delF (normF (vals f)) v=D at *
 generalize -(coef (vals f) v)⁻¹=d at *
 generalize (coef (vals f) v)⁻¹=ci at *
 generalize coef (vals f) v=c at *
 have hz:((0:Int) != 0)=false:=rfl
 have hz0:u32s []=[]:=rfl
 simp only [affM,affQ,zeroR,RR.av,cF,cL,cQE,qr,tab_rf,hz0] at *
 generalize (0:Rat)=z0 at *
 simp only [cQ] at *
 have hz1:tab rowM []=[]:=rfl
 rw [hz1] at b4
 (refine pureW Tryz.func94 rfl (rs:=[Go.ResultVar.cell 4 121,Go.ResultVar.tmp 5]) rfl (n:=30) rfl ?_;simp only [List.length_cons,List.length_nil,List.replicate,List.cons_append,List.nil_append])
 (refine aLf ?_)
 ((refine W_seqV ?_);intro K hK;(refine sLf ?_))
 (refine ⟨by kernel_rfl,_,.pure rfl (b0),?_⟩;(try (refine sLf ?_)))
 (refine ⟨by kernel_rfl,_,.pure rfl (b1),?_⟩;(try (refine sLf ?_)))
 (refine hK _ ?_;clear hK K)
 refine W_seq ?_
 ((refine W_seqV ?_);intro K hK;(refine sLfX hz ?_))
 (refine hK _ ?_;clear hK K)
 (refine W_cf rfl ?_)
 refine W_skip ?_
 simp only [thenW]
 ((refine W_seqD mixed [] (by kernel_rfl) ?_);intro K hK;(refine sLf ?_))
 (refine ⟨by kernel_rfl,_,.pure rfl (b2),?_⟩;(try (refine sLf ?_)))
 (refine ⟨by kernel_rfl,_,.pure rfl (b3),?_⟩;(try (refine sLf ?_)))
 (refine ⟨by kernel_rfl,_,.pure rfl (b4),?_⟩;(try (refine sLf ?_)))
 (refine hK _ ?_;clear hK K)
 refine W_ret ?_
 (refine qG ?_;try exact True.intro);try (refine sLfV ?_;try exact True.intro)
structure BB where
 has:Bool
 at_:DD
 why:Int
def BB.cells (b:BB):List AV:=[.bool b.has,.bool b.at_.a.neg,.sl (u32s b.at_.a.num),.sl (u32s b.at_.a.den),.bool b.at_.b.neg,.sl (u32s b.at_.b.num),.sl (u32s b.at_.b.den),.int .i64 b.why]
structure LL where
 lower:BB
 upper:BB
def LL.cells (l:LL):List AV:=[.bool l.lower.has,.bool l.lower.at_.a.neg,.sl (u32s l.lower.at_.a.num),.sl (u32s l.lower.at_.a.den),.bool l.lower.at_.b.neg,.sl (u32s l.lower.at_.b.num),.sl (u32s l.lower.at_.b.den),.int .i64 l.lower.why,
 .bool l.upper.has,.bool l.upper.at_.a.neg,.sl (u32s l.upper.at_.a.num),.sl (u32s l.upper.at_.a.den),.bool l.upper.at_.b.neg,.sl (u32s l.upper.at_.b.num),.sl (u32s l.upper.at_.b.den),.int .i64 l.upper.why]
def zeroD0:DD:=⟨zeroR,zeroR⟩
def zeroB:BB:=⟨false,zeroD0,0⟩
def zeroL:LL:=⟨zeroB,zeroB⟩
instance:Inhabited LL:=⟨zeroL⟩
def rowL (l:LL):List AV:=l.cells
theorem rowL_all (f:List LL):AllLen 16 (tab rowL f):=tab_all (k:=16) (fun _=>rfl) f
theorem rowL_one (f:List LL):AllOne (tab rowL f):=tab_one (fun _=>rfl) f
theorem rowL_pure (f:List LL):AllPure (tab rowL f):=tab_pure (fun _=>rfl) f
def limOf (ls:List LL) (v:Int):LL:=if 0≤v∧v<(ls.length:Int) then ls.getD v.toNat default else zeroL
def pickB (u:Bool) (c:Rat) (l:LL):BB:=if (decide (0<rs c) == u)=true then l.upper else l.lower
def sideF (u:Bool) (ls:List LL):AV := .fn (.func (if u then 184 else 183)) [.agg [.sl (tab rowL ls)]] []
abbrev TR:=List (Int × List (Int × RR))
abbrev TM:=List (Int × List (Int × Rat))
def rowT (r:Int × List (Int × RR)):List AV:=[.int .i64 r.1,.sl (tab rowM r.2)]
def rowU (r:Int × List (Int × Rat)):List AV:=[.int .i64 r.1,.sl (tab rowQ r.2)]
def cT (n:Int) (t:TR):AV := .agg [.int .i64 n,.sl (tab rowT t)]
def cU (n:Int) (M:TM):AV := .agg [.int .i64 n,.sl (tab rowU M)]
theorem rowT_all (f:TR):AllLen 2 (tab rowT f):=tab_all (k:=2) (fun _=>rfl) f
theorem rowT_one (f:TR):AllOne (tab rowT f):=tab_one (fun _=>rfl) f
theorem rowT_pure (f:TR):AllPure (tab rowT f):=tab_pure (fun _=>rfl) f
theorem rowU_all (f:TM):AllLen 2 (tab rowU f):=tab_all (k:=2) (fun _=>rfl) f
theorem rowU_one (f:TM):AllOne (tab rowU f):=tab_one (fun _=>rfl) f
theorem rowU_pure (f:TM):AllPure (tab rowU f):=tab_pure (fun _=>rfl) f
def nrmT (t:TR):TM:=t.map fun r=>(r.1,normF (vals r.2))
def keys {α:Type} (M:List (Int × α)):List Int:=M.map (·.1)
theorem keys_len {α:Type} (M:List (Int × α)):(keys M).length=M.length:=by simp [keys]
theorem keys_append {α:Type} (M N:List (Int × α)):keys (M++N)=keys M++keys N:=by simp [keys]
theorem nrmT_len (t:TR):(nrmT t).length=t.length:=by simp [nrmT]
theorem nrmT_getD {t:TR} {i:Nat} (h:i<t.length):(nrmT t).getD i default=((t.getD i default).1,normF (vals (t.getD i default).2)):=by
 simp [nrmT,List.getD_eq_getElem?_getD,h]
theorem take_snoc {α:Type} [Inhabited α] {l:List α} {i:Nat} (h:i<l.length):l.take (i+1)=l.take i++[l.getD i default]:=by
 rw [List.take_succ_eq_append_getElem h]
 simp [List.getD_eq_getElem?_getD,h]
theorem getD_mem {α:Type} [Inhabited α] {l:List α} {i:Nat} (h:i<l.length):l.getD i default∈l:=by
 simp [List.getD_eq_getElem?_getD,h]
theorem mem_getD {α:Type} [Inhabited α] {l:List α} {x:α} (h:x∈l):∃ i,i<l.length∧l.getD i default=x:=by
 obtain ⟨i,hi,he⟩:=List.getElem_of_mem h
 exact ⟨i,hi,by simp [List.getD_eq_getElem?_getD,hi,he]⟩
def inR (n v:Int):Bool:=decide (0≤v)&&decide (v<n)
theorem inR_iff {n v:Int}:inR n v=true↔0≤v∧v<n:=by simp [inR]
def keysOk (n:Int) (l:List Int):Bool:=decide l.Nodup&&l.all (inR n)
def formOk (n:Int) (K:List Int) (f:List (Int × Rat)):Bool:=f.all fun p=>inR n p.1&&!K.contains p.1
def goodB (n:Int) (M:TM):Bool:=decide (0≤n)&&decide (n≤65536)&&keysOk n (keys M)&&M.all fun r=>formOk n (keys M) r.2
structure GT (n:Int) (M:TM):Prop where
 lo:0≤n
 hi:n≤65536
 nodup:(keys M).Nodup
 range:∀ b∈keys M,0≤b∧b<n
 free:∀ r∈M,∀ p∈r.2,(0≤p.1∧p.1<n)∧p.1∉keys M
theorem gt_iff {n:Int} {M:TM}:goodB n M=true↔GT n M:=by
 simp only [goodB,keysOk,formOk,Bool.and_eq_true,decide_eq_true_eq,List.all_eq_true,inR_iff,Bool.not_eq_true',List.contains_iff_mem,Bool.eq_false_iff,ne_eq]
 constructor
 ·rintro ⟨⟨⟨h1,h2⟩,h3,h4⟩,h5⟩
  exact ⟨h1,h2,h3,h4,h5⟩
 ·rintro ⟨h1,h2,h3,h4,h5⟩
  exact ⟨⟨⟨h1,h2⟩,h3,h4⟩,h5⟩
def idxM (M:TM) (k:Int):Option Nat:=M.findIdx? fun r=>r.1 == k
def lookM (M:TM) (k:Int):Option (List (Int × Rat)):=(M.find? fun r=>r.1 == k).map (·.2)
theorem idx_none {M:TM} {k:Int} (h:idxM M k=none):k∉keys M∧lookM M k=none:=by
 unfold idxM at h
 rw [List.findIdx?_eq_none_iff] at h
 constructor
 ·intro hk
  simp only [keys,List.mem_map] at hk
  obtain ⟨r,hr,rfl⟩:=hk
  have:=h r hr
  simp at this
 ·unfold lookM
  rw [List.find?_eq_none.2 fun r hr=>by rw [h r hr];simp]
  rfl
theorem idx_some {M:TM} {k:Int} {j:Nat} (h:idxM M k=some j):j<M.length∧(M.getD j default).1=k∧lookM M k=some (M.getD j default).2∧k∈keys M:=by
 unfold idxM at h
 have h1:=List.findIdx?_eq_some_iff_getElem.1 h
 obtain ⟨h2,h3,h4⟩:=h1
 have h5:M.getD j default=M[j]:=by simp [List.getD_eq_getElem?_getD,h2]
 have h6:(M[j]).1=k:=by simpa using h3
 refine ⟨h2,by rw [h5];exact h6,?_,by rw [← h6];exact List.mem_map.2 ⟨_,List.getElem_mem h2,rfl⟩⟩
 unfold lookM
 have hf:M.find? (fun r=>r.1 == k)=some (M[j]):=List.find?_eq_some_iff_getElem.2 ⟨h3,j,h2,rfl,fun i hi=>by simpa using h4 i hi⟩
 rw [hf,h5]
 rfl
theorem look_mem {M:TM} {k:Int} {g:List (Int × Rat)} (h:lookM M k=some g):(k,g)∈M:=by
 unfold lookM at h
 cases hf:M.find? fun r=>r.1 == k with
 | none=>rw [hf] at h;cases h
 | some r =>
  rw [hf] at h
  cases h
  have h1:=List.mem_of_find?_eq_some hf
  have h2:=List.find?_some hf
  simp at h2
  rw [← h2]
  exact h1
theorem look_of {M:TM} (hn:(keys M).Nodup) {k:Int} {g:List (Int × Rat)} (h:(k,g)∈M):lookM M k=some g:=by
 induction M with
 | nil=>cases h
 | cons r M ih =>
  simp only [keys,List.map_cons,List.nodup_cons] at hn
  unfold lookM
  rw [List.find?_cons]
  rcases List.mem_cons.1 h with rfl | h1
  ·simp
  ·have:(r.1 == k)=false:=by
    rw [beq_eq_false_iff_ne]
    rintro rfl
    exact hn.1 (List.mem_map.2 ⟨_,h1,rfl⟩)
   rw [this]
   exact ih hn.2 h1
theorem look_none {M:TM} {k:Int} (h:k∉keys M):lookM M k=none:=by
 unfold lookM
 rw [List.find?_eq_none.2 fun r hr=>?_]
 ·rfl
 ·simp only [beq_iff_eq]
  rintro rfl
  exact h (List.mem_map.2 ⟨_,hr,rfl⟩)
theorem look_mem_keys {M:TM} {k:Int} {g:List (Int × Rat)} (h:lookM M k=some g):k∈keys M:=List.mem_map.2 ⟨_,look_mem h,rfl⟩
def sortK (l:List Int):List Int:=l.mergeSort fun x y=>decide (x≤y)
def sortM (M:TM):TM:=(sortK (keys M)).map fun b=>(b,(lookM M b).getD [])
theorem sortK_perm (l:List Int):(sortK l).Perm l:=List.mergeSort_perm _ _
theorem sortK_le (l:List Int):(sortK l).Pairwise (·≤·):=by
 have:=List.pairwise_mergeSort (le:=fun x y:Int=>decide (x≤y)) (fun a b c h1 h2=>by simp at *;omega) (fun a b=>by simp;omega) l
 exact this.imp fun h=>by simpa using h
theorem sorted_ext {l m:List Int} (h:l.Perm m) (hl:l.Pairwise (·≤·)) (hm:m.Pairwise (·≤·)):l=m :=
 List.Perm.eq_of_pairwise (fun a b _ _ h1 h2=>by omega) hl hm h
theorem sortK_of {l m:List Int} (h:l.Perm m):sortK l=sortK m :=
 sorted_ext ((sortK_perm l).trans (h.trans (sortK_perm m).symm)) (sortK_le l) (sortK_le m)
theorem sortK_lt {l:List Int} (h:l.Nodup):(sortK l).Pairwise (·<·):=by
 have h1:=sortK_le l
 have h2:(sortK l).Nodup:=(sortK_perm l).nodup_iff.2 h
 exact (h1.and h2).imp fun ⟨h,h'⟩=>by omega
theorem sortK_len (l:List Int):(sortK l).length=l.length:=(sortK_perm l).length_eq
theorem mem_sortK {l:List Int} {x:Int}:x∈sortK l↔x∈l:=(sortK_perm l).mem_iff
theorem sortM_len (M:TM):(sortM M).length=M.length:=by simp [sortM,sortK_len,keys_len]
theorem sortM_perm {M:TM} (hn:(keys M).Nodup):(sortM M).Perm M:=by
 have h1:(sortM M).Perm ((keys M).map fun b=>(b,(lookM M b).getD [])):=(sortK_perm _).map _
 refine h1.trans ?_
 have:(keys M).map (fun b=>(b,(lookM M b).getD []))=M:=by
  unfold keys
  rw [List.map_map]
  refine (List.map_congr_left fun r hr=>?_).trans (List.map_id M)
  simp only [Function.comp]
  rw [look_of hn (g:=r.2) hr]
  rfl
 rw [this]
theorem GT.perm {n:Int} {M N:TM} (h:GT n M) (hp:M.Perm N):GT n N:=by
 have hk:(keys M).Perm (keys N):=hp.map _
 exact ⟨h.lo,h.hi,hk.nodup_iff.1 h.nodup,fun b hb=>h.range b (hk.mem_iff.2 hb),fun r hr p hp'=>⟨(h.free r (hp.mem_iff.2 hr) p hp').1,fun hm=>(h.free r (hp.mem_iff.2 hr) p hp').2 (hk.mem_iff.2 hm)⟩⟩
def putF (f:List (Int × Rat)) (v:Int) (g:List (Int × Rat)):List (Int × Rat):=normF (delF (normF f) v++if coef f v=0 then [] else scaleF (coef f v) (normF g))
theorem coef_del (l:List (Int × Rat)) (v x:Int):coef (delF l v) x=if x=v then 0 else coef l x:=by
 induction l with
 | nil=>simp [delF,coef]
 | cons p l ih =>
  unfold delF at ih ⊢
  rw [List.filter_cons]
  by_cases hp:p.1=v
  ·simp only [hp,beq_self_eq_true,Bool.not_true,Bool.false_eq_true,if_false,ih,coef]
   by_cases hx:x=v
   ·simp [hx]
   ·rw [if_neg hx,if_neg hx,if_neg (by omega),Rat.zero_add]
  ·have:(!(p.1 == v))=true:=by simp [hp]
   simp only [this,if_true,coef,ih]
   by_cases hx:x=v
   ·subst hx
    rw [if_neg hp,if_pos rfl,if_pos rfl,Rat.zero_add]
   ·rw [if_neg hx,if_neg hx]
theorem coef_nil (x:Int):coef [] x=0:=rfl
theorem coef_ifscale (c:Rat) (g:List (Int × Rat)) (x:Int):coef (if c=0 then [] else scaleF c g) x=c*coef g x:=by
 split
 ·rename_i h;rw [h,coef_nil,Rat.zero_mul]
 ·rw [coef_scale]
theorem coef_put (f:List (Int × Rat)) (v:Int) (g:List (Int × Rat)) (x:Int):coef (putF f v g) x=(if x=v then 0 else coef f x)+coef f v*coef g x:=by
 unfold putF
 rw [coef_norm,coef_append,coef_del,coef_norm,coef_ifscale,coef_norm]
theorem NF.put (f:List (Int × Rat)) (v:Int) (g:List (Int × Rat)):NF (putF f v g):=NF.norm _
theorem Sz.put {f g:List (Int × Rat)} {B C:Nat} (hf:Sz f B) (hg:Sz g C) (v:Int):Sz (putF f v g) (B+(nb (coef f v)+C)):=by
 unfold putF
 refine Sz.norm (Sz.append (delF_sz hf.norm v) ?_)
 split
 ·exact ⟨fun v=>by simp [nbv],by simp⟩
 ·exact (hg.norm).scale (NF.norm g) _
def exprP (M:TM) (f:List (Int × Rat)) (vs:List Int) (h:List (Int × Rat)):List (Int × Rat) :=
 vs.foldl (fun h v=>match lookM M v with | some g=>putF h v g | none=>h) h
def sumM (c:Int→Rat) (x:Int):TM→Rat
 | []=>0
 | r::M=>c r.1*coef r.2 x+sumM c x M
structure Expr (M:TM) (f e:List (Int × Rat)):Prop where
 nf:NF e
 co:∀ x,coef e x=(if x∈keys M then 0 else coef f x)+sumM (coef f) x M
theorem Expr.ext {M:TM} {f d e:List (Int × Rat)} (h:Expr M f d) (h':Expr M f e):d=e:=NF.ext h.nf h'.nf fun v=>(h.co v).trans (h'.co v).symm
theorem sumM_zero (c:Int→Rat) (x:Int):∀ M:TM,(∀ r∈M,c r.1=0∨coef r.2 x=0)→sumM c x M=0
 | [],_=>rfl
 | r::M,h=>by
  rw [sumM,sumM_zero c x M fun q hq=>h q (List.mem_cons_of_mem _ hq)]
  rcases h r List.mem_cons_self with h | h <;> rw [h] <;> simp [Rat.zero_mul,Rat.mul_zero,Rat.add_zero]
theorem sumM_congr {c d:Int→Rat} (x:Int):∀ M:TM,(∀ b∈keys M,c b=d b)→sumM c x M=sumM d x M
 | [],_=>rfl
 | r::M,h=>by
  rw [sumM,sumM,sumM_congr x M fun b hb=>h b (by simp only [keys,List.map_cons,List.mem_cons];exact .inr hb),h r.1 (by simp [keys])]
theorem sumM_ins {c d:Int→Rat} (x:Int) {v:Int} {g:List (Int × Rat)}:∀ M:TM,(keys M).Nodup→(v,g)∈M→(∀ b,b≠v→d b=c b)→c v=0→sumM d x M=sumM c x M+d v*coef g x
 | [],_,h,_,_=>by cases h
 | r::M,hn,h,hd,hc=>by
  simp only [keys,List.map_cons,List.nodup_cons] at hn
  rw [sumM,sumM]
  rcases List.mem_cons.1 h with rfl | h
  ·rw [sumM_congr (c:=d) (d:=c) x M fun b hb=>hd b fun he=>hn.1 (he ▸ hb),hc]
   grind
  ·have hr:r.1≠v:=fun he=>hn.1 (List.mem_map.2 ⟨_,h,he.symm⟩)
   rw [sumM_ins x M hn.2 h hd hc,hd _ hr]
   grind
theorem free_coef {n:Int} {M:TM} (h:GT n M) {r:Int × List (Int × Rat)} (hr:r∈M) {b:Int} (hb:b∈keys M):coef r.2 b=0 :=
 coef_none fun p hp he=>(h.free r hr p hp).2 (he ▸ hb)
theorem sumM_basic {n:Int} {M:TM} (h:GT n M) (c:Int→Rat) {b:Int} (hb:b∈keys M):sumM c b M=0:=sumM_zero c b M fun r hr => .inr (free_coef h hr hb)
theorem exprP_go {n:Int} {M:TM} (hg:GT n M) (f:List (Int × Rat)):∀ (vs dn:List Int) (h:List (Int × Rat)),NF h→vs.Nodup→(∀ v∈vs,v∉dn) →
  (∀ x,coef h x=(if x∈keys M∧x∈dn then 0 else coef f x)+sumM (fun b=>if b∈dn then coef f b else 0) x M) →
  NF (exprP M f vs h)∧∀ x,coef (exprP M f vs h) x=(if x∈keys M∧(x∈dn∨x∈vs) then 0 else coef f x)+sumM (fun b=>if b∈dn∨b∈vs then coef f b else 0) x M
 | [],dn,h,hn,_,_,hc=>⟨hn,fun x=>by simpa [exprP] using hc x⟩
 | v::vs,dn,h,hn,hv,hd,hc=>by
  rw [List.nodup_cons] at hv
  have hvd:v∉dn:=hd v List.mem_cons_self
  have key:NF (match lookM M v with | some g=>putF h v g | none=>h)∧∀ x,coef (match lookM M v with | some g=>putF h v g | none=>h) x=(if x∈keys M∧x∈v::dn then 0 else coef f x)+sumM (fun b=>if b∈v::dn then coef f b else 0) x M:=by
   cases hl:lookM M v with
   | none =>
    have hk:v∉keys M:=fun hk=>by
     obtain ⟨r,hr,rfl⟩:=List.mem_map.1 hk
     rw [look_of hg.nodup (g:=r.2) hr] at hl
     cases hl
    refine ⟨hn,fun x=>?_⟩
    dsimp only
    rw [hc x]
    congr 1
    ·by_cases hx:x=v
     ·subst hx;simp [hk]
     ·simp [hx]
    ·refine sumM_congr x M fun b hb=>?_
     have:b≠v:=fun he=>hk (he ▸ hb)
     simp [this]
   | some g =>
    have hm:=look_mem hl
    have hk:=look_mem_keys hl
    refine ⟨NF.put _ _ _,fun x=>?_⟩
    dsimp only
    have h1:coef h v=coef f v:=by
     rw [hc v,sumM_basic hg _ hk]
     simp [hvd,Rat.add_zero]
    rw [coef_put,h1]
    have h2:=sumM_ins (c:=fun b=>if b∈dn then coef f b else 0) (d:=fun b=>if b∈v::dn then coef f b else 0) x M hg.nodup hm (fun b hb=>by simp [hb]) (by simp [hvd])
    rw [h2]
    by_cases hx:x=v
    ·subst hx
     have h3:coef g x=0:=free_coef hg hm hk
     have h4:=sumM_basic hg (fun b=>if b∈dn then coef f b else 0) hk
     rw [h3,h4]
     simp [hk,Rat.add_zero,Rat.mul_zero]
    ·rw [if_neg hx,hc x]
     simp only [List.mem_cons,hx,false_or,true_or,if_true]
     grind
  obtain ⟨k1,k2⟩:=key
  have:=exprP_go hg f vs (v::dn) _ k1 hv.2 (fun w hw hm=>by
   rcases List.mem_cons.1 hm with rfl | hm
   ·exact hv.1 hw
   ·exact hd w (List.mem_cons_of_mem _ hw) hm) k2
  refine ⟨this.1,fun x=>?_⟩
  have h5:=this.2 x
  unfold exprP at h5 ⊢
  rw [List.foldl_cons,h5]
  congr 1
  ·simp only [List.mem_cons]
   grind
  ·refine sumM_congr x M fun b _=>?_
   simp only [List.mem_cons]
   grind
theorem exprP_ok {n:Int} {M:TM} (hg:GT n M) (f:List (Int × Rat)):Expr M f (exprP M f (keys (normF f)) (normF f)):=by
 have hnd:(keys (normF f)).Nodup:=by
  have:=(NF.norm f).lt
  unfold keys
  rw [List.Nodup,List.pairwise_map]
  exact this.imp fun h=>by omega
 have h:=exprP_go hg f (keys (normF f)) [] (normF f) (NF.norm f) hnd (by simp) fun x=>by
  rw [coef_norm,sumM_zero _ x M fun r _ => .inl (by simp)]
  simp [Rat.add_zero]
 refine ⟨h.1,fun x=>?_⟩
 rw [h.2 x]
 have hz:∀ b,b∉keys (normF f)→coef f b=0:=fun b hb=>by
  rw [← coef_norm]
  exact coef_none fun p hp he=>hb (List.mem_map.2 ⟨p,hp,he⟩)
 congr 1
 ·by_cases hx:x∈keys (normF f)
  ·simp [hx]
  ·simp [hx,hz x hx]
 ·refine sumM_congr x M fun b _=>?_
  by_cases hb:b∈keys (normF f)
  ·simp [hb]
  ·simp [hb,hz b hb]
def stepR (f out:List (Int × Rat)) (r:Int × List (Int × Rat)):List (Int × Rat):=normF (subF out [(r.1,coef f r.1)]++normF (scaleF (coef f r.1) r.2))
theorem coef_stepR (f out:List (Int × Rat)) (r:Int × List (Int × Rat)) (x:Int):coef (stepR f out r) x=coef out x-(if x=r.1 then coef f r.1 else 0)+coef f r.1*coef r.2 x:=by
 unfold stepR
 rw [coef_norm,coef_append,coef_sub,coef_norm,coef_scale]
 simp only [coef,Rat.add_zero]
 by_cases h:x=r.1
 ·rw [if_pos h,if_pos h.symm]
 ·rw [if_neg h,if_neg (Ne.symm h)]
theorem exprR_go (f:List (Int × Rat)):∀ (M:TM) (out:List (Int × Rat)),NF out→(keys M).Nodup→NF (M.foldl (stepR f) out)∧∀ x,coef (M.foldl (stepR f) out) x=coef out x-(if x∈keys M then coef f x else 0)+sumM (coef f) x M
 | [],out,h,_=>⟨h,fun x=>by simp [keys,sumM,Rat.add_zero];grind⟩
 | r::M,out,h,hn=>by
  simp only [keys,List.map_cons,List.nodup_cons] at hn
  have ih:=exprR_go f M (stepR f out r) (NF.norm _) hn.2
  refine ⟨ih.1,fun x=>?_⟩
  rw [List.foldl_cons,ih.2 x,coef_stepR,sumM]
  simp only [keys,List.map_cons,List.mem_cons]
  by_cases hx:x=r.1
  ·subst hx
   have:r.1∉M.map (·.1):=hn.1
   simp [this]
   grind
  ·simp only [hx,if_false,false_or]
   grind
theorem exprR_ok {M:TM} (hn:(keys M).Nodup) (f:List (Int × Rat)):Expr M f (M.foldl (stepR f) (normF f)):=by
 have h:=exprR_go f M (normF f) (NF.norm f) hn
 refine ⟨h.1,fun x=>?_⟩
 rw [h.2 x,coef_norm]
 split <;> grind
end Go.Proofs.YtjmpajgjaefcjaaGreat.Vm
