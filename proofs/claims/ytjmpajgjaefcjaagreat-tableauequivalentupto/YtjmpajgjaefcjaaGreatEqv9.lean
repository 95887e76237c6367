/-
  The law TableauEquivalent holds of the given program, for all arguments of bulk at most 1048576: no further conditions.
-/
import Derived.Test.YtjmpajgjaefcjaaGreatEqv8
import Derived.Orders
import Derived.Below
import Derived.Laws.AppendOwn
import Derived.Laws.MakeOwn
import Derived.Laws.CopyRow
import Derived.Laws.Rows
import Derived.Laws.Cells
import Derived.Tactics
import Derived.Laws.BitsLemmas
import Derived.Maps.Range
import Derived.Carry
import Derived.Test.YtjmpajgjaefcjaaGreatProg
import Derived.Sort.Row
import Derived.Sort.Grow
import Derived.Shelf.Sort.Plain
import Derived.Shelf.Slices.In.SortNone
import Derived.Ground.NamesProg
import Derived.Test.YtjmpajgjaefcjaaGreatRows
import Derived.WalkKit
import Derived.ProofKit
import Derived.OpenShut
import Derived.JoinedCond
set_option linter.unusedVariables false
set_option linter.unusedSimpArgs false
set_option maxRecDepth 100000

namespace Go.Proofs.YtjmpajgjaefcjaaGreat.Vm
open Go Go.RowKit
theorem sUg {G G':Prop} (h:G') (e:G=G':=by conv=>lhs;simp (disch:=omega) only [rowsOf,cNat,cN,St.ret,St.seth,Eff.app,Eff.wi,sepL,guardOf,St.known,objOf,List.set,sliceW,litW,copyW,lenOf,bnd,mxOk,ofCells,TI.isAgg,cellsOf,storable,AV.one,dead,laid,overlay,reduceCtorEq,Int.reduceLE,Int.reduceLT,Int.reduceSub,Int.reduceAdd,Nat.reduceMul,Int.reduceToNat,Nat.reducePow,Int.reduceNeg,Nat.reduceAdd,Nat.reduceLT,Nat.reduceLeDiff,sA,sB,Nat.reduceEqDiff,beq_self_eq_true,Int.reduceBEq,Int.reduceBNe,cQ,rowQ,rowU,rowT,rowM,i64s_getD,i64s_length,i64s_all,tab_length,tab_drop,tab_take,tab_append,tab_nil,rowT_all,rowT_one,rowT_pure,rowU_all,rowU_one,rowU_pure,rowQ_all,rowQ_one,rowQ_pure,rowM_all,rowM_one,rowM_pure,List.take_length,List.length_append,sT]):G:=e.mpr h
theorem sUgV {G G':Prop} (h:G') (e:G=G':=by conv=>lhs;simp (disch:=omega) only [rowsOf,cNat,cN,St.ret,St.seth,Eff.app,Eff.wi,sepL,guardOf,St.known,objOf,List.set,sliceW,litW,copyW,lenOf,bnd,mxOk,ofCells,TI.isAgg,cellsOf,storable,AV.one,dead,laid,overlay,reduceCtorEq,Int.reduceLE,Int.reduceLT,Int.reduceSub,Int.reduceAdd,Nat.reduceMul,Int.reduceToNat,Nat.reducePow,Int.reduceNeg,Nat.reduceAdd,Nat.reduceLT,Nat.reduceLeDiff,sA,sB,Nat.reduceEqDiff,beq_self_eq_true,Int.reduceBEq,Int.reduceBNe,cQ,rowQ,rowU,rowT,rowM,i64s_getD,i64s_length,i64s_all,tab_length,tab_drop,tab_take,tab_append,tab_nil,rowT_all,rowT_one,rowT_pure,rowU_all,rowU_one,rowU_pure,rowQ_all,rowQ_one,rowQ_pure,rowM_all,rowM_one,rowM_pure,List.take_length,List.length_append,sT,view_sref,viewRef,view_agg,views_cons,views_nil,view_bool,view_int,view_sl,view_nils,view_str,view_tup,view_nilif]):G:=e.mpr h
theorem aUg {G G':Prop} (h:G') (f:Wr G'→G:=by intro h;(repeat (first|(refine W_seqV fun K hK=>?_;(try (refine sUg ?_;try exact True.intro));(repeat refine aI ?_);refine hK _ ?_;clear hK K)|(refine W_seqR fun K hK=>?_;(try (refine sUg ?_;try exact True.intro));(repeat refine aI ?_);refine hK _ ?_;clear hK K)|(refine W_seqD mixed [] (by kernel_rfl) fun K hK=>?_;(try (refine sUg ?_;try exact True.intro));(repeat refine aI ?_);refine hK _ ?_;clear hK K)));exact h.out):G:=f ⟨h⟩
theorem lmono_ok (v c:Int) (h1 : -9223372036854775808≤c) (h2:c<9223372036854775808):Pure Tryz.prog 69 [.int .i64 v,.int .i64 c] (· = .agg (rowQ (v,(c:Rat)))):=by
 have a:=f3whole_ok c h1 h2
 simp only [rowQ,cQ] at *
 (refine pureW Tryz.func69 rfl (rs:=[Go.ResultVar.cell 4 55]) rfl (n:=9) rfl ?_;simp only [List.length_cons,List.length_nil,List.replicate,List.cons_append,List.nil_append])
 (refine aUg ?_)
 ((refine W_seqV ?_);intro K hK;(refine sUg ?_))
 (refine ⟨by kernel_rfl,_,.pure rfl (a),?_⟩;(try (refine sUg ?_)))
 (refine hK _ ?_;clear hK K)
 refine W_ret ?_
 (refine qG ?_;try exact True.intro);try (refine sUgV ?_;try exact True.intro)
theorem norm01:normF [(1,(1:Rat)),(0,1)]=[(0,1),(1,1)]:=by
 refine NF.ext (NF.norm _) (NF.cons (NF.cons NF.nil (by decide) (by simp)) (by decide) (by simp)) fun v=>?_
 rw [coef_norm]
 simp only [coef]
 grind
theorem expr_nil (f:List (Int × Rat)):exprT [] f=normF f:=by
 unfold exprT exprP
 have:∀ (l:List Int) (h:List (Int × Rat)),l.foldl (fun h v=>match lookM [] v with | some g=>putF h v g | none=>h) h=h:=by
  intro l
  induction l with
  | nil=>intro h;rfl
  | cons x l ih=>intro h;rw [List.foldl_cons];exact ih h
 exact this _ _
theorem lives_ok:Pure Tryz.prog 24 [] (· = .bool true):=by
 have a1:=tnew_ok 2
 have e1:newR 2 = .tup [.agg [.int .i64 2,.sl []],.int .i64 0]:=rfl
 rw [e1] at a1
 have m11:=lmono_ok 1 1 (by omega) (by omega)
 have m01:=lmono_ok 0 1 (by omega) (by omega)
 have h1e:((1:Int):Rat)=1:=rfl
 rw [h1e] at m11 m01
 have hfo:FormOk (rf [(1,(1:Rat)),(0,1)]):=by
  refine ⟨fun p hp=>?_,?_⟩
  ·obtain ⟨q,hq,rfl⟩:=List.mem_map.1 hp
   refine qr_ok ?_
   simp only [List.mem_cons,List.mem_nil_iff,or_false] at hq
   rcases hq with rfl | rfl <;> simp only [nb_one] <;> omega
  ·rw [vals_rf]
   simp only [nbs,nb_one]
   omega
 have hto:TOk []:=⟨by simp,by simp [tb]⟩
 have a2:=tdefine_ok 2 [] (rf [(1,(1:Rat)),(0,1)]) hto hfo
 have hg:goodB 2 []=true:=by decide
 have hn:nrmT []=[]:=rfl
 have e2:defV 2 [] (rf [(1,(1:Rat)),(0,1)]) = .tup [cU 3 [(2,[(0,1),(1,1)])],.int .i64 2,.int .i64 0]:=by
  unfold defV
  rw [hn,hg,vals_rf,expr_nil,norm01]
  have hk:knownB 2 [(0,(1:Rat)),(1,1)]=true:=by simp [knownB,inR]
  rw [hk]
  simp only [if_true]
  rw [if_neg (by omega),sortM_snoc (by simp [keys]) (by simp [keys]),show sortM []=[] by simp [sortM,sortK,keys]]
  rfl
 rw [e2] at a2
 have hts:TS (rfT [(2,[(0,(1:Rat)),(1,1)])]):=by
  refine MOk.ts (B:=100) ⟨fun r hr=>?_,fun r hr=>?_,by simp⟩ (by omega)
  ·simp at hr;subst hr
   exact NF.cons (NF.cons NF.nil (by decide) (by simp)) (by decide) (by simp)
  ·simp at hr;subst hr
   refine (Sz.of _).mono ?_
   simp only [nbs,nb_one]
   omega
 have a3:=lalike_ok 3 _ hts
 rw [cU_rf] at a3
 have ht0:tab rowT []=[]:=rfl
 have ht1:tab rowM (rf [(1,(1:Rat)),(0,1)])=[rowQ (1,1),rowQ (0,1)]:=by rw [tab_rf];rfl
 have ht2:tab rowU [(2,[(0,(1:Rat)),(1,1)])]=[[.int .i64 2,.sl [rowQ (0,1),rowQ (1,1)]]]:=rfl
 have q1:rowQ (1,(1:Rat))=[.int .i64 1,.bool (decide ((1:Rat).num<0)),.sl (u32s (limbs (1:Rat).num.natAbs)),.sl (u32s (limbs (1:Rat).den))]:=rfl
 have q0:rowQ (0,(1:Rat))=[.int .i64 0,.bool (decide ((1:Rat).num<0)),.sl (u32s (limbs (1:Rat).num.natAbs)),.sl (u32s (limbs (1:Rat).den))]:=rfl
 simp only [cT,cU,cF,ht0,ht1,ht2] at a2 a3
 rw [q1,q0] at a2 a3
 rw [q1] at m11
 rw [q0] at m01
 clear e1 e2 hfo hto hg hn hts ht0 ht1 ht2 q1 q0 h1e
 generalize (1:Rat)=one at *
 (refine pureW Tryz.func24 rfl (rs:=[Go.ResultVar.tmp 0]) rfl (n:=35) rfl ?_;simp only [List.length_cons,List.length_nil,List.replicate,List.cons_append,List.nil_append])
 (refine aUg ?_)
 ((refine W_seqV ?_);intro K hK;(refine sUg ?_))
 (refine ⟨by kernel_rfl,_,.pure rfl (a1),?_⟩;(try (refine sUg ?_)))
 (refine hK _ ?_;clear hK K)
 (repeat' (first | (exfalso;simp at h;done) | (refine W_seqV fun K hK=>?_;(try (refine sUg ?_));refine hK _ ?_;clear hK K) | refine W_skip ?_ | (refine W_cond rfl (fun h=>?_) (fun h=>?_) <;> (try simp only [cond_true,cond_false,ne_eq,cB] at h)) | refine W_seq ?_))
 ((refine W_regD mixed [] (by kernel_rfl) ?_);intro K hK;(refine sUg ?_))
 (refine ⟨by kernel_rfl,_,.pure rfl (m11),?_⟩;(try (refine sUg ?_)))
 (refine ⟨by kernel_rfl,_,.pure rfl (m01),?_⟩;(try (refine sUg ?_));(repeat refine aI ?_))
 (refine ⟨by kernel_rfl,_,.pure rfl (a2),?_⟩;(try (refine sUg ?_)))
 (refine hK _ ?_;clear hK K)
 ((refine W_seqD mixed [] (by kernel_rfl) ?_);intro K hK;(refine sUg ?_))
 (refine ⟨by kernel_rfl,_,.pure rfl (m01),?_⟩;(try (refine sUg ?_)))
 (refine ⟨by kernel_rfl,_,.pure rfl (m11),?_⟩;(try (refine sUg ?_));(repeat refine aI ?_))
 (refine ⟨by kernel_rfl,_,.pure rfl (a3),?_⟩;(try (refine sUg ?_)))
 (refine hK _ ?_;clear hK K)
 (repeat' (refine W_ret ?_;(refine qG ?_;try exact True.intro)))
theorem MOk.expr {M:TM} {n:Int} (hg:GT n M) {f:List (Int × RR)} (hx:ExOk M f) (hk:knownB n (normF (vals f))=true):NF (exprT M (vals f))∧Sz (exprT M (vals f)) 536936448:=by
 have hp:=exprP_preG hg hk hx (keys (normF (vals f))).length
 rw [List.take_length] at hp
 exact ⟨hp.1,hp.2.mono (by omega)⟩
theorem FormOk.len {f:List (Int × RR)} (h:FormOk f):f.length≤68157440:=by have:=nbs_len (vals f);have:=h.sz;rw [vals_length] at *;omega
theorem tb_of_foll {M:TM} (h:tb M≤68157440):∀ r∈M,Sz r.2 536870912:=fun r hr=>(Sz.of _).mono (by have:=tb_mem hr;omega)
theorem nbs_negF (f:List (Int × Rat)):nbs (negF f)≤3*nbs f:=by
 unfold negF scaleF
 induction f with
 | nil=>simp [nbs]
 | cons p f ih =>
  simp only [List.map_cons,nbs]
  have h1:=nb_mul (-1) p.2
  have h2:nb (-1:Rat)=2:=nb_m1
  have h3:=nb_pos p.2
  omega
theorem nbs_whole (b:Int) (f:List (Int × Rat)):nbs (wholeF b f)≤nbs f+6:=by
 unfold wholeF subF
 have h1:=nbs_norm (f++negF (normF [(b,1)]))
 have h2:=nbs_append f (negF (normF [(b,1)]))
 have h3:=nbs_negF (normF [(b,1)])
 have h4:=nbs_norm [(b,(1:Rat))]
 have h5:nbs [(b,(1:Rat))]=2:=by simp [nbs,nb_one]
 omega
theorem FollOk.of {M N:TM} (hn:(keys M).Nodup) (hM:tb M≤68157440) (hN:tb N≤68157440):FollOk M N :=
 ⟨tb_of_foll (by omega),fun r hr=>by
  have h1:=nbs_whole r.1 r.2
  have h2:=tb_mem hr
  have h3:vals (rf (wholeF r.1 r.2))=wholeF r.1 r.2:=vals_rf _
  refine ⟨FOk.rf ((Sz.of _).mono (by omega)) (by omega),fun r hr=>(Sz.of _).mono (by have:=tb_mem hr;omega),fun i x y c hc hy=>?_⟩
  rw [h3] at hc hy
  have:=nb_expr (keys_take hn i) (wholeF r.1 r.2) hc hy
  have:=tb_take M i
  omega⟩
def pivF (M:TM) (k:Nat) (o:Int) (g:List (Int × Rat)) (i:Nat):Int × List (Int × Rat):=if i=k then (o,g) else ((M.getD i default).1,putF (M.getD i default).2 o g)
theorem perm_erase {α:Type} {l:List α} {k:Nat} (h:k<l.length):l.Perm (l[k]::l.eraseIdx k):=by
 rw [List.eraseIdx_eq_take_drop_succ]
 have h1:l=l.take k++l[k]::l.drop (k+1):=by rw [← List.drop_eq_getElem_cons h,List.take_append_drop]
 exact (List.Perm.of_eq h1).trans List.perm_middle
structure Piv (n:Int) (M:TM) (k:Nat) (b o:Int):Prop where
 gt:GT n M
 nf:∀ r∈M,NF r.2
 hk:k<M.length
 kb:(M.getD k default).1=b
 ho:o∉keys M
 or:0≤o∧o<n
 nz:coef (M.getD k default).2 o≠0
section
variable {n:Int} {M:TM} {k:Nat} {b o:Int}
theorem Piv.bo (h:Piv n M k b o):b≠o:=fun he=>h.ho (by rw [← he,← h.kb];exact List.mem_map.2 ⟨_,getD_mem h.hk,rfl⟩)
theorem Piv.hb (h:Piv n M k b o):b∈keys M:=by rw [← h.kb];exact List.mem_map.2 ⟨_,getD_mem h.hk,rfl⟩
theorem Piv.rb (h:Piv n M k b o):coef (M.getD k default).2 b=0:=free_coef h.gt (getD_mem h.hk) h.hb
theorem Piv.whole (h:Piv n M k b o):coef (wholeF b (M.getD k default).2) o=coef (M.getD k default).2 o:=by
 rw [coef_whole,if_neg (Ne.symm h.bo)];grind
theorem Piv.g (h:Piv n M k b o) (x:Int):coef (solvF b (M.getD k default).2 o) x=if x=o then 0 else -(coef (M.getD k default).2 o)⁻¹*(coef (M.getD k default).2 x-if x=b then 1 else 0):=by
 unfold solvF
 rw [coef_scale,h.whole,coef_del,coef_whole]
 split <;> grind
theorem Piv.gn (h:Piv n M k b o):NF (solvF b (M.getD k default).2 o):=solv_nf (by rw [h.whole];exact h.nz)
theorem erase_mem (h:Piv n M k b o) {r:Int × List (Int × Rat)} (hr:r∈M.eraseIdx k):r∈M∧r.1≠b∧r.1≠o:=by
 have hm:=List.mem_of_mem_eraseIdx hr
 refine ⟨hm,fun he=>?_,fun he=>h.ho (by rw [← he];exact List.mem_map.2 ⟨_,hm,rfl⟩)⟩
 have h1:(keys (M.eraseIdx k))=(keys M).eraseIdx k:=by
  have:∀ (l:TM) (k:Nat),(l.eraseIdx k).map (·.1)=(l.map (·.1)).eraseIdx k:=by
   intro l
   induction l with
   | nil=>intro k;cases k <;> rfl
   | cons x l ih=>intro k;cases k with
    | zero=>rfl
    | succ k=>simp [ih]
  exact this M k
 have h2:b∈(keys M).eraseIdx k:=by rw [← h1,← he];exact List.mem_map.2 ⟨_,hr,rfl⟩
 have h3:k<(keys M).length:=by rw [keys_len];exact h.hk
 have h4:(keys M)[k]=b:=by
  simp only [keys,List.getElem_map]
  rw [← h.kb]
  simp [List.getD_eq_getElem?_getD,h.hk]
 have h5:=h.gt.nodup
 have h6:(keys M).Perm ((keys M)[k]::(keys M).eraseIdx k):=perm_erase h3
 have h7:=h6.nodup_iff.1 h5
 rw [List.nodup_cons,h4] at h7
 exact h7.1 h2
theorem Piv.pgt (h:Piv n M k b o):GT n (pivP M k o (solvF b (M.getD k default).2 o)):=by
 have hnd:=pivP_nodup h.gt.nodup h.ho (at_:=k) (g:=solvF b (M.getD k default).2 o)
 have hkeys:∀ x,x∈keys (pivP M k o (solvF b (M.getD k default).2 o))→x=o∨(x∈keys M∧x≠b∧x≠o):=fun x hx=>by
  unfold pivP at hx
  rw [keys_append] at hx
  rcases List.mem_append.1 hx with hx | hx
  ·simp only [keys,List.map_map] at hx
   obtain ⟨r,hr,rfl⟩:=List.mem_map.1 hx
   obtain ⟨h1,h2,h3⟩:=erase_mem h hr
   exact .inr ⟨List.mem_map.2 ⟨_,h1,rfl⟩,h2,h3⟩
  ·simp [keys] at hx;exact .inl hx
 have hgr:∀ x,coef (solvF b (M.getD k default).2 o) x≠0→(0≤x∧x<n)∧x≠o∧(x=b∨x∉keys M):=fun x hx=>by
  rw [h.g] at hx
  have hxo:x≠o:=fun he=>hx (by rw [if_pos he])
  rw [if_neg hxo] at hx
  by_cases hxb:x=b
  ·exact ⟨by rw [hxb];exact h.gt.range _ h.hb,hxo,.inl hxb⟩
  ·rw [if_neg hxb] at hx
   have hc:coef (M.getD k default).2 x≠0:=fun he=>hx (by rw [he];grind)
   obtain ⟨p,hp,rfl⟩:∃ p,p∈(M.getD k default).2∧p.1=x:=Classical.byContradiction fun hn=>hc (coef_none fun p hp he=>hn ⟨p,hp,he⟩)
   have:=h.gt.free _ (getD_mem h.hk) p hp
   exact ⟨this.1,hxo,.inr this.2⟩
 refine ⟨h.gt.lo,h.gt.hi,hnd,fun x hx=>?_,fun r hr p hp=>?_⟩
 ·rcases hkeys x hx with rfl | ⟨h1,_⟩
  ·exact h.or
  ·exact h.gt.range x h1
 ·have hmem:∀ (f:List (Int × Rat)),NF f→p∈f→coef f p.1≠0:=fun f hf hp=>by rw [hf.coef_mem hp];exact hf.nz p hp
  have key:(0≤p.1∧p.1<n)∧p.1≠o∧(p.1=b∨p.1∉keys M):=by
   unfold pivP at hr
   rcases List.mem_append.1 hr with hr | hr
   ·obtain ⟨r',hr',rfl⟩:=List.mem_map.1 hr
    obtain ⟨h1,h2,h3⟩:=erase_mem h hr'
    have hz:=hmem _ (NF.put _ _ _) hp
    rw [coef_put] at hz
    by_cases hg:coef (solvF b (M.getD k default).2 o) p.1=0
    ·rw [hg,Rat.mul_zero,Rat.add_zero] at hz
     have hxo:p.1≠o:=fun he=>hz (by rw [if_pos he])
     rw [if_neg hxo] at hz
     obtain ⟨q,hq,hqe⟩:∃ q,q∈r'.2∧q.1=p.1:=Classical.byContradiction fun hn=>hz (coef_none fun q hq he=>hn ⟨q,hq,he⟩)
     have:=h.gt.free _ h1 q hq
     rw [hqe] at this
     exact ⟨this.1,hxo,.inr this.2⟩
    ·exact hgr _ hg
   ·simp at hr
    subst hr
    exact hgr _ (hmem _ h.gn hp)
  refine ⟨key.1,fun hx=>?_⟩
  rcases hkeys _ hx with he | ⟨h1,h2,h3⟩
  ·exact key.2.1 he
  ·rcases key.2.2 with h4 | h4
   ·exact h2 h4
   ·exact h4 h1
theorem foll_comb (hg:GT n M) {f:List (Int × Rat)} (d:Nat→Rat) (hf:∀ x,coef f x=sig M.length fun i=>d i*zc (M.getD i default) x):(exprT M f).isEmpty=true:=by
 rw [empty_iff hg]
 intro x
 have hd:∀ l,l<M.length→coef f (M.getD l default).1 = - d l:=fun l hl=>by
  rw [hf]
  have h1:(sig M.length fun i=>d i*zc (M.getD i default) (M.getD l default).1)=sig M.length fun i=>(- d i)*dl i l:=sig_congr fun i hi=>by
   rw [zc_basic hg hi hl];grind
  rw [h1,sig_dl (fun i => - d i),if_pos hl]
 rw [hf x]
 have h2:(sig M.length fun i=>coef f (M.getD i default).1*zc (M.getD i default) x)=sig M.length fun i=>(-1:Rat)*(d i*zc (M.getD i default) x):=sig_congr fun i hi=>by
  rw [hd i hi];grind
 rw [h2,sig_mul]
 grind
theorem sig_two (f:Nat→Rat) {m i j:Nat} (hi:i<m) (hj:j<m) (hij:i≠j) (a c:Rat):(sig m fun l=>(a*dl l i+c*dl l j)*f l)=a*f i+c*f j:=by
 have h1:(sig m fun l=>(a*dl l i+c*dl l j)*f l)=(sig m fun l=>(a*f l)*dl l i)+sig m fun l=>(c*f l)*dl l j:=by
  rw [← sig_add]
  exact sig_congr fun l _=>by grind
 rw [h1,sig_dl (fun l=>a*f l),sig_dl (fun l=>c*f l),if_pos hi,if_pos hj]
theorem sig_one (f:Nat→Rat) {m i:Nat} (hi:i<m) (a:Rat):(sig m fun l=>(a*dl l i)*f l)=a*f i:=by
 have h1:(sig m fun l=>(a*dl l i)*f l)=sig m fun l=>(a*f l)*dl l i:=sig_congr fun l _=>by grind
 rw [h1,sig_dl (fun l=>a*f l),if_pos hi]
theorem Piv.foll (h:Piv n M k b o):follB M (pivP M k o (solvF b (M.getD k default).2 o))=true:=by
 unfold follB
 rw [List.all_eq_true]
 intro r hr
 have hgz:∀ x,coef (solvF b (M.getD k default).2 o) x-(if x=o then 1 else 0) = -(coef (M.getD k default).2 o)⁻¹*zc (M.getD k default) x:=fun x=>by
  have hi:=Rat.inv_mul_cancel _ h.nz
  rw [h.g]
  unfold zc
  rw [h.kb]
  by_cases hx:x=o
  ·subst hx
   rw [if_pos rfl,if_pos rfl,if_neg (Ne.symm h.bo)]
   grind
  ·rw [if_neg hx,if_neg hx];grind
 unfold pivP at hr
 rcases List.mem_append.1 hr with hr | hr
 ·obtain ⟨r',hr',rfl⟩:=List.mem_map.1 hr
  obtain ⟨h1,h2,h3⟩:=erase_mem h hr'
  obtain ⟨j,hj,rfl⟩:=mem_getD h1
  have hjk:j≠k:=fun he=>h2 (by rw [he];exact h.kb)
  dsimp only
  refine foll_comb h.gt (fun l=>1*dl l j+(coef (M.getD j default).2 o * -(coef (M.getD k default).2 o)⁻¹)*dl l k) fun x=>?_
  rw [sig_two (fun l=>zc (M.getD l default) x) hj h.hk hjk,coef_wholeZ]
  have h4:=hgz x
  unfold zc at h4 ⊢
  dsimp only
  rw [coef_put]
  have h5:x=o→x≠(M.getD j default).1:=fun he hb=>h3 (hb ▸ he)
  by_cases hx:x=o
  ·rw [if_pos hx,if_neg (h5 hx)]
   rw [if_pos hx] at h4
   subst hx
   grind
  ·rw [if_neg hx]
   rw [if_neg hx] at h4
   grind
 ·simp at hr
  subst hr
  dsimp only
  refine foll_comb h.gt (fun l=>(-(coef (M.getD k default).2 o)⁻¹)*dl l k) fun x=>?_
  rw [sig_one (fun l=>zc (M.getD l default) x) h.hk,coef_wholeZ,← hgz x]
  rfl
theorem Piv.gb (h:Piv n M k b o):coef (solvF b (M.getD k default).2 o) b=(coef (M.getD k default).2 o)⁻¹:=by
 rw [h.g,if_neg h.bo,if_pos rfl,h.rb]
 grind
theorem Piv.solve_back (h:Piv n M k b o):solvF o (solvF b (M.getD k default).2 o) b=(M.getD k default).2:=by
 have hg:=h.g
 have hgb:=h.gb
 generalize solvF b (M.getD k default).2 o=G at *
 have hi:=Rat.inv_mul_cancel _ h.nz
 have hrb:=h.rb
 have hw:coef (wholeF o G) b=(coef (M.getD k default).2 o)⁻¹:=by
  rw [coef_whole,hgb,if_neg h.bo];grind
 have hz:coef (wholeF o G) b≠0:=by
  rw [hw]
  intro he
  rw [he] at hi
  grind
 refine NF.ext (solv_nf hz) (h.nf _ (getD_mem h.hk)) fun x=>?_
 unfold solvF
 rw [coef_scale,hw,coef_del,Rat.inv_inv,coef_whole,hg]
 by_cases hxb:x=b
 ·subst hxb;rw [if_pos rfl,hrb];grind
 ·rw [if_neg hxb]
  by_cases hxo:x=o
  ·subst hxo;rw [if_pos rfl,if_pos rfl];grind
  ·rw [if_neg hxo,if_neg hxo,if_neg hxb];grind
theorem Piv.put_back (h:Piv n M k b o) {r:Int × List (Int × Rat)} (hr:r∈M):putF (putF r.2 o (solvF b (M.getD k default).2 o)) b (M.getD k default).2=r.2:=by
 refine NF.ext (NF.put _ _ _) (h.nf _ hr) fun x=>?_
 have hi:=Rat.inv_mul_cancel _ h.nz
 have hrb:=h.rb
 have hr0:coef r.2 b=0:=free_coef h.gt hr h.hb
 rw [coef_put,coef_put,coef_put,if_neg h.bo,h.gb,h.g,hr0]
 by_cases hxb:x=b
 ·subst hxb
  rw [if_pos rfl,hrb,hr0]
  grind
 ·rw [if_neg hxb]
  by_cases hxo:x=o
  ·subst hxo
   rw [if_pos rfl,if_pos rfl]
   grind
  ·rw [if_neg hxo,if_neg hxo,if_neg hxb]
   grind
theorem perm_cancel {S A:TM} {r:Int × List (Int × Rat)} {k:Nat} (hp:S.Perm (A++[r])) (hk:k<S.length) (hr:S.getD k default=r):(S.eraseIdx k).Perm A:=by
 have h1:=perm_erase hk
 rw [show S[k]=r by rw [← hr];simp [List.getD_eq_getElem?_getD,hk]] at h1
 have h2:(A++[r]).Perm (r::A):=List.perm_append_singleton _ _
 exact (h1.symm.trans (hp.trans h2)).cons_inv
theorem Piv.back (h:Piv n M k b o) {S:TM} (hS:S.Perm (pivP M k o (solvF b (M.getD k default).2 o))) {k':Nat} (hk':k'<S.length) (ho':(S.getD k' default).1=o) :
  Piv n S k' o b∧(S.getD k' default).2=solvF b (M.getD k default).2 o∧(pivP S k' b (M.getD k default).2).Perm M:=by
 have hgt:=h.pgt.perm hS.symm
 have hmem:(S.getD k' default)∈S:=getD_mem hk'
 have hsk:S.getD k' default=(o,solvF b (M.getD k default).2 o):=by
  have h0:=hS.mem_iff.1 hmem
  generalize S.getD k' default=q at *
  obtain ⟨q1,q2⟩:=q
  dsimp only at ho'
  subst ho'
  have h1:=look_of h.pgt.nodup h0
  have h2:=look_of h.pgt.nodup (k:=q1) (g:=solvF b (M.getD k default).2 q1) (by unfold pivP;simp)
  rw [h1] at h2
  exact Prod.ext rfl (by simpa using h2)
 have hgb:coef (solvF b (M.getD k default).2 o) b≠0:=by
  rw [h.gb]
  have hi:=Rat.inv_mul_cancel _ h.nz
  intro he
  rw [he] at hi
  grind
 have hbn:b∉keys S:=fun hb=>by
  have h1:b∈keys (pivP M k o (solvF b (M.getD k default).2 o)):=(hS.map (·.1)).mem_iff.1 hb
  obtain ⟨r,hr,hrb⟩:=List.mem_map.1 h1
  unfold pivP at hr
  rcases List.mem_append.1 hr with hr | hr
  ·obtain ⟨r',hr',rfl⟩:=List.mem_map.1 hr
   exact (erase_mem h hr').2.1 hrb
  ·simp at hr
   subst hr
   exact h.bo hrb.symm
 have hA:=perm_cancel hS hk' hsk
 refine ⟨⟨hgt,fun r hr=>?_,hk',ho',hbn,h.gt.range _ h.hb,by rw [hsk];exact hgb⟩,by rw [hsk],?_⟩
 ·have hr:=hS.mem_iff.1 hr
  unfold pivP at hr
  rcases List.mem_append.1 hr with hr | hr
  ·obtain ⟨r',_,rfl⟩:=List.mem_map.1 hr
   exact NF.put _ _ _
  ·simp at hr;subst hr;exact h.gn
 ·unfold pivP
  have h1:((S.eraseIdx k').map fun r=>(r.1,putF r.2 b (M.getD k default).2)).Perm (M.eraseIdx k):=by
   refine (hA.map _).trans (List.Perm.of_eq ?_)
   rw [List.map_map]
   refine (List.map_congr_left fun r hr=>?_).trans (List.map_id _)
   simp only [Function.comp]
   rw [h.put_back (erase_mem h hr).1]
   rfl
  refine (h1.append_right _).trans ((List.perm_append_singleton _ _).trans ?_)
  have h2:=perm_erase h.hk
  have e1:M[k]'h.hk=M.getD k default:=by simp [List.getD_eq_getElem?_getD,h.hk]
  have e2:M.getD k default=(b,(M.getD k default).2):=Prod.ext h.kb rfl
  exact (h2.trans (List.Perm.of_eq (by rw [e1];exact congrArg (·::M.eraseIdx k) e2))).symm
end
end Go.Proofs.YtjmpajgjaefcjaaGreat.Vm
namespace Go.Proofs.YtjmpajgjaefcjaaGreat.Vm
open Go Go.RowKit
end Go.Proofs.YtjmpajgjaefcjaaGreat.Vm
namespace Go.Proofs.YtjmpajgjaefcjaaGreat.Vm
open Go Go.RowKit
theorem Ht.sumM {c:Int→Rat} {D1 m1 D2 m2:Nat} (hc:∀ b,Ht D1 m1 (c b)) (x:Int):∀ M:TM,(∀ r∈M,Ht D2 m2 (Vm.coef r.2 x))→Ht (D1*D2) (M.length*(m1*m2)) (Vm.sumM c x M)
 | [],_=>Ht.zero _ _
 | r::M,h=>by
  have ih:=Ht.sumM hc x M fun q hq=>h q (List.mem_cons_of_mem _ hq)
  have h1:=(hc r.1).mul (h r List.mem_cons_self)
  simp only [Vm.sumM,List.length_cons]
  exact (h1.add ih).mono (by rw [Nat.add_mul];omega)
structure MHt (M:TM) (D m k:Nat):Prop where
 pos:0<D
 co:∀ r∈M,∀ x,Ht D m (Vm.coef r.2 x)
 dlt:D<2^k
 mlt:m<2^k
theorem MHt.of (M:TM):MHt M (dnM M) (htM M) (tb M+1) :=
 ⟨dnM_pos M,fun r hr x=>by
  have:=Ht.ofM (E:=1) (m:=1) hr (by have:=Ht.coef r.2 x;simpa using this)
  simpa using this,dnM_lt M,htM_lt M⟩
theorem MHt.nb {M:TM} {D m k:Nat} (h:MHt M D m k) {r:Int × List (Int × Rat)} (hr:r∈M) (x:Int):Vm.nb (Vm.coef r.2 x)≤k+1:=(h.co r hr x).nb h.pos h.dlt h.mlt
theorem ExOk.ht {M:TM} {f:List (Int × RR)} (hf:FOk f 536870912) (hro:∀ r∈M,Sz r.2 536870912) (hl:M.length≤65536) {D m k D2 m2 k2:Nat} (hD:0<D) (h1:∀ x,Ht D m (coef (vals f) x)) (hDk:D<2^k) (hmk:m<2^k) (hM:MHt M D2 m2 k2) (hk:k+k2≤536870000):ExOk M f:=by
 refine ⟨hf,hro,fun i x y c hc hy=>?_⟩
 have hcb:∀ b,Ht D m (c b):=fun b=>by
  rcases hc b with h | h
  ·rw [h];exact h1 b
  ·rw [h];exact Ht.zero _ _
 have hyy:Ht D m y:=by
  rcases hy with h | h
  ·rw [h];exact h1 x
  ·rw [h];exact Ht.zero _ _
 have hs:=Ht.sumM hcb x (M.take i) fun r hr=>hM.co r (List.mem_of_mem_take hr) x
 have ha:=(hyy.wide D2).add hs
 have hlen:(M.take i).length<2^17:=by rw [List.length_take];omega
 have e1:m*D2<2^(17+(k+k2)):=pow_up (mul_lt_pow hmk hM.dlt) (by omega)
 have e2:(M.take i).length*(m*m2)<2^(17+(k+k2)):=mul_lt_pow hlen (mul_lt_pow hmk hM.mlt)
 have e3:m*D2+(M.take i).length*(m*m2)<2^(18+(k+k2)):=by
  rw [show 18+(k+k2)=(17+(k+k2))+1 by omega,Nat.pow_succ];omega
 have e4:D*D2<2^(18+(k+k2)):=pow_up (mul_lt_pow hDk hM.dlt) (by omega)
 exact Nat.le_trans (ha.nb (Nat.mul_pos hD hM.pos) e4 e3) (by omega)
theorem keys_le {n:Int} {M:TM} (hg:GT n M):M.length≤65536:=by
 have h1:((keys M).map Int.toNat).Nodup:=by
  have h2:=hg.nodup
  have h3:=hg.range
  generalize keys M=l at *
  induction l with
  | nil=>simp
  | cons a l ih =>
   rw [List.nodup_cons] at h2
   rw [List.map_cons,List.nodup_cons]
   refine ⟨fun hm=>?_,ih h2.2 fun b hb=>h3 b (List.mem_cons_of_mem _ hb)⟩
   obtain ⟨c,hc,he⟩:=List.mem_map.1 hm
   have e1:=h3 a List.mem_cons_self
   have e2:=h3 c (List.mem_cons_of_mem _ hc)
   exact h2.1 (by rw [show a=c by omega];exact hc)
 have h2:=nodup_range_le h1 (n:=65536) fun x hx=>by
  obtain ⟨c,hc,rfl⟩:=List.mem_map.1 hx
  have:=hg.range c hc
  have:=hg.hi
  omega
 rw [List.length_map,keys_len] at h2
 exact h2
theorem Ht.div {D m m':Nat} {q p:Rat} (hq:Ht D m q) (hp:Ht D m' p) (h0:p≠0) (hD:0<D):∃ κ,0<κ∧κ≤m'∧p*D=((p*D).num:Rat)∧κ=(p*D).num.natAbs∧Ht κ m (q*p⁻¹):=by
 obtain ⟨k,h1,h2⟩:=hq
 obtain ⟨K,h3,h4⟩:=hp
 have hDr:(D:Rat)≠0:=fun h=>by
  rw [show (0:Rat)=((0:Nat):Rat) from rfl,Rat.natCast_inj] at h
  omega
 have hKn:(p*(D:Rat)).num=K:=by rw [h3];rfl
 have hK0:K≠0:=fun h=>by
  rw [h] at h3
  rcases Rat.mul_eq_zero.1 h3 with h | h
  ·exact h0 h
  ·exact hDr h
 refine ⟨K.natAbs,by omega,h4,by rw [hKn];exact h3,by rw [hKn],?_⟩
 have hpi:=Rat.inv_mul_cancel _ h0
 have hm:q*p⁻¹*(K:Rat)=(k:Rat):=by
  rw [← h3,← h1];grind
 rcases Int.natAbs_eq K with hs | hs
 ·refine ⟨k,?_,h2⟩
  have e:((K.natAbs:Nat):Rat)=(K:Rat):=by rw [← Rat.intCast_natCast,← hs]
  rw [e,hm]
 ·refine ⟨-k,?_,by omega⟩
  have e:((K.natAbs:Nat):Rat) = -(K:Rat):=by
   rw [← Rat.intCast_natCast,show ((K.natAbs:Nat):Int) = -K by omega,Rat.intCast_neg]
  rw [e,Rat.mul_neg,hm]
  simp
section
variable {n:Int} {M:TM} {k:Nat} {b o:Int}
theorem Piv.ht (h:Piv n M k b o) {D m j:Nat} (hM:MHt M D m j) (hle:D≤m):∃ D',MHt (pivP M k o (solvF b (M.getD k default).2 o)) D' (2*(m*m)) (j+j+1):=by
 have hrm:=getD_mem h.hk
 have hro:=hM.co _ hrm o
 obtain ⟨κ,k1,k2,k3,k4,_⟩:=Ht.div (Ht.zero D m) hro h.nz hM.pos
 have hm0:0<m:=Nat.lt_of_lt_of_le hM.pos hle
 have hdiv:∀ q,Ht D m q→Ht κ m (q*(coef (M.getD k default).2 o)⁻¹):=fun q hq=>by
  obtain ⟨κ',e1,e2,e3,e4,e5⟩:=Ht.div hq hro h.nz hM.pos
  rw [k4,← e4]
  exact e5
 have hone:Ht D m 1:=by
  have:=(Ht.one 1 (Nat.le_refl _)).wide D
  rw [Nat.one_mul] at this
  exact this.mono hle
 have hg:∀ x,Ht κ m (coef (solvF b (M.getD k default).2 o) x):=fun x=>by
  rw [h.g]
  split
  ·exact Ht.zero _ _
  ·by_cases hx:x=b
   ·rw [if_pos hx,hx,h.rb]
    have:=hdiv 1 hone
    rw [show -(coef (M.getD k default).2 o)⁻¹*(0-1)=1*(coef (M.getD k default).2 o)⁻¹ by grind]
    exact this
   ·rw [if_neg hx]
    have:=(hdiv _ (hM.co _ hrm x)).neg
    rw [show -(coef (M.getD k default).2 o)⁻¹*(coef (M.getD k default).2 x-0) = -(coef (M.getD k default).2 x*(coef (M.getD k default).2 o)⁻¹) by grind]
    exact this
 have hκm:m*κ≤m*m:=Nat.mul_le_mul_left _ k2
 have hDm:D*m≤m*m:=Nat.mul_le_mul_right _ hle
 have hDk:D*κ≤m*m:=Nat.mul_le_mul hle k2
 have hmm:m*m<2^(j+j):=mul_lt_pow hM.mlt hM.mlt
 refine ⟨D*κ,Nat.mul_pos hM.pos k1,fun r hr x=>?_,by rw [Nat.pow_succ];omega,by rw [Nat.pow_succ];omega⟩
 unfold pivP at hr
 rcases List.mem_append.1 hr with hr | hr
 ·obtain ⟨r',hr',rfl⟩:=List.mem_map.1 hr
  obtain ⟨h1,_⟩:=erase_mem h hr'
  dsimp only
  rw [coef_put]
  have e1:Ht (D*κ) (m*κ) (if x=o then 0 else coef r'.2 x):=by
   split
   ·exact Ht.zero _ _
   ·exact (hM.co _ h1 x).wide κ
  exact (e1.add ((hM.co _ h1 o).mul (hg x))).mono (by omega)
 ·simp at hr
  subst hr
  exact ((hg x).wide' D).mono (by omega)
end
def sgn' (j:Nat):Rat:=if j%2=0 then 1 else -1
def dt:Nat→(Nat→Nat→Rat)→Rat
 | 0,_=>1
 | n+1,a=>sig (n+1) fun j=>sgn' j*a 0 j*dt n fun i l=>a (i+1) (skip j l)
theorem skip_lt {n j l:Nat} (hl:l<n):skip j l<n+1:=by unfold skip;split <;> omega
theorem dt_congr:∀ {n:Nat} {a b:Nat→Nat→Rat},(∀ i j,i<n→j<n→a i j=b i j)→dt n a=dt n b
 | 0,_,_,_=>rfl
 | n+1,a,b,h=>by
  rw [dt,dt]
  refine sig_congr fun j hj=>?_
  rw [h 0 j (by omega) hj,dt_congr fun i l hi hl=>h (i+1) (skip j l) (by omega) (skip_lt hl)]
def upd (a:Nat→Nat→Rat) (c:Nat) (u:Nat→Rat):Nat→Nat→Rat:=fun i j=>if j=c then u i else a i j
theorem upd_minor {a:Nat→Nat→Rat} {c j:Nat} (hj:j≠c) (u:Nat→Rat):(fun i l=>upd a c u (i+1) (skip j l))=upd (fun i l=>a (i+1) (skip j l)) (if c<j then c else c-1) (fun i=>u (i+1)):=by
 funext i l
 unfold upd skip
 by_cases h:c<j
 ·rw [if_pos h]
  by_cases hl:l<j
  ·dsimp only
   rw [if_pos hl]
  ·dsimp only
   rw [if_neg hl,if_neg (by omega),if_neg (by omega)]
 ·rw [if_neg h]
  by_cases hl:l<j
  ·dsimp only
   rw [if_pos hl,if_neg (by omega),if_neg (by omega)]
  ·dsimp only
   rw [if_neg hl]
   by_cases he:l+1=c
   ·rw [if_pos he,if_pos (by omega)]
   ·rw [if_neg he,if_neg (by omega)]
theorem upd_minor_same (a:Nat→Nat→Rat) (c:Nat) (u:Nat→Rat):(fun i l=>upd a c u (i+1) (skip c l))=fun i l=>a (i+1) (skip c l):=by
 funext i l
 unfold upd
 rw [if_neg]
 unfold skip
 split <;> omega
theorem dt_lin:∀ {n:Nat} (a:Nat→Nat→Rat) {c:Nat},c<n→∀ (p q:Rat) (u v:Nat→Rat),dt n (upd a c fun i=>p*u i+q*v i)=p*dt n (upd a c u)+q*dt n (upd a c v)
 | 0,_,_,h,_,_,_,_=>absurd h (Nat.not_lt_zero _)
 | n+1,a,c,h,p,q,u,v=>by
  rw [dt,dt,dt,← sig_mul,← sig_mul,← sig_add]
  refine sig_congr fun j hj=>?_
  by_cases hjc:j=c
  ·subst hjc
   rw [upd_minor_same,upd_minor_same,upd_minor_same]
   unfold upd
   simp only [if_pos]
   grind
  ·rw [upd_minor hjc,upd_minor hjc,upd_minor hjc,dt_lin _ (c:=if c<j then c else c-1) (by split <;> omega)]
   unfold upd
   simp only [if_neg hjc]
   grind
theorem sig_pick {f:Nat→Rat} {n p:Nat} (hp:p+1<n) (h:∀ j,j<n→j≠p→j≠p+1→f j=0):sig n f=f p+f (p+1):=by
 have h1:sig n f=sig n fun j=>(1*dl j p+1*dl j (p+1))*f j:=sig_congr fun j hj=>by
  unfold dl
  by_cases e1:j=p
  ·subst e1;rw [if_pos rfl,if_neg (by omega)];grind
  ·rw [if_neg e1]
   by_cases e2:j=p+1
   ·subst e2;rw [if_pos rfl];grind
   ·rw [if_neg e2,h j hj e1 e2];grind
 rw [h1]
 have h2:(sig n fun j=>(1*dl j p+1*dl j (p+1))*f j)=(sig n fun j=>f j*dl j p)+sig n fun j=>f j*dl j (p+1):=by
  rw [← sig_add]
  exact sig_congr fun j _=>by grind
 rw [h2,sig_dl,sig_dl,if_pos (by omega),if_pos hp]
theorem sgn_succ (p:Nat):sgn' (p+1) = - sgn' p:=by
 unfold sgn'
 by_cases h:p%2=0
 ·rw [if_pos h,if_neg (by omega)]
 ·rw [if_neg h,if_pos (by omega)];grind
theorem dt_adj:∀ {n:Nat} {a:Nat→Nat→Rat} {p:Nat},p+1<n→(∀ i,i<n→a i p=a i (p+1))→dt n a=0
 | 0,_,_,h,_=>absurd h (Nat.not_lt_zero _)
 | n+1,a,p,h,he=>by
  rw [dt,sig_pick h fun j hj h1 h2=>?_]
  ·have hm:dt n (fun i l=>a (i+1) (skip p l))=dt n fun i l=>a (i+1) (skip (p+1) l):=dt_congr fun i l hi hl=>by
    unfold skip
    by_cases e1:l<p
    ·rw [if_pos e1,if_pos (by omega)]
    ·rw [if_neg e1]
     by_cases e2:l=p
     ·subst e2;rw [if_pos (by omega)];exact (he (i+1) (by omega)).symm
     ·rw [if_neg (by omega)]
   rw [hm,sgn_succ,he 0 (by omega)]
   grind
  ·have hz:dt n (fun i l=>a (i+1) (skip j l))=0:=by
    by_cases hjp:j<p
    ·refine dt_adj (p:=p-1) (by omega) fun i hi=>?_
     have e1:skip j (p-1)=p:=by unfold skip;rw [if_neg (by omega)];omega
     have e2:skip j (p-1+1)=p+1:=by unfold skip;rw [if_neg (by omega)];omega
     rw [e1,e2]
     exact he (i+1) (by omega)
    ·refine dt_adj (p:=p) (by omega) fun i hi=>?_
     have e1:skip j p=p:=by unfold skip;rw [if_pos (by omega)]
     have e2:skip j (p+1)=p+1:=by unfold skip;rw [if_pos (by omega)]
     rw [e1,e2]
     exact he (i+1) (by omega)
   rw [hz,Rat.mul_zero]
theorem upd_self (a:Nat→Nat→Rat) (c:Nat):upd a c (fun i=>a i c)=a:=by
 funext i j
 unfold upd
 split
 ·rename_i h;rw [h]
 ·rfl
theorem upd_comm (a:Nat→Nat→Rat) {c d:Nat} (h:c≠d) (u v:Nat→Rat):upd (upd a c u) d v=upd (upd a d v) c u:=by
 funext i j
 unfold upd
 by_cases h1:j=d
 ·rw [if_pos h1,if_neg (by omega),if_pos h1]
 ·rw [if_neg h1]
  by_cases h2:j=c
  ·rw [if_pos h2,if_pos h2]
  ·rw [if_neg h2,if_neg h2,if_neg h1]
def swp (a:Nat→Nat→Rat) (p:Nat):Nat→Nat→Rat:=fun i j=>if j=p then a i (p+1) else if j=p+1 then a i p else a i j
theorem dt_swp {n:Nat} (a:Nat→Nat→Rat) {p:Nat} (h:p+1<n):dt n (swp a p) = - dt n a:=by
 have key:∀ u v:Nat→Rat,dt n (upd (upd a p u) (p+1) v)+dt n (upd (upd a p v) (p+1) u)=0:=fun u v=>by
  have h0:∀ w:Nat→Rat,dt n (upd (upd a p w) (p+1) w)=0:=fun w=>dt_adj h fun i _=>by
   unfold upd
   rw [if_neg (by omega),if_pos rfl,if_pos rfl]
  have h1:=h0 fun i=>1*u i+1*v i
  rw [dt_lin _ h] at h1
  have h2:∀ w:Nat→Rat,dt n (upd (upd a p fun i=>1*u i+1*v i) (p+1) w)=dt n (upd (upd a p u) (p+1) w)+dt n (upd (upd a p v) (p+1) w):=fun w=>by
   rw [upd_comm a (by omega),dt_lin _ (by omega),upd_comm a (by omega),upd_comm a (by omega)]
   rw [upd_comm a (show p+1≠p by omega),upd_comm a (show p+1≠p by omega)]
   grind
  rw [h2,h2,h0,h0] at h1
  grind
 have h3:=key (fun i=>a i p) (fun i=>a i (p+1))
 rw [upd_self] at h3
 have h4:upd a (p+1) (fun i=>a i (p+1))=a:=upd_self a (p+1)
 rw [h4] at h3
 have h5:upd (upd a p fun i=>a i (p+1)) (p+1) (fun i=>a i p)=swp a p:=by
  funext i j
  unfold upd swp
  by_cases h1:j=p+1
  ·rw [if_pos h1,if_neg (by omega),if_pos h1]
  ·rw [if_neg h1,if_neg h1]
 rw [h5] at h3
 grind
theorem dt_eq:∀ (d:Nat) {n:Nat} {a:Nat→Nat→Rat} {p:Nat},p+(d+1)<n→(∀ i,i<n→a i p=a i (p+(d+1)))→dt n a=0
 | 0,n,a,p,h,he=>dt_adj h he
 | d+1,n,a,p,h,he=>by
  have h1:=dt_swp a (n:=n) (p:=p+(d+1)) (by omega)
  have h2:dt n (swp a (p+(d+1)))=0:=dt_eq d (p:=p) (by omega) fun i hi=>by
   unfold swp
   rw [if_neg (by omega),if_neg (by omega),if_pos rfl]
   exact he i hi
  rw [h2] at h1
  grind
theorem dt_two {n:Nat} {a:Nat→Nat→Rat} {p q:Nat} (hp:p<n) (hq:q<n) (hpq:p≠q) (he:∀ i,i<n→a i p=a i q):dt n a=0:=by
 by_cases h:p<q
 ·obtain ⟨d,rfl⟩:∃ d,q=p+(d+1):=⟨q-p-1,by omega⟩
  exact dt_eq d hq he
 ·obtain ⟨d,rfl⟩:∃ d,p=q+(d+1):=⟨p-q-1,by omega⟩
  exact dt_eq d hp fun i hi=>(he i hi).symm
theorem dt_sum {n:Nat} (a:Nat→Nat→Rat) {c:Nat} (hc:c<n) (t:Nat→Rat) (w:Nat→Nat→Rat):∀ m,dt n (upd a c fun i=>sig m fun j=>t j*w i j)=sig m fun j=>t j*dt n (upd a c fun i=>w i j)
 | 0=>by
  have h:=dt_lin a hc 0 0 (fun _=>0) (fun _=>0)
  have e:(fun i:Nat=>(0:Rat)*(0:Rat)+0*0)=fun i=>sig 0 fun j=>t j*w i j:=by
   funext i;show _=(0:Rat);grind
  rw [e] at h
  rw [h]
  show _=(0:Rat)
  grind
 | m+1=>by
  have e:(fun i=>sig (m+1) fun j=>t j*w i j)=fun i=>1*(sig m fun j=>t j*w i j)+t m*w i m:=by
   funext i;rw [sig];grind
  rw [e,dt_lin a hc,dt_sum a hc t w m,sig]
  grind
theorem cramer {n:Nat} {a:Nat→Nat→Rat} {c:Nat→Rat} {t:Nat→Rat} (h:∀ i,i<n→c i=sig n fun j=>t j*a i j) {k:Nat} (hk:k<n):dt n (upd a k c)=t k*dt n a:=by
 have h1:dt n (upd a k c)=dt n (upd a k fun i=>sig n fun j=>t j*a i j):=dt_congr fun i j hi hj=>by
  unfold upd
  split
  ·exact h i hi
  ·rfl
 rw [h1,dt_sum a hk t a n]
 have h2:(sig n fun j=>t j*dt n (upd a k fun i=>a i j))=sig n fun j=>(t j*dt n a)*dl j k:=sig_congr fun j hj=>by
  unfold dl
  by_cases e:j=k
  ·subst e;rw [if_pos rfl,upd_self];grind
  ·rw [if_neg e]
   have:dt n (upd a k fun i=>a i j)=0:=dt_two hk hj (Ne.symm e) fun i hi=>by
    unfold upd
    rw [if_pos rfl,if_neg e]
   rw [this];grind
 rw [h2,sig_dl (fun j=>t j*dt n a),if_pos hk]
theorem dt_last:∀ {n:Nat} {a:Nat→Nat→Rat},(∀ i,i<n→a i n=0)→dt (n+1) a=a n n*dt n a
 | 0,a,_=>by
  simp [dt,sig,sgn',Rat.zero_add,Rat.mul_one,Rat.one_mul]
 | n+1,a,h=>by
  rw [dt,sig,h 0 (by omega)]
  have h1:(sig (n+1) fun j=>sgn' j*a 0 j*dt (n+1) fun i l=>a (i+1) (skip j l))=sig (n+1) fun j=>a (n+1) (n+1)*(sgn' j*a 0 j*dt n fun i l=>a (i+1) (skip j l)):=sig_congr fun j hj=>by
   have hs:skip j n=n+1:=by unfold skip;rw [if_neg (by omega)]
   rw [dt_last (n:=n) (a:=fun i l=>a (i+1) (skip j l)) fun i hi=>by rw [hs];exact h (i+1) (by omega)]
   rw [hs]
   grind
  rw [h1,sig_mul,← dt]
  grind
def prP (N:Nat) (P:Nat→Nat):Nat→Nat
 | 0=>1
 | n+1=>prP N P n*(N*P n)
theorem prP_shift (N:Nat) (P:Nat→Nat):∀ n,prP N P (n+1)=N*P 0*prP N (fun i=>P (i+1)) n
 | 0=>by simp [prP]
 | n+1=>by
  rw [prP,prP_shift N P n,prP,Nat.mul_assoc]
theorem Ht.sig {f:Nat→Rat} {D m:Nat}:∀ n,(∀ j,j<n→Ht D m (f j))→Ht D (n*m) (Vm.sig n f)
 | 0,_=>Ht.zero _ _
 | n+1,h=>by
  rw [Vm.sig]
  exact ((Ht.sig n fun j hj=>h j (by omega)).add (h n (by omega))).mono (by rw [Nat.add_mul];omega)
theorem Ht.dt {N:Nat}:∀ {n:Nat} {a:Nat→Nat→Rat} {P:Nat→Nat},n≤N→(∀ i j,i<n→j<n→Ht 1 (P i) (a i j))→Ht 1 (prP N P n) (Vm.dt n a)
 | 0,_,_,_,_=>Ht.one 1 (Nat.le_refl _)
 | n+1,a,P,hn,h=>by
  rw [Vm.dt,prP_shift]
  have h1:=Ht.sig (D:=1) (m:=P 0*prP N (fun i=>P (i+1)) n) (f:=fun j=>sgn' j*a 0 j*Vm.dt n fun i l=>a (i+1) (skip j l)) (n+1) fun j hj=>by
   have e1:=h 0 j (by omega) hj
   have e2:=Ht.dt (N:=N) (n:=n) (a:=fun i l=>a (i+1) (skip j l)) (P:=fun i=>P (i+1)) (by omega) fun i l hi hl=>h (i+1) (skip j l) (by omega) (skip_lt hl)
   have e3:Ht 1 (P 0) (sgn' j*a 0 j):=by
    unfold sgn'
    split
    ·rw [Rat.one_mul];exact e1
    ·rw [show (-1:Rat)*a 0 j = - a 0 j by grind];exact e1.neg
   have:=e3.mul e2
   rwa [Nat.mul_one] at this
  refine h1.mono ?_
  rw [Nat.mul_assoc]
  exact Nat.mul_le_mul_right _ hn
theorem whole_ht {f:List (Int × Rat)} {D m:Nat} (h:∀ x,Ht D m (coef f x)) (b:Int) (x:Int):Ht D (m+D) (coef (wholeF b f) x):=by
 rw [coef_whole]
 refine (h x).sub ?_
 split
 ·have:=(Ht.one 1 (Nat.le_refl _)).wide D
  rw [Nat.one_mul] at this
  exact this
 ·exact Ht.zero _ _
theorem FollOk.ht {n:Int} {M N:TM} (hM:GT n M) (hMs:∀ r∈M,Sz r.2 536870000) (hNs:∀ r∈N,Sz r.2 536870000) {D m k D2 m2 k2:Nat} (h1:MHt M D m k) (h2:MHt N D2 m2 k2) (hk:k+k2+1≤536870000):FollOk M N :=
 ⟨fun r hr=>(hNs r hr).mono (by omega),fun r hr=>by
  have h3:vals (rf (wholeF r.1 r.2))=wholeF r.1 r.2:=vals_rf _
  have hw:=(hNs r hr).whole r.1
  refine ExOk.ht (D:=D2) (m:=m2+D2) (k:=k2+1) (FOk.rf (hw.mono (by omega)) (by omega)) (fun r hr=>(hMs r hr).mono (by omega)) (keys_le hM) h2.pos (fun x=>?_) (pow_up h2.dlt (by omega)) (by have:=h2.dlt;have:=h2.mlt;rw [Nat.pow_succ];omega) h1 (by omega)
  rw [h3]
  exact whole_ht (fun x=>h2.co r hr x) r.1 x⟩
theorem sz_ht {n:Int} {M:TM} (hM:GT n M) (hn:∀ r∈M,NF r.2) {D m k:Nat} (h:MHt M D m k):∀ r∈M,Sz r.2 (k+1+65536):=fun r hr =>
 sz_nf (hn r hr) hM.hi (fun p hp=>(hM.free r hr p hp).1) fun x=>h.nb hr x
theorem MHt.perm {M N:TM} {D m k:Nat} (h:MHt M D m k) (hp:N.Perm M):MHt N D m k:=⟨h.pos,fun r hr=>h.co r (hp.mem_iff.1 hr),h.dlt,h.mlt⟩
theorem pivP_nf {n:Int} {M:TM} {k:Nat} {b o:Int} (h:Piv n M k b o):∀ r∈pivP M k o (solvF b (M.getD k default).2 o),NF r.2:=fun r hr=>by
 unfold pivP at hr
 rcases List.mem_append.1 hr with hr | hr
 ·obtain ⟨r',_,rfl⟩:=List.mem_map.1 hr
  exact NF.put _ _ _
 ·simp at hr;subst hr;exact h.gn
theorem TG.rf {M:TM} (hn:∀ r∈M,NF r.2) (hs:∀ r∈M,Sz r.2 536870912) (hl:M.length≤65536):TG (rfT M):=by
 refine ⟨fun r hr p hp=>?_,fun r hr=>?_,by simp only [rfT,List.length_map];omega⟩
 ·obtain ⟨q,hq,rfl⟩:=List.mem_map.1 hr
  exact (FOk.rf (hs q hq) (by omega)).1 p hp
 ·obtain ⟨q,hq,rfl⟩:=List.mem_map.1 hr
  dsimp only
  rw [vals_rf]
  exact hs q hq
theorem piv_cases (n:Int) (t:TR) (b o:Int):(∃ e,e≠0∧pivV n t b o = .tup [cU 0 [],.int .i64 e])∨∃ k,goodB n (nrmT t)=true∧Piv n (nrmT t) k b o∧idxM (nrmT t) b=some k∧¬ (b<0∨n≤b∨o<0∨n≤o)∧pivV n t b o = .tup [cU n (sortM (pivP (nrmT t) k o (solvF b ((nrmT t).getD k default).2 o))),.int .i64 0]:=by
 unfold pivV
 by_cases hg:goodB n (nrmT t)=true
 ·rw [if_pos hg]
  have hgt:=gt_iff.1 hg
  by_cases hr:b<0∨n≤b∨o<0∨n≤o
  ·rw [if_pos hr];exact .inl ⟨61,by decide,rfl⟩
  ·rw [if_neg hr]
   cases hi:idxM (nrmT t) b with
   | none=>exact .inl ⟨71,by decide,rfl⟩
   | some k =>
    dsimp only
    by_cases ho:o∈keys (nrmT t)
    ·rw [if_pos ho];exact .inl ⟨71,by decide,rfl⟩
    ·rw [if_neg ho]
     by_cases hz:coef (wholeF b ((nrmT t).getD k default).2) o=0
     ·rw [if_pos hz];exact .inl ⟨72,by decide,rfl⟩
     ·rw [if_neg hz]
      obtain ⟨h1,h2,_,h4⟩:=idx_some hi
      refine .inr ⟨k,hg,⟨hgt,fun r hr=>?_,h1,h2,ho,by omega,?_⟩,rfl,hr,rfl⟩
      ·obtain ⟨q,_,rfl⟩:=List.mem_map.1 hr
       exact NF.norm _
      ·rw [coef_whole] at hz
       have:o≠b:=fun he=>ho (he ▸ h4)
       rw [if_neg this] at hz
       intro h0;rw [h0] at hz;exact hz (by grind)
 ·rw [if_neg hg];exact .inl ⟨70,by decide,rfl⟩
def sumZ (c:Int→Rat) (x:Int):TM→Rat
 | []=>0
 | r::M=>c r.1*zc r x+sumZ c x M
theorem sumZ_perm (c:Int→Rat) (x:Int) {M N:TM} (h:M.Perm N):sumZ c x M=sumZ c x N:=by
 induction h with
 | nil=>rfl
 | cons r _ ih=>rw [sumZ,sumZ,ih]
 | swap r q l=>simp only [sumZ];grind
 | trans _ _ ih1 ih2=>exact ih1.trans ih2
theorem sumZ_append (c:Int→Rat) (x:Int) (M N:TM):sumZ c x (M++N)=sumZ c x M+sumZ c x N:=by
 induction M with
 | nil=>simp [sumZ,Rat.zero_add]
 | cons r M ih=>simp only [List.cons_append,sumZ,ih,Rat.add_assoc]
theorem sumZ_congr {c d:Int→Rat} (x:Int):∀ M:TM,(∀ r∈M,c r.1=d r.1)→sumZ c x M=sumZ d x M
 | [],_=>rfl
 | r::M,h=>by rw [sumZ,sumZ,sumZ_congr x M fun q hq=>h q (List.mem_cons_of_mem _ hq),h r List.mem_cons_self]
theorem sumZ_lin (p:Rat) (c d:Int→Rat) (x:Int):∀ M:TM,sumZ (fun b=>p*c b+d b) x M=p*sumZ c x M+sumZ d x M
 | []=>by simp [sumZ,Rat.mul_zero,Rat.add_zero]
 | r::M=>by rw [sumZ,sumZ,sumZ,sumZ_lin p c d x M];grind
theorem sumZ_sig (c:Int→Rat) (x:Int) (M:TM):sumZ c x M=sig M.length fun i=>c (M.getD i default).1*zc (M.getD i default) x:=by
 have key:∀ i,i≤M.length→sumZ c x (M.take i)=sig i fun i=>c (M.getD i default).1*zc (M.getD i default) x:=by
  intro i
  induction i with
  | zero=>intro _;rfl
  | succ i ih =>
   intro hi
   rw [take_snoc (show i<M.length by omega),sig,← ih (by omega),sumZ_append]
   simp [sumZ,Rat.add_zero]
 have:=key M.length (Nat.le_refl _)
 rwa [List.take_length] at this
def Span (M:TM) (z:Int→Rat):Prop:=∀ x,z x = - sumZ z x M
theorem Span.perm {M N:TM} {z:Int→Rat} (h:Span M z) (hp:M.Perm N):Span N z:=fun x=>by rw [← sumZ_perm z x hp];exact h x
theorem Span.lin {M:TM} {y z:Int→Rat} (p:Rat) (hy:Span M y) (hz:Span M z):Span M fun x=>p*y x+z x:=fun x=>by
 rw [sumZ_lin]
 have h1:=hy x
 have h2:=hz x
 grind
theorem Span.zero (M:TM):Span M fun _=>0:=fun x=>by
 have:sumZ (fun _=>0) x M=0:=by
  induction M with
  | nil=>rfl
  | cons r M ih=>rw [sumZ,ih];grind
 rw [this];grind
theorem Span.comb {S:TM} (c:Int→Rat):∀ {M:TM},(∀ r∈M,Span S (zc r))→Span S fun x=>sumZ c x M
 | [],_=>Span.zero S
 | r::M,h=>by
  have h1:=Span.comb c fun q hq=>h q (List.mem_cons_of_mem _ hq)
  exact (h r List.mem_cons_self).lin (c r.1) h1
theorem Span.trans {M S:TM} {z:Int→Rat} (h:Span M z) (hS:∀ r∈M,Span S (zc r)):Span S z:=by
 have h1:=(Span.comb z hS).lin (-1) (Span.zero S)
 have h2:(fun x=>(-1:Rat)*sumZ z x M+0)=z:=by
  funext x
  rw [h x];grind
 rwa [h2] at h1
theorem span_foll {n:Int} {M N:TM} (hg:GT n M):follB M N=true↔∀ r∈N,Span M (zc r):=by
 rw [follB_iff hg]
 constructor
 ·intro h r hr x
  obtain ⟨j,hj,rfl⟩:=mem_getD hr
  rw [sumZ_sig]
  exact h j hj x
 ·intro h j hj x
  have:=h _ (getD_mem hj) x
  rwa [sumZ_sig] at this
theorem sumZ_coef {n:Int} {M:TM} (hg:GT n M) (f:List (Int × Rat)) (x:Int):coef (exprT M f) x=coef f x+sumZ (coef f) x M:=by
 rw [show coef (exprT M f) x=_ from (exprP_ok hg f).co x]
 have key:∀ N:TM,(keys N).Nodup→sumZ (coef f) x N=sumM (coef f) x N-if x∈keys N then coef f x else 0:=by
  intro N
  induction N with
  | nil=>intro _;simp [sumZ,sumM,keys];grind
  | cons r N ih =>
   intro hn
   simp only [keys,List.map_cons,List.nodup_cons] at hn
   rw [sumZ,sumM,ih hn.2]
   unfold zc
   simp only [keys,List.map_cons,List.mem_cons]
   by_cases hx:x=r.1
   ·subst hx
    have:r.1∉N.map (·.1):=hn.1
    simp [this]
    grind
   ·simp only [hx,if_false,false_or]
    grind
 rw [key M hg.nodup]
 split <;> grind
def matA (F:TM) (k:Nat) (x:Int):Rat:=(dnf (F.getD k default).2:Rat)*zc (F.getD k default) x
def mat (F:TM) (l:List Int):Nat→Nat→Rat:=fun i j=>matA F i (l.getD j 0)
theorem Ht.one_of {D m:Nat} {q:Rat} (h:Ht D m q):Ht 1 m ((D:Rat)*q):=by
 obtain ⟨k,h1,h2⟩:=h
 exact ⟨k,by rw [← h1,show ((1:Nat):Rat)=1 from rfl];grind,h2⟩
theorem matA_ht (F:TM) (k:Nat) (x:Int):Ht 1 (2*htf (F.getD k default).2) (matA F k x):=by
 unfold matA
 have h:=whole_ht (fun x=>Ht.coef (F.getD k default).2 x) (F.getD k default).1 x
 rw [coef_wholeZ] at h
 exact (h.mono (by have:=dnf_le (F.getD k default).2;omega)).one_of
theorem tb_snoc' (M:TM) (r:Int × List (Int × Rat)):tb (M++[r])=tb M+(nbs r.2+1):=by
 induction M with
 | nil=>simp [tb];try omega
 | cons q M ih=>simp only [List.cons_append,tb,ih];omega
def detB (F:TM):Nat:=prP 65536 (fun k=>2*htf (F.getD k default).2) F.length
theorem prP_lt (F:TM):∀ n,n≤F.length→prP 65536 (fun k=>2*htf (F.getD k default).2) n<2^(tb (F.take n)+17*n+1)
 | 0,_=>by simp [prP]
 | n+1,h=>by
  have ih:=prP_lt F n (by omega)
  rw [take_snoc (show n<F.length by omega),tb_snoc',prP]
  have h1:=htf_lt (F.getD n default).2
  have h2:65536*(2*htf (F.getD n default).2)<2^(nbs (F.getD n default).2+18):=by
   rw [show nbs (F.getD n default).2+18=(nbs (F.getD n default).2+1)+17 by omega,Nat.pow_add]
   omega
  have h3:=mul_lt_pow ih h2
  exact pow_up h3 (by omega)
theorem detB_lt (F:TM):detB F<2^(tb F+17*F.length+1):=by
 have:=prP_lt F F.length (Nat.le_refl _)
 rwa [List.take_length] at this
theorem mat_swap (F:TM) (pre l:List Int) (x y:Int) {n:Nat} (hn:(pre++y::x::l).length=n):dt n (mat F (pre++x::y::l)) = - dt n (mat F (pre++y::x::l)):=by
 rw [← dt_swp (p:=pre.length) _ (by rw [← hn];simp)]
 refine dt_congr fun i j hi hj=>?_
 unfold swp mat
 have g1:(pre++x::y::l).getD pre.length 0=x:=by simp [List.getD_eq_getElem?_getD]
 have g2:(pre++x::y::l).getD (pre.length+1) 0=y:=by simp [List.getD_eq_getElem?_getD]
 have g3:(pre++y::x::l).getD pre.length 0=y:=by simp [List.getD_eq_getElem?_getD]
 have g4:(pre++y::x::l).getD (pre.length+1) 0=x:=by simp [List.getD_eq_getElem?_getD]
 by_cases h1:j=pre.length
 ·subst h1;rw [if_pos rfl,g1,g4]
 ·rw [if_neg h1]
  by_cases h2:j=pre.length+1
  ·subst h2;rw [if_pos rfl,g2,g3]
  ·rw [if_neg h2]
   congr 1
   by_cases h3:j<pre.length
   ·simp [List.getD_eq_getElem?_getD,List.getElem?_append_left h3]
   ·rw [List.getD_eq_getElem?_getD,List.getD_eq_getElem?_getD,List.getElem?_append_right (by omega),List.getElem?_append_right (by omega)]
    obtain ⟨d,hd⟩:∃ d,j-pre.length=d+2:=⟨j-pre.length-2,by omega⟩
    rw [hd]
    rfl
theorem mat_perm (F:TM) {l l':List Int} (h:l.Perm l'):∀ (pre:List Int) {n:Nat},(pre++l).length=n→dt n (mat F (pre++l))≠0→dt n (mat F (pre++l'))≠0:=by
 induction h with
 | nil=>intro pre n _ h;exact h
 | cons x hp ih =>
  intro pre n hn h
  have:=ih (pre++[x]) (n:=n) (by simpa using hn) (by simpa using h)
  simpa using this
 | swap x y l =>
  intro pre n hn h
  rw [mat_swap F pre l x y hn]
  intro h0
  exact h (by grind)
 | trans h1 h2 ih1 ih2 =>
  intro pre n hn h
  exact ih2 pre (by rw [← hn];simp [h1.length_eq]) (ih1 pre hn h)
structure PlayS (n:Int) (M F:TM):Prop where
 gt:GT n M
 nf:∀ r∈M,NF r.2
 len:F.length=M.length
 det:dt F.length (mat F (keys M))≠0
 span:∀ r∈F,Span M (zc r)
 fr:∀ r∈F,(0≤r.1∧r.1<n)∧∀ x,¬ (0≤x∧x<n)→coef r.2 x=0
theorem PlayS.nil {n:Int} (h:0≤n∧n≤65536):PlayS n [] [] :=
 ⟨⟨h.1,h.2,by simp [keys],by simp [keys],by simp⟩,by simp,rfl,by show dt 0 _≠0;rw [dt];decide,by simp,by simp⟩
section
variable {n:Int} {M F:TM}
theorem mat_cramer (h:PlayS n M F) {x:Int} (hx:x∉keys M) (i:Nat) (hi:i<F.length):matA F i x=sig F.length fun j=>(- coef (M.getD j default).2 x)*mat F (keys M) i j:=by
 have hs:=h.span _ (getD_mem hi) x
 rw [sumZ_sig] at hs
 unfold matA
 rw [hs,h.len]
 have h1:(sig M.length fun j=>(- coef (M.getD j default).2 x)*mat F (keys M) i j)=sig M.length fun j=>(-(dnf (F.getD i default).2:Rat))*(zc (F.getD i default) (M.getD j default).1*zc (M.getD j default) x):=sig_congr fun j hj=>by
  have e1:(keys M).getD j 0=(M.getD j default).1:=by simp [keys,List.getD_eq_getElem?_getD,hj]
  have e2:zc (M.getD j default) x=coef (M.getD j default).2 x:=by
   unfold zc
   rw [if_neg fun he:x=(M.getD j default).1=>hx (he ▸ List.mem_map.2 ⟨_,getD_mem hj,rfl⟩)]
   grind
  unfold mat matA
  rw [e1,e2]
  grind
 rw [h1,sig_mul]
 grind
theorem PlayS.solve (h:PlayS n M F) {x:Int} (hx:x∉keys M) {k:Nat} (hk:k<M.length):dt F.length (upd (mat F (keys M)) k fun i=>matA F i x)=(- coef (M.getD k default).2 x)*dt F.length (mat F (keys M)) :=
 cramer (fun i hi=>mat_cramer h hx i hi) (by rw [h.len];exact hk)
theorem PlayS.ht (h:PlayS n M F):∃ D,MHt M D (detB F) (tb F+17*F.length+1):=by
 have hl:F.length≤65536:=by rw [h.len];exact keys_le h.gt
 have hm:Ht 1 (detB F) (dt F.length (mat F (keys M))):=Ht.dt hl fun i j _ _=>matA_ht F i _
 obtain ⟨K,k1,k2⟩:=hm
 rw [show ((1:Nat):Rat)=1 from rfl,Rat.mul_one] at k1
 have hK:K≠0:=fun h0=>h.det (by rw [k1,h0];rfl)
 refine ⟨K.natAbs,by omega,fun r hr x=>?_,Nat.lt_of_le_of_lt k2 (detB_lt F),detB_lt F⟩
 by_cases hx:x∈keys M
 ·rw [free_coef h.gt hr hx];exact Ht.zero _ _
 ·obtain ⟨k,hk,rfl⟩:=mem_getD hr
  have hs:=h.solve hx hk
  have hc:Ht 1 (detB F) (dt F.length (upd (mat F (keys M)) k fun i=>matA F i x)):=Ht.dt hl fun i j _ _=>by
   unfold upd
   split
   ·exact matA_ht F i x
   ·exact matA_ht F i _
  obtain ⟨J,j1,j2⟩:=hc
  rw [show ((1:Nat):Rat)=1 from rfl,Rat.mul_one] at j1
  rw [j1,k1] at hs
  rcases Int.natAbs_eq K with hs' | hs'
  ·refine ⟨-J,?_,by omega⟩
   have e:((K.natAbs:Nat):Rat)=(K:Rat):=by rw [← Rat.intCast_natCast,← hs']
   rw [e,Rat.intCast_neg,hs];grind
  ·refine ⟨J,?_,j2⟩
   have e:((K.natAbs:Nat):Rat) = -(K:Rat):=by rw [← Rat.intCast_natCast,show ((K.natAbs:Nat):Int) = -K by omega,Rat.intCast_neg]
   rw [e,hs];grind
theorem PlayS.perm (h:PlayS n M F) {S:TM} (hp:M.Perm S):PlayS n S F :=
 ⟨h.gt.perm hp,fun r hr=>h.nf r (hp.mem_iff.2 hr),by rw [h.len,hp.length_eq],by
  have hk:(keys M).Perm (keys S):=hp.map _
  have:=mat_perm F hk [] (n:=F.length) (by simp [keys_len,h.len]) (by simpa using h.det)
  simpa using this,fun r hr=>(h.span r hr).perm hp,h.fr⟩
theorem PlayS.define (h:PlayS n M F) (hn:n<65536) {f:List (Int × Rat)} (hf:∀ x,¬ (0≤x∧x<n)→coef f x=0):PlayS (n+1) (M++[(n,exprT M f)]) (F++[(n,f)]):=by
 have h0:=h.gt.lo
 have he:∀ x,coef (exprT M f) x=coef f x+sumZ (coef f) x M:=sumZ_coef h.gt f
 have hen:=(exprP_ok h.gt f).nf
 have hek:∀ p∈exprT M f,(0≤p.1∧p.1<n)∧p.1∉keys M:=fun p hp=>by
  have hc:coef (exprT M f) p.1=p.2:=NF.coef_mem (g:=exprT M f) hen hp
  have hz:=NF.nz (l:=exprT M f) hen p hp
  have hco:coef (exprT M f) p.1=_:=(exprP_ok h.gt f).co p.1
  constructor
  ·refine Classical.byContradiction fun hr=>hz ?_
   rw [← hc,hco,hf _ hr,sumM_out h.gt _ hr]
   split <;> grind
  ·intro hb
   apply hz
   rw [← hc,hco,if_pos hb,sumM_basic h.gt _ hb,Rat.add_zero]
 have hni:n∉keys M:=fun hm=>by have:=h.gt.range n hm;omega
 have hgt:GT (n+1) (M++[(n,exprT M f)]):=by
  refine ⟨by omega,by omega,?_,fun b hb=>?_,fun r hr p hp=>?_⟩
  ·rw [keys_append,List.nodup_append]
   refine ⟨h.gt.nodup,by simp [keys],?_⟩
   rintro a ha b hb rfl
   simp [keys] at hb
   exact hni (hb ▸ ha)
  ·rw [keys_append] at hb
   rcases List.mem_append.1 hb with hb | hb
   ·have:=h.gt.range b hb;omega
   ·simp [keys] at hb;omega
  ·have key:(0≤p.1∧p.1<n)∧p.1∉keys M:=by
    rcases List.mem_append.1 hr with hr | hr
    ·exact h.gt.free r hr p hp
    ·simp at hr;subst hr;exact hek p hp
   refine ⟨by omega,fun hb=>?_⟩
   rw [keys_append] at hb
   rcases List.mem_append.1 hb with hb | hb
   ·exact key.2 hb
   ·simp [keys] at hb;omega
 have hz0:∀ r∈F,zc r n=0:=fun r hr=>by
  have h1:=h.fr r hr
  unfold zc
  rw [h1.2 n (by omega),if_neg (by omega)]
  grind
 have hfn:coef f n=0:=hf n (by omega)
 refine ⟨hgt,fun r hr=>?_,by simp [h.len],?_,fun r hr=>?_,fun r hr=>?_⟩
 ·rcases List.mem_append.1 hr with hr | hr
  ·exact h.nf r hr
  ·simp at hr;subst hr;exact hen
 ·have hlen:(F++[(n,f)]).length=F.length+1:=by simp
  rw [hlen,keys_append]
  have gF:∀ i,i<F.length→(F++[(n,f)]).getD i default=F.getD i default:=fun i hi=>by simp [List.getD_eq_getElem?_getD,List.getElem?_append_left hi]
  have gL:(F++[(n,f)]).getD F.length default=(n,f):=by simp [List.getD_eq_getElem?_getD]
  have gk:∀ j,j<F.length→(keys M++keys [(n,exprT M f)]).getD j 0=(keys M).getD j 0:=fun j hj=>by
   have:j<(keys M).length:=by rw [keys_len,← h.len];exact hj
   simp [List.getD_eq_getElem?_getD,List.getElem?_append_left this]
  have gn:(keys M++keys [(n,exprT M f)]).getD F.length 0=n:=by
   have:F.length=(keys M).length:=by rw [keys_len,h.len]
   rw [this]
   simp [List.getD_eq_getElem?_getD,keys]
  rw [dt_last fun i hi=>by
   unfold mat matA
   rw [gn,gF i hi,hz0 _ (getD_mem hi),Rat.mul_zero]]
  have e1:mat (F++[(n,f)]) (keys M++keys [(n,exprT M f)]) F.length F.length = -(dnf f:Rat):=by
   unfold mat matA
   rw [gn,gL]
   unfold zc
   dsimp only
   rw [hfn,if_pos rfl]
   grind
  have e2:dt F.length (mat (F++[(n,f)]) (keys M++keys [(n,exprT M f)]))=dt F.length (mat F (keys M)):=dt_congr fun i j hi hj=>by
   unfold mat matA
   rw [gk j hj,gF i hi]
  rw [e1,e2]
  intro h1
  rcases Rat.mul_eq_zero.1 h1 with h2 | h2
  ·have h3:(dnf f:Rat)=0:=by grind
   rw [show (0:Rat)=((0:Nat):Rat) from rfl,Rat.natCast_inj] at h3
   have:=dnf_pos f
   omega
  ·exact h.det h2
 ·rcases List.mem_append.1 hr with hr | hr
  ·intro x
   rw [sumZ_append]
   simp only [sumZ]
   rw [hz0 r hr,h.span r hr x]
   grind
  ·simp at hr
   subst hr
   intro x
   rw [sumZ_append]
   simp only [sumZ]
   have e1:sumZ (zc (n,f)) x M=sumZ (coef f) x M:=sumZ_congr x M fun r hr=>by
    unfold zc
    dsimp only
    rw [if_neg fun he:r.1=n=>hni (he ▸ List.mem_map.2 ⟨_,hr,rfl⟩)]
    grind
   have e2:zc (n,f) n = -1:=by
    unfold zc
    dsimp only
    rw [hfn,if_pos rfl]
    grind
   rw [e1,e2]
   unfold zc
   dsimp only
   rw [he x]
   grind
 ·rcases List.mem_append.1 hr with hr | hr
  ·have h1:=h.fr r hr
   exact ⟨by omega,fun x hx=>h1.2 x (by omega)⟩
  ·simp at hr
   subst hr
   exact ⟨by dsimp only;omega,fun x hx=>hf x (by omega)⟩
theorem PlayS.pivot (h:PlayS n M F) {k:Nat} {b o:Int} (hp:Piv n M k b o):PlayS n (pivP M k o (solvF b (M.getD k default).2 o)) F:=by
 have hpg:=hp.pgt
 have hko:o∈keys (pivP M k o (solvF b (M.getD k default).2 o)):=by rw [keys_pivP];simp
 obtain ⟨k',i1,i2,i3,_,_⟩:=look_idx hko
 obtain ⟨hb1,hb2,hb3⟩:=hp.back (List.Perm.refl _) i2 i3
 have hrow:∀ r∈M,Span (pivP M k o (solvF b (M.getD k default).2 o)) (zc r):=fun r hr=>by
  have hf:=hb1.foll
  rw [hb2,hp.solve_back] at hf
  exact (span_foll hpg).1 hf r (hb3.mem_iff.2 hr)
 have hlen:(pivP M k o (solvF b (M.getD k default).2 o)).length=M.length:=by
  unfold pivP
  have h1:=hp.hk
  simp [List.length_eraseIdx,h1]
  omega
 refine ⟨hpg,pivP_nf hp,by rw [hlen,h.len],?_,fun r hr=>(h.span r hr).trans hrow,h.fr⟩
 rw [keys_pivP]
 have hkl:k<(keys M).length:=by rw [keys_len];exact hp.hk
 have h1:((keys M).set k o).Perm ((keys M).eraseIdx k++[o]):=by
  have h2:=perm_erase (l:=(keys M).set k o) (k:=k) (by rw [List.length_set];exact hkl)
  rw [List.getElem_set_self,List.eraseIdx_set_eq] at h2
  exact h2.trans (List.perm_append_singleton _ _).symm
 have h3:dt F.length (mat F ((keys M).set k o))≠0:=by
  have e:dt F.length (mat F ((keys M).set k o))=dt F.length (upd (mat F (keys M)) k fun i=>matA F i o):=dt_congr fun i j hi hj=>by
   unfold upd mat
   by_cases hjk:j=k
   ·subst hjk
    rw [if_pos rfl,List.getD_eq_getElem?_getD,List.getElem?_set_self hkl]
    rfl
   ·rw [if_neg hjk,List.getD_eq_getElem?_getD,List.getD_eq_getElem?_getD,List.getElem?_set_ne (Ne.symm hjk)]
  rw [e,h.solve hp.ho hp.hk]
  intro h0
  rcases Rat.mul_eq_zero.1 h0 with h4 | h4
  ·exact hp.nz (by grind)
  ·exact h.det h4
 have:=mat_perm F h1 [] (n:=F.length) (by simp [keys_len,h.len]) (by simpa using h3)
 simpa using this
end
theorem PlayS.ok {n:Int} {M F:TM} (h:PlayS n M F) (hb:tb F+17*F.length≤268435456):TG (rfT M)∧(∀ r∈M,Sz r.2 268501000)∧nrmT (rfT M)=M∧M.length≤65536:=by
 obtain ⟨D,hm⟩:=h.ht
 have hs:=sz_ht h.gt h.nf hm
 have hl:=keys_le h.gt
 exact ⟨TG.rf h.nf (fun r hr=>(hs r hr).mono (by omega)) hl,fun r hr=>(hs r hr).mono (by omega),nrm_rf h.nf,hl⟩
theorem PlayS.ts {n:Int} {M F:TM} (h:PlayS n M F) (hb:tb F+17*F.length≤268435456):TS (rfT M) :=
 MOk.ts (B:=268501000) ⟨h.nf,(h.ok hb).2.1,by have:=(h.ok hb).2.2.2;omega⟩ (by omega)
theorem PlayS.ex {n:Int} {M F:TM} (h:PlayS n M F) {f:List (Int × RR)} (hf:∀ p∈f,p.2.ok) (hb:tb F+17*F.length+nbs (vals f)≤268435456):FOk f 536870912∧ExOk M f:=by
 obtain ⟨D,hm⟩:=h.ht
 have hfo:FOk f 536870912:=⟨hf,(Sz.of _).mono (by omega)⟩
 refine ⟨hfo,ExOk.ht (k:=nbs (vals f)+1) hfo (fun r hr=>((h.ok (by omega)).2.1 r hr).mono (by omega)) (keys_le h.gt) (dnf_pos (vals f)) (fun x=>Ht.coef _ x) (dnf_lt _) (htf_lt _) hm (by omega)⟩
structure StepR where
 piv:Bool
 form:List (Int × RR)
 b:Int
 o:Int
instance:Inhabited StepR:=⟨⟨false,[],0,0⟩⟩
def rowSt (s:StepR):List AV:=[.bool s.piv,.sl (tab rowM s.form),.int .i64 s.b,.int .i64 s.o]
theorem rowSt_all (f:List StepR):AllLen 4 (tab rowSt f):=tab_all (k:=4) (fun _=>rfl) f
theorem rowSt_one (f:List StepR):AllOne (tab rowSt f):=tab_one (fun _=>rfl) f
theorem rowSt_pure (f:List StepR):AllPure (tab rowSt f):=tab_pure (fun _=>rfl) f
def wst:List StepR→Nat
 | []=>0
 | s::l=>nbs (vals s.form)+18+wst l
theorem wst_append (l m:List StepR):wst (l++m)=wst l+wst m:=by
 induction l with
 | nil=>simp [wst]
 | cons s l ih=>simp only [List.cons_append,wst,ih];omega
theorem wst_take (l:List StepR) {i:Nat} (h:i<l.length):wst (l.take (i+1))=wst (l.take i)+(nbs (vals (l.getD i default).form)+18):=by
 rw [take_snoc h,wst_append]
 simp [wst]
theorem wst_le (l:List StepR) (i:Nat):wst (l.take i)≤wst l:=by
 have:=wst_append (l.take i) (l.drop i)
 rw [List.take_append_drop] at this
 omega
theorem wst_len (l:List StepR):l.length≤wst l:=by
 induction l with
 | nil=>simp
 | cons s l ih=>simp only [List.length_cons,wst];omega
end Go.Proofs.YtjmpajgjaefcjaaGreat.Vm
namespace Go.Proofs.YtjmpajgjaefcjaaGreat.Vm
open Go Go.RowKit
end Go.Proofs.YtjmpajgjaefcjaaGreat.Vm
namespace Go.Proofs.YtjmpajgjaefcjaaGreat.Vm
open Go Go.RowKit
theorem sVk {G G':Prop} (h:G') (e:G=G':=by conv=>lhs;simp (disch:=omega) only [rowsOf,cNat,cN,St.ret,St.seth,Eff.app,Eff.wi,sepL,guardOf,St.known,objOf,List.set,sliceW,litW,copyW,lenOf,bnd,mxOk,ofCells,TI.isAgg,cellsOf,storable,AV.one,dead,laid,overlay,reduceCtorEq,Int.reduceLE,Int.reduceLT,Int.reduceSub,Int.reduceAdd,Nat.reduceMul,Int.reduceToNat,Nat.reducePow,Int.reduceNeg,Nat.reduceAdd,Nat.reduceLT,Nat.reduceLeDiff,sA,sB,Nat.reduceEqDiff,beq_self_eq_true,Int.reduceBEq,Int.reduceBNe,cellsX_all,cellsX_one,cellsX_pure,cQ,rowQ,rowU,rowT,rowM,tab_length,List.take_length,tab_drop,tab_take,tab_append,tab_nil,List.length_append,rowD_all,rowD_one,rowD_pure,rowT_all,rowT_one,rowT_pure,rowU_all,rowU_one,rowU_pure,rowQ_all,rowQ_one,rowQ_pure,rowM_all,rowM_one,rowM_pure,sT]):G:=e.mpr h
theorem sVkX {G G' P:Prop} (p:P) (h:G') (e:P→G=G':=by intro p;conv=>lhs;simp (disch:=omega) only [rowsOf,cNat,cN,St.ret,St.seth,Eff.app,Eff.wi,sepL,guardOf,St.known,objOf,List.set,sliceW,litW,copyW,lenOf,bnd,mxOk,ofCells,TI.isAgg,cellsOf,storable,AV.one,dead,laid,overlay,reduceCtorEq,Int.reduceLE,Int.reduceLT,Int.reduceSub,Int.reduceAdd,Nat.reduceMul,Int.reduceToNat,Nat.reducePow,Int.reduceNeg,Nat.reduceAdd,Nat.reduceLT,Nat.reduceLeDiff,sA,sB,Nat.reduceEqDiff,beq_self_eq_true,Int.reduceBEq,Int.reduceBNe,cellsX_all,cellsX_one,cellsX_pure,cQ,rowQ,rowU,rowT,rowM,tab_length,List.take_length,tab_drop,tab_take,tab_append,tab_nil,List.length_append,rowD_all,rowD_one,rowD_pure,rowT_all,rowT_one,rowT_pure,rowU_all,rowU_one,rowU_pure,rowQ_all,rowQ_one,rowQ_pure,rowM_all,rowM_one,rowM_pure,sT,p]):G:=(e p).mpr h
theorem sVkV {G G':Prop} (h:G') (e:G=G':=by conv=>lhs;simp (disch:=omega) only [rowsOf,cNat,cN,St.ret,St.seth,Eff.app,Eff.wi,sepL,guardOf,St.known,objOf,List.set,sliceW,litW,copyW,lenOf,bnd,mxOk,ofCells,TI.isAgg,cellsOf,storable,AV.one,dead,laid,overlay,reduceCtorEq,Int.reduceLE,Int.reduceLT,Int.reduceSub,Int.reduceAdd,Nat.reduceMul,Int.reduceToNat,Nat.reducePow,Int.reduceNeg,Nat.reduceAdd,Nat.reduceLT,Nat.reduceLeDiff,sA,sB,Nat.reduceEqDiff,beq_self_eq_true,Int.reduceBEq,Int.reduceBNe,cellsX_all,cellsX_one,cellsX_pure,cQ,rowQ,rowU,rowT,rowM,tab_length,List.take_length,tab_drop,tab_take,tab_append,tab_nil,List.length_append,rowD_all,rowD_one,rowD_pure,rowT_all,rowT_one,rowT_pure,rowU_all,rowU_one,rowU_pure,rowQ_all,rowQ_one,rowQ_pure,rowM_all,rowM_one,rowM_pure,sT,view_sref,viewRef,view_agg,views_cons,views_nil,view_bool,view_int,view_sl,view_nils,view_str,view_tup,view_nilif]):G:=e.mpr h
theorem aVk {G G':Prop} (h:G') (f:Wr G'→G:=by intro h;(repeat (first|(refine W_seqV fun K hK=>?_;(try (refine sVk ?_;try exact True.intro));(repeat refine aI ?_);refine hK _ ?_;clear hK K)|(refine W_seqR fun K hK=>?_;(try (refine sVk ?_;try exact True.intro));(repeat refine aI ?_);refine hK _ ?_;clear hK K)|(refine W_seqD mixed [] (by kernel_rfl) fun K hK=>?_;(try (refine sVk ?_;try exact True.intro));(repeat refine aI ?_);refine hK _ ?_;clear hK K)));exact h.out):G:=f ⟨h⟩
theorem mdelta_ok (d:DD) (h:d.ok):Pure Tryz.prog 58 [d.av] (·=d.av):=by
 have h1:=mrat_ok d.a h.1
 have h2:=mrat_ok d.b h.2
 obtain ⟨⟨n,x,y⟩,⟨m,z,w⟩⟩:=d
 simp only [DD.av,DD.cells,RR.av] at *
 (refine pureW Tryz.func58 rfl (rs:=[Go.ResultVar.cell 2 58]) rfl (n:=10) rfl ?_;simp only [List.length_cons,List.length_nil,List.replicate,List.cons_append,List.nil_append])
 (refine aVk ?_)
 ((refine W_seqD mixed [] (by kernel_rfl) ?_);intro K hK;(refine sVk ?_))
 (refine ⟨by kernel_rfl,_,.pure rfl (h1),?_⟩;(try (refine sVk ?_)))
 (refine ⟨by kernel_rfl,_,.pure rfl (h2),?_⟩;(try (refine sVk ?_)))
 (refine hK _ ?_;clear hK K)
 refine W_ret ?_
 (refine qG ?_;try exact True.intro);try (refine sVkV ?_;try exact True.intro)
theorem mdeltas_ok (f:List DD) (h:∀ d∈f,d.ok) (hl:f.length<1099511627776):Pure Tryz.prog 51 [.sl (tab rowD f)] (· = .sl (tab rowD f)):=by
 have hs:∀ i,i<f.length→Pure Tryz.prog 58 [(f.getD i default).av] (·=(f.getD i default).av):=fun i hi=>mdelta_ok _ (h _ (getD_mem hi))
 have hst:∀ i,i<f.length→f.take (i+1)=f.take i++[f.getD i default]:=fun i hi=>take_snoc hi
 (refine pureW Tryz.func51 rfl (rs:=[Go.ResultVar.tmp 2]) rfl (n:=20) rfl ?_;simp only [List.length_cons,List.length_nil,List.replicate,List.cons_append,List.nil_append])
 (refine aVk ?_)
 refine W.le ?_ (Le_nil 3 3 58 6 true rfl rfl)
 simp only [List.set]
 refine W_seq ?_
 ((refine W_seqV ?_);intro K hK;(refine sVk ?_))
 (refine hK _ ?_;clear hK K)
 refine W_block (W_loop (fun t:{t:Nat // t≤f.length} =>
   ⟨[.sl (tab rowD f),.any,.any,.sref 3 0 t.1,.int .i64 t.1,.any,.any,.any,.any,.any,.any,.any,.any,.any,.any,.any,.any,.any,.any,.any],[.dead,.dead,.dead,.arr 58 6 true (tab rowD (f.take t.1)),.dead,.dead,.dead,.dead,.dead,.dead,.dead,.dead,.dead,.dead,.dead,.dead,.dead,.dead,.dead,.dead]⟩) (fun t=>f.length-t.1)
   ⟨0,by omega⟩ (Le_drop (by simp [leE]) (by simp [leH,tab]) rfl rfl) fun t=>?_)
 obtain ⟨i,hi⟩:=t
 dsimp only
 have htl:(f.take i).length=i:=by rw [List.length_take];omega
 by_cases hlt:i<f.length
 ·have hfi:(tab rowD f).getD i []=rowD (f.getD i default):=tab_getD hlt
  have hsi:=hs i hlt
  have hsti:=hst i hlt
  generalize f.getD i default=p at *
  obtain ⟨⟨n,x,y⟩,⟨m,z,w⟩⟩:=p
  simp only [rowD,DD.cells] at hfi
  simp only [DD.av,DD.cells] at hsi
  generalize f.take i=P at *
  refine W_seq ?_
  ((refine W_seqV ?_);intro K hK;(refine sVkX hlt ?_))
  (refine hK _ ?_;clear hK K)
  (refine W_ct rfl ?_)
  refine W_skip ?_
  simp only [thenW]
  refine W_seq ?_
  refine W_block ?_
  ((refine W_regT 6 fun K hK=>?_);(refine sVkX (And.intro hlt hfi) ?_))
  (refine ⟨by kernel_rfl,_,.pure rfl (hsi),?_⟩;(try (refine sVk ?_));(repeat refine aI ?_))
  (refine hK _ ?_;clear hK K)
  simp only [blockW,thenW]
  ((refine W_regV ?_);intro K hK;(refine sVk ?_))
  (refine hK _ ?_;clear hK K)
  simp only [blockW,thenW]
  refine ⟨⟨i+1,by omega⟩,Le_drop (by simp [leE]) (by simp [leH,hsti,← tab_snoc,rowD,DD.cells,tab_take,List.take_of_length_le,htl]) rfl rfl,?_⟩
  dsimp only
  omega
 ·obtain rfl:i=f.length:=by omega
  rw [List.take_length]
  refine W_seq ?_
  ((refine W_seqV ?_);intro K hK;(refine sVk ?_))
  (refine hK _ ?_;clear hK K)
  (refine W_cf rfl ?_)
  refine W_exit ?_
  simp only [thenW,blockW,if_true]
  (refine W.le ?_ (Le_freeze 3 (rows:=tab rowD f) rfl (by simp) (.inl rfl));simp only [St.freeze,List.map_cons,List.map_nil,List.set,if_true,if_false,Nat.reduceEqDiff,reduceCtorEq,List.drop_zero,u32s_take,u32s_drop,froz_any,froz_und,froz_int,froz_bool,froz_str,froz_nils,froz_sl,froz_ia,froz_nilp,froz_nilif,froz_nilfn,froz_nilmp,froz_gl,froz_sref,froz_ptr,froz_agg,froz_tup,froz_fn,froz_ifc,frozs_nil,frozs_cons,froz_dead,froz_arr,froz_mp,froz_it,froz_md,froz_map,froz_iter])
  (repeat' (first | (refine W_seqV fun K hK=>?_;(try (refine sVk ?_));refine hK _ ?_;clear hK K) | (refine W_ret ?_;(refine qG ?_;try exact True.intro))))
theorem keptD_ok {M:TM} {ds:List DD} (hg:GT (ds.length:Int) M) (hd:DsOk ds) (hM:tb M≤68157440) (v:Int):(valD (keptD M ds) v).ok∧nb2 (valD (keptD M ds) v).v≤135266307:=by
 have h1:=kept_nb hg hd hM Prod.fst (.inl rfl) v
 have h2:=kept_nb hg hd hM Prod.snd (.inr rfl) v
 unfold asgP at h1 h2
 rw [asg_val (fun d=>Prod.fst d.v) zeroR_v] at h1
 rw [asg_val (fun d=>Prod.snd d.v) zeroR_v] at h2
 refine ⟨?_,nb2_le h1 h2⟩
 unfold valD at h1 h2 ⊢
 by_cases hv:0≤v∧v<((keptD M ds).length:Int)
 ·rw [if_pos hv] at h1 h2 ⊢
  have h3:v.toNat<(keptD M ds).length:=by omega
  have h4:∃ x,(keptD M ds).getD v.toNat default=dq x:=by
   rw [keptD_len] at h3
   exact ⟨_,kept_getD M ds h3⟩
  obtain ⟨x,hx⟩:=h4
  rw [hx,dq_v] at h1 h2
  rw [hx]
  exact dq_ok (Nat.lt_of_le_of_lt (nb2_le h1 h2) (by omega))
 ·rw [if_neg hv]
  exact ⟨zeroR_ok,zeroR_ok⟩
theorem dsg_self (x:Rat × Rat):dsg (dsub x x)=0:=by
 have h:dsub x x=(0,0):=by simp [dsub];constructor <;> grind
 rw [h];simp [dsg];decide
theorem valD_set_ne {ds:List DD} {k:Nat} {d:DD} {v:Int} (h:v≠k):valD (ds.set k d) v=valD ds v:=by
 unfold valD
 rw [List.length_set]
 split
 ·rename_i hv
  rw [List.getD_eq_getElem?_getD,List.getD_eq_getElem?_getD,List.getElem?_set_ne (by omega)]
 ·rfl
theorem evd_val (ds:List DD) (f:List (Int × Rat)):evd ds f=(ev2 (fun v=>(valD ds v).v.1) f,ev2 (fun v=>(valD ds v).v.2) f):=by
 unfold evd
 refine Prod.ext ?_ ?_
 ·exact ev2_same fun p _=>asg_val (fun d=>d.a.v) zeroR_v ds p.1
 ·exact ev2_same fun p _=>asg_val (fun d=>d.b.v) zeroR_v ds p.1
theorem evd_congr {ds es:List DD} {f:List (Int × Rat)} (h:∀ p∈f,(valD ds p.1).v=(valD es p.1).v):evd ds f=evd es f:=by
 rw [evd_val,evd_val]
 exact Prod.ext (ev2_same fun p hp=>by rw [h p hp]) (ev2_same fun p hp=>by rw [h p hp])
theorem kept_val {M:TM} {ds:List DD} {v:Int} (hv:v∉keys M):(valD (keptD M ds) v).v=(valD ds v).v:=by
 unfold valD
 rw [keptD_len]
 split
 ·rename_i h
  rw [kept_getD M ds (by omega),dq_v]
  unfold extR
  rw [show ((v.toNat:Nat):Int)=v by omega,look_none hv]
 ·rfl
theorem kept_row {n:Int} {M:TM} (hg:GT n M) (ds:List DD) {r:Int × List (Int × Rat)} (hr:r∈M) (i:Nat):evd (keptD M ds) (r.2.take i)=evd ds (r.2.take i) :=
 evd_congr fun p hp=>kept_val (hg.free r hr p (List.mem_of_mem_take hp)).2
theorem set_row {n:Int} {M:TM} (hg:GT n M) (ds:List DD) {k:Nat} (hk:(k:Int)∈keys M) (d:DD) {r:Int × List (Int × Rat)} (hr:r∈M) (i:Nat):evd ((keptD M ds).set k d) (r.2.take i)=evd ds (r.2.take i):=by
 rw [← kept_row hg ds hr i]
 refine evd_congr fun p hp=>?_
 rw [valD_set_ne]
 intro he
 exact (hg.free r hr p (List.mem_of_mem_take hp)).2 (he ▸ hk)
theorem EvOk.kept {M:TM} {ds:List DD} (hg:GT (ds.length:Int) M) (hd:DsOk ds) (hM:tb M≤68157440):EvOk M (keptD M ds):=by
 have he:EvOk M ds:=hd.ev fun r hr=>by have:=tb_mem hr;omega
 refine ⟨fun v=>⟨(keptD_ok hg hd hM v).1,Nat.le_trans (keptD_ok hg hd hM v).2 (by omega)⟩,fun r hr=>⟨(he.ro r hr).1,(he.ro r hr).2.1,fun i=>?_⟩⟩
 rw [kept_row hg ds hr i]
 exact (he.ro r hr).2.2 i
theorem EvOk.set {M:TM} {ds:List DD} (hg:GT (ds.length:Int) M) (hd:DsOk ds) (hM:tb M≤68157440) {k:Nat} (hk:(k:Int)∈keys M) {d:DD} (h1:d.ok) (h2:nb2 d.v≤4294967296):EvOk M ((keptD M ds).set k d):=by
 have he:EvOk M ds:=hd.ev fun r hr=>by have:=tb_mem hr;omega
 have hv:=EvOk.kept hg hd hM
 refine ⟨fun v=>?_,fun r hr=>⟨(he.ro r hr).1,(he.ro r hr).2.1,fun i=>?_⟩⟩
 ·by_cases hvk:v=k
  ·subst hvk
   by_cases hlt:k<(keptD M ds).length
   ·rw [valD_getD (by rw [List.length_set];exact hlt)]
    rw [List.getD_eq_getElem?_getD,List.getElem?_set_self hlt]
    exact ⟨h1,h2⟩
   ·rw [List.set_eq_of_length_le (by omega)]
    exact hv.vo _
  ·rw [valD_set_ne hvk]
   exact hv.vo v
 ·rw [set_row hg ds hk d hr i]
  exact (he.ro r hr).2.2 i
def atA (ds:List DD) (v:Int) (d:DD):AV := .agg (.sl (tab rowD ds)::.int .i64 v::d.cells)
structure Pair (n:Int) (M N F:TM):Prop where
 a:PlayS n M F
 b:PlayS n N F
 mn:∀ r∈N,Span M (zc r)
 nm:∀ r∈M,Span N (zc r)
theorem Pair.nil {n:Int} (h:0≤n∧n≤65536):Pair n [] [] []:=⟨PlayS.nil h,PlayS.nil h,by simp,by simp⟩
theorem Pair.perm {n:Int} {M N F S T:TM} (h:Pair n M N F) (hS:M.Perm S) (hT:N.Perm T):Pair n S T F :=
 ⟨h.a.perm hS,h.b.perm hT,fun r hr=>(h.mn r (hT.mem_iff.2 hr)).perm hS,fun r hr=>(h.nm r (hS.mem_iff.2 hr)).perm hT⟩
theorem Span.more {M:TM} {z:Int→Rat} (h:Span M z) {n:Int} (hz:z n=0) (e:List (Int × Rat)):Span (M++[(n,e)]) z:=fun x=>by
 rw [sumZ_append]
 simp only [sumZ]
 rw [hz,h x]
 grind
theorem zc_out {n:Int} {N:TM} (hg:GT n N) {r:Int × List (Int × Rat)} (hr:r∈N):zc r n=0:=by
 unfold zc
 have h1:=hg.range r.1 (List.mem_map.2 ⟨r,hr,rfl⟩)
 rw [coef_none fun p hp he=>by have:=(hg.free r hr p hp).1;omega,if_neg (by omega)]
 grind
theorem Pair.define {n:Int} {M N F:TM} (h:Pair n M N F) (hn:n<65536) {f:List (Int × Rat)} (hf:∀ x,¬ (0≤x∧x<n)→coef f x=0):Pair (n+1) (M++[(n,exprT M f)]) (N++[(n,exprT N f)]) (F++[(n,f)]):=by
 have hA:=h.a.define hn hf
 have hB:=h.b.define hn hf
 have key:∀ {M N:TM},GT n M→GT n N→(∀ r∈N,Span M (zc r))→PlayS (n+1) (M++[(n,exprT M f)]) (F++[(n,f)])→∀ r∈N++[(n,exprT N f)],Span (M++[(n,exprT M f)]) (zc r):=by
  intro M N hgM hgN hmn hP r hr
  have hold:∀ r∈N,Span (M++[(n,exprT M f)]) (zc r):=fun r hr=>(hmn r hr).more (zc_out hgN hr) _
  rcases List.mem_append.1 hr with hr | hr
  ·exact hold r hr
  ·simp at hr
   subst hr
   have h1:=hP.span (n,f) (by simp)
   have h2:=Span.comb (coef f) hold
   have h3:=h1.lin 1 h2
   have h4:(fun x=>1*zc (n,f) x+sumZ (coef f) x N)=zc (n,exprT N f):=by
    funext x
    unfold zc
    dsimp only
    rw [sumZ_coef hgN f x]
    grind
   rwa [h4] at h3
 exact ⟨hA,hB,key h.a.gt h.b.gt h.mn hA,key h.b.gt h.a.gt h.nm hB⟩
theorem Pair.pivot {n:Int} {M N F:TM} (h:Pair n M N F) {k:Nat} {b o:Int} (hp:Piv n N k b o):Pair n M (pivP N k o (solvF b (N.getD k default).2 o)) F:=by
 have hpg:=hp.pgt
 have hko:o∈keys (pivP N k o (solvF b (N.getD k default).2 o)):=by rw [keys_pivP];simp
 obtain ⟨k',i1,i2,i3,_,_⟩:=look_idx hko
 obtain ⟨hb1,hb2,hb3⟩:=hp.back (List.Perm.refl _) i2 i3
 have hrow:∀ r∈N,Span (pivP N k o (solvF b (N.getD k default).2 o)) (zc r):=fun r hr=>by
  have hf:=hb1.foll
  rw [hb2,hp.solve_back] at hf
  exact (span_foll hpg).1 hf r (hb3.mem_iff.2 hr)
 have hrow2:∀ r∈pivP N k o (solvF b (N.getD k default).2 o),Span N (zc r):=(span_foll hp.gt).1 hp.foll
 exact ⟨h.a,h.b.pivot hp,fun r hr=>(hrow2 r hr).trans h.mn,fun r hr=>(h.nm r hr).trans hrow⟩
theorem keeps_span {n:Int} {M:TM} (hg:GT n M) {x:Int→Rat} (hx:∀ r∈M,x r.1=ev2 x r.2) {r:Int × List (Int × Rat)} (hs:Span M (zc r)):x r.1=ev2 x r.2:=by
 have h1:follB M [r]=true:=(span_foll hg).2 fun q hq=>by simp at hq;subst hq;exact hs
 unfold follB at h1
 rw [List.all_eq_true] at h1
 have h2:=h1 r (by simp)
 have h3:exprT M (wholeF r.1 r.2)=[]:=List.isEmpty_iff.1 h2
 have h4:=ev2_expr x hg hx (wholeF r.1 r.2)
 rw [h3] at h4
 unfold wholeF at h4
 rw [ev2_sub] at h4
 simp only [ev2] at h4
 grind
theorem kept_other {M N:TM} {ds:List DD} (hM:GT (ds.length:Int) M) (hN:GT (ds.length:Int) N) (hs:∀ r∈N,Span M (zc r)):eqTo N (keptD M ds) (keptD M ds).length=true:=by
 unfold eqTo
 rw [List.all_eq_true]
 intro i hi
 rw [List.mem_range,keptD_len] at hi
 unfold eqAt
 have key:extR N (keptD M ds) i=((keptD M ds).getD i default).v:=by
  cases hl:lookM N i with
  | none=>unfold extR;rw [hl]
  | some g =>
   have h1:extR N (keptD M ds) i=evd (keptD M ds) g:=by unfold extR;rw [hl]
   have hm:=look_mem hl
   have e1:=keeps_span hM (kept_rows1 hM) (hs _ hm)
   have e2:=keeps_span hM (kept_rows2 hM) (hs _ hm)
   dsimp only at e1 e2
   rw [asgP_in _ _ (by omega) (by rw [keptD_len];omega),Int.toNat_natCast] at e1 e2
   rw [h1]
   exact Prod.ext e1.symm e2.symm
 rw [key,dsg_self]
 rfl
structure VHt (ds:List DD) (E h j:Nat):Prop where
 pos:0<E
 co:∀ pr:Rat × Rat→Rat,pr=Prod.fst∨pr=Prod.snd→∀ v,Ht E h (asgP pr ds v)
 elt:E<2^j
 hlt:h<2^j
theorem VHt.of' {ds:List DD} (hd:DsOk ds) (K:Nat) (hK:134217730≤K):∃ E h,VHt ds E h K:=by
 have h1:=hd.half Prod.fst (.inl rfl)
 have h2:=hd.half Prod.snd (.inr rfl)
 generalize hA:lift0 (ds.map fun d=>Prod.fst d.v)=A at *
 generalize hB:lift0 (ds.map fun d=>Prod.snd d.v)=B at *
 refine ⟨dnf A*dnf B,htf A*htf B,Nat.mul_pos (dnf_pos _) (dnf_pos _),fun pr hp v=>?_,pow_up (mul_lt_pow (dnf_lt A) (dnf_lt B)) (by omega),pow_up (mul_lt_pow (htf_lt A) (htf_lt B)) (by omega)⟩
 rcases hp with rfl | rfl
 ·have:=(Ht.asg (ds.map fun d=>Prod.fst d.v) v).wide (dnf B)
  rw [hA] at this
  exact this.mono (Nat.mul_le_mul_left _ (dnf_le B))
 ·have:=(Ht.asg (ds.map fun d=>Prod.snd d.v) v).wide' (dnf A)
  rw [hB] at this
  exact this.mono (Nat.mul_le_mul_right _ (dnf_le A))
theorem VHt.of {ds:List DD} (hd:DsOk ds):∃ E h,VHt ds E h 134217730:=VHt.of' hd _ (Nat.le_refl _)
theorem VHt.nb {ds:List DD} {E h j:Nat} (hv:VHt ds E h j) (v:Int):nb2 (valD ds v).v≤j+1:=by
 have h1:=(hv.co Prod.fst (.inl rfl) v).nb hv.pos hv.elt hv.hlt
 have h2:=(hv.co Prod.snd (.inr rfl) v).nb hv.pos hv.elt hv.hlt
 unfold asgP at h1 h2
 rw [asg_val (fun d=>Prod.fst d.v) zeroR_v] at h1
 rw [asg_val (fun d=>Prod.snd d.v) zeroR_v] at h2
 exact nb2_le h1 h2
theorem EvOk.ht {n:Int} {M:TM} (hg:GT n M) (hn:∀ r∈M,NF r.2) {D m k:Nat} (hM:MHt M D m k) {ds:List DD} {E h j:Nat} (hv:VHt ds E h j) (hok:∀ v,(valD ds v).ok) (hk:k+j+20≤4294967296):EvOk M ds:=by
 refine ⟨fun v=>⟨hok v,Nat.le_trans (hv.nb v) (by omega)⟩,fun r hr=>?_⟩
 have hl:=nf_len (hn r hr) hg.hi fun p hp=>(hg.free r hr p hp).1
 have hc:∀ p∈r.2,Ht D m p.2:=fun p hp=>by
  have:=hM.co r hr p.1
  rwa [(hn r hr).coef_mem hp] at this
 refine ⟨by omega,fun p hp=>Nat.le_trans ((hc p hp).nb hM.pos hM.dlt hM.mlt) (by omega),fun i=>?_⟩
 have hti:(r.2.take i).length<2^17:=by rw [List.length_take];omega
 have key:∀ pr:Rat × Rat→Rat,pr=Prod.fst∨pr=Prod.snd→nb (ev2 (asgP pr ds) (r.2.take i))≤4294967296:=fun pr hp=>by
  have h1:=Ht.evn (x:=asgP pr ds) (r.2.take i) fun p hp'=>⟨hc p (List.mem_of_mem_take hp'),hv.co pr hp p.1⟩
  exact Nat.le_trans (h1.nb (k:=17+(k+j)) (Nat.mul_pos hM.pos hv.pos) (pow_up (mul_lt_pow hM.dlt hv.elt) (by omega)) (mul_lt_pow hti (mul_lt_pow hM.mlt hv.hlt))) (by omega)
 exact nb2_le (by rw [evd_fst];exact key _ (.inl rfl)) (by rw [evd_snd];exact key _ (.inr rfl))
theorem VHt.kept {M:TM} {ds:List DD} (hg:GT (ds.length:Int) M) (hn:∀ r∈M,NF r.2) {D m k:Nat} (hM:MHt M D m k) {E h j:Nat} (hv:VHt ds E h j):VHt (keptD M ds) (D*E) (65536*((m+D)*h)) (k+j+18):=by
 refine ⟨Nat.mul_pos hM.pos hv.pos,fun pr hp v=>?_,pow_up (mul_lt_pow hM.dlt hv.elt) (by omega),?_⟩
 ·by_cases hvk:v∈keys M
  ·obtain ⟨r,hr,rfl⟩:=List.mem_map.1 hvk
   rw [kept_basic pr hg hr]
   have:pr (evd ds r.2)=ev2 (asgP pr ds) r.2:=by rcases hp with rfl | rfl <;> rfl
   rw [this]
   have hl:=nf_len (hn r hr) hg.hi fun p hp=>(hg.free r hr p hp).1
   have h1:=Ht.evn (x:=asgP pr ds) r.2 fun p hp'=>⟨by
    have:=hM.co r hr p.1
    rwa [(hn r hr).coef_mem hp'] at this,hv.co pr hp p.1⟩
   exact h1.mono (Nat.mul_le_mul hl (Nat.mul_le_mul_right _ (Nat.le_add_right _ _)))
  ·rw [kept_free pr ds hvk]
   refine ((hv.co pr hp v).wide' D).mono ?_
   have:D*h≤(m+D)*h:=Nat.mul_le_mul_right _ (Nat.le_add_left _ _)
   omega
 ·have h1:m+D<2^(k+1):=by have:=hM.dlt;have:=hM.mlt;rw [Nat.pow_succ];omega
  have h2:65536<2^17:=by decide
  exact pow_up (mul_lt_pow h2 (mul_lt_pow h1 hv.hlt)) (by omega)
theorem keptD_okG {M:TM} {ds:List DD} {E h j:Nat} (hv:VHt (keptD M ds) E h j) (hj:j<17179869183) (v:Int):(valD (keptD M ds) v).ok:=by
 have h1:=hv.nb v
 unfold valD at h1 ⊢
 by_cases hv:0≤v∧v<((keptD M ds).length:Int)
 ·rw [if_pos hv] at h1 ⊢
  have h3:v.toNat<(keptD M ds).length:=by omega
  rw [keptD_len] at h3
  rw [kept_getD M ds h3,dq_v] at h1
  rw [kept_getD M ds h3]
  exact dq_ok (by omega)
 ·rw [if_neg hv]
  exact ⟨zeroR_ok,zeroR_ok⟩
theorem map_rfT (M:TM):((rfT M).map fun r=>(r.1,vals r.2))=M:=by
 unfold rfT
 rw [List.map_map]
 refine (List.map_congr_left fun r _=>?_).trans (List.map_id M)
 simp only [Function.comp,vals_rf]
 rfl
def fullD (n:Nat) (ds:List DD):List DD:=ds.take n++List.replicate (n-ds.length) zeroD0
theorem fullD_len (n:Nat) (ds:List DD):(fullD n ds).length=n:=by simp [fullD];omega
theorem nbl_append (a b:List Rat):nbl (a++b)=nbl a+nbl b:=by
 induction a with
 | nil=>simp [nbl]
 | cons x a ih=>simp only [List.cons_append,nbl,ih];omega
theorem nbl_take (a:List Rat) (n:Nat):nbl (a.take n)≤nbl a:=by
 have:=nbl_append (a.take n) (a.drop n)
 rw [List.take_append_drop] at this
 omega
theorem nbl_zero (k:Nat):nbl (List.replicate k 0)=k:=by
 induction k with
 | zero=>rfl
 | succ k ih=>rw [List.replicate_succ,nbl,ih,nb_zero];omega
theorem fullD_ok {ds:List DD} (h:∀ d∈ds,d.ok) (h1:nbl (ds.map fun d=>d.a.v)≤67000000) (h2:nbl (ds.map fun d=>d.b.v)≤67000000) {n:Nat} (hn:n≤65536):DsOk (fullD n ds):=by
 refine ⟨fun d hd=>?_,?_,?_⟩
 ·rcases List.mem_append.1 hd with hd | hd
  ·exact h d (List.mem_of_mem_take hd)
  ·rw [List.eq_of_mem_replicate hd];exact zeroD0_ok
 ·unfold fullD
  rw [List.map_append,nbl_append,List.map_take,List.map_replicate,show zeroD0.a.v=0 from zeroR_v,nbl_zero]
  have:=nbl_take (ds.map fun d=>d.a.v) n
  omega
 ·unfold fullD
  rw [List.map_append,nbl_append,List.map_take,List.map_replicate,show zeroD0.b.v=0 from zeroR_v,nbl_zero]
  have:=nbl_take (ds.map fun d=>d.b.v) n
  omega
theorem sYe {G G':Prop} (h:G') (e:G=G':=by conv=>lhs;simp (disch:=omega) only [rowsOf,cNat,cN,St.ret,St.seth,Eff.app,Eff.wi,sepL,guardOf,St.known,objOf,List.set,sliceW,litW,copyW,lenOf,bnd,mxOk,ofCells,TI.isAgg,cellsOf,storable,AV.one,dead,laid,overlay,reduceCtorEq,Int.reduceLE,Int.reduceLT,Int.reduceSub,Int.reduceAdd,Nat.reduceMul,Int.reduceToNat,Nat.reducePow,Int.reduceNeg,Nat.reduceAdd,Nat.reduceLT,Nat.reduceLeDiff,sA,sB,Nat.reduceEqDiff,beq_self_eq_true,Int.reduceBEq,Int.reduceBNe,cQ,rowQ,rowU,rowT,rowM,rowSt_all,rowSt_one,rowSt_pure,rowD_all,rowD_one,rowD_pure,tab_length,tab_drop,tab_take,tab_append,tab_nil,rowT_all,rowT_one,rowT_pure,rowU_all,rowU_one,rowU_pure,rowQ_all,rowQ_one,rowQ_pure,rowM_all,rowM_one,rowM_pure,List.take_length,List.length_append,sT]):G:=e.mpr h
theorem sYeX {G G' P:Prop} (p:P) (h:G') (e:P→G=G':=by intro p;conv=>lhs;simp (disch:=omega) only [rowsOf,cNat,cN,St.ret,St.seth,Eff.app,Eff.wi,sepL,guardOf,St.known,objOf,List.set,sliceW,litW,copyW,lenOf,bnd,mxOk,ofCells,TI.isAgg,cellsOf,storable,AV.one,dead,laid,overlay,reduceCtorEq,Int.reduceLE,Int.reduceLT,Int.reduceSub,Int.reduceAdd,Nat.reduceMul,Int.reduceToNat,Nat.reducePow,Int.reduceNeg,Nat.reduceAdd,Nat.reduceLT,Nat.reduceLeDiff,sA,sB,Nat.reduceEqDiff,beq_self_eq_true,Int.reduceBEq,Int.reduceBNe,cQ,rowQ,rowU,rowT,rowM,rowSt_all,rowSt_one,rowSt_pure,rowD_all,rowD_one,rowD_pure,tab_length,tab_drop,tab_take,tab_append,tab_nil,rowT_all,rowT_one,rowT_pure,rowU_all,rowU_one,rowU_pure,rowQ_all,rowQ_one,rowQ_pure,rowM_all,rowM_one,rowM_pure,List.take_length,List.length_append,sT,p]):G:=(e p).mpr h
theorem sYeV {G G':Prop} (h:G') (e:G=G':=by conv=>lhs;simp (disch:=omega) only [rowsOf,cNat,cN,St.ret,St.seth,Eff.app,Eff.wi,sepL,guardOf,St.known,objOf,List.set,sliceW,litW,copyW,lenOf,bnd,mxOk,ofCells,TI.isAgg,cellsOf,storable,AV.one,dead,laid,overlay,reduceCtorEq,Int.reduceLE,Int.reduceLT,Int.reduceSub,Int.reduceAdd,Nat.reduceMul,Int.reduceToNat,Nat.reducePow,Int.reduceNeg,Nat.reduceAdd,Nat.reduceLT,Nat.reduceLeDiff,sA,sB,Nat.reduceEqDiff,beq_self_eq_true,Int.reduceBEq,Int.reduceBNe,cQ,rowQ,rowU,rowT,rowM,rowSt_all,rowSt_one,rowSt_pure,rowD_all,rowD_one,rowD_pure,tab_length,tab_drop,tab_take,tab_append,tab_nil,rowT_all,rowT_one,rowT_pure,rowU_all,rowU_one,rowU_pure,rowQ_all,rowQ_one,rowQ_pure,rowM_all,rowM_one,rowM_pure,List.take_length,List.length_append,sT,view_sref,viewRef,view_agg,views_cons,views_nil,view_bool,view_int,view_sl,view_nils,view_str,view_tup,view_nilif]):G:=e.mpr h
theorem aYe {G G':Prop} (h:G') (f:Wr G'→G:=by intro h;(repeat (first|(refine W_seqV fun K hK=>?_;(try (refine sYe ?_;try exact True.intro));(repeat refine aI ?_);refine hK _ ?_;clear hK K)|(refine W_seqR fun K hK=>?_;(try (refine sYe ?_;try exact True.intro));(repeat refine aI ?_);refine hK _ ?_;clear hK K)|(refine W_seqD mixed [] (by kernel_rfl) fun K hK=>?_;(try (refine sYe ?_;try exact True.intro));(repeat refine aI ?_);refine hK _ ?_;clear hK K)));exact h.out):G:=f ⟨h⟩
theorem pair_piv {n:Int} {M N F:TM} (h:Pair n M N F) {B:Nat} (hb:tb F+17*F.length≤B) (hB:B≤268435456) (b o:Int):∃ n' N' e,
  Pure Tryz.prog 48 [cU n N,.int .i64 b,.int .i64 o] (· = .tup [cU n' N',.int .i64 e])∧(e=0→n'=n∧Pair n M N' F):=by
 obtain ⟨hT,hs,hn,hl⟩:=h.b.ok (by omega)
 have b1:=tpivot_ok n (rfT N) b o hT
 rcases piv_cases n (rfT N) b o with ⟨e,he0,he⟩ | ⟨k,hg,hp,hik,hrg,he⟩
 ·rw [he,cU_rf] at b1
  exact ⟨0,[],e,b1,fun h0=>absurd h0 he0⟩
 ·rw [he,cU_rf] at b1
  rw [hn] at b1 hp
  exact ⟨n,_,0,b1,fun _=>⟨rfl,(h.pivot hp).perm (List.Perm.refl _) (sortM_perm hp.pgt.nodup).symm⟩⟩
theorem pair_def {n:Int} {M N F:TM} (h:Pair n M N F) {f:List (Int × RR)} (hf:∀ p∈f,p.2.ok) {B:Nat} (hb:tb F+17*F.length≤B) (hB:B+(nbs (vals f)+18)≤268435456):∃ n' M' N' v e,
  Pure Tryz.prog 21 [cU n M,cF f] (· = .tup [cU n' M',.int .i64 v,.int .i64 e]) ∧
  Pure Tryz.prog 21 [cU n N,cF f] (· = .tup [cU n' N',.int .i64 v,.int .i64 e])∧(e=0→∃ F',Pair n' M' N' F'∧tb F'+17*F'.length≤B+(nbs (vals f)+18)):=by
 obtain ⟨hT,hs,hn,hl⟩:=h.a.ok (by omega)
 obtain ⟨hT2,hs2,hn2,hl2⟩:=h.b.ok (by omega)
 obtain ⟨hfo,hx⟩:=h.a.ex hf (by omega)
 obtain ⟨hfo2,hx2⟩:=h.b.ex hf (by omega)
 have b1:=tdefine_g n (rfT M) f hT hfo (fun _ _=>by rw [hn];exact hx)
 have b2:=tdefine_g n (rfT N) f hT2 hfo2 (fun _ _=>by rw [hn2];exact hx2)
 rw [cU_rf] at b1 b2
 unfold defV at b1 b2
 rw [hn,if_pos (gt_iff.2 h.a.gt)] at b1
 rw [hn2,if_pos (gt_iff.2 h.b.gt)] at b2
 by_cases hk:knownB n (normF (vals f))=true
 ·rw [if_pos hk] at b1 b2
  by_cases hn6:n=65536
  ·rw [if_pos hn6] at b1 b2
   exact ⟨0,[],[],0,2,b1,b2,fun h0=>by cases h0⟩
  ·rw [if_neg hn6] at b1 b2
   have hpd:=h.define (f:=vals f) (by have:=h.a.gt.hi;omega) fun x hx=>coef_out hk hx
   have hpl:=hpd.perm (sortM_perm hpd.a.gt.nodup).symm (sortM_perm hpd.b.gt.nodup).symm
   have hbn:tb (F++[(n,vals f)])+17*(F++[(n,vals f)]).length≤B+(nbs (vals f)+18):=by
    rw [tb_snoc',List.length_append]
    simp only [List.length_cons,List.length_nil]
    omega
   exact ⟨n+1,_,_,n,0,b1,b2,fun _=>⟨_,hpl,hbn⟩⟩
 ·rw [if_neg hk] at b1 b2
  exact ⟨0,[],[],0,61,b1,b2,fun h0=>by cases h0⟩
theorem pair_end {n:Int} {M N F:TM} (h:Pair n M N F) (hB:tb F+17*F.length≤134217728) {ds:List DD} (hd:DsOk ds) (hl:(ds.length:Int)=n):∃ K L:List DD,
  Pure Tryz.prog 34 [cU n M,.sl (tab rowD ds)] (· = .tup [.sl (tab rowD K),.int .i64 0])∧Pure Tryz.prog 34 [cU n N,.sl (tab rowD ds)] (· = .tup [.sl (tab rowD L),.int .i64 0]) ∧
  Pure Tryz.prog 51 [.sl (tab rowD K)] (· = .sl (tab rowD K))∧Pure Tryz.prog 51 [.sl (tab rowD L)] (· = .sl (tab rowD L)) ∧
  Pure Tryz.prog 53 [cU n N,.sl (tab rowD K)] (· = .tup [.bool true,.int .i64 0])∧Pure Tryz.prog 53 [cU n M,.sl (tab rowD L)] (· = .tup [.bool true,.int .i64 0]) ∧
  Pure Tryz.prog 38 [cU n M,cU n N] (· = .tup [.bool true,.int .i64 0]):=by
 subst hl
 have hn6:=h.a.gt.hi
 obtain ⟨E,hh,hv⟩:=VHt.of hd
 have hvo:∀ v,(valD ds v).ok:=fun v=>(valD_ok hd v).1
 have one:∀ {M N:TM},PlayS (ds.length:Int) M F→PlayS (ds.length:Int) N F→(∀ r∈N,Span M (zc r)) →
   Pure Tryz.prog 34 [cU (ds.length:Int) M,.sl (tab rowD ds)] (· = .tup [.sl (tab rowD (keptD M ds)),.int .i64 0]) ∧
   Pure Tryz.prog 51 [.sl (tab rowD (keptD M ds))] (· = .sl (tab rowD (keptD M ds))) ∧
   Pure Tryz.prog 53 [cU (ds.length:Int) N,.sl (tab rowD (keptD M ds))] (· = .tup [.bool true,.int .i64 0]):=by
  intro M N hM hN hs
  obtain ⟨hT,_,hn,hlM⟩:=hM.ok (by omega)
  obtain ⟨hT2,_,hn2,hlN⟩:=hN.ok (by omega)
  obtain ⟨D,hm⟩:=hM.ht
  obtain ⟨D2,hm2⟩:=hN.ht
  have hev:=EvOk.ht hM.gt hM.nf hm hv hvo (by omega)
  have hvk:=hv.kept hM.gt hM.nf hm
  have hko:=keptD_okG hvk (by omega)
  have hev2:=EvOk.ht hN.gt hN.nf hm2 hvk hko (by omega)
  have b1:=r7ext_g (ds.length:Int) (rfT M) ds hT (by rw [map_rfT];exact hev) (by omega)
  unfold extV at b1
  rw [hn,if_pos (gt_iff.2 hM.gt),if_pos rfl,cU_rf,tab_kept] at b1
  have hkl:=keptD_len M ds
  have b2:=mdeltas_ok (keptD M ds) (fun d hd=>(hev2.mem d hd).1) (by omega)
  have b3:=tholds_g (ds.length:Int) (rfT N) (keptD M ds) hT2 (by rw [hn2];exact hev2) (by omega)
  unfold holdsV at b3
  rw [hn2,if_pos (gt_iff.2 hN.gt),if_pos (by rw [hkl]),kept_other hM.gt hN.gt hs,cU_rf] at b3
  exact ⟨b1,b2,b3⟩
 obtain ⟨a1,a2,a3⟩:=one h.a h.b h.mn
 obtain ⟨c1,c2,c3⟩:=one h.b h.a h.nm
 refine ⟨keptD M ds,keptD N ds,a1,c1,a2,c2,a3,c3,?_⟩
 obtain ⟨hT,hs,hn,hlM⟩:=h.a.ok (by omega)
 obtain ⟨hT2,hs2,hn2,hlN⟩:=h.b.ok (by omega)
 obtain ⟨D,hm⟩:=h.a.ht
 obtain ⟨D2,hm2⟩:=h.b.ht
 have hf1:=FollOk.ht h.a.gt (fun r hr=>(hs r hr).mono (by omega)) (fun r hr=>(hs2 r hr).mono (by omega)) hm hm2 (by omega)
 have hf2:=FollOk.ht h.b.gt (fun r hr=>(hs2 r hr).mono (by omega)) (fun r hr=>(hs r hr).mono (by omega)) hm2 hm (by omega)
 have b:=tsame_g (ds.length:Int) (rfT M) (ds.length:Int) (rfT N) hT hT2 (by rw [hn,hn2];exact fun _ _ _=>⟨hf1,hf2⟩)
 unfold sameV at b
 rw [hn,hn2,gt_iff.2 h.a.gt,gt_iff.2 h.b.gt,(span_foll h.a.gt).2 h.mn,(span_foll h.b.gt).2 h.nm,cU_rf,cU_rf] at b
 simp only [Bool.and_self,if_true] at b
 exact b
def zzD:List AV:=[.bool false,.nils,.nils,.bool false,.nils,.nils]
theorem fill_step (ds:List DD) (nn:Nat) {j:Nat} (h1:j<nn) (h2:j<ds.length):(tab rowD (ds.take j)++List.replicate (nn-j) zzD).set j (rowD (ds.getD j default))=tab rowD (ds.take (j+1))++List.replicate (nn-(j+1)) zzD ∧
  (tab rowD (ds.take j)++List.replicate (nn-j) zzD).getD j []=zzD∧(tab rowD (ds.take j)++List.replicate (nn-j) zzD).length=nn:=by
 have hl:(tab rowD (ds.take j)).length=j:=by rw [tab_length,List.length_take];omega
 obtain ⟨k,hk⟩:∃ k,nn-j=k+1:=⟨nn-j-1,by omega⟩
 have hk2:nn-(j+1)=k:=by omega
 have h3:=set_fill (tab rowD (ds.take j)) zzD (rowD (ds.getD j default)) k
 rw [hl] at h3
 rw [hk,hk2,h3,take_snoc h2,← tab_snoc]
 refine ⟨rfl,?_,by rw [List.length_append,hl,List.length_replicate];omega⟩
 rw [List.getD_eq_getElem?_getD,List.getElem?_append_right (by omega),hl,Nat.sub_self,List.replicate_succ]
 rfl
theorem fill_len (ds:List DD) (nn:Nat) {j:Nat} (h1:j≤nn) (h2:j≤ds.length):(tab rowD (ds.take j)++List.replicate (nn-j) zzD).length=nn:=by
 rw [List.length_append,tab_length,List.length_take,List.length_replicate];omega
theorem fill_end (ds:List DD) (nn:Nat) {j:Nat} (h1:j≤nn) (h2:j≤ds.length) (h3:j=nn∨j=ds.length):(tab rowD (ds.take j)++List.replicate (nn-j) zzD).map AV.datas=tab rowD (fullD nn ds):=by
 rw [List.map_append,List.map_replicate]
 have e1:(tab rowD (ds.take j)).map AV.datas=tab rowD (ds.take j):=by
  unfold tab
  rw [List.map_map]
  exact List.map_congr_left fun d _=>rfl
 have e2:AV.datas zzD=rowD zeroD0:=rfl
 have e3:∀ k,List.replicate k (rowD zeroD0)=tab rowD (List.replicate k zeroD0):=fun k=>by unfold tab;rw [List.map_replicate]
 rw [e1,e2,e3,tab_append]
 unfold fullD
 congr 1
 rcases h3 with h | h
 ·subst h
  rw [Nat.sub_self,show j-ds.length=0 by omega]
 ·subst h
  rw [List.take_length,List.take_of_length_le h1]
theorem new_eq (v:Int):∃ n e,(0≤n∧n≤65536)∧newR v = .tup [cU n [],.int .i64 e]∧((e=0∧0≤v∧v≤65536)∨(e≠0∧v<0)∨(e≠0∧65536<v)):=by
 unfold newR
 split
 ·exact ⟨0,1,by omega,rfl,.inr (.inl ⟨by decide,by assumption⟩)⟩
 ·split
  ·exact ⟨0,2,by omega,rfl,.inr (.inr ⟨by decide,by assumption⟩)⟩
  ·exact ⟨v,0,by omega,rfl,.inl ⟨rfl,by omega,by omega⟩⟩
set_option maxHeartbeats 16000000 in
theorem equivalent_law (v:Int) (l:List StepR) (ds:List DD) (hl:∀ s∈l,∀ p∈s.form,p.2.ok) (hw:wst l≤134217728) (hdo:∀ d∈ds,d.ok) (hd1:nbl (ds.map fun d=>d.a.v)≤67000000) (hd2:nbl (ds.map fun d=>d.b.v)≤67000000) (hdl:ds.length<1099511627776) :
  Pure Tryz.prog 16 [.int .i64 v,.sl (tab rowSt l),.sl (tab rowD ds)] (· = .bool true):=by
 have b1:=tnew_ok v
 have hli:=lives_ok
 obtain ⟨n0,e0,hn0,he,hcs⟩:=new_eq v
 rw [he] at b1
 have hll:=wst_len l
 simp only [cU] at b1
 (refine pureW Tryz.func16 rfl (rs:=[Go.ResultVar.tmp 6]) rfl (n:=184) rfl ?_;simp only [List.length_cons,List.length_nil,List.replicate,List.cons_append,List.nil_append])
 (refine aYe ?_)
 ((refine W_seqV ?_);intro K hK;(refine sYe ?_))
 (refine ⟨by kernel_rfl,_,.pure rfl (b1),?_⟩;(try (refine sYe ?_)))
 (refine hK _ ?_;clear hK K)
 ((refine W_seqV ?_);intro K hK;(refine sYe ?_))
 (refine ⟨by kernel_rfl,_,.pure rfl (b1),?_⟩;(try (refine sYe ?_)))
 (refine hK _ ?_;clear hK K)
 refine W_join (fun s'=>Le [] s' ((fun (a_:AV) (d_:Ob)=>(⟨((.int .i64 v)::(.sl (tab rowSt l))::(.sl (tab rowD ds))::a_::a_::a_::a_::(.ptr 7 0 0)::(.int .i64 e0)::(.ptr 9 0 0)::a_::a_::a_::a_::a_::a_::a_::a_::a_::a_::a_::a_::a_::a_::a_::a_::a_::a_::a_::a_::a_::a_::a_::a_::a_::a_::a_::a_::a_::a_::a_::a_::a_::a_::a_::a_::a_::a_::a_::a_::a_::a_::a_::a_::a_::a_::a_::a_::a_::a_::a_::a_::a_::a_::a_::a_::a_::a_::a_::a_::a_::a_::a_::a_::a_::a_::a_::a_::a_::a_::a_::a_::a_::a_::a_::a_::a_::a_::a_::a_::a_::a_::a_::a_::a_::a_::a_::a_::a_::a_::a_::a_::a_::a_::a_::a_::a_::a_::a_::a_::a_::a_::a_::a_::a_::a_::a_::a_::a_::a_::a_::a_::a_::a_::a_::a_::a_::a_::a_::a_::a_::a_::a_::a_::a_::a_::a_::a_::a_::a_::a_::a_::a_::a_::a_::a_::a_::a_::a_::a_::a_::a_::a_::a_::a_::a_::a_::a_::a_::a_::a_::a_::a_::a_::a_::a_::a_::a_::a_::a_::a_::a_::a_::a_::a_::a_::a_::a_::a_::a_::a_::a_::a_::a_::[]),(d_::d_::d_::d_::d_::d_::d_::(.arr 24 2 false [[.int .i64 n0,.sl (tab rowU [])]])::d_::(.arr 24 2 false [[.int .i64 n0,.sl (tab rowU [])]])::d_::d_::d_::d_::d_::d_::d_::d_::d_::d_::d_::d_::d_::d_::d_::d_::d_::d_::d_::d_::d_::d_::d_::d_::d_::d_::d_::d_::d_::d_::d_::d_::d_::d_::d_::d_::d_::d_::d_::d_::d_::d_::d_::d_::d_::d_::d_::d_::d_::d_::d_::d_::d_::d_::d_::d_::d_::d_::d_::d_::d_::d_::d_::d_::d_::d_::d_::d_::d_::d_::d_::d_::d_::d_::d_::d_::d_::d_::d_::d_::d_::d_::d_::d_::d_::d_::d_::d_::d_::d_::d_::d_::d_::d_::d_::d_::d_::d_::d_::d_::d_::d_::d_::d_::d_::d_::d_::d_::d_::d_::d_::d_::d_::d_::d_::d_::d_::d_::d_::d_::d_::d_::d_::d_::d_::d_::d_::d_::d_::d_::d_::d_::d_::d_::d_::d_::d_::d_::d_::d_::d_::d_::d_::d_::d_::d_::d_::d_::d_::d_::d_::d_::d_::d_::d_::d_::d_::d_::d_::d_::d_::d_::d_::d_::d_::d_::d_::d_::d_::d_::d_::d_::d_::d_::[])⟩:St)) .any .dead)) ?_ ?_
 ·rcases hcs with ⟨h1,h2,h3⟩ | ⟨h1,h2⟩ | ⟨h1,h2⟩
  ·have z1:(e0 == 0)=true:=by simp [h1]
   ((refine W_seqV ?_);intro K hK;(refine sYeX (And.intro z1 (And.intro h2 h3)) ?_))
   (refine ⟨by kernel_rfl,_,.pure rfl (hli),?_⟩;(try (refine sYe ?_)))
   (refine sYeX (And.intro z1 (And.intro h2 h3)) ?_;try exact True.intro)
   (refine hK _ ?_;clear hK K)
   (refine W_cf rfl ?_)
   refine W_skip ?_
   simp only [thenW]
   exact Le_drop (by simp [leE]) (by simp [leH,tab]) rfl rfl
  ·have z1:(e0 == 0)=false:=by simp [h1]
   have h3:¬ (0:Int)≤v:=by omega
   ((refine W_seqV ?_);intro K hK;(refine sYeX (And.intro z1 h3) ?_))
   (refine ⟨by kernel_rfl,_,.pure rfl (hli),?_⟩;(try (refine sYe ?_)))
   (refine sYeX (And.intro z1 h3) ?_;try exact True.intro)
   (refine hK _ ?_;clear hK K)
   (refine W_cf rfl ?_)
   refine W_skip ?_
   simp only [thenW]
   exact Le_drop (by simp [leE]) (by simp [leH,tab]) rfl rfl
  ·have z1:(e0 == 0)=false:=by simp [h1]
   have h3:¬ v≤(65536:Int):=by omega
   have h4:(0:Int)≤v:=by omega
   ((refine W_seqV ?_);intro K hK;(refine sYeX (And.intro z1 (And.intro h3 h4)) ?_))
   (refine ⟨by kernel_rfl,_,.pure rfl (hli),?_⟩;(try (refine sYe ?_)))
   (refine sYeX (And.intro z1 (And.intro h3 h4)) ?_;try exact True.intro)
   (refine hK _ ?_;clear hK K)
   (refine W_cf rfl ?_)
   refine W_skip ?_
   simp only [thenW]
   exact Le_drop (by simp [leE]) (by simp [leH,tab]) rfl rfl
 ·intro s' hle
  refine W.le ?_ hle
  clear hle
  refine W_seq ?_
  ((refine W_seqV ?_);intro K hK;(refine sYe ?_))
  (refine hK _ ?_;clear hK K)
  refine W_block (W_loop (fun s:{s:Nat × Int × TM × TM × TM // s.1≤l.length∧Pair s.2.1 s.2.2.1 s.2.2.2.1 s.2.2.2.2∧tb s.2.2.2.2+17*s.2.2.2.2.length≤wst (l.take s.1)} =>
   ((fun (a_:AV) (d_:Ob)=>(⟨(a_::(.sl (tab rowSt l))::(.sl (tab rowD ds))::a_::a_::a_::a_::(.ptr 7 0 0)::(.int .i64 e0)::(.ptr 9 0 0)::a_::(.int .i64 s.1.1)::a_::a_::a_::a_::a_::a_::a_::a_::a_::a_::a_::a_::a_::a_::a_::a_::a_::a_::a_::a_::a_::a_::a_::a_::a_::a_::a_::a_::a_::a_::a_::a_::a_::a_::a_::a_::a_::a_::a_::a_::a_::a_::a_::a_::a_::a_::a_::a_::a_::a_::a_::a_::a_::a_::a_::a_::a_::a_::a_::a_::a_::a_::a_::a_::a_::a_::a_::a_::a_::a_::a_::a_::a_::a_::a_::a_::a_::a_::a_::a_::a_::a_::a_::a_::a_::a_::a_::a_::a_::a_::a_::a_::a_::a_::a_::a_::a_::a_::a_::a_::a_::a_::a_::a_::a_::a_::a_::a_::a_::a_::a_::a_::a_::a_::a_::a_::a_::a_::a_::a_::a_::a_::a_::a_::a_::a_::a_::a_::a_::a_::a_::a_::a_::a_::a_::a_::a_::a_::a_::a_::a_::a_::a_::a_::a_::a_::a_::a_::a_::a_::a_::a_::a_::a_::a_::a_::a_::a_::a_::a_::a_::a_::a_::a_::a_::a_::a_::a_::a_::a_::a_::a_::[]),(d_::d_::d_::d_::d_::d_::d_::(.arr 24 2 false [[.int .i64 s.1.2.1,.sl (tab rowU s.1.2.2.1)]])::d_::(.arr 24 2 false [[.int .i64 s.1.2.1,.sl (tab rowU s.1.2.2.2.1)]])::d_::d_::d_::d_::d_::d_::d_::d_::d_::d_::d_::d_::d_::d_::d_::d_::d_::d_::d_::d_::d_::d_::d_::d_::d_::d_::d_::d_::d_::d_::d_::d_::d_::d_::d_::d_::d_::d_::d_::d_::d_::d_::d_::d_::d_::d_::d_::d_::d_::d_::d_::d_::d_::d_::d_::d_::d_::d_::d_::d_::d_::d_::d_::d_::d_::d_::d_::d_::d_::d_::d_::d_::d_::d_::d_::d_::d_::d_::d_::d_::d_::d_::d_::d_::d_::d_::d_::d_::d_::d_::d_::d_::d_::d_::d_::d_::d_::d_::d_::d_::d_::d_::d_::d_::d_::d_::d_::d_::d_::d_::d_::d_::d_::d_::d_::d_::d_::d_::d_::d_::d_::d_::d_::d_::d_::d_::d_::d_::d_::d_::d_::d_::d_::d_::d_::d_::d_::d_::d_::d_::d_::d_::d_::d_::d_::d_::d_::d_::d_::d_::d_::d_::d_::d_::d_::d_::d_::d_::d_::d_::d_::d_::d_::d_::d_::d_::d_::d_::d_::d_::d_::d_::d_::d_::[])⟩:St)) .any .dead)) (fun s=>l.length-s.1.1)
   ⟨(0,n0,[],[],[]),by omega,Pair.nil hn0,by simp [tb,wst]⟩ (Le_drop (by simp [leE]) (by simp [leH,tab]) rfl rfl) fun s=>?_)
  obtain ⟨⟨i,n,M,N,F⟩,hi,hp,hb⟩:=s
  dsimp only at *
  have hwi:=wst_le l i
  by_cases hlt:i<l.length
  ·have hXi:(tab rowSt l).getD i []=rowSt (l.getD i default):=tab_getD hlt
   have hli:=hl _ (getD_mem hlt)
   have hwt:=wst_take l hlt
   have hwi1:=wst_le l (i+1)
   generalize l.getD i default=s at *
   obtain ⟨pv,f,b,o⟩:=s
   simp only [rowSt] at hXi
   dsimp only at *
   refine W_seq ?_
   ((refine W_seqV ?_);intro K hK;(refine sYeX hlt ?_))
   (refine hK _ ?_;clear hK K)
   (refine W_ct rfl ?_)
   refine W_skip ?_
   simp only [thenW]
   refine W_seq ?_
   refine W_block ?_
   cases pv with
   | true =>
    obtain ⟨n',N',e,c1,c4⟩:=pair_piv hp hb (by omega) b o
    simp only [cU] at *
    ((refine W_seqV ?_);intro K hK;(refine sYeX (And.intro hlt hXi) ?_))
    (refine hK _ ?_;clear hK K)
    ((refine W_seq (W_seqV ?_));intro K hK;(refine sYe ?_))
    (refine hK _ ?_;clear hK K)
    (refine W_ct rfl ?_)
    ((refine W_seq (W_seqV ?_));intro K hK;(refine sYe ?_))
    (refine ⟨by kernel_rfl,_,.pure rfl (c1),?_⟩;(try (refine sYe ?_)))
    (refine hK _ ?_;clear hK K)
    refine W_seq ?_
    by_cases he:e=0
    ·have z2:(e == 0)=true:=by simp [he]
     obtain ⟨rfl,hp'⟩:=c4 he
     ((refine W_regV ?_);intro K hK;(refine sYeX z2 ?_))
     (refine hK _ ?_;clear hK K)
     (refine W_ct rfl ?_)
     ((refine W_regV ?_);intro K hK;(refine sYe ?_))
     (refine hK _ ?_;clear hK K)
     simp only [thenW]
     refine W_exit ?_
     simp only [thenW,blockW,if_true,reduceCtorEq,if_false,Nat.reduceEqDiff]
     ((refine W_regV ?_);intro K hK;(refine sYe ?_))
     (refine hK _ ?_;clear hK K)
     simp only [blockW,thenW]
     refine ⟨⟨(i+1,n',M,N',F),by dsimp only;omega,hp',by dsimp only;omega⟩,Le_drop (by simp [leE]) (by simp [leH]) rfl rfl,?_⟩
     dsimp only
     omega
    ·have z2:(e == 0)=false:=by simp [he]
     ((refine W_regV ?_);intro K hK;(refine sYeX z2 ?_))
     (refine hK _ ?_;clear hK K)
     (refine W_cf rfl ?_)
     refine W_skip ?_
     simp only [thenW]
     refine W_exit ?_
     simp only [thenW,blockW,if_true,reduceCtorEq,if_false,Nat.reduceEqDiff]
     ((refine W_regV ?_);intro K hK;(refine sYe ?_))
     (refine hK _ ?_;clear hK K)
     simp only [blockW,thenW]
     refine ⟨⟨(i+1,n,M,N,F),by dsimp only;omega,hp,by dsimp only;omega⟩,Le_drop (by simp [leE]) (by simp [leH]) rfl rfl,?_⟩
     dsimp only
     omega
   | false =>
    obtain ⟨n',M',N',v',e,c1,c2,c4⟩:=pair_def hp hli hb (by omega)
    have a1:=mform_ok f hli (by have:=nbs_len (vals f);rw [vals_length] at this;omega)
    simp only [cU,cF] at *
    have z1:=int_neI e
    have z3:=int_neI v'
    ((refine W_seqV ?_);intro K hK;(refine sYeX (And.intro hlt hXi) ?_))
    (refine hK _ ?_;clear hK K)
    ((refine W_seq (W_seqV ?_));intro K hK;(refine sYe ?_))
    (refine hK _ ?_;clear hK K)
    (refine W_cf rfl ?_)
    refine W_skip ?_
    simp only [thenW]
    ((refine W_seqD mixed [(0,9),(2,9)] (by kernel_rfl) ?_);intro K hK;(refine sYe ?_))
    (refine ⟨by kernel_rfl,_,.pure rfl (a1),?_⟩;(try (refine sYe ?_)))
    (refine ⟨by kernel_rfl,_,.pure rfl (c1),?_⟩;(try (refine sYe ?_));(repeat refine aI ?_))
    (refine hK _ ?_;clear hK K)
    ((refine W_seqD mixed [(0,9),(2,9)] (by kernel_rfl) ?_);intro K hK;(refine sYe ?_))
    (refine ⟨by kernel_rfl,_,.pure rfl (a1),?_⟩;(try (refine sYe ?_)))
    (refine ⟨by kernel_rfl,_,.pure rfl (c2),?_⟩;(try (refine sYe ?_));(repeat refine aI ?_))
    (refine hK _ ?_;clear hK K)
    refine W_seq ?_
    ((refine W_seqV ?_);intro K hK;(refine sYeX (And.intro z1 z3) ?_))
    (refine hK _ ?_;clear hK K)
    (refine W_cf rfl ?_)
    refine W_skip ?_
    simp only [thenW]
    by_cases he:e=0
    ·have z2:(e == 0)=true:=by simp [he]
     obtain ⟨F',hp',hb'⟩:=c4 he
     ((refine W_seqV ?_);intro K hK;(refine sYeX z2 ?_))
     (refine hK _ ?_;clear hK K)
     (refine W_ct rfl ?_)
     ((refine W_regD mixed [(1,2)] (by kernel_rfl) ?_);intro K hK;(refine sYe ?_))
     (repeat refine aI ?_);refine hK _ ?_;clear hK K
     simp only [blockW,thenW]
     ((refine W_regV ?_);intro K hK;(refine sYe ?_))
     (refine hK _ ?_;clear hK K)
     simp only [blockW,thenW]
     refine ⟨⟨(i+1,n',M',N',F'),by dsimp only;omega,hp',by dsimp only;omega⟩,Le_drop (by simp [leE]) (by simp [leH]) rfl rfl,?_⟩
     dsimp only
     omega
    ·have z2:(e == 0)=false:=by simp [he]
     ((refine W_seqV ?_);intro K hK;(refine sYeX z2 ?_))
     (refine hK _ ?_;clear hK K)
     (refine W_cf rfl ?_)
     refine W_skip ?_
     simp only [blockW,thenW]
     ((refine W_regV ?_);intro K hK;(refine sYe ?_))
     (refine hK _ ?_;clear hK K)
     simp only [blockW,thenW]
     refine ⟨⟨(i+1,n,M,N,F),by dsimp only;omega,hp,by dsimp only;omega⟩,Le_drop (by simp [leE]) (by simp [leH]) rfl rfl,?_⟩
     dsimp only
     omega
  ·obtain rfl:i=l.length:=by omega
   have hbb:tb F+17*F.length≤134217728:=Nat.le_trans hb (Nat.le_trans hwi hw)
   refine W_seq ?_
   ((refine W_seqV ?_);intro K hK;(refine sYe ?_))
   (refine hK _ ?_;clear hK K)
   (refine W_cf rfl ?_)
   refine W_exit ?_
   simp only [thenW,blockW,if_true]
   refine W_seq ?_
   by_cases h0:e0=0
   rotate_left
   ·have z0:(e0 != 0)=true:=bne_iff_ne.2 h0
    ((refine W_seqV ?_);intro K hK;(refine sYeX z0 ?_))
    (refine hK _ ?_;clear hK K)
    (repeat' (first | (exfalso;simp at h;done) | (refine W_seqV fun K hK=>?_;(try (refine sYe ?_));refine hK _ ?_;clear hK K) | (refine W_ret ?_;(refine qG ?_;try exact True.intro)) | (refine W_cond rfl (fun h=>?_) (fun h=>?_) <;> (try simp only [cond_true,cond_false,ne_eq,cB] at h))))
   ·have z0:(e0 != 0)=false:=by simp [h0]
    ((refine W_seqV ?_);intro K hK;(refine sYeX z0 ?_))
    (refine hK _ ?_;clear hK K)
    (refine W_cf rfl ?_)
    refine W_skip ?_
    simp only [thenW]
    have hn6:n≤65536:=hp.a.gt.hi
    have hn5:0≤n:=hp.a.gt.lo
    obtain ⟨nn,hnn⟩:∃ nn:Nat,n=(nn:Int):=⟨n.toNat,by omega⟩
    subst hnn
    have hn7:nn≤65536:=by omega
    have hfo:=fullD_ok hdo hd1 hd2 (n:=nn) (by omega)
    obtain ⟨K,L,c1,c2,c3,c4,c5,c6,c7⟩:=pair_end hp hbb hfo (by rw [fullD_len])
    simp only [cU] at c1 c2 c5 c6 c7
    ((refine W_seqR ?_);intro K hK;(refine sYe ?_))
    (repeat refine aI ?_);refine hK _ ?_;clear hK K
    have hst:=fun j h1 h2=>@fill_step ds nn j h1 h2
    have hln:=fun j h1 h2=>@fill_len ds nn j h1 h2
    have hen:=fun j h1 h2 h3=>@fill_end ds nn j h1 h2 h3
    have hzl:zzD.length=6:=rfl
    have hzd:List.drop 6 zzD=[]:=rfl
    have hfl:=fullD_len nn ds
    refine W_seq ?_
    ((refine W_seqV ?_);intro K hK;(refine sYe ?_))
    (refine hK _ ?_;clear hK K)
    refine W_block (W_loop (fun s:{j:Nat // j≤nn∧j≤ds.length} =>
     ((fun (a_:AV) (d_:Ob)=>(⟨(a_::a_::(.sl (tab rowD ds))::a_::a_::a_::a_::(.ptr 7 0 0)::a_::(.ptr 9 0 0)::a_::a_::a_::a_::a_::a_::a_::a_::a_::a_::a_::(.sref 113 0 nn)::(.int .i64 s.1)::a_::a_::a_::a_::a_::a_::a_::a_::a_::a_::a_::a_::a_::a_::a_::a_::a_::a_::a_::a_::a_::a_::a_::a_::a_::a_::a_::a_::a_::a_::a_::a_::a_::a_::a_::a_::a_::a_::a_::a_::a_::a_::a_::a_::a_::a_::a_::a_::a_::a_::a_::a_::a_::a_::a_::a_::a_::a_::a_::a_::a_::a_::a_::a_::a_::a_::a_::a_::a_::a_::a_::a_::a_::a_::a_::a_::a_::a_::a_::a_::a_::a_::a_::a_::a_::a_::a_::a_::a_::a_::a_::a_::a_::a_::a_::a_::a_::a_::a_::a_::a_::a_::a_::a_::a_::a_::a_::a_::a_::a_::a_::a_::a_::a_::a_::a_::a_::a_::a_::a_::a_::a_::a_::a_::a_::a_::a_::a_::a_::a_::a_::a_::a_::a_::a_::a_::a_::a_::a_::a_::a_::a_::a_::a_::a_::a_::a_::a_::a_::a_::a_::a_::a_::a_::a_::a_::a_::a_::a_::a_::a_::[]),(d_::d_::d_::d_::d_::d_::d_::(.arr 24 2 false [[.int .i64 (nn:Int),.sl (tab rowU M)]])::d_::(.arr 24 2 false [[.int .i64 (nn:Int),.sl (tab rowU N)]])::d_::d_::d_::d_::d_::d_::d_::d_::d_::d_::d_::d_::d_::d_::d_::d_::d_::d_::d_::d_::d_::d_::d_::d_::d_::d_::d_::d_::d_::d_::d_::d_::d_::d_::d_::d_::d_::d_::d_::d_::d_::d_::d_::d_::d_::d_::d_::d_::d_::d_::d_::d_::d_::d_::d_::d_::d_::d_::d_::d_::d_::d_::d_::d_::d_::d_::d_::d_::d_::d_::d_::d_::d_::d_::d_::d_::d_::d_::d_::d_::d_::d_::d_::d_::d_::d_::d_::d_::d_::d_::d_::d_::d_::d_::d_::d_::d_::d_::d_::d_::d_::d_::d_::(.arr 58 6 true (tab rowD (ds.take s.1)++List.replicate (nn-s.1) zzD))::d_::d_::d_::d_::d_::d_::d_::d_::d_::d_::d_::d_::d_::d_::d_::d_::d_::d_::d_::d_::d_::d_::d_::d_::d_::d_::d_::d_::d_::d_::d_::d_::d_::d_::d_::d_::d_::d_::d_::d_::d_::d_::d_::d_::d_::d_::d_::d_::d_::d_::d_::d_::d_::d_::d_::d_::d_::d_::d_::d_::d_::d_::d_::d_::d_::d_::d_::d_::d_::d_::[])⟩:St)) .any .dead)) (fun s=>nn-s.1)
     ⟨0,by omega,by omega⟩ (Le_drop (by simp [leE]) (by simp [leH,tab,zzD]) rfl rfl) fun s=>?_)
    obtain ⟨j,hj1,hj2⟩:=s
    dsimp only
    have hlj:=hln j hj1 hj2
    by_cases hboth:j<nn∧j<ds.length
    ·obtain ⟨hja,hjb⟩:=hboth
     obtain ⟨hs1,hs2,hs3⟩:=hst j hja hjb
     have hXj:(tab rowD ds).getD j []=rowD (ds.getD j default):=tab_getD hjb
     generalize tab rowD (ds.take j)++List.replicate (nn-j) zzD=R at *
     generalize hR':tab rowD (ds.take (j+1))++List.replicate (nn-(j+1)) zzD=R' at *
     generalize ds.getD j default=y at *
     obtain ⟨⟨yn,yx,yy⟩,⟨ym,yz,yw⟩⟩:=y
     simp only [rowD,DD.cells] at hXj hs1
     generalize zzD=zz at *
     refine W_seq ?_
     ((refine W_seqV ?_);intro K hK;(refine sYeX (And.intro hja hjb) ?_))
     (refine hK _ ?_;clear hK K)
     (refine W_ct rfl ?_)
     refine W_skip ?_
     simp only [thenW]
     refine W_seq ?_
     refine W_block ?_
     ((refine W_regV ?_);intro K hK;(refine sYeX (And.intro hja (And.intro hjb (And.intro hXj (And.intro hs2 (And.intro hs3 (And.intro hzl hzd)))))) ?_))
     (repeat refine aI ?_);refine hK _ ?_;clear hK K
     simp only [blockW,thenW]
     ((refine W_regV ?_);intro K hK;(refine sYe ?_))
     (refine hK _ ?_;clear hK K)
     simp only [blockW,thenW]
     refine ⟨⟨j+1,by omega,by omega⟩,Le_drop (by simp [leE]) (by simp [leH,hR',← hs1]) rfl rfl,?_⟩
     dsimp only
     omega
    ·have hor:j=nn∨j=ds.length:=by omega
     replace hen:=hen j hj1 hj2 hor
     generalize tab rowD (ds.take j)++List.replicate (nn-j) zzD=R at *
     generalize fullD nn ds=fd at *
     clear hst hln
     subst hfl
     by_cases hja:j<fd.length
     ·have hjb:¬ j<ds.length:=fun h=>hboth ⟨hja,h⟩
      refine W_seq ?_
      ((refine W_seqV ?_);intro K hK;(refine sYeX (And.intro hja hjb) ?_))
      (refine hK _ ?_;clear hK K)
      (refine W_cf rfl ?_)
      refine W_exit ?_
      simp only [thenW,blockW,if_true]
      refine W.le ?_ (Le_datas 113 rfl)
      simp only [List.set]
      rw [hen]
      (refine W.le ?_ (Le_freeze 113 (rows:=tab rowD fd) rfl (by simp) (.inl rfl));simp only [St.freeze,List.map_cons,List.map_nil,List.set,if_true,if_false,Nat.reduceEqDiff,reduceCtorEq,List.drop_zero,u32s_take,u32s_drop,froz_any,froz_und,froz_int,froz_bool,froz_str,froz_nils,froz_sl,froz_ia,froz_nilp,froz_nilif,froz_nilfn,froz_nilmp,froz_gl,froz_sref,froz_ptr,froz_agg,froz_tup,froz_fn,froz_ifc,frozs_nil,frozs_cons,froz_dead,froz_arr,froz_mp,froz_it,froz_md,froz_map,froz_iter])
      simp only [Ob.froz,Bool.false_eq_true,if_false,List.map_cons,List.map_nil,frozs_cons,frozs_nil,froz_int,froz_sl,tab_take,List.take_length]
      ((refine W_seqV ?_);intro K hK;(refine sYe ?_))
      (refine ⟨by kernel_rfl,_,.pure rfl (c1),?_⟩;(try (refine sYe ?_)))
      (refine hK _ ?_;clear hK K)
      ((refine W_seqV ?_);intro K hK;(refine sYe ?_))
      (refine ⟨by kernel_rfl,_,.pure rfl (c2),?_⟩;(try (refine sYe ?_)))
      (refine hK _ ?_;clear hK K)
      ((refine W_seqD mixed [] (by kernel_rfl) ?_);intro K hK;(refine sYe ?_))
      (refine ⟨by kernel_rfl,_,.pure rfl (c3),?_⟩;(try (refine sYe ?_)))
      (refine ⟨by kernel_rfl,_,.pure rfl (c5),?_⟩;(try (refine sYe ?_)))
      (refine hK _ ?_;clear hK K)
      ((refine W_seqD mixed [] (by kernel_rfl) ?_);intro K hK;(refine sYe ?_))
      (refine ⟨by kernel_rfl,_,.pure rfl (c4),?_⟩;(try (refine sYe ?_)))
      (refine ⟨by kernel_rfl,_,.pure rfl (c6),?_⟩;(try (refine sYe ?_)))
      (refine hK _ ?_;clear hK K)
      ((refine W_seqV ?_);intro K hK;(refine sYe ?_))
      (refine ⟨by kernel_rfl,_,.pure rfl (c7),?_⟩;(try (refine sYe ?_)))
      (refine hK _ ?_;clear hK K)
      ((refine W_seqV ?_);intro K hK;(refine sYe ?_))
      (refine hK _ ?_;clear hK K)
      refine W_ret ?_
      (refine qG ?_;try exact True.intro);try (refine sYeV ?_;try exact True.intro)
     ·refine W_seq ?_
      ((refine W_seqV ?_);intro K hK;(refine sYeX hja ?_))
      (refine hK _ ?_;clear hK K)
      (refine W_cf rfl ?_)
      refine W_exit ?_
      simp only [thenW,blockW,if_true]
      refine W.le ?_ (Le_datas 113 rfl)
      simp only [List.set]
      rw [hen]
      (refine W.le ?_ (Le_freeze 113 (rows:=tab rowD fd) rfl (by simp) (.inl rfl));simp only [St.freeze,List.map_cons,List.map_nil,List.set,if_true,if_false,Nat.reduceEqDiff,reduceCtorEq,List.drop_zero,u32s_take,u32s_drop,froz_any,froz_und,froz_int,froz_bool,froz_str,froz_nils,froz_sl,froz_ia,froz_nilp,froz_nilif,froz_nilfn,froz_nilmp,froz_gl,froz_sref,froz_ptr,froz_agg,froz_tup,froz_fn,froz_ifc,frozs_nil,frozs_cons,froz_dead,froz_arr,froz_mp,froz_it,froz_md,froz_map,froz_iter])
      simp only [Ob.froz,Bool.false_eq_true,if_false,List.map_cons,List.map_nil,frozs_cons,frozs_nil,froz_int,froz_sl,tab_take,List.take_length]
      ((refine W_seqV ?_);intro K hK;(refine sYe ?_))
      (refine ⟨by kernel_rfl,_,.pure rfl (c1),?_⟩;(try (refine sYe ?_)))
      (refine hK _ ?_;clear hK K)
      ((refine W_seqV ?_);intro K hK;(refine sYe ?_))
      (refine ⟨by kernel_rfl,_,.pure rfl (c2),?_⟩;(try (refine sYe ?_)))
      (refine hK _ ?_;clear hK K)
      ((refine W_seqD mixed [] (by kernel_rfl) ?_);intro K hK;(refine sYe ?_))
      (refine ⟨by kernel_rfl,_,.pure rfl (c3),?_⟩;(try (refine sYe ?_)))
      (refine ⟨by kernel_rfl,_,.pure rfl (c5),?_⟩;(try (refine sYe ?_)))
      (refine hK _ ?_;clear hK K)
      ((refine W_seqD mixed [] (by kernel_rfl) ?_);intro K hK;(refine sYe ?_))
      (refine ⟨by kernel_rfl,_,.pure rfl (c4),?_⟩;(try (refine sYe ?_)))
      (refine ⟨by kernel_rfl,_,.pure rfl (c6),?_⟩;(try (refine sYe ?_)))
      (refine hK _ ?_;clear hK K)
      ((refine W_seqV ?_);intro K hK;(refine sYe ?_))
      (refine ⟨by kernel_rfl,_,.pure rfl (c7),?_⟩;(try (refine sYe ?_)))
      (refine hK _ ?_;clear hK K)
      ((refine W_seqV ?_);intro K hK;(refine sYe ?_))
      (refine hK _ ?_;clear hK K)
      refine W_ret ?_
      (refine qG ?_;try exact True.intro);try (refine sYeV ?_;try exact True.intro)
section
variable {H:Type} {encH:TypeId × Value→H} {P:Program} {w:World}
def Opens (encH:TypeId × Value→H) (P:Program) (w:World) (t:TypeId) {α:Type} (e:α→List AV) (good:α→Prop) (wt:α→Nat):Prop :=
 ∀ (fuel:Nat) (cs:List Value) (x:DataW H × List MemPlace),DataW.trod encH P w 0 (fun _=>true) true fuel t cs=some x→∃ a,Rps w (fun _=>False) noPl (e a) cs∧good a∧wt a≤Rows.uptoBulk x.1
theorem Opens.bool {t:TypeId} (ht:P.underlying t=some .bool):Opens encH P w t (fun b:Bool=>[.bool b]) (fun _=>True) (fun _=>1):=by
 intro fuel cs x h
 obtain ⟨b,rfl,rfl⟩:=DataW.trod_bool ht h
 exact ⟨b,⟨_,_,rfl,rfl,rfl⟩,trivial,by simp [Rows.uptoBulk]⟩
theorem Opens.i64 {t:TypeId} (ht:P.underlying t=some (.int .i64)):Opens encH P w t (fun n:Int=>[.int .i64 n]) (fun n => -9223372036854775808≤n∧n≤9223372036854775807) (fun _=>1):=by
 intro fuel cs x h
 obtain ⟨n,rfl,rfl,hw⟩:=DataW.trod_int ht h
 exact ⟨n,⟨_,_,rfl,rfl,rfl⟩,bounds_i64 hw,by simp [Rows.uptoBulk]⟩
theorem Opens.u32 {t:TypeId} (ht:P.underlying t=some (.int .u32)):Opens encH P w t (fun n:Nat=>[.int .u32 (n:Int)]) (fun n=>n<4294967296) (fun _=>1):=by
 intro fuel cs x h
 obtain ⟨n,rfl,rfl,hw⟩:=DataW.trod_int ht h
 obtain ⟨h1,h2⟩:=bounds_u32 hw
 refine ⟨n.toNat,⟨_,_,rfl,?_,rfl⟩,by omega,by simp [Rows.uptoBulk]⟩
 show Value.int .u32 n=_
 rw [Int.toNat_of_nonneg h1]
theorem Opens.str {t:TypeId} (ht:P.underlying t=some .string):Opens encH P w t (fun s:ByteArray=>[.str s]) (fun _=>True) (fun s=>s.size+1):=by
 intro fuel cs x h
 obtain ⟨s,rfl,rfl,hs⟩:=DataW.trod_string ht h
 refine ⟨s,⟨_,_,rfl,rfl,rfl⟩,trivial,?_⟩
 simp only [Rows.uptoBulk]
 have:s.data.toList.length=s.size:=by rw [Array.length_toList];rfl
 omega
theorem Opens.map {t:TypeId} {α β:Type} {e:α→List AV} {good:α→Prop} {wt:α→Nat} (h:Opens encH P w t e good wt) {e':β→List AV} {good':β→Prop} {wt':β→Nat} (f:α→β)
  (he:∀ a,e' (f a)=e a) (hg:∀ a,good a→good' (f a)) (hw:∀ a,wt' (f a)≤wt a):Opens encH P w t e' good' wt':=by
 intro fuel cs x hx
 obtain ⟨a,h1,h2,h3⟩:=h fuel cs x hx
 exact ⟨f a,by rw [he];exact h1,hg a h2,Nat.le_trans (hw a) h3⟩
theorem Opens.two {t:TypeId} {f0 f1:Field} (ht:P.underlying t=some (.struct #[f0,f1])) (o0:f0.offset=0) (o1:f1.offset=P.cellsOf f0.type) (hl:P.cellsOf t=P.cellsOf f0.type+P.cellsOf f1.type)
  {α β:Type} {e0:α→List AV} {g0:α→Prop} {w0:α→Nat} {e1:β→List AV} {g1:β→Prop} {w1:β→Nat} (h0:Opens encH P w f0.type e0 g0 w0) (h1:Opens encH P w f1.type e1 g1 w1) :
  Opens encH P w t (fun p:α × β=>e0 p.1++e1 p.2) (fun p=>g0 p.1∧g1 p.2) (fun p=>w0 p.1+w1 p.2+1):=by
 intro fuel cs x h
 obtain ⟨xs,n,_,rfl,hlen,hxs,hf⟩:=DataW.trod_struct ht h
 match xs,hxs with
 | [y0,y1],_ =>
  obtain ⟨a,r0,q0,b0⟩:=h0 _ _ _ (hf 0 f0 rfl)
  obtain ⟨b,r1,q1,b1⟩:=h1 _ _ _ (hf 1 f1 rfl)
  refine ⟨(a,b),?_,⟨q0,q1⟩,?_⟩
  ·have:=r0.append r1
   rw [o0,o1,List.drop_zero,List.take_of_length_le (l:=cs.drop _) (by rw [List.length_drop];omega),List.take_append_drop] at this
   exact this
  ·simp only [List.map_cons,List.map_nil,Rows.uptoBulk,Rows.uptoBulkAll]
   omega
theorem Opens.four {t:TypeId} {f0 f1 f2 f3:Field} (ht:P.underlying t=some (.struct #[f0,f1,f2,f3])) (o0:f0.offset=0) (o1:f1.offset=P.cellsOf f0.type) (o2:f2.offset=P.cellsOf f0.type+P.cellsOf f1.type)
  (o3:f3.offset=P.cellsOf f0.type+P.cellsOf f1.type+P.cellsOf f2.type) (hl:P.cellsOf t=P.cellsOf f0.type+P.cellsOf f1.type+P.cellsOf f2.type+P.cellsOf f3.type)
  {α β γ δ:Type} {e0:α→List AV} {g0:α→Prop} {w0:α→Nat} {e1:β→List AV} {g1:β→Prop} {w1:β→Nat} {e2:γ→List AV} {g2:γ→Prop} {w2:γ→Nat} {e3:δ→List AV} {g3:δ→Prop} {w3:δ→Nat}
  (h0:Opens encH P w f0.type e0 g0 w0) (h1:Opens encH P w f1.type e1 g1 w1) (h2:Opens encH P w f2.type e2 g2 w2) (h3:Opens encH P w f3.type e3 g3 w3) :
  Opens encH P w t (fun p:α × β × γ × δ=>e0 p.1++(e1 p.2.1++(e2 p.2.2.1++e3 p.2.2.2))) (fun p=>g0 p.1∧g1 p.2.1∧g2 p.2.2.1∧g3 p.2.2.2) (fun p=>w0 p.1+w1 p.2.1+w2 p.2.2.1+w3 p.2.2.2+1):=by
 intro fuel cs x h
 obtain ⟨xs,n,_,rfl,hlen,hxs,hf⟩:=DataW.trod_struct ht h
 match xs,hxs with
 | [y0,y1,y2,y3],_ =>
  obtain ⟨a,r0,q0,b0⟩:=h0 _ _ _ (hf 0 f0 rfl)
  obtain ⟨b,r1,q1,b1⟩:=h1 _ _ _ (hf 1 f1 rfl)
  obtain ⟨c,r2,q2,b2⟩:=h2 _ _ _ (hf 2 f2 rfl)
  obtain ⟨d,r3,q3,b3⟩:=h3 _ _ _ (hf 3 f3 rfl)
  refine ⟨(a,b,c,d),?_,⟨q0,q1,q2,q3⟩,?_⟩
  ·have:=r0.append (r1.append (r2.append r3))
   rw [o0,o1,o2,o3,List.drop_zero,List.take_of_length_le (l:=cs.drop (P.cellsOf f0.type+P.cellsOf f1.type+P.cellsOf f2.type)) (by rw [List.length_drop];omega),
    ← List.drop_drop (i:=P.cellsOf f2.type),List.take_append_drop,← List.drop_drop (i:=P.cellsOf f1.type),List.take_append_drop,List.take_append_drop] at this
   exact this
  ·simp only [List.map_cons,List.map_nil,Rows.uptoBulk,Rows.uptoBulkAll]
   omega
def sumW {α:Type} (wt:α→Nat):List α→Nat
 | []=>0
 | x::l=>wt x+sumW wt l
theorem sumW_snoc {α:Type} (wt:α→Nat) (l:List α) (x:α):sumW wt (l++[x])=sumW wt l+wt x:=by
 induction l with
 | nil=>simp [sumW]
 | cons y l ih=>simp only [List.cons_append,sumW,ih];omega
theorem bulk_append (l r:List (DataW H)):Rows.uptoBulkAll (l++r)=Rows.uptoBulkAll l+Rows.uptoBulkAll r:=by
 induction l with
 | nil=>simp [Rows.uptoBulkAll]
 | cons x l ih=>simp only [List.cons_append,Rows.uptoBulkAll,ih];omega
theorem Opens.slice {t e:TypeId} (ht:P.underlying t=some (.slice e)) (hpos:0<P.cellsOf e) {α:Type} {enc:α→List AV} {good:α→Prop} {wt:α→Nat} (he:Opens encH P w e enc good wt) :
  Opens encH P w t (fun l:List α=>[.sl (tab enc l)]) (fun l=>∀ x∈l,good x) (fun l=>sumW wt l+1):=by
 intro fuel cs x h
 rcases DataW.trod_slice ht h with ⟨rfl,rfl⟩ | ⟨a,len,cap,elems,rest,n,_,rfl,rfl,hb,hlc,hcm,hlen,hel,_,_⟩
 ·exact ⟨[],⟨_,_,rfl,⟨none,0,rfl,Nat.le_refl _,by decide,.inl rfl⟩,rfl⟩,by simp,by simp [Rows.uptoBulk,sumW]⟩
 ·obtain ⟨b,o,spot⟩:=a
  have step:∀ m,m≤len→∃ (l:List α) (vss:List (List Value)),l.length=m∧vss.flatten.length=m*P.cellsOf e∧RpR w (fun _=>False) noPl (tab enc l) vss∧(∀ x∈l,good x)∧sumW wt l≤Rows.uptoBulkAll ((elems.take m).map (·.1)) ∧
    (0<m→spot=none∧b<w.heap.size)∧CellsAt w b o vss.flatten:=by
   intro m
   induction m with
   | zero=>exact fun _=>⟨[],[],rfl,by simp,rfl,by simp,by simp [sumW,Rows.uptoBulkAll],by omega,fun j u hj=>by simp at hj⟩
   | succ m ih =>
    intro hm
    obtain ⟨l,vss,h1,h2,h3,h4,h5,h6,h7⟩:=ih (by omega)
    have hi:=hel m (by omega)
    have hg:elems[m]?=some (elems[m]'(by omega)):=by simp
    rw [hg] at hi
    obtain ⟨cs',hc,hd⟩:=Option.bind_eq_some_iff.1 hi
    obtain ⟨_,hcl,hcell⟩:=World.cells?_some hc
    obtain ⟨y,hy1,hy2,hy3⟩:=he _ _ _ hd
    obtain ⟨c0,hc0⟩:∃ c0,cs'[0]?=some c0:=⟨cs'[0]'(by omega),by simp⟩
    have g0:w.cell? (((⟨b,o,spot⟩:Addr).add (m*P.cellsOf e)).add 0)=some c0:=by rw [hcell 0 hpos,hc0]
    have hsp:spot=none∧b<w.heap.size:=by
     have hs:spot=none:=by
      cases m with
      | zero=>have:=World.cell?_spot g0;simpa [Addr.add] using this
      | succ m=>exact (h6 (by omega)).1
     refine ⟨hs,?_⟩
     have:((⟨b,o,spot⟩:Addr).add (m*P.cellsOf e)).add 0=⟨b,o+m*P.cellsOf e,none⟩:=by rw [hs,WideShapes.add_plain,WideShapes.add_plain];rfl
     rw [this] at g0
     unfold World.cell? at g0
     split at g0
     ·rename_i heq
      exact (Array.getElem?_eq_some_iff.1 heq).1
     ·cases g0
    obtain ⟨hs,hbs⟩:=hsp
    subst hs
    refine ⟨l++[y],vss++[cs'],by simp [h1],?_,?_,?_,?_,fun _=>⟨rfl,hbs⟩,?_⟩
    ·rw [List.flatten_append,List.length_append,h2,Nat.succ_mul]
     simp [hcl]
    ·rw [← tab_snoc]
     exact h3.append ⟨_,_,rfl,hy1,rfl⟩
    ·intro x hx
     rcases List.mem_append.1 hx with hx | hx
     ·exact h4 x hx
     ·rw [List.mem_singleton] at hx;subst hx;exact hy2
    ·rw [sumW_snoc,List.take_add_one,hg,List.map_append,bulk_append]
     simp only [Option.toList_some,List.map_cons,List.map_nil,Rows.uptoBulkAll]
     omega
    ·intro j u hj
     rw [List.flatten_append] at hj
     by_cases hjl:j<vss.flatten.length
     ·rw [List.getElem?_append_left hjl] at hj
      exact h7 j u hj
     ·rw [List.getElem?_append_right (by omega)] at hj
      simp only [List.flatten_cons,List.flatten_nil,List.append_nil] at hj
      have hlt:j-vss.flatten.length<cs'.length:=(List.getElem?_eq_some_iff.1 hj).1
      have:=hcell (j-vss.flatten.length) (by omega)
      rw [WideShapes.add_plain,WideShapes.add_plain,hj] at this
      rw [← this]
      congr 2
      omega
  obtain ⟨l,vss,h1,h2,h3,h4,h5,h6,h7⟩:=step len (Nat.le_refl _)
  have htl:(tab enc l).length=len:=by rw [tab_length,h1]
  refine ⟨l,⟨_,_,rfl,⟨some ⟨b,o,spot⟩,cap,by rw [htl],by rw [htl];exact hlc,hcm,?_⟩,rfl⟩,h4,?_⟩
  ·by_cases h0:0<len
   ·obtain ⟨rfl,hbs⟩:=h6 h0
    exact .inr ⟨b,o,vss,rfl,fun h=>h,hbs,h7,h3⟩
   ·left
    have:l=[]:=List.eq_nil_of_length_eq_zero (by omega)
    rw [this];rfl
  ·rw [List.take_of_length_le (by omega)] at h5
   simp only [Rows.uptoBulk]
   omega
end
section
variable {H:Type} {encH:TypeId × Value→H} {w:World}
theorem sumW_one (l:List Nat):sumW (fun _=>1) l=l.length:=by
 induction l with
 | nil=>rfl
 | cons x l ih=>simp only [sumW,ih,List.length_cons];omega
theorem opens_nat:Opens encH Tryz.prog w 49 (fun l:List Nat=>[.sl (u32s l)]) Limbs (fun l=>l.length+1) :=
 (Opens.slice Tryz.underlying49 (by show 0<Tryz.prog.cellsOf 128;rw [show Tryz.prog.cellsOf 128=1 by kernel_rfl];decide) (Opens.u32 Tryz.underlying128)).map id (fun _=>rfl) (fun _ h=>h) (fun l=>by show l.length+1≤sumW (fun _=>1) l+1;rw [sumW_one];exact Nat.le_refl _)
theorem opens_int:Opens encH Tryz.prog w 51 (fun p:Bool × List Nat=>[.bool p.1,.sl (u32s p.2)]) (fun p=>Limbs p.2) (fun p=>p.2.length+3) :=
 (Opens.two Tryz.underlying51 rfl (by kernel_rfl) (by kernel_rfl) (Opens.bool Tryz.underlying4) opens_nat).map id (fun _=>rfl) (fun _ h=>h.2) (fun l=>by simp only [id];omega)
def RR.good (r:RR):Prop:=Limbs r.num∧Limbs r.den
def RR.wt (r:RR):Nat:=r.num.length+r.den.length+5
theorem RR.bits_wt (r:RR):r.bits≤32*r.wt:=by unfold RR.bits RR.wt;omega
theorem opens_rat:Opens encH Tryz.prog w 53 rowR RR.good RR.wt :=
 (Opens.two Tryz.underlying53 rfl (by kernel_rfl) (by kernel_rfl) opens_int opens_nat).map (fun p=>(⟨p.1.1,p.1.2,p.2⟩:RR)) (fun _=>rfl) (fun _ h=>h) (fun l=>by simp only [RR.wt];omega)
def mono_wt (p:Int × RR):Nat:=p.2.wt+2
theorem opens_mono:Opens encH Tryz.prog w 55 rowM (fun p:Int × RR=>(-9223372036854775808≤p.1∧p.1≤9223372036854775807)∧p.2.good) mono_wt :=
 (Opens.two Tryz.underlying55 rfl (by kernel_rfl) (by kernel_rfl) (Opens.i64 Tryz.underlying3) opens_rat).map id (fun _=>rfl) (fun _ h=>h) (fun l=>by simp only [id,mono_wt];omega)
def form_good (f:List (Int × RR)):Prop:=∀ p∈f,(-9223372036854775808≤p.1∧p.1≤9223372036854775807)∧p.2.good
def form_wt (f:List (Int × RR)):Nat:=sumW mono_wt f+1
theorem opens_form:Opens encH Tryz.prog w 26 (fun f=>[cF f]) form_good form_wt :=
 Opens.slice Tryz.underlying26 (by show 0<Tryz.prog.cellsOf 55;rw [show Tryz.prog.cellsOf 55=4 by kernel_rfl];decide) opens_mono
def At.good (a:At):Prop:=form_good a.form∧a.bound.good
def At.wt (a:At):Nat:=a.name.size+form_wt a.form+a.bound.wt+3
end
theorem RR.good.ok {r:RR} (h:r.good) (hb:r.wt≤1048576):r.ok:=⟨h.1,h.2,by unfold RR.wt at hb;omega,by unfold RR.wt at hb;omega⟩
theorem RR.good.nb {r:RR} (h:r.good):nb r.v≤32*r.wt:=Nat.le_trans (nb_v r h.1 h.2) r.bits_wt
theorem form_nbs:∀ {f:List (Int × RR)},form_good f→nbs (vals f)≤32*sumW mono_wt f
 | [],_=>by simp [vals,nbs]
 | p::f,h=>by
  have h1:=(h p List.mem_cons_self).2.nb
  have h2:=form_nbs (f:=f) fun q hq=>h q (List.mem_cons_of_mem _ hq)
  simp only [vals,List.map_cons,nbs,sumW,mono_wt] at *
  omega
theorem sumW_mem {α:Type} {wt:α→Nat} {l:List α} {x:α} (h:x∈l):wt x≤sumW wt l:=by
 induction l with
 | nil=>cases h
 | cons y l ih =>
  simp only [sumW]
  rcases List.mem_cons.1 h with rfl | h
  ·omega
  ·have:=ih h;omega
theorem form_ok {f:List (Int × RR)} (h:form_good f) (hb:form_wt f≤1048576):FOk f 67108864∧nbs (vals f)≤67108864:=by
 have h1:=form_nbs h
 unfold form_wt at hb
 refine ⟨⟨fun p hp=>(h p hp).2.ok ?_,(Sz.of _).mono (by omega)⟩,by omega⟩
 have:=sumW_mem (wt:=mono_wt) hp
 unfold mono_wt at this hb
 omega
theorem At.good.ok {a:At} (h:a.good) (hb:a.wt≤1048576):AtOk a:=by
 unfold At.wt at hb
 obtain ⟨h1,h2⟩:=form_ok h.1 (by omega)
 refine ⟨h1,h2,h.2.ok (by omega),?_⟩
 have:=h.2.nb
 omega
theorem sumW_len {α:Type} {wt:α→Nat} (h:∀ x,1≤wt x) (l:List α):l.length≤sumW wt l:=by
 induction l with
 | nil=>simp [sumW]
 | cons x l ih=>have:=h x;simp only [List.length_cons,sumW];omega
section
variable {H:Type} {encH:TypeId × Value→H} {P:Program} {w:World}
theorem rps_some {α:Type} {t:TypeId} {e:α→List AV} {good:α→Prop} {wt:α→Nat} (h:Opens encH P w t e good wt) {v:Value} {d:DataW H} {p:List MemPlace} (hd:DataW.Trod encH P w 0 (fun _=>true) true t v d p) :
  ∃ a,Rps w (fun _=>False) noPl (e a) v.cells.toList∧good a∧wt a≤Rows.uptoBulk d:=by
 obtain ⟨fuel,hf⟩:=hd
 exact h fuel _ _ hf
theorem par_slice {α:Type} {t el:TypeId} (ht:P.underlying t=some (.slice el)) {e:α→AV} {good:α→Prop} {wt:α→Nat} (h:Opens encH P w t (fun a=>[e a]) good wt) {base:Nat} {v:Value} (hok:Value.okWide P w .any base t v) {d:DataW H} {p:List MemPlace} (hd:DataW.Trod encH P w 0 (fun _=>true) true t v d p) :
  ∃ a,Rp w (fun _=>False) noPl (e a) v∧good a∧wt a≤Rows.uptoBulk d:=by
 unfold Value.okWide at hok
 rw [ht] at hok
 unfold Cell.okWide at hok
 rw [ht] at hok
 obtain ⟨a,h1,h2,h3⟩:=rps_some h hd
 obtain ⟨u,us,e1,e2,e3⟩:=h1
 have e4:us=[]:=e3
 subst e4
 cases v <;> simp only [Value.cells] at e1 <;> first
  | (simp only [Cell.ok,ht] at hok;done)
  | (have e5:=(List.cons.inj e1).1;subst e5;exact ⟨a,e2,h2,h3⟩)
theorem par_int {α:Type} {t:TypeId} {k:IntKind} (ht:P.underlying t=some (.int k)) {e:α→AV} {good:α→Prop} {wt:α→Nat} (h:Opens encH P w t (fun a=>[e a]) good wt) {base:Nat} {v:Value} (hok:Value.okWide P w .any base t v) {d:DataW H} {p:List MemPlace} (hd:DataW.Trod encH P w 0 (fun _=>true) true t v d p) :
  ∃ a,Rp w (fun _=>False) noPl (e a) v∧good a∧wt a≤Rows.uptoBulk d:=by
 unfold Value.okWide at hok
 rw [ht] at hok
 unfold Cell.okWide at hok
 rw [ht] at hok
 obtain ⟨a,h1,h2,h3⟩:=rps_some h hd
 obtain ⟨u,us,e1,e2,e3⟩:=h1
 have e4:us=[]:=e3
 subst e4
 cases v <;> simp only [Value.cells] at e1 <;> first
  | (simp only [Cell.ok,ht] at hok;done)
  | (have e5:=(List.cons.inj e1).1;subst e5;exact ⟨a,e2,h2,h3⟩)
end
section
variable {H:Type} {encH:TypeId × Value→H} {w:World}
def row_good (r:Int × List (Int × RR)):Prop:=form_good r.2
def row_wt (r:Int × List (Int × RR)):Nat:=form_wt r.2
def tab_good (p:Int × TR):Prop:=∀ r∈p.2,row_good r
def tab_wt (p:Int × TR):Nat:=sumW row_wt p.2+1
def cellsT (p:Int × TR):List AV:=[.int .i64 p.1,.sl (tab rowT p.2)]
end
section
variable {H:Type} {encH:TypeId × Value→H} {w:World}
def StepR.good (s:StepR):Prop:=form_good s.form
def StepR.wt (s:StepR):Nat:=form_wt s.form
theorem opens_step:Opens encH Tryz.prog w 72 rowSt StepR.good StepR.wt :=
 (Opens.four Tryz.underlying72 (by kernel_rfl) (by kernel_rfl) (by kernel_rfl) (by kernel_rfl) (by kernel_rfl) (Opens.bool Tryz.underlying4) opens_form (Opens.i64 Tryz.underlying3) (Opens.i64 Tryz.underlying3)).map (fun p=>(⟨p.1,p.2.1,p.2.2.1,p.2.2.2⟩:StepR)) (fun p=>rfl) (fun _ h=>h.2.1) (fun p=>by simp only [StepR.wt];omega)
theorem opens_script:Opens encH Tryz.prog w 70 (fun l:List StepR=>[.sl (tab rowSt l)]) (fun l=>∀ s∈l,s.good) (fun l=>sumW StepR.wt l+1) :=
 Opens.slice Tryz.underlying70 (by show 0<Tryz.prog.cellsOf 72;rw [show Tryz.prog.cellsOf 72=4 by kernel_rfl];decide) opens_step
end
theorem wst_good:∀ {l:List StepR},(∀ s∈l,s.good)→wst l≤50*sumW StepR.wt l
 | [],_=>Nat.le_refl _
 | s::l,h=>by
  have h1:=wst_good (l:=l) fun x hx=>h x (List.mem_cons_of_mem _ hx)
  have h2:=form_nbs (h s List.mem_cons_self)
  simp only [wst,sumW,StepR.wt,form_wt] at *
  omega
theorem steps_ok {l:List StepR} (h:∀ s∈l,s.good) (hb:sumW StepR.wt l≤1048576):(∀ s∈l,∀ p∈s.form,p.2.ok)∧wst l≤52428800:=by
 refine ⟨fun s hs=>(form_ok (h s hs) ?_).1.1,by have:=wst_good h;omega⟩
 have:=sumW_mem (wt:=StepR.wt) hs
 have e:form_wt s.form=s.wt:=rfl
 omega
section
variable {H:Type} {encH:TypeId × Value→H} {P:Program} {w:World}
end
section
variable {H:Type} {encH:TypeId × Value→H} {w:World}
def DD.good (d:DD):Prop:=d.a.good∧d.b.good
def DD.wt (d:DD):Nat:=d.a.wt+d.b.wt
theorem opens_delta:Opens encH Tryz.prog w 58 DD.cells DD.good DD.wt :=
 (Opens.two Tryz.underlying58 (by kernel_rfl) (by kernel_rfl) (by kernel_rfl) opens_rat opens_rat).map (fun p=>(⟨p.1,p.2⟩:DD)) (fun p=>rfl) (fun _ h=>h) (fun p=>by simp only [DD.wt];omega)
theorem opens_deltas:Opens encH Tryz.prog w 44 (fun l:List DD=>[.sl (tab rowD l)]) (fun l=>∀ x∈l,x.good) (fun l=>sumW DD.wt l+1) :=
 Opens.slice (enc:=rowD) Tryz.underlying44 (by show 0<Tryz.prog.cellsOf 58;rw [show Tryz.prog.cellsOf 58=6 by kernel_rfl];decide) opens_delta
end
theorem DD.good.ok {d:DD} (h:d.good) (hb:d.wt≤1048576):d.ok:=⟨h.1.ok (by unfold DD.wt at hb;omega),h.2.ok (by unfold DD.wt at hb;omega)⟩
theorem DD.good.nb {d:DD} (h:d.good):nb2 d.v≤32*d.wt:=by
 unfold DD.wt
 exact nb2_le (Nat.le_trans h.1.nb (by omega)) (Nat.le_trans h.2.nb (by omega))
theorem nbl_ds (g:DD→Rat) (hg:∀ d:DD,d.good→nb (g d)≤32*d.wt):∀ {ds:List DD},(∀ x∈ds,x.good)→nbl (ds.map g)≤32*sumW DD.wt ds
 | [],_=>Nat.le_refl _
 | d::ds,h=>by
  have h1:=nbl_ds g hg (ds:=ds) fun x hx=>h x (List.mem_cons_of_mem _ hx)
  have h2:=hg d (h d List.mem_cons_self)
  simp only [List.map_cons,nbl,sumW] at *
  omega
theorem deltas_good {ds:List DD} (h:∀ x∈ds,x.good) (hb:sumW DD.wt ds≤1048576):DsOk ds:=by
 refine ⟨fun d hd=>?_,?_,?_⟩
 ·have hw:d.wt≤sumW DD.wt ds:=sumW_mem (wt:=DD.wt) hd
  exact (h d hd).ok (by omega)
 ·have:=nbl_ds (fun d=>d.a.v) (fun d hd=>Nat.le_trans (nb2_1 d.v) hd.nb) h
  omega
 ·have:=nbl_ds (fun d=>d.b.v) (fun d hd=>Nat.le_trans (nb2_2 d.v) hd.nb) h
  omega
section
variable {H:Type} {encH:TypeId × Value→H} {w:World}
abbrev AtR:=List DD × Int × DD
def AtR.cells (x:AtR):List AV := .sl (tab rowD x.1)::.int .i64 x.2.1::x.2.2.cells
def AtR.good (x:AtR):Prop:=(∀ d∈x.1,d.good)∧x.2.2.good
def AtR.wt (x:AtR):Nat:=sumW DD.wt x.1+x.2.2.wt
end
end Go.Proofs.YtjmpajgjaefcjaaGreat.Vm
namespace Go.Proofs.YtjmpajgjaefcjaaGreat.Vm
open Go Go.RowKit Go.ChangeShapes Go.WideShapes Go.ChangeAt
def joinedRest (P:Program) (fn:Func) (s:ChangeSpec) (c:OpenClaim):Bool :=
 (c.wf (OpenSpec.ofChange s))&&(fn.params.all (P.readableRec ·))&&(namedTie P c.named s.vars)&&((c.stops == []))&&((c.knobs == []))&&((c.maps == (fn.params.toList++s.plain.varTypes P).any (P.mapsRec ·)))&&((c.ifaces == (fn.params.toList++s.plain.varTypes P).any (P.ifacesRec ·)))&&((c.mapsOut == P.mapsAmong fn.resultTypes.toList))&&((c.loops == (fn.params.toList++s.plain.varTypes P).any (P.loopsFrom ·)))&&((c.wideKeys == (fn.params.toList++s.plain.varTypes P++fn.resultTypes.toList).any (P.wideKeysFrom ·)))&&(s.vars.all (P.varReadable ·))&&(fn.resultTypes.all (fun t=>P.readableRec t&&decide (t<P.types.size)))&&((c.ifacesOut == fn.resultTypes.toList.any (P.ifacesRec ·)))&&((c.loopsOut == fn.resultTypes.toList.any (P.loopsFrom ·)))&&(c.shortTexts.isNone)&&((c.kinds == (if c.domain.isEmpty then [] else fn.params.toList.map fun t=>match P.underlying t with|some (.int k)=>some k|_=>none)))&&((c.pinned == c.pinnedBy))&&((c.veiled == (fn.params.toList++s.plain.varTypes P++fn.resultTypes.toList).any (P.veiledRec ·)))&&(c.veiledFits P fn.params.toList (fn.params.toList++s.plain.varTypes P++fn.resultTypes.toList))
theorem joined_of {P:Program} {f:FuncId} {fn:Func} {s:ChangeSpec} {c:OpenClaim} (h1:(laidOutB P)=true) (h2:(mapsRowed P)=true) (h6:((P.stops == []))=true) (h8:((P.stopKnobs == []))=true) (h24:(P.stopsHeard)=true) (h25:(P.mayEnter)=true) (h9:((c.inPlace == P.inPlace f))=true) (h10:((c.unfollowed == P.unfollowed f))=true) (h11:((c.recurses == P.recurses f))=true) (h12:((c.named == P.varsNamed f))=true) (h22:((c.plainKeys == P.plainKeys))=true) (h26:((c.lifted == P.liftsFinal))=true) (h27:((P.make == some c.make))=true)
  (h:joinedRest P fn s c=true):joinedFacts P f fn s c=true:=by
 unfold joinedRest at h
 unfold joinedFacts
 simp only [Bool.and_eq_true] at h ⊢
 obtain ⟨⟨⟨⟨⟨⟨⟨⟨⟨⟨⟨⟨⟨⟨⟨⟨⟨⟨r0,r3⟩,r4⟩,r5⟩,r7⟩,r13⟩,r14⟩,r15⟩,r16⟩,r17⟩,r18⟩,r19⟩,r20⟩,r21⟩,r23⟩,r28⟩,r29⟩,r30⟩,r31⟩:=h
 exact ⟨⟨⟨⟨⟨⟨⟨⟨⟨⟨⟨⟨⟨⟨⟨⟨⟨⟨⟨⟨⟨⟨⟨⟨⟨⟨⟨⟨⟨⟨⟨r0,h1⟩,h2⟩,r3⟩,r4⟩,r5⟩,h6⟩,r7⟩,h8⟩,h9⟩,h10⟩,h11⟩,h12⟩,r13⟩,r14⟩,r15⟩,r16⟩,r17⟩,r18⟩,r19⟩,r20⟩,r21⟩,h22⟩,r23⟩,h24⟩,h25⟩,h26⟩,h27⟩,r28⟩,r29⟩,r30⟩,r31⟩
def plainClaim : OpenClaim := { program := "", sum := "", func := "", spec := "" }
theorem pf_laid:laidOutB Tryz.prog=true:=by kernel_rfl
theorem pf_maps:mapsRowed Tryz.prog=true:=by kernel_rfl
theorem pf_stops:(Tryz.prog.stops == [])=true:=by kernel_rfl
theorem pf_knobs:(Tryz.prog.stopKnobs == [])=true:=by kernel_rfl
theorem pf_heard:Tryz.prog.stopsHeard=true:=by kernel_rfl
theorem pf_enter:Tryz.prog.mayEnter=true:=by kernel_rfl
theorem pf_keys:(plainClaim.plainKeys == Tryz.prog.plainKeys)=true:=by kernel_rfl
theorem pf_lifts:(plainClaim.lifted == Tryz.prog.liftsFinal)=true:=by kernel_rfl
theorem pf_make:(Tryz.prog.make == some plainClaim.make)=true:=by kernel_rfl
theorem pf_own:ownKnob Tryz.prog.godebug=none:=by kernel_rfl
namespace tableauEquivalent_
theorem own:ownKnob Tryz.prog.godebug=none:=pf_own
theorem laidOut:laidOutB Tryz.prog=true:=pf_laid
theorem pf_place:(Rows.tableauEquivalentUptoRow.inPlace == Tryz.prog.inPlace 16)=true:=by kernel_rfl
theorem pf_foll:(Rows.tableauEquivalentUptoRow.unfollowed == Tryz.prog.unfollowed 16)=true:=by kernel_rfl
theorem pf_rec:(Rows.tableauEquivalentUptoRow.recurses == Tryz.prog.recurses 16)=true:=by kernel_rfl
theorem pf_nam:(Rows.tableauEquivalentUptoRow.named == Tryz.prog.varsNamed 16)=true:=by kernel_rfl
theorem pf_rest:joinedRest Tryz.prog Tryz.f16 (Rows.OpenSpec.upto Rows.tableauEquivalentSpec).bare Rows.tableauEquivalentUptoRow=true:=by kernel_rfl
theorem facts:joinedFacts Tryz.prog 16 Tryz.f16 (Rows.OpenSpec.upto Rows.tableauEquivalentSpec).bare Rows.tableauEquivalentUptoRow=true:=joined_of pf_laid pf_maps pf_stops pf_knobs pf_heard pf_enter pf_place pf_foll pf_rec pf_nam pf_keys pf_lifts pf_make pf_rest
theorem contract (H:Type) (encH:TypeId × Value→H) (W:World) (base:Nat) (args:Array Value) (ds gs:List (DataW H)) (before:List MemPlace)
  (hval:∀ (j:Nat) t v,Tryz.f16.params[j]?=some t→args[j]?=some v→Value.okWide Tryz.prog W .any base t v)
  (hW:DataW.Whole encH Tryz.prog Tryz.f16.params.toList Rows.tableauEquivalentSpec.vars false W args.toList ds gs before) (hk:Rows.uptoSmall H (ds++gs)=true) :
  Calls Tryz.prog 16 args W fun e W'=>∃ v,e = .returned v∧Rows.tableauEquivalentSpec.post encH Tryz.prog Tryz.f16 false true false false W args v W':=by
 have hW':=hW
 obtain ⟨p,q,hA0,hV,rfl,hfz,hnd⟩:=hW
 have hA:DataW.TrodAll encH Tryz.prog W 0 (fun _=>true) true Tryz.f16.params.toList args.toList ds p:=hA0
 rw [Tryz.params16] at hA hval
 obtain ⟨v0,v1,v2,d0,d1,d2,p0,p1,p2,rfl,rfl,rfl,h0,h1,h2⟩:=trodAll_three hA
 obtain ⟨rfl,rfl⟩:=trodVars_none hV
 simp only [List.append_nil] at hW' hk
 have hlt:∀ x∈p0++p1++p2,x.block<W.heap.size:=fun x hx=>hW'.lt x (by simpa using hx)
 obtain ⟨a0,r0,g0,b0⟩:=par_int Tryz.underlying3 (Opens.i64 Tryz.underlying3) (hval 0 3 v0 rfl rfl) h0
 obtain ⟨a1,r1,g1,b1⟩:=par_slice Tryz.underlying70 opens_script (hval 1 70 v1 rfl rfl) h1
 obtain ⟨a2,r2,g2,b2⟩:=par_slice Tryz.underlying44 opens_deltas (hval 2 44 v2 rfl rfl) h2
 have hbulk:Rows.uptoBulkAll [d0,d1,d2]≤1048576:=of_decide_eq_true hk
 simp only [Rows.uptoBulkAll] at hbulk
 have hlaw:=equivalent_law a0 a1 a2 (steps_ok g1 (by omega)).1 (by have:=(steps_ok g1 (by omega)).2;omega) (deltas_good g2 (by omega)).ok (by have:=nbl_ds (fun d=>d.a.v) (fun d hd=>Nat.le_trans (nb2_1 d.v) hd.nb) g2;omega) (by have:=nbl_ds (fun d=>d.b.v) (fun d hd=>Nat.le_trans (nb2_2 d.v) hd.nb) g2;omega) (by have:=sumW_len (wt:=DD.wt) (fun a=>by unfold DD.wt RR.wt;omega) a2;omega)
 refine (hlaw W [v0,v1,v2] (fun _=>False) (fun _ h=>h.elim) ⟨_,_,rfl,r0,_,_,rfl,r1,_,_,rfl,r2,rfl⟩).mono fun e W' he=>?_
 obtain ⟨v,r,rfl,rfl,hbel,hrp⟩:=he
 have hv:v = .bool true:=hrp
 subst hv
 exact ⟨_,rfl,⟨_,_,_,[],_,[],hW',trodAll_mk1 (shut_bool Tryz.underlying4 _),trodAll_mk3 (Below.trod laidOut (by kernel_rfl) (of_decide_eq_true (by kernel_rfl)) h0 hbel (fun x hx=>hlt x (by simp [hx]))) (Below.trod laidOut (by kernel_rfl) (of_decide_eq_true (by kernel_rfl)) h1 hbel (fun x hx=>hlt x (by simp [hx]))) (Below.trod laidOut (by kernel_rfl) (of_decide_eq_true (by kernel_rfl)) h2 hbel (fun x hx=>hlt x (by simp [hx]))),rfl,hbel.frame _,fun h=>by cases h⟩⟩
theorem lifted (os:Os) (started:os.Started) (H:Type) (enc:TypeId × Value→H) (F:Stop.Interp) :
  ReturnsInHanded {} Tryz.checked os 16 .any ((Rows.OpenSpec.upto Rows.tableauEquivalentSpec).pre6 enc Tryz.prog Tryz.f16 Rows.tableauEquivalentUptoRow.domain false) (((Rows.OpenSpec.upto Rows.tableauEquivalentSpec).at F).post enc Tryz.prog Tryz.f16 false true false false):=by
 refine returnsInHanded_of_cond (C:=Tryz.checked) (s:=Rows.OpenSpec.upto Rows.tableauEquivalentSpec) (k:=Rows.uptoSmall) rfl own started (by kernel_rfl) Tryz.func16
  (OpenSpec.witness (enc:=enc) (C:=Tryz.checked) (s:=Rows.OpenSpec.upto Rows.tableauEquivalentSpec) (k:=Rows.uptoSmall) rfl false ⟨#[],#[.int .i64 0,.slice none 0 0,.slice none 0 0],[]⟩ 8 (by kernel_rfl) (by kernel_rfl) (by kernel_rfl)
   (x:=([.lit (.int .i64 0),.nil,.nil],[],[])) (by kernel_rfl) rfl (by kernel_rfl)) ?_
 intro W base args ds gs before hval hW _ hk _
 exact contract H enc W base args ds gs before hval hW hk
end tableauEquivalent_
theorem tableauEquivalent_holds:Rows.TableauEquivalentUptoSaid :=
 OpenClaim.holds_of_cond 16 Tryz.f16 rfl rfl rfl rfl rfl rfl rfl ⟨rfl,rfl,rfl,rfl,rfl⟩ rfl rfl rfl rfl rfl (by kernel_rfl) Tryz.func16 tableauEquivalent_.facts
  (of_decide_eq_true (by kernel_rfl)) (by unfold Func.isWrapper;first | (rw [if_pos (by decide +kernel)];kernel_rfl) | (rw [if_neg (by decide +kernel)];exact ⟨rfl,rfl⟩))
  (fun os started H enc _ F=>tableauEquivalent_.lifted os started H enc F)
end Go.Proofs.YtjmpajgjaefcjaaGreat.Vm
