/-
  Part 8 of 9 of a proof.
-/
import Derived.Test.YtjmkfbhecgkbmaaGreatCst7
import Derived.Orders
import Derived.Below
import Derived.Laws.AppendOwn
import Derived.Laws.MakeOwn
import Derived.Laws.CopyRow
import Derived.Laws.Rows
import Derived.Laws.Cells
import Derived.Tactics
import Derived.Laws.BitsLemmas
import Derived.Maps.Range
import Derived.Carry
import Derived.Test.YtjmkfbhecgkbmaaGreatProg
import Derived.Sort.Row
import Derived.Sort.Grow
import Derived.Shelf.Sort.Plain
import Derived.Shelf.Slices.In.SortNone
import Derived.Ground.NamesProg
set_option linter.unusedVariables false
set_option linter.unusedSimpArgs false
set_option maxRecDepth 100000

namespace Go.Proofs.YtjmkfbhecgkbmaaGreat.Vm
open Go Go.RowKit
def sig:Nat→(Nat→Rat)→Rat
 | 0,_=>0
 | n+1,f=>sig n f+f n
theorem sig_congr {f g:Nat→Rat}:∀ {n:Nat},(∀ i,i<n→f i=g i)→sig n f=sig n g
 | 0,_=>rfl
 | n+1,h=>by rw [sig,sig,sig_congr fun i hi=>h i (by omega),h n (by omega)]
theorem sig_zero {f:Nat→Rat} {n:Nat} (h:∀ i,i<n→f i=0):sig n f=0:=by
 rw [sig_congr h]
 induction n with
 | zero=>rfl
 | succ n ih=>rw [sig,ih fun i hi=>h i (by omega),Rat.add_zero]
theorem sig_add (f g:Nat→Rat):∀ n,sig n (fun i=>f i+g i)=sig n f+sig n g
 | 0=>by simp [sig,Rat.add_zero]
 | n+1=>by rw [sig,sig,sig,sig_add f g n];grind
theorem sig_mul (c:Rat) (f:Nat→Rat):∀ n,sig n (fun i=>c*f i)=c*sig n f
 | 0=>by simp [sig,Rat.mul_zero]
 | n+1=>by rw [sig,sig,sig_mul c f n];grind
def dl (i j:Nat):Rat:=if i=j then 1 else 0
theorem sig_dl (f:Nat→Rat) (k:Nat):∀ n,sig n (fun i=>f i*dl i k)=if k<n then f k else 0
 | 0=>rfl
 | n+1=>by
  rw [sig,sig_dl f k n]
  unfold dl
  by_cases h:n=k
  ·subst h;simp [Rat.zero_add,Rat.mul_one]
  ·rw [if_neg h,Rat.mul_zero,Rat.add_zero]
   by_cases h2:k<n
   ·rw [if_pos h2,if_pos (by omega)]
   ·rw [if_neg h2,if_neg (by omega)]
def skip (k j:Nat):Nat:=if j<k then j else j+1
section
variable {q p:Nat} {A B:Nat→Nat→Rat}
end
theorem sumM_sig (c:Int→Rat) (x:Int) (M:TM):sumM c x M=sig M.length fun i=>c (M.getD i default).1*coef (M.getD i default).2 x:=by
 have key:∀ i,i≤M.length→sumM c x (M.take i)=sig i fun i=>c (M.getD i default).1*coef (M.getD i default).2 x:=by
  intro i
  induction i with
  | zero=>intro _;rfl
  | succ i ih =>
   intro hi
   rw [take_snoc (show i<M.length by omega),sig,← ih (by omega)]
   have ha:∀ (M N:TM),sumM c x (M++N)=sumM c x M+sumM c x N:=by
    intro M N
    induction M with
    | nil=>simp [sumM,Rat.zero_add]
    | cons r M ih=>simp only [List.cons_append,sumM,ih,Rat.add_assoc]
   rw [ha]
   simp [sumM,Rat.add_zero]
 have:=key M.length (Nat.le_refl _)
 rwa [List.take_length] at this
def zc (r:Int × List (Int × Rat)) (x:Int):Rat:=coef r.2 x-if x=r.1 then 1 else 0
def follB (M N:TM):Bool:=N.all fun r=>(exprT M (wholeF r.1 r.2)).isEmpty
theorem coef_wholeZ (b:Int) (f:List (Int × Rat)) (x:Int):coef (wholeF b f) x=zc (b,f) x:=by
 unfold wholeF zc
 rw [coef_sub]
 simp only [coef,Rat.add_zero]
 by_cases h:b=x
 ·rw [if_pos h,if_pos h.symm]
 ·rw [if_neg h,if_neg (Ne.symm h)]
theorem empty_iff {n:Int} {M:TM} (hg:GT n M) (f:List (Int × Rat)):(exprT M f).isEmpty=true↔∀ x,coef f x = - sig M.length fun i=>coef f (M.getD i default).1*zc (M.getD i default) x:=by
 have he:=exprP_ok hg f
 have hco:∀ x,coef (exprT M f) x=(coef f x)+sig M.length fun i=>coef f (M.getD i default).1*zc (M.getD i default) x:=fun x=>by
  rw [show coef (exprT M f) x=_ from he.co x,sumM_sig]
  have h1:(sig M.length fun i=>coef f (M.getD i default).1*zc (M.getD i default) x)=(sig M.length fun i=>coef f (M.getD i default).1*coef (M.getD i default).2 x)+sig M.length fun i => - (coef f (M.getD i default).1*if x=(M.getD i default).1 then 1 else 0):=by
   rw [← sig_add]
   exact sig_congr fun i _=>by unfold zc;grind
  rw [h1]
  have h2:(sig M.length fun i => - (coef f (M.getD i default).1*if x=(M.getD i default).1 then 1 else 0))=if x∈keys M then-coef f x else 0:=by
   by_cases hx:x∈keys M
   ·rw [if_pos hx]
    obtain ⟨j,hj1,hj2,hj3,hj4,_⟩:=look_idx hx
    have h3:(sig M.length fun i => - (coef f (M.getD i default).1*if x=(M.getD i default).1 then 1 else 0))=sig M.length fun i=>(- coef f x)*dl i j:=sig_congr fun i hi=>by
     unfold dl
     by_cases hij:i=j
     ·subst hij;rw [if_pos rfl,hj3,if_pos rfl];grind
     ·rw [if_neg hij,if_neg fun h=>hij ?_]
      ·grind
      ·have h4:(keys M).Nodup:=hg.nodup
       have h5:(keys M)[i]?=(keys M)[j]?:=by
        simp only [keys,List.getElem?_map]
        rw [List.getElem?_eq_getElem hi,List.getElem?_eq_getElem hj2]
        simp only [Option.map_some,Option.some.injEq]
        rw [show M[i]=M.getD i default by simp [List.getD_eq_getElem?_getD,hi],show M[j]=M.getD j default by simp [List.getD_eq_getElem?_getD,hj2],hj3]
        exact h.symm
       exact (List.getElem?_inj (by rw [keys_len];exact hi) h4).1 h5
    rw [h3,sig_dl (fun _ => - coef f x),if_pos hj2]
   ·rw [if_neg hx]
    exact sig_zero fun i hi=>by
     rw [if_neg fun h:x=(M.getD i default).1=>hx (h ▸ List.mem_map.2 ⟨_,getD_mem hi,rfl⟩)];grind
  rw [h2]
  split <;> grind
 constructor
 ·intro h x
  have h1:exprT M f=[]:=List.isEmpty_iff.1 h
  have:=hco x
  rw [h1,coef_nil] at this
  grind
 ·intro h
  rw [List.isEmpty_iff]
  refine NF.ext he.nf NF.nil fun x=>?_
  rw [hco x,h x,coef_nil]
  grind
theorem follB_iff {n:Int} {M N:TM} (hg:GT n M):follB M N=true↔∀ j,j<N.length→∀ x,zc (N.getD j default) x = - sig M.length fun i=>zc (N.getD j default) (M.getD i default).1*zc (M.getD i default) x:=by
 unfold follB
 rw [List.all_eq_true]
 constructor
 ·intro h j hj x
  have:=(empty_iff hg _).1 (h _ (getD_mem hj)) x
  simp only [coef_wholeZ] at this
  exact this
 ·intro h r hr
  obtain ⟨j,hj,rfl⟩:=mem_getD hr
  rw [empty_iff hg]
  intro x
  simp only [coef_wholeZ]
  exact h j hj x
theorem zc_basic {n:Int} {N:TM} (hg:GT n N) {j k:Nat} (hj:j<N.length) (hk:k<N.length):zc (N.getD j default) (N.getD k default).1 = - dl j k:=by
 unfold zc dl
 rw [free_coef hg (getD_mem hj) (List.mem_map.2 ⟨_,getD_mem hk,rfl⟩)]
 by_cases h:j=k
 ·subst h;simp;grind
 ·rw [if_neg h,if_neg fun he=>h ?_]
  ·grind
  ·have h5:(keys N)[k]?=(keys N)[j]?:=by
    simp only [keys,List.getElem?_map]
    rw [List.getElem?_eq_getElem hj,List.getElem?_eq_getElem hk]
    simp only [Option.map_some,Option.some.injEq]
    rw [show N[k]=N.getD k default by simp [List.getD_eq_getElem?_getD,hk],show N[j]=N.getD j default by simp [List.getD_eq_getElem?_getD,hj],he]
   exact ((List.getElem?_inj (by rw [keys_len];exact hk) hg.nodup).1 h5).symm
def keptD (M:TM) (ds:List DD):List DD:=(extL M ds).map dq
theorem keptD_len (M:TM) (ds:List DD):(keptD M ds).length=ds.length:=by simp [keptD,extL_len]
def asgP (pr:Rat × Rat→Rat) (ds:List DD):Int→Rat:=asg (ds.map fun d=>pr d.v)
theorem evd_fst (ds:List DD) (f:List (Int × Rat)):(evd ds f).1=ev2 (asgP Prod.fst ds) f:=rfl
theorem evd_snd (ds:List DD) (f:List (Int × Rat)):(evd ds f).2=ev2 (asgP Prod.snd ds) f:=rfl
theorem asgP_in (pr:Rat × Rat→Rat) (ds:List DD) {v:Int} (h0:0≤v) (h1:v<(ds.length:Int)):asgP pr ds v=pr (ds.getD v.toNat default).v:=by
 unfold asgP asg
 rw [if_pos h0]
 have h2:v.toNat<ds.length:=by omega
 simp [List.getD_eq_getElem?_getD,h2]
theorem asgP_out (pr:Rat × Rat→Rat) (ds:List DD) {v:Int} (h:¬ (0≤v∧v<(ds.length:Int))):asgP pr ds v=0:=by
 unfold asgP asg
 split
 ·rw [List.getD_eq_getElem?_getD,List.getElem?_eq_none (by rw [List.length_map];omega)];rfl
 ·rfl
theorem kept_getD (M:TM) (ds:List DD) {i:Nat} (h:i<ds.length):(keptD M ds).getD i default=dq (extR M ds i):=by
 simp [keptD,extL,List.getD_eq_getElem?_getD,h]
theorem kept_free (pr:Rat × Rat→Rat) {M:TM} (ds:List DD) {v:Int} (hv:v∉keys M):asgP pr (keptD M ds) v=asgP pr ds v:=by
 by_cases h:0≤v∧v<(ds.length:Int)
 ·rw [asgP_in pr _ h.1 (by rw [keptD_len];exact h.2),asgP_in pr _ h.1 h.2,kept_getD M ds (by omega),dq_v]
  unfold extR
  rw [show ((v.toNat:Nat):Int)=v by omega,look_none hv]
 ·rw [asgP_out pr _ (by rw [keptD_len];exact h),asgP_out pr _ h]
theorem kept_basic (pr:Rat × Rat→Rat) {M:TM} {ds:List DD} (hg:GT (ds.length:Int) M) {r:Int × List (Int × Rat)} (hr:r∈M):asgP pr (keptD M ds) r.1=pr (evd ds r.2):=by
 have hb:=hg.range r.1 (List.mem_map.2 ⟨r,hr,rfl⟩)
 rw [asgP_in pr _ hb.1 (by rw [keptD_len];exact hb.2),kept_getD M ds (by omega),dq_v]
 unfold extR
 rw [show ((r.1.toNat:Nat):Int)=r.1 by omega,look_of hg.nodup (g:=r.2) hr]
theorem kept_ev {M:TM} {ds:List DD} (pr:Rat × Rat→Rat) {f:List (Int × Rat)} (hf:∀ p∈f,p.1∉keys M):ev2 (asgP pr (keptD M ds)) f=ev2 (asgP pr ds) f :=
 ev2_same fun p hp=>kept_free pr ds (hf p hp)
theorem kept_rows1 {M:TM} {ds:List DD} (hg:GT (ds.length:Int) M):∀ r∈M,asgP Prod.fst (keptD M ds) r.1=ev2 (asgP Prod.fst (keptD M ds)) r.2:=fun r hr=>by
 rw [kept_basic _ hg hr,kept_ev _ fun p hp=>(hg.free r hr p hp).2];rfl
theorem kept_rows2 {M:TM} {ds:List DD} (hg:GT (ds.length:Int) M):∀ r∈M,asgP Prod.snd (keptD M ds) r.1=ev2 (asgP Prod.snd (keptD M ds)) r.2:=fun r hr=>by
 rw [kept_basic _ hg hr,kept_ev _ fun p hp=>(hg.free r hr p hp).2];rfl
def lift0 (xs:List Rat):List (Int × Rat):=xs.map fun x=>(0,x)
theorem nbs_lift:∀ xs:List Rat,nbs (lift0 xs)=nbl xs
 | []=>rfl
 | x::xs=>by show nb x+nbs (lift0 xs)=_;rw [nbs_lift xs];rfl
theorem Ht.mem {p:Int × Rat}:∀ {f:List (Int × Rat)},p∈f→Ht (dnf f) (htf f) p.2
 | [],h=>by cases h
 | q::f,h=>by
  simp only [dnf,htf]
  rcases List.mem_cons.1 h with rfl | h
  ·exact ((Ht.self p.2).wide (dnf f)).mono (Nat.mul_le_mul_left _ (dnf_le f))
  ·exact ((Ht.mem h).wide' q.2.den).mono (Nat.mul_le_mul_right _ (by unfold Vm.H;omega))
theorem Ht.asg (xs:List Rat) (v:Int):Ht (dnf (lift0 xs)) (htf (lift0 xs)) (Vm.asg xs v):=by
 unfold Vm.asg
 split
 ·by_cases h:v.toNat<xs.length
  ·exact Ht.mem (p:=(0,xs.getD v.toNat 0)) (List.mem_map.2 ⟨_,by simp [List.getD_eq_getElem?_getD,h],rfl⟩)
  ·rw [List.getD_eq_getElem?_getD,List.getElem?_eq_none (by omega)]
   exact Ht.zero _ _
 ·exact Ht.zero _ _
theorem mul_lt_pow {a b j k:Nat} (h:a<2^j) (h':b<2^k):a*b<2^(j+k):=by
 rw [Nat.pow_add]
 exact Nat.mul_lt_mul_of_lt_of_le h (Nat.le_of_lt h') (Nat.pow_pos (by omega))
theorem dnf_lt (f:List (Int × Rat)):dnf f<2^(nbs f+1):=Nat.lt_of_le_of_lt (dnf_le f) (htf_lt f)
theorem dnM_lt (M:TM):dnM M<2^(tb M+1):=Nat.lt_of_le_of_lt (dnM_le M) (htM_lt M)
theorem pow_up {a j k:Nat} (h:a<2^j) (hk:j≤k):a<2^k:=Nat.lt_of_lt_of_le h (Nat.pow_le_pow_right (by omega) hk)
theorem Ht.kept {M:TM} {ds:List DD} (hg:GT (ds.length:Int) M) (pr:Rat × Rat→Rat) (hp:pr=Prod.fst∨pr=Prod.snd) (v:Int) :
  Ht (dnM M*dnf (lift0 (ds.map fun d=>pr d.v))) (htM M*htf (lift0 (ds.map fun d=>pr d.v))) (asgP pr (keptD M ds) v):=by
 by_cases hv:v∈keys M
 ·obtain ⟨r,hr,rfl⟩:=List.mem_map.1 hv
  rw [kept_basic pr hg hr]
  refine Ht.ofM hr ?_
  have:pr (evd ds r.2)=ev2 (asgP pr ds) r.2:=by rcases hp with rfl | rfl <;> rfl
  rw [this]
  exact Ht.ev r.2 fun p _=>Ht.asg _ _
 ·rw [kept_free pr ds hv]
  exact ((Ht.asg _ v).wide' (dnM M)).mono (Nat.mul_le_mul_right _ (dnM_le M))
theorem DsOk.half {ds:List DD} (h:DsOk ds) (pr:Rat × Rat→Rat) (hp:pr=Prod.fst∨pr=Prod.snd):nbs (lift0 (ds.map fun d=>pr d.v))≤67108864:=by
 rw [nbs_lift]
 rcases hp with rfl | rfl
 ·exact h.sa
 ·exact h.sb
theorem kept_nb {M:TM} {ds:List DD} (hg:GT (ds.length:Int) M) (hd:DsOk ds) (hM:tb M≤68157440) (pr:Rat × Rat→Rat) (hp:pr=Prod.fst∨pr=Prod.snd) (v:Int):nb (asgP pr (keptD M ds) v)≤135266307:=by
 have h1:=hd.half pr hp
 refine Nat.le_trans ((Ht.kept hg pr hp v).nb (k:=tb M+1+(nbs (lift0 (ds.map fun d=>pr d.v))+1)) (Nat.mul_pos (dnM_pos _) (dnf_pos _)) (mul_lt_pow (dnM_lt _) (dnf_lt _)) (mul_lt_pow (htM_lt _) (htf_lt _))) (by omega)
theorem NF.coef_mem {g:List (Int × Rat)} (h:NF g) {p:Int × Rat} (hp:p∈g):coef g p.1=p.2:=by
 induction g with
 | nil=>cases hp
 | cons q g ih =>
  rcases List.mem_cons.1 hp with rfl | hp
  ·exact h.coef_head
  ·have h1:=h.head p hp
   rw [coef,if_neg (by omega),Rat.zero_add,ih h.tail hp]
structure FollOk (M N:TM):Prop where
 sz:∀ r∈N,Sz r.2 536870912
 ex:∀ r∈N,ExOk M (rf (wholeF r.1 r.2))
def sameV (n:Int) (t:TR) (m:Int) (u:TR):AV:=if goodB n (nrmT t)&&goodB m (nrmT u) then if n=m then .tup [.bool (follB (nrmT t) (nrmT u)&&follB (nrmT u) (nrmT t)),.int .i64 0] else .tup [.bool false,.int .i64 1] else .tup [.bool false,.int .i64 70]
def delM (l:List (Int × RR)) (v:Int):List (Int × RR):=l.filter fun p=>!(p.1 == v)
theorem vals_delM (l:List (Int × RR)) (v:Int):vals (delM l v)=delF (vals l) v:=by
 unfold vals delM delF
 rw [List.filter_map]
 rfl
theorem FOk.del {f:List (Int × RR)} {B:Nat} (h:FOk f B) (v:Int):FOk (delM f v) B :=
 ⟨fun p hp=>h.ok p (List.mem_filter.1 hp).1,by rw [vals_delM];exact delF_sz h.sz v⟩
def solvA (f:List (Int × RR)) (r:RR) (v:Int):AV:=if coef (vals f) v=0 then .tup [.agg [.sl [],.bool false,.sl [],.sl []],.int .i64 61] else
 .tup [.agg (affQ (normF (scaleF (-(coef (vals f) v)⁻¹) (delF (vals f) v))) (-(coef (vals f) v)⁻¹*r.v)),.int .i64 0]
def subsA (f:List (Int × RR)) (r:RR) (v:Int) (g:List (Int × RR)) (s:RR):AV := .agg (affQ (normF (delF (vals f) v++normF (scaleF (coef (vals f) v) (vals g)))) (r.v+coef (vals f) v*s.v))
theorem FormOk.pf {f:List (Int × RR)} (h:FormOk f):PF f 68157441:=by
 have:=h.sz
 exact (h.fok.pf (by omega)).mono (by omega)
structure TS (t:TR):Prop where
 ok:∀ r∈t,∀ p∈r.2,p.2.ok
 fl:∀ r∈t,r.2.length<1099511627776
 len:t.length<1099511627776
theorem TOk.ts {t:TR} (h:TOk t):TS t:=⟨h.ok,fun r hr=>by have:=nbs_len (vals r.2);have:=h.nbs hr;rw [vals_length] at *;omega,by have:=h.len;omega⟩
def rfT (M:TM):TR:=M.map fun r=>(r.1,rf r.2)
theorem cU_rf (n:Int) (M:TM):cT n (rfT M)=cU n M:=by
 unfold cT cU rfT
 congr 4
 unfold tab
 rw [List.map_map]
 refine List.map_congr_left fun r _=>?_
 simp only [Function.comp,rowT,rowU]
 rw [tab_rf]
theorem nrm_rf {M:TM} (h:∀ r∈M,NF r.2):nrmT (rfT M)=M:=by
 unfold nrmT rfT
 rw [List.map_map]
 refine (List.map_congr_left fun r hr=>?_).trans (List.map_id M)
 simp only [Function.comp,vals_rf]
 rw [norm_self (h r hr)]
 rfl
theorem MOk.ts {M:TM} {B:Nat} (h:MOk M B) (hB:B<17179869184):TS (rfT M):=by
 refine ⟨fun r hr p hp=>?_,fun r hr=>?_,by simp only [rfT,List.length_map];exact h.len⟩
 ·obtain ⟨q,hq,rfl⟩:=List.mem_map.1 hr
  obtain ⟨x,hx,rfl⟩:=List.mem_map.1 hp
  have:=(h.sz q hq).mem hx
  exact qr_ok (by omega)
 ·obtain ⟨q,hq,rfl⟩:=List.mem_map.1 hr
  have:=(h.sz q hq).l
  simp only [rf,List.length_map]
  omega
theorem FormOk.len {f:List (Int × RR)} (h:FormOk f):f.length≤68157440:=by have:=nbs_len (vals f);have:=h.sz;rw [vals_length] at *;omega
theorem tb_of_foll {M:TM} (h:tb M≤68157440):∀ r∈M,Sz r.2 536870912:=fun r hr=>(Sz.of _).mono (by have:=tb_mem hr;omega)
theorem nbs_negF (f:List (Int × Rat)):nbs (negF f)≤3*nbs f:=by
 unfold negF scaleF
 induction f with
 | nil=>simp [nbs]
 | cons p f ih =>
  simp only [List.map_cons,nbs]
  have h1:=nb_mul (-1) p.2
  have h2:nb (-1:Rat)=2:=nb_m1
  have h3:=nb_pos p.2
  omega
theorem nbs_whole (b:Int) (f:List (Int × Rat)):nbs (wholeF b f)≤nbs f+6:=by
 unfold wholeF subF
 have h1:=nbs_norm (f++negF (normF [(b,1)]))
 have h2:=nbs_append f (negF (normF [(b,1)]))
 have h3:=nbs_negF (normF [(b,1)])
 have h4:=nbs_norm [(b,(1:Rat))]
 have h5:nbs [(b,(1:Rat))]=2:=by simp [nbs,nb_one]
 omega
theorem FollOk.of {M N:TM} (hn:(keys M).Nodup) (hM:tb M≤68157440) (hN:tb N≤68157440):FollOk M N :=
 ⟨tb_of_foll (by omega),fun r hr=>by
  have h1:=nbs_whole r.1 r.2
  have h2:=tb_mem hr
  have h3:vals (rf (wholeF r.1 r.2))=wholeF r.1 r.2:=vals_rf _
  refine ⟨FOk.rf ((Sz.of _).mono (by omega)) (by omega),fun r hr=>(Sz.of _).mono (by have:=tb_mem hr;omega),fun i x y c hc hy=>?_⟩
  rw [h3] at hc hy
  have:=nb_expr (keys_take hn i) (wholeF r.1 r.2) hc hy
  have:=tb_take M i
  omega⟩
def pivF (M:TM) (k:Nat) (o:Int) (g:List (Int × Rat)) (i:Nat):Int × List (Int × Rat):=if i=k then (o,g) else ((M.getD i default).1,putF (M.getD i default).2 o g)
theorem perm_erase {α:Type} {l:List α} {k:Nat} (h:k<l.length):l.Perm (l[k]::l.eraseIdx k):=by
 rw [List.eraseIdx_eq_take_drop_succ]
 have h1:l=l.take k++l[k]::l.drop (k+1):=by rw [← List.drop_eq_getElem_cons h,List.take_append_drop]
 exact (List.Perm.of_eq h1).trans List.perm_middle
structure Piv (n:Int) (M:TM) (k:Nat) (b o:Int):Prop where
 gt:GT n M
 nf:∀ r∈M,NF r.2
 hk:k<M.length
 kb:(M.getD k default).1=b
 ho:o∉keys M
 or:0≤o∧o<n
 nz:coef (M.getD k default).2 o≠0
section
variable {n:Int} {M:TM} {k:Nat} {b o:Int}
theorem Piv.bo (h:Piv n M k b o):b≠o:=fun he=>h.ho (by rw [← he,← h.kb];exact List.mem_map.2 ⟨_,getD_mem h.hk,rfl⟩)
theorem Piv.hb (h:Piv n M k b o):b∈keys M:=by rw [← h.kb];exact List.mem_map.2 ⟨_,getD_mem h.hk,rfl⟩
theorem Piv.rb (h:Piv n M k b o):coef (M.getD k default).2 b=0:=free_coef h.gt (getD_mem h.hk) h.hb
theorem Piv.whole (h:Piv n M k b o):coef (wholeF b (M.getD k default).2) o=coef (M.getD k default).2 o:=by
 rw [coef_whole,if_neg (Ne.symm h.bo)];grind
theorem Piv.g (h:Piv n M k b o) (x:Int):coef (solvF b (M.getD k default).2 o) x=if x=o then 0 else -(coef (M.getD k default).2 o)⁻¹*(coef (M.getD k default).2 x-if x=b then 1 else 0):=by
 unfold solvF
 rw [coef_scale,h.whole,coef_del,coef_whole]
 split <;> grind
theorem Piv.gn (h:Piv n M k b o):NF (solvF b (M.getD k default).2 o):=solv_nf (by rw [h.whole];exact h.nz)
theorem erase_mem (h:Piv n M k b o) {r:Int × List (Int × Rat)} (hr:r∈M.eraseIdx k):r∈M∧r.1≠b∧r.1≠o:=by
 have hm:=List.mem_of_mem_eraseIdx hr
 refine ⟨hm,fun he=>?_,fun he=>h.ho (by rw [← he];exact List.mem_map.2 ⟨_,hm,rfl⟩)⟩
 have h1:(keys (M.eraseIdx k))=(keys M).eraseIdx k:=by
  have:∀ (l:TM) (k:Nat),(l.eraseIdx k).map (·.1)=(l.map (·.1)).eraseIdx k:=by
   intro l
   induction l with
   | nil=>intro k;cases k <;> rfl
   | cons x l ih=>intro k;cases k with
    | zero=>rfl
    | succ k=>simp [ih]
  exact this M k
 have h2:b∈(keys M).eraseIdx k:=by rw [← h1,← he];exact List.mem_map.2 ⟨_,hr,rfl⟩
 have h3:k<(keys M).length:=by rw [keys_len];exact h.hk
 have h4:(keys M)[k]=b:=by
  simp only [keys,List.getElem_map]
  rw [← h.kb]
  simp [List.getD_eq_getElem?_getD,h.hk]
 have h5:=h.gt.nodup
 have h6:(keys M).Perm ((keys M)[k]::(keys M).eraseIdx k):=perm_erase h3
 have h7:=h6.nodup_iff.1 h5
 rw [List.nodup_cons,h4] at h7
 exact h7.1 h2
theorem Piv.pgt (h:Piv n M k b o):GT n (pivP M k o (solvF b (M.getD k default).2 o)):=by
 have hnd:=pivP_nodup h.gt.nodup h.ho (at_:=k) (g:=solvF b (M.getD k default).2 o)
 have hkeys:∀ x,x∈keys (pivP M k o (solvF b (M.getD k default).2 o))→x=o∨(x∈keys M∧x≠b∧x≠o):=fun x hx=>by
  unfold pivP at hx
  rw [keys_append] at hx
  rcases List.mem_append.1 hx with hx | hx
  ·simp only [keys,List.map_map] at hx
   obtain ⟨r,hr,rfl⟩:=List.mem_map.1 hx
   obtain ⟨h1,h2,h3⟩:=erase_mem h hr
   exact .inr ⟨List.mem_map.2 ⟨_,h1,rfl⟩,h2,h3⟩
  ·simp [keys] at hx;exact .inl hx
 have hgr:∀ x,coef (solvF b (M.getD k default).2 o) x≠0→(0≤x∧x<n)∧x≠o∧(x=b∨x∉keys M):=fun x hx=>by
  rw [h.g] at hx
  have hxo:x≠o:=fun he=>hx (by rw [if_pos he])
  rw [if_neg hxo] at hx
  by_cases hxb:x=b
  ·exact ⟨by rw [hxb];exact h.gt.range _ h.hb,hxo,.inl hxb⟩
  ·rw [if_neg hxb] at hx
   have hc:coef (M.getD k default).2 x≠0:=fun he=>hx (by rw [he];grind)
   obtain ⟨p,hp,rfl⟩:∃ p,p∈(M.getD k default).2∧p.1=x:=Classical.byContradiction fun hn=>hc (coef_none fun p hp he=>hn ⟨p,hp,he⟩)
   have:=h.gt.free _ (getD_mem h.hk) p hp
   exact ⟨this.1,hxo,.inr this.2⟩
 refine ⟨h.gt.lo,h.gt.hi,hnd,fun x hx=>?_,fun r hr p hp=>?_⟩
 ·rcases hkeys x hx with rfl | ⟨h1,_⟩
  ·exact h.or
  ·exact h.gt.range x h1
 ·have hmem:∀ (f:List (Int × Rat)),NF f→p∈f→coef f p.1≠0:=fun f hf hp=>by rw [hf.coef_mem hp];exact hf.nz p hp
  have key:(0≤p.1∧p.1<n)∧p.1≠o∧(p.1=b∨p.1∉keys M):=by
   unfold pivP at hr
   rcases List.mem_append.1 hr with hr | hr
   ·obtain ⟨r',hr',rfl⟩:=List.mem_map.1 hr
    obtain ⟨h1,h2,h3⟩:=erase_mem h hr'
    have hz:=hmem _ (NF.put _ _ _) hp
    rw [coef_put] at hz
    by_cases hg:coef (solvF b (M.getD k default).2 o) p.1=0
    ·rw [hg,Rat.mul_zero,Rat.add_zero] at hz
     have hxo:p.1≠o:=fun he=>hz (by rw [if_pos he])
     rw [if_neg hxo] at hz
     obtain ⟨q,hq,hqe⟩:∃ q,q∈r'.2∧q.1=p.1:=Classical.byContradiction fun hn=>hz (coef_none fun q hq he=>hn ⟨q,hq,he⟩)
     have:=h.gt.free _ h1 q hq
     rw [hqe] at this
     exact ⟨this.1,hxo,.inr this.2⟩
    ·exact hgr _ hg
   ·simp at hr
    subst hr
    exact hgr _ (hmem _ h.gn hp)
  refine ⟨key.1,fun hx=>?_⟩
  rcases hkeys _ hx with he | ⟨h1,h2,h3⟩
  ·exact key.2.1 he
  ·rcases key.2.2 with h4 | h4
   ·exact h2 h4
   ·exact h4 h1
theorem foll_comb (hg:GT n M) {f:List (Int × Rat)} (d:Nat→Rat) (hf:∀ x,coef f x=sig M.length fun i=>d i*zc (M.getD i default) x):(exprT M f).isEmpty=true:=by
 rw [empty_iff hg]
 intro x
 have hd:∀ l,l<M.length→coef f (M.getD l default).1 = - d l:=fun l hl=>by
  rw [hf]
  have h1:(sig M.length fun i=>d i*zc (M.getD i default) (M.getD l default).1)=sig M.length fun i=>(- d i)*dl i l:=sig_congr fun i hi=>by
   rw [zc_basic hg hi hl];grind
  rw [h1,sig_dl (fun i => - d i),if_pos hl]
 rw [hf x]
 have h2:(sig M.length fun i=>coef f (M.getD i default).1*zc (M.getD i default) x)=sig M.length fun i=>(-1:Rat)*(d i*zc (M.getD i default) x):=sig_congr fun i hi=>by
  rw [hd i hi];grind
 rw [h2,sig_mul]
 grind
theorem sig_two (f:Nat→Rat) {m i j:Nat} (hi:i<m) (hj:j<m) (hij:i≠j) (a c:Rat):(sig m fun l=>(a*dl l i+c*dl l j)*f l)=a*f i+c*f j:=by
 have h1:(sig m fun l=>(a*dl l i+c*dl l j)*f l)=(sig m fun l=>(a*f l)*dl l i)+sig m fun l=>(c*f l)*dl l j:=by
  rw [← sig_add]
  exact sig_congr fun l _=>by grind
 rw [h1,sig_dl (fun l=>a*f l),sig_dl (fun l=>c*f l),if_pos hi,if_pos hj]
theorem sig_one (f:Nat→Rat) {m i:Nat} (hi:i<m) (a:Rat):(sig m fun l=>(a*dl l i)*f l)=a*f i:=by
 have h1:(sig m fun l=>(a*dl l i)*f l)=sig m fun l=>(a*f l)*dl l i:=sig_congr fun l _=>by grind
 rw [h1,sig_dl (fun l=>a*f l),if_pos hi]
theorem Piv.foll (h:Piv n M k b o):follB M (pivP M k o (solvF b (M.getD k default).2 o))=true:=by
 unfold follB
 rw [List.all_eq_true]
 intro r hr
 have hgz:∀ x,coef (solvF b (M.getD k default).2 o) x-(if x=o then 1 else 0) = -(coef (M.getD k default).2 o)⁻¹*zc (M.getD k default) x:=fun x=>by
  have hi:=Rat.inv_mul_cancel _ h.nz
  rw [h.g]
  unfold zc
  rw [h.kb]
  by_cases hx:x=o
  ·subst hx
   rw [if_pos rfl,if_pos rfl,if_neg (Ne.symm h.bo)]
   grind
  ·rw [if_neg hx,if_neg hx];grind
 unfold pivP at hr
 rcases List.mem_append.1 hr with hr | hr
 ·obtain ⟨r',hr',rfl⟩:=List.mem_map.1 hr
  obtain ⟨h1,h2,h3⟩:=erase_mem h hr'
  obtain ⟨j,hj,rfl⟩:=mem_getD h1
  have hjk:j≠k:=fun he=>h2 (by rw [he];exact h.kb)
  dsimp only
  refine foll_comb h.gt (fun l=>1*dl l j+(coef (M.getD j default).2 o * -(coef (M.getD k default).2 o)⁻¹)*dl l k) fun x=>?_
  rw [sig_two (fun l=>zc (M.getD l default) x) hj h.hk hjk,coef_wholeZ]
  have h4:=hgz x
  unfold zc at h4 ⊢
  dsimp only
  rw [coef_put]
  have h5:x=o→x≠(M.getD j default).1:=fun he hb=>h3 (hb ▸ he)
  by_cases hx:x=o
  ·rw [if_pos hx,if_neg (h5 hx)]
   rw [if_pos hx] at h4
   subst hx
   grind
  ·rw [if_neg hx]
   rw [if_neg hx] at h4
   grind
 ·simp at hr
  subst hr
  dsimp only
  refine foll_comb h.gt (fun l=>(-(coef (M.getD k default).2 o)⁻¹)*dl l k) fun x=>?_
  rw [sig_one (fun l=>zc (M.getD l default) x) h.hk,coef_wholeZ,← hgz x]
  rfl
theorem Piv.gb (h:Piv n M k b o):coef (solvF b (M.getD k default).2 o) b=(coef (M.getD k default).2 o)⁻¹:=by
 rw [h.g,if_neg h.bo,if_pos rfl,h.rb]
 grind
theorem Piv.solve_back (h:Piv n M k b o):solvF o (solvF b (M.getD k default).2 o) b=(M.getD k default).2:=by
 have hg:=h.g
 have hgb:=h.gb
 generalize solvF b (M.getD k default).2 o=G at *
 have hi:=Rat.inv_mul_cancel _ h.nz
 have hrb:=h.rb
 have hw:coef (wholeF o G) b=(coef (M.getD k default).2 o)⁻¹:=by
  rw [coef_whole,hgb,if_neg h.bo];grind
 have hz:coef (wholeF o G) b≠0:=by
  rw [hw]
  intro he
  rw [he] at hi
  grind
 refine NF.ext (solv_nf hz) (h.nf _ (getD_mem h.hk)) fun x=>?_
 unfold solvF
 rw [coef_scale,hw,coef_del,Rat.inv_inv,coef_whole,hg]
 by_cases hxb:x=b
 ·subst hxb;rw [if_pos rfl,hrb];grind
 ·rw [if_neg hxb]
  by_cases hxo:x=o
  ·subst hxo;rw [if_pos rfl,if_pos rfl];grind
  ·rw [if_neg hxo,if_neg hxo,if_neg hxb];grind
theorem Piv.put_back (h:Piv n M k b o) {r:Int × List (Int × Rat)} (hr:r∈M):putF (putF r.2 o (solvF b (M.getD k default).2 o)) b (M.getD k default).2=r.2:=by
 refine NF.ext (NF.put _ _ _) (h.nf _ hr) fun x=>?_
 have hi:=Rat.inv_mul_cancel _ h.nz
 have hrb:=h.rb
 have hr0:coef r.2 b=0:=free_coef h.gt hr h.hb
 rw [coef_put,coef_put,coef_put,if_neg h.bo,h.gb,h.g,hr0]
 by_cases hxb:x=b
 ·subst hxb
  rw [if_pos rfl,hrb,hr0]
  grind
 ·rw [if_neg hxb]
  by_cases hxo:x=o
  ·subst hxo
   rw [if_pos rfl,if_pos rfl]
   grind
  ·rw [if_neg hxo,if_neg hxo,if_neg hxb]
   grind
theorem perm_cancel {S A:TM} {r:Int × List (Int × Rat)} {k:Nat} (hp:S.Perm (A++[r])) (hk:k<S.length) (hr:S.getD k default=r):(S.eraseIdx k).Perm A:=by
 have h1:=perm_erase hk
 rw [show S[k]=r by rw [← hr];simp [List.getD_eq_getElem?_getD,hk]] at h1
 have h2:(A++[r]).Perm (r::A):=List.perm_append_singleton _ _
 exact (h1.symm.trans (hp.trans h2)).cons_inv
theorem Piv.back (h:Piv n M k b o) {S:TM} (hS:S.Perm (pivP M k o (solvF b (M.getD k default).2 o))) {k':Nat} (hk':k'<S.length) (ho':(S.getD k' default).1=o) :
  Piv n S k' o b∧(S.getD k' default).2=solvF b (M.getD k default).2 o∧(pivP S k' b (M.getD k default).2).Perm M:=by
 have hgt:=h.pgt.perm hS.symm
 have hmem:(S.getD k' default)∈S:=getD_mem hk'
 have hsk:S.getD k' default=(o,solvF b (M.getD k default).2 o):=by
  have h0:=hS.mem_iff.1 hmem
  generalize S.getD k' default=q at *
  obtain ⟨q1,q2⟩:=q
  dsimp only at ho'
  subst ho'
  have h1:=look_of h.pgt.nodup h0
  have h2:=look_of h.pgt.nodup (k:=q1) (g:=solvF b (M.getD k default).2 q1) (by unfold pivP;simp)
  rw [h1] at h2
  exact Prod.ext rfl (by simpa using h2)
 have hgb:coef (solvF b (M.getD k default).2 o) b≠0:=by
  rw [h.gb]
  have hi:=Rat.inv_mul_cancel _ h.nz
  intro he
  rw [he] at hi
  grind
 have hbn:b∉keys S:=fun hb=>by
  have h1:b∈keys (pivP M k o (solvF b (M.getD k default).2 o)):=(hS.map (·.1)).mem_iff.1 hb
  obtain ⟨r,hr,hrb⟩:=List.mem_map.1 h1
  unfold pivP at hr
  rcases List.mem_append.1 hr with hr | hr
  ·obtain ⟨r',hr',rfl⟩:=List.mem_map.1 hr
   exact (erase_mem h hr').2.1 hrb
  ·simp at hr
   subst hr
   exact h.bo hrb.symm
 have hA:=perm_cancel hS hk' hsk
 refine ⟨⟨hgt,fun r hr=>?_,hk',ho',hbn,h.gt.range _ h.hb,by rw [hsk];exact hgb⟩,by rw [hsk],?_⟩
 ·have hr:=hS.mem_iff.1 hr
  unfold pivP at hr
  rcases List.mem_append.1 hr with hr | hr
  ·obtain ⟨r',_,rfl⟩:=List.mem_map.1 hr
   exact NF.put _ _ _
  ·simp at hr;subst hr;exact h.gn
 ·unfold pivP
  have h1:((S.eraseIdx k').map fun r=>(r.1,putF r.2 b (M.getD k default).2)).Perm (M.eraseIdx k):=by
   refine (hA.map _).trans (List.Perm.of_eq ?_)
   rw [List.map_map]
   refine (List.map_congr_left fun r hr=>?_).trans (List.map_id _)
   simp only [Function.comp]
   rw [h.put_back (erase_mem h hr).1]
   rfl
  refine (h1.append_right _).trans ((List.perm_append_singleton _ _).trans ?_)
  have h2:=perm_erase h.hk
  have e1:M[k]'h.hk=M.getD k default:=by simp [List.getD_eq_getElem?_getD,h.hk]
  have e2:M.getD k default=(b,(M.getD k default).2):=Prod.ext h.kb rfl
  exact (h2.trans (List.Perm.of_eq (by rw [e1];exact congrArg (·::M.eraseIdx k) e2))).symm
end
end Go.Proofs.YtjmkfbhecgkbmaaGreat.Vm
namespace Go.Proofs.YtjmkfbhecgkbmaaGreat.Vm
open Go Go.RowKit
end Go.Proofs.YtjmkfbhecgkbmaaGreat.Vm
namespace Go.Proofs.YtjmkfbhecgkbmaaGreat.Vm
open Go Go.RowKit
theorem Ht.sumM {c:Int→Rat} {D1 m1 D2 m2:Nat} (hc:∀ b,Ht D1 m1 (c b)) (x:Int):∀ M:TM,(∀ r∈M,Ht D2 m2 (Vm.coef r.2 x))→Ht (D1*D2) (M.length*(m1*m2)) (Vm.sumM c x M)
 | [],_=>Ht.zero _ _
 | r::M,h=>by
  have ih:=Ht.sumM hc x M fun q hq=>h q (List.mem_cons_of_mem _ hq)
  have h1:=(hc r.1).mul (h r List.mem_cons_self)
  simp only [Vm.sumM,List.length_cons]
  exact (h1.add ih).mono (by rw [Nat.add_mul];omega)
structure MHt (M:TM) (D m k:Nat):Prop where
 pos:0<D
 co:∀ r∈M,∀ x,Ht D m (Vm.coef r.2 x)
 dlt:D<2^k
 mlt:m<2^k
theorem MHt.of (M:TM):MHt M (dnM M) (htM M) (tb M+1) :=
 ⟨dnM_pos M,fun r hr x=>by
  have:=Ht.ofM (E:=1) (m:=1) hr (by have:=Ht.coef r.2 x;simpa using this)
  simpa using this,dnM_lt M,htM_lt M⟩
theorem MHt.nb {M:TM} {D m k:Nat} (h:MHt M D m k) {r:Int × List (Int × Rat)} (hr:r∈M) (x:Int):Vm.nb (Vm.coef r.2 x)≤k+1:=(h.co r hr x).nb h.pos h.dlt h.mlt
theorem ExOk.ht {M:TM} {f:List (Int × RR)} (hf:FOk f 536870912) (hro:∀ r∈M,Sz r.2 536870912) (hl:M.length≤65536) {D m k D2 m2 k2:Nat} (hD:0<D) (h1:∀ x,Ht D m (coef (vals f) x)) (hDk:D<2^k) (hmk:m<2^k) (hM:MHt M D2 m2 k2) (hk:k+k2≤536870000):ExOk M f:=by
 refine ⟨hf,hro,fun i x y c hc hy=>?_⟩
 have hcb:∀ b,Ht D m (c b):=fun b=>by
  rcases hc b with h | h
  ·rw [h];exact h1 b
  ·rw [h];exact Ht.zero _ _
 have hyy:Ht D m y:=by
  rcases hy with h | h
  ·rw [h];exact h1 x
  ·rw [h];exact Ht.zero _ _
 have hs:=Ht.sumM hcb x (M.take i) fun r hr=>hM.co r (List.mem_of_mem_take hr) x
 have ha:=(hyy.wide D2).add hs
 have hlen:(M.take i).length<2^17:=by rw [List.length_take];omega
 have e1:m*D2<2^(17+(k+k2)):=pow_up (mul_lt_pow hmk hM.dlt) (by omega)
 have e2:(M.take i).length*(m*m2)<2^(17+(k+k2)):=mul_lt_pow hlen (mul_lt_pow hmk hM.mlt)
 have e3:m*D2+(M.take i).length*(m*m2)<2^(18+(k+k2)):=by
  rw [show 18+(k+k2)=(17+(k+k2))+1 by omega,Nat.pow_succ];omega
 have e4:D*D2<2^(18+(k+k2)):=pow_up (mul_lt_pow hDk hM.dlt) (by omega)
 exact Nat.le_trans (ha.nb (Nat.mul_pos hD hM.pos) e4 e3) (by omega)
theorem keys_le {n:Int} {M:TM} (hg:GT n M):M.length≤65536:=by
 have h1:((keys M).map Int.toNat).Nodup:=by
  have h2:=hg.nodup
  have h3:=hg.range
  generalize keys M=l at *
  induction l with
  | nil=>simp
  | cons a l ih =>
   rw [List.nodup_cons] at h2
   rw [List.map_cons,List.nodup_cons]
   refine ⟨fun hm=>?_,ih h2.2 fun b hb=>h3 b (List.mem_cons_of_mem _ hb)⟩
   obtain ⟨c,hc,he⟩:=List.mem_map.1 hm
   have e1:=h3 a List.mem_cons_self
   have e2:=h3 c (List.mem_cons_of_mem _ hc)
   exact h2.1 (by rw [show a=c by omega];exact hc)
 have h2:=nodup_range_le h1 (n:=65536) fun x hx=>by
  obtain ⟨c,hc,rfl⟩:=List.mem_map.1 hx
  have:=hg.range c hc
  have:=hg.hi
  omega
 rw [List.length_map,keys_len] at h2
 exact h2
theorem Ht.div {D m m':Nat} {q p:Rat} (hq:Ht D m q) (hp:Ht D m' p) (h0:p≠0) (hD:0<D):∃ κ,0<κ∧κ≤m'∧p*D=((p*D).num:Rat)∧κ=(p*D).num.natAbs∧Ht κ m (q*p⁻¹):=by
 obtain ⟨k,h1,h2⟩:=hq
 obtain ⟨K,h3,h4⟩:=hp
 have hDr:(D:Rat)≠0:=fun h=>by
  rw [show (0:Rat)=((0:Nat):Rat) from rfl,Rat.natCast_inj] at h
  omega
 have hKn:(p*(D:Rat)).num=K:=by rw [h3];rfl
 have hK0:K≠0:=fun h=>by
  rw [h] at h3
  rcases Rat.mul_eq_zero.1 h3 with h | h
  ·exact h0 h
  ·exact hDr h
 refine ⟨K.natAbs,by omega,h4,by rw [hKn];exact h3,by rw [hKn],?_⟩
 have hpi:=Rat.inv_mul_cancel _ h0
 have hm:q*p⁻¹*(K:Rat)=(k:Rat):=by
  rw [← h3,← h1];grind
 rcases Int.natAbs_eq K with hs | hs
 ·refine ⟨k,?_,h2⟩
  have e:((K.natAbs:Nat):Rat)=(K:Rat):=by rw [← Rat.intCast_natCast,← hs]
  rw [e,hm]
 ·refine ⟨-k,?_,by omega⟩
  have e:((K.natAbs:Nat):Rat) = -(K:Rat):=by
   rw [← Rat.intCast_natCast,show ((K.natAbs:Nat):Int) = -K by omega,Rat.intCast_neg]
  rw [e,Rat.mul_neg,hm]
  simp
section
variable {n:Int} {M:TM} {k:Nat} {b o:Int}
theorem Piv.ht (h:Piv n M k b o) {D m j:Nat} (hM:MHt M D m j) (hle:D≤m):∃ D',MHt (pivP M k o (solvF b (M.getD k default).2 o)) D' (2*(m*m)) (j+j+1):=by
 have hrm:=getD_mem h.hk
 have hro:=hM.co _ hrm o
 obtain ⟨κ,k1,k2,k3,k4,_⟩:=Ht.div (Ht.zero D m) hro h.nz hM.pos
 have hm0:0<m:=Nat.lt_of_lt_of_le hM.pos hle
 have hdiv:∀ q,Ht D m q→Ht κ m (q*(coef (M.getD k default).2 o)⁻¹):=fun q hq=>by
  obtain ⟨κ',e1,e2,e3,e4,e5⟩:=Ht.div hq hro h.nz hM.pos
  rw [k4,← e4]
  exact e5
 have hone:Ht D m 1:=by
  have:=(Ht.one 1 (Nat.le_refl _)).wide D
  rw [Nat.one_mul] at this
  exact this.mono hle
 have hg:∀ x,Ht κ m (coef (solvF b (M.getD k default).2 o) x):=fun x=>by
  rw [h.g]
  split
  ·exact Ht.zero _ _
  ·by_cases hx:x=b
   ·rw [if_pos hx,hx,h.rb]
    have:=hdiv 1 hone
    rw [show -(coef (M.getD k default).2 o)⁻¹*(0-1)=1*(coef (M.getD k default).2 o)⁻¹ by grind]
    exact this
   ·rw [if_neg hx]
    have:=(hdiv _ (hM.co _ hrm x)).neg
    rw [show -(coef (M.getD k default).2 o)⁻¹*(coef (M.getD k default).2 x-0) = -(coef (M.getD k default).2 x*(coef (M.getD k default).2 o)⁻¹) by grind]
    exact this
 have hκm:m*κ≤m*m:=Nat.mul_le_mul_left _ k2
 have hDm:D*m≤m*m:=Nat.mul_le_mul_right _ hle
 have hDk:D*κ≤m*m:=Nat.mul_le_mul hle k2
 have hmm:m*m<2^(j+j):=mul_lt_pow hM.mlt hM.mlt
 refine ⟨D*κ,Nat.mul_pos hM.pos k1,fun r hr x=>?_,by rw [Nat.pow_succ];omega,by rw [Nat.pow_succ];omega⟩
 unfold pivP at hr
 rcases List.mem_append.1 hr with hr | hr
 ·obtain ⟨r',hr',rfl⟩:=List.mem_map.1 hr
  obtain ⟨h1,_⟩:=erase_mem h hr'
  dsimp only
  rw [coef_put]
  have e1:Ht (D*κ) (m*κ) (if x=o then 0 else coef r'.2 x):=by
   split
   ·exact Ht.zero _ _
   ·exact (hM.co _ h1 x).wide κ
  exact (e1.add ((hM.co _ h1 o).mul (hg x))).mono (by omega)
 ·simp at hr
  subst hr
  exact ((hg x).wide' D).mono (by omega)
end
def sgn' (j:Nat):Rat:=if j%2=0 then 1 else -1
def dt:Nat→(Nat→Nat→Rat)→Rat
 | 0,_=>1
 | n+1,a=>sig (n+1) fun j=>sgn' j*a 0 j*dt n fun i l=>a (i+1) (skip j l)
theorem skip_lt {n j l:Nat} (hl:l<n):skip j l<n+1:=by unfold skip;split <;> omega
theorem dt_congr:∀ {n:Nat} {a b:Nat→Nat→Rat},(∀ i j,i<n→j<n→a i j=b i j)→dt n a=dt n b
 | 0,_,_,_=>rfl
 | n+1,a,b,h=>by
  rw [dt,dt]
  refine sig_congr fun j hj=>?_
  rw [h 0 j (by omega) hj,dt_congr fun i l hi hl=>h (i+1) (skip j l) (by omega) (skip_lt hl)]
def upd (a:Nat→Nat→Rat) (c:Nat) (u:Nat→Rat):Nat→Nat→Rat:=fun i j=>if j=c then u i else a i j
theorem upd_minor {a:Nat→Nat→Rat} {c j:Nat} (hj:j≠c) (u:Nat→Rat):(fun i l=>upd a c u (i+1) (skip j l))=upd (fun i l=>a (i+1) (skip j l)) (if c<j then c else c-1) (fun i=>u (i+1)):=by
 funext i l
 unfold upd skip
 by_cases h:c<j
 ·rw [if_pos h]
  by_cases hl:l<j
  ·dsimp only
   rw [if_pos hl]
  ·dsimp only
   rw [if_neg hl,if_neg (by omega),if_neg (by omega)]
 ·rw [if_neg h]
  by_cases hl:l<j
  ·dsimp only
   rw [if_pos hl,if_neg (by omega),if_neg (by omega)]
  ·dsimp only
   rw [if_neg hl]
   by_cases he:l+1=c
   ·rw [if_pos he,if_pos (by omega)]
   ·rw [if_neg he,if_neg (by omega)]
theorem upd_minor_same (a:Nat→Nat→Rat) (c:Nat) (u:Nat→Rat):(fun i l=>upd a c u (i+1) (skip c l))=fun i l=>a (i+1) (skip c l):=by
 funext i l
 unfold upd
 rw [if_neg]
 unfold skip
 split <;> omega
theorem dt_lin:∀ {n:Nat} (a:Nat→Nat→Rat) {c:Nat},c<n→∀ (p q:Rat) (u v:Nat→Rat),dt n (upd a c fun i=>p*u i+q*v i)=p*dt n (upd a c u)+q*dt n (upd a c v)
 | 0,_,_,h,_,_,_,_=>absurd h (Nat.not_lt_zero _)
 | n+1,a,c,h,p,q,u,v=>by
  rw [dt,dt,dt,← sig_mul,← sig_mul,← sig_add]
  refine sig_congr fun j hj=>?_
  by_cases hjc:j=c
  ·subst hjc
   rw [upd_minor_same,upd_minor_same,upd_minor_same]
   unfold upd
   simp only [if_pos]
   grind
  ·rw [upd_minor hjc,upd_minor hjc,upd_minor hjc,dt_lin _ (c:=if c<j then c else c-1) (by split <;> omega)]
   unfold upd
   simp only [if_neg hjc]
   grind
theorem sig_pick {f:Nat→Rat} {n p:Nat} (hp:p+1<n) (h:∀ j,j<n→j≠p→j≠p+1→f j=0):sig n f=f p+f (p+1):=by
 have h1:sig n f=sig n fun j=>(1*dl j p+1*dl j (p+1))*f j:=sig_congr fun j hj=>by
  unfold dl
  by_cases e1:j=p
  ·subst e1;rw [if_pos rfl,if_neg (by omega)];grind
  ·rw [if_neg e1]
   by_cases e2:j=p+1
   ·subst e2;rw [if_pos rfl];grind
   ·rw [if_neg e2,h j hj e1 e2];grind
 rw [h1]
 have h2:(sig n fun j=>(1*dl j p+1*dl j (p+1))*f j)=(sig n fun j=>f j*dl j p)+sig n fun j=>f j*dl j (p+1):=by
  rw [← sig_add]
  exact sig_congr fun j _=>by grind
 rw [h2,sig_dl,sig_dl,if_pos (by omega),if_pos hp]
theorem sgn_succ (p:Nat):sgn' (p+1) = - sgn' p:=by
 unfold sgn'
 by_cases h:p%2=0
 ·rw [if_pos h,if_neg (by omega)]
 ·rw [if_neg h,if_pos (by omega)];grind
theorem dt_adj:∀ {n:Nat} {a:Nat→Nat→Rat} {p:Nat},p+1<n→(∀ i,i<n→a i p=a i (p+1))→dt n a=0
 | 0,_,_,h,_=>absurd h (Nat.not_lt_zero _)
 | n+1,a,p,h,he=>by
  rw [dt,sig_pick h fun j hj h1 h2=>?_]
  ·have hm:dt n (fun i l=>a (i+1) (skip p l))=dt n fun i l=>a (i+1) (skip (p+1) l):=dt_congr fun i l hi hl=>by
    unfold skip
    by_cases e1:l<p
    ·rw [if_pos e1,if_pos (by omega)]
    ·rw [if_neg e1]
     by_cases e2:l=p
     ·subst e2;rw [if_pos (by omega)];exact (he (i+1) (by omega)).symm
     ·rw [if_neg (by omega)]
   rw [hm,sgn_succ,he 0 (by omega)]
   grind
  ·have hz:dt n (fun i l=>a (i+1) (skip j l))=0:=by
    by_cases hjp:j<p
    ·refine dt_adj (p:=p-1) (by omega) fun i hi=>?_
     have e1:skip j (p-1)=p:=by unfold skip;rw [if_neg (by omega)];omega
     have e2:skip j (p-1+1)=p+1:=by unfold skip;rw [if_neg (by omega)];omega
     rw [e1,e2]
     exact he (i+1) (by omega)
    ·refine dt_adj (p:=p) (by omega) fun i hi=>?_
     have e1:skip j p=p:=by unfold skip;rw [if_pos (by omega)]
     have e2:skip j (p+1)=p+1:=by unfold skip;rw [if_pos (by omega)]
     rw [e1,e2]
     exact he (i+1) (by omega)
   rw [hz,Rat.mul_zero]
theorem upd_self (a:Nat→Nat→Rat) (c:Nat):upd a c (fun i=>a i c)=a:=by
 funext i j
 unfold upd
 split
 ·rename_i h;rw [h]
 ·rfl
theorem upd_comm (a:Nat→Nat→Rat) {c d:Nat} (h:c≠d) (u v:Nat→Rat):upd (upd a c u) d v=upd (upd a d v) c u:=by
 funext i j
 unfold upd
 by_cases h1:j=d
 ·rw [if_pos h1,if_neg (by omega),if_pos h1]
 ·rw [if_neg h1]
  by_cases h2:j=c
  ·rw [if_pos h2,if_pos h2]
  ·rw [if_neg h2,if_neg h2,if_neg h1]
def swp (a:Nat→Nat→Rat) (p:Nat):Nat→Nat→Rat:=fun i j=>if j=p then a i (p+1) else if j=p+1 then a i p else a i j
theorem dt_swp {n:Nat} (a:Nat→Nat→Rat) {p:Nat} (h:p+1<n):dt n (swp a p) = - dt n a:=by
 have key:∀ u v:Nat→Rat,dt n (upd (upd a p u) (p+1) v)+dt n (upd (upd a p v) (p+1) u)=0:=fun u v=>by
  have h0:∀ w:Nat→Rat,dt n (upd (upd a p w) (p+1) w)=0:=fun w=>dt_adj h fun i _=>by
   unfold upd
   rw [if_neg (by omega),if_pos rfl,if_pos rfl]
  have h1:=h0 fun i=>1*u i+1*v i
  rw [dt_lin _ h] at h1
  have h2:∀ w:Nat→Rat,dt n (upd (upd a p fun i=>1*u i+1*v i) (p+1) w)=dt n (upd (upd a p u) (p+1) w)+dt n (upd (upd a p v) (p+1) w):=fun w=>by
   rw [upd_comm a (by omega),dt_lin _ (by omega),upd_comm a (by omega),upd_comm a (by omega)]
   rw [upd_comm a (show p+1≠p by omega),upd_comm a (show p+1≠p by omega)]
   grind
  rw [h2,h2,h0,h0] at h1
  grind
 have h3:=key (fun i=>a i p) (fun i=>a i (p+1))
 rw [upd_self] at h3
 have h4:upd a (p+1) (fun i=>a i (p+1))=a:=upd_self a (p+1)
 rw [h4] at h3
 have h5:upd (upd a p fun i=>a i (p+1)) (p+1) (fun i=>a i p)=swp a p:=by
  funext i j
  unfold upd swp
  by_cases h1:j=p+1
  ·rw [if_pos h1,if_neg (by omega),if_pos h1]
  ·rw [if_neg h1,if_neg h1]
 rw [h5] at h3
 grind
theorem dt_eq:∀ (d:Nat) {n:Nat} {a:Nat→Nat→Rat} {p:Nat},p+(d+1)<n→(∀ i,i<n→a i p=a i (p+(d+1)))→dt n a=0
 | 0,n,a,p,h,he=>dt_adj h he
 | d+1,n,a,p,h,he=>by
  have h1:=dt_swp a (n:=n) (p:=p+(d+1)) (by omega)
  have h2:dt n (swp a (p+(d+1)))=0:=dt_eq d (p:=p) (by omega) fun i hi=>by
   unfold swp
   rw [if_neg (by omega),if_neg (by omega),if_pos rfl]
   exact he i hi
  rw [h2] at h1
  grind
theorem dt_two {n:Nat} {a:Nat→Nat→Rat} {p q:Nat} (hp:p<n) (hq:q<n) (hpq:p≠q) (he:∀ i,i<n→a i p=a i q):dt n a=0:=by
 by_cases h:p<q
 ·obtain ⟨d,rfl⟩:∃ d,q=p+(d+1):=⟨q-p-1,by omega⟩
  exact dt_eq d hq he
 ·obtain ⟨d,rfl⟩:∃ d,p=q+(d+1):=⟨p-q-1,by omega⟩
  exact dt_eq d hp fun i hi=>(he i hi).symm
theorem dt_sum {n:Nat} (a:Nat→Nat→Rat) {c:Nat} (hc:c<n) (t:Nat→Rat) (w:Nat→Nat→Rat):∀ m,dt n (upd a c fun i=>sig m fun j=>t j*w i j)=sig m fun j=>t j*dt n (upd a c fun i=>w i j)
 | 0=>by
  have h:=dt_lin a hc 0 0 (fun _=>0) (fun _=>0)
  have e:(fun i:Nat=>(0:Rat)*(0:Rat)+0*0)=fun i=>sig 0 fun j=>t j*w i j:=by
   funext i;show _=(0:Rat);grind
  rw [e] at h
  rw [h]
  show _=(0:Rat)
  grind
 | m+1=>by
  have e:(fun i=>sig (m+1) fun j=>t j*w i j)=fun i=>1*(sig m fun j=>t j*w i j)+t m*w i m:=by
   funext i;rw [sig];grind
  rw [e,dt_lin a hc,dt_sum a hc t w m,sig]
  grind
theorem cramer {n:Nat} {a:Nat→Nat→Rat} {c:Nat→Rat} {t:Nat→Rat} (h:∀ i,i<n→c i=sig n fun j=>t j*a i j) {k:Nat} (hk:k<n):dt n (upd a k c)=t k*dt n a:=by
 have h1:dt n (upd a k c)=dt n (upd a k fun i=>sig n fun j=>t j*a i j):=dt_congr fun i j hi hj=>by
  unfold upd
  split
  ·exact h i hi
  ·rfl
 rw [h1,dt_sum a hk t a n]
 have h2:(sig n fun j=>t j*dt n (upd a k fun i=>a i j))=sig n fun j=>(t j*dt n a)*dl j k:=sig_congr fun j hj=>by
  unfold dl
  by_cases e:j=k
  ·subst e;rw [if_pos rfl,upd_self];grind
  ·rw [if_neg e]
   have:dt n (upd a k fun i=>a i j)=0:=dt_two hk hj (Ne.symm e) fun i hi=>by
    unfold upd
    rw [if_pos rfl,if_neg e]
   rw [this];grind
 rw [h2,sig_dl (fun j=>t j*dt n a),if_pos hk]
def prP (N:Nat) (P:Nat→Nat):Nat→Nat
 | 0=>1
 | n+1=>prP N P n*(N*P n)
theorem prP_shift (N:Nat) (P:Nat→Nat):∀ n,prP N P (n+1)=N*P 0*prP N (fun i=>P (i+1)) n
 | 0=>by simp [prP]
 | n+1=>by
  rw [prP,prP_shift N P n,prP,Nat.mul_assoc]
theorem Ht.sig {f:Nat→Rat} {D m:Nat}:∀ n,(∀ j,j<n→Ht D m (f j))→Ht D (n*m) (Vm.sig n f)
 | 0,_=>Ht.zero _ _
 | n+1,h=>by
  rw [Vm.sig]
  exact ((Ht.sig n fun j hj=>h j (by omega)).add (h n (by omega))).mono (by rw [Nat.add_mul];omega)
theorem Ht.dt {N:Nat}:∀ {n:Nat} {a:Nat→Nat→Rat} {P:Nat→Nat},n≤N→(∀ i j,i<n→j<n→Ht 1 (P i) (a i j))→Ht 1 (prP N P n) (Vm.dt n a)
 | 0,_,_,_,_=>Ht.one 1 (Nat.le_refl _)
 | n+1,a,P,hn,h=>by
  rw [Vm.dt,prP_shift]
  have h1:=Ht.sig (D:=1) (m:=P 0*prP N (fun i=>P (i+1)) n) (f:=fun j=>sgn' j*a 0 j*Vm.dt n fun i l=>a (i+1) (skip j l)) (n+1) fun j hj=>by
   have e1:=h 0 j (by omega) hj
   have e2:=Ht.dt (N:=N) (n:=n) (a:=fun i l=>a (i+1) (skip j l)) (P:=fun i=>P (i+1)) (by omega) fun i l hi hl=>h (i+1) (skip j l) (by omega) (skip_lt hl)
   have e3:Ht 1 (P 0) (sgn' j*a 0 j):=by
    unfold sgn'
    split
    ·rw [Rat.one_mul];exact e1
    ·rw [show (-1:Rat)*a 0 j = - a 0 j by grind];exact e1.neg
   have:=e3.mul e2
   rwa [Nat.mul_one] at this
  refine h1.mono ?_
  rw [Nat.mul_assoc]
  exact Nat.mul_le_mul_right _ hn
theorem whole_ht {f:List (Int × Rat)} {D m:Nat} (h:∀ x,Ht D m (coef f x)) (b:Int) (x:Int):Ht D (m+D) (coef (wholeF b f) x):=by
 rw [coef_whole]
 refine (h x).sub ?_
 split
 ·have:=(Ht.one 1 (Nat.le_refl _)).wide D
  rw [Nat.one_mul] at this
  exact this
 ·exact Ht.zero _ _
theorem FollOk.ht {n:Int} {M N:TM} (hM:GT n M) (hMs:∀ r∈M,Sz r.2 536870000) (hNs:∀ r∈N,Sz r.2 536870000) {D m k D2 m2 k2:Nat} (h1:MHt M D m k) (h2:MHt N D2 m2 k2) (hk:k+k2+1≤536870000):FollOk M N :=
 ⟨fun r hr=>(hNs r hr).mono (by omega),fun r hr=>by
  have h3:vals (rf (wholeF r.1 r.2))=wholeF r.1 r.2:=vals_rf _
  have hw:=(hNs r hr).whole r.1
  refine ExOk.ht (D:=D2) (m:=m2+D2) (k:=k2+1) (FOk.rf (hw.mono (by omega)) (by omega)) (fun r hr=>(hMs r hr).mono (by omega)) (keys_le hM) h2.pos (fun x=>?_) (pow_up h2.dlt (by omega)) (by have:=h2.dlt;have:=h2.mlt;rw [Nat.pow_succ];omega) h1 (by omega)
  rw [h3]
  exact whole_ht (fun x=>h2.co r hr x) r.1 x⟩
theorem sz_ht {n:Int} {M:TM} (hM:GT n M) (hn:∀ r∈M,NF r.2) {D m k:Nat} (h:MHt M D m k):∀ r∈M,Sz r.2 (k+1+65536):=fun r hr =>
 sz_nf (hn r hr) hM.hi (fun p hp=>(hM.free r hr p hp).1) fun x=>h.nb hr x
theorem MHt.perm {M N:TM} {D m k:Nat} (h:MHt M D m k) (hp:N.Perm M):MHt N D m k:=⟨h.pos,fun r hr=>h.co r (hp.mem_iff.1 hr),h.dlt,h.mlt⟩
theorem pivP_nf {n:Int} {M:TM} {k:Nat} {b o:Int} (h:Piv n M k b o):∀ r∈pivP M k o (solvF b (M.getD k default).2 o),NF r.2:=fun r hr=>by
 unfold pivP at hr
 rcases List.mem_append.1 hr with hr | hr
 ·obtain ⟨r',_,rfl⟩:=List.mem_map.1 hr
  exact NF.put _ _ _
 ·simp at hr;subst hr;exact h.gn
theorem TG.rf {M:TM} (hn:∀ r∈M,NF r.2) (hs:∀ r∈M,Sz r.2 536870912) (hl:M.length≤65536):TG (rfT M):=by
 refine ⟨fun r hr p hp=>?_,fun r hr=>?_,by simp only [rfT,List.length_map];omega⟩
 ·obtain ⟨q,hq,rfl⟩:=List.mem_map.1 hr
  exact (FOk.rf (hs q hq) (by omega)).1 p hp
 ·obtain ⟨q,hq,rfl⟩:=List.mem_map.1 hr
  dsimp only
  rw [vals_rf]
  exact hs q hq
def sumZ (c:Int→Rat) (x:Int):TM→Rat
 | []=>0
 | r::M=>c r.1*zc r x+sumZ c x M
theorem sumZ_perm (c:Int→Rat) (x:Int) {M N:TM} (h:M.Perm N):sumZ c x M=sumZ c x N:=by
 induction h with
 | nil=>rfl
 | cons r _ ih=>rw [sumZ,sumZ,ih]
 | swap r q l=>simp only [sumZ];grind
 | trans _ _ ih1 ih2=>exact ih1.trans ih2
theorem sumZ_append (c:Int→Rat) (x:Int) (M N:TM):sumZ c x (M++N)=sumZ c x M+sumZ c x N:=by
 induction M with
 | nil=>simp [sumZ,Rat.zero_add]
 | cons r M ih=>simp only [List.cons_append,sumZ,ih,Rat.add_assoc]
theorem sumZ_lin (p:Rat) (c d:Int→Rat) (x:Int):∀ M:TM,sumZ (fun b=>p*c b+d b) x M=p*sumZ c x M+sumZ d x M
 | []=>by simp [sumZ,Rat.mul_zero,Rat.add_zero]
 | r::M=>by rw [sumZ,sumZ,sumZ,sumZ_lin p c d x M];grind
theorem sumZ_sig (c:Int→Rat) (x:Int) (M:TM):sumZ c x M=sig M.length fun i=>c (M.getD i default).1*zc (M.getD i default) x:=by
 have key:∀ i,i≤M.length→sumZ c x (M.take i)=sig i fun i=>c (M.getD i default).1*zc (M.getD i default) x:=by
  intro i
  induction i with
  | zero=>intro _;rfl
  | succ i ih =>
   intro hi
   rw [take_snoc (show i<M.length by omega),sig,← ih (by omega),sumZ_append]
   simp [sumZ,Rat.add_zero]
 have:=key M.length (Nat.le_refl _)
 rwa [List.take_length] at this
def Span (M:TM) (z:Int→Rat):Prop:=∀ x,z x = - sumZ z x M
theorem Span.perm {M N:TM} {z:Int→Rat} (h:Span M z) (hp:M.Perm N):Span N z:=fun x=>by rw [← sumZ_perm z x hp];exact h x
theorem Span.lin {M:TM} {y z:Int→Rat} (p:Rat) (hy:Span M y) (hz:Span M z):Span M fun x=>p*y x+z x:=fun x=>by
 rw [sumZ_lin]
 have h1:=hy x
 have h2:=hz x
 grind
theorem Span.zero (M:TM):Span M fun _=>0:=fun x=>by
 have:sumZ (fun _=>0) x M=0:=by
  induction M with
  | nil=>rfl
  | cons r M ih=>rw [sumZ,ih];grind
 rw [this];grind
theorem Span.comb {S:TM} (c:Int→Rat):∀ {M:TM},(∀ r∈M,Span S (zc r))→Span S fun x=>sumZ c x M
 | [],_=>Span.zero S
 | r::M,h=>by
  have h1:=Span.comb c fun q hq=>h q (List.mem_cons_of_mem _ hq)
  exact (h r List.mem_cons_self).lin (c r.1) h1
theorem Span.trans {M S:TM} {z:Int→Rat} (h:Span M z) (hS:∀ r∈M,Span S (zc r)):Span S z:=by
 have h1:=(Span.comb z hS).lin (-1) (Span.zero S)
 have h2:(fun x=>(-1:Rat)*sumZ z x M+0)=z:=by
  funext x
  rw [h x];grind
 rwa [h2] at h1
theorem span_foll {n:Int} {M N:TM} (hg:GT n M):follB M N=true↔∀ r∈N,Span M (zc r):=by
 rw [follB_iff hg]
 constructor
 ·intro h r hr x
  obtain ⟨j,hj,rfl⟩:=mem_getD hr
  rw [sumZ_sig]
  exact h j hj x
 ·intro h j hj x
  have:=h _ (getD_mem hj) x
  rwa [sumZ_sig] at this
def matA (F:TM) (k:Nat) (x:Int):Rat:=(dnf (F.getD k default).2:Rat)*zc (F.getD k default) x
def mat (F:TM) (l:List Int):Nat→Nat→Rat:=fun i j=>matA F i (l.getD j 0)
theorem Ht.one_of {D m:Nat} {q:Rat} (h:Ht D m q):Ht 1 m ((D:Rat)*q):=by
 obtain ⟨k,h1,h2⟩:=h
 exact ⟨k,by rw [← h1,show ((1:Nat):Rat)=1 from rfl];grind,h2⟩
theorem matA_ht (F:TM) (k:Nat) (x:Int):Ht 1 (2*htf (F.getD k default).2) (matA F k x):=by
 unfold matA
 have h:=whole_ht (fun x=>Ht.coef (F.getD k default).2 x) (F.getD k default).1 x
 rw [coef_wholeZ] at h
 exact (h.mono (by have:=dnf_le (F.getD k default).2;omega)).one_of
theorem tb_snoc' (M:TM) (r:Int × List (Int × Rat)):tb (M++[r])=tb M+(nbs r.2+1):=by
 induction M with
 | nil=>simp [tb];try omega
 | cons q M ih=>simp only [List.cons_append,tb,ih];omega
def detB (F:TM):Nat:=prP 65536 (fun k=>2*htf (F.getD k default).2) F.length
theorem prP_lt (F:TM):∀ n,n≤F.length→prP 65536 (fun k=>2*htf (F.getD k default).2) n<2^(tb (F.take n)+17*n+1)
 | 0,_=>by simp [prP]
 | n+1,h=>by
  have ih:=prP_lt F n (by omega)
  rw [take_snoc (show n<F.length by omega),tb_snoc',prP]
  have h1:=htf_lt (F.getD n default).2
  have h2:65536*(2*htf (F.getD n default).2)<2^(nbs (F.getD n default).2+18):=by
   rw [show nbs (F.getD n default).2+18=(nbs (F.getD n default).2+1)+17 by omega,Nat.pow_add]
   omega
  have h3:=mul_lt_pow ih h2
  exact pow_up h3 (by omega)
theorem detB_lt (F:TM):detB F<2^(tb F+17*F.length+1):=by
 have:=prP_lt F F.length (Nat.le_refl _)
 rwa [List.take_length] at this
theorem mat_swap (F:TM) (pre l:List Int) (x y:Int) {n:Nat} (hn:(pre++y::x::l).length=n):dt n (mat F (pre++x::y::l)) = - dt n (mat F (pre++y::x::l)):=by
 rw [← dt_swp (p:=pre.length) _ (by rw [← hn];simp)]
 refine dt_congr fun i j hi hj=>?_
 unfold swp mat
 have g1:(pre++x::y::l).getD pre.length 0=x:=by simp [List.getD_eq_getElem?_getD]
 have g2:(pre++x::y::l).getD (pre.length+1) 0=y:=by simp [List.getD_eq_getElem?_getD]
 have g3:(pre++y::x::l).getD pre.length 0=y:=by simp [List.getD_eq_getElem?_getD]
 have g4:(pre++y::x::l).getD (pre.length+1) 0=x:=by simp [List.getD_eq_getElem?_getD]
 by_cases h1:j=pre.length
 ·subst h1;rw [if_pos rfl,g1,g4]
 ·rw [if_neg h1]
  by_cases h2:j=pre.length+1
  ·subst h2;rw [if_pos rfl,g2,g3]
  ·rw [if_neg h2]
   congr 1
   by_cases h3:j<pre.length
   ·simp [List.getD_eq_getElem?_getD,List.getElem?_append_left h3]
   ·rw [List.getD_eq_getElem?_getD,List.getD_eq_getElem?_getD,List.getElem?_append_right (by omega),List.getElem?_append_right (by omega)]
    obtain ⟨d,hd⟩:∃ d,j-pre.length=d+2:=⟨j-pre.length-2,by omega⟩
    rw [hd]
    rfl
theorem mat_perm (F:TM) {l l':List Int} (h:l.Perm l'):∀ (pre:List Int) {n:Nat},(pre++l).length=n→dt n (mat F (pre++l))≠0→dt n (mat F (pre++l'))≠0:=by
 induction h with
 | nil=>intro pre n _ h;exact h
 | cons x hp ih =>
  intro pre n hn h
  have:=ih (pre++[x]) (n:=n) (by simpa using hn) (by simpa using h)
  simpa using this
 | swap x y l =>
  intro pre n hn h
  rw [mat_swap F pre l x y hn]
  intro h0
  exact h (by grind)
 | trans h1 h2 ih1 ih2 =>
  intro pre n hn h
  exact ih2 pre (by rw [← hn];simp [h1.length_eq]) (ih1 pre hn h)
structure PlayS (n:Int) (M F:TM):Prop where
 gt:GT n M
 nf:∀ r∈M,NF r.2
 len:F.length=M.length
 det:dt F.length (mat F (keys M))≠0
 span:∀ r∈F,Span M (zc r)
 fr:∀ r∈F,(0≤r.1∧r.1<n)∧∀ x,¬ (0≤x∧x<n)→coef r.2 x=0
theorem PlayS.nil {n:Int} (h:0≤n∧n≤65536):PlayS n [] [] :=
 ⟨⟨h.1,h.2,by simp [keys],by simp [keys],by simp⟩,by simp,rfl,by show dt 0 _≠0;rw [dt];decide,by simp,by simp⟩
section
variable {n:Int} {M F:TM}
theorem mat_cramer (h:PlayS n M F) {x:Int} (hx:x∉keys M) (i:Nat) (hi:i<F.length):matA F i x=sig F.length fun j=>(- coef (M.getD j default).2 x)*mat F (keys M) i j:=by
 have hs:=h.span _ (getD_mem hi) x
 rw [sumZ_sig] at hs
 unfold matA
 rw [hs,h.len]
 have h1:(sig M.length fun j=>(- coef (M.getD j default).2 x)*mat F (keys M) i j)=sig M.length fun j=>(-(dnf (F.getD i default).2:Rat))*(zc (F.getD i default) (M.getD j default).1*zc (M.getD j default) x):=sig_congr fun j hj=>by
  have e1:(keys M).getD j 0=(M.getD j default).1:=by simp [keys,List.getD_eq_getElem?_getD,hj]
  have e2:zc (M.getD j default) x=coef (M.getD j default).2 x:=by
   unfold zc
   rw [if_neg fun he:x=(M.getD j default).1=>hx (he ▸ List.mem_map.2 ⟨_,getD_mem hj,rfl⟩)]
   grind
  unfold mat matA
  rw [e1,e2]
  grind
 rw [h1,sig_mul]
 grind
theorem PlayS.solve (h:PlayS n M F) {x:Int} (hx:x∉keys M) {k:Nat} (hk:k<M.length):dt F.length (upd (mat F (keys M)) k fun i=>matA F i x)=(- coef (M.getD k default).2 x)*dt F.length (mat F (keys M)) :=
 cramer (fun i hi=>mat_cramer h hx i hi) (by rw [h.len];exact hk)
theorem PlayS.ht (h:PlayS n M F):∃ D,MHt M D (detB F) (tb F+17*F.length+1):=by
 have hl:F.length≤65536:=by rw [h.len];exact keys_le h.gt
 have hm:Ht 1 (detB F) (dt F.length (mat F (keys M))):=Ht.dt hl fun i j _ _=>matA_ht F i _
 obtain ⟨K,k1,k2⟩:=hm
 rw [show ((1:Nat):Rat)=1 from rfl,Rat.mul_one] at k1
 have hK:K≠0:=fun h0=>h.det (by rw [k1,h0];rfl)
 refine ⟨K.natAbs,by omega,fun r hr x=>?_,Nat.lt_of_le_of_lt k2 (detB_lt F),detB_lt F⟩
 by_cases hx:x∈keys M
 ·rw [free_coef h.gt hr hx];exact Ht.zero _ _
 ·obtain ⟨k,hk,rfl⟩:=mem_getD hr
  have hs:=h.solve hx hk
  have hc:Ht 1 (detB F) (dt F.length (upd (mat F (keys M)) k fun i=>matA F i x)):=Ht.dt hl fun i j _ _=>by
   unfold upd
   split
   ·exact matA_ht F i x
   ·exact matA_ht F i _
  obtain ⟨J,j1,j2⟩:=hc
  rw [show ((1:Nat):Rat)=1 from rfl,Rat.mul_one] at j1
  rw [j1,k1] at hs
  rcases Int.natAbs_eq K with hs' | hs'
  ·refine ⟨-J,?_,by omega⟩
   have e:((K.natAbs:Nat):Rat)=(K:Rat):=by rw [← Rat.intCast_natCast,← hs']
   rw [e,Rat.intCast_neg,hs];grind
  ·refine ⟨J,?_,j2⟩
   have e:((K.natAbs:Nat):Rat) = -(K:Rat):=by rw [← Rat.intCast_natCast,show ((K.natAbs:Nat):Int) = -K by omega,Rat.intCast_neg]
   rw [e,hs];grind
theorem PlayS.perm (h:PlayS n M F) {S:TM} (hp:M.Perm S):PlayS n S F :=
 ⟨h.gt.perm hp,fun r hr=>h.nf r (hp.mem_iff.2 hr),by rw [h.len,hp.length_eq],by
  have hk:(keys M).Perm (keys S):=hp.map _
  have:=mat_perm F hk [] (n:=F.length) (by simp [keys_len,h.len]) (by simpa using h.det)
  simpa using this,fun r hr=>(h.span r hr).perm hp,h.fr⟩
theorem PlayS.pivot (h:PlayS n M F) {k:Nat} {b o:Int} (hp:Piv n M k b o):PlayS n (pivP M k o (solvF b (M.getD k default).2 o)) F:=by
 have hpg:=hp.pgt
 have hko:o∈keys (pivP M k o (solvF b (M.getD k default).2 o)):=by rw [keys_pivP];simp
 obtain ⟨k',i1,i2,i3,_,_⟩:=look_idx hko
 obtain ⟨hb1,hb2,hb3⟩:=hp.back (List.Perm.refl _) i2 i3
 have hrow:∀ r∈M,Span (pivP M k o (solvF b (M.getD k default).2 o)) (zc r):=fun r hr=>by
  have hf:=hb1.foll
  rw [hb2,hp.solve_back] at hf
  exact (span_foll hpg).1 hf r (hb3.mem_iff.2 hr)
 have hlen:(pivP M k o (solvF b (M.getD k default).2 o)).length=M.length:=by
  unfold pivP
  have h1:=hp.hk
  simp [List.length_eraseIdx,h1]
  omega
 refine ⟨hpg,pivP_nf hp,by rw [hlen,h.len],?_,fun r hr=>(h.span r hr).trans hrow,h.fr⟩
 rw [keys_pivP]
 have hkl:k<(keys M).length:=by rw [keys_len];exact hp.hk
 have h1:((keys M).set k o).Perm ((keys M).eraseIdx k++[o]):=by
  have h2:=perm_erase (l:=(keys M).set k o) (k:=k) (by rw [List.length_set];exact hkl)
  rw [List.getElem_set_self,List.eraseIdx_set_eq] at h2
  exact h2.trans (List.perm_append_singleton _ _).symm
 have h3:dt F.length (mat F ((keys M).set k o))≠0:=by
  have e:dt F.length (mat F ((keys M).set k o))=dt F.length (upd (mat F (keys M)) k fun i=>matA F i o):=dt_congr fun i j hi hj=>by
   unfold upd mat
   by_cases hjk:j=k
   ·subst hjk
    rw [if_pos rfl,List.getD_eq_getElem?_getD,List.getElem?_set_self hkl]
    rfl
   ·rw [if_neg hjk,List.getD_eq_getElem?_getD,List.getD_eq_getElem?_getD,List.getElem?_set_ne (Ne.symm hjk)]
  rw [e,h.solve hp.ho hp.hk]
  intro h0
  rcases Rat.mul_eq_zero.1 h0 with h4 | h4
  ·exact hp.nz (by grind)
  ·exact h.det h4
 have:=mat_perm F h1 [] (n:=F.length) (by simp [keys_len,h.len]) (by simpa using h3)
 simpa using this
end
theorem PlayS.ok {n:Int} {M F:TM} (h:PlayS n M F) (hb:tb F+17*F.length≤268435456):TG (rfT M)∧(∀ r∈M,Sz r.2 268501000)∧nrmT (rfT M)=M∧M.length≤65536:=by
 obtain ⟨D,hm⟩:=h.ht
 have hs:=sz_ht h.gt h.nf hm
 have hl:=keys_le h.gt
 exact ⟨TG.rf h.nf (fun r hr=>(hs r hr).mono (by omega)) hl,fun r hr=>(hs r hr).mono (by omega),nrm_rf h.nf,hl⟩
theorem PlayS.ts {n:Int} {M F:TM} (h:PlayS n M F) (hb:tb F+17*F.length≤268435456):TS (rfT M) :=
 MOk.ts (B:=268501000) ⟨h.nf,(h.ok hb).2.1,by have:=(h.ok hb).2.2.2;omega⟩ (by omega)
theorem PlayS.ex {n:Int} {M F:TM} (h:PlayS n M F) {f:List (Int × RR)} (hf:∀ p∈f,p.2.ok) (hb:tb F+17*F.length+nbs (vals f)≤268435456):FOk f 536870912∧ExOk M f:=by
 obtain ⟨D,hm⟩:=h.ht
 have hfo:FOk f 536870912:=⟨hf,(Sz.of _).mono (by omega)⟩
 refine ⟨hfo,ExOk.ht (k:=nbs (vals f)+1) hfo (fun r hr=>((h.ok (by omega)).2.1 r hr).mono (by omega)) (keys_le h.gt) (dnf_pos (vals f)) (fun x=>Ht.coef _ x) (dnf_lt _) (htf_lt _) hm (by omega)⟩
structure StepR where
 piv:Bool
 form:List (Int × RR)
 b:Int
 o:Int
instance:Inhabited StepR:=⟨⟨false,[],0,0⟩⟩
def rowSt (s:StepR):List AV:=[.bool s.piv,.sl (tab rowM s.form),.int .i64 s.b,.int .i64 s.o]
def wst:List StepR→Nat
 | []=>0
 | s::l=>nbs (vals s.form)+18+wst l
end Go.Proofs.YtjmkfbhecgkbmaaGreat.Vm
namespace Go.Proofs.YtjmkfbhecgkbmaaGreat.Vm
open Go Go.RowKit
end Go.Proofs.YtjmkfbhecgkbmaaGreat.Vm
namespace Go.Proofs.YtjmkfbhecgkbmaaGreat.Vm
open Go Go.RowKit
end Go.Proofs.YtjmkfbhecgkbmaaGreat.Vm
namespace Go.Proofs.YtjmkfbhecgkbmaaGreat.Vm
open Go Go.RowKit
theorem keptD_ok {M:TM} {ds:List DD} (hg:GT (ds.length:Int) M) (hd:DsOk ds) (hM:tb M≤68157440) (v:Int):(valD (keptD M ds) v).ok∧nb2 (valD (keptD M ds) v).v≤135266307:=by
 have h1:=kept_nb hg hd hM Prod.fst (.inl rfl) v
 have h2:=kept_nb hg hd hM Prod.snd (.inr rfl) v
 unfold asgP at h1 h2
 rw [asg_val (fun d=>Prod.fst d.v) zeroR_v] at h1
 rw [asg_val (fun d=>Prod.snd d.v) zeroR_v] at h2
 refine ⟨?_,nb2_le h1 h2⟩
 unfold valD at h1 h2 ⊢
 by_cases hv:0≤v∧v<((keptD M ds).length:Int)
 ·rw [if_pos hv] at h1 h2 ⊢
  have h3:v.toNat<(keptD M ds).length:=by omega
  have h4:∃ x,(keptD M ds).getD v.toNat default=dq x:=by
   rw [keptD_len] at h3
   exact ⟨_,kept_getD M ds h3⟩
  obtain ⟨x,hx⟩:=h4
  rw [hx,dq_v] at h1 h2
  rw [hx]
  exact dq_ok (Nat.lt_of_le_of_lt (nb2_le h1 h2) (by omega))
 ·rw [if_neg hv]
  exact ⟨zeroR_ok,zeroR_ok⟩
theorem valD_set_ne {ds:List DD} {k:Nat} {d:DD} {v:Int} (h:v≠k):valD (ds.set k d) v=valD ds v:=by
 unfold valD
 rw [List.length_set]
 split
 ·rename_i hv
  rw [List.getD_eq_getElem?_getD,List.getD_eq_getElem?_getD,List.getElem?_set_ne (by omega)]
 ·rfl
theorem evd_val (ds:List DD) (f:List (Int × Rat)):evd ds f=(ev2 (fun v=>(valD ds v).v.1) f,ev2 (fun v=>(valD ds v).v.2) f):=by
 unfold evd
 refine Prod.ext ?_ ?_
 ·exact ev2_same fun p _=>asg_val (fun d=>d.a.v) zeroR_v ds p.1
 ·exact ev2_same fun p _=>asg_val (fun d=>d.b.v) zeroR_v ds p.1
theorem evd_congr {ds es:List DD} {f:List (Int × Rat)} (h:∀ p∈f,(valD ds p.1).v=(valD es p.1).v):evd ds f=evd es f:=by
 rw [evd_val,evd_val]
 exact Prod.ext (ev2_same fun p hp=>by rw [h p hp]) (ev2_same fun p hp=>by rw [h p hp])
theorem kept_val {M:TM} {ds:List DD} {v:Int} (hv:v∉keys M):(valD (keptD M ds) v).v=(valD ds v).v:=by
 unfold valD
 rw [keptD_len]
 split
 ·rename_i h
  rw [kept_getD M ds (by omega),dq_v]
  unfold extR
  rw [show ((v.toNat:Nat):Int)=v by omega,look_none hv]
 ·rfl
theorem kept_row {n:Int} {M:TM} (hg:GT n M) (ds:List DD) {r:Int × List (Int × Rat)} (hr:r∈M) (i:Nat):evd (keptD M ds) (r.2.take i)=evd ds (r.2.take i) :=
 evd_congr fun p hp=>kept_val (hg.free r hr p (List.mem_of_mem_take hp)).2
theorem set_row {n:Int} {M:TM} (hg:GT n M) (ds:List DD) {k:Nat} (hk:(k:Int)∈keys M) (d:DD) {r:Int × List (Int × Rat)} (hr:r∈M) (i:Nat):evd ((keptD M ds).set k d) (r.2.take i)=evd ds (r.2.take i):=by
 rw [← kept_row hg ds hr i]
 refine evd_congr fun p hp=>?_
 rw [valD_set_ne]
 intro he
 exact (hg.free r hr p (List.mem_of_mem_take hp)).2 (he ▸ hk)
theorem EvOk.kept {M:TM} {ds:List DD} (hg:GT (ds.length:Int) M) (hd:DsOk ds) (hM:tb M≤68157440):EvOk M (keptD M ds):=by
 have he:EvOk M ds:=hd.ev fun r hr=>by have:=tb_mem hr;omega
 refine ⟨fun v=>⟨(keptD_ok hg hd hM v).1,Nat.le_trans (keptD_ok hg hd hM v).2 (by omega)⟩,fun r hr=>⟨(he.ro r hr).1,(he.ro r hr).2.1,fun i=>?_⟩⟩
 rw [kept_row hg ds hr i]
 exact (he.ro r hr).2.2 i
theorem EvOk.set {M:TM} {ds:List DD} (hg:GT (ds.length:Int) M) (hd:DsOk ds) (hM:tb M≤68157440) {k:Nat} (hk:(k:Int)∈keys M) {d:DD} (h1:d.ok) (h2:nb2 d.v≤4294967296):EvOk M ((keptD M ds).set k d):=by
 have he:EvOk M ds:=hd.ev fun r hr=>by have:=tb_mem hr;omega
 have hv:=EvOk.kept hg hd hM
 refine ⟨fun v=>?_,fun r hr=>⟨(he.ro r hr).1,(he.ro r hr).2.1,fun i=>?_⟩⟩
 ·by_cases hvk:v=k
  ·subst hvk
   by_cases hlt:k<(keptD M ds).length
   ·rw [valD_getD (by rw [List.length_set];exact hlt)]
    rw [List.getD_eq_getElem?_getD,List.getElem?_set_self hlt]
    exact ⟨h1,h2⟩
   ·rw [List.set_eq_of_length_le (by omega)]
    exact hv.vo _
  ·rw [valD_set_ne hvk]
   exact hv.vo v
 ·rw [set_row hg ds hk d hr i]
  exact (he.ro r hr).2.2 i
def atA (ds:List DD) (v:Int) (d:DD):AV := .agg (.sl (tab rowD ds)::.int .i64 v::d.cells)
structure Pair (n:Int) (M N F:TM):Prop where
 a:PlayS n M F
 b:PlayS n N F
 mn:∀ r∈N,Span M (zc r)
 nm:∀ r∈M,Span N (zc r)
theorem Pair.nil {n:Int} (h:0≤n∧n≤65536):Pair n [] [] []:=⟨PlayS.nil h,PlayS.nil h,by simp,by simp⟩
theorem Pair.perm {n:Int} {M N F S T:TM} (h:Pair n M N F) (hS:M.Perm S) (hT:N.Perm T):Pair n S T F :=
 ⟨h.a.perm hS,h.b.perm hT,fun r hr=>(h.mn r (hT.mem_iff.2 hr)).perm hS,fun r hr=>(h.nm r (hS.mem_iff.2 hr)).perm hT⟩
theorem Span.more {M:TM} {z:Int→Rat} (h:Span M z) {n:Int} (hz:z n=0) (e:List (Int × Rat)):Span (M++[(n,e)]) z:=fun x=>by
 rw [sumZ_append]
 simp only [sumZ]
 rw [hz,h x]
 grind
theorem Pair.pivot {n:Int} {M N F:TM} (h:Pair n M N F) {k:Nat} {b o:Int} (hp:Piv n N k b o):Pair n M (pivP N k o (solvF b (N.getD k default).2 o)) F:=by
 have hpg:=hp.pgt
 have hko:o∈keys (pivP N k o (solvF b (N.getD k default).2 o)):=by rw [keys_pivP];simp
 obtain ⟨k',i1,i2,i3,_,_⟩:=look_idx hko
 obtain ⟨hb1,hb2,hb3⟩:=hp.back (List.Perm.refl _) i2 i3
 have hrow:∀ r∈N,Span (pivP N k o (solvF b (N.getD k default).2 o)) (zc r):=fun r hr=>by
  have hf:=hb1.foll
  rw [hb2,hp.solve_back] at hf
  exact (span_foll hpg).1 hf r (hb3.mem_iff.2 hr)
 have hrow2:∀ r∈pivP N k o (solvF b (N.getD k default).2 o),Span N (zc r):=(span_foll hp.gt).1 hp.foll
 exact ⟨h.a,h.b.pivot hp,fun r hr=>(hrow2 r hr).trans h.mn,fun r hr=>(h.nm r hr).trans hrow⟩
theorem keeps_span {n:Int} {M:TM} (hg:GT n M) {x:Int→Rat} (hx:∀ r∈M,x r.1=ev2 x r.2) {r:Int × List (Int × Rat)} (hs:Span M (zc r)):x r.1=ev2 x r.2:=by
 have h1:follB M [r]=true:=(span_foll hg).2 fun q hq=>by simp at hq;subst hq;exact hs
 unfold follB at h1
 rw [List.all_eq_true] at h1
 have h2:=h1 r (by simp)
 have h3:exprT M (wholeF r.1 r.2)=[]:=List.isEmpty_iff.1 h2
 have h4:=ev2_expr x hg hx (wholeF r.1 r.2)
 rw [h3] at h4
 unfold wholeF at h4
 rw [ev2_sub] at h4
 simp only [ev2] at h4
 grind
structure VHt (ds:List DD) (E h j:Nat):Prop where
 pos:0<E
 co:∀ pr:Rat × Rat→Rat,pr=Prod.fst∨pr=Prod.snd→∀ v,Ht E h (asgP pr ds v)
 elt:E<2^j
 hlt:h<2^j
theorem VHt.of' {ds:List DD} (hd:DsOk ds) (K:Nat) (hK:134217730≤K):∃ E h,VHt ds E h K:=by
 have h1:=hd.half Prod.fst (.inl rfl)
 have h2:=hd.half Prod.snd (.inr rfl)
 generalize hA:lift0 (ds.map fun d=>Prod.fst d.v)=A at *
 generalize hB:lift0 (ds.map fun d=>Prod.snd d.v)=B at *
 refine ⟨dnf A*dnf B,htf A*htf B,Nat.mul_pos (dnf_pos _) (dnf_pos _),fun pr hp v=>?_,pow_up (mul_lt_pow (dnf_lt A) (dnf_lt B)) (by omega),pow_up (mul_lt_pow (htf_lt A) (htf_lt B)) (by omega)⟩
 rcases hp with rfl | rfl
 ·have:=(Ht.asg (ds.map fun d=>Prod.fst d.v) v).wide (dnf B)
  rw [hA] at this
  exact this.mono (Nat.mul_le_mul_left _ (dnf_le B))
 ·have:=(Ht.asg (ds.map fun d=>Prod.snd d.v) v).wide' (dnf A)
  rw [hB] at this
  exact this.mono (Nat.mul_le_mul_right _ (dnf_le A))
theorem VHt.of {ds:List DD} (hd:DsOk ds):∃ E h,VHt ds E h 134217730:=VHt.of' hd _ (Nat.le_refl _)
theorem VHt.nb {ds:List DD} {E h j:Nat} (hv:VHt ds E h j) (v:Int):nb2 (valD ds v).v≤j+1:=by
 have h1:=(hv.co Prod.fst (.inl rfl) v).nb hv.pos hv.elt hv.hlt
 have h2:=(hv.co Prod.snd (.inr rfl) v).nb hv.pos hv.elt hv.hlt
 unfold asgP at h1 h2
 rw [asg_val (fun d=>Prod.fst d.v) zeroR_v] at h1
 rw [asg_val (fun d=>Prod.snd d.v) zeroR_v] at h2
 exact nb2_le h1 h2
theorem EvOk.ht {n:Int} {M:TM} (hg:GT n M) (hn:∀ r∈M,NF r.2) {D m k:Nat} (hM:MHt M D m k) {ds:List DD} {E h j:Nat} (hv:VHt ds E h j) (hok:∀ v,(valD ds v).ok) (hk:k+j+20≤4294967296):EvOk M ds:=by
 refine ⟨fun v=>⟨hok v,Nat.le_trans (hv.nb v) (by omega)⟩,fun r hr=>?_⟩
 have hl:=nf_len (hn r hr) hg.hi fun p hp=>(hg.free r hr p hp).1
 have hc:∀ p∈r.2,Ht D m p.2:=fun p hp=>by
  have:=hM.co r hr p.1
  rwa [(hn r hr).coef_mem hp] at this
 refine ⟨by omega,fun p hp=>Nat.le_trans ((hc p hp).nb hM.pos hM.dlt hM.mlt) (by omega),fun i=>?_⟩
 have hti:(r.2.take i).length<2^17:=by rw [List.length_take];omega
 have key:∀ pr:Rat × Rat→Rat,pr=Prod.fst∨pr=Prod.snd→nb (ev2 (asgP pr ds) (r.2.take i))≤4294967296:=fun pr hp=>by
  have h1:=Ht.evn (x:=asgP pr ds) (r.2.take i) fun p hp'=>⟨hc p (List.mem_of_mem_take hp'),hv.co pr hp p.1⟩
  exact Nat.le_trans (h1.nb (k:=17+(k+j)) (Nat.mul_pos hM.pos hv.pos) (pow_up (mul_lt_pow hM.dlt hv.elt) (by omega)) (mul_lt_pow hti (mul_lt_pow hM.mlt hv.hlt))) (by omega)
 exact nb2_le (by rw [evd_fst];exact key _ (.inl rfl)) (by rw [evd_snd];exact key _ (.inr rfl))
theorem VHt.kept {M:TM} {ds:List DD} (hg:GT (ds.length:Int) M) (hn:∀ r∈M,NF r.2) {D m k:Nat} (hM:MHt M D m k) {E h j:Nat} (hv:VHt ds E h j):VHt (keptD M ds) (D*E) (65536*((m+D)*h)) (k+j+18):=by
 refine ⟨Nat.mul_pos hM.pos hv.pos,fun pr hp v=>?_,pow_up (mul_lt_pow hM.dlt hv.elt) (by omega),?_⟩
 ·by_cases hvk:v∈keys M
  ·obtain ⟨r,hr,rfl⟩:=List.mem_map.1 hvk
   rw [kept_basic pr hg hr]
   have:pr (evd ds r.2)=ev2 (asgP pr ds) r.2:=by rcases hp with rfl | rfl <;> rfl
   rw [this]
   have hl:=nf_len (hn r hr) hg.hi fun p hp=>(hg.free r hr p hp).1
   have h1:=Ht.evn (x:=asgP pr ds) r.2 fun p hp'=>⟨by
    have:=hM.co r hr p.1
    rwa [(hn r hr).coef_mem hp'] at this,hv.co pr hp p.1⟩
   exact h1.mono (Nat.mul_le_mul hl (Nat.mul_le_mul_right _ (Nat.le_add_right _ _)))
  ·rw [kept_free pr ds hvk]
   refine ((hv.co pr hp v).wide' D).mono ?_
   have:D*h≤(m+D)*h:=Nat.mul_le_mul_right _ (Nat.le_add_left _ _)
   omega
 ·have h1:m+D<2^(k+1):=by have:=hM.dlt;have:=hM.mlt;rw [Nat.pow_succ];omega
  have h2:65536<2^17:=by decide
  exact pow_up (mul_lt_pow h2 (mul_lt_pow h1 hv.hlt)) (by omega)
def fullD (n:Nat) (ds:List DD):List DD:=ds.take n++List.replicate (n-ds.length) zeroD0
def dle (x y:Rat × Rat):Prop:=x.1<y.1∨(x.1=y.1∧x.2≤y.2)
def dlt (x y:Rat × Rat):Prop:=x.1<y.1∨(x.1=y.1∧x.2<y.2)
theorem dlt_iff {x y:Rat × Rat}:dlt x y↔¬ dle y x:=by
 unfold dlt dle
 constructor
 ·rintro (h | ⟨h1,h2⟩) (h' | ⟨h1',h2'⟩) <;> grind
 ·intro h
  simp only [not_or,not_and] at h
  by_cases h1:x.1<y.1
  ·exact .inl h1
  ·right
   have h2:x.1=y.1:=by grind
   exact ⟨h2,by have:=h.2 h2.symm;grind⟩
theorem dle_refl (x:Rat × Rat):dle x x := .inr ⟨rfl,Rat.le_refl⟩
theorem dlt.le {x y:Rat × Rat} (h:dlt x y):dle x y:=by
 unfold dlt dle at *
 rcases h with h | ⟨h1,h2⟩
 ·exact .inl h
 ·exact .inr ⟨h1,by grind⟩
theorem dle_trans {x y z:Rat × Rat} (h:dle x y) (h':dle y z):dle x z:=by unfold dle at *;grind
theorem dlt_le {x y z:Rat × Rat} (h:dlt x y) (h':dle y z):dlt x z:=by unfold dle dlt at *;grind
theorem dlt_irrefl (x:Rat × Rat):¬ dlt x x:=by unfold dlt;grind
def evp (x:Int→Rat × Rat) (f:List (Int × Rat)):Rat × Rat:=(ev2 (fun v=>(x v).1) f,ev2 (fun v=>(x v).2) f)
theorem evp_le {x y:Int→Rat × Rat}:∀ {f:List (Int × Rat)},(∀ p∈f,dle (p.2*(x p.1).1,p.2*(x p.1).2) (p.2*(y p.1).1,p.2*(y p.1).2))→dle (evp x f) (evp y f)
 | [],_=>dle_refl _
 | p::f,h=>by
  have h1:=h p List.mem_cons_self
  have h2:=evp_le fun q hq=>h q (List.mem_cons_of_mem _ hq)
  unfold evp dle at *
  simp only [ev2] at *
  rcases h1 with h1 | ⟨h1,h3⟩ <;> rcases h2 with h2 | ⟨h2,h4⟩
  ·left;grind
  ·left;grind
  ·left;grind
  ·right;constructor <;> grind
theorem scale_le {c:Rat} {x y:Rat × Rat} (hc:0<c) (h:dle x y):dle (c*x.1,c*x.2) (c*y.1,c*y.2):=by
 unfold dle at *
 rcases h with h | ⟨h1,h2⟩
 ·left
  exact Rat.mul_lt_mul_of_pos_left h hc
 ·right
  exact ⟨by show c*x.1=c*y.1;rw [h1],by
   show c*x.2≤c*y.2
   exact Rat.mul_le_mul_of_nonneg_left h2 (by grind)⟩
theorem scale_ge {c:Rat} {x y:Rat × Rat} (hc:c<0) (h:dle y x):dle (c*x.1,c*x.2) (c*y.1,c*y.2):=by
 have h1:=scale_le (c := -c) (by grind) h
 unfold dle at *
 simp only at *
 rcases h1 with h1 | ⟨h1,h2⟩
 ·left;grind
 ·right;constructor <;> grind
def withinB (lo up:Option (Rat × Rat)) (x:Rat × Rat):Prop:=(∀ l,lo=some l→dle l x)∧(∀ u,up=some u→dle x u)
def suit (low:Bool) (lo up:Option (Rat × Rat)) (x:Rat × Rat) (c:Rat):Prop:=if (decide (0<c))=low then ∀ u,up=some u→dlt x u else ∀ l,lo=some l→dlt l x
structure BRun (n:Nat) where
 B:Nat→Int→Prop
 row:Nat→List (Int × Rat)
 β:Nat→Int→Rat × Rat
 lv:Nat→Int
 en:Nat→Int
 low:Nat→Bool
 lo:Int→Option (Rat × Rat)
 up:Int→Option (Rat × Rat)
 rl:∀ t,0≤lv t∧lv t<n
 re:∀ t,0≤en t∧en t<n
 bl:∀ t,B t (lv t)
 be:∀ t,¬ B t (en t)
 bs:∀ t v,B (t+1) v↔(B t v∧v≠lv t)∨v=en t
 rf:∀ t,∀ p∈row t,¬ B t p.1∧p.2≠0
 ev:∀ t s,β s (lv t)=evp (β s) (row t)
 wn:∀ t v,¬ B t v→withinB (lo v) (up v) (β t v)
 least:∀ t v,v<lv t→B t v→withinB (lo v) (up v) (β t v)
 viol:∀ t,if low t then ∃ l,lo (lv t)=some l∧dlt (β t (lv t)) l else ∃ u,up (lv t)=some u∧dlt u (β t (lv t))
 suitE:∀ t,∃ c,(en t,c)∈row t∧suit (low t) (lo (en t)) (up (en t)) (β t (en t)) c
 uniq:∀ t,∀ p∈row t,∀ q∈row t,p.1=q.1→p.2=q.2
 suitL:∀ t,∀ p∈row t,p.1<en t→¬ suit (low t) (lo p.1) (up p.1) (β t p.1) p.2
 setB:∀ t,if low t then lo (lv t)=some (β (t+1) (lv t)) else up (lv t)=some (β (t+1) (lv t))
 keep:∀ t v,¬ B t v→¬ B (t+1) v→β (t+1) v=β t v
namespace BRun
variable {n:Nat} (R:BRun n)
theorem between {v:Int} {t1 t2:Nat} (h:t1<t2) (h1:R.lv t1=v) (h2:R.B t2 v):∃ t,t1<t∧t<t2∧R.en t=v:=by
 refine Classical.byContradiction fun hn=>?_
 have hno:∀ t,t1<t→t<t2→R.en t≠v:=fun t a b c=>hn ⟨t,a,b,c⟩
 have hne:R.en t1≠v:=fun he=>by have:=R.be t1;rw [he,← h1] at this;exact this (R.bl t1)
 have key:∀ d,t1+1+d≤t2→¬ R.B (t1+1+d) v:=by
  intro d
  induction d with
  | zero =>
   intro _ hb
   rcases (R.bs t1 v).1 hb with ⟨_,h3⟩ | h3
   ·exact h3 h1.symm
   ·exact hne h3.symm
  | succ d ih =>
   intro hd hb
   rcases (R.bs (t1+1+d) v).1 hb with ⟨h3,_⟩ | h3
   ·exact ih (by omega) h3
   ·exact hno _ (by omega) (by omega) h3.symm
 obtain ⟨d,rfl⟩:∃ d,t2=t1+1+d:=⟨t2-t1-1,by omega⟩
 exact key d (Nat.le_refl _) h2
theorem between' {v:Int} {t1 t2:Nat} (h:t1<t2) (h1:R.en t1=v) (h2:R.en t2=v):∃ t,t1<t∧t<t2∧R.lv t=v:=by
 refine Classical.byContradiction fun hn=>?_
 have hno:∀ t,t1<t→t<t2→R.lv t≠v:=fun t a b c=>hn ⟨t,a,b,c⟩
 have key:∀ d,t1+1+d≤t2→R.B (t1+1+d) v:=by
  intro d
  induction d with
  | zero=>intro _;exact (R.bs t1 v).2 (.inr h1.symm)
  | succ d ih =>
   intro hd
   exact (R.bs (t1+1+d) v).2 (.inl ⟨ih (by omega),fun he=>hno _ (by omega) (by omega) he.symm⟩)
 obtain ⟨d,rfl⟩:∃ d,t2=t1+1+d:=⟨t2-t1-1,by omega⟩
 have:=R.be (t1+1+d)
 rw [h2] at this
 exact this (key d (Nat.le_refl _))
theorem last {v:Int}:∀ (d t0:Nat),R.lv t0=v→∃ s,t0≤s∧s≤t0+d∧R.lv s=v∧∀ t,s<t→t≤t0+d→R.lv t≠v
 | 0,t0,h=>⟨t0,Nat.le_refl _,Nat.le_refl _,h,fun t a b=>by omega⟩
 | d+1,t0,h=>by
  by_cases hl:R.lv (t0+(d+1))=v
  ·exact ⟨t0+(d+1),by omega,Nat.le_refl _,hl,fun t a b=>by omega⟩
  ·obtain ⟨s,h1,h2,h3,h4⟩:=last d t0 h
   refine ⟨s,h1,by omega,h3,fun t a b=>?_⟩
   by_cases he:t=t0+(d+1)
   ·rw [he];exact hl
   ·exact h4 t a (by omega)
def inf (v:Int):Prop:=∀ N,∃ t,N<t∧(R.en t=v∨R.lv t=v)
theorem fin_bound {P:Nat→Int→Prop}:∀ k:Nat,(∀ v:Int,0≤v→v<k→∃ N,∀ t,N<t→¬ P t v)→∃ N,∀ t,N<t→∀ v:Int,0≤v→v<k→¬ P t v
 | 0,_=>⟨0,fun t _ v h1 h2=>by omega⟩
 | k+1,h=>by
  obtain ⟨N,hN⟩:=fin_bound k fun v h1 h2=>h v h1 (by omega)
  obtain ⟨N',hN'⟩:=h k (by omega) (by omega)
  refine ⟨max N N',fun t ht v h1 h2=>?_⟩
  by_cases hv:v=k
  ·rw [hv];exact hN' t (by omega)
  ·exact hN t (by omega) v h1 (by omega)
theorem notinf {v:Int} (h:¬ R.inf v):∃ N,∀ t,N<t→¬ (R.en t=v∨R.lv t=v):=by
 unfold inf at h
 simp only [Classical.not_forall] at h
 obtain ⟨N,hN⟩:=h
 exact ⟨N,fun t ht hc=>hN ⟨t,ht,hc⟩⟩
theorem greatest:∃ r:Int,R.inf r∧∃ T0,∀ t,T0<t→R.en t≤r∧R.lv t≤r:=by
 have hex:∃ v:Int,0≤v∧v<n∧R.inf v:=by
  refine Classical.byContradiction fun hn=>?_
  obtain ⟨N,hN⟩:=fin_bound (P:=fun t v=>R.en t=v∨R.lv t=v) n fun v h1 h2=>R.notinf fun hi=>hn ⟨v,h1,h2,hi⟩
  exact hN (N+1) (by omega) (R.en (N+1)) (R.re _).1 (R.re _).2 (.inl rfl)
 have hmax:∀ k:Nat,(∃ v:Int,0≤v∧v<k∧R.inf v)→∃ r:Int,0≤r∧r<k∧R.inf r∧∀ v:Int,r<v→v<k→¬ R.inf v:=by
  intro k
  induction k with
  | zero=>rintro ⟨v,h1,h2,_⟩;omega
  | succ k ih =>
   rintro ⟨v,h1,h2,h3⟩
   by_cases hk:R.inf k
   ·exact ⟨k,by omega,by omega,hk,fun v a b=>by omega⟩
   ·have hv:v≠k:=fun he=>hk (he ▸ h3)
    obtain ⟨r,a,b,c,d⟩:=ih ⟨v,h1,by omega,h3⟩
    refine ⟨r,a,by omega,c,fun w e f=>?_⟩
    by_cases hw:w=k
    ·rw [hw];exact hk
    ·exact d w e (by omega)
 obtain ⟨r,h1,h2,h3,h4⟩:=hmax n hex
 refine ⟨r,h3,?_⟩
 obtain ⟨N,hN⟩:=fin_bound (P:=fun t v=>r<v∧(R.en t=v∨R.lv t=v)) n fun v h1 h2=>by
  by_cases hv:r<v
  ·obtain ⟨N,hN⟩:=R.notinf (h4 v hv h2)
   exact ⟨N,fun t ht hc=>hN t ht hc.2⟩
  ·exact ⟨0,fun t ht hc=>hv hc.1⟩
 refine ⟨N,fun t ht=>⟨?_,?_⟩⟩
 ·refine Classical.byContradiction fun hc=>hN t ht _ (R.re t).1 (R.re t).2 ⟨by omega,.inl rfl⟩
 ·refine Classical.byContradiction fun hc=>hN t ht _ (R.rl t).1 (R.rl t).2 ⟨by omega,.inr rfl⟩
theorem ent_again {r:Int} (h:R.inf r) (N:Nat):∃ t,N<t∧R.en t=r:=by
 obtain ⟨t1,a1,h1⟩:=h N
 rcases h1 with h1 | h1
 ·exact ⟨t1,a1,h1⟩
 ·obtain ⟨t2,a2,h2⟩:=h t1
  rcases h2 with h2 | h2
  ·exact ⟨t2,by omega,h2⟩
  ·obtain ⟨t,b1,b2,b3⟩:=R.between a2 h1 (by rw [← h2];exact R.bl t2)
   exact ⟨t,by omega,b3⟩
theorem const {v:Int} {s:Nat}:∀ d,(∀ t,s≤t→t<s+d→R.en t≠v)→¬ R.B s v→¬ R.B (s+d) v∧R.β (s+d) v=R.β s v
 | 0,_,h=>⟨h,rfl⟩
 | d+1,hd,h=>by
  obtain ⟨h1,h2⟩:=const d (fun t a b=>hd t a (by omega)) h
  have h3:¬ R.B (s+d+1) v:=fun hb=>by
   rcases (R.bs (s+d) v).1 hb with ⟨h4,_⟩ | h4
   ·exact h1 h4
   ·exact hd (s+d) (by omega) (by omega) h4.symm
  exact ⟨h3,(R.keep (s+d) v h1 h3).trans h2⟩
theorem absurd (R:BRun n):False:=by
 obtain ⟨r,hinf,T0,hT0⟩:=R.greatest
 obtain ⟨t1,a1,e1⟩:=R.ent_again hinf T0
 obtain ⟨T,a2,e2⟩:=R.ent_again hinf t1
 obtain ⟨s0,b1,b2,b3⟩:=R.between' a2 e1 e2
 obtain ⟨S,c1,c2,c3,c4⟩:=R.last (T-1-s0) s0 b3
 have hST:S<T:=by omega
 have hlast:∀ t,S<t→t<T→R.lv t≠r:=fun t a b=>c4 t a (by omega)
 have hnoen:∀ t,S+1≤t→t<T→R.en t≠r:=fun t a b he=>by
  obtain ⟨u,d1,d2,d3⟩:=R.between' b he e2
  exact hlast u (by omega) d2 d3
 have hS1:¬ R.B (S+1) r:=fun hb=>by
  rcases (R.bs S r).1 hb with ⟨_,h⟩ | h
  ·exact h c3.symm
  ·have:=R.be S;rw [← h,← c3] at this;exact this (R.bl S)
 obtain ⟨d,hd⟩:∃ d,T=S+1+d:=⟨T-S-1,by omega⟩
 have hval:R.β T r=R.β (S+1) r:=by
  rw [hd]
  exact (R.const d (fun t a b=>hnoen t a (by omega)) hS1).2
 obtain ⟨c,hc,hsu⟩:=R.suitE T
 rw [e2] at hc hsu
 have hjr:R.lv T<r:=by
  have h1:=(hT0 T (by omega)).2
  have h2:R.lv T≠r:=fun he=>by have:=R.be T;rw [e2,← he] at this;exact this (R.bl T)
  omega
 have hwS:∀ v,v<r→withinB (R.lo v) (R.up v) (R.β S v):=fun v hv=>by
  by_cases hb:R.B S v
  ·exact R.least S v (by rw [c3];exact hv) hb
  ·exact R.wn S v hb
 have hset:=R.setB S
 have hvS:=R.viol S
 rw [c3] at hset hvS
 rw [← hval] at hset
 have hevS:=R.ev T S
 have hevT:=R.ev T T
 have hvT:=R.viol T
 have hwj:=hwS _ hjr
 have hpart:∀ p∈R.row T,if R.low T then dle (p.2*(R.β S p.1).1,p.2*(R.β S p.1).2) (p.2*(R.β T p.1).1,p.2*(R.β T p.1).2) else dle (p.2*(R.β T p.1).1,p.2*(R.β T p.1).2) (p.2*(R.β S p.1).1,p.2*(R.β S p.1).2):=by
  rintro ⟨v,q⟩ hp
  obtain ⟨hnb,hq0⟩:=R.rf T _ hp
  dsimp only at *
  have hsgn:q<0∨0<q:=by grind
  by_cases hvr:v<r
  ·have hns:=R.suitL T _ hp (by rw [e2];exact hvr)
   have hw:=hwS v hvr
   dsimp only at hns
   unfold suit at hns
   rcases hsgn with hq | hq
   ·have hdq:decide (0<q)=false:=by simp;grind
    rw [hdq] at hns
    cases hl:R.low T with
    | false =>
     rw [hl,if_pos rfl] at hns
     rw [if_neg (by simp)]
     simp only [Classical.not_forall] at hns
     obtain ⟨u,hu,hnu⟩:=hns
     rw [dlt_iff,Classical.not_not] at hnu
     exact scale_ge hq (dle_trans (hw.2 u hu) hnu)
    | true =>
     rw [hl,if_neg (by simp)] at hns
     rw [if_pos rfl]
     simp only [Classical.not_forall] at hns
     obtain ⟨l,hu,hnu⟩:=hns
     rw [dlt_iff,Classical.not_not] at hnu
     exact scale_ge hq (dle_trans hnu (hw.1 l hu))
   ·have hdq:decide (0<q)=true:=by simp;exact hq
    rw [hdq] at hns
    cases hl:R.low T with
    | true =>
     rw [hl,if_pos rfl] at hns
     rw [if_pos rfl]
     simp only [Classical.not_forall] at hns
     obtain ⟨u,hu,hnu⟩:=hns
     rw [dlt_iff,Classical.not_not] at hnu
     exact scale_le hq (dle_trans (hw.2 u hu) hnu)
    | false =>
     rw [hl,if_neg (by simp)] at hns
     rw [if_neg (by simp)]
     simp only [Classical.not_forall] at hns
     obtain ⟨l,hu,hnu⟩:=hns
     rw [dlt_iff,Classical.not_not] at hnu
     exact scale_le hq (dle_trans hnu (hw.1 l hu))
  ·by_cases hve:v=r
   ·subst hve
    have hcq:c=q:=R.uniq T _ hc _ hp rfl
    subst hcq
    unfold suit at hsu
    rcases hsgn with hq | hq
    ·have hdq:decide (0<c)=false:=by simp;grind
     rw [hdq] at hsu
     cases hl:R.low T with
     | false =>
      rw [hl,if_pos rfl] at hsu
      rw [if_neg (by simp)]
      cases hlS:R.low S with
      | true =>
       rw [hlS] at hset hvS
       simp only [if_true] at hset hvS
       obtain ⟨l,h1,h2⟩:=hvS
       rw [hset] at h1
       cases h1
       exact scale_ge hq h2.le
      | false =>
       rw [hlS] at hset
       simp only [Bool.false_eq_true,if_false] at hset
       exact (dlt_irrefl _ (hsu _ hset)).elim
     | true =>
      rw [hl,if_neg (by simp)] at hsu
      rw [if_pos rfl]
      cases hlS:R.low S with
      | false =>
       rw [hlS] at hset hvS
       simp only [Bool.false_eq_true,if_false] at hset hvS
       obtain ⟨u,h1,h2⟩:=hvS
       rw [hset] at h1
       cases h1
       exact scale_ge hq h2.le
      | true =>
       rw [hlS] at hset
       simp only [if_true] at hset
       exact (dlt_irrefl _ (hsu _ hset)).elim
    ·have hdq:decide (0<c)=true:=by simp;exact hq
     rw [hdq] at hsu
     cases hl:R.low T with
     | true =>
      rw [hl,if_pos rfl] at hsu
      rw [if_pos rfl]
      cases hlS:R.low S with
      | true =>
       rw [hlS] at hset hvS
       simp only [if_true] at hset hvS
       obtain ⟨l,h1,h2⟩:=hvS
       rw [hset] at h1
       cases h1
       exact scale_le hq h2.le
      | false =>
       rw [hlS] at hset
       simp only [Bool.false_eq_true,if_false] at hset
       exact (dlt_irrefl _ (hsu _ hset)).elim
     | false =>
      rw [hl,if_neg (by simp)] at hsu
      rw [if_neg (by simp)]
      cases hlS:R.low S with
      | false =>
       rw [hlS] at hset hvS
       simp only [Bool.false_eq_true,if_false] at hset hvS
       obtain ⟨u,h1,h2⟩:=hvS
       rw [hset] at h1
       cases h1
       exact scale_le hq h2.le
      | true =>
       rw [hlS] at hset
       simp only [if_true] at hset
       exact (dlt_irrefl _ (hsu _ hset)).elim
   ·
    have hen:∀ t,T0<t→R.en t≠v:=fun t ht he=>by have:=(hT0 t ht).1;omega
    have hlv:∀ t,T0<t→R.lv t≠v:=fun t ht he=>by have:=(hT0 t ht).2;omega
    have hnbS:¬ R.B S v:=fun hb=>by
     have key:∀ e,S+e≤T→R.B (S+e) v:=by
      intro e
      induction e with
      | zero=>intro _;exact hb
      | succ e ih=>intro he;exact (R.bs (S+e) v).2 (.inl ⟨ih (by omega),fun h=>hlv (S+e) (by omega) h.symm⟩)
     have:=key (T-S) (by omega)
     rw [show S+(T-S)=T by omega] at this
     exact hnb this
    have hcst:=(R.const (v:=v) (s:=S) (T-S) (fun t a b=>hen t (by omega)) hnbS).2
    rw [show S+(T-S)=T by omega] at hcst
    rw [hcst]
    split <;> exact dle_refl _
 cases hl:R.low T with
 | true =>
  rw [hl] at hvT
  simp only [hl,if_true] at hvT hpart
  obtain ⟨l,h1,h2⟩:=hvT
  have h3:=evp_le hpart
  rw [← hevS,← hevT] at h3
  exact dlt_irrefl _ (dlt_le (dlt_le h2 (hwj.1 l h1)) h3)
 | false =>
  rw [hl] at hvT
  simp only [hl,Bool.false_eq_true,if_false] at hvT hpart
  obtain ⟨u,h1,h2⟩:=hvT
  have h3:=evp_le hpart
  rw [← hevS,← hevT] at h3
  exact dlt_irrefl _ (dlt_le (dlt_le h2 h3) (hwj.2 u h1))
end BRun
abbrev Q2:=Rat × Rat
instance decDlt (x y:Q2):Decidable (dlt x y):=by unfold dlt;infer_instance
def atQ (xs:List Q2) (v:Int):Q2:=if 0≤v∧v<(xs.length:Int) then xs.getD v.toNat (0,0) else (0,0)
abbrev Lim:=Int→Option Q2 × Option Q2
def lowQ (lim:Lim) (xs:List Q2) (v:Int):Bool:=match (lim v).1 with | some l=>decide (dlt (atQ xs v) l) | none=>false
def highQ (lim:Lim) (xs:List Q2) (v:Int):Bool:=match (lim v).2 with | some u=>decide (dlt u (atQ xs v)) | none=>false
def badQ (lim:Lim) (xs:List Q2) (v:Int):Bool:=lowQ lim xs v || highQ lim xs v
def suitQ (lim:Lim) (xs:List Q2) (low:Bool) (p:Int × Rat):Bool :=
 if decide (0<p.2)=low then (match (lim p.1).2 with | some u=>decide (dlt (atQ xs p.1) u) | none=>true) else (match (lim p.1).1 with | some l=>decide (dlt l (atQ xs p.1)) | none=>true)
theorem suitQ_iff {lim:Lim} {xs:List Q2} {low:Bool} {p:Int × Rat}:suitQ lim xs low p=true↔suit low (lim p.1).1 (lim p.1).2 (atQ xs p.1) p.2:=by
 unfold suitQ suit
 split
 ·cases h:(lim p.1).2 with
  | none=>simp
  | some u=>simp
 ·cases h:(lim p.1).1 with
  | none=>simp
  | some u=>simp
def firstV (lim:Lim) (xs:List Q2) (M:TM):Option Nat:=M.findIdx? fun r=>badQ lim xs r.1
def firstE (lim:Lim) (xs:List Q2) (low:Bool) (f:List (Int × Rat)):Option Nat:=f.findIdx? (suitQ lim xs low)
def goalQ (lim:Lim) (xs:List Q2) (b:Int):Q2:=if lowQ lim xs b then ((lim b).1).getD (0,0) else ((lim b).2).getD (0,0)
def pivM (M:TM) (k j:Nat):TM:=sortM (pivP M k ((M.getD k default).2.getD j default).1 (solvF (M.getD k default).1 (M.getD k default).2 ((M.getD k default).2.getD j default).1))
def setQ (xs:List Q2) (b:Int) (g:Q2):List Q2:=xs.set b.toNat g
def extQ (M:TM) (xs:List Q2):List Q2:=extL M (xs.map dq)
def cstep (lim:Lim) (s:TM × List Q2):Option (TM × List Q2) :=
 match firstV lim s.2 s.1 with
 | none=>none
 | some k=>match firstE lim s.2 (lowQ lim s.2 (s.1.getD k default).1) (s.1.getD k default).2 with
  | none=>none
  | some j=>some (pivM s.1 k j,extQ (pivM s.1 k j) (setQ s.2 (s.1.getD k default).1 (goalQ lim s.2 (s.1.getD k default).1)))
theorem extQ_len (M:TM) (xs:List Q2):(extQ M xs).length=xs.length:=by unfold extQ;rw [extL_len,List.length_map]
theorem atQ_kept {M:TM} {xs:List Q2} (v:Int):atQ (extQ M xs) v=(valD (keptD M (xs.map dq)) v).v:=by
 unfold atQ valD keptD extQ
 rw [extL_len,List.length_map,List.length_map,extL_len,List.length_map]
 split
 ·rename_i h
  have hl:v.toNat<(extL M (xs.map dq)).length:=by rw [extL_len,List.length_map];omega
  simp [List.getD_eq_getElem?_getD,hl,dq_v]
 ·rw [zeroD0_v']
theorem atQ_val (xs:List Q2) (v:Int):(valD (xs.map dq) v).v=atQ xs v:=by
 unfold atQ valD
 rw [List.length_map]
 split
 ·rename_i h
  have hl:v.toNat<xs.length:=by omega
  simp [List.getD_eq_getElem?_getD,hl,dq_v]
 ·rw [zeroD0_v']
theorem atQ_ext_free {M:TM} {xs:List Q2} {v:Int} (hv:v∉keys M):atQ (extQ M xs) v=atQ xs v:=by
 rw [atQ_kept,kept_val hv,atQ_val]
theorem atQ_ext_row {M:TM} {xs:List Q2} (hg:GT (xs.length:Int) M) {r:Int × List (Int × Rat)} (hr:r∈M):atQ (extQ M xs) r.1=evp (atQ (extQ M xs)) r.2:=by
 have hl:((xs.map dq).length:Int)=(xs.length:Int):=by rw [List.length_map]
 have hg':GT ((xs.map dq).length:Int) M:=by rw [hl];exact hg
 have h1:=kept_rows1 hg' r hr
 have h2:=kept_rows2 hg' r hr
 have e:∀ (pr:Q2→Rat),pr (0,0)=0→∀ v,asgP pr (keptD M (xs.map dq)) v=pr (atQ (extQ M xs) v):=fun pr hp v=>by
  rw [atQ_kept]
  unfold asgP
  exact asg_val (fun d=>pr d.v) (by show pr zeroD0.v=0;rw [zeroD0_v'];exact hp) _ v
 have e1:asgP Prod.fst (keptD M (xs.map dq))=fun v=>(atQ (extQ M xs) v).1:=funext (e Prod.fst rfl)
 have e2:asgP Prod.snd (keptD M (xs.map dq))=fun v=>(atQ (extQ M xs) v).2:=funext (e Prod.snd rfl)
 rw [e1] at h1
 rw [e2] at h2
 exact Prod.ext h1 h2
theorem atQ_set {xs:List Q2} {b:Int} (hb:0≤b∧b<(xs.length:Int)) (g:Q2) (v:Int):atQ (setQ xs b g) v=if v=b then g else atQ xs v:=by
 unfold atQ setQ
 rw [List.length_set]
 by_cases hv:v=b
 ·subst hv
  rw [if_pos hb,if_pos rfl,List.getD_eq_getElem?_getD,List.getElem?_set_self (by omega)]
  rfl
 ·rw [if_neg hv]
  split
  ·rename_i h
   rw [List.getD_eq_getElem?_getD,List.getD_eq_getElem?_getD,List.getElem?_set_ne (by omega)]
  ·rfl
def LimOk (lim:Lim):Prop:=∀ v l u,(lim v).1=some l→(lim v).2=some u→dle l u
structure CInv (n:Nat) (lim:Lim) (F:TM) (s:TM × List Q2):Prop where
 play:PlayS (n:Int) s.1 F
 sort:(keys s.1).Pairwise (·<·)
 len:s.2.length=n
 rows:∀ r∈s.1,atQ s.2 r.1=evp (atQ s.2) r.2
 wn:∀ v,v∉keys s.1→0≤v→v<n→withinB (lim v).1 (lim v).2 (atQ s.2 v)
theorem findIdx_some {α:Type} [Inhabited α] {l:List α} {p:α→Bool} {k:Nat} (h:l.findIdx? p=some k):k<l.length∧p (l.getD k default)=true∧∀ i,i<k→p (l.getD i default)=false:=by
 obtain ⟨h1,h2,h3⟩:=List.findIdx?_eq_some_iff_getElem.1 h
 refine ⟨h1,by simpa [List.getD_eq_getElem?_getD,h1] using h2,fun i hi=>?_⟩
 have:=h3 i hi
 have hl:i<l.length:=by omega
 simpa [List.getD_eq_getElem?_getD,hl] using this
structure CStep (n:Nat) (lim:Lim) (s s':TM × List Q2) (k j:Nat):Prop where
 v:firstV lim s.2 s.1=some k
 e:firstE lim s.2 (lowQ lim s.2 (s.1.getD k default).1) (s.1.getD k default).2=some j
 eq:s'=(pivM s.1 k j,extQ (pivM s.1 k j) (setQ s.2 (s.1.getD k default).1 (goalQ lim s.2 (s.1.getD k default).1)))
theorem cstep_some {n:Nat} {lim:Lim} {s s':TM × List Q2} (h:cstep lim s=some s'):∃ k j,CStep n lim s s' k j:=by
 unfold cstep at h
 split at h
 ·cases h
 ·rename_i k hk
  split at h
  ·cases h
  ·rename_i j hj
   cases h
   exact ⟨k,j,hk,hj,rfl⟩
section
variable {n:Nat} {lim:Lim} {F:TM} {s s':TM × List Q2} {k j:Nat}
theorem CStep.piv (hc:CInv n lim F s) (h:CStep n lim s s' k j):Piv (n:Int) s.1 k (s.1.getD k default).1 ((s.1.getD k default).2.getD j default).1:=by
 obtain ⟨h1,_⟩:=findIdx_some h.v
 obtain ⟨h2,_⟩:=findIdx_some h.e
 have hp:=getD_mem h2
 have hf:=hc.play.gt.free _ (getD_mem h1) _ hp
 refine ⟨hc.play.gt,hc.play.nf,h1,rfl,hf.2,hf.1,?_⟩
 have hn:=hc.play.nf _ (getD_mem h1)
 rw [hn.coef_mem hp]
 exact hn.nz _ hp
theorem CStep.play (hc:CInv n lim F s) (h:CStep n lim s s' k j):PlayS (n:Int) s'.1 F:=by
 have hp:=h.piv hc
 rw [h.eq]
 exact (hc.play.pivot hp).perm (sortM_perm hp.pgt.nodup).symm
theorem CStep.keys (hc:CInv n lim F s) (h:CStep n lim s s' k j) (v:Int):v∈keys s'.1↔(v∈Vm.keys s.1∧v≠(s.1.getD k default).1)∨v=((s.1.getD k default).2.getD j default).1:=by
 have hp:=h.piv hc
 rw [h.eq]
 show v∈Vm.keys (pivM s.1 k j)↔_
 unfold pivM
 rw [keys_sortM,mem_sortK,keys_pivP,List.mem_append,List.mem_singleton]
 have hk:k<(Vm.keys s.1).length:=by rw [keys_len];exact hp.hk
 have h1:=perm_erase hk
 have h2:(Vm.keys s.1)[k]=(s.1.getD k default).1:=by
  have:=hp.hk
  simp [Vm.keys,List.getD_eq_getElem?_getD,this]
 rw [h2] at h1
 have h3:=h1.nodup_iff.1 hp.gt.nodup
 rw [List.nodup_cons] at h3
 constructor
 ·rintro (h4 | h4)
  ·exact .inl ⟨List.mem_of_mem_eraseIdx h4,fun he=>h3.1 (he ▸ h4)⟩
  ·exact .inr h4
 ·rintro (⟨h4,h5⟩ | h4)
  ·rcases List.mem_cons.1 (h1.mem_iff.1 h4) with h6 | h6
   ·exact absurd h6 h5
   ·exact .inl h6
  ·exact .inr h4
theorem CStep.bad (h:CStep n lim s s' k j):(lowQ lim s.2 (s.1.getD k default).1=true∧∃ l,(lim (s.1.getD k default).1).1=some l∧dlt (atQ s.2 (s.1.getD k default).1) l∧goalQ lim s.2 (s.1.getD k default).1=l) ∨
  (lowQ lim s.2 (s.1.getD k default).1=false∧∃ u,(lim (s.1.getD k default).1).2=some u∧dlt u (atQ s.2 (s.1.getD k default).1)∧goalQ lim s.2 (s.1.getD k default).1=u):=by
 obtain ⟨_,h2,_⟩:=findIdx_some h.v
 unfold goalQ
 generalize (s.1.getD k default).1=b at *
 cases hl:lowQ lim s.2 b with
 | true =>
  refine .inl ⟨rfl,?_⟩
  unfold lowQ at hl
  cases hb:(lim b).1 with
  | none=>rw [hb] at hl;cases hl
  | some l =>
   rw [hb] at hl
   exact ⟨l,rfl,by simpa using hl,by simp⟩
 | false =>
  refine .inr ⟨rfl,?_⟩
  unfold badQ at h2
  rw [hl,Bool.false_or] at h2
  unfold highQ at h2
  cases hb:(lim b).2 with
  | none=>rw [hb] at h2;cases h2
  | some u =>
   rw [hb] at h2
   exact ⟨u,rfl,by simpa using h2,by simp⟩
theorem CStep.inv (hl:LimOk lim) (hc:CInv n lim F s) (h:CStep n lim s s' k j):CInv n lim F s':=by
 have hp:=h.piv hc
 have hpl:=h.play hc
 have hb:=hp.gt.range _ hp.hb
 have hlen:(setQ s.2 (s.1.getD k default).1 (goalQ lim s.2 (s.1.getD k default).1)).length=n:=by unfold setQ;rw [List.length_set];exact hc.len
 have hkk:=h.keys hc
 have heq:=h.eq
 subst heq
 refine ⟨hpl,?_,by rw [extQ_len];exact hlen,fun r hr=>atQ_ext_row (by rw [hlen];exact hpl.gt) hr,fun v hv h0 h1=>?_⟩
 ·show (Vm.keys (pivM s.1 k j)).Pairwise (·<·)
  unfold pivM
  rw [keys_sortM]
  exact sortK_lt hp.pgt.nodup
 ·dsimp only at hv ⊢
  rw [atQ_ext_free hv,atQ_set (by rw [hc.len];exact hb)]
  by_cases hvb:v=(s.1.getD k default).1
  ·rw [if_pos hvb,hvb]
   rcases h.bad with ⟨_,l,e1,e2,e3⟩ | ⟨_,u,e1,e2,e3⟩
   ·rw [e3]
    refine ⟨fun l' hl'=>?_,fun u hu=>hl _ l u e1 hu⟩
    rw [e1] at hl';cases hl';exact dle_refl _
   ·rw [e3]
    refine ⟨fun l hl'=>hl _ l u hl' e1,fun u' hu=>?_⟩
    rw [e1] at hu;cases hu;exact dle_refl _
  ·rw [if_neg hvb]
   refine hc.wn v (fun hm=>hv ((hkk v).2 (.inl ⟨hm,hvb⟩))) h0 h1
theorem CStep.span (hc:CInv n lim F s) (h:CStep n lim s s' k j):(∀ r∈s'.1,Span s.1 (zc r))∧(∀ r∈s.1,Span s'.1 (zc r)):=by
 have hp:=h.piv hc
 have hpg:=hp.pgt
 have hS:=sortM_perm hpg.nodup
 rw [h.eq]
 have h1:∀ r∈pivP s.1 k ((s.1.getD k default).2.getD j default).1 (solvF (s.1.getD k default).1 (s.1.getD k default).2 ((s.1.getD k default).2.getD j default).1),Span s.1 (zc r):=(span_foll hp.gt).1 hp.foll
 refine ⟨fun r hr=>h1 r (hS.mem_iff.1 hr),fun r hr=>?_⟩
 have hko:((s.1.getD k default).2.getD j default).1∈Vm.keys (pivP s.1 k ((s.1.getD k default).2.getD j default).1 (solvF (s.1.getD k default).1 (s.1.getD k default).2 ((s.1.getD k default).2.getD j default).1)):=by rw [keys_pivP];simp
 obtain ⟨k',i1,i2,i3,_,_⟩:=look_idx hko
 obtain ⟨hb1,hb2,hb3⟩:=hp.back (List.Perm.refl _) i2 i3
 have hf:=hb1.foll
 rw [hb2,hp.solve_back] at hf
 exact ((span_foll hpg).1 hf r (hb3.mem_iff.2 hr)).perm hS.symm
end
theorem keeps_spanQ {n:Int} {M:TM} (hg:GT n M) {x:Int→Q2} (hx:∀ r∈M,x r.1=evp x r.2) {r:Int × List (Int × Rat)} (hs:Span M (zc r)):x r.1=evp x r.2:=by
 have h1:=keeps_span hg (x:=fun v=>(x v).1) (fun q hq=>congrArg Prod.fst (hx q hq)) hs
 have h2:=keeps_span hg (x:=fun v=>(x v).2) (fun q hq=>congrArg Prod.snd (hx q hq)) hs
 exact Prod.ext h1 h2
def iterC (lim:Lim) (s:TM × List Q2):Nat→Option (TM × List Q2)
 | 0=>some s
 | t+1=>(iterC lim s t).bind (cstep lim)
theorem getD_el {α:Type} [Inhabited α] {l:List α} {i:Nat} (h:i<l.length):l.getD i default=l[i]:=by
 rw [List.getD_eq_getElem?_getD,List.getElem?_eq_getElem h];rfl
theorem sorted_lt {l:List Int} (h:l.Pairwise (·<·)) {i k:Nat} (hi:i<l.length) (hk:k<l.length) (hlt:l[i]<l[k]):i<k:=by
 rcases Nat.lt_trichotomy i k with h1 | h1 | h1
 ·exact h1
 ·subst h1;omega
 ·have:=List.pairwise_iff_getElem.1 h k i hk hi h1;omega
theorem within_of_bad {lim:Lim} {xs:List Q2} {v:Int} (h:badQ lim xs v=false):withinB (lim v).1 (lim v).2 (atQ xs v):=by
 unfold badQ at h
 rw [Bool.or_eq_false_iff] at h
 obtain ⟨h1,h2⟩:=h
 unfold lowQ at h1
 unfold highQ at h2
 refine ⟨fun l hl=>?_,fun u hu=>?_⟩
 ·rw [hl] at h1
  have h3:=of_decide_eq_false h1
  rw [dlt_iff] at h3
  exact Classical.not_not.1 h3
 ·rw [hu] at h2
  have h3:=of_decide_eq_false h2
  rw [dlt_iff] at h3
  exact Classical.not_not.1 h3
def cutL (n:Nat) (lim:Lim) (v:Int):Option Q2 × Option Q2:=if 0≤v∧v<n then lim v else (none,none)
theorem cutL_in {n:Nat} {lim:Lim} {v:Int} (h:0≤v∧v<n):cutL n lim v=lim v:=if_pos h
theorem CInv.runs {n:Nat} {lim:Lim} {F:TM} (hl:LimOk lim) {S:Nat→TM × List Q2} (h0:CInv n lim F (S 0)) (K J:Nat→Nat) (hs:∀ t,CStep n lim (S t) (S (t+1)) (K t) (J t)):False:=by
 have hi:∀ t,CInv n lim F (S t):=by
  intro t
  induction t with
  | zero=>exact h0
  | succ t ih=>exact (hs t).inv hl ih
 have hP:=fun t=>(hs t).piv (hi t)
 have sp1:∀ t d,(∀ r∈(S (t+d)).1,Span (S t).1 (zc r))∧(∀ r∈(S t).1,Span (S (t+d)).1 (zc r)):=by
  intro t d
  induction d with
  | zero =>
   have h1:=(hs t).span (hi t)
   have self:∀ r∈(S t).1,Span (S t).1 (zc r):=fun r hr=>(h1.2 r hr).trans h1.1
   exact ⟨self,self⟩
  | succ d ih =>
   have h1:=(hs (t+d)).span (hi (t+d))
   exact ⟨fun r hr=>(h1.1 r hr).trans ih.1,fun r hr=>(ih.2 r hr).trans h1.2⟩
 have sp:∀ t s,∀ r∈(S t).1,Span (S s).1 (zc r):=by
  intro t s r hr
  rcases Nat.le_total t s with h | h
  ·have:=(sp1 t (s-t)).2 r hr
   rwa [show t+(s-t)=s by omega] at this
  ·have h1:=sp1 s (t-s)
   rw [show s+(t-s)=t by omega] at h1
   exact h1.1 r hr
 have hrng:∀ t,∀ p∈((S t).1.getD (K t) default).2,0≤p.1∧p.1<(n:Int):=fun t p hp=>((hi t).play.gt.free _ (getD_mem (hP t).hk) p hp).1
 have hlr:∀ t,0≤((S t).1.getD (K t) default).1∧((S t).1.getD (K t) default).1<(n:Int):=fun t=>(hi t).play.gt.range _ (hP t).hb
 have hnf:∀ t,NF ((S t).1.getD (K t) default).2:=fun t=>(hi t).play.nf _ (getD_mem (hP t).hk)
 have hlen:∀ t,(setQ (S t).2 ((S t).1.getD (K t) default).1 (goalQ lim (S t).2 ((S t).1.getD (K t) default).1)).length=n:=fun t=>by unfold setQ;rw [List.length_set];exact (hi t).len
 have hnew:∀ t v,v∉keys (S (t+1)).1→atQ (S (t+1)).2 v=if v=((S t).1.getD (K t) default).1 then goalQ lim (S t).2 ((S t).1.getD (K t) default).1 else atQ (S t).2 v:=by
  intro t v hv
  have he:=(hs t).eq
  rw [he] at hv ⊢
  dsimp only at hv ⊢
  rw [atQ_ext_free hv,atQ_set (by rw [(hi t).len];exact hlr t)]
 have hout:∀ t,((S t).1.getD (K t) default).1∉keys (S (t+1)).1:=by
  intro t hm
  rcases ((hs t).keys (hi t) _).1 hm with ⟨_,h1⟩ | h1
  ·exact h1 rfl
  ·exact (hP t).bo h1
 refine BRun.absurd (n:=n) ⟨fun t v=>v∈keys (S t).1,fun t=>((S t).1.getD (K t) default).2,fun t v=>atQ (S t).2 v,fun t=>((S t).1.getD (K t) default).1,fun t=>(((S t).1.getD (K t) default).2.getD (J t) default).1,fun t=>lowQ lim (S t).2 ((S t).1.getD (K t) default).1,fun v=>(cutL n lim v).1,fun v=>(cutL n lim v).2,hlr,fun t=>(hP t).or,fun t=>(hP t).hb,fun t=>(hP t).ho,fun t v=>(hs t).keys (hi t) v,fun t p hp=>⟨((hi t).play.gt.free _ (getD_mem (hP t).hk) p hp).2,(hnf t).nz p hp⟩,fun t s=>keeps_spanQ (hi s).play.gt (hi s).rows (sp t s _ (getD_mem (hP t).hk)),?_,?_,?_,?_,?_,?_,?_,?_⟩
 ·intro t v hv
  by_cases hr:0≤v∧v<(n:Int)
  ·simp only [cutL_in hr]
   exact (hi t).wn v hv hr.1 hr.2
  ·unfold cutL
   rw [if_neg hr]
   exact ⟨fun l hl=>(by cases hl),fun u hu=>(by cases hu)⟩
 ·intro t v hlt hv
  rw [cutL_in ((hi t).play.gt.range v hv)]
  obtain ⟨_,_,h3⟩:=findIdx_some (hs t).v
  obtain ⟨i,i1,i2,i3,_,_⟩:=look_idx hv
  have hk:=(hP t).hk
  have hik:i<K t:=by
   refine sorted_lt (hi t).sort (by rw [keys_len];exact i2) (by rw [keys_len];exact hk) ?_
   simp only [keys,List.getElem_map]
   have e1:(S t).1[i]=(S t).1.getD i default:=by simp [List.getD_eq_getElem?_getD,i2]
   have e2:(S t).1[K t]=(S t).1.getD (K t) default:=by simp [List.getD_eq_getElem?_getD,hk]
   rw [e1,e2,i3]
   exact hlt
  have h4:=h3 i hik
  rw [i3] at h4
  exact within_of_bad h4
 ·intro t
  rw [cutL_in (hlr t)]
  rcases (hs t).bad with ⟨h1,l,h2,h3,_⟩ | ⟨h1,u,h2,h3,_⟩
  ·rw [if_pos h1];exact ⟨l,h2,h3⟩
  ·rw [if_neg (by rw [h1];simp)];exact ⟨u,h2,h3⟩
 ·intro t
  obtain ⟨h1,h2,_⟩:=findIdx_some (hs t).e
  have hm:=getD_mem h1
  refine ⟨_,hm,?_⟩
  rw [cutL_in (hrng t _ hm)]
  exact suitQ_iff.1 h2
 ·intro t p hp q hq he
  rw [← (hnf t).coef_mem hp,← (hnf t).coef_mem hq,he]
 ·intro t p hp hlt
  rw [cutL_in (hrng t p hp)]
  obtain ⟨h1,_,h3⟩:=findIdx_some (hs t).e
  obtain ⟨i,i1,i2⟩:=List.mem_iff_getElem.1 hp
  have hij:i<J t:=by
   refine sorted_lt (l:=((S t).1.getD (K t) default).2.map Prod.fst) (List.pairwise_map.2 (hnf t).lt) (by rw [List.length_map];exact i1) (by rw [List.length_map];exact h1) ?_
   simp only [List.getElem_map]
   rw [i2,← getD_el h1]
   exact hlt
  have h4:=h3 i hij
  have e1:((S t).1.getD (K t) default).2.getD i default=p:=by rw [getD_el i1,i2]
  rw [e1] at h4
  intro hsu
  rw [suitQ_iff.2 hsu] at h4
  cases h4
 ·intro t
  rw [cutL_in (hlr t),hnew t _ (hout t),if_pos rfl]
  rcases (hs t).bad with ⟨h1,l,h2,_,h4⟩ | ⟨h1,u,h2,_,h4⟩
  ·rw [if_pos h1,h4];exact h2
  ·rw [if_neg (by rw [h1];simp),h4];exact h2
 ·intro t v hv hv'
  rw [hnew t v hv',if_neg (fun he=>hv (by rw [he];exact (hP t).hb))]
theorem CInv.ends {n:Nat} {lim:Lim} {F:TM} {s:TM × List Q2} (hl:LimOk lim) (h0:CInv n lim F s):∃ t z,iterC lim s t=some z∧cstep lim z=none:=by
 refine Classical.byContradiction fun hn=>?_
 have hall:∀ t,∃ z,iterC lim s t=some z:=by
  intro t
  induction t with
  | zero=>exact ⟨s,rfl⟩
  | succ t ih =>
   obtain ⟨z,hz⟩:=ih
   cases hc:cstep lim z with
   | none=>exact absurd ⟨t,z,hz,hc⟩ hn
   | some z'=>exact ⟨z',by show (iterC lim s t).bind _=_;rw [hz];exact hc⟩
 let S:=fun t=>Classical.choose (hall t)
 have hS:∀ t,iterC lim s t=some (S t):=fun t=>Classical.choose_spec (hall t)
 have hst:∀ t,cstep lim (S t)=some (S (t+1)):=by
  intro t
  have h1:=hS (t+1)
  have h2:iterC lim s (t+1)=(iterC lim s t).bind (cstep lim):=rfl
  rw [h2,hS t] at h1
  exact h1
 have hS0:S 0=s:=by have:=hS 0;exact (Option.some.inj this).symm
 have hex:∀ t,∃ q:Nat × Nat,CStep n lim (S t) (S (t+1)) q.1 q.2:=fun t=>by
  obtain ⟨k,j,h⟩:=cstep_some (n:=n) (hst t)
  exact ⟨(k,j),h⟩
 exact CInv.runs hl (by rw [hS0];exact h0) (fun t=>(Classical.choose (hex t)).1) (fun t=>(Classical.choose (hex t)).2) (fun t=>Classical.choose_spec (hex t))
theorem CInv.iter {n:Nat} {lim:Lim} {F:TM} (hl:LimOk lim) {s:TM × List Q2} (h0:CInv n lim F s):∀ {t:Nat} {z:TM × List Q2},iterC lim s t=some z→CInv n lim F z
 | 0,z,h=>by cases h;exact h0
 | t+1,z,h=>by
  have h1:(iterC lim s t).bind (cstep lim)=some z:=h
  cases h2:iterC lim s t with
  | none=>rw [h2] at h1;cases h1
  | some y =>
   rw [h2] at h1
   obtain ⟨k,j,h3⟩:=cstep_some (n:=n) (lim:=lim) h1
   exact h3.inv hl (CInv.iter hl h0 h2)
def RestC (lim:Lim) (s:TM × List Q2) (k:Nat):Prop:=∃ z,iterC lim s k=some z∧cstep lim z=none
theorem iterC_succ {lim:Lim} {s s':TM × List Q2} (h:cstep lim s=some s'):∀ k,iterC lim s (k+1)=iterC lim s' k
 | 0=>by show (some s).bind _=_;exact h
 | k+1=>by
  show (iterC lim s (k+1)).bind _=(iterC lim s' k).bind _
  rw [iterC_succ h k]
theorem RestC.step {lim:Lim} {s s':TM × List Q2} {k:Nat} (h:RestC lim s k) (hc:cstep lim s=some s'):∃ m,k=m+1∧RestC lim s' m:=by
 obtain ⟨z,h1,h2⟩:=h
 cases k with
 | zero=>cases h1;rw [hc] at h2;cases h2
 | succ m=>exact ⟨m,rfl,z,by rw [← iterC_succ hc];exact h1,h2⟩
theorem RestC.zero {lim:Lim} {s:TM × List Q2} {k:Nat} (h:RestC lim s k) (hc:cstep lim s=none):k=0:=by
 cases k with
 | zero=>rfl
 | succ m =>
  obtain ⟨z,h1,_⟩:=h
  exfalso
  have:∀ m,iterC lim s (m+1)=none:=by
   intro m
   induction m with
   | zero=>show (some s).bind _=_;exact hc
   | succ m ih=>show (iterC lim s (m+1)).bind _=_;rw [ih];rfl
  rw [this m] at h1
  cases h1
theorem PlayS.grow {n:Int} {M F:TM} (h:PlayS n M F) (hn:n<65536):PlayS (n+1) M F:=by
 have hlo:=h.gt.lo
 refine ⟨⟨by omega,by omega,h.gt.nodup,fun b hb=>?_,fun r hr p hp=>?_⟩,h.nf,h.len,h.det,h.span,fun r hr=>?_⟩
 ·have:=h.gt.range b hb;omega
 ·have:=h.gt.free r hr p hp
  exact ⟨by omega,this.2⟩
 ·have h1:=h.fr r hr
  exact ⟨by omega,fun x hx=>h1.2 x (by omega)⟩
theorem evp_congr {x y:Int→Q2}:∀ {f:List (Int × Rat)},(∀ p∈f,x p.1=y p.1)→evp x f=evp y f
 | [],_=>rfl
 | p::f,h=>by
  have h1:=h p List.mem_cons_self
  have h2:=evp_congr fun q hq=>h q (List.mem_cons_of_mem _ hq)
  unfold evp at *
  simp only [Prod.mk.injEq] at h2
  simp only [ev2,h1,h2.1,h2.2]
theorem atQ_snoc (xs:List Q2) (g:Q2) (v:Int):atQ (xs++[g]) v=if v=xs.length then g else atQ xs v:=by
 unfold atQ
 rw [List.length_append,List.length_singleton]
 by_cases hv:v=xs.length
 ·subst hv
  rw [if_pos (by omega),if_pos rfl,Int.toNat_natCast]
  simp [List.getD_eq_getElem?_getD]
 ·rw [if_neg hv]
  by_cases h:0≤v∧v<(xs.length:Int)
  ·rw [if_pos (by omega),if_pos h]
   have:v.toNat<xs.length:=by omega
   simp [List.getD_eq_getElem?_getD,List.getElem?_append_left this]
  ·rw [if_neg (by omega),if_neg h]
section
variable {n:Nat} {lim lim':Lim} {F:TM} {s:TM × List Q2}
theorem CInv.nil (lim:Lim):CInv 0 lim [] ([],[]) :=
 ⟨PlayS.nil (by omega),by simp [keys],rfl,by simp,fun v _ h0 h1=>by omega⟩
theorem CInv.free (hc:CInv n lim F s) {v:Int} {g:Q2} (hv:v∉keys s.1) (hr:0≤v∧v<(n:Int)) (hg:withinB (lim' v).1 (lim' v).2 g) (ho:∀ u,u∉keys s.1→0≤u→u<n→u≠v→withinB (lim' u).1 (lim' u).2 (atQ s.2 u)):CInv n lim' F (s.1,extQ s.1 (setQ s.2 v g)):=by
 have hlen:(setQ s.2 v g).length=n:=by unfold setQ;rw [List.length_set,hc.len]
 refine ⟨hc.play,hc.sort,by rw [extQ_len];exact hlen,fun r hr=>atQ_ext_row (by rw [hlen];exact hc.play.gt) hr,fun u hu h0 h1=>?_⟩
 dsimp only at hu ⊢
 rw [atQ_ext_free hu,atQ_set (by rw [hc.len];exact hr)]
 by_cases he:u=v
 ·rw [if_pos he,he];exact hg
 ·rw [if_neg he];exact ho u hu h0 h1 he
theorem CInv.grow (hc:CInv n lim F s) (hn:n<65536) (hl:∀ v:Int,0≤v→v<n→lim' v=lim v) (hln:lim' (n:Int)=(none,none)):CInv (n+1) lim' F (s.1,s.2++[(0,0)]):=by
 have hlv:∀ {v:Int},v<(n:Int)→atQ (s.2++[(0,0)]) v=atQ s.2 v:=fun h=>by rw [atQ_snoc,if_neg (by rw [hc.len];omega)]
 refine ⟨by have:=hc.play.grow (by omega);simpa using this,hc.sort,by simp [hc.len],fun r hr=>?_,fun v hv h0 h1=>?_⟩
 ·dsimp only at hr ⊢
  have h1:=hc.play.gt.range r.1 (List.mem_map.2 ⟨r,hr,rfl⟩)
  rw [hlv h1.2,hc.rows r hr]
  exact evp_congr fun p hp=>(hlv (hc.play.gt.free r hr p hp).1.2).symm
 ·dsimp only at hv ⊢
  by_cases he:v=(n:Int)
  ·rw [he,hln]
   exact ⟨fun l hl=>(by cases hl),fun u hu=>(by cases hu)⟩
  ·rw [hlv (by omega),hl v h0 (by omega)]
   exact hc.wn v hv h0 (by omega)
end
def ValB (D m:Nat) (s:TM × List Q2):Prop:=∀ v,v∉keys s.1→Ht D m (atQ s.2 v).1∧Ht D m (atQ s.2 v).2
def LimB (D m:Nat) (lim:Lim):Prop:=∀ v,(∀ l,(lim v).1=some l→Ht D m l.1∧Ht D m l.2)∧(∀ u,(lim v).2=some u→Ht D m u.1∧Ht D m u.2)
theorem ValB.step {D m n:Nat} {lim:Lim} {F:TM} {s s':TM × List Q2} {k j:Nat} (hB:ValB D m s) (hL:LimB D m lim) (hc:CInv n lim F s) (h:CStep n lim s s' k j):ValB D m s':=by
 intro v hv
 have hp:=h.piv hc
 have hb:=hp.gt.range _ hp.hb
 have hkk:=h.keys hc
 have heq:=h.eq
 subst heq
 dsimp only at hv ⊢
 rw [atQ_ext_free hv,atQ_set (by rw [hc.len];exact hb)]
 by_cases hvb:v=(s.1.getD k default).1
 ·rw [if_pos hvb]
  rcases h.bad with ⟨_,l,e1,_,e3⟩ | ⟨_,u,e1,_,e3⟩
  ·rw [e3];exact (hL _).1 l e1
  ·rw [e3];exact (hL _).2 u e1
 ·rw [if_neg hvb]
  exact hB v fun hm=>hv ((hkk v).2 (.inl ⟨hm,hvb⟩))
abbrev Bd:=Option (Q2 × Int)
abbrev Lm:=Bd × Bd
structure Chg where
 v:Int
 up:Bool
 lev:Int
 was:Bd
deriving Inhabited
def ownB (up:Bool) (l:Lm):Bd:=if up then l.2 else l.1
def setB (up:Bool) (l:Lm) (b:Bd):Lm:=if up then (l.1,b) else (b,l.2)
def tightQ (up:Bool) (a b:Q2):Bool:=if up then decide (dlt a b) else decide (dlt b a)
def tightB (up:Bool) (a:Q2) (b:Bd):Bool:=match b with | some x=>tightQ up a x.1 | none=>false
abbrev LF:=Int→Lm
def turnF (f:LF) (v:Int) (l:Lm):LF:=fun u=>if u=v then l else f u
inductive Said where
 | kept | moved | clash (why:Int)
def saidB (l:Lm) (up:Bool) (a:Q2):Said :=
 if (ownB up l).isSome&&!tightB up a (ownB up l) then .kept else if tightB up a (ownB (!up) l) then .clash ((ownB (!up) l).getD ((0,0),0)).2 else .moved
structure Sto where
 lev:Int
 f:LF
 tr:List Chg
def Sto.move (S:Sto) (v:Int) (up:Bool) (a:Q2) (why:Int):Sto:=⟨S.lev,turnF S.f v (setB up (S.f v) (some (a,why))),S.tr++[⟨v,up,S.lev,ownB up (S.f v)⟩]⟩
def Sto.assert (S:Sto) (v:Int) (up:Bool) (a:Q2) (why:Int):Sto:=match saidB (S.f v) up a with | .moved=>S.move v up a why | _=>S
def unC (f:LF) (c:Chg):LF:=turnF f c.v (setB c.up (f c.v) c.was)
def unds (tr:List Chg):Nat→LF→LF
 | 0,f=>f
 | j+1,f=>unC (unds tr j f) (tr.getD (tr.length-1-j) default)
def goneN (L:Int) (tr:List Chg):Nat:=(tr.reverse.takeWhile fun c=>decide (L<c.lev)).length
def Sto.back (S:Sto) (L:Int):Sto:=⟨L,unds S.tr (goneN L S.tr) S.f,S.tr.take (S.tr.length-goneN L S.tr)⟩
structure Mark where
 v:Int
 up:Bool
 a:Q2
 why:Int
 lev:Int
def goM (S:Sto) (m:Mark):Sto:=Sto.assert ⟨m.lev,S.f,S.tr⟩ m.v m.up m.a m.why
def sto0:Sto:=⟨0,fun _=>(none,none),[]⟩
def playM (l:List Mark):Sto:=l.foldl goM sto0
def Taken:List Mark→Prop
 | l=>∀ k,k<l.length→∀ m,l[k]?=some m→∀ w,saidB ((playM (l.take k)).f m.v) m.up m.a ≠ .clash w
theorem Taken.take {l:List Mark} (h:Taken l) (j:Nat):Taken (l.take j):=by
 intro k hk m hm w
 rw [List.length_take] at hk
 rw [List.take_take,Nat.min_eq_left (by omega)]
 rw [List.getElem?_take,if_pos (by omega)] at hm
 exact h k (by omega) m hm w
theorem Taken.snoc {l:List Mark} {m:Mark} (h:Taken l) (hm:∀ w,saidB ((playM l).f m.v) m.up m.a ≠ .clash w):Taken (l++[m]):=by
 intro k hk q hq w
 rw [List.length_append,List.length_singleton] at hk
 by_cases hkl:k=l.length
 ·subst hkl
  simp at hq
  subst hq
  simpa using hm w
 ·rw [List.getElem?_append_left (by omega)] at hq
  rw [List.take_append_of_le_length (by omega)]
  exact h k (by omega) q hq w
theorem Taken.pre {l:List Mark} {m:Mark} (h:Taken (l++[m])):Taken l∧∀ w,saidB ((playM l).f m.v) m.up m.a ≠ .clash w:=by
 refine ⟨by have:=h.take l.length;simpa using this,fun w=>?_⟩
 have:=h l.length (by simp) m (by simp) w
 simpa using this
def asT (up:Bool) (a b:Q2):Prop:=if up then dle a b else dle b a
def limS (f:LF):Lim:=fun v=>((f v).1.map Prod.fst,(f v).2.map Prod.fst)
def bdB (b:Bd):BB:=match b with | none=>zeroB | some x=>⟨true,dq x.1,x.2⟩
def lmL (l:Lm):LL:=⟨bdB l.1,bdB l.2⟩
def BB.nm (b:BB):BB:=if b.has then ⟨true,dq b.at_.v,b.why⟩ else zeroB
def LL.nm (l:LL):LL:=⟨l.lower.nm,l.upper.nm⟩
def rowH (c:Chg):List AV := .int .i64 c.v::.bool c.up::.int .i64 c.lev::(bdB c.was).cells
mutual
def AV.mv (f:Nat→Nat):AV→AV
 | .sref j off n => .sref (f j) off n
 | .ptr j r off => .ptr (f j) r off
 | .mp j => .mp (f j)
 | .it j => .it (f j)
 | .agg cs => .agg (AV.mvs f cs)
 | .tup cs => .tup (AV.mvs f cs)
 | .fn g fs cs => .fn g (AV.mvs f fs) (AV.mvs f cs)
 | .ifc t x => .ifc t (AV.mv f x)
 | x=>x
def AV.mvs (f:Nat→Nat):List AV→List AV
 | []=>[]
 | x::xs=>AV.mv f x::AV.mvs f xs
end
theorem mvs_length (f:Nat→Nat):∀ l:List AV,(AV.mvs f l).length=l.length
 | []=>rfl
 | x::xs=>by simp [AV.mvs,mvs_length f xs]
def Ob.mv (f:Nat→Nat):Ob→Ob
 | .dead => .dead
 | .arr T k p rows => .arr T k p (if p then rows else rows.map (AV.mvs f))
 | .map clock births rows => .map clock births rows
 | .iter m since seen stepped => .iter (m.mv f) since seen stepped
mutual
theorem Rp.mv {w:World} {A:Nat→Prop} {ρ:Pl} (f:Nat→Nat):∀ (x:AV) (v:Value),Rp w A ρ (x.mv f) v↔Rp w A (fun i=>ρ (f i)) x v
 | .any,_=>by simp only [AV.mv,Rp]
 | .und,_=>by simp only [AV.mv,Rp]
 | .int _ _,_=>by simp only [AV.mv,Rp]
 | .bool _,_=>by simp only [AV.mv,Rp]
 | .str _,_=>by simp only [AV.mv,Rp]
 | .nils,_=>by simp only [AV.mv,Rp]
 | .sl _,_=>by simp only [AV.mv,Rp]
 | .ia _ _,_=>by simp only [AV.mv,Rp]
 | .sref _ _ _,_=>by simp only [AV.mv,Rp]
 | .ptr _ _ _,_=>by simp only [AV.mv,Rp]
 | .nilp,_=>by simp only [AV.mv,Rp]
 | .agg cs,_=>by simp only [AV.mv,Rp];exact exists_congr fun vs=>and_congr Iff.rfl (Rps.mv f cs vs)
 | .tup cs,_=>by simp only [AV.mv,Rp];exact exists_congr fun vs=>and_congr Iff.rfl (Rps.mv f cs vs)
 | .fn g fs cs,_=>by simp only [AV.mv,Rp];exact exists_congr fun us=>exists_congr fun vs=>and_congr Iff.rfl (and_congr (Rps.mv f fs us) (Rps.mv f cs vs))
 | .nilfn,_=>by simp only [AV.mv,Rp]
 | .ifc _ x,_=>by simp only [AV.mv,Rp];exact exists_congr fun y=>and_congr Iff.rfl (Rp.mv f x y)
 | .nilif,_=>by simp only [AV.mv,Rp]
 | .gl _,_=>by simp only [AV.mv,Rp]
 | .mp _,_=>by simp only [AV.mv,Rp]
 | .nilmp,_=>by simp only [AV.mv,Rp]
 | .it _,_=>by simp only [AV.mv,Rp]
 | .md _ _ _,_=>by simp only [AV.mv,Rp]
theorem Rps.mv {w:World} {A:Nat→Prop} {ρ:Pl} (f:Nat→Nat):∀ (l:List AV) (vs:List Value),Rps w A ρ (AV.mvs f l) vs↔Rps w A (fun i=>ρ (f i)) l vs
 | [],_=>by simp only [AV.mvs,Rps]
 | x::xs,vs=>by simp only [AV.mvs,Rps];exact exists_congr fun v=>exists_congr fun us=>and_congr Iff.rfl (and_congr (Rp.mv f x v) (Rps.mv f xs us))
end
theorem RpR.mv {w:World} {A:Nat→Prop} {ρ:Pl} (f:Nat→Nat):∀ (l:List (List AV)) (vs:List (List Value)),RpR w A ρ (l.map (AV.mvs f)) vs↔RpR w A (fun i=>ρ (f i)) l vs
 | [],_=>by simp only [List.map_nil,RpR]
 | x::xs,vs=>by simp only [List.map_cons,RpR];exact exists_congr fun v=>exists_congr fun us=>and_congr Iff.rfl (and_congr (Rps.mv f x v) (RpR.mv f xs us))
theorem HRo.mv {w:World} {A:Nat→Prop} {ρ:Pl} (f:Nat→Nat) (o:Ob) (p:Option Place):HRo w A ρ (o.mv f) p↔HRo w A (fun i=>ρ (f i)) o p:=by
 cases o with
 | dead=>exact Iff.rfl
 | map clock births rows=>cases p with
  | none=>exact Iff.rfl
  | some q=>cases q <;> exact Iff.rfl
 | iter m since seen stepped=>cases p with
  | none=>exact Iff.rfl
  | some q=>cases q with
   | mapb r=>exact exists_congr fun x=>and_congr Iff.rfl (Rp.mv f m _)
   | nil=>exact Iff.rfl
   | blk _ _ _ _=>exact Iff.rfl
 | arr T k pf rows=>cases p with
  | none=>exact Iff.rfl
  | some q=>cases q with
   | mapb r=>exact Iff.rfl
   | nil =>
    cases pf with
    | true=>exact Iff.rfl
    | false=>simp only [Ob.mv,HRo,Bool.false_eq_true,if_false,List.map_eq_nil_iff]
   | blk b s cap len =>
    cases pf with
    | true=>exact Iff.rfl
    | false =>
     simp only [Ob.mv,HRo,Bool.false_eq_true,if_false,List.length_map,Holds,Pf]
     refine and_congr Iff.rfl (and_congr Iff.rfl (exists_congr fun vss=>exists_congr fun rest=>and_congr Iff.rfl (and_congr (RpR.mv f rows vss) (and_congr ?_ Iff.rfl))))
     unfold AllLen
     constructor
     ·intro h r hr
      have:=h _ (List.mem_map.2 ⟨r,hr,rfl⟩)
      rwa [mvs_length] at this
     ·intro h r hr
      obtain ⟨q,hq,rfl⟩:=List.mem_map.1 hr
      rw [mvs_length]
      exact h q hq
def killsL (U:List Nat) (l:List AV):List AV:=U.foldr (fun i l=>AV.kills i l) l
def killO (U:List Nat) (o:Ob):Ob:=U.foldr (fun i o=>Ob.kill i o) o
theorem Rps.killL {w:World} {A:Nat→Prop} {ρ:Pl} {l:List AV} {vs:List Value} (h:Rps w A ρ l vs):∀ (U:List Nat) {ρ':Pl},(∀ j p,j∉U→ρ j=some p→ρ' j=some p)→Rps w A ρ' (killsL U l) vs
 | [],ρ',hp=>h.later _ ⟨Nat.le_refl _,fun _ _ h=>h,fun _ _ _=>rfl,fun j p hj=>hp j p (by simp) hj⟩
 | i::U,ρ',hp=>by
  have h1:=Rps.killL h U (ρ':=fun j=>if j=i then ρ i else ρ' j) fun j p hj hρ=>by
   by_cases hji:j=i
   ·rw [if_pos hji,← hji];exact hρ
   ·rw [if_neg hji];exact hp j p (by simp [hji,hj]) hρ
  exact Rps.kill (i:=i) ⟨Nat.le_refl _,fun _ _ h=>h,fun _ _ _=>rfl,fun j p hj hρ=>by rw [if_neg hj] at hρ;exact hρ⟩ _ h1
theorem HRo.kill1 {w:World} {A:Nat→Prop} {ρ ρ':Pl} {i:Nat} (hlat:LaterBut i w A ρ w A ρ') {o:Ob} {p:Option Place} (hj':HRo w A ρ o p):HRo w A ρ' (o.kill i) p:=by
 cases o with
 | dead=>exact hj'
 | map clock births rs=>exact HRo.restM hlat hj' (fun _ _ _ _=>rfl)
 | iter m since seen stepped=>exact HRo.restI (fun v hv=>Rp.kill hlat m hv) hj' (fun _ _ _ _=>rfl)
 | arr T' k' pf' rs =>
  match p,hj' with
  | some .nil,hj'=>simp only [HRo] at hj';subst hj';cases pf' <;> rfl
  | some (.blk b k cap len),hj' =>
   obtain ⟨hk0,h0,vss',rest',h1,h2,h3,h4,h5,h6⟩:=hj'
   refine ⟨hk0,by cases pf' <;> simpa using h0,vss',rest',h1,hlat.pf h2,?_,h4,by cases pf' <;> simpa using h5,h6⟩
   cases pf' with
   | true=>exact h3
   | false =>
    intro r hr
    obtain ⟨r',hr',rfl⟩:=List.mem_map.1 hr
    rw [kills_length]
    exact h3 r' hr'
  | some (.mapb b),hj'=>cases hj'
  | none,hj'=>cases hj'
theorem HRo.killL {w:World} {A:Nat→Prop} {ρ:Pl} {o:Ob} {p:Option Place} (h:HRo w A ρ o p):∀ (U:List Nat) {ρ':Pl},(∀ j p,j∉U→ρ j=some p→ρ' j=some p)→HRo w A ρ' (killO U o) p
 | [],ρ',hp=>h.later ⟨Nat.le_refl _,fun _ _ h=>h,fun _ _ _=>rfl,fun j p hj=>hp j p (by simp) hj⟩ (fun _ _ _ _=>rfl)
 | i::U,ρ',hp=>by
  have h1:=HRo.killL h U (ρ':=fun j=>if j=i then ρ i else ρ' j) fun j p hj hρ=>by
   by_cases hji:j=i
   ·rw [if_pos hji,← hji];exact hρ
   ·rw [if_neg hji];exact hp j p (by simp [hji,hj]) hρ
  exact HRo.kill1 (i:=i) ⟨Nat.le_refl _,fun _ _ h=>h,fun _ _ _=>rfl,fun j p hj hρ=>by rw [if_neg hj] at hρ;exact hρ⟩ h1
theorem killO_dead:∀ U:List Nat,killO U .dead = .dead
 | []=>rfl
 | i::U=>by unfold killO at *;rw [List.foldr_cons];rw [show List.foldr (fun i o=>Ob.kill i o) Ob.dead U = .dead from killO_dead U];rfl
def backN (nt m:Nat) (es:List Nat) (N k:Nat):Nat:=if k<m then nt+k else es.getD (k-m) N
def lendQ (P:Program) (rs:List ResultVar) (nt m E:Nat) (R:AV→List Ob→Prop):Exit→St→Prop
 | .normal,s=>resW P s rs fun xs=>∃ (r:AV) (os':List Ob) (es:List Nat),os'.length=m+E∧es.length=E∧es.Nodup∧(∀ e∈es,e<nt)∧asOne xs=r.mv (backN nt m es s.hp.length)∧(∀ k,k<m+E→s.hp.getD (backN nt m es s.hp.length k) .dead=(os'.getD k .dead).mv (backN nt m es s.hp.length))∧R r os'
 | .ret,s=>resW P s rs fun xs=>∃ (r:AV) (os':List Ob) (es:List Nat),os'.length=m+E∧es.length=E∧es.Nodup∧(∀ e∈es,e<nt)∧asOne xs=r.mv (backN nt m es s.hp.length)∧(∀ k,k<m+E→s.hp.getD (backN nt m es s.hp.length k) .dead=(os'.getD k .dead).mv (backN nt m es s.hp.length))∧R r os'
 | _,_=>False
def Lend (P:Program) (g:FuncId) (args:List AV) (os:List Ob) (pn:List Nat) (E:Nat) (R:AV→List Ob→Prop):Prop :=
 ∃ fn c,P.funcs[g]?=some fn∧fn.body=some c∧args.length≤fn.ntmps ∧
  W P (pn.map (fn.ntmps+·)) c (lendQ P fn.results.toList fn.ntmps os.length E R) ⟨AV.mvs (fn.ntmps+·) args++List.replicate (fn.ntmps-args.length) .und,List.replicate fn.ntmps .dead++os.map (Ob.mv (fn.ntmps+·))⟩
theorem lend_of_W {P:Program} {g:FuncId} {fn:Func} {c:Code} {args:List AV} {os:List Ob} {pn:List Nat} {E:Nat} {R:AV→List Ob→Prop} (hf:P.funcs[g]?=some fn) (hb:fn.body=some c) {rs:List ResultVar} (hrs:fn.results.toList=rs) {nt:Nat} (hn:fn.ntmps=nt) (hl:args.length≤nt)
  (h:W P (pn.map (nt+·)) c (lendQ P rs nt os.length E R) ⟨AV.mvs (nt+·) args++List.replicate (nt-args.length) .und,List.replicate nt .dead++os.map (Ob.mv (nt+·))⟩):Lend P g args os pn E R:=by
 subst hrs;subst hn
 exact ⟨fn,c,hf,hb,hl,h⟩
def putL:List Nat→List Ob→List Ob→List Ob
 | j::L,o::os,hp=>putL L os (hp.set j o)
 | _,_,hp=>hp
theorem putL_getD:∀ (L:List Nat) (os hp:List Ob),L.Nodup→L.length=os.length→(∀ j∈L,j<hp.length)→∀ i,(putL L os hp).getD i .dead=if i∈L then os.getD (L.idxOf i) .dead else hp.getD i .dead
 | [],[],hp,_,_,_,i=>by simp [putL]
 | [],o::os,hp,_,h,_,i=>by simp at h
 | j::L,[],hp,_,h,_,i=>by simp at h
 | j::L,o::os,hp,hn,hl,hj,i=>by
  rw [List.nodup_cons] at hn
  rw [putL,putL_getD L os (hp.set j o) hn.2 (by simpa using hl) (fun k hk=>by rw [List.length_set];exact hj k (List.mem_cons_of_mem _ hk))]
  by_cases hij:i=j
  ·subst hij
   rw [if_neg hn.1,if_pos List.mem_cons_self,List.idxOf_cons_self]
   have:=hj i List.mem_cons_self
   simp [List.getD_eq_getElem?_getD,this]
  ·by_cases hiL:i∈L
   ·rw [if_pos hiL,if_pos (List.mem_cons_of_mem _ hiL),show List.idxOf i (j::L)=L.idxOf i+1 by rw [List.idxOf_cons,show (j == i)=false from beq_eq_false_iff_ne.2 (Ne.symm hij)];rfl]
    rfl
   ·rw [if_neg hiL,if_neg (by simp [hij,hiL])]
    simp only [List.getD_eq_getElem?_getD,List.getElem?_set_ne (Ne.symm hij)]
theorem idxOf_getD {L:List Nat} (hn:L.Nodup) {k:Nat} (hk:k<L.length) (d:Nat):L.idxOf (L.getD k d)=k:=by
 have:L.getD k d=L[k]:=by simp [List.getD_eq_getElem?_getD,hk]
 rw [this,List.Nodup.idxOf_getElem hn]
theorem getD_idxOf {L:List Nat} {i:Nat} (h:i∈L) (d:Nat):L.getD (L.idxOf i) d=i∧L.idxOf i<L.length:=by
 have h1:L.idxOf i<L.length:=List.idxOf_lt_length_of_mem h
 exact ⟨by simp [List.getD_eq_getElem?_getD,h1],h1⟩
theorem getD_memN {L:List Nat} {k:Nat} (h:k<L.length) (d:Nat):L.getD k d∈L:=by simp [List.getD_eq_getElem?_getD,h]
theorem Rep.none_of_dead {fr:Fr} {ρ:Pl} {s:St} {a:Act} {w:World} (h:Rep fr ρ s a w) {i:Nat} (hd:s.hp.getD i .dead = .dead):ρ i=none:=by
 have:=h.heap i
 rw [hd] at this
 exact this
theorem HRo.some_of {w:World} {A:Nat→Prop} {ρ:Pl} {o:Ob} {p:Option Place} (h:HRo w A ρ o p) (ho:o ≠ .dead):p≠none:=by
 rintro rfl
 cases o with
 | dead=>exact ho rfl
 | _=>exact h.elim
theorem mv_dead {f:Nat→Nat} {o:Ob} (h:o.mv f = .dead):o = .dead:=by cases o <;> simp_all [Ob.mv]
set_option maxHeartbeats 1000000 in
theorem call_lend {P:Program} {pins:List Nat} {g:FuncId} {avs:List AV} {s:St} {K:AV→St→Prop} {args:List AV} {os:List Ob} {pn:List Nat} {E:Nat} {R:AV→List Ob→Prop} (h:Lend P g args os pn E R)
  (js ds U:List Nat) (hjl:js.length=os.length) (hdl:ds.length=E) (hnd:(js++ds).Nodup) (hjlt:∀ j∈js,j<s.hp.length) (hdd:∀ d∈ds,s.hp[d]?=some .dead)
  (ha:avs=AV.mvs (fun k=>js.getD k s.hp.length) args) (ho:∀ k,k<os.length→s.hp.getD (js.getD k s.hp.length) .dead=(os.getD k .dead).mv (fun k=>js.getD k s.hp.length)∧os.getD k .dead ≠ .dead)
  (hpn:∀ k,k∈pn→k<os.length) (hpin:∀ k,k<os.length→js.getD k s.hp.length∈pins→k∈pn) (hU:∀ k,k<os.length→k∉pn→js.getD k s.hp.length∈U)
  (hk:∀ r os',R r os'→os'.length=os.length+E→K (r.mv (fun k=>(js++ds).getD k s.hp.length)) ⟨killsL U s.env,putL (js++ds) (os'.map (Ob.mv fun k=>(js++ds).getD k s.hp.length)) (s.hp.map (killO U))⟩):CallOk P pins g avs s K:=by
 obtain ⟨fn,c,hf,hb,hal,hW⟩:=h
 intro fr ρ a w vals hp hr hv
 subst ha
 subst hdl
 let nt:=fn.ntmps
 let m:=os.length
 let N:=s.hp.length
 let σ:Nat→Nat:=fun k=>js.getD k N
 have hjs:js.Nodup:=(List.nodup_append.1 hnd).1
 have hds:ds.Nodup:=(List.nodup_append.1 hnd).2.1
 have hjd:∀ x∈js,x∉ds:=fun x hx hx'=>(List.nodup_append.1 hnd).2.2 x hx x hx' rfl
 have hN:ρ N=none:=hr.none_of_dead (by simp [List.getD_eq_getElem?_getD,N])
 have hσ:∀ k,m≤k→σ k=N:=fun k hk=>by simp only [σ];rw [List.getD_eq_getElem?_getD,List.getElem?_eq_none (by omega)];rfl
 have hσm:∀ k,k<m→σ k∈js:=fun k hk=>getD_memN (by omega) _
 have hσi:∀ k l,k<m→l<m→σ k=σ l→k=l:=fun k l hk hl he=>by
  have h1:=idxOf_getD hjs (k:=k) (by omega) N
  have h2:=idxOf_getD hjs (k:=l) (by omega) N
  simp only [σ] at he
  rw [← h1,← h2,he]
 let M:Nat→Prop:=fun b=>∃ k p,k<m∧ρ (σ k)=some p∧p.block=some b
 let ρ0:Pl:=fun i=>if nt≤i then ρ (σ (i-nt)) else none
 let fr':Fr:=⟨w.heap.size,w,fun b=>Av fr.F ρ b∧¬ M b,M,pn.map (nt+·),ρ0,fun _ h=>h.2⟩
 have hρ0:∀ k,ρ0 (nt+k)=ρ (σ k):=fun k=>by simp only [ρ0];rw [if_pos (Nat.le_add_right _ _),Nat.add_sub_cancel_left]
 have hMA:∀ b,M b→Av fr.F ρ b:=fun b ⟨k,p,_,h1,h2⟩ => .inr ⟨σ k,p,h1,h2⟩
 have hav:∀ b,Av fr'.F ρ0 b↔Av fr.F ρ b:=by
  intro b
  constructor
  ·rintro (h1 | ⟨i,p,h1,h2⟩)
   ·exact h1.1
   ·simp only [ρ0] at h1
    split at h1
    ·exact .inr ⟨_,p,h1,h2⟩
    ·cases h1
  ·intro h1
   by_cases hM:M b
   ·obtain ⟨k,p,hk,h2,h3⟩:=hM
    exact .inr ⟨nt+k,p,by rw [hρ0];exact h2,h3⟩
   ·exact .inl ⟨h1,hM⟩
 have hMlt:∀ b,M b→b<w.heap.size:=fun b ⟨k,p,_,h1,h2⟩=>hr.lt h1 h2
 have hvl:vals.length=args.length:=by have:=hv.length;rw [mvs_length] at this;omega
 have hlatF:Later w (Av fr.F ρ) (fun i=>ρ (σ i)) w (Av fr'.F ρ0) (fun i=>ρ0 (nt+i)):=⟨Nat.le_refl _,fun b _ hb=>(hav b).1 hb,fun _ _ _=>rfl,fun i p hi=>by rw [hρ0];exact hi⟩
 have hoRep:∀ k,k<m→HRo w (Av fr'.F ρ0) ρ0 ((os.getD k .dead).mv (nt+·)) (ρ0 (nt+k)):=fun k hk=>by
  have h1:=hr.heap (σ k)
  rw [(ho k hk).1] at h1
  rw [HRo.mv] at h1
  rw [HRo.mv,hρ0]
  exact h1.later hlatF fun _ _ _ _=>rfl
 refine calls_of_wp hf hb ?_
 have hrep:Rep fr' ρ0 ⟨AV.mvs (nt+·) args++List.replicate (nt-args.length) .und,List.replicate nt .dead++os.map (Ob.mv (nt+·))⟩ { tmps:=vals.toArray++Array.replicate (fn.ntmps-vals.toArray.size) undef,defers:=[] } w:=by
  refine { keep:=⟨rfl,rfl,rfl,Nat.le_refl _,fun _ _ _=>rfl⟩,base:=Nat.le_refl _,defers:=rfl,heap:=fun i=>?_,inj:=?_,mine:=?_,fF:=?_,pin:=?_,env:=?_ }
  ·by_cases hi:nt≤i
   ·obtain ⟨k,rfl⟩:∃ k,i=nt+k:=⟨i-nt,by omega⟩
    by_cases hk:k<m
    ·rw [show ((List.replicate nt Ob.dead++os.map (Ob.mv (nt+·))).getD (nt+k) .dead)=(os.getD k .dead).mv (nt+·) by
      rw [List.getD_eq_getElem?_getD,List.getElem?_append_right (by simp),List.length_replicate,Nat.add_sub_cancel_left]
      simp [List.getD_eq_getElem?_getD,hk,m] at hk ⊢]
     exact hoRep k hk
    ·rw [show ((List.replicate nt Ob.dead++os.map (Ob.mv (nt+·))).getD (nt+k) .dead) = .dead by
      rw [List.getD_eq_getElem?_getD,List.getElem?_eq_none (by simp;omega)];rfl]
     show ρ0 (nt+k)=none
     rw [hρ0,hσ k (by omega),hN]
   ·rw [show ((List.replicate nt Ob.dead++os.map (Ob.mv (nt+·))).getD i .dead) = .dead by
     rw [List.getD_eq_getElem?_getD,List.getElem?_append_left (by simp;omega),List.getElem?_replicate];split <;> rfl]
    show ρ0 i=none
    simp only [ρ0]
    rw [if_neg hi]
  ·intro i j p q b h1 h2 h3 h4
   simp only [ρ0] at h1 h2
   split at h1
   ·split at h2
    ·rename_i e1 e2
     have:=hr.inj _ _ p q b h1 h2 h3 h4
     by_cases hi:i-nt<m
     ·by_cases hj:j-nt<m
      ·have:=hσi _ _ hi hj this
       omega
      ·rw [hσ (j-nt) (by omega),hN] at h2;cases h2
     ·rw [hσ (i-nt) (by omega),hN] at h1;cases h1
    ·cases h2
   ·cases h1
  ·intro i p b h1 h2
   simp only [ρ0] at h1
   split at h1
   ·by_cases hi:i-nt<m
    ·exact .inr ⟨i-nt,p,hi,h1,h2⟩
    ·rw [hσ (i-nt) (by omega),hN] at h1;cases h1
   ·cases h1
  ·intro b hb
   rcases hb.1 with h1 | ⟨j,q,h1,h2⟩
   ·exact Nat.lt_of_lt_of_le (hr.fF b h1) hr.base
   ·exact hr.lt h1 h2
  ·intro i hi
   obtain ⟨k,hk,rfl⟩:=List.mem_map.1 hi
   refine ⟨rfl,?_⟩
   have hkm:=hpn k hk
   have h1:=hoRep k hkm
   exact h1.some_of fun h2=>(ho k hkm).2 (mv_dead h2)
  ·show Rps w (Av fr'.F ρ0) ρ0 _ _
   have h1:(vals.toArray++Array.replicate (fn.ntmps-vals.toArray.size) undef).toList=vals++List.replicate (nt-args.length) undef:=by
    simp [hvl,nt]
   rw [h1]
   have h2:Rps w (Av fr'.F ρ0) ρ0 (AV.mvs (nt+·) args) vals:=by
    rw [Rps.mv] at hv ⊢
    exact hv.later _ hlatF
   refine h2.append (Rps.mk (by simp) fun j x v hx hv=>?_)
   rw [List.getElem?_replicate] at hx hv
   split at hx
   ·rename_i hi;rw [if_pos hi] at hv;cases hx;cases hv;simp only [Rp]
   ·cases hx
 refine Code.wp_mono (fun e a' w' he=>?_) (hW fr' ρ0 _ w rfl hrep)
 obtain ⟨s',ρ',hq,hr'⟩:=he
 have fin:(resW P s' fn.results.toList fun xs=>∃ (r:AV) (os':List Ob) (es:List Nat),os'.length=os.length+ds.length∧es.length=ds.length∧es.Nodup∧(∀ e∈es,e<fn.ntmps)∧asOne xs=r.mv (backN fn.ntmps os.length es s'.hp.length)∧(∀ k,k<os.length+ds.length→s'.hp.getD (backN fn.ntmps os.length es s'.hp.length k) .dead=(os'.getD k .dead).mv (backN fn.ntmps os.length es s'.hp.length))∧R r os') →
   a'.defers=[]∧∃ v,(results fn a'.tmps).run P w' = .ok v w'∧∃ v2 x s2 ρ2,Ending.returned v = .returned v2∧K x s2∧Rep fr ρ2 s2 a w'∧Rp w' (Av fr.F ρ2) ρ2 x v2:=by
  intro hq
  obtain ⟨xs,v,⟨r,os',es,l1,l2,l3,l4,hx,hos,hR⟩,h4,h5⟩:=results_sound hr' fn hq
  have hN':ρ' s'.hp.length=none:=hr'.none_of_dead (by simp [List.getD_eq_getElem?_getD])
  let G:Nat→Nat:=backN nt m es s'.hp.length
  have hG1:∀ k,k<m→G k=nt+k:=fun k hk=>if_pos hk
  have hG2:∀ k,m≤k→G k=es.getD (k-m) s'.hp.length:=fun k hk=>if_neg (by omega)
  have hGi:∀ k l,k<m+ds.length→l<m+ds.length→G k=G l→k=l:=fun k l hk hl he=>by
   by_cases k1:k<m
   ·by_cases k2:l<m
    ·rw [hG1 k k1,hG1 l k2] at he;omega
    ·rw [hG1 k k1,hG2 l (by omega)] at he
     have:=l4 _ (getD_memN (L:=es) (k:=l-m) (by omega) s'.hp.length)
     omega
   ·by_cases k2:l<m
    ·rw [hG2 k (by omega),hG1 l k2] at he
     have:=l4 _ (getD_memN (L:=es) (k:=k-m) (by omega) s'.hp.length)
     omega
    ·rw [hG2 k (by omega),hG2 l (by omega)] at he
     have e1:=idxOf_getD l3 (k:=k-m) (by omega) s'.hp.length
     have e2:=idxOf_getD l3 (k:=l-m) (by omega) s'.hp.length
     rw [he,e2] at e1
     omega
  let L:List Nat:=js++ds
  have hLl:L.length=m+ds.length:=by simp [L,m,hjl]
  have hml:js.length=m:=hjl
  let σ2:Nat→Nat:=fun k=>L.getD k N
  let ρ2:Pl:=fun i=>if i∈L then ρ' (G (L.idxOf i)) else ρ i
  have hLlt:∀ j∈L,j<N:=fun j hj=>by
   rcases List.mem_append.1 hj with hj | hj
   ·exact hjlt j hj
   ·exact (List.getElem?_eq_some_iff.1 (hdd j hj)).1
  have hNL:N∉L:=fun h=>by have:=hLlt N h;omega
  have hσ2:∀ k,ρ2 (σ2 k)=ρ' (G k):=fun k=>by
   by_cases hk:k<L.length
   ·simp only [ρ2,σ2]
    rw [if_pos (getD_memN hk _),idxOf_getD hnd hk]
   ·have e1:σ2 k=N:=by simp only [σ2];rw [List.getD_eq_getElem?_getD,List.getElem?_eq_none (by omega)];rfl
    have e2:G k=s'.hp.length:=by rw [hG2 k (by omega),List.getD_eq_getElem?_getD,List.getElem?_eq_none (by omega)];rfl
    rw [e1,e2,hN']
    simp only [ρ2]
    rw [if_neg hNL,hN]
  have hLj:∀ k,k<m→σ k∈L∧L.idxOf (σ k)=k:=fun k hk=>by
   have e1:σ k=L.getD k N:=by
    simp only [σ,L]
    rw [List.getD_eq_getElem?_getD,List.getD_eq_getElem?_getD,List.getElem?_append_left (by omega)]
   exact ⟨by rw [e1];exact getD_memN (by omega) _,by rw [e1];exact idxOf_getD (L:=L) hnd (by omega) N⟩
  have hsz:w.heap.size≤w'.heap.size:=hr'.keep.size
  have hblk:∀ b,b<w.heap.size→¬ M b→w'.heap[b]?=w.heap[b]?:=fun b h1 h2=>hr'.keep.block b h1 h2
  have hmine':∀ i p b,ρ' i=some p→p.block=some b→w.heap.size≤b∨M b:=hr'.mine
  have hrest:∀ i p b,i∉L→ρ i=some p→p.block=some b→¬ M b:=fun i p b hi h1 h2 ⟨k,q,hk,h3,h4⟩=>by
   have:=hr.inj i (σ k) p q b h1 h3 h2 h4
   exact hi (this ▸ (hLj k hk).1)
  have hA2:∀ b,b<w.heap.size→Av fr.F ρ2 b→Av fr.F ρ b:=by
   rintro b hb (h1 | ⟨i,p,h1,h2⟩)
   ·exact .inl h1
   ·simp only [ρ2] at h1
    split at h1
    ·rcases hmine' _ p b h1 h2 with h3 | h3
     ·omega
     ·exact hMA b h3
    ·exact .inr ⟨i,p,h1,h2⟩
  have hAc:∀ b,Av fr.F ρ2 b→Av fr'.F ρ' b:=by
   rintro b (h1 | ⟨i,p,h1,h2⟩)
   ·by_cases hM:M b
    ·
     obtain ⟨k,q,hk,h3,h4⟩:=hM
     rcases hr.mine _ q b h3 h4 with h5 | h5
     ·have:=hr.fF b h1;omega
     ·exact (fr.dis b h1 h5).elim
    ·exact .inl ⟨.inl h1,hM⟩
   ·simp only [ρ2] at h1
    split at h1
    ·exact .inr ⟨_,p,h1,h2⟩
    ·rename_i hi
     exact .inl ⟨.inr ⟨i,p,h1,h2⟩,hrest i p b hi h1 h2⟩
  have hlat2:Later w (Av fr.F ρ) ρ2 w' (Av fr.F ρ2) ρ2:=⟨hsz,hA2,fun b h1 h2=>hblk b h1 fun hM=>h2 (hMA b hM),fun _ _ h=>h⟩
  have hUρ:∀ j p,j∉U→ρ j=some p→ρ2 j=some p:=fun j p hj h1=>by
   simp only [ρ2]
   by_cases hjL:j∈L
   ·rw [if_pos hjL]
    rcases List.mem_append.1 hjL with hjj | hjj
    ·have hidx:=getD_idxOf hjj N
     have hkm:js.idxOf j<m:=by have:=hidx.2;omega
     have e1:σ (js.idxOf j)=j:=hidx.1
     have e2:=(hLj _ hkm).2
     rw [e1] at e2
     rw [e2,hG1 _ hkm]
     by_cases hkp:js.idxOf j∈pn
     ·have:=(hr'.pin (nt+js.idxOf j) (List.mem_map.2 ⟨_,hkp,rfl⟩)).1
      rw [this]
      show ρ0 (nt+js.idxOf j)=some p
      rw [hρ0,e1,h1]
     ·exact absurd (hU _ hkm hkp) (by have e3:js.getD (js.idxOf j) s.hp.length=j:=e1;rw [e3];exact hj)
    ·have:=hr.none_of_dead (i:=j) (by simp [List.getD_eq_getElem?_getD,hdd j hjj])
     rw [this] at h1;cases h1
   ·rw [if_neg hjL];exact h1
  have hlatC:Later w' (Av fr'.F ρ') (fun i=>ρ' (G i)) w' (Av fr.F ρ2) (fun i=>ρ2 (σ2 i)):=⟨Nat.le_refl _,fun b _ hb=>hAc b hb,fun _ _ _=>rfl,fun i p hi=>by rw [hσ2];exact hi⟩
  refine ⟨hr'.defers,v,h4,v,r.mv σ2,⟨killsL U s.env,putL L (os'.map (Ob.mv σ2)) (s.hp.map (killO U))⟩,ρ2,rfl,hk r os' hR l1,?_,?_⟩
  rotate_left
  ·rw [hx] at h5
   have h6:=(Rp.mv G r v).1 h5
   exact (Rp.mv σ2 r v).2 (h6.later _ hlatC)
  refine { keep:=⟨hr'.keep.os.trans hr.keep.os,hr'.keep.tape.trans hr.keep.tape,hr'.keep.output.trans hr.keep.output,Nat.le_trans hr.keep.size hsz,fun b hb hm=>?_⟩,base:=Nat.le_trans hr.base hsz,defers:=hr.defers,heap:=fun i=>?_,inj:=?_,mine:=?_,fF:=hr.fF,pin:=?_,env:=(Rps.killL hr.env U hUρ).later _ hlat2 }
  ·rw [hblk b (Nat.lt_of_lt_of_le hb hr.base)]
   ·exact hr.keep.block b hb hm
   ·rintro ⟨k,q,hk,h6,h7⟩
    rcases hr.mine _ q b h6 h7 with h8 | h8
    ·omega
    ·exact hm h8
  ·have hg:=putL_getD L (os'.map (Ob.mv σ2)) (s.hp.map (killO U)) hnd (by rw [List.length_map,l1,hLl]) (fun j hj=>by rw [List.length_map];exact hLlt j hj) i
   show HRo w' (Av fr.F ρ2) ρ2 ((putL L (os'.map (Ob.mv σ2)) (s.hp.map (killO U))).getD i .dead) (ρ2 i)
   rw [hg]
   by_cases hi:i∈L
   ·rw [if_pos hi]
    have hidx:=getD_idxOf hi N
    have hkl:L.idxOf i<m+ds.length:=by rw [← hLl];exact hidx.2
    have e1:(os'.map (Ob.mv σ2)).getD (L.idxOf i) .dead=(os'.getD (L.idxOf i) .dead).mv σ2:=by
     simp [List.getD_eq_getElem?_getD,show L.idxOf i<os'.length by omega]
    rw [e1]
    have e2:ρ2 i=ρ' (G (L.idxOf i)):=by simp only [ρ2];rw [if_pos hi]
    rw [e2,HRo.mv]
    have h6:=hr'.heap (G (L.idxOf i))
    rw [show s'.hp.getD (G (L.idxOf i)) .dead=(os'.getD (L.idxOf i) .dead).mv G from hos _ hkl,HRo.mv] at h6
    exact h6.later hlatC fun _ _ _ _=>rfl
   ·rw [if_neg hi]
    have e1:(s.hp.map (killO U)).getD i .dead=killO U (s.hp.getD i .dead):=by
     simp only [List.getD_eq_getElem?_getD,List.getElem?_map]
     cases s.hp[i]? with
     | none=>simp [killO_dead]
     | some o=>rfl
    have e2:ρ2 i=ρ i:=by simp only [ρ2];rw [if_neg hi]
    rw [e1,e2]
    exact ((hr.heap i).killL U hUρ).later hlat2 fun q b hq hb=>hblk b (hr.lt hq hb) (hrest i q b hi hq hb)
  ·intro i j p q b h1 h2 h3 h4
   simp only [ρ2] at h1 h2
   by_cases hi:i∈L
   ·rw [if_pos hi] at h1
    by_cases hj:j∈L
    ·rw [if_pos hj] at h2
     have e:=hr'.inj _ _ p q b h1 h2 h3 h4
     have di:=getD_idxOf hi N
     have dj:=getD_idxOf hj N
     have:=hGi _ _ (by rw [← hLl];exact di.2) (by rw [← hLl];exact dj.2) e
     rw [← di.1,← dj.1,this]
    ·rw [if_neg hj] at h2
     rcases hmine' _ p b h1 h3 with h6 | h6
     ·have:=hr.lt h2 h4;omega
     ·exact absurd h6 (hrest j q b hj h2 h4)
   ·rw [if_neg hi] at h1
    by_cases hj:j∈L
    ·rw [if_pos hj] at h2
     rcases hmine' _ q b h2 h4 with h6 | h6
     ·have:=hr.lt h1 h3;omega
     ·exact absurd h6 (hrest i p b hi h1 h3)
    ·rw [if_neg hj] at h2
     exact hr.inj i j p q b h1 h2 h3 h4
  ·intro i p b h1 h2
   simp only [ρ2] at h1
   split at h1
   ·rcases hmine' _ p b h1 h2 with h3 | h3
    ·exact .inl (Nat.le_trans hr.base h3)
    ·obtain ⟨k,q,hk,h6,h7⟩:=h3
     exact hr.mine _ q b h6 h7
   ·exact hr.mine i p b h1 h2
  ·intro i hi
   have h1:=hr.pin i hi
   have hiU:ρ2 i=ρ i:=by
    simp only [ρ2]
    by_cases hiL:i∈L
    ·rw [if_pos hiL]
     rcases List.mem_append.1 hiL with hjj | hjj
     ·have hidx:=getD_idxOf hjj N
      have hkm:js.idxOf i<m:=by have:=hidx.2;omega
      have e1:σ (js.idxOf i)=i:=hidx.1
      have e2:=(hLj _ hkm).2
      rw [e1] at e2
      rw [e2,hG1 _ hkm]
      have hkp:js.idxOf i∈pn:=hpin _ hkm (by have e3:js.getD (js.idxOf i) s.hp.length=i:=e1;rw [e3,← hp];exact hi)
      have:=(hr'.pin (nt+js.idxOf i) (List.mem_map.2 ⟨_,hkp,rfl⟩)).1
      rw [this]
      show ρ0 (nt+js.idxOf i)=ρ i
      rw [hρ0,e1]
     ·have:=hr.none_of_dead (i:=i) (by simp [List.getD_eq_getElem?_getD,hdd i hjj])
      exact absurd this h1.2
    ·rw [if_neg hiL]
   rw [hiU]
   exact h1
 cases e with
 | normal=>exact fin hq
 | ret=>exact fin hq
 | _=>exact hq.elim
def Ob.live':Ob→Bool
 | .dead=>false
 | _=>true
theorem lend_end {nt m E:Nat} {R:AV→List Ob→Prop} {hp:List Ob} {x r:AV} {os':List Ob} (es ks:List Nat) (hks:List.range (m+E)=ks) (h2:es.length=E) (h3:es.Nodup) (h4:es.all (·<nt)=true) (hx:x=r.mv (backN nt m es hp.length))
  (ho:ks.map (fun k=>hp.getD (backN nt m es hp.length k) .dead)=os'.map (Ob.mv (backN nt m es hp.length))) (hR:R r os') :
  ∃ (r:AV) (os':List Ob) (es:List Nat),os'.length=m+E∧es.length=E∧es.Nodup∧(∀ e∈es,e<nt)∧x=r.mv (backN nt m es hp.length)∧(∀ k,k<m+E→hp.getD (backN nt m es hp.length k) .dead=(os'.getD k .dead).mv (backN nt m es hp.length))∧R r os':=by
 subst hks
 have hl:os'.length=m+E:=by have:=congrArg List.length ho;simpa using this.symm
 refine ⟨r,os',es,hl,h2,h3,fun e he=>by have:=List.all_eq_true.1 h4 e he;simpa using this,hx,fun k hk=>?_,hR⟩
 have:=congrArg (fun l:List Ob=>l[k]?) ho
 simp only [List.getElem?_map,List.getElem?_range hk,Option.map_some] at this
 rw [show os'[k]?=some (os'.getD k .dead) by simp [List.getD_eq_getElem?_getD,show k<os'.length by omega],Option.map_some,Option.some.injEq] at this
 exact this
theorem call_lendB {P:Program} {pins:List Nat} {g:FuncId} {avs:List AV} {s:St} {K:AV→St→Prop} {args:List AV} {os:List Ob} {pn:List Nat} {E:Nat} {R:AV→List Ob→Prop} (h:Lend P g args os pn E R)
  (js ds U:List Nat) (hdl:ds.length=E) (hnd:(js++ds).Nodup) (hjlt:js.all (·<s.hp.length)=true) (hdd:ds.map (fun d=>s.hp[d]?)=ds.map fun _=>some .dead)
  (ha:avs=AV.mvs (fun k=>js.getD k s.hp.length) args) (ho:js.map (fun j=>s.hp.getD j .dead)=os.map (Ob.mv fun k=>js.getD k s.hp.length)) (hov:os.all Ob.live'=true)
  (hpn:pn.all (·<os.length)=true) (hpin:((List.range os.length).all fun k=>!pins.contains (js.getD k s.hp.length) || pn.contains k)=true) (hU:((List.range os.length).all fun k=>pn.contains k || U.contains (js.getD k s.hp.length))=true)
  (hk:∀ r os',R r os'→os'.length=os.length+E→K (r.mv (fun k=>(js++ds).getD k s.hp.length)) ⟨killsL U s.env,putL (js++ds) (os'.map (Ob.mv fun k=>(js++ds).getD k s.hp.length)) (s.hp.map (killO U))⟩):CallOk P pins g avs s K:=by
 have hjl:js.length=os.length:=by have:=congrArg List.length ho;simpa using this
 refine call_lend h js ds U hjl hdl hnd (fun j hj=>by have:=List.all_eq_true.1 hjlt j hj;simpa using this) (fun d hd=>?_) ha (fun k hk=>⟨?_,?_⟩) (fun k hk=>by have:=List.all_eq_true.1 hpn k hk;simpa using this) (fun k hk hp=>?_) (fun k hk hp=>?_) hk
 ·have:=List.map_inj_left.1 hdd d hd
  exact this
 ·have:=congrArg (fun l:List Ob=>l[k]?) ho
  simp only [List.getElem?_map] at this
  have e1:js[k]?=some (js.getD k s.hp.length):=by simp [List.getD_eq_getElem?_getD,show k<js.length by omega]
  have e2:os[k]?=some (os.getD k .dead):=by simp [List.getD_eq_getElem?_getD,hk]
  rw [e1,e2,Option.map_some,Option.map_some,Option.some.injEq] at this
  exact this
 ·intro h0
  have h1:os.getD k .dead∈os:=by simp [List.getD_eq_getElem?_getD,hk]
  have:=List.all_eq_true.1 hov _ h1
  rw [h0] at this
  cases this
 ·have:=List.all_eq_true.1 hpin k (List.mem_range.2 hk)
  simp only [Bool.or_eq_true,Bool.not_eq_true',List.contains_iff_mem] at this
  rcases this with h1 | h1
  ·rw [← Bool.not_eq_true,List.contains_iff_mem] at h1
   exact absurd hp h1
  ·exact h1
 ·have:=List.all_eq_true.1 hU k (List.mem_range.2 hk)
  simp only [Bool.or_eq_true,List.contains_iff_mem] at this
  exact this.resolve_left hp
section
variable {f:Nat→Nat}
theorem mv_any:AV.mv f .any = .any:=by simp only [AV.mv]
theorem mv_und:AV.mv f .und = .und:=by simp only [AV.mv]
theorem mv_int {k:IntKind} {m:Int}:AV.mv f (.int k m) = .int k m:=by simp only [AV.mv]
theorem mv_bool {b:Bool}:AV.mv f (.bool b) = .bool b:=by simp only [AV.mv]
theorem mv_str {b:ByteArray}:AV.mv f (.str b) = .str b:=by simp only [AV.mv]
theorem mv_nils:AV.mv f .nils = .nils:=by simp only [AV.mv]
theorem mv_sl {l:List (List AV)}:AV.mv f (.sl l) = .sl l:=by simp only [AV.mv]
theorem mv_ia {l:List AV} {o:Nat}:AV.mv f (.ia l o) = .ia l o:=by simp only [AV.mv]
theorem mv_nilp:AV.mv f .nilp = .nilp:=by simp only [AV.mv]
theorem mv_nilif:AV.mv f .nilif = .nilif:=by simp only [AV.mv]
theorem mv_nilfn:AV.mv f .nilfn = .nilfn:=by simp only [AV.mv]
theorem mv_nilmp:AV.mv f .nilmp = .nilmp:=by simp only [AV.mv]
theorem mv_gl {g:Nat}:AV.mv f (.gl g) = .gl g:=by simp only [AV.mv]
theorem mv_sref {j off n:Nat}:AV.mv f (.sref j off n) = .sref (f j) off n:=by simp only [AV.mv]
theorem mv_ptr {j r off:Nat}:AV.mv f (.ptr j r off) = .ptr (f j) r off:=by simp only [AV.mv]
theorem mv_mp {j:Nat}:AV.mv f (.mp j) = .mp (f j):=by simp only [AV.mv]
theorem mv_agg {l:List AV}:AV.mv f (.agg l) = .agg (AV.mvs f l):=by simp only [AV.mv]
theorem mv_tup {l:List AV}:AV.mv f (.tup l) = .tup (AV.mvs f l):=by simp only [AV.mv]
theorem mv_fn {g:Fn} {l m:List AV}:AV.mv f (.fn g l m) = .fn g (AV.mvs f l) (AV.mvs f m):=by simp only [AV.mv]
theorem mv_md {c:Nat} {bs:List Nat} {rs:List (List AV)}:AV.mv f (.md c bs rs) = .md c bs rs:=by simp only [AV.mv]
theorem mvs_nil:AV.mvs f []=[]:=id rfl
theorem mvs_cons {x:AV} {l:List AV}:AV.mvs f (x::l)=AV.mv f x::AV.mvs f l:=by simp only [AV.mvs]
theorem omv_dead:Ob.mv f .dead = .dead:=id rfl
theorem omv_arr {rs:List (List AV)} {T:TypeId} {k:Nat}:Ob.mv f (.arr T k true rs) = .arr T k true rs:=id rfl
theorem omv_arrf {rs:List (List AV)} {T:TypeId} {k:Nat}:Ob.mv f (.arr T k false rs) = .arr T k false (rs.map (AV.mvs f)):=id rfl
theorem omv_map {c:Nat} {bs:List Nat} {rs:List (List AV)}:Ob.mv f (.map c bs rs) = .map c bs rs:=id rfl
theorem killsL_nil {l:List AV}:killsL [] l=l:=id rfl
theorem killsL_cons {i:Nat} {U:List Nat} {l:List AV}:killsL (i::U) l=AV.kills i (killsL U l):=id rfl
theorem killO_nil {o:Ob}:killO [] o=o:=id rfl
theorem killO_cons {i:Nat} {U:List Nat} {o:Ob}:killO (i::U) o=Ob.kill i (killO U o):=id rfl
theorem putL_nil {os hp:List Ob}:putL [] os hp=hp:=by cases os <;> rfl
theorem putL_cons {j:Nat} {L:List Nat} {o:Ob} {os hp:List Ob}:putL (j::L) (o::os) hp=putL L os (hp.set j o):=id rfl
end
def swN (i j k:Nat):Nat:=if k=i then j else if k=j then i else k
theorem swN_swN (i j k:Nat):swN i j (swN i j k)=k:=by
 unfold swN
 by_cases h1:k=i
 ·subst h1
  rw [if_pos rfl]
  by_cases h2:j=k
  ·rw [if_pos h2,h2]
  ·rw [if_neg h2,if_pos rfl]
 ·rw [if_neg h1]
  by_cases h2:k=j
  ·subst h2
   rw [if_pos rfl,if_pos rfl]
  ·rw [if_neg h2,if_neg h1,if_neg h2]
def swapO (i j:Nat) (hp:List Ob):List Ob:=((hp.set i (hp.getD j .dead)).set j (hp.getD i .dead)).map (Ob.mv (swN i j))
theorem swapO_getD {i j:Nat} {hp:List Ob} (hi:i<hp.length) (hj:j<hp.length) (k:Nat):(swapO i j hp).getD k .dead=(hp.getD (swN i j k) .dead).mv (swN i j):=by
 unfold swapO
 have hmap:∀ (l:List Ob),(l.map (Ob.mv (swN i j))).getD k .dead=(l.getD k .dead).mv (swN i j):=fun l=>by
  simp only [List.getD_eq_getElem?_getD,List.getElem?_map]
  cases l[k]? <;> rfl
 rw [hmap]
 congr 1
 unfold swN
 by_cases h2:k=j
 ·subst h2
  rw [List.getD_eq_getElem?_getD,List.getElem?_set_self (by rw [List.length_set];exact hj),Option.getD_some]
  by_cases h1:k=i
  ·rw [if_pos h1,h1]
  ·rw [if_neg h1,if_pos rfl]
 ·rw [List.getD_eq_getElem?_getD,List.getElem?_set_ne (Ne.symm h2)]
  by_cases h1:k=i
  ·subst h1
   rw [List.getElem?_set_self hi,Option.getD_some,if_pos rfl]
  ·rw [List.getElem?_set_ne (Ne.symm h1),if_neg h1,if_neg h2,List.getD_eq_getElem?_getD]
theorem Le_swap {pins:List Nat} {e:List AV} {hp:List Ob} (i j:Nat) (hi:i∉pins) (hj:j∉pins) (hil:i<hp.length) (hjl:j<hp.length):Le pins ⟨e,hp⟩ ⟨AV.mvs (swN i j) e,swapO i j hp⟩:=by
 intro fr ρ a w hpins hr
 let ρ':Pl:=fun k=>ρ (swN i j k)
 have hback:(fun k=>ρ' (swN i j k))=ρ:=funext fun k=>by show ρ (swN i j (swN i j k))=ρ k;rw [swN_swN]
 have hAv:Av fr.F ρ'=Av fr.F ρ:=by
  funext b
  refine propext ⟨?_,?_⟩
  ·rintro (h | ⟨k,p,h1,h2⟩)
   ·exact .inl h
   ·exact .inr ⟨swN i j k,p,h1,h2⟩
  ·rintro (h | ⟨k,p,h1,h2⟩)
   ·exact .inl h
   ·exact .inr ⟨swN i j k,p,by show ρ (swN i j (swN i j k))=_;rw [swN_swN];exact h1,h2⟩
 refine ⟨ρ',hr.keep,hr.base,hr.defers,fun k=>?_,fun k l p q b h1 h2 h3 h4=>?_,fun k p b h1 h2=>hr.mine _ p b h1 h2,hr.fF,fun k hk=>?_,?_⟩
 ·show HRo w (Av fr.F ρ') ρ' ((swapO i j hp).getD k .dead) (ρ (swN i j k))
  rw [swapO_getD hil hjl,HRo.mv,hAv,hback]
  exact hr.heap (swN i j k)
 ·have h5:=hr.inj _ _ p q b h1 h2 h3 h4
  rw [← swN_swN i j k,h5,swN_swN]
 ·have h1:swN i j k=k:=by
   subst hpins
   have h1:k≠i:=fun h=>hi (by rw [← h];exact hk)
   have h2:k≠j:=fun h=>hj (by rw [← h];exact hk)
   unfold swN
   rw [if_neg h1,if_neg h2]
  show ρ (swN i j k)=_∧ρ (swN i j k)≠none
  rw [h1]
  exact hr.pin k hk
 ·show Rps w (Av fr.F ρ') ρ' (AV.mvs (swN i j) e) _
  rw [Rps.mv,hAv,hback]
  exact hr.env
theorem lend_endC {nt m E M N:Nat} {R:AV→List Ob→Prop} {hp:List Ob} {x r:AV} {os':List Ob} (es ks:List Nat) (hks:List.range M=ks) (h2:es.length=E) (h3:es.Nodup) (h4:es.all (·<nt)=true) (hx:x=r.mv (backN nt m es N))
  (ho:ks.map (fun k=>hp.getD (backN nt m es N k) .dead)=os'.map (Ob.mv (backN nt m es N))) (hR:R r os') :
  ∃ (r:AV) (os':List Ob) (es:List Nat),os'.length=M∧es.length=E∧es.Nodup∧(∀ e,e∈es→e<nt)∧x=r.mv (backN nt m es N)∧(∀ k,k<M→hp.getD (backN nt m es N k) .dead=(os'.getD k .dead).mv (backN nt m es N))∧R r os':=by
 subst hks
 have hl:os'.length=M:=by have:=congrArg List.length ho;simpa using this.symm
 refine ⟨r,os',es,hl,h2,h3,fun e he=>by have:=List.all_eq_true.1 h4 e he;simpa using this,hx,fun k hk=>?_,hR⟩
 have:=congrArg (fun l:List Ob=>l[k]?) ho
 simp only [List.getElem?_map,List.getElem?_range hk,Option.map_some] at this
 rw [show os'[k]?=some (os'.getD k .dead) by simp [List.getD_eq_getElem?_getD,show k<os'.length by omega],Option.map_some,Option.some.injEq] at this
 exact this
theorem asOne_nil:asOne [] = .tup []:=rfl
def idxL:Nat→List Ob→List Nat
 | _,[]=>[]
 | k,_::os=>k::idxL (k+1) os
theorem idxL_nil {k:Nat}:idxL k []=[]:=rfl
theorem idxL_cons {k:Nat} {o:Ob} {os:List Ob}:idxL k (o::os)=k::idxL (k+1) os:=rfl
theorem mem_idxL:∀ (os:List Ob) (k j:Nat),j∈idxL k os↔k≤j∧j<k+os.length
 | [],k,j=>by simp [idxL]
 | o::os,k,j=>by rw [idxL,List.mem_cons,mem_idxL os (k+1) j,List.length_cons];omega
def Look (P:Program) (g:FuncId) (args:List AV) (os:List Ob) (r:AV):Prop:=Lend P g args os (idxL 0 os) 0 fun r' os'=>r'=r∧os'=os
theorem putL_self:∀ (L:List Nat) (os hp:List Ob),(∀ j∈L,j<hp.length)→L.map (fun j=>hp.getD j .dead)=os→putL L os hp=hp
 | [],os,hp,_,_=>by cases os <;> rfl
 | j::L,[],hp,_,h=>by cases h
 | j::L,o::os,hp,hj,h=>by
  rw [List.map_cons,List.cons.injEq] at h
  have hjl:=hj j List.mem_cons_self
  have h1:hp.set j o=hp:=by
   rw [← h.1]
   refine List.ext_getElem? fun i=>?_
   by_cases hi:j=i
   ·subst hi
    rw [List.getElem?_set_self hjl,List.getD_eq_getElem?_getD,List.getElem?_eq_getElem hjl,Option.getD_some]
   ·rw [List.getElem?_set_ne hi]
  rw [putL,h1]
  exact putL_self L os hp (fun i hi=>hj i (List.mem_cons_of_mem _ hi)) h.2
theorem CallFx.lookB {P:Program} {nw:Nat→Bool} {hp:List Ob} {g:FuncId} {avs:List AV} {r:AV} {args:List AV} {os:List Ob} (h:Look P g args os r) (js:List Nat) (hnw:js.all nw=true) (hnd:js.Nodup) (hjlt:js.all (·<hp.length)=true)
  (ha:∀ N,avs=AV.mvs (fun k=>js.getD k N) args) (ho:∀ N,js.map (fun j=>hp.getD j .dead)=os.map (Ob.mv fun k=>js.getD k N)) (hov:os.all Ob.live'=true) (hr:∀ f,r.mv f=r):CallFx P nw hp g avs r:=by
 refine .look js hnw fun s pins K hs hk=>?_
 have hjl:js.length=os.length:=by have:=congrArg List.length (ho 0);simpa using this
 have hlt:∀ j∈js,j<s.hp.length:=fun j hj=>by
  have h1:=List.all_eq_true.1 hjlt j hj
  have h2:j<hp.length:=by simpa using h1
  have h3:=hs j hj
  rw [List.getElem?_eq_getElem h2] at h3
  exact (List.getElem?_eq_some_iff.1 h3).1
 have hmap:js.map (fun j=>s.hp.getD j .dead)=js.map (fun j=>hp.getD j .dead):=List.map_congr_left fun j hj=>by
  simp only [List.getD_eq_getElem?_getD,hs j hj]
 have hoS:js.map (fun j=>s.hp.getD j .dead)=os.map (Ob.mv fun k=>js.getD k s.hp.length):=by rw [hmap];exact ho _
 unfold Look at h
 refine call_lend h js [] [] hjl rfl (by simpa using hnd) hlt (by simp) (ha _) (fun k hk'=>⟨?_,?_⟩) (fun k hk'=>by have:=(mem_idxL os 0 k).1 hk';omega) (fun k hk' _=>(mem_idxL os 0 k).2 (by omega)) (fun k hk' hn=>absurd ((mem_idxL os 0 k).2 (by omega)) hn) ?_
 ·have:=congrArg (fun l:List Ob=>l[k]?) hoS
  simp only [List.getElem?_map] at this
  have e1:js[k]?=some (js.getD k s.hp.length):=by simp [List.getD_eq_getElem?_getD,show k<js.length by omega]
  have e2:os[k]?=some (os.getD k .dead):=by simp [List.getD_eq_getElem?_getD,hk']
  rw [e1,e2,Option.map_some,Option.map_some,Option.some.injEq] at this
  exact this
 ·intro h0
  have h1:os.getD k .dead∈os:=by simp [List.getD_eq_getElem?_getD,hk']
  have:=List.all_eq_true.1 hov _ h1
  rw [h0] at this
  cases this
 ·rintro r' os' ⟨rfl,rfl⟩ _
  rw [hr,List.append_nil]
  have e1:s.hp.map (killO [])=s.hp:=by
   have:killO []=id:=rfl
   rw [this,List.map_id]
  rw [e1,putL_self js _ s.hp hlt hoS]
  exact hk
def obB (lev:Int) (m n:Nat):Ob := .arr 186 4 false [[.int .i64 lev,.sref 1 0 m,.bool true,.sref 2 0 n]]
def obC (rows:List (List AV)):Ob := .arr 197 11 true rows
def obL (rows:List (List AV)):Ob := .arr 105 16 true rows
theorem bsis_ok (lev:Int) (m n:Nat) (cr lr:List (List AV)):Look Tryz.prog 116 [.ptr 0 0 0] [obB lev m n,obC cr,obL lr] (.bool true):=by
 unfold Look obB obC obL
 (refine lend_of_W Tryz.func116 rfl (rs:=[Go.ResultVar.tmp 2]) rfl (nt:=11) rfl (Nat.le_of_ble_eq_true rfl) ?_;simp only [idxL_nil,idxL_cons,List.length_cons,List.length_nil,List.replicate,mv_any,mv_und,mv_int,mv_bool,mv_str,mv_nils,mv_sl,mv_ia,mv_nilp,mv_nilif,mv_nilfn,mv_nilmp,mv_gl,mv_sref,mv_ptr,mv_mp,mv_agg,mv_tup,mv_fn,mv_md,mvs_nil,mvs_cons,omv_dead,omv_arr,omv_arrf,omv_map,List.map_cons,List.map_nil,List.cons_append,List.nil_append,List.getD_cons_zero,List.getD_cons_succ,Nat.add_zero,Nat.reduceAdd])
 refine W_seq ?_
 ((refine W_regV ?_);intro K hK;(refine sNa ?_))
 (refine hK _ ?_;clear hK K)
 ((refine W_seqV ?_);intro K hK;(refine sNa ?_))
 (refine hK _ ?_;clear hK K)
 refine W_ret ?_
 (simp only [thenW,blockW,lendQ,resW,resV,asOne_nil,asOne_one,asOne_two,asOne_three,List.getD_cons_zero,List.getD_cons_succ];exact lend_end [] [0,1,2] rfl rfl (by decide) rfl (by simp only [backN,Nat.reduceLT,if_true,if_false,Nat.reduceSub,mv_any,mv_und,mv_int,mv_bool,mv_str,mv_nils,mv_sl,mv_ia,mv_nilp,mv_nilif,mv_nilfn,mv_nilmp,mv_gl,mv_sref,mv_ptr,mv_mp,mv_agg,mv_tup,mv_fn,mv_md,mvs_nil,mvs_cons,omv_dead,omv_arr,omv_arrf,omv_map,List.map_cons,List.map_nil,List.cons_append,List.nil_append,List.getD_cons_zero,List.getD_cons_succ,Nat.add_zero,Nat.reduceAdd]) (by simp only [backN,Nat.reduceLT,if_true,if_false,Nat.reduceSub,mv_any,mv_und,mv_int,mv_bool,mv_str,mv_nils,mv_sl,mv_ia,mv_nilp,mv_nilif,mv_nilfn,mv_nilmp,mv_gl,mv_sref,mv_ptr,mv_mp,mv_agg,mv_tup,mv_fn,mv_md,mvs_nil,mvs_cons,omv_dead,omv_arr,omv_arrf,omv_map,List.map_cons,List.map_nil,List.cons_append,List.nil_append,List.getD_cons_zero,List.getD_cons_succ,Nat.add_zero,Nat.reduceAdd]) (⟨rfl,rfl⟩))
theorem bswrong_ok (lev:Int) (m n:Nat) (cr lr:List (List AV)) (v:Int) (hn:n≤4294967296):Look Tryz.prog 103 [.ptr 0 0 0,.int .i64 v] [obB lev m n,obC cr,obL lr] (.int .i64 (if 0≤v∧v<n then 0 else 61)):=by
 have h1:=bsis_ok lev m n cr lr
 unfold obB obC obL at *
 unfold Look
 (refine lend_of_W Tryz.func103 rfl (rs:=[Go.ResultVar.tmp 4]) rfl (nt:=21) rfl (Nat.le_of_ble_eq_true rfl) ?_;simp only [idxL_nil,idxL_cons,List.length_cons,List.length_nil,List.replicate,mv_any,mv_und,mv_int,mv_bool,mv_str,mv_nils,mv_sl,mv_ia,mv_nilp,mv_nilif,mv_nilfn,mv_nilmp,mv_gl,mv_sref,mv_ptr,mv_mp,mv_agg,mv_tup,mv_fn,mv_md,mvs_nil,mvs_cons,omv_dead,omv_arr,omv_arrf,omv_map,List.map_cons,List.map_nil,List.cons_append,List.nil_append,List.getD_cons_zero,List.getD_cons_succ,Nat.add_zero,Nat.reduceAdd])
 refine W_seq ?_
 ((refine W_regV ?_);intro K hK;(refine sNa ?_))
 (refine hK _ ?_;clear hK K)
 refine W_seq (W_block ?_)
 ((refine W_seqVM ?_);intro K hK;(refine sNa ?_))
 (refine ⟨by kernel_rfl,_,.lookB (h1) [21,22,23] rfl (by decide) rfl (fun _=>by simp only [mv_any,mv_und,mv_int,mv_bool,mv_str,mv_nils,mv_sl,mv_ia,mv_nilp,mv_nilif,mv_nilfn,mv_nilmp,mv_gl,mv_sref,mv_ptr,mv_mp,mv_agg,mv_tup,mv_fn,mv_md,mvs_nil,mvs_cons,omv_dead,omv_arr,omv_arrf,omv_map,List.map_cons,List.map_nil,List.cons_append,List.nil_append,List.getD_cons_zero,List.getD_cons_succ,Nat.add_zero,Nat.reduceAdd]) (fun _=>by simp only [mv_any,mv_und,mv_int,mv_bool,mv_str,mv_nils,mv_sl,mv_ia,mv_nilp,mv_nilif,mv_nilfn,mv_nilmp,mv_gl,mv_sref,mv_ptr,mv_mp,mv_agg,mv_tup,mv_fn,mv_md,mvs_nil,mvs_cons,omv_dead,omv_arr,omv_arrf,omv_map,List.map_cons,List.map_nil,List.cons_append,List.nil_append,List.getD_cons_zero,List.getD_cons_succ,Nat.add_zero,Nat.reduceAdd]) rfl (fun _=>by simp only [mv_any,mv_und,mv_int,mv_bool,mv_str,mv_nils,mv_sl,mv_ia,mv_nilp,mv_nilif,mv_nilfn,mv_nilmp,mv_gl,mv_sref,mv_ptr,mv_mp,mv_agg,mv_tup,mv_fn,mv_md,mvs_nil,mvs_cons,omv_dead,omv_arr,omv_arrf,omv_map,List.map_cons,List.map_nil,List.cons_append,List.nil_append,List.getD_cons_zero,List.getD_cons_succ,Nat.add_zero,Nat.reduceAdd]),?_⟩;(try (refine sNa ?_));(repeat refine aI ?_))
 (refine hK _ ?_;clear hK K)
 refine W_cf rfl ?_
 by_cases h2:0≤v
 ·have h3:¬ v<0:=by omega
  by_cases h4:v<(n:Int)
  ·have h5:¬ (n:Int)≤v:=by omega
   rw [if_pos ⟨h2,h4⟩]
   ((refine W_seqV ?_);intro K hK;(refine sNaX (And.intro h3 h5) ?_))
   (refine hK _ ?_;clear hK K)
   refine W_cf rfl ?_
   refine W_skip ?_
   simp only [thenW,blockW]
   ((refine W_seqV ?_);intro K hK;(refine sNa ?_))
   (refine hK _ ?_;clear hK K)
   refine W_ret ?_
   (simp only [thenW,blockW,lendQ,resW,resV,asOne_nil,asOne_one,asOne_two,asOne_three,List.getD_cons_zero,List.getD_cons_succ];exact lend_end [] [0,1,2] rfl rfl (by decide) rfl (by simp only [backN,Nat.reduceLT,if_true,if_false,Nat.reduceSub,mv_any,mv_und,mv_int,mv_bool,mv_str,mv_nils,mv_sl,mv_ia,mv_nilp,mv_nilif,mv_nilfn,mv_nilmp,mv_gl,mv_sref,mv_ptr,mv_mp,mv_agg,mv_tup,mv_fn,mv_md,mvs_nil,mvs_cons,omv_dead,omv_arr,omv_arrf,omv_map,List.map_cons,List.map_nil,List.cons_append,List.nil_append,List.getD_cons_zero,List.getD_cons_succ,Nat.add_zero,Nat.reduceAdd]) (by simp only [backN,Nat.reduceLT,if_true,if_false,Nat.reduceSub,mv_any,mv_und,mv_int,mv_bool,mv_str,mv_nils,mv_sl,mv_ia,mv_nilp,mv_nilif,mv_nilfn,mv_nilmp,mv_gl,mv_sref,mv_ptr,mv_mp,mv_agg,mv_tup,mv_fn,mv_md,mvs_nil,mvs_cons,omv_dead,omv_arr,omv_arrf,omv_map,List.map_cons,List.map_nil,List.cons_append,List.nil_append,List.getD_cons_zero,List.getD_cons_succ,Nat.add_zero,Nat.reduceAdd]) (⟨rfl,rfl⟩))
  ·have h5:(n:Int)≤v:=by omega
   rw [if_neg (fun h=>h4 h.2)]
   ((refine W_seqV ?_);intro K hK;(refine sNaX (And.intro h3 h5) ?_))
   (refine hK _ ?_;clear hK K)
   refine W_ct rfl ?_
   ((refine W_seqV ?_);intro K hK;(refine sNa ?_))
   (refine hK _ ?_;clear hK K)
   refine W_ret ?_
   (simp only [thenW,blockW,lendQ,resW,resV,asOne_nil,asOne_one,asOne_two,asOne_three,List.getD_cons_zero,List.getD_cons_succ];exact lend_end [] [0,1,2] rfl rfl (by decide) rfl (by simp only [backN,Nat.reduceLT,if_true,if_false,Nat.reduceSub,mv_any,mv_und,mv_int,mv_bool,mv_str,mv_nils,mv_sl,mv_ia,mv_nilp,mv_nilif,mv_nilfn,mv_nilmp,mv_gl,mv_sref,mv_ptr,mv_mp,mv_agg,mv_tup,mv_fn,mv_md,mvs_nil,mvs_cons,omv_dead,omv_arr,omv_arrf,omv_map,List.map_cons,List.map_nil,List.cons_append,List.nil_append,List.getD_cons_zero,List.getD_cons_succ,Nat.add_zero,Nat.reduceAdd]) (by simp only [backN,Nat.reduceLT,if_true,if_false,Nat.reduceSub,mv_any,mv_und,mv_int,mv_bool,mv_str,mv_nils,mv_sl,mv_ia,mv_nilp,mv_nilif,mv_nilfn,mv_nilmp,mv_gl,mv_sref,mv_ptr,mv_mp,mv_agg,mv_tup,mv_fn,mv_md,mvs_nil,mvs_cons,omv_dead,omv_arr,omv_arrf,omv_map,List.map_cons,List.map_nil,List.cons_append,List.nil_append,List.getD_cons_zero,List.getD_cons_succ,Nat.add_zero,Nat.reduceAdd]) (⟨rfl,rfl⟩))
 ·have h3:v<0:=by omega
  rw [if_neg (fun h=>h2 h.1)]
  ((refine W_seqV ?_);intro K hK;(refine sNaX h3 ?_))
  (refine hK _ ?_;clear hK K)
  refine W_ct rfl ?_
  ((refine W_seqV ?_);intro K hK;(refine sNa ?_))
  (refine hK _ ?_;clear hK K)
  refine W_ret ?_
  (simp only [thenW,blockW,lendQ,resW,resV,asOne_nil,asOne_one,asOne_two,asOne_three,List.getD_cons_zero,List.getD_cons_succ];exact lend_end [] [0,1,2] rfl rfl (by decide) rfl (by simp only [backN,Nat.reduceLT,if_true,if_false,Nat.reduceSub,mv_any,mv_und,mv_int,mv_bool,mv_str,mv_nils,mv_sl,mv_ia,mv_nilp,mv_nilif,mv_nilfn,mv_nilmp,mv_gl,mv_sref,mv_ptr,mv_mp,mv_agg,mv_tup,mv_fn,mv_md,mvs_nil,mvs_cons,omv_dead,omv_arr,omv_arrf,omv_map,List.map_cons,List.map_nil,List.cons_append,List.nil_append,List.getD_cons_zero,List.getD_cons_succ,Nat.add_zero,Nat.reduceAdd]) (by simp only [backN,Nat.reduceLT,if_true,if_false,Nat.reduceSub,mv_any,mv_und,mv_int,mv_bool,mv_str,mv_nils,mv_sl,mv_ia,mv_nilp,mv_nilif,mv_nilfn,mv_nilmp,mv_gl,mv_sref,mv_ptr,mv_mp,mv_agg,mv_tup,mv_fn,mv_md,mvs_nil,mvs_cons,omv_dead,omv_arr,omv_arrf,omv_map,List.map_cons,List.map_nil,List.cons_append,List.nil_append,List.getD_cons_zero,List.getD_cons_succ,Nat.add_zero,Nat.reduceAdd]) (⟨rfl,rfl⟩))
def zL:List AV:=[.bool false,.bool false,.sl [],.sl [],.bool false,.sl [],.sl [],.int .i64 0,.bool false,.bool false,.sl [],.sl [],.bool false,.sl [],.sl [],.int .i64 0]
theorem bsgrow_ok (lev:Int) (m n:Nat) (cr lr:List (List AV)) (hn:n<65536) (hl:n≤lr.length) (hd:lr.map AV.datas=lr):Lend Tryz.prog 83 [.ptr 0 0 0] [obB lev m n,obC cr,obL lr] [0,1] 0 fun r os=>r = .tup [.int .i64 n,.int .i64 0]∧os=[obB lev m (n+1),obC cr,obL (lr.take n++[zL])]:=by
 have h1:=bsis_ok lev m n cr lr
 have h2:((n:Int) == 65536)=false:=by rw [beq_eq_false_iff_ne];omega
 have h3:IntKind.i64.wrap (((n+1:Nat):Int)-1)=n:=by rw [wrap_i64 (by omega) (by omega)];omega
 unfold obB obC obL at *
 unfold zL
 (refine lend_of_W Tryz.func83 rfl (rs:=[Go.ResultVar.tmp 2,Go.ResultVar.tmp 3]) rfl (nt:=31) rfl (Nat.le_of_ble_eq_true rfl) ?_;simp only [idxL_nil,idxL_cons,List.length_cons,List.length_nil,List.replicate,mv_any,mv_und,mv_int,mv_bool,mv_str,mv_nils,mv_sl,mv_ia,mv_nilp,mv_nilif,mv_nilfn,mv_nilmp,mv_gl,mv_sref,mv_ptr,mv_mp,mv_agg,mv_tup,mv_fn,mv_md,mvs_nil,mvs_cons,omv_dead,omv_arr,omv_arrf,omv_map,List.map_cons,List.map_nil,List.cons_append,List.nil_append,List.getD_cons_zero,List.getD_cons_succ,Nat.add_zero,Nat.reduceAdd])
 refine W_seq ?_
 ((refine W_regV ?_);intro K hK;(refine sNa ?_))
 (refine hK _ ?_;clear hK K)
 refine W_seq (W_block ?_)
 ((refine W_seqVM ?_);intro K hK;(refine sNa ?_))
 (refine ⟨by kernel_rfl,_,.lookB (h1) [31,32,33] rfl (by decide) rfl (fun _=>by simp only [mv_any,mv_und,mv_int,mv_bool,mv_str,mv_nils,mv_sl,mv_ia,mv_nilp,mv_nilif,mv_nilfn,mv_nilmp,mv_gl,mv_sref,mv_ptr,mv_mp,mv_agg,mv_tup,mv_fn,mv_md,mvs_nil,mvs_cons,omv_dead,omv_arr,omv_arrf,omv_map,List.map_cons,List.map_nil,List.cons_append,List.nil_append,List.getD_cons_zero,List.getD_cons_succ,Nat.add_zero,Nat.reduceAdd]) (fun _=>by simp only [mv_any,mv_und,mv_int,mv_bool,mv_str,mv_nils,mv_sl,mv_ia,mv_nilp,mv_nilif,mv_nilfn,mv_nilmp,mv_gl,mv_sref,mv_ptr,mv_mp,mv_agg,mv_tup,mv_fn,mv_md,mvs_nil,mvs_cons,omv_dead,omv_arr,omv_arrf,omv_map,List.map_cons,List.map_nil,List.cons_append,List.nil_append,List.getD_cons_zero,List.getD_cons_succ,Nat.add_zero,Nat.reduceAdd]) rfl (fun _=>by simp only [mv_any,mv_und,mv_int,mv_bool,mv_str,mv_nils,mv_sl,mv_ia,mv_nilp,mv_nilif,mv_nilfn,mv_nilmp,mv_gl,mv_sref,mv_ptr,mv_mp,mv_agg,mv_tup,mv_fn,mv_md,mvs_nil,mvs_cons,omv_dead,omv_arr,omv_arrf,omv_map,List.map_cons,List.map_nil,List.cons_append,List.nil_append,List.getD_cons_zero,List.getD_cons_succ,Nat.add_zero,Nat.reduceAdd]),?_⟩;(try (refine sNa ?_));(repeat refine aI ?_))
 (refine hK _ ?_;clear hK K)
 refine W_cf rfl ?_
 ((refine W_seqV ?_);intro K hK;(refine sNaX h2 ?_))
 (refine hK _ ?_;clear hK K)
 refine W_cf rfl ?_
 refine W_skip ?_
 simp only [thenW,blockW]
 ((refine W_seqR ?_);intro K hK;(refine sNa ?_))
 (repeat refine aI ?_)
 refine aI ?_ (by decide)
 (repeat refine aI ?_)
 simp (disch:=omega) only [sA,sT,reduceCtorEq,St.ret,List.set,Nat.reduceEqDiff,sB,storable,AV.one,cellsOf,Nat.reduceLT,Nat.reduceAdd,Nat.reduceLeDiff,overlay,St.seth]
 (refine hK _ ?_;clear hK K)
 refine W_seq ?_
 ((refine W_regV ?_);intro K hK;(refine sNaX h3 ?_))
 (refine hK _ ?_;clear hK K)
 refine W.le ?_ (Le_datas 33 rfl)
 simp only [List.set,List.map_append,List.map_take,hd,List.map_cons,List.map_nil,AV.datas,AV.data]
 refine W_ret ?_
 (simp only [thenW,blockW,lendQ,resW,resV,asOne_nil,asOne_one,asOne_two,asOne_three,List.getD_cons_zero,List.getD_cons_succ];exact lend_end [] [0,1,2] rfl rfl (by decide) rfl (by simp only [backN,Nat.reduceLT,if_true,if_false,Nat.reduceSub,mv_any,mv_und,mv_int,mv_bool,mv_str,mv_nils,mv_sl,mv_ia,mv_nilp,mv_nilif,mv_nilfn,mv_nilmp,mv_gl,mv_sref,mv_ptr,mv_mp,mv_agg,mv_tup,mv_fn,mv_md,mvs_nil,mvs_cons,omv_dead,omv_arr,omv_arrf,omv_map,List.map_cons,List.map_nil,List.cons_append,List.nil_append,List.getD_cons_zero,List.getD_cons_succ,Nat.add_zero,Nat.reduceAdd]) (by simp only [backN,Nat.reduceLT,if_true,if_false,Nat.reduceSub,mv_any,mv_und,mv_int,mv_bool,mv_str,mv_nils,mv_sl,mv_ia,mv_nilp,mv_nilif,mv_nilfn,mv_nilmp,mv_gl,mv_sref,mv_ptr,mv_mp,mv_agg,mv_tup,mv_fn,mv_md,mvs_nil,mvs_cons,omv_dead,omv_arr,omv_arrf,omv_map,List.map_cons,List.map_nil,List.cons_append,List.nil_append,List.getD_cons_zero,List.getD_cons_succ,Nat.add_zero,Nat.reduceAdd]) (⟨rfl,rfl⟩))
theorem bcopied_ok (b:BB) (hb:b.at_.ok):Pure Tryz.prog 171 [.agg b.cells] (· = .agg b.nm.cells):=by
 have h1:=dnorm_ok b.at_ hb
 obtain ⟨has,⟨⟨n,x,y⟩,⟨m,z,w⟩⟩,why⟩:=b
 simp only [DD.av,DD.cells,BB.cells] at h1 ⊢
 cases has with
 | false =>
  show Pure _ _ _ (· = .agg zeroB.cells)
  (refine pureW Tryz.func171 rfl (rs:=[Go.ResultVar.cell 2 103]) rfl (n:=13) rfl ?_;simp only [List.length_cons,List.length_nil,List.replicate,List.cons_append,List.nil_append])
  (refine aNa ?_)
  refine W_seq ?_
  ((refine W_seqV ?_);intro K hK;(refine sNa ?_))
  (refine hK _ ?_;clear hK K)
  refine W_ct rfl ?_
  ((refine W_seqV ?_);intro K hK;(refine sNa ?_))
  (refine hK _ ?_;clear hK K)
  refine W_ret ?_
  (refine qG ?_;try exact True.intro);try (refine sNaV ?_;try exact True.intro)
  rfl
 | true =>
  show Pure _ _ _ (· = .agg (BB.cells ⟨true,dq _,why⟩))
  generalize DD.v _=p at *
  simp only [cD] at h1
  (refine pureW Tryz.func171 rfl (rs:=[Go.ResultVar.cell 2 103]) rfl (n:=13) rfl ?_;simp only [List.length_cons,List.length_nil,List.replicate,List.cons_append,List.nil_append])
  (refine aNa ?_)
  refine W_seq ?_
  ((refine W_seqV ?_);intro K hK;(refine sNa ?_))
  (refine hK _ ?_;clear hK K)
  refine W_cf rfl ?_
  refine W_skip ?_
  simp only [thenW]
  ((refine W_seqD mixed [] (by kernel_rfl) ?_);intro K hK;(refine sNa ?_))
  (refine ⟨by kernel_rfl,_,.pure rfl (h1),?_⟩;(try (refine sNa ?_)))
  (refine hK _ ?_;clear hK K)
  refine W_ret ?_
  (refine qG ?_;try exact True.intro);try (refine sNaV ?_;try exact True.intro)
  rfl
theorem bbelow_ok (b:BB) (d:DD) (hb:b.at_.ok) (hd:d.ok):Pure Tryz.prog 212 [.agg b.cells,d.av] (· = .bool (b.has&&decide (dsg (dsub b.at_.v d.v)<0))):=by
 have h1:=dcmp_ok b.at_ d hb hd
 obtain ⟨has,⟨⟨n,x,y⟩,⟨m,z,w⟩⟩,why⟩:=b
 obtain ⟨⟨n',x',y'⟩,⟨m',z',w'⟩⟩:=d
 simp only [DD.av,DD.cells,BB.cells] at h1 ⊢
 generalize dsg _=g at *
 cases has with
 | false =>
  (refine pureW Tryz.func212 rfl (rs:=[Go.ResultVar.tmp 4]) rfl (n:=14) rfl ?_;simp only [List.length_cons,List.length_nil,List.replicate,List.cons_append,List.nil_append])
  (refine aNa ?_)
  refine W_ret ?_
  (refine qG ?_;try exact True.intro)
  try rfl
 | true =>
  (refine pureW Tryz.func212 rfl (rs:=[Go.ResultVar.tmp 4]) rfl (n:=14) rfl ?_;simp only [List.length_cons,List.length_nil,List.replicate,List.cons_append,List.nil_append])
  (refine aNa ?_)
  refine W_seq ?_
  ((refine W_regV ?_);intro K hK;(refine sNa ?_))
  (refine ⟨by kernel_rfl,_,.pure rfl (h1),?_⟩;(try (refine sNa ?_)))
  (refine hK _ ?_;clear hK K)
  refine W_ret ?_
  (refine qG ?_;try exact True.intro)
  try rfl
theorem babove_ok (b:BB) (d:DD) (hb:b.at_.ok) (hd:d.ok):Pure Tryz.prog 214 [.agg b.cells,d.av] (· = .bool (b.has&&decide (dsg (dsub b.at_.v d.v)>0))):=by
 have h1:=dcmp_ok b.at_ d hb hd
 obtain ⟨has,⟨⟨n,x,y⟩,⟨m,z,w⟩⟩,why⟩:=b
 obtain ⟨⟨n',x',y'⟩,⟨m',z',w'⟩⟩:=d
 simp only [DD.av,DD.cells,BB.cells] at h1 ⊢
 generalize dsg _=g at *
 cases has with
 | false =>
  (refine pureW Tryz.func214 rfl (rs:=[Go.ResultVar.tmp 4]) rfl (n:=14) rfl ?_;simp only [List.length_cons,List.length_nil,List.replicate,List.cons_append,List.nil_append])
  (refine aNa ?_)
  refine W_ret ?_
  (refine qG ?_;try exact True.intro)
  try rfl
 | true =>
  (refine pureW Tryz.func214 rfl (rs:=[Go.ResultVar.tmp 4]) rfl (n:=14) rfl ?_;simp only [List.length_cons,List.length_nil,List.replicate,List.cons_append,List.nil_append])
  (refine aNa ?_)
  refine W_seq ?_
  ((refine W_regV ?_);intro K hK;(refine sNa ?_))
  (refine ⟨by kernel_rfl,_,.pure rfl (h1),?_⟩;(try (refine sNa ?_)))
  (refine hK _ ?_;clear hK K)
  refine W_ret ?_
  (refine qG ?_;try exact True.intro)
  try rfl
theorem bcopiedL_ok (l:LL) (h1:l.lower.at_.ok) (h2:l.upper.at_.ok):Pure Tryz.prog 104 [.agg l.cells] (· = .agg l.nm.cells):=by
 have g1:=bcopied_ok l.lower h1
 have g2:=bcopied_ok l.upper h2
 unfold LL.nm
 generalize l.lower.nm=p at *
 generalize l.upper.nm=q at *
 clear h1 h2
 obtain ⟨⟨h,⟨⟨n,x,y⟩,⟨m,z,w⟩⟩,c⟩,⟨h',⟨⟨n',x',y'⟩,⟨m',z',w'⟩⟩,c'⟩⟩:=l
 simp only [BB.cells,LL.cells] at *
 (refine pureW Tryz.func104 rfl (rs:=[Go.ResultVar.cell 2 105]) rfl (n:=10) rfl ?_;simp only [List.length_cons,List.length_nil,List.replicate,List.cons_append,List.nil_append])
 (refine aNa ?_)
 ((refine W_seqD mixed [] (by kernel_rfl) ?_);intro K hK;(refine sNa ?_))
 (refine ⟨by kernel_rfl,_,.pure rfl (g1),?_⟩;(try (refine sNa ?_)))
 (refine ⟨by kernel_rfl,_,.pure rfl (g2),?_⟩;(try (refine sNa ?_)))
 (refine hK _ ?_;clear hK K)
 refine W_ret ?_
 (refine qG ?_;try exact True.intro);try (refine sNaV ?_;try exact True.intro)
 try rfl
end Go.Proofs.YtjmkfbhecgkbmaaGreat.Vm
