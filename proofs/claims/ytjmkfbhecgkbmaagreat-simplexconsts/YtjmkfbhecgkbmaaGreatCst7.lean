/-
  Part 7 of 9 of a proof.
-/
import Derived.Test.YtjmkfbhecgkbmaaGreatCst6
import Derived.Orders
import Derived.Below
import Derived.Laws.AppendOwn
import Derived.Laws.MakeOwn
import Derived.Laws.CopyRow
import Derived.Laws.Rows
import Derived.Laws.Cells
import Derived.Tactics
import Derived.Laws.BitsLemmas
import Derived.Maps.Range
import Derived.Carry
import Derived.Test.YtjmkfbhecgkbmaaGreatProg
import Derived.Sort.Row
import Derived.Sort.Grow
import Derived.Shelf.Sort.Plain
import Derived.Shelf.Slices.In.SortNone
import Derived.Ground.NamesProg
set_option linter.unusedVariables false
set_option linter.unusedSimpArgs false
set_option maxRecDepth 100000

namespace Go.Proofs.YtjmkfbhecgkbmaaGreat.Vm
open Go Go.RowKit
abbrev TR:=List (Int × List (Int × RR))
abbrev TM:=List (Int × List (Int × Rat))
def rowT (r:Int × List (Int × RR)):List AV:=[.int .i64 r.1,.sl (tab rowM r.2)]
def rowU (r:Int × List (Int × Rat)):List AV:=[.int .i64 r.1,.sl (tab rowQ r.2)]
def cT (n:Int) (t:TR):AV := .agg [.int .i64 n,.sl (tab rowT t)]
def cU (n:Int) (M:TM):AV := .agg [.int .i64 n,.sl (tab rowU M)]
theorem rowT_all (f:TR):AllLen 2 (tab rowT f):=tab_all (k:=2) (fun _=>rfl) f
theorem rowT_one (f:TR):AllOne (tab rowT f):=tab_one (fun _=>rfl) f
theorem rowT_pure (f:TR):AllPure (tab rowT f):=tab_pure (fun _=>rfl) f
theorem rowU_all (f:TM):AllLen 2 (tab rowU f):=tab_all (k:=2) (fun _=>rfl) f
theorem rowU_one (f:TM):AllOne (tab rowU f):=tab_one (fun _=>rfl) f
theorem rowU_pure (f:TM):AllPure (tab rowU f):=tab_pure (fun _=>rfl) f
def nrmT (t:TR):TM:=t.map fun r=>(r.1,normF (vals r.2))
def keys {α:Type} (M:List (Int × α)):List Int:=M.map (·.1)
theorem keys_len {α:Type} (M:List (Int × α)):(keys M).length=M.length:=by simp [keys]
theorem keys_append {α:Type} (M N:List (Int × α)):keys (M++N)=keys M++keys N:=by simp [keys]
theorem nrmT_len (t:TR):(nrmT t).length=t.length:=by simp [nrmT]
theorem nrmT_getD {t:TR} {i:Nat} (h:i<t.length):(nrmT t).getD i default=((t.getD i default).1,normF (vals (t.getD i default).2)):=by
 simp [nrmT,List.getD_eq_getElem?_getD,h]
theorem take_snoc {α:Type} [Inhabited α] {l:List α} {i:Nat} (h:i<l.length):l.take (i+1)=l.take i++[l.getD i default]:=by
 rw [List.take_succ_eq_append_getElem h]
 simp [List.getD_eq_getElem?_getD,h]
theorem getD_mem {α:Type} [Inhabited α] {l:List α} {i:Nat} (h:i<l.length):l.getD i default∈l:=by
 simp [List.getD_eq_getElem?_getD,h]
theorem mem_getD {α:Type} [Inhabited α] {l:List α} {x:α} (h:x∈l):∃ i,i<l.length∧l.getD i default=x:=by
 obtain ⟨i,hi,he⟩:=List.getElem_of_mem h
 exact ⟨i,hi,by simp [List.getD_eq_getElem?_getD,hi,he]⟩
def inR (n v:Int):Bool:=decide (0≤v)&&decide (v<n)
theorem inR_iff {n v:Int}:inR n v=true↔0≤v∧v<n:=by simp [inR]
def keysOk (n:Int) (l:List Int):Bool:=decide l.Nodup&&l.all (inR n)
def formOk (n:Int) (K:List Int) (f:List (Int × Rat)):Bool:=f.all fun p=>inR n p.1&&!K.contains p.1
def goodB (n:Int) (M:TM):Bool:=decide (0≤n)&&decide (n≤65536)&&keysOk n (keys M)&&M.all fun r=>formOk n (keys M) r.2
structure GT (n:Int) (M:TM):Prop where
 lo:0≤n
 hi:n≤65536
 nodup:(keys M).Nodup
 range:∀ b∈keys M,0≤b∧b<n
 free:∀ r∈M,∀ p∈r.2,(0≤p.1∧p.1<n)∧p.1∉keys M
theorem gt_iff {n:Int} {M:TM}:goodB n M=true↔GT n M:=by
 simp only [goodB,keysOk,formOk,Bool.and_eq_true,decide_eq_true_eq,List.all_eq_true,inR_iff,Bool.not_eq_true',List.contains_iff_mem,Bool.eq_false_iff,ne_eq]
 constructor
 ·rintro ⟨⟨⟨h1,h2⟩,h3,h4⟩,h5⟩
  exact ⟨h1,h2,h3,h4,h5⟩
 ·rintro ⟨h1,h2,h3,h4,h5⟩
  exact ⟨⟨⟨h1,h2⟩,h3,h4⟩,h5⟩
def idxM (M:TM) (k:Int):Option Nat:=M.findIdx? fun r=>r.1 == k
def lookM (M:TM) (k:Int):Option (List (Int × Rat)):=(M.find? fun r=>r.1 == k).map (·.2)
theorem idx_none {M:TM} {k:Int} (h:idxM M k=none):k∉keys M∧lookM M k=none:=by
 unfold idxM at h
 rw [List.findIdx?_eq_none_iff] at h
 constructor
 ·intro hk
  simp only [keys,List.mem_map] at hk
  obtain ⟨r,hr,rfl⟩:=hk
  have:=h r hr
  simp at this
 ·unfold lookM
  rw [List.find?_eq_none.2 fun r hr=>by rw [h r hr];simp]
  rfl
theorem idx_some {M:TM} {k:Int} {j:Nat} (h:idxM M k=some j):j<M.length∧(M.getD j default).1=k∧lookM M k=some (M.getD j default).2∧k∈keys M:=by
 unfold idxM at h
 have h1:=List.findIdx?_eq_some_iff_getElem.1 h
 obtain ⟨h2,h3,h4⟩:=h1
 have h5:M.getD j default=M[j]:=by simp [List.getD_eq_getElem?_getD,h2]
 have h6:(M[j]).1=k:=by simpa using h3
 refine ⟨h2,by rw [h5];exact h6,?_,by rw [← h6];exact List.mem_map.2 ⟨_,List.getElem_mem h2,rfl⟩⟩
 unfold lookM
 have hf:M.find? (fun r=>r.1 == k)=some (M[j]):=List.find?_eq_some_iff_getElem.2 ⟨h3,j,h2,rfl,fun i hi=>by simpa using h4 i hi⟩
 rw [hf,h5]
 rfl
theorem look_mem {M:TM} {k:Int} {g:List (Int × Rat)} (h:lookM M k=some g):(k,g)∈M:=by
 unfold lookM at h
 cases hf:M.find? fun r=>r.1 == k with
 | none=>rw [hf] at h;cases h
 | some r =>
  rw [hf] at h
  cases h
  have h1:=List.mem_of_find?_eq_some hf
  have h2:=List.find?_some hf
  simp at h2
  rw [← h2]
  exact h1
theorem look_of {M:TM} (hn:(keys M).Nodup) {k:Int} {g:List (Int × Rat)} (h:(k,g)∈M):lookM M k=some g:=by
 induction M with
 | nil=>cases h
 | cons r M ih =>
  simp only [keys,List.map_cons,List.nodup_cons] at hn
  unfold lookM
  rw [List.find?_cons]
  rcases List.mem_cons.1 h with rfl | h1
  ·simp
  ·have:(r.1 == k)=false:=by
    rw [beq_eq_false_iff_ne]
    rintro rfl
    exact hn.1 (List.mem_map.2 ⟨_,h1,rfl⟩)
   rw [this]
   exact ih hn.2 h1
theorem look_none {M:TM} {k:Int} (h:k∉keys M):lookM M k=none:=by
 unfold lookM
 rw [List.find?_eq_none.2 fun r hr=>?_]
 ·rfl
 ·simp only [beq_iff_eq]
  rintro rfl
  exact h (List.mem_map.2 ⟨_,hr,rfl⟩)
theorem look_mem_keys {M:TM} {k:Int} {g:List (Int × Rat)} (h:lookM M k=some g):k∈keys M:=List.mem_map.2 ⟨_,look_mem h,rfl⟩
def sortK (l:List Int):List Int:=l.mergeSort fun x y=>decide (x≤y)
def sortM (M:TM):TM:=(sortK (keys M)).map fun b=>(b,(lookM M b).getD [])
theorem sortK_perm (l:List Int):(sortK l).Perm l:=List.mergeSort_perm _ _
theorem sortK_le (l:List Int):(sortK l).Pairwise (·≤·):=by
 have:=List.pairwise_mergeSort (le:=fun x y:Int=>decide (x≤y)) (fun a b c h1 h2=>by simp at *;omega) (fun a b=>by simp;omega) l
 exact this.imp fun h=>by simpa using h
theorem sorted_ext {l m:List Int} (h:l.Perm m) (hl:l.Pairwise (·≤·)) (hm:m.Pairwise (·≤·)):l=m :=
 List.Perm.eq_of_pairwise (fun a b _ _ h1 h2=>by omega) hl hm h
theorem sortK_of {l m:List Int} (h:l.Perm m):sortK l=sortK m :=
 sorted_ext ((sortK_perm l).trans (h.trans (sortK_perm m).symm)) (sortK_le l) (sortK_le m)
theorem sortK_lt {l:List Int} (h:l.Nodup):(sortK l).Pairwise (·<·):=by
 have h1:=sortK_le l
 have h2:(sortK l).Nodup:=(sortK_perm l).nodup_iff.2 h
 exact (h1.and h2).imp fun ⟨h,h'⟩=>by omega
theorem sortK_len (l:List Int):(sortK l).length=l.length:=(sortK_perm l).length_eq
theorem mem_sortK {l:List Int} {x:Int}:x∈sortK l↔x∈l:=(sortK_perm l).mem_iff
theorem sortM_len (M:TM):(sortM M).length=M.length:=by simp [sortM,sortK_len,keys_len]
theorem keys_sortM (M:TM):keys (sortM M)=sortK (keys M):=by simp [sortM,keys,Function.comp_def]
theorem sortM_perm {M:TM} (hn:(keys M).Nodup):(sortM M).Perm M:=by
 have h1:(sortM M).Perm ((keys M).map fun b=>(b,(lookM M b).getD [])):=(sortK_perm _).map _
 refine h1.trans ?_
 have:(keys M).map (fun b=>(b,(lookM M b).getD []))=M:=by
  unfold keys
  rw [List.map_map]
  refine (List.map_congr_left fun r hr=>?_).trans (List.map_id M)
  simp only [Function.comp]
  rw [look_of hn (g:=r.2) hr]
  rfl
 rw [this]
theorem GT.perm {n:Int} {M N:TM} (h:GT n M) (hp:M.Perm N):GT n N:=by
 have hk:(keys M).Perm (keys N):=hp.map _
 exact ⟨h.lo,h.hi,hk.nodup_iff.1 h.nodup,fun b hb=>h.range b (hk.mem_iff.2 hb),fun r hr p hp'=>⟨(h.free r (hp.mem_iff.2 hr) p hp').1,fun hm=>(h.free r (hp.mem_iff.2 hr) p hp').2 (hk.mem_iff.2 hm)⟩⟩
def putF (f:List (Int × Rat)) (v:Int) (g:List (Int × Rat)):List (Int × Rat):=normF (delF (normF f) v++if coef f v=0 then [] else scaleF (coef f v) (normF g))
theorem coef_del (l:List (Int × Rat)) (v x:Int):coef (delF l v) x=if x=v then 0 else coef l x:=by
 induction l with
 | nil=>simp [delF,coef]
 | cons p l ih =>
  unfold delF at ih ⊢
  rw [List.filter_cons]
  by_cases hp:p.1=v
  ·simp only [hp,beq_self_eq_true,Bool.not_true,Bool.false_eq_true,if_false,ih,coef]
   by_cases hx:x=v
   ·simp [hx]
   ·rw [if_neg hx,if_neg hx,if_neg (by omega),Rat.zero_add]
  ·have:(!(p.1 == v))=true:=by simp [hp]
   simp only [this,if_true,coef,ih]
   by_cases hx:x=v
   ·subst hx
    rw [if_neg hp,if_pos rfl,if_pos rfl,Rat.zero_add]
   ·rw [if_neg hx,if_neg hx]
theorem coef_nil (x:Int):coef [] x=0:=rfl
theorem coef_ifscale (c:Rat) (g:List (Int × Rat)) (x:Int):coef (if c=0 then [] else scaleF c g) x=c*coef g x:=by
 split
 ·rename_i h;rw [h,coef_nil,Rat.zero_mul]
 ·rw [coef_scale]
theorem coef_put (f:List (Int × Rat)) (v:Int) (g:List (Int × Rat)) (x:Int):coef (putF f v g) x=(if x=v then 0 else coef f x)+coef f v*coef g x:=by
 unfold putF
 rw [coef_norm,coef_append,coef_del,coef_norm,coef_ifscale,coef_norm]
theorem NF.put (f:List (Int × Rat)) (v:Int) (g:List (Int × Rat)):NF (putF f v g):=NF.norm _
theorem Sz.put {f g:List (Int × Rat)} {B C:Nat} (hf:Sz f B) (hg:Sz g C) (v:Int):Sz (putF f v g) (B+(nb (coef f v)+C)):=by
 unfold putF
 refine Sz.norm (Sz.append (delF_sz hf.norm v) ?_)
 split
 ·exact ⟨fun v=>by simp [nbv],by simp⟩
 ·exact (hg.norm).scale (NF.norm g) _
def exprP (M:TM) (f:List (Int × Rat)) (vs:List Int) (h:List (Int × Rat)):List (Int × Rat) :=
 vs.foldl (fun h v=>match lookM M v with | some g=>putF h v g | none=>h) h
def sumM (c:Int→Rat) (x:Int):TM→Rat
 | []=>0
 | r::M=>c r.1*coef r.2 x+sumM c x M
structure Expr (M:TM) (f e:List (Int × Rat)):Prop where
 nf:NF e
 co:∀ x,coef e x=(if x∈keys M then 0 else coef f x)+sumM (coef f) x M
theorem Expr.ext {M:TM} {f d e:List (Int × Rat)} (h:Expr M f d) (h':Expr M f e):d=e:=NF.ext h.nf h'.nf fun v=>(h.co v).trans (h'.co v).symm
theorem sumM_zero (c:Int→Rat) (x:Int):∀ M:TM,(∀ r∈M,c r.1=0∨coef r.2 x=0)→sumM c x M=0
 | [],_=>rfl
 | r::M,h=>by
  rw [sumM,sumM_zero c x M fun q hq=>h q (List.mem_cons_of_mem _ hq)]
  rcases h r List.mem_cons_self with h | h <;> rw [h] <;> simp [Rat.zero_mul,Rat.mul_zero,Rat.add_zero]
theorem sumM_congr {c d:Int→Rat} (x:Int):∀ M:TM,(∀ b∈keys M,c b=d b)→sumM c x M=sumM d x M
 | [],_=>rfl
 | r::M,h=>by
  rw [sumM,sumM,sumM_congr x M fun b hb=>h b (by simp only [keys,List.map_cons,List.mem_cons];exact .inr hb),h r.1 (by simp [keys])]
theorem sumM_ins {c d:Int→Rat} (x:Int) {v:Int} {g:List (Int × Rat)}:∀ M:TM,(keys M).Nodup→(v,g)∈M→(∀ b,b≠v→d b=c b)→c v=0→sumM d x M=sumM c x M+d v*coef g x
 | [],_,h,_,_=>by cases h
 | r::M,hn,h,hd,hc=>by
  simp only [keys,List.map_cons,List.nodup_cons] at hn
  rw [sumM,sumM]
  rcases List.mem_cons.1 h with rfl | h
  ·rw [sumM_congr (c:=d) (d:=c) x M fun b hb=>hd b fun he=>hn.1 (he ▸ hb),hc]
   grind
  ·have hr:r.1≠v:=fun he=>hn.1 (List.mem_map.2 ⟨_,h,he.symm⟩)
   rw [sumM_ins x M hn.2 h hd hc,hd _ hr]
   grind
theorem free_coef {n:Int} {M:TM} (h:GT n M) {r:Int × List (Int × Rat)} (hr:r∈M) {b:Int} (hb:b∈keys M):coef r.2 b=0 :=
 coef_none fun p hp he=>(h.free r hr p hp).2 (he ▸ hb)
theorem sumM_basic {n:Int} {M:TM} (h:GT n M) (c:Int→Rat) {b:Int} (hb:b∈keys M):sumM c b M=0:=sumM_zero c b M fun r hr => .inr (free_coef h hr hb)
theorem exprP_go {n:Int} {M:TM} (hg:GT n M) (f:List (Int × Rat)):∀ (vs dn:List Int) (h:List (Int × Rat)),NF h→vs.Nodup→(∀ v∈vs,v∉dn) →
  (∀ x,coef h x=(if x∈keys M∧x∈dn then 0 else coef f x)+sumM (fun b=>if b∈dn then coef f b else 0) x M) →
  NF (exprP M f vs h)∧∀ x,coef (exprP M f vs h) x=(if x∈keys M∧(x∈dn∨x∈vs) then 0 else coef f x)+sumM (fun b=>if b∈dn∨b∈vs then coef f b else 0) x M
 | [],dn,h,hn,_,_,hc=>⟨hn,fun x=>by simpa [exprP] using hc x⟩
 | v::vs,dn,h,hn,hv,hd,hc=>by
  rw [List.nodup_cons] at hv
  have hvd:v∉dn:=hd v List.mem_cons_self
  have key:NF (match lookM M v with | some g=>putF h v g | none=>h)∧∀ x,coef (match lookM M v with | some g=>putF h v g | none=>h) x=(if x∈keys M∧x∈v::dn then 0 else coef f x)+sumM (fun b=>if b∈v::dn then coef f b else 0) x M:=by
   cases hl:lookM M v with
   | none =>
    have hk:v∉keys M:=fun hk=>by
     obtain ⟨r,hr,rfl⟩:=List.mem_map.1 hk
     rw [look_of hg.nodup (g:=r.2) hr] at hl
     cases hl
    refine ⟨hn,fun x=>?_⟩
    dsimp only
    rw [hc x]
    congr 1
    ·by_cases hx:x=v
     ·subst hx;simp [hk]
     ·simp [hx]
    ·refine sumM_congr x M fun b hb=>?_
     have:b≠v:=fun he=>hk (he ▸ hb)
     simp [this]
   | some g =>
    have hm:=look_mem hl
    have hk:=look_mem_keys hl
    refine ⟨NF.put _ _ _,fun x=>?_⟩
    dsimp only
    have h1:coef h v=coef f v:=by
     rw [hc v,sumM_basic hg _ hk]
     simp [hvd,Rat.add_zero]
    rw [coef_put,h1]
    have h2:=sumM_ins (c:=fun b=>if b∈dn then coef f b else 0) (d:=fun b=>if b∈v::dn then coef f b else 0) x M hg.nodup hm (fun b hb=>by simp [hb]) (by simp [hvd])
    rw [h2]
    by_cases hx:x=v
    ·subst hx
     have h3:coef g x=0:=free_coef hg hm hk
     have h4:=sumM_basic hg (fun b=>if b∈dn then coef f b else 0) hk
     rw [h3,h4]
     simp [hk,Rat.add_zero,Rat.mul_zero]
    ·rw [if_neg hx,hc x]
     simp only [List.mem_cons,hx,false_or,true_or,if_true]
     grind
  obtain ⟨k1,k2⟩:=key
  have:=exprP_go hg f vs (v::dn) _ k1 hv.2 (fun w hw hm=>by
   rcases List.mem_cons.1 hm with rfl | hm
   ·exact hv.1 hw
   ·exact hd w (List.mem_cons_of_mem _ hw) hm) k2
  refine ⟨this.1,fun x=>?_⟩
  have h5:=this.2 x
  unfold exprP at h5 ⊢
  rw [List.foldl_cons,h5]
  congr 1
  ·simp only [List.mem_cons]
   grind
  ·refine sumM_congr x M fun b _=>?_
   simp only [List.mem_cons]
   grind
theorem exprP_ok {n:Int} {M:TM} (hg:GT n M) (f:List (Int × Rat)):Expr M f (exprP M f (keys (normF f)) (normF f)):=by
 have hnd:(keys (normF f)).Nodup:=by
  have:=(NF.norm f).lt
  unfold keys
  rw [List.Nodup,List.pairwise_map]
  exact this.imp fun h=>by omega
 have h:=exprP_go hg f (keys (normF f)) [] (normF f) (NF.norm f) hnd (by simp) fun x=>by
  rw [coef_norm,sumM_zero _ x M fun r _ => .inl (by simp)]
  simp [Rat.add_zero]
 refine ⟨h.1,fun x=>?_⟩
 rw [h.2 x]
 have hz:∀ b,b∉keys (normF f)→coef f b=0:=fun b hb=>by
  rw [← coef_norm]
  exact coef_none fun p hp he=>hb (List.mem_map.2 ⟨p,hp,he⟩)
 congr 1
 ·by_cases hx:x∈keys (normF f)
  ·simp [hx]
  ·simp [hx,hz x hx]
 ·refine sumM_congr x M fun b _=>?_
  by_cases hb:b∈keys (normF f)
  ·simp [hb]
  ·simp [hb,hz b hb]
def stepR (f out:List (Int × Rat)) (r:Int × List (Int × Rat)):List (Int × Rat):=normF (subF out [(r.1,coef f r.1)]++normF (scaleF (coef f r.1) r.2))
theorem coef_stepR (f out:List (Int × Rat)) (r:Int × List (Int × Rat)) (x:Int):coef (stepR f out r) x=coef out x-(if x=r.1 then coef f r.1 else 0)+coef f r.1*coef r.2 x:=by
 unfold stepR
 rw [coef_norm,coef_append,coef_sub,coef_norm,coef_scale]
 simp only [coef,Rat.add_zero]
 by_cases h:x=r.1
 ·rw [if_pos h,if_pos h.symm]
 ·rw [if_neg h,if_neg (Ne.symm h)]
theorem exprR_go (f:List (Int × Rat)):∀ (M:TM) (out:List (Int × Rat)),NF out→(keys M).Nodup→NF (M.foldl (stepR f) out)∧∀ x,coef (M.foldl (stepR f) out) x=coef out x-(if x∈keys M then coef f x else 0)+sumM (coef f) x M
 | [],out,h,_=>⟨h,fun x=>by simp [keys,sumM,Rat.add_zero];grind⟩
 | r::M,out,h,hn=>by
  simp only [keys,List.map_cons,List.nodup_cons] at hn
  have ih:=exprR_go f M (stepR f out r) (NF.norm _) hn.2
  refine ⟨ih.1,fun x=>?_⟩
  rw [List.foldl_cons,ih.2 x,coef_stepR,sumM]
  simp only [keys,List.map_cons,List.mem_cons]
  by_cases hx:x=r.1
  ·subst hx
   have:r.1∉M.map (·.1):=hn.1
   simp [this]
   grind
  ·simp only [hx,if_false,false_or]
   grind
theorem exprR_ok {M:TM} (hn:(keys M).Nodup) (f:List (Int × Rat)):Expr M f (M.foldl (stepR f) (normF f)):=by
 have h:=exprR_go f M (normF f) (NF.norm f) hn
 refine ⟨h.1,fun x=>?_⟩
 rw [h.2 x,coef_norm]
 split <;> grind
def rowD (d:DD):List AV:=d.cells
theorem rowD_all (f:List DD):AllLen 6 (tab rowD f):=tab_all (k:=6) (fun _=>rfl) f
theorem rowD_one (f:List DD):AllOne (tab rowD f):=tab_one (fun _=>rfl) f
theorem rowD_pure (f:List DD):AllPure (tab rowD f):=tab_pure (fun _=>rfl) f
instance:Inhabited DD:=⟨zeroD0⟩
theorem zeroD0_v':zeroD0.v=(0,0):=by show (zeroR.v,zeroR.v)=_;rw [zeroR_v]
def valD (ds:List DD) (v:Int):DD:=if 0≤v∧v<(ds.length:Int) then ds.getD v.toNat default else zeroD0
structure DsOk (ds:List DD):Prop where
 ok:∀ d∈ds,d.ok
 sa:nbl (ds.map fun d=>d.a.v)≤67108864
 sb:nbl (ds.map fun d=>d.b.v)≤67108864
def evd (ds:List DD) (f:List (Int × Rat)):Rat × Rat:=(ev2 (asg (ds.map fun d=>d.a.v)) f,ev2 (asg (ds.map fun d=>d.b.v)) f)
theorem ev2_snoc (x:Int→Rat) (f:List (Int × Rat)) {i:Nat} (h:i<f.length):ev2 x (f.take (i+1))=ev2 x (f.take i)+(f.getD i default).2*x (f.getD i default).1:=by
 rw [List.take_succ_eq_append_getElem h,ev2_append]
 simp only [ev2]
 have:f.getD i default=f[i]:=by simp [List.getD_eq_getElem?_getD,h]
 rw [this]
 grind
theorem nbs_pre (f:List (Int × Rat)) (i:Nat):nbs (f.take i)≤nbs f:=by
 induction f generalizing i with
 | nil=>simp
 | cons p f ih =>
  cases i with
  | zero=>simp [nbs]
  | succ i=>have:=ih i;simp only [List.take_succ_cons,nbs];omega
theorem asg_val (g:DD→Rat) (hg:g zeroD0=0) (ds:List DD) (v:Int):asg (ds.map g) v=g (valD ds v):=by
 unfold asg valD
 by_cases h0:0≤v
 ·rw [if_pos h0]
  by_cases h1:v<(ds.length:Int)
  ·rw [if_pos ⟨h0,h1⟩]
   have h3:v.toNat<ds.length:=by omega
   simp [List.getD_eq_getElem?_getD,h3]
  ·rw [if_neg (fun h=>h1 h.2),List.getD_eq_getElem?_getD,List.getElem?_eq_none (by rw [List.length_map];omega),hg];rfl
 ·rw [if_neg h0,if_neg (fun h=>h0 h.1),hg]
theorem evd_step (ds:List DD) (f:List (Int × Rat)) {i:Nat} (h:i<f.length):evd ds (f.take (i+1))=dadd (evd ds (f.take i)) (dscale (f.getD i default).2 (valD ds (f.getD i default).1).v):=by
 unfold evd
 rw [ev2_snoc _ _ h,ev2_snoc _ _ h,asg_val (fun d=>d.a.v) zeroR_v,asg_val (fun d=>d.b.v) zeroR_v]
 rfl
theorem valD_ok {ds:List DD} (h:DsOk ds) (v:Int):(valD ds v).ok∧nb2 (valD ds v).v≤67108865:=by
 have h1:=nb_asg (ds.map fun d=>d.a.v) v
 have h2:=nb_asg (ds.map fun d=>d.b.v) v
 rw [asg_val (fun d=>d.a.v) zeroR_v] at h1
 rw [asg_val (fun d=>d.b.v) zeroR_v] at h2
 refine ⟨?_,nb2_le (by have:=h.sa;show nb (valD ds v).a.v≤_;omega) (by have:=h.sb;show nb (valD ds v).b.v≤_;omega)⟩
 unfold valD
 split
 ·rename_i hv
  have h3:v.toNat<ds.length:=by omega
  exact h.ok _ (by simp [List.getD_eq_getElem?_getD,h3])
 ·exact ⟨zeroR_ok,zeroR_ok⟩
theorem evd_nb {ds:List DD} (h:DsOk ds) (f:List (Int × Rat)) (hs:nbs f≤68157440) (i:Nat):nb2 (evd ds (f.take i))≤203423745:=by
 have h1:=nb_value (ds.map fun d=>d.a.v) (f.take i)
 have h2:=nb_value (ds.map fun d=>d.b.v) (f.take i)
 have h3:=nbs_pre f i
 have h4:=h.sa
 have h5:=h.sb
 exact nb2_le (by show nb (ev2 _ _)≤_;omega) (by show nb (ev2 _ _)≤_;omega)
theorem evd_gen {ds:List DD} (h:DsOk ds) (f:List (Int × Rat)) (hs:nbs f≤68157440):(∀ i,nb2 (evd ds (f.take i))≤4294967296)∧(∀ v,(valD ds v).ok∧nb2 (valD ds v).v≤4294967296) :=
 ⟨fun i=>Nat.le_trans (evd_nb h f hs i) (by omega),fun v=>⟨(valD_ok h v).1,Nat.le_trans (valD_ok h v).2 (by omega)⟩⟩
theorem nbs_each {f:List (Int × Rat)} (h:nbs f≤4294967296):f.length≤4294967296∧∀ p∈f,nb p.2≤4294967296 :=
 ⟨Nat.le_trans (nbs_len f) h,fun p hp=>Nat.le_trans (Nat.le_trans (nbv_mem hp) (nbv_le_nbs _ _)) h⟩
def SortInts (P:Program) (g:FuncId):Prop :=
 (∀ (blk off cap:Nat) (zs:List Int) (w:World),Go.Sort.Holds (Value.int .i64) w blk off zs.toArray→blk<w.heap.size→zs.length<4611686018427387904 →
  Calls P g #[.slice (some ⟨blk,off,none⟩) zs.length cap] w fun e w'=>e = .returned (.tuple #[])∧∃ n os,w'=Go.Sort.grow (Go.Sort.putRow (Value.int .i64) (Go.Sort.ahead w n) blk off (zs.mergeSort fun x y=>decide (x≤y)).toArray) os) ∧
 (∀ (p:Option Addr) (cap:Nat) (w:World),Calls P g #[.slice p 0 cap] w fun e w'=>e = .returned (.tuple #[])∧w'=w)
theorem rpR_ints {w:World} {A:Nat→Prop} {ρ:Pl}:∀ (l:List Int) (vss:List (List Value)),RpR w A ρ (l.map fun x=>[AV.int .i64 x]) vss↔vss=l.map fun x=>[Value.int .i64 x]
 | [],vss=>by simp [RpR]
 | x::l,vss=>by
  simp only [List.map_cons,RpR,Rps,Rp,rpR_ints l]
  constructor
  ·rintro ⟨vs,uss,rfl,⟨v,us,rfl,rfl,rfl⟩,rfl⟩
   rfl
  ·rintro rfl
   exact ⟨_,_,rfl,⟨_,_,rfl,rfl,rfl⟩,rfl⟩
theorem flat_ints (l:List Int):(l.map fun x=>[Value.int .i64 x]).flatten=l.map (Value.int .i64):=by
 induction l with
 | nil=>rfl
 | cons x l ih=>simp [ih]
theorem put_ints (l m:List Int) (rest:List Value) (h:m.length=l.length) :
  Go.Sort.putCells (Value.int .i64) 0 m.toArray (l.map (Value.int .i64)++rest).toArray=(m.map (Value.int .i64)++rest).toArray:=by
 unfold Go.Sort.putCells
 apply Array.ext_getElem?
 intro k
 rw [Array.getElem?_mapIdx]
 simp only [List.size_toArray,Nat.zero_le,true_and,Nat.zero_add,Nat.sub_zero,List.getElem?_toArray]
 by_cases hk:k<m.length
 ·rw [List.getElem?_append_left (by simp;omega),List.getElem?_append_left (by simp;omega)]
  simp only [hk,if_true,List.getElem?_map]
  have h1:l[k]?=some (l[k]'(by omega)):=by simp
  have h2:m[k]?=some (m[k]'hk):=by simp
  rw [h1,h2]
  simp [List.getElem?_eq_getElem hk]
 ·simp only [hk,if_false]
  rw [List.getElem?_append_right (by simp;omega),List.getElem?_append_right (by simp;omega)]
  simp [h]
theorem call_sort_of {P:Program} {g:FuncId} (hs:SortInts P g) {pins:List Nat} {s:St} {i:Nat} {T:TypeId} {l:List Int} {K:AV→St→Prop} (hi:s.hp[i]?=some (.arr T 1 true (l.map fun x=>[AV.int .i64 x]))) (hl:l.length<4611686018427387904)
  (hk:K (.tup []) (s.seth i (.arr T 1 true ((l.mergeSort fun x y=>decide (x≤y)).map fun x=>[AV.int .i64 x])))):CallOk P pins g [.sref i 0 l.length] s K:=by
 intro fr ρ a w vals hp hr hv
 have hil:i<s.hp.length:=(List.getElem?_eq_some_iff.1 hi).1
 have hob:s.hp.getD i .dead = .arr T 1 true (l.map fun x=>[AV.int .i64 x]):=by simp [List.getD_eq_getElem?_getD,hi]
 simp only [Rps] at hv
 obtain ⟨v,us,rfl,hv,rfl⟩:=hv
 have htup:∀ w' ρ',Rp w' (Av fr.F ρ') ρ' (.tup []) (.tuple #[]):=fun w' ρ'=>by
  simp only [Rp,Rps]
  exact ⟨[],rfl,rfl⟩
 have hnil:l=[]→s.seth i (.arr T 1 true ((l.mergeSort fun x y=>decide (x≤y)).map fun x=>[AV.int .i64 x]))=s:=by
  rintro rfl
  unfold St.seth
  have:s.hp.set i (.arr T 1 true [])=s.hp:=by
   refine List.ext_getElem? fun j=>?_
   rw [List.getElem?_set]
   split
   ·rename_i hj;subst hj;rw [hi];rfl
   ·rfl
  simp [this]
 by_cases h0:l=[]
 ·have hvs:∃ p cap,v = .slice p 0 cap:=by
   subst h0
   simp only [Rp] at hv
   rcases hv with ⟨_,_,_,rfl⟩ | ⟨b,s',cap,len,x,_,_,rfl,_⟩
   ·exact ⟨_,_,rfl⟩
   ·exact ⟨_,_,rfl⟩
  obtain ⟨p,cap,rfl⟩:=hvs
  refine (hs.2 p cap w).mono fun e w' he=>?_
  obtain ⟨rfl,rfl⟩:=he
  rw [hnil h0] at hk
  exact ⟨_,_,s,ρ,rfl,hk,hr,htup _ _⟩
 ·have hlen:0<l.length:=by cases l with | nil=>exact absurd rfl h0 | cons _ _=>simp
  have ho:=hr.heap i
  rw [hob] at ho
  simp only [Rp] at hv
  rcases hv with ⟨_,_,h1,_⟩ | ⟨b,s',cap,len,x,h1,h2,rfl,h3⟩
  ·omega
  ·rw [h1] at ho
   obtain ⟨rfl,hlen',vss,rest,hb,hrr,hal,hfl,hcap,hmax⟩:=ho
   rw [rpR_ints] at hrr
   subst hrr
   obtain rfl:=h3 (.inr trivial)
   rw [Nat.zero_mul,Nat.sub_zero]
   rw [flat_ints] at hb hfl
   have hbw:b<w.heap.size:=(Array.getElem?_eq_some_iff.1 hb).1
   have hH:Go.Sort.Holds (Value.int .i64) w b 0 l.toArray:=by
    intro j hj
    have hj':j<l.length:=by simpa using hj
    have hc:(l.map (Value.int .i64)++rest)[j]?=some (.int .i64 l[j]):=by
     rw [List.getElem?_append_left (by simpa using hj'),List.getElem?_map,List.getElem?_eq_getElem hj']
     rfl
    constructor
    ·unfold World.cell?
     simp only [Nat.zero_add,hb]
     simp [hc,hj']
    ·unfold World.frozen?
     simp [hb]
   refine (hs.1 b 0 cap l w hH hbw hl).mono fun e w' he=>?_
   obtain ⟨rfl,n,os,rfl⟩:=he
   have hm:(l.mergeSort fun x y=>decide (x≤y)).length=l.length:=List.length_mergeSort _
   generalize (l.mergeSort fun x y=>decide (x≤y))=m at *
   have hp':ρ i=some (.blk b 1 cap (l.map fun x=>[AV.int .i64 x]).length):=by rw [h1,hlen']
   have hset:=hr.setObj hi hp' (rows':=m.map fun x=>[AV.int .i64 x]) (vss:=m.map fun x=>[Value.int .i64 x]) (rest:=rest) ((rpR_ints _ _).2 rfl) (by intro r hr;obtain ⟨x,_,rfl⟩:=List.mem_map.1 hr;rfl) (by rw [flat_ints];simp only [List.length_append,List.length_map] at hfl ⊢;omega) (by simp [hm])
   rw [flat_ints] at hset
   have hbel:Below (w.setRow b (m.map (Value.int .i64)++rest).toArray).heap.size (w.setRow b (m.map (Value.int .i64)++rest).toArray) (Go.Sort.grow (Go.Sort.putRow (Value.int .i64) (Go.Sort.ahead w n) b 0 m.toArray) os):=by
    refine ⟨rfl,rfl,rfl,?_,fun k hk=>?_⟩
    ·simp [Go.Sort.grow,Go.Sort.putRow,Go.Sort.mapBlock,Go.Sort.ahead]
    ·have hk':k<w.heap.size:=by simpa using hk
     show (w.heap.modify b _++os)[k]?=_
     rw [Array.getElem?_append_left (by simpa using hk'),Array.getElem?_modify]
     by_cases hkb:b=k
     ·subst hkb
      rw [if_pos rfl,setRow_heap_same _ hb,hb]
      simp only [Option.map_some,Go.Sort.onCells]
      rw [put_ints l m rest hm]
     ·rw [if_neg hkb,setRow_other _ _ _ _ (Ne.symm hkb)]
   exact ⟨_,_,_,ρ,rfl,hk,(hset.below hbel).1,htup _ _⟩
theorem findA_cons {q:IntKind} {k a:Int} {x:AV} {l:List AV} {rs:List (List AV)} {i:Nat}:findA (.int q) (.int .i64 k) ((.int .i64 a::l)::rs) i=if k=a then some (some i) else findA (.int q) (.int .i64 k) rs (i+1):=by
 rw [findA]
 simp only [if_true]
theorem findA_go (q:IntKind) (k:Int):∀ (M:TM) (i:Nat),findA (.int q) (.int .i64 k) (tab rowU M) i=some ((idxM M k).map (·+i))
 | [],i=>rfl
 | r::M,i=>by
  have ih:=findA_go q k M (i+1)
  rw [tab_cons]
  show findA (.int q) (.int .i64 k) ((.int .i64 r.1::[.sl (tab rowQ r.2)])::tab rowU M) i=_
  rw [findA_cons (x := .any),ih]
  unfold idxM
  rw [List.findIdx?_cons]
  by_cases h:k=r.1
  ·rw [if_pos h]
   simp [h]
  ·rw [if_neg h]
   have:(r.1 == k)=false:=by simp;omega
   rw [this]
   simp only [Bool.false_eq_true,if_false,Option.map_map]
   congr 2
   funext x
   simp only [Function.comp]
   omega
theorem findA_tab {q:IntKind} {k:Int} {M:TM}:findA (.int q) (.int .i64 k) (tab rowU M) 0=some (idxM M k):=by
 rw [findA_go]
 simp
theorem rowU_getD {M:TM} {j:Nat} (h:j<M.length):(tab rowU M).getD j []=rowU (M.getD j default):=tab_getD h
theorem range_snoc (n:Nat):List.range n++[n]=List.range (n+1):=List.range_succ.symm
theorem range_get {n j x:Nat} (h:(List.range n)[j]?=some x):j<n∧x=j:=by
 rw [List.getElem?_eq_some_iff] at h
 obtain ⟨h1,h2⟩:=h
 simp at h1 h2
 exact ⟨h1,h2.symm⟩
theorem nodup_range_le {n:Nat} {s:List Nat} (hn:s.Nodup) (h:∀ x∈s,x<n):s.length≤n:=by
 have:=hn.length_le_of_subset (l₂:=List.range n) (fun x hx=>List.mem_range.2 (h x hx))
 simpa using this
theorem pure_sl {rows:List (List AV)}:(AV.sl rows).pure=true:=rfl
def atB (bs:List Nat) (M:TM) (x:Nat):Int × List (Int × Rat):=M.getD (bs.idxOf x) default
theorem atB_of {bs:List Nat} (hn:bs.Nodup) {M:TM} {j x:Nat} (h:bs[j]?=some x):atB bs M x=M.getD j default:=by
 obtain ⟨h1,h2⟩:=List.getElem?_eq_some_iff.1 h
 unfold atB
 rw [← h2,List.Nodup.idxOf_getElem hn]
theorem map_atB {bs:List Nat} (hn:bs.Nodup) {M:TM} (hl:bs.length=M.length):bs.map (atB bs M)=M:=by
 refine List.ext_getElem (by simpa using hl) fun j h1 h2=>?_
 rw [List.getElem_map,atB_of hn (j:=j) (by simp at h1;simp [h1])]
 simp [List.getD_eq_getElem?_getD,h2]
theorem seen_perm {bs seen:List Nat} (hn:bs.Nodup) (hs:seen.Nodup) (h1:∀ x∈seen,x∈bs) (h2:∀ x∈bs,x∈seen):seen.Perm bs :=
 (List.perm_ext_iff_of_nodup hs hn).2 fun x=>⟨h1 x,h2 x⟩
theorem seen_rows {bs seen:List Nat} {M:TM} (hn:bs.Nodup) (hl:bs.length=M.length) (hs:seen.Nodup) (h1:∀ x∈seen,x∈bs) (h2:∀ x∈bs,x∈seen):(seen.map (atB bs M)).Perm M:=by
 have:=(seen_perm hn hs h1 h2).map (atB bs M)
 rwa [map_atB hn hl] at this
theorem seen_keys {bs seen:List Nat} {M:TM} (hn:bs.Nodup) (hl:bs.length=M.length) (hs:seen.Nodup) (h1:∀ x∈seen,x∈bs) (h2:∀ x∈bs,x∈seen):(seen.map fun x=>(atB bs M x).1).Perm (keys M):=by
 have:=(seen_rows hn hl hs h1 h2).map (·.1)
 rwa [List.map_map] at this
theorem seen_le {bs seen:List Nat} (hs:seen.Nodup) (h1:∀ x∈seen,x∈bs):seen.length≤bs.length:=hs.length_le_of_subset h1
structure Seen (bs:List Nat) (seen:List Nat):Prop where
 nodup:seen.Nodup
 sub:∀ x∈seen,x∈bs
theorem Seen.nil (bs:List Nat):Seen bs []:=⟨List.nodup_nil,by simp⟩
theorem Seen.snoc {bs seen:List Nat} (h:Seen bs seen) {j x:Nat} (hj:bs[j]?=some x) (hx:x∉seen):Seen bs (seen++[x]):=by
 refine ⟨?_,fun y hy=>?_⟩
 ·rw [List.nodup_append]
  refine ⟨h.nodup,by simp,?_⟩
  rintro a ha b hb rfl
  simp at hb
  subst hb
  exact hx ha
 ·rcases List.mem_append.1 hy with hy | hy
  ·exact h.sub y hy
  ·simp at hy;subst hy;exact List.mem_of_getElem? hj
theorem Seen.lt {bs seen:List Nat} (h:Seen bs seen) {j x:Nat} (hj:bs[j]?=some x) (hx:x∉seen):bs.length-(seen++[x]).length<bs.length-seen.length:=by
 have:=seen_le (h.snoc hj hx).nodup (h.snoc hj hx).sub
 simp at *
 omega
theorem births_lt {bs:List Nat} {j x:Nat} (h:bs[j]?=some x):j<bs.length:=(List.getElem?_eq_some_iff.1 h).1
def wholeF (b:Int) (f:List (Int × Rat)):List (Int × Rat):=subF f [(b,1)]
def solvF (b:Int) (f:List (Int × Rat)) (o:Int):List (Int × Rat):=scaleF (-(coef (wholeF b f) o)⁻¹) (delF (wholeF b f) o)
def pivP (M:TM) (at_:Nat) (o:Int) (g:List (Int × Rat)):TM:=(M.eraseIdx at_).map (fun r=>(r.1,putF r.2 o g))++[(o,g)]
def pivR (M:TM) (at_:Nat) (o:Int) (g:List (Int × Rat)):TM:=(M.take at_).map (fun r=>(r.1,putF r.2 o g))++(o,g)::(M.drop (at_+1)).map (fun r=>(r.1,putF r.2 o g))
theorem coef_whole (b:Int) (f:List (Int × Rat)) (x:Int):coef (wholeF b f) x=coef f x-if x=b then 1 else 0:=by
 unfold wholeF
 rw [coef_sub]
 simp only [coef,Rat.add_zero]
 by_cases h:x=b
 ·rw [if_pos h,if_pos h.symm]
 ·rw [if_neg h,if_neg (Ne.symm h)]
theorem whole_nf (b:Int) (f:List (Int × Rat)):NF (wholeF b f):=NF.sub _ _
theorem NF.del {l:List (Int × Rat)} (h:NF l) (v:Int):NF (delF l v):=⟨h.lt.filter _,fun p hp=>h.nz p (List.mem_filter.1 hp).1⟩
theorem solv_nf {b:Int} {f:List (Int × Rat)} {o:Int} (h:coef (wholeF b f) o≠0):NF (solvF b f o):=by
 refine ((whole_nf b f).del o).scale ?_
 grind
theorem keys_pivP {M:TM} {at_:Nat} {o:Int} {g:List (Int × Rat)}:keys (pivP M at_ o g)=(keys M).eraseIdx at_++[o]:=by
 unfold pivP
 rw [keys_append]
 have:∀ (l:TM) (k:Nat),(l.eraseIdx k).map (·.1)=(l.map (·.1)).eraseIdx k:=by
  intro l
  induction l with
  | nil=>intro k;cases k <;> rfl
  | cons x l ih=>intro k;cases k with
   | zero=>rfl
   | succ k=>simp [ih]
 simp [keys,List.map_map,Function.comp_def,this]
theorem pivP_nodup {M:TM} (hn:(keys M).Nodup) {at_:Nat} {o:Int} (ho:o∉keys M) {g:List (Int × Rat)}:(keys (pivP M at_ o g)).Nodup:=by
 rw [keys_pivP,List.nodup_append]
 refine ⟨hn.sublist (List.eraseIdx_sublist _ _),by simp,?_⟩
 rintro a ha b hb rfl
 simp at hb
 subst hb
 exact ho (List.mem_of_mem_eraseIdx ha)
theorem sTc {G G':Prop} (h:G') (e:G=G':=by conv=>lhs;simp (disch:=omega) only [rowsOf,cNat,cN,St.ret,St.seth,Eff.app,Eff.wi,sepL,guardOf,St.known,objOf,List.set,sliceW,litW,copyW,lenOf,bnd,mxOk,ofCells,TI.isAgg,cellsOf,storable,AV.one,dead,laid,overlay,reduceCtorEq,Int.reduceLE,Int.reduceLT,Int.reduceSub,Int.reduceAdd,Nat.reduceMul,Int.reduceToNat,Nat.reducePow,Int.reduceNeg,Nat.reduceAdd,Nat.reduceLT,Nat.reduceLeDiff,sA,sB,cQ,rowQ,rowM,tab_length,List.take_length,List.length_append,tab_drop,tab_take,tab_append,tab_nil,rowQ_all,rowQ_one,rowQ_pure,rowM_all,rowM_one,rowM_pure,i64s_getD,i64s_length,i64s_all,sT]):G:=e.mpr h
theorem sTcX {G G' P:Prop} (p:P) (h:G') (e:P→G=G':=by intro p;conv=>lhs;simp (disch:=omega) only [rowsOf,cNat,cN,St.ret,St.seth,Eff.app,Eff.wi,sepL,guardOf,St.known,objOf,List.set,sliceW,litW,copyW,lenOf,bnd,mxOk,ofCells,TI.isAgg,cellsOf,storable,AV.one,dead,laid,overlay,reduceCtorEq,Int.reduceLE,Int.reduceLT,Int.reduceSub,Int.reduceAdd,Nat.reduceMul,Int.reduceToNat,Nat.reducePow,Int.reduceNeg,Nat.reduceAdd,Nat.reduceLT,Nat.reduceLeDiff,sA,sB,cQ,rowQ,rowM,tab_length,List.take_length,List.length_append,tab_drop,tab_take,tab_append,tab_nil,rowQ_all,rowQ_one,rowQ_pure,rowM_all,rowM_one,rowM_pure,i64s_getD,i64s_length,i64s_all,sT,p]):G:=(e p).mpr h
theorem sTcV {G G':Prop} (h:G') (e:G=G':=by conv=>lhs;simp (disch:=omega) only [rowsOf,cNat,cN,St.ret,St.seth,Eff.app,Eff.wi,sepL,guardOf,St.known,objOf,List.set,sliceW,litW,copyW,lenOf,bnd,mxOk,ofCells,TI.isAgg,cellsOf,storable,AV.one,dead,laid,overlay,reduceCtorEq,Int.reduceLE,Int.reduceLT,Int.reduceSub,Int.reduceAdd,Nat.reduceMul,Int.reduceToNat,Nat.reducePow,Int.reduceNeg,Nat.reduceAdd,Nat.reduceLT,Nat.reduceLeDiff,sA,sB,cQ,rowQ,rowM,tab_length,List.take_length,List.length_append,tab_drop,tab_take,tab_append,tab_nil,rowQ_all,rowQ_one,rowQ_pure,rowM_all,rowM_one,rowM_pure,i64s_getD,i64s_length,i64s_all,sT,view_sref,viewRef,view_agg,views_cons,views_nil,view_bool,view_int,view_sl,view_nils,view_str,view_tup,view_nilif]):G:=e.mpr h
theorem aTc {G G':Prop} (h:G') (f:Wr G'→G:=by intro h;(repeat (first|(refine W_seqV fun K hK=>?_;(try (refine sTc ?_;try exact True.intro));(repeat refine aI ?_);refine hK _ ?_;clear hK K)|(refine W_seqR fun K hK=>?_;(try (refine sTc ?_;try exact True.intro));(repeat refine aI ?_);refine hK _ ?_;clear hK K)|(refine W_seqD mixed [] (by kernel_rfl) fun K hK=>?_;(try (refine sTc ?_;try exact True.intro));(repeat refine aI ?_);refine hK _ ?_;clear hK K)));exact h.out):G:=f ⟨h⟩
def knownB (n:Int) (f:List (Int × Rat)):Bool:=f.all fun p=>inR n p.1
theorem known_keys (n:Int) (f:List (Int × Rat)):(keys f).all (inR n)=knownB n f:=by
 unfold keys knownB
 rw [List.all_map]
 rfl
theorem tknown_ok (f:List (Int × RR)) (n:Int) {B:Nat} (hf:FOk f B) (hB:B<17179869184) :
  Pure Tryz.prog 156 [cF f,.int .i64 n] (· = .bool (knownB n (normF (vals f)))):=by
 have a1:=lvars_ok f hf hB
 have hl:((normF (vals f)).map (·.1)).length<17179869184:=by
  have h1:=hf.sz.norm.l
  simp only [List.length_map]
  omega
 rw [← known_keys]
 unfold keys
 generalize (normF (vals f)).map (·.1)=V at *
 have hst:∀ i,i<V.length→V.all (inR n)=true→inR n (V.getD i 0)=true:=fun i hi h=>by
  rw [List.all_eq_true] at h
  exact h _ (by simp [List.getD_eq_getElem?_getD,hi])
 have hno:∀ i,i<V.length→inR n (V.getD i 0)=false→V.all (inR n)=false:=fun i hi h=>by
  rw [Bool.eq_false_iff]
  intro h'
  rw [hst i hi h'] at h
  cases h
 have hall:(∀ i,i<V.length→inR n (V.getD i 0)=true)→V.all (inR n)=true:=fun h=>by
  rw [List.all_eq_true]
  intro x hx
  obtain ⟨i,hi,he⟩:=List.getElem_of_mem hx
  have:=h i hi
  rwa [show V.getD i 0=x by simp [List.getD_eq_getElem?_getD,hi,he]] at this
 generalize V.all (inR n)=R at *
 simp only [cF] at *
 (refine pureW Tryz.func156 rfl (rs:=[Go.ResultVar.tmp 4]) rfl (n:=22) rfl ?_;simp only [List.length_cons,List.length_nil,List.replicate,List.cons_append,List.nil_append])
 (refine aTc ?_)
 ((refine W_seq (W_seqV ?_));intro K hK;(refine sTc ?_))
 (refine ⟨by kernel_rfl,_,.pure rfl (a1),?_⟩;(try (refine sTc ?_)))
 (refine hK _ ?_;clear hK K)
 refine W_block (W_loop (fun t:{t:Nat // t≤V.length∧∀ i,i<t→inR n (V.getD i 0)=true} =>
   ⟨[.sl (tab rowM f),.int .i64 n,.any,.any,.any,.any,.any,.any,.sl (i64s V),.int .i64 V.length,.int .i64 t.1,.any,.any,.any,.any,.any,.any,.any,.any,.any,.any,.any],[.dead,.dead,.dead,.dead,.dead,.dead,.dead,.dead,.dead,.dead,.dead,.dead,.dead,.dead,.dead,.dead,.dead,.dead,.dead,.dead,.dead,.dead]⟩) (fun t=>V.length-t.1)
   ⟨0,by omega,by omega⟩ (Le_of (by simp [leE]) (by simp)) fun t=>?_)
 obtain ⟨i,hi,hpre⟩:=t
 dsimp only
 by_cases hlt:i<V.length
 ·have hno:=hno i hlt
  have hpr:inR n (V.getD i 0)=true→∀ j,j<i+1→inR n (V.getD j 0)=true:=fun h j hj=>by
   by_cases hji:j=i
   ·subst hji;exact h
   ·exact hpre j (by omega)
  generalize hv:V.getD i 0=v at *
  refine W_seq ?_
  ((refine W_regV ?_);intro K hK;(refine sTcX hlt ?_))
  (refine hK _ ?_;clear hK K)
  (refine W_seq (W_ct rfl ?_))
  refine W_skip ?_
  simp only [thenW]
  refine W_seq ?_
  refine W_block ?_
  ((refine W_seqV ?_);intro K hK;(refine sTcX (And.intro hv hlt) ?_))
  (refine hK _ ?_;clear hK K)
  by_cases h1:v<0
  ·have:inR n v=false:=by simp [inR];omega
   ((refine W_seqV ?_);intro K hK;(refine sTcX h1 ?_))
   (refine hK _ ?_;clear hK K)
   (refine W_ct rfl ?_)
   (refine aTc ?_)
   refine W_ret ?_
   rw [hno this]
   (refine qG ?_;try exact True.intro);try (refine sTcV ?_;try exact True.intro)
  ·by_cases h2:n≤v
   ·have:inR n v=false:=by simp [inR];omega
    ((refine W_seqV ?_);intro K hK;(refine sTcX (And.intro h1 h2) ?_))
    (refine hK _ ?_;clear hK K)
    (refine W_ct rfl ?_)
    (refine aTc ?_)
    refine W_ret ?_
    rw [hno this]
    (refine qG ?_;try exact True.intro);try (refine sTcV ?_;try exact True.intro)
   ·have:inR n v=true:=by simp [inR];omega
    ((refine W_seqV ?_);intro K hK;(refine sTcX (And.intro h1 h2) ?_))
    (refine hK _ ?_;clear hK K)
    (refine W_cf rfl ?_)
    refine W_skip ?_
    simp only [blockW,thenW]
    ((refine W_regV ?_);intro K hK;(refine sTc ?_))
    (refine hK _ ?_;clear hK K)
    simp only [blockW,thenW]
    refine ⟨⟨i+1,by omega,hpr this⟩,Le_drop (by simp [leE]) (by simp [leH]) rfl rfl,?_⟩
    dsimp only
    omega
 ·obtain rfl:i=V.length:=by omega
  rw [hall hpre]
  refine W_seq ?_
  ((refine W_regV ?_);intro K hK;(refine sTc ?_))
  (refine hK _ ?_;clear hK K)
  (refine W_seq (W_cf rfl ?_))
  refine W_exit ?_
  simp only [thenW,blockW,if_true]
  (refine aTc ?_)
  refine W_ret ?_
  (refine qG ?_;try exact True.intro);try (refine sTcV ?_;try exact True.intro)
def newR (n:Int):AV:=if n<0 then .tup [cU 0 [],.int .i64 1] else if 65536<n then .tup [cU 0 [],.int .i64 2] else .tup [cU n [],.int .i64 0]
theorem tnew_ok (n:Int):Pure Tryz.prog 46 [.int .i64 n] (·=newR n):=by
 unfold newR cU
 have hz:tab rowU []=[]:=rfl
 rw [hz]
 by_cases h1:n<0
 ·rw [if_pos h1]
  (refine pureW Tryz.func46 rfl (rs:=[Go.ResultVar.cell 2 62,Go.ResultVar.tmp 3]) rfl (n:=14) rfl ?_;simp only [List.length_cons,List.length_nil,List.replicate,List.cons_append,List.nil_append])
  (refine aTc ?_)
  refine W_seq ?_
  refine W_block ?_
  ((refine W_seqV ?_);intro K hK;(refine sTcX h1 ?_))
  (refine hK _ ?_;clear hK K)
  (refine W_ct rfl ?_)
  (refine aTc ?_)
  refine W_ret ?_
  (refine qG ?_;try exact True.intro);try (refine sTcV ?_;try exact True.intro)
 ·rw [if_neg h1]
  by_cases h2:65536<n
  ·rw [if_pos h2]
   (refine pureW Tryz.func46 rfl (rs:=[Go.ResultVar.cell 2 62,Go.ResultVar.tmp 3]) rfl (n:=14) rfl ?_;simp only [List.length_cons,List.length_nil,List.replicate,List.cons_append,List.nil_append])
   (refine aTc ?_)
   refine W_seq ?_
   refine W_block ?_
   ((refine W_seqV ?_);intro K hK;(refine sTcX h1 ?_))
   (refine hK _ ?_;clear hK K)
   (refine W_cf rfl ?_)
   ((refine W_seqV ?_);intro K hK;(refine sTcX h2 ?_))
   (refine hK _ ?_;clear hK K)
   (refine W_ct rfl ?_)
   (refine aTc ?_)
   refine W_ret ?_
   (refine qG ?_;try exact True.intro);try (refine sTcV ?_;try exact True.intro)
  ·rw [if_neg h2]
   (refine pureW Tryz.func46 rfl (rs:=[Go.ResultVar.cell 2 62,Go.ResultVar.tmp 3]) rfl (n:=14) rfl ?_;simp only [List.length_cons,List.length_nil,List.replicate,List.cons_append,List.nil_append])
   (refine aTc ?_)
   refine W_seq ?_
   refine W_block ?_
   ((refine W_seqV ?_);intro K hK;(refine sTcX h1 ?_))
   (refine hK _ ?_;clear hK K)
   (refine W_cf rfl ?_)
   ((refine W_seqV ?_);intro K hK;(refine sTcX h2 ?_))
   (refine hK _ ?_;clear hK K)
   (refine W_cf rfl ?_)
   refine W_skip ?_
   simp only [thenW,blockW]
   (refine aTc ?_)
   refine W_ret ?_
   (refine qG ?_;try exact True.intro);try (refine sTcV ?_;try exact True.intro)
def laysSort_ren:Go.Shelf.Ren:=⟨fun|189=>247|125=>264|257=>263|128=>228|129=>280|294=>271|295=>272|296=>273|297=>274|298=>275|299=>276|216=>277|300=>278|301=>279|328=>282|329=>283|330=>284|331=>285|332=>286|215=>287|343=>288|n=>n,fun|28=>128|3=>3|46=>256|0=>0|51=>179|53=>241|4=>4|183=>321|182=>320|131=>159|5=>5|9=>9|218=>329|222=>333|228=>336|229=>337|n=>n,fun|n=>n⟩
theorem laysSort:Go.Proofs.Lays.n189 Tryz.prog laysSort_ren:={
 mixed:=by kernel_rfl
 f125:=Tryz.func264.trans (congrArg some (by kernel_rfl))
 f128:=Tryz.func228.trans (congrArg some (by kernel_rfl))
 f129:=Tryz.func280.trans (congrArg some (by kernel_rfl))
 f189:=Tryz.func247.trans (congrArg some (by kernel_rfl))
 f215:=Tryz.func287.trans (congrArg some (by kernel_rfl))
 f216:=Tryz.func277.trans (congrArg some (by kernel_rfl))
 f257:=Tryz.func263.trans (congrArg some (by kernel_rfl))
 f294:=Tryz.func271.trans (congrArg some (by kernel_rfl))
 f295:=Tryz.func272.trans (congrArg some (by kernel_rfl))
 f296:=Tryz.func273.trans (congrArg some (by kernel_rfl))
 f297:=Tryz.func274.trans (congrArg some (by kernel_rfl))
 f298:=Tryz.func275.trans (congrArg some (by kernel_rfl))
 f299:=Tryz.func276.trans (congrArg some (by kernel_rfl))
 f300:=Tryz.func278.trans (congrArg some (by kernel_rfl))
 f301:=Tryz.func279.trans (congrArg some (by kernel_rfl))
 f328:=Tryz.func282.trans (congrArg some (by kernel_rfl))
 f329:=Tryz.func283.trans (congrArg some (by kernel_rfl))
 f330:=Tryz.func284.trans (congrArg some (by kernel_rfl))
 f331:=Tryz.func285.trans (congrArg some (by kernel_rfl))
 f332:=Tryz.func286.trans (congrArg some (by kernel_rfl))
 f343:=Tryz.func288.trans (congrArg some (by kernel_rfl))
 t0:=Tryz.underlying0
 a0:=Tryz.isAgg0
 z0:=Tryz.sizeOf0
 v0:=Tryz.zeroValue0
 t3:=Tryz.underlying3
 a3:=Tryz.isAgg3
 z3:=Tryz.sizeOf3
 v3:=Tryz.zeroValue3
 t4:=Tryz.underlying4
 a4:=Tryz.isAgg4
 z4:=Tryz.sizeOf4
 v4:=Tryz.zeroValue4
 t5:=Tryz.underlying5
 a5:=Tryz.isAgg5
 z5:=Tryz.sizeOf5
 v5:=Tryz.zeroValue5
 t9:=Tryz.underlying9
 a9:=Tryz.isAgg9
 z9:=Tryz.sizeOf9
 v9:=Tryz.zeroValue9
 t28:=Tryz.underlying128
 a28:=Tryz.isAgg128
 z28:=Tryz.sizeOf128
 v28:=Tryz.zeroValue128
 t46:=Tryz.underlying256
 a46:=Tryz.isAgg256
 z46:=Tryz.sizeOf256
 v46:=Tryz.zeroValue256
 t51:=Tryz.underlying179
 a51:=Tryz.isAgg179
 z51:=Tryz.sizeOf179
 v51:=Tryz.zeroValue179
 t53:=Tryz.underlying241
 a53:=Tryz.isAgg241
 z53:=Tryz.sizeOf241
 v53:=Tryz.zeroValue241
 t131:=Tryz.underlying159
 a131:=Tryz.isAgg159
 z131:=Tryz.sizeOf159
 v131:=Tryz.zeroValue159
 t182:=Tryz.underlying320
 a182:=Tryz.isAgg320
 z182:=Tryz.sizeOf320
 v182:=Tryz.zeroValue320
 t183:=Tryz.underlying321
 a183:=Tryz.isAgg321
 z183:=Tryz.sizeOf321
 v183:=Tryz.zeroValue321
 t218:=Tryz.underlying329
 a218:=Tryz.isAgg329
 z218:=Tryz.sizeOf329
 v218:=Tryz.zeroValue329
 t222:=Tryz.underlying333
 a222:=Tryz.isAgg333
 z222:=Tryz.sizeOf333
 v222:=Tryz.zeroValue333
 t228:=Tryz.underlying336
 a228:=Tryz.isAgg336
 z228:=Tryz.sizeOf336
 v228:=Tryz.zeroValue336
 t229:=Tryz.underlying337
 a229:=Tryz.isAgg337
 z229:=Tryz.sizeOf337
 v229:=Tryz.zeroValue337 }
theorem sort_ints:SortInts Tryz.prog 247:=⟨fun blk off cap zs w h1 h2 h3=>Any.slices_Sort_int laysSort blk off cap zs w h1 h2 h3,fun p cap w=>Any.slices_Sort_int_none laysSort p cap w⟩
theorem call_sortI {pins:List Nat} {s:St} {i n:Nat} {T:TypeId} {l:List Int} {K:AV→St→Prop} (hi:s.hp[i]?=some (.arr T 1 true (i64s l))) (hn:n=l.length) (hl:l.length<1099511627776)
  (hk:K (.tup []) (s.seth i (.arr T 1 true (i64s (sortK l))))):CallOk Tryz.prog pins 247 [.sref i 0 n] s K:=by
 subst hn
 exact call_sort_of sort_ints hi (by omega) hk
theorem sTd {G G':Prop} (h:G') (e:G=G':=by conv=>lhs;simp (disch:=omega) only [rowsOf,cNat,cN,St.ret,St.seth,Eff.app,Eff.wi,sepL,guardOf,St.known,objOf,List.set,sliceW,litW,copyW,lenOf,bnd,mxOk,ofCells,TI.isAgg,cellsOf,storable,AV.one,dead,laid,overlay,reduceCtorEq,Int.reduceLE,Int.reduceLT,Int.reduceSub,Int.reduceAdd,Nat.reduceMul,Int.reduceToNat,Nat.reducePow,Int.reduceNeg,Nat.reduceAdd,Nat.reduceLT,Nat.reduceLeDiff,sA,sB,Nat.reduceEqDiff,cQ,rowQ,rowU,rowM,i64s_getD,i64s_length,i64s_all,i64s_take,i64s_drop,i64s_set,i64s_one,i64s_pure,i64s_append,tab_length,tab_drop,tab_take,tab_append,tab_nil,rowU_all,rowU_one,rowU_pure,rowQ_all,rowQ_one,rowQ_pure,List.take_length,List.length_append,findA_tab,sT]):G:=e.mpr h
theorem sTdX {G G' P:Prop} (p:P) (h:G') (e:P→G=G':=by intro p;conv=>lhs;simp (disch:=omega) only [rowsOf,cNat,cN,St.ret,St.seth,Eff.app,Eff.wi,sepL,guardOf,St.known,objOf,List.set,sliceW,litW,copyW,lenOf,bnd,mxOk,ofCells,TI.isAgg,cellsOf,storable,AV.one,dead,laid,overlay,reduceCtorEq,Int.reduceLE,Int.reduceLT,Int.reduceSub,Int.reduceAdd,Nat.reduceMul,Int.reduceToNat,Nat.reducePow,Int.reduceNeg,Nat.reduceAdd,Nat.reduceLT,Nat.reduceLeDiff,sA,sB,Nat.reduceEqDiff,cQ,rowQ,rowU,rowM,i64s_getD,i64s_length,i64s_all,i64s_take,i64s_drop,i64s_set,i64s_one,i64s_pure,i64s_append,tab_length,tab_drop,tab_take,tab_append,tab_nil,rowU_all,rowU_one,rowU_pure,rowQ_all,rowQ_one,rowQ_pure,List.take_length,List.length_append,findA_tab,sT,p]):G:=(e p).mpr h
theorem sTdV {G G':Prop} (h:G') (e:G=G':=by conv=>lhs;simp (disch:=omega) only [rowsOf,cNat,cN,St.ret,St.seth,Eff.app,Eff.wi,sepL,guardOf,St.known,objOf,List.set,sliceW,litW,copyW,lenOf,bnd,mxOk,ofCells,TI.isAgg,cellsOf,storable,AV.one,dead,laid,overlay,reduceCtorEq,Int.reduceLE,Int.reduceLT,Int.reduceSub,Int.reduceAdd,Nat.reduceMul,Int.reduceToNat,Nat.reducePow,Int.reduceNeg,Nat.reduceAdd,Nat.reduceLT,Nat.reduceLeDiff,sA,sB,Nat.reduceEqDiff,cQ,rowQ,rowU,rowM,i64s_getD,i64s_length,i64s_all,i64s_take,i64s_drop,i64s_set,i64s_one,i64s_pure,i64s_append,tab_length,tab_drop,tab_take,tab_append,tab_nil,rowU_all,rowU_one,rowU_pure,rowQ_all,rowQ_one,rowQ_pure,List.take_length,List.length_append,findA_tab,sT,view_sref,viewRef,view_agg,views_cons,views_nil,view_bool,view_int,view_sl,view_nils,view_str,view_tup,view_nilif]):G:=e.mpr h
theorem aTd {G G':Prop} (h:G') (f:Wr G'→G:=by intro h;(repeat (first|(refine W_seqV fun K hK=>?_;(try (refine sTd ?_;try exact True.intro));(repeat refine aI ?_);refine hK _ ?_;clear hK K)|(refine W_seqR fun K hK=>?_;(try (refine sTd ?_;try exact True.intro));(repeat refine aI ?_);refine hK _ ?_;clear hK K)|(refine W_seqD mixed [] (by kernel_rfl) fun K hK=>?_;(try (refine sTd ?_;try exact True.intro));(repeat refine aI ?_);refine hK _ ?_;clear hK K)));exact h.out):G:=f ⟨h⟩
theorem tbasics_ok (M:TM) (c:Nat) (bs:List Nat) (hb:bs.length=M.length) (hn:bs.Nodup) (hlt:∀ x∈bs,x<c) (hl:M.length<1099511627776) :
  Pure Tryz.prog 208 [.md c bs (tab rowU M)] (· = .sl (i64s (sortK (keys M)))):=by
 (refine pureW Tryz.func208 rfl (rs:=[Go.ResultVar.tmp 2]) rfl (n:=18) rfl ?_;simp only [List.length_cons,List.length_nil,List.replicate,List.cons_append,List.nil_append])
 (refine aTd ?_)
 refine W.le ?_ (Le_nil 3 3 3 1 true rfl rfl)
 simp only [List.set]
 ((refine W_seq (W_seqR ?_));intro K hK;(refine sTd ?_))
 (refine hK _ ?_;clear hK K)
 refine W_block (W_loop (fun t:{t:List Nat // Seen bs t} =>
   ⟨[.md c bs (tab rowU M),.any,.any,.sref 3 0 t.1.length,.any,.any,.it 6,.any,.any,.any,.any,.any,.any,.any,.any,.any,.any,.any],[.dead,.dead,.dead,.arr 3 1 true (i64s (t.1.map fun x=>(atB bs M x).1)),.dead,.dead,.iter (.md c bs (tab rowU M)) c t.1 c,.dead,.dead,.dead,.dead,.dead,.dead,.dead,.dead,.dead,.dead,.dead]⟩) (fun t=>bs.length-t.1.length)
   ⟨[],Seen.nil bs⟩ (Le_of (by simp [leE]) (by simp [i64s])) fun t=>?_)
 obtain ⟨sn,hsn⟩:=t
 dsimp only
 ((refine W_seqR ?_);intro K hK;(refine sTd ?_))
 refine ⟨Nat.le_refl _,hlt,fun hall=>hK _ ?_,fun j x hj hx=>hK _ ?_⟩ <;> clear hK K
 ·have hpm:(sn.map fun x=>(atB bs M x).1).Perm (keys M):=seen_keys hn hb hsn.nodup hsn.sub hall
  have hlen:sn.length=(sn.map fun x=>(atB bs M x).1).length:=by simp
  have hso:sortK (sn.map fun x=>(atB bs M x).1)=sortK (keys M):=sortK_of hpm
  have hsl:=sortK_len (sn.map fun x=>(atB bs M x).1)
  have hkl:(sn.map fun x=>(atB bs M x).1).length<1099511627776:=by rw [hpm.length_eq,keys_len];exact hl
  generalize (sn.map fun x=>(atB bs M x).1)=l at *
  rw [hlen]
  (refine W_seq (W_cf rfl ?_))
  refine W_exit ?_
  simp only [thenW,blockW,if_true]
  ((refine W_seqR ?_);intro K hK;(refine sTd ?_))
  refine ⟨by kernel_rfl,call_sortI rfl rfl hkl ?_⟩
  (refine sTd ?_;try exact True.intro)
  (refine hK _ ?_;clear hK K)
  rw [hso] at hsl ⊢
  rw [← hsl]
  (refine W.le ?_ (Le_freeze 3 (rows:=i64s (sortK (keys M))) rfl (by simp) (.inl rfl));simp only [St.freeze,List.map_cons,List.map_nil,List.set,if_true,if_false,Nat.reduceEqDiff,reduceCtorEq,List.drop_zero,u32s_take,u32s_drop,froz_any,froz_und,froz_int,froz_bool,froz_str,froz_nils,froz_sl,froz_ia,froz_nilp,froz_nilif,froz_nilfn,froz_nilmp,froz_gl,froz_sref,froz_ptr,froz_agg,froz_tup,froz_fn,froz_ifc,frozs_nil,frozs_cons,froz_dead,froz_arr,froz_mp,froz_it,froz_md,froz_map,froz_iter])
  (refine aTd ?_)
  refine W_ret ?_
  (refine qG ?_;try exact True.intro);try (refine sTdV ?_;try exact True.intro)
 ·have hjl:j<M.length:=by have:=births_lt hj;omega
  have hXj:(tab rowU M).getD j []=rowU (M.getD j default):=tab_getD hjl
  have hat:=atB_of hn hj (M:=M)
  have hs2:=hsn.snoc hj hx
  have hmu:=hsn.lt hj hx
  have hln:=seen_le hsn.nodup hsn.sub
  have hlo:(sn.map fun x=>(atB bs M x).1).length=sn.length:=by simp
  have hres:(sn++[x]).map (fun x=>(atB bs M x).1)=sn.map (fun x=>(atB bs M x).1)++[(M.getD j default).1]:=by simp [hat]
  generalize M.getD j default=p at *
  simp only [rowU] at hXj
  rw [hXj]
  generalize hlo':sn.map (fun x=>(atB bs M x).1)=lo at *
  (refine W_seq (W_ct rfl ?_))
  refine W_skip ?_
  simp only [thenW]
  refine W_block ?_
  ((refine W_seqR ?_);intro K hK;(refine sTd ?_))
  refine ⟨j,x,by simp,hj,?_⟩
  (refine sTdX hXj ?_;try exact True.intro)
  (refine hK _ ?_;clear hK K)
  (refine W_regR fun K hK=>?_;(refine sTd ?_;try exact True.intro))
  (repeat refine aI ?_)
  refine hK _ ?_
  clear hK K
  simp only [blockW,thenW]
  refine ⟨⟨sn++[x],hs2⟩,Le_drop (by simp [leE]) (by rw [hres];simp [leH,i64s,hlo,List.take_of_length_le]) rfl rfl,?_⟩
  exact hmu
end Go.Proofs.YtjmkfbhecgkbmaaGreat.Vm
/-
  Tableaus: the rows told; a form without basic variables.
-/
namespace Go.Proofs.YtjmkfbhecgkbmaaGreat.Vm
open Go Go.RowKit
theorem sTe {G G' : Prop} (h : G') (e : G = G' := by conv => lhs; simp (disch := omega) only [rowsOf, cNat, cN, St.ret, St.seth, Eff.app, Eff.wi, sepL, guardOf, St.known, objOf, List.set, sliceW, litW, copyW, lenOf, bnd, mxOk, ofCells, TI.isAgg, cellsOf, storable, AV.one, dead, laid, overlay, reduceCtorEq, Int.reduceLE, Int.reduceLT, Int.reduceSub, Int.reduceAdd, Nat.reduceMul, Int.reduceToNat, Nat.reducePow, Int.reduceNeg, Nat.reduceAdd, Nat.reduceLT, Nat.reduceLeDiff, sA, sB, Nat.reduceEqDiff, cQ, rowQ, rowU, rowM, i64s_getD, i64s_length, i64s_all, i64s_take, i64s_drop, i64s_set, i64s_one, i64s_pure, i64s_append, tab_length, tab_drop, tab_take, tab_append, tab_nil, rowU_all, rowU_one, rowU_pure, rowQ_all, rowQ_one, rowQ_pure, List.take_length, List.length_append, findA_tab, sT]) : G := e.mpr h
theorem sTeX {G G' P : Prop} (p : P) (h : G') (e : P → G = G' := by intro p; conv => lhs; simp (disch := omega) only [rowsOf, cNat, cN, St.ret, St.seth, Eff.app, Eff.wi, sepL, guardOf, St.known, objOf, List.set, sliceW, litW, copyW, lenOf, bnd, mxOk, ofCells, TI.isAgg, cellsOf, storable, AV.one, dead, laid, overlay, reduceCtorEq, Int.reduceLE, Int.reduceLT, Int.reduceSub, Int.reduceAdd, Nat.reduceMul, Int.reduceToNat, Nat.reducePow, Int.reduceNeg, Nat.reduceAdd, Nat.reduceLT, Nat.reduceLeDiff, sA, sB, Nat.reduceEqDiff, cQ, rowQ, rowU, rowM, i64s_getD, i64s_length, i64s_all, i64s_take, i64s_drop, i64s_set, i64s_one, i64s_pure, i64s_append, tab_length, tab_drop, tab_take, tab_append, tab_nil, rowU_all, rowU_one, rowU_pure, rowQ_all, rowQ_one, rowQ_pure, List.take_length, List.length_append, findA_tab, sT, p]) : G := (e p).mpr h
theorem sTeV {G G' : Prop} (h : G') (e : G = G' := by conv => lhs; simp (disch := omega) only [rowsOf, cNat, cN, St.ret, St.seth, Eff.app, Eff.wi, sepL, guardOf, St.known, objOf, List.set, sliceW, litW, copyW, lenOf, bnd, mxOk, ofCells, TI.isAgg, cellsOf, storable, AV.one, dead, laid, overlay, reduceCtorEq, Int.reduceLE, Int.reduceLT, Int.reduceSub, Int.reduceAdd, Nat.reduceMul, Int.reduceToNat, Nat.reducePow, Int.reduceNeg, Nat.reduceAdd, Nat.reduceLT, Nat.reduceLeDiff, sA, sB, Nat.reduceEqDiff, cQ, rowQ, rowU, rowM, i64s_getD, i64s_length, i64s_all, i64s_take, i64s_drop, i64s_set, i64s_one, i64s_pure, i64s_append, tab_length, tab_drop, tab_take, tab_append, tab_nil, rowU_all, rowU_one, rowU_pure, rowQ_all, rowQ_one, rowQ_pure, List.take_length, List.length_append, findA_tab, sT, view_sref, viewRef, view_agg, views_cons, views_nil, view_bool, view_int, view_sl, view_nils, view_str, view_tup, view_nilif]) : G := e.mpr h
theorem aTe {G G' : Prop} (h : G') (f : Wr G' → G := by intro h; (repeat (first | (refine W_seqV fun K hK => ?_; (try (refine sTe ?_; try exact True.intro)); (repeat refine aI ?_); refine hK _ ?_; clear hK K) | (refine W_seqR fun K hK => ?_; (try (refine sTe ?_; try exact True.intro)); (repeat refine aI ?_); refine hK _ ?_; clear hK K) | (refine W_seqD mixed [] (by kernel_rfl) fun K hK => ?_; (try (refine sTe ?_; try exact True.intro)); (repeat refine aI ?_); refine hK _ ?_; clear hK K))); exact h.out) : G := f ⟨h⟩

theorem look_idx {M : TM} {b : Int} (h : b ∈ keys M) : ∃ j, idxM M b = some j ∧ j < M.length ∧ (M.getD j default).1 = b ∧ lookM M b = some (M.getD j default).2 ∧ M.getD j default ∈ M := by
  cases hi : idxM M b with
  | none => exact absurd h (idx_none hi).1
  | some j =>
    obtain ⟨h1, h2, h3, _⟩ := idx_some hi
    exact ⟨j, rfl, h1, h2, h3, getD_mem h1⟩
theorem sortM_getD {M : TM} {i : Nat} (h : i < (sortK (keys M)).length) : (sortM M).getD i default = ((sortK (keys M)).getD i 0, (lookM M ((sortK (keys M)).getD i 0)).getD []) := by
  unfold sortM
  simp [List.getD_eq_getElem?_getD, h]
/-- Rows whose forms are normal and small. -/
structure MOk (M : TM) (B : Nat) : Prop where
  nf : ∀ r ∈ M, NF r.2
  sz : ∀ r ∈ M, Sz r.2 B
  len : M.length < 1099511627776
theorem ttold_ok (M : TM) (n : Int) (c : Nat) (bs : List Nat) {B : Nat} (hM : MOk M B) (hB : B < 17179869184) (hb : bs.length = M.length) (hn : bs.Nodup) (hlt : ∀ x ∈ bs, x < c) :
    Pure Tryz.prog 158 [.md c bs (tab rowU M), .int .i64 n] (· = cU n (sortM M)) := by
  have a1 := tbasics_ok M c bs hb hn hlt hM.len
  have hsl : (sortM M).length = (sortK (keys M)).length := by rw [sortM_len, sortK_len, keys_len]
  have hsm : (sortM M).length < 1099511627776 := by rw [sortM_len]; exact hM.len
  have hrow : ∀ i, i < (sortK (keys M)).length → ∃ j g, idxM M ((sortK (keys M)).getD i 0) = some j ∧ (tab rowU M).getD j [] = [.int .i64 ((sortK (keys M)).getD i 0), .sl (tab rowQ g)] ∧
      (sortM M).take (i + 1) = (sortM M).take i ++ [((sortK (keys M)).getD i 0, g)] ∧ Pure Tryz.prog 78 [cL g] (· = cL g) := by
    intro i hi
    have hm : (sortK (keys M)).getD i 0 ∈ keys M := mem_sortK.1 (by simp [List.getD_eq_getElem?_getD, hi])
    obtain ⟨j, h1, h2, h3, h4, h5⟩ := look_idx hm
    refine ⟨j, (M.getD j default).2, h1, ?_, ?_, ?_⟩
    · rw [rowU_getD h2, ← h3]
      rfl
    · rw [take_snoc (by omega), sortM_getD hi, h4]
      rfl
    · have := lnorm_ok (rf (M.getD j default).2) (FOk.rf (hM.sz _ h5) hB) hB
      rw [vals_rf, norm_self (hM.nf _ h5), cF_rf] at this
      exact this
  have hall : (sortM M).take (sortK (keys M)).length = sortM M := by rw [← hsl, List.take_length]
  have h0 : (sortM M).take 0 = [] := rfl
  have hln : ∀ i, i ≤ (sortK (keys M)).length → ((sortM M).take i).length = i := fun i hi => by rw [List.length_take]; omega
  unfold cU
  generalize sortK (keys M) = l at *
  generalize sortM M = N at *
  generalize hE : (fun i => N.take i) = E at *
  have hE' : ∀ i, N.take i = E i := fun i => congrFun hE i
  simp only [hE'] at *
  clear hE hE'
  (refine pureW Tryz.func158 rfl (rs := [Go.ResultVar.cell 4 62]) rfl (n := 30) rfl ?_; simp only [List.length_cons, List.length_nil, List.replicate, List.cons_append, List.nil_append])
  (refine aTe ?_)
  ((refine W_seq (W_seqV ?_)); intro K hK; (refine sTe ?_))
  (refine ⟨by kernel_rfl, _, .pure rfl (a1), ?_⟩; (try (refine sTe ?_)))
  (refine hK _ ?_; clear hK K)
  refine W.le ?_ (Le_nilO 5 0 1 26 99 2 true rfl rfl rfl rfl)
  simp only [List.set]
  refine W_block (W_loop (fun t : {t : Nat // t ≤ l.length} =>
      ⟨[.md c bs (tab rowU M), .int .i64 n, .any, .any, .ptr 4 0 0, .ptr 5 0 0, .any, .any, .any, .any, .any, .sl (i64s l), .int .i64 l.length, .int .i64 t.1, .any, .any, .any, .any, .any, .any, .any, .any, .any, .any, .any, .any, .any, .any, .any, .any],
       [.dead, .dead, .dead, .dead, .arr 62 2 false [[.int .i64 0, .nils]], .arr 62 2 false [[.int .i64 n, .sref 26 0 t.1]], .dead, .dead, .dead, .dead, .dead, .dead, .dead, .dead, .dead, .dead, .dead, .dead, .dead, .dead, .dead, .dead, .dead, .dead, .dead, .dead, .arr 99 2 true (tab rowU (E t.1)), .dead, .dead, .dead]⟩) (fun t => l.length - t.1)
      ⟨0, by omega⟩ (Le_of (by simp [leE]) (by simp [h0, tab])) fun t => ?_)
  obtain ⟨i, hi⟩ := t
  dsimp only
  by_cases hil : i < l.length
  · obtain ⟨j, g, hid, hXj, hst, hno⟩ := hrow i hil
    have hle := hln i (by omega)
    generalize hv : l.getD i 0 = v at *
    generalize E i = o at *
    simp only [cL] at hno
    refine W_seq ?_
    ((refine W_regV ?_); intro K hK; (refine sTeX hil ?_))
    (refine hK _ ?_; clear hK K)
    (refine W_seq (W_cond rfl (fun _ => ?_) (fun h => by cases h)))
    refine W_skip ?_
    simp only [thenW]
    refine W_seq ?_
    refine W_block ?_
    ((refine W_seqV ?_); intro K hK; (refine sTeX (And.intro hv hil) ?_))
    (refine hK _ ?_; clear hK K)
    ((refine W_regS mixed 9 [] (by kernel_rfl) ?_); intro K hK; (refine sTeX (And.intro hid hXj) ?_))
    (refine ⟨by kernel_rfl, _, .pure rfl (hno), ?_⟩; (try (refine sTe ?_)); (repeat refine aI ?_))
    (refine hK _ ?_; clear hK K)
    simp only [blockW, thenW]
    ((refine W_regV ?_); intro K hK; (refine sTe ?_))
    (refine hK _ ?_; clear hK K)
    simp only [blockW, thenW]
    refine ⟨⟨i + 1, by omega⟩, Le_drop (by simp [leE]) (by simp [leH, hst, ← tab_snoc, rowU, tab_take, List.take_of_length_le, hle]) rfl rfl, ?_⟩
    dsimp only
    omega
  · obtain rfl : i = l.length := by omega
    rw [hall]
    refine W_seq ?_
    ((refine W_regV ?_); intro K hK; (refine sTe ?_))
    (refine hK _ ?_; clear hK K)
    (refine W_seq (W_cond rfl (fun h => by cases h) (fun _ => ?_)))
    refine W_exit ?_
    simp only [thenW, blockW, if_true]
    (refine aTe ?_)
    refine W_ret ?_
    (refine qG ?_; try exact True.intro); try (refine sTeV ?_; try exact True.intro)
    rw [List.take_of_length_le (by omega)]
end Go.Proofs.YtjmkfbhecgkbmaaGreat.Vm

/-
  Tableaus: a tableau's rows as a map.
-/
namespace Go.Proofs.YtjmkfbhecgkbmaaGreat.Vm
open Go Go.RowKit
theorem sTf {G G' : Prop} (h : G') (e : G = G' := by conv => lhs; simp (disch := omega) only [rowsOf, cNat, cN, St.ret, St.seth, Eff.app, Eff.wi, sepL, guardOf, St.known, objOf, List.set, sliceW, litW, copyW, lenOf, bnd, mxOk, ofCells, TI.isAgg, cellsOf, storable, AV.one, dead, laid, overlay, reduceCtorEq, Int.reduceLE, Int.reduceLT, Int.reduceSub, Int.reduceAdd, Nat.reduceMul, Int.reduceToNat, Nat.reducePow, Int.reduceNeg, Nat.reduceAdd, Nat.reduceLT, Nat.reduceLeDiff, sA, sB, Nat.reduceEqDiff, cQ, rowQ, rowU, rowT, rowM, i64s_getD, i64s_length, tab_length, tab_drop, tab_take, tab_append, tab_nil, rowT_all, rowT_one, rowT_pure, rowU_all, rowU_one, rowU_pure, rowQ_all, rowQ_one, rowQ_pure, List.take_length, List.length_append, findA_tab, range_snoc, pure_sl, sT]) : G := e.mpr h
theorem sTfX {G G' P : Prop} (p : P) (h : G') (e : P → G = G' := by intro p; conv => lhs; simp (disch := omega) only [rowsOf, cNat, cN, St.ret, St.seth, Eff.app, Eff.wi, sepL, guardOf, St.known, objOf, List.set, sliceW, litW, copyW, lenOf, bnd, mxOk, ofCells, TI.isAgg, cellsOf, storable, AV.one, dead, laid, overlay, reduceCtorEq, Int.reduceLE, Int.reduceLT, Int.reduceSub, Int.reduceAdd, Nat.reduceMul, Int.reduceToNat, Nat.reducePow, Int.reduceNeg, Nat.reduceAdd, Nat.reduceLT, Nat.reduceLeDiff, sA, sB, Nat.reduceEqDiff, cQ, rowQ, rowU, rowT, rowM, i64s_getD, i64s_length, tab_length, tab_drop, tab_take, tab_append, tab_nil, rowT_all, rowT_one, rowT_pure, rowU_all, rowU_one, rowU_pure, rowQ_all, rowQ_one, rowQ_pure, List.take_length, List.length_append, findA_tab, range_snoc, pure_sl, sT, p]) : G := (e p).mpr h
theorem aTf {G G' : Prop} (h : G') (f : Wr G' → G := by intro h; (repeat (first | (refine W_seqV fun K hK => ?_; (try (refine sTf ?_; try exact True.intro)); (repeat refine aI ?_); refine hK _ ?_; clear hK K) | (refine W_seqR fun K hK => ?_; (try (refine sTf ?_; try exact True.intro)); (repeat refine aI ?_); refine hK _ ?_; clear hK K) | (refine W_seqD mixed [] (by kernel_rfl) fun K hK => ?_; (try (refine sTf ?_; try exact True.intro)); (repeat refine aI ?_); refine hK _ ?_; clear hK K))); exact h.out) : G := f ⟨h⟩

/-- What is known of the rows' variables, row by row. -/
structure KOk (n : Int) (l : List Int) : Prop where
  nodup : l.Nodup
  range : ∀ b ∈ l, 0 ≤ b ∧ b < n
theorem KOk.nil (n : Int) : KOk n [] := ⟨List.nodup_nil, by simp⟩
theorem KOk.snoc {n : Int} {l : List Int} (h : KOk n l) {b : Int} (h1 : b ∉ l) (h2 : 0 ≤ b ∧ b < n) : KOk n (l ++ [b]) := by
  refine ⟨?_, fun c hc => ?_⟩
  · rw [List.nodup_append]
    refine ⟨h.nodup, by simp, ?_⟩
    rintro a ha b' hb rfl
    simp at hb
    subst hb
    exact h1 ha
  · rcases List.mem_append.1 hc with hc | hc
    · exact h.range c hc
    · simp at hc; subst hc; exact h2
theorem GT.pre {n : Int} {M : TM} (h : GT n M) {i : Nat} (hi : i < M.length) : (M.getD i default).1 ∉ keys (M.take i) ∧ 0 ≤ (M.getD i default).1 ∧ (M.getD i default).1 < n := by
  have h1 := h.range (M.getD i default).1 (List.mem_map.2 ⟨_, getD_mem hi, rfl⟩)
  refine ⟨fun hm => ?_, h1⟩
  have h2 := h.nodup
  have h3 : keys M = keys (M.take i) ++ keys (M.drop i) := by rw [← keys_append, List.take_append_drop]
  rw [h3, List.nodup_append] at h2
  refine h2.2.2 _ hm (M.getD i default).1 ?_ rfl
  have : M.drop i = M.getD i default :: M.drop (i + 1) := by
    rw [List.drop_eq_getElem_cons hi]
    simp [List.getD_eq_getElem?_getD, hi]
  rw [this]
  simp [keys]
def loadR (n : Int) (t : TR) : MapR := if goodB n (nrmT t) then some (t.length, List.range t.length, tab rowU (nrmT t)) else none
theorem tload_new (n : Int) (t : TR) {B : Nat} (hf : ∀ r ∈ t, FOk r.2 B) (hB : B < 17179869184) (hl : t.length < 1099511627776) :
    NewMB Tryz.prog 155 [cT n t] (· = loadR n t) := by
  have hml := nrmT_len t
  have hgT : GT n (nrmT t) → goodB n (nrmT t) = true := gt_iff.2
  have hgF : ¬ GT n (nrmT t) → goodB n (nrmT t) = false := fun h => by
    rw [Bool.eq_false_iff]
    exact fun h' => h (gt_iff.1 h')
  have hnd := fun i (hi : i < t.length) => nrmT_getD hi
  have hno := fun i (hi : i < t.length) => lnorm_ok (t.getD i default).2 (hf _ (getD_mem hi)) hB
  have hst : ∀ i, i < t.length → (nrmT t).take (i + 1) = (nrmT t).take i ++ [((t.getD i default).1, normF (vals (t.getD i default).2))] := fun i hi => by
    rw [take_snoc (by omega), hnd i hi]
  have hfl : ∀ r ∈ nrmT t, r.2.length < 1099511627776 := fun r hr => by
    obtain ⟨q, hq, rfl⟩ := List.mem_map.1 hr
    have := (hf q hq).sz.norm.l
    simp only
    omega
  have hall : (nrmT t).take t.length = nrmT t := by rw [← hml, List.take_length]
  unfold loadR cT
  generalize nrmT t = M at *
  generalize goodB n M = gb at *
  by_cases h1 : n < 0
  · rw [hgF fun h => by have := h.lo; omega]
    (refine newMB_of_W Tryz.func155 rfl (rs := [Go.ResultVar.tmp 2, Go.ResultVar.tmp 3]) rfl (nt := 92) rfl ?_; simp only [List.length_cons, List.length_nil, List.replicate, List.cons_append, List.nil_append])
    (refine aTf ?_)
    ((refine W_seq (W_seqV ?_)); intro K hK; (refine sTfX h1 ?_))
    (refine hK _ ?_; clear hK K)
    (refine W_cond rfl (fun _ => ?_) (fun h => by cases h))
    (refine aTf ?_)
    refine W_ret ?_
    (simp only [thenW, blockW, newMQ, resW, resV, asOne_two, newMK, List.getD_cons_zero, List.getD_cons_succ]); simp
  by_cases h2 : 65536 < n
  · rw [hgF fun h => by have := h.hi; omega]
    (refine newMB_of_W Tryz.func155 rfl (rs := [Go.ResultVar.tmp 2, Go.ResultVar.tmp 3]) rfl (nt := 92) rfl ?_; simp only [List.length_cons, List.length_nil, List.replicate, List.cons_append, List.nil_append])
    (refine aTf ?_)
    ((refine W_seq (W_seqV ?_)); intro K hK; (refine sTfX (And.intro h1 h2) ?_))
    (refine hK _ ?_; clear hK K)
    (refine W_cond rfl (fun _ => ?_) (fun h => by cases h))
    (refine aTf ?_)
    refine W_ret ?_
    (simp only [thenW, blockW, newMQ, resW, resV, asOne_two, newMK, List.getD_cons_zero, List.getD_cons_succ]); simp
  (refine newMB_of_W Tryz.func155 rfl (rs := [Go.ResultVar.tmp 2, Go.ResultVar.tmp 3]) rfl (nt := 92) rfl ?_; simp only [List.length_cons, List.length_nil, List.replicate, List.cons_append, List.nil_append])
  (refine aTf ?_)
  ((refine W_seq (W_seqV ?_)); intro K hK; (refine sTfX (And.intro h1 h2) ?_))
  (refine hK _ ?_; clear hK K)
  (refine W_cond rfl (fun h => by cases h) (fun _ => ?_))
  refine W_skip ?_
  simp only [thenW]
  ((refine W_seqR ?_); intro K hK; (refine sTf ?_))
  (refine hK _ ?_; clear hK K)
  ((refine W_seq (W_seqV ?_)); intro K hK; (refine sTf ?_))
  (refine hK _ ?_; clear hK K)
  refine W_block (W_loop (fun s : {i : Nat // i ≤ t.length ∧ KOk n (keys (M.take i))} =>
      ⟨(.any :: (.ptr 1 0 0) :: .nilmp :: (.bool false) :: (.mp 23) :: .any :: .any :: .any :: .any :: .any :: .any :: .any :: .any :: .any :: .any :: .any :: .any :: .any :: .any :: .any :: .any :: .any :: .any :: .any :: .any :: (.sl (tab rowT t)) :: (.int .i64 t.length) :: (.int .i64 s.1) :: .any :: .any :: .any :: .any :: .any :: .any :: .any :: .any :: .any :: .any :: .any :: .any :: .any :: .any :: .any :: .any :: .any :: .any :: .any :: .any :: .any :: .any :: .any :: .any :: .any :: .any :: .any :: .any :: .any :: .any :: .any :: .any :: .any :: .any :: .any :: .any :: .any :: .any :: .any :: .any :: .any :: .any :: .any :: .any :: .any :: .any :: .any :: .any :: .any :: .any :: .any :: .any :: .any :: .any :: .any :: .any :: .any :: .any :: .any :: .any :: .any :: .any :: .any :: .any :: []),
       (.dead :: (.arr 62 2 false [[.int .i64 n, .sl (tab rowT t)]]) :: .dead :: .dead :: .dead :: .dead :: .dead :: .dead :: .dead :: .dead :: .dead :: .dead :: .dead :: .dead :: .dead :: .dead :: .dead :: .dead :: .dead :: .dead :: .dead :: .dead :: .dead :: (.map s.1 (List.range s.1) (tab rowU (M.take s.1))) :: .dead :: .dead :: .dead :: .dead :: .dead :: .dead :: .dead :: .dead :: .dead :: .dead :: .dead :: .dead :: .dead :: .dead :: .dead :: .dead :: .dead :: .dead :: .dead :: .dead :: .dead :: .dead :: .dead :: .dead :: .dead :: .dead :: .dead :: .dead :: .dead :: .dead :: .dead :: .dead :: .dead :: .dead :: .dead :: .dead :: .dead :: .dead :: .dead :: .dead :: .dead :: .dead :: .dead :: .dead :: .dead :: .dead :: .dead :: .dead :: .dead :: .dead :: .dead :: .dead :: .dead :: .dead :: .dead :: .dead :: .dead :: .dead :: .dead :: .dead :: .dead :: .dead :: .dead :: .dead :: .dead :: .dead :: .dead :: .dead :: [])⟩) (fun s => t.length - s.1)
      ⟨0, by omega, KOk.nil n⟩ (Le_drop (by simp [leE]) (by simp [leH, tab]) rfl rfl) fun s => ?_)
  obtain ⟨i, hi, hk⟩ := s
  dsimp only
  by_cases hil : i < t.length
  · have hti : (tab rowT t).getD i [] = rowT (t.getD i default) := tab_getD hil
    have hni := hno i hil
    have hsi := hst i hil
    have hMi := hnd i hil
    have hpre := fun h : GT n M => h.pre (show i < M.length by omega)
    rw [hMi] at hpre
    generalize t.getD i default = r at *
    obtain ⟨b, f⟩ := r
    simp only [rowT] at hti
    dsimp only at *
    have htl : (M.take i).length = i := by rw [List.length_take]; omega
    generalize M.take i = P at *
    refine W_seq ?_
    ((refine W_regV ?_); intro K hK; (refine sTfX hil ?_))
    (refine hK _ ?_; clear hK K)
    (refine W_seq (W_cond rfl (fun _ => ?_) (fun h => by cases h)))
    refine W_skip ?_
    simp only [thenW]
    refine W_seq ?_
    refine W_block ?_
    ((refine W_seqV ?_); intro K hK; (refine sTfX (And.intro hti hil) ?_))
    (refine hK _ ?_; clear hK K)
    refine W_seq ?_
    refine W_seq ?_
    cases hid : idxM P b with
    | some j =>
      obtain ⟨hj1, hj2, _, hj3⟩ := idx_some hid
      have hXj : (tab rowU P).getD j [] = rowU (P.getD j default) := rowU_getD hj1
      rw [hgF fun h => (hpre h).1 hj3]
      generalize P.getD j default = q at *
      simp only [rowU] at hXj
      ((refine W_regV ?_); intro K hK; (refine sTfX (And.intro hid hXj) ?_))
      (refine hK _ ?_; clear hK K)
      ((refine W_seqV ?_); intro K hK; (refine sTf ?_))
      (refine hK _ ?_; clear hK K)
      (refine W_cond rfl (fun _ => ?_) (fun h => by cases h))
      (refine aTf ?_)
      refine W_ret ?_
      (simp only [thenW, blockW, newMQ, resW, resV, asOne_two, newMK, List.getD_cons_zero, List.getD_cons_succ]); simp
    | none =>
      have hni2 := (idx_none hid).1
      ((refine W_regV ?_); intro K hK; (refine sTfX hid ?_))
      (refine hK _ ?_; clear hK K)
      by_cases h3 : b < 0
      · rw [hgF fun h => by have := (hpre h).2.1; omega]
        ((refine W_seqV ?_); intro K hK; (refine sTfX h3 ?_))
        (refine hK _ ?_; clear hK K)
        (refine W_cond rfl (fun _ => ?_) (fun h => by cases h))
        (refine aTf ?_)
        refine W_ret ?_
        (simp only [thenW, blockW, newMQ, resW, resV, asOne_two, newMK, List.getD_cons_zero, List.getD_cons_succ]); simp
      · by_cases h4 : n ≤ b
        · rw [hgF fun h => by have := (hpre h).2.2; omega]
          ((refine W_seqV ?_); intro K hK; (refine sTfX (And.intro h3 h4) ?_))
          (refine hK _ ?_; clear hK K)
          (refine W_cond rfl (fun _ => ?_) (fun h => by cases h))
          (refine aTf ?_)
          refine W_ret ?_
          (simp only [thenW, blockW, newMQ, resW, resV, asOne_two, newMK, List.getD_cons_zero, List.getD_cons_succ]); simp
        · have hk' : KOk n (keys (P ++ [(b, normF (vals f))])) := by
            rw [keys_append]
            exact hk.snoc hni2 ⟨by show 0 ≤ b; omega, by show b < n; omega⟩
          simp only [cF, cL] at hni
          ((refine W_seqV ?_); intro K hK; (refine sTfX (And.intro h3 h4) ?_))
          (refine hK _ ?_; clear hK K)
          (refine W_cond rfl (fun h => by cases h) (fun _ => ?_))
          refine W_skip ?_
          simp only [thenW]
          ((refine W_regS mixed 6 [] (by kernel_rfl) ?_); intro K hK; (refine sTfX hid ?_))
          (refine ⟨by kernel_rfl, _, .pure rfl (hni), ?_⟩; (try (refine sTf ?_)))
          (refine hK _ ?_; clear hK K)
          simp only [blockW, thenW]
          ((refine W_regV ?_); intro K hK; (refine sTf ?_))
          (refine hK _ ?_; clear hK K)
          simp only [blockW, thenW]
          refine ⟨⟨i + 1, by omega, by rw [hsi]; exact hk'⟩, Le_drop (by simp [leE]) (by simp [leH, hsi, ← tab_snoc, rowU, range_snoc]) rfl rfl, ?_⟩
          dsimp only
          omega
  · obtain rfl : i = t.length := by omega
    rw [hall] at hk ⊢
    refine W_seq ?_
    ((refine W_regV ?_); intro K hK; (refine sTf ?_))
    (refine hK _ ?_; clear hK K)
    (refine W_seq (W_cond rfl (fun h => by cases h) (fun _ => ?_)))
    refine W_exit ?_
    simp only [thenW, blockW, if_true]
    ((refine W_seq (W_seqR ?_)); intro K hK; (refine sTf ?_))
    (refine hK _ ?_; clear hK K)
    have hrl : (List.range t.length).length = t.length := List.length_range
    refine W_block (W_loop (fun s : {sn : List Nat // Seen (List.range t.length) sn ∧ ∀ x ∈ sn, ∀ p ∈ (M.getD x default).2, (0 ≤ p.1 ∧ p.1 < n) ∧ p.1 ∉ keys M} =>
      ⟨(.any :: (.ptr 1 0 0) :: .nilmp :: (.bool false) :: (.mp 23) :: .any :: .any :: .any :: .any :: .any :: .any :: .any :: .any :: .any :: .any :: .any :: .any :: .any :: .any :: .any :: .any :: .any :: .any :: .any :: .any :: .any :: .any :: .any :: .any :: .any :: .any :: .any :: .any :: .any :: .any :: .any :: .any :: .any :: .any :: .any :: .any :: .any :: .any :: .any :: .any :: .any :: .any :: .any :: .any :: .any :: .any :: .any :: .any :: .any :: .any :: .any :: .any :: .any :: .any :: (.it 59) :: .any :: .any :: .any :: .any :: .any :: .any :: .any :: .any :: .any :: .any :: .any :: .any :: .any :: .any :: .any :: .any :: .any :: .any :: .any :: .any :: .any :: .any :: .any :: .any :: .any :: .any :: .any :: .any :: .any :: .any :: .any :: .any :: []),
       (.dead :: (.arr 62 2 false [[.int .i64 n, .sl (tab rowT t)]]) :: .dead :: .dead :: .dead :: .dead :: .dead :: .dead :: .dead :: .dead :: .dead :: .dead :: .dead :: .dead :: .dead :: .dead :: .dead :: .dead :: .dead :: .dead :: .dead :: .dead :: .dead :: (.map t.length (List.range t.length) (tab rowU M)) :: .dead :: .dead :: .dead :: .dead :: .dead :: .dead :: .dead :: .dead :: .dead :: .dead :: .dead :: .dead :: .dead :: .dead :: .dead :: .dead :: .dead :: .dead :: .dead :: .dead :: .dead :: .dead :: .dead :: .dead :: .dead :: .dead :: .dead :: .dead :: .dead :: .dead :: .dead :: .dead :: .dead :: .dead :: .dead :: (.iter (.mp 23) t.length s.1 t.length) :: .dead :: .dead :: .dead :: .dead :: .dead :: .dead :: .dead :: .dead :: .dead :: .dead :: .dead :: .dead :: .dead :: .dead :: .dead :: .dead :: .dead :: .dead :: .dead :: .dead :: .dead :: .dead :: .dead :: .dead :: .dead :: .dead :: .dead :: .dead :: .dead :: .dead :: .dead :: .dead :: [])⟩) (fun s => (List.range t.length).length - s.1.length)
      ⟨[], Seen.nil _, by simp⟩ (Le_drop (by simp [leE]) (by simp [leH]) rfl rfl) fun s => ?_)
    obtain ⟨sn, hsn, hgd⟩ := s
    dsimp only
    ((refine W_seqR ?_); intro K hK; (refine sTf ?_))
    refine ⟨Nat.le_refl _, fun x hx => List.mem_range.1 hx, fun hall => hK _ ?_, fun j x hj hx => hK _ ?_⟩ <;> clear hK K
    · have hG : GT n M := ⟨by omega, by omega, hk.nodup, hk.range, fun r hr p hp => by
        obtain ⟨x, hx, rfl⟩ := mem_getD hr
        exact hgd x (hall x (List.mem_range.2 (by omega))) p hp⟩
      rw [hgT hG]
      (refine W_seq (W_cond rfl (fun h => by cases h) (fun _ => ?_)))
      refine W_exit ?_
      simp only [thenW, blockW, if_true]
      (refine aTf ?_)
      refine W_ret ?_
      (simp only [thenW, blockW, newMQ, resW, resV, asOne_two, newMK, List.getD_cons_zero, List.getD_cons_succ])
      exact ⟨_, _, _, rfl, rfl⟩
    · obtain ⟨hjl, rfl⟩ := range_get hj
      have hXj : (tab rowU M).getD x [] = rowU (M.getD x default) := tab_getD (by omega)
      have hs2 := hsn.snoc hj hx
      have hmu := hsn.lt hj hx
      have hqm : M.getD x default ∈ M := getD_mem (by omega)
      have hql := hfl _ hqm
      have hqg : ∀ p ∈ (M.getD x default).2, ¬ ((0 ≤ p.1 ∧ p.1 < n) ∧ p.1 ∉ keys M) → ¬ GT n M := fun p hp h h' => h (h'.free _ hqm p hp)
      have hg2 : (∀ p ∈ (M.getD x default).2, (0 ≤ p.1 ∧ p.1 < n) ∧ p.1 ∉ keys M) → ∀ y ∈ sn ++ [x], ∀ p ∈ (M.getD y default).2, (0 ≤ p.1 ∧ p.1 < n) ∧ p.1 ∉ keys M := fun h y hy => by
        rcases List.mem_append.1 hy with hy | hy
        · exact hgd y hy
        · simp at hy; subst hy; exact h
      generalize M.getD x default = q at *
      obtain ⟨b, f⟩ := q
      simp only [rowU] at hXj
      dsimp only at *
      rw [hXj]
      (refine W_seq (W_cond rfl (fun _ => ?_) (fun h => by cases h)))
      refine W_skip ?_
      simp only [thenW]
      refine W_block ?_
      ((refine W_seqR ?_); intro K hK; (refine sTf ?_))
      refine ⟨x, x, by simp, hj, ?_⟩
      (refine sTfX hXj ?_; try exact True.intro)
      (refine hK _ ?_; clear hK K)
      ((refine W_seqV ?_); intro K hK; (refine sTf ?_))
      (refine hK _ ?_; clear hK K)
      refine W_block (W_loop (fun s : {k : Nat // k ≤ f.length ∧ ∀ i, i < k → (0 ≤ (f.getD i default).1 ∧ (f.getD i default).1 < n) ∧ (f.getD i default).1 ∉ keys M} =>
        ⟨(.any :: (.ptr 1 0 0) :: .nilmp :: (.bool false) :: (.mp 23) :: .any :: .any :: .any :: .any :: .any :: .any :: .any :: .any :: .any :: .any :: .any :: .any :: .any :: .any :: .any :: .any :: .any :: .any :: .any :: .any :: .any :: .any :: .any :: .any :: .any :: .any :: .any :: .any :: .any :: .any :: .any :: .any :: .any :: .any :: .any :: .any :: .any :: .any :: .any :: .any :: .any :: .any :: .any :: .any :: .any :: .any :: .any :: .any :: .any :: .any :: .any :: .any :: .any :: .any :: (.it 59) :: .any :: .any :: .any :: .any :: (.sl (tab rowQ f)) :: (.int .i64 f.length) :: (.int .i64 s.1) :: .any :: .any :: .any :: .any :: .any :: .any :: .any :: .any :: .any :: .any :: .any :: .any :: .any :: .any :: .any :: .any :: .any :: .any :: .any :: .any :: .any :: .any :: .any :: .any :: .any :: []),
         (.dead :: (.arr 62 2 false [[.int .i64 n, .sl (tab rowT t)]]) :: .dead :: .dead :: .dead :: .dead :: .dead :: .dead :: .dead :: .dead :: .dead :: .dead :: .dead :: .dead :: .dead :: .dead :: .dead :: .dead :: .dead :: .dead :: .dead :: .dead :: .dead :: (.map t.length (List.range t.length) (tab rowU M)) :: .dead :: .dead :: .dead :: .dead :: .dead :: .dead :: .dead :: .dead :: .dead :: .dead :: .dead :: .dead :: .dead :: .dead :: .dead :: .dead :: .dead :: .dead :: .dead :: .dead :: .dead :: .dead :: .dead :: .dead :: .dead :: .dead :: .dead :: .dead :: .dead :: .dead :: .dead :: .dead :: .dead :: .dead :: .dead :: (.iter (.mp 23) t.length (sn ++ [x]) t.length) :: .dead :: .dead :: .dead :: .dead :: .dead :: .dead :: .dead :: .dead :: .dead :: .dead :: .dead :: .dead :: .dead :: .dead :: .dead :: .dead :: .dead :: .dead :: .dead :: .dead :: .dead :: .dead :: .dead :: .dead :: .dead :: .dead :: .dead :: .dead :: .dead :: .dead :: .dead :: .dead :: [])⟩) (fun s => f.length - s.1)
        ⟨0, by omega, by omega⟩ (Le_drop (by simp [leE]) (by simp [leH]) rfl rfl) fun s => ?_)
      obtain ⟨k, hkl, hpre⟩ := s
      dsimp only
      by_cases hlt : k < f.length
      · have hfk : (tab rowQ f).getD k [] = rowQ (f.getD k default) := tab_getD hlt
        have hpm : f.getD k default ∈ f := getD_mem hlt
        have hbad := hqg _ hpm
        have hpr : (0 ≤ (f.getD k default).1 ∧ (f.getD k default).1 < n) ∧ (f.getD k default).1 ∉ keys M → ∀ i, i < k + 1 → (0 ≤ (f.getD i default).1 ∧ (f.getD i default).1 < n) ∧ (f.getD i default).1 ∉ keys M := fun h i hi => by
          by_cases hik : i = k
          · subst hik; exact h
          · exact hpre i (by omega)
        generalize f.getD k default = p at *
        obtain ⟨v, y⟩ := p
        simp only [rowQ] at hfk
        dsimp only at *
        refine W_seq ?_
        ((refine W_regV ?_); intro K hK; (refine sTfX hlt ?_))
        (refine hK _ ?_; clear hK K)
        (refine W_seq (W_cond rfl (fun _ => ?_) (fun h => by cases h)))
        refine W_skip ?_
        simp only [thenW]
        refine W_seq ?_
        refine W_block ?_
        ((refine W_seqV ?_); intro K hK; (refine sTfX (And.intro hfk hlt) ?_))
        (refine hK _ ?_; clear hK K)
        cases hid : idxM M v with
        | some j =>
          obtain ⟨hj1, hj2, _, hj3⟩ := idx_some hid
          have hXv : (tab rowU M).getD j [] = rowU (M.getD j default) := rowU_getD hj1
          rw [hgF (hbad fun h => h.2 hj3)]
          generalize M.getD j default = q at *
          simp only [rowU] at hXv
          ((refine W_seqV ?_); intro K hK; (refine sTfX (And.intro hid hXv) ?_))
          (refine hK _ ?_; clear hK K)
          ((refine W_seqV ?_); intro K hK; (refine sTf ?_))
          (refine hK _ ?_; clear hK K)
          (refine W_cond rfl (fun _ => ?_) (fun h => by cases h))
          (refine aTf ?_)
          refine W_ret ?_
          (simp only [thenW, blockW, newMQ, resW, resV, asOne_two, newMK, List.getD_cons_zero, List.getD_cons_succ]); simp
        | none =>
          have hni2 := (idx_none hid).1
          ((refine W_seqV ?_); intro K hK; (refine sTfX hid ?_))
          (refine hK _ ?_; clear hK K)
          by_cases h3 : v < 0
          · rw [hgF (hbad fun h => by omega)]
            ((refine W_seqV ?_); intro K hK; (refine sTfX h3 ?_))
            (refine hK _ ?_; clear hK K)
            (refine W_cond rfl (fun _ => ?_) (fun h => by cases h))
            (refine aTf ?_)
            refine W_ret ?_
            (simp only [thenW, blockW, newMQ, resW, resV, asOne_two, newMK, List.getD_cons_zero, List.getD_cons_succ]); simp
          · by_cases h4 : n ≤ v
            · rw [hgF (hbad fun h => by omega)]
              ((refine W_seqV ?_); intro K hK; (refine sTfX (And.intro h3 h4) ?_))
              (refine hK _ ?_; clear hK K)
              (refine W_cond rfl (fun _ => ?_) (fun h => by cases h))
              (refine aTf ?_)
              refine W_ret ?_
              (simp only [thenW, blockW, newMQ, resW, resV, asOne_two, newMK, List.getD_cons_zero, List.getD_cons_succ]); simp
            · ((refine W_seqV ?_); intro K hK; (refine sTfX (And.intro h3 h4) ?_))
              (refine hK _ ?_; clear hK K)
              (refine W_cond rfl (fun h => by cases h) (fun _ => ?_))
              refine W_skip ?_
              simp only [thenW, blockW]
              ((refine W_regV ?_); intro K hK; (refine sTf ?_))
              (refine hK _ ?_; clear hK K)
              simp only [blockW, thenW]
              refine ⟨⟨k + 1, by omega, hpr ⟨⟨by omega, by omega⟩, hni2⟩⟩, Le_drop (by simp [leE]) (by simp [leH]) rfl rfl, ?_⟩
              dsimp only
              omega
      · obtain rfl : k = f.length := by omega
        refine W_seq ?_
        ((refine W_regV ?_); intro K hK; (refine sTf ?_))
        (refine hK _ ?_; clear hK K)
        (refine W_seq (W_cond rfl (fun h => by cases h) (fun _ => ?_)))
        refine W_exit ?_
        simp only [thenW, blockW, if_true]
        refine ⟨⟨sn ++ [x], hs2, hg2 fun p hp => ?_⟩, Le_drop (by simp [leE]) (by simp [leH]) rfl rfl, ?_⟩
        · obtain ⟨i, hi, rfl⟩ := mem_getD hp
          exact hpre i hi
        · exact hmu
end Go.Proofs.YtjmkfbhecgkbmaaGreat.Vm

namespace Go.Proofs.YtjmkfbhecgkbmaaGreat.Vm
open Go Go.RowKit
def loadV (n:Int) (t:TR):AV:=if goodB n (nrmT t) then .tup [.md t.length (List.range t.length) (tab rowU (nrmT t)),.bool true] else .tup [.nilmp,.bool false]
theorem tload_ok (n:Int) (t:TR) {B:Nat} (hf:∀ r∈t,FOk r.2 B) (hB:B<17179869184) (hl:t.length<1099511627776) :
  Pure Tryz.prog 155 [cT n t] (·=loadV n t):=by
 refine (tload_new n t hf hB hl).pure.mono fun r hr=>?_
 unfold loadR at hr
 unfold loadV
 generalize goodB n (nrmT t)=gb at *
 cases gb
 ·simp only [Bool.false_eq_true,if_false] at hr ⊢
  rcases hr with ⟨_,rfl⟩ | ⟨c,bs,rows,h1,rfl⟩
  ·rfl
  ·cases h1
 ·simp only [if_true] at hr ⊢
  rcases hr with ⟨h1,_⟩ | ⟨c,bs,rows,h1,rfl⟩
  ·cases h1
  ·cases h1;rfl
def tb:TM→Nat
 | []=>0
 | r::M=>nbs r.2+1+tb M
theorem tb_len:∀ M:TM,M.length≤tb M
 | []=>Nat.le_refl _
 | r::M=>by have:=tb_len M;simp only [List.length_cons,tb];omega
theorem tb_mem {M:TM} {r:Int × List (Int × Rat)} (h:r∈M):nbs r.2+1≤tb M:=by
 induction M with
 | nil=>cases h
 | cons q M ih =>
  simp only [tb]
  rcases List.mem_cons.1 h with rfl | h
  ·omega
  ·have:=ih h;omega
def sumN' (g:Int→Nat):TM→Nat
 | []=>0
 | r::M=>g r.1+sumN' g M
theorem sumN'_le {g h:Int→Nat}:∀ M:TM,(∀ b,g b≤h b)→sumN' g M≤sumN' h M
 | [],_=>Nat.le_refl _
 | r::M,hg=>by have:=sumN'_le M hg;have:=hg r.1;simp only [sumN'];omega
theorem sumN'_add (g h:Int→Nat):∀ M:TM,sumN' (fun b=>g b+h b) M=sumN' g M+sumN' h M
 | []=>rfl
 | r::M=>by simp only [sumN',sumN'_add g h M];omega
theorem sumN'_zero {g:Int→Nat}:∀ M:TM,(∀ b∈keys M,g b=0)→sumN' g M=0
 | [],_=>rfl
 | r::M,h=>by
  simp only [sumN',sumN'_zero M fun b hb=>h b (by simp only [keys,List.map_cons,List.mem_cons];exact .inr hb),h r.1 (by simp [keys])]
theorem sumN'_one {k:Nat} {a:Int}:∀ M:TM,(keys M).Nodup→sumN' (fun b=>if a=b then k else 0) M≤k
 | [],_=>Nat.zero_le _
 | r::M,hn=>by
  simp only [keys,List.map_cons,List.nodup_cons] at hn
  simp only [sumN']
  by_cases h:a=r.1
  ·rw [if_pos h,sumN'_zero M fun b hb=>by
    rw [if_neg]
    rintro rfl
    exact hn.1 (h ▸ hb)]
   omega
  ·rw [if_neg h]
   have:=sumN'_one (k:=k) (a:=a) M hn.2
   omega
theorem sumN'_nbv {M:TM} (hn:(keys M).Nodup):∀ f:List (Int × Rat),sumN' (fun b=>nbv f b) M≤nbs f
 | []=>by
  have:sumN' (fun b=>nbv [] b) M=0:=sumN'_zero M fun _ _=>rfl
  omega
 | p::f=>by
  have h1:=sumN'_nbv hn f
  have h2:=sumN'_one (k:=nb p.2) (a:=p.1) M hn
  have h3:sumN' (fun b=>nbv (p::f) b) M=sumN' (fun b=>if p.1=b then nb p.2 else 0) M+sumN' (fun b=>nbv f b) M:=by
   rw [← sumN'_add]
   rfl
  rw [h3,nbs]
  omega
theorem sumN'_const (k:Nat):∀ M:TM,sumN' (fun _=>k) M=k*M.length
 | []=>by simp [sumN']
 | r::M=>by simp only [sumN',sumN'_const k M,List.length_cons,Nat.mul_succ];omega
theorem nb_sumM (c:Int→Rat) (x:Int):∀ M:TM,nb (sumM c x M)≤1+sumN' (fun b=>nb (c b)) M+tb M
 | []=>by simp only [sumM,nb_zero];omega
 | r::M=>by
  have h1:=nb_sumM c x M
  have h2:=nb_add (c r.1*coef r.2 x) (sumM c x M)
  have h3:=nb_mul (c r.1) (coef r.2 x)
  have h4:=nb_coef r.2 x
  have h5:=nbv_le_nbs r.2 x
  simp only [sumM,sumN',tb]
  omega
theorem nb_expr {M:TM} (hn:(keys M).Nodup) (f:List (Int × Rat)) {c:Int→Rat} (hc:∀ b,c b=coef f b∨c b=0) {y:Rat} {x:Int} (hy:y=coef f x∨y=0):nb (y+sumM c x M)≤2*nbs f+2*tb M+2:=by
 have h1:=nb_add y (sumM c x M)
 have h2:=nb_sumM c x M
 have h3:nb y≤1+nbs f:=by
  rcases hy with rfl | rfl
  ·have:=nb_coef f x
   have:=nbv_le_nbs f x
   omega
  ·rw [nb_zero];omega
 have h4:sumN' (fun b=>nb (c b)) M≤sumN' (fun b=>1+nbv f b) M:=sumN'_le M fun b=>by
  rcases hc b with h | h
  ·rw [h];exact nb_coef f b
  ·rw [h,nb_zero];omega
 rw [sumN'_add (fun _=>1) (fun b=>nbv f b),sumN'_const] at h4
 have h5:=sumN'_nbv hn f
 have h6:=tb_len M
 omega
theorem nbv_nf {l:List (Int × Rat)} (h:NF l) (x:Int):nbv l x≤nb (coef l x):=by
 induction l with
 | nil=>simp [nbv]
 | cons p l ih =>
  have ih:=ih h.tail
  simp only [nbv,coef]
  by_cases hx:p.1=x
  ·rw [if_pos hx,if_pos hx,nbv_none fun q hq he=>by have:=h.head q hq;omega,coef_none fun q hq he=>by have:=h.head q hq;omega,Rat.add_zero]
   omega
  ·rw [if_neg hx,if_neg hx,Rat.zero_add]
   omega
theorem nf_len {l:List (Int × Rat)} (h:NF l) {n:Int} (hn:n≤65536) (hr:∀ p∈l,0≤p.1∧p.1<n):l.length≤65536:=by
 have hnd:(keys l).Nodup:=by
  have:=h.lt
  unfold keys
  rw [List.Nodup,List.pairwise_map]
  exact this.imp fun h=>by omega
 have hnd2:((keys l).map Int.toNat).Nodup:=by
  rw [List.Nodup,List.pairwise_map]
  refine List.Pairwise.imp_of_mem (fun {a b} ha hb hab he=>?_) hnd
  obtain ⟨p,hp,rfl⟩:=List.mem_map.1 ha
  obtain ⟨q,hq,rfl⟩:=List.mem_map.1 hb
  have:=hr p hp
  have:=hr q hq
  exact hab (by omega)
 have h1:=nodup_range_le (n:=65536) hnd2 fun x hx=>by
  obtain ⟨a,ha,rfl⟩:=List.mem_map.1 hx
  obtain ⟨p,hp,rfl⟩:=List.mem_map.1 ha
  have:=hr p hp
  omega
 simpa [keys_len] using h1
theorem sz_nf {l:List (Int × Rat)} (h:NF l) {n:Int} (hn:n≤65536) (hr:∀ p∈l,0≤p.1∧p.1<n) {B:Nat} (hb:∀ x,nb (coef l x)≤B):Sz l (B+65536) :=
 ⟨fun v=>by have:=nbv_nf h v;have:=hb v;omega,by have:=nf_len h hn hr;omega⟩
def exprT (M:TM) (f:List (Int × Rat)):List (Int × Rat):=exprP M f (keys (normF f)) (normF f)
structure ExOk (M:TM) (f:List (Int × RR)):Prop where
 fok:FOk f 536870912
 ro:∀ r∈M,Sz r.2 536870912
 co:∀ (i:Nat) (x:Int) (y:Rat) (c:Int→Rat),(∀ b,c b=coef (vals f) b∨c b=0)→(y=coef (vals f) x∨y=0)→nb (y+sumM c x (M.take i))≤536870912
theorem tb_take:∀ (l:TM) (k:Nat),tb (l.take k)≤tb l:=by
 intro l
 induction l with
 | nil=>intro k;simp [tb]
 | cons r l ih=>intro k;cases k with
  | zero=>simp [tb]
  | succ k=>have:=ih k;simp only [List.take_succ_cons,tb];omega
theorem keys_take {M:TM} (hn:(keys M).Nodup) (i:Nat):(keys (M.take i)).Nodup:=by
 have h2:keys M=keys (M.take i)++keys (M.drop i):=by rw [← keys_append,List.take_append_drop]
 rw [h2,List.nodup_append] at hn
 exact hn.1
theorem ExOk.of {M:TM} (hn:(keys M).Nodup) {f:List (Int × RR)} (hf:FOk f (nbs (vals f))) (h1:nbs (vals f)≤68157440) (h2:tb M≤68157440):ExOk M f :=
 ⟨⟨hf.1,hf.sz.mono (by omega)⟩,fun r hr=>(Sz.of _).mono (by have:=tb_mem hr;omega),fun i x y c hc hy=>by
  have:=nb_expr (keys_take hn i) (vals f) hc hy
  have:=tb_take M i
  omega⟩
theorem sTh {G G':Prop} (h:G') (e:G=G':=by conv=>lhs;simp (disch:=omega) only [rowsOf,cNat,cN,St.ret,St.seth,Eff.app,Eff.wi,sepL,guardOf,St.known,objOf,List.set,sliceW,litW,copyW,lenOf,bnd,mxOk,ofCells,TI.isAgg,cellsOf,storable,AV.one,dead,laid,overlay,reduceCtorEq,Int.reduceLE,Int.reduceLT,Int.reduceSub,Int.reduceAdd,Nat.reduceMul,Int.reduceToNat,Nat.reducePow,Int.reduceNeg,Nat.reduceAdd,Nat.reduceLT,Nat.reduceLeDiff,sA,sB,Nat.reduceEqDiff,cQ,rowQ,rowU,rowT,rowM,i64s_getD,i64s_length,i64s_all,i64s_take,i64s_drop,i64s_set,i64s_one,i64s_pure,i64s_append,tab_length,tab_drop,tab_take,tab_append,tab_nil,rowT_all,rowT_one,rowT_pure,rowU_all,rowU_one,rowU_pure,rowQ_all,rowQ_one,rowQ_pure,List.take_length,List.length_append,findA_tab,range_snoc,pure_sl,sT]):G:=e.mpr h
theorem sThX {G G' P:Prop} (p:P) (h:G') (e:P→G=G':=by intro p;conv=>lhs;simp (disch:=omega) only [rowsOf,cNat,cN,St.ret,St.seth,Eff.app,Eff.wi,sepL,guardOf,St.known,objOf,List.set,sliceW,litW,copyW,lenOf,bnd,mxOk,ofCells,TI.isAgg,cellsOf,storable,AV.one,dead,laid,overlay,reduceCtorEq,Int.reduceLE,Int.reduceLT,Int.reduceSub,Int.reduceAdd,Nat.reduceMul,Int.reduceToNat,Nat.reducePow,Int.reduceNeg,Nat.reduceAdd,Nat.reduceLT,Nat.reduceLeDiff,sA,sB,Nat.reduceEqDiff,cQ,rowQ,rowU,rowT,rowM,i64s_getD,i64s_length,i64s_all,i64s_take,i64s_drop,i64s_set,i64s_one,i64s_pure,i64s_append,tab_length,tab_drop,tab_take,tab_append,tab_nil,rowT_all,rowT_one,rowT_pure,rowU_all,rowU_one,rowU_pure,rowQ_all,rowQ_one,rowQ_pure,List.take_length,List.length_append,findA_tab,range_snoc,pure_sl,sT,p]):G:=(e p).mpr h
theorem sThV {G G':Prop} (h:G') (e:G=G':=by conv=>lhs;simp (disch:=omega) only [rowsOf,cNat,cN,St.ret,St.seth,Eff.app,Eff.wi,sepL,guardOf,St.known,objOf,List.set,sliceW,litW,copyW,lenOf,bnd,mxOk,ofCells,TI.isAgg,cellsOf,storable,AV.one,dead,laid,overlay,reduceCtorEq,Int.reduceLE,Int.reduceLT,Int.reduceSub,Int.reduceAdd,Nat.reduceMul,Int.reduceToNat,Nat.reducePow,Int.reduceNeg,Nat.reduceAdd,Nat.reduceLT,Nat.reduceLeDiff,sA,sB,Nat.reduceEqDiff,cQ,rowQ,rowU,rowT,rowM,i64s_getD,i64s_length,i64s_all,i64s_take,i64s_drop,i64s_set,i64s_one,i64s_pure,i64s_append,tab_length,tab_drop,tab_take,tab_append,tab_nil,rowT_all,rowT_one,rowT_pure,rowU_all,rowU_one,rowU_pure,rowQ_all,rowQ_one,rowQ_pure,List.take_length,List.length_append,findA_tab,range_snoc,pure_sl,sT,view_sref,viewRef,view_agg,views_cons,views_nil,view_bool,view_int,view_sl,view_nils,view_str,view_tup,view_nilif]):G:=e.mpr h
theorem aTh {G G':Prop} (h:G') (f:Wr G'→G:=by intro h;(repeat (first|(refine W_seqV fun K hK=>?_;(try (refine sTh ?_;try exact True.intro));(repeat refine aI ?_);refine hK _ ?_;clear hK K)|(refine W_seqR fun K hK=>?_;(try (refine sTh ?_;try exact True.intro));(repeat refine aI ?_);refine hK _ ?_;clear hK K)|(refine W_seqD mixed [] (by kernel_rfl) fun K hK=>?_;(try (refine sTh ?_;try exact True.intro));(repeat refine aI ?_);refine hK _ ?_;clear hK K)));exact h.out):G:=f ⟨h⟩
structure TOk (t:TR):Prop where
 ok:∀ r∈t,∀ p∈r.2,p.2.ok
 sz:tb (t.map fun r=>(r.1,vals r.2))≤68157440
theorem tb_nrm:∀ t:TR,tb (nrmT t)≤tb (t.map fun r=>(r.1,vals r.2))
 | []=>Nat.le_refl _
 | r::t=>by
  have:=tb_nrm t
  have:=nbs_norm (vals r.2)
  unfold nrmT at *
  simp only [List.map_cons,tb]
  omega
theorem TOk.tb {t:TR} (h:TOk t):Vm.tb (nrmT t)≤68157440:=Nat.le_trans (tb_nrm t) h.sz
theorem TOk.len {t:TR} (h:TOk t):t.length≤68157440:=by
 have:=tb_len (t.map fun r=>(r.1,vals r.2))
 have:=h.sz
 simp at *
 omega
theorem TOk.nbs {t:TR} (h:TOk t) {r:Int × List (Int × RR)} (hr:r∈t):Vm.nbs (vals r.2)≤68157440:=by
 have h1:=tb_mem (M:=t.map fun r=>(r.1,vals r.2)) (r:=(r.1,vals r.2)) (List.mem_map.2 ⟨r,hr,rfl⟩)
 have:=h.sz
 simp only at h1
 omega
theorem TOk.form {t:TR} (h:TOk t) {r:Int × List (Int × RR)} (hr:r∈t):FOk r.2 68157440:=⟨h.ok r hr,(Sz.of _).mono (h.nbs hr)⟩
theorem TOk.mok {t:TR} (h:TOk t):MOk (nrmT t) 68157440:=by
 refine ⟨fun r hr=>?_,fun r hr=>?_,by rw [nrmT_len];have:=h.len;omega⟩
 ·obtain ⟨q,_,rfl⟩:=List.mem_map.1 hr
  exact NF.norm _
 ·have:=tb_mem hr
  have:=h.tb
  exact (Sz.of _).mono (by omega)
structure TG (t:TR):Prop where
 ok:∀ r∈t,∀ p∈r.2,p.2.ok
 sz:∀ r∈t,Sz (vals r.2) 536870912
 len:t.length≤68157440
theorem TOk.g {t:TR} (h:TOk t):TG t:=⟨h.ok,fun r hr=>(h.form hr).sz.mono (by omega),h.len⟩
instance instCoeTG {t:TR}:Coe (TOk t) (TG t):=⟨TOk.g⟩
theorem TG.form {t:TR} (h:TG t) {r:Int × List (Int × RR)} (hr:r∈t):FOk r.2 536870912:=⟨h.ok r hr,h.sz r hr⟩
theorem TG.mok {t:TR} (h:TG t):MOk (nrmT t) 536870912:=by
 refine ⟨fun r hr=>?_,fun r hr=>?_,by rw [nrmT_len];have:=h.len;omega⟩
 ·obtain ⟨q,_,rfl⟩:=List.mem_map.1 hr
  exact NF.norm _
 ·obtain ⟨q,hq,rfl⟩:=List.mem_map.1 hr
  exact (h.sz q hq).norm
theorem TG.load {t:TR} (h:TG t) (n:Int):Pure Tryz.prog 155 [cT n t] (·=loadV n t) :=
 tload_ok n t (fun r hr=>h.form hr) (by omega) (by have:=h.len;omega)
theorem range_births {m:Nat}:(List.range m).length=m∧(List.range m).Nodup∧∀ x∈List.range m,x<m:=⟨List.length_range,List.nodup_range,fun x hx=>List.mem_range.1 hx⟩
theorem TG.told {t:TR} (h:TG t) (n:Int):Pure Tryz.prog 158 [.md t.length (List.range t.length) (tab rowU (nrmT t)),.int .i64 n] (·=cU n (sortM (nrmT t))) :=
 ttold_ok _ n _ _ h.mok (by omega) (by rw [nrmT_len];exact range_births.1) range_births.2.1 range_births.2.2
def normV (n:Int) (t:TR):AV:=if goodB n (nrmT t) then .tup [cU n (sortM (nrmT t)),.int .i64 0] else .tup [cU 0 [],.int .i64 70]
def growV (n:Int) (t:TR):AV:=if goodB n (nrmT t) then if n=65536 then .tup [cU 0 [],.int .i64 0,.int .i64 2] else .tup [cU (n+1) (sortM (nrmT t)),.int .i64 n,.int .i64 0] else .tup [cU 0 [],.int .i64 0,.int .i64 70]
theorem tgrow_ok (n:Int) (t:TR) (hT:TG t):Pure Tryz.prog 105 [cT n t] (·=growV n t):=by
 have a1:=hT.load n
 have a2:=hT.told (n+1)
 unfold loadV at a1
 unfold growV
 unfold cT cU at *
 have hz:tab rowU []=[]:=rfl
 rw [hz]
 have hgn:goodB n (nrmT t)=true→0≤n∧n≤65536:=fun h=>⟨(gt_iff.1 h).lo,(gt_iff.1 h).hi⟩
 generalize goodB n (nrmT t)=gb at *
 cases gb
 ·simp only [Bool.false_eq_true,if_false] at a1 ⊢
  (refine pureW Tryz.func105 rfl (rs:=[Go.ResultVar.cell 2 62,Go.ResultVar.tmp 3,Go.ResultVar.tmp 4]) rfl (n:=28) rfl ?_;simp only [List.length_cons,List.length_nil,List.replicate,List.cons_append,List.nil_append])
  (refine aTh ?_)
  ((refine W_seqV ?_);intro K hK;(refine sTh ?_))
  (refine ⟨by kernel_rfl,_,.pure rfl (a1),?_⟩;(try (refine sTh ?_)))
  (refine hK _ ?_;clear hK K)
  (repeat' (first | (exfalso;simp at h;done) | refine W_block ?_ | (refine W_seqV fun K hK=>?_;(try (refine sTh ?_));refine hK _ ?_;clear hK K) | (refine W_ret ?_;(refine qG ?_)) | (refine W_cond rfl (fun h=>?_) (fun h=>?_) <;> (try simp only [cond_true,cond_false,ne_eq,cB] at h)) | refine W_seq ?_))
  (try (refine sThV ?_;try exact True.intro))
 ·simp only [if_true] at a1 ⊢
  obtain ⟨hn0,hn1⟩:=hgn rfl
  by_cases hn:n=65536
  ·rw [if_pos hn]
   have hnb:(n == 65536)=true:=by simp [hn]
   (refine pureW Tryz.func105 rfl (rs:=[Go.ResultVar.cell 2 62,Go.ResultVar.tmp 3,Go.ResultVar.tmp 4]) rfl (n:=28) rfl ?_;simp only [List.length_cons,List.length_nil,List.replicate,List.cons_append,List.nil_append])
   (refine aTh ?_)
   ((refine W_seqV ?_);intro K hK;(refine sTh ?_))
   (refine ⟨by kernel_rfl,_,.pure rfl (a1),?_⟩;(try (refine sTh ?_)))
   (refine hK _ ?_;clear hK K)
   refine W_seq ?_
   refine W_block ?_
   ((refine W_seqV ?_);intro K hK;(refine sTh ?_))
   (refine hK _ ?_;clear hK K)
   (refine W_cf rfl ?_)
   ((refine W_seqV ?_);intro K hK;(refine sThX hnb ?_))
   (refine hK _ ?_;clear hK K)
   (refine W_ct rfl ?_)
   (refine aTh ?_)
   refine W_ret ?_
   (refine qG ?_;try exact True.intro);try (refine sThV ?_;try exact True.intro)
  ·rw [if_neg hn]
   have hnb:(n == 65536)=false:=by simp [hn]
   have hw:IntKind.wrap .i64 (n+1)=n+1:=wrap_i64 (by omega) (by omega)
   (refine pureW Tryz.func105 rfl (rs:=[Go.ResultVar.cell 2 62,Go.ResultVar.tmp 3,Go.ResultVar.tmp 4]) rfl (n:=28) rfl ?_;simp only [List.length_cons,List.length_nil,List.replicate,List.cons_append,List.nil_append])
   (refine aTh ?_)
   ((refine W_seqV ?_);intro K hK;(refine sTh ?_))
   (refine ⟨by kernel_rfl,_,.pure rfl (a1),?_⟩;(try (refine sTh ?_)))
   (refine hK _ ?_;clear hK K)
   refine W_seq ?_
   refine W_block ?_
   ((refine W_seqV ?_);intro K hK;(refine sTh ?_))
   (refine hK _ ?_;clear hK K)
   (refine W_cf rfl ?_)
   ((refine W_seqV ?_);intro K hK;(refine sThX hnb ?_))
   (refine hK _ ?_;clear hK K)
   (refine W_cf rfl ?_)
   refine W_skip ?_
   simp only [thenW,blockW]
   ((refine W_seqD mixed [(6,7)] (by kernel_rfl) ?_);intro K hK;(refine sThX hw ?_))
   (refine ⟨by kernel_rfl,_,.pure rfl (a2),?_⟩;(try (refine sTh ?_));(repeat refine aI ?_))
   (refine hK _ ?_;clear hK K)
   refine W_ret ?_
   (refine qG ?_;try exact True.intro);try (refine sThV ?_;try exact True.intro)
def rowV (n:Int) (t:TR) (v:Int):AV:=if goodB n (nrmT t) then if v<0∨n≤v then .tup [.sl [],.int .i64 61] else match lookM (nrmT t) v with | some g => .tup [cL g,.int .i64 0] | none => .tup [.sl [],.int .i64 71] else .tup [.sl [],.int .i64 70]
def basV (n:Int) (t:TR):AV:=if goodB n (nrmT t) then .tup [.sl (i64s (sortK (keys (nrmT t)))),.int .i64 0] else .tup [.sl [],.int .i64 70]
def rowI (M:TM) (v:Int):Int:=match idxM M v with | some j=>(j:Int) | none => -1
def othK (K:List Int):Nat→List Int
 | 0=>[]
 | k+1=>if (k:Int)∈K then othK K k else othK K k++[(k:Int)]
def othV (n:Int) (t:TR):AV:=if goodB n (nrmT t) then .tup [.sl (i64s (othK (keys (nrmT t)) n.toNat)),.int .i64 0] else .tup [.sl [],.int .i64 70]
def colF (M:TM) (v:Int) (l:List Int):List Int:=l.filter fun b=>decide (coef ((lookM M b).getD []) v≠0)
def colV (n:Int) (t:TR) (v:Int):AV:=if goodB n (nrmT t) then if v<0∨n≤v then .tup [.sl [],.int .i64 61] else if v∈keys (nrmT t) then .tup [.sl [],.int .i64 71] else
 .tup [.sl (i64s (colF (nrmT t) v (sortK (keys (nrmT t))))),.int .i64 0] else .tup [.sl [],.int .i64 70]
structure FormOk (f:List (Int × RR)):Prop where
 ok:∀ p∈f,p.2.ok
 sz:nbs (vals f)≤68157440
theorem FormOk.fok {f:List (Int × RR)} (h:FormOk f):FOk f (nbs (vals f)):=⟨h.ok,Sz.of _⟩
theorem FormOk.mok {f:List (Int × RR)} (h:FormOk f):FOk f 536870912:=⟨h.ok,h.fok.sz.mono (by have:=h.sz;omega)⟩
theorem TOk.ex {t:TR} (h:TOk t) {n:Int} {f:List (Int × RR)} (hf:FormOk f) (hg:goodB n (nrmT t)=true):ExOk (nrmT t) f :=
 ExOk.of (gt_iff.1 hg).nodup hf.fok hf.sz h.tb
theorem FormOk.known {f:List (Int × RR)} (h:FOk f 536870912) (n:Int):Pure Tryz.prog 156 [cF f,.int .i64 n] (· = .bool (knownB n (normF (vals f)))) :=
 tknown_ok f n h (by omega)
def exprV (n:Int) (t:TR) (f:List (Int × RR)):AV:=if goodB n (nrmT t) then if knownB n (normF (vals f)) then .tup [cL (exprT (nrmT t) (vals f)),.int .i64 0] else .tup [.sl [],.int .i64 61] else .tup [.sl [],.int .i64 70]
def defV (n:Int) (t:TR) (f:List (Int × RR)):AV:=if goodB n (nrmT t) then if knownB n (normF (vals f)) then if n=65536 then .tup [cU 0 [],.int .i64 0,.int .i64 2] else .tup [cU (n+1) (sortM (nrmT t++[(n,exprT (nrmT t) (vals f))])),.int .i64 n,.int .i64 0]
 else .tup [cU 0 [],.int .i64 0,.int .i64 61] else .tup [cU 0 [],.int .i64 0,.int .i64 70]
def updS (bs sn:List Nat) (N:TM) (o:Int) (g:List (Int × Rat)):TM:=(List.range N.length).map fun j=>if bs.getD j 0∈sn then ((N.getD j default).1,putF (N.getD j default).2 o g) else N.getD j default
theorem idx_nodup {M:TM} (hn:(keys M).Nodup) {j:Nat} (hj:j<M.length):idxM M (M.getD j default).1=some j:=by
 have hk:(M.getD j default).1∈keys M:=List.mem_map.2 ⟨_,getD_mem hj,rfl⟩
 obtain ⟨i,h1,h2,h3,_⟩:=look_idx hk
 rw [h1]
 congr 1
 have e1:(keys M)[i]'(by rw [keys_len];exact h2)=(M.getD i default).1:=by simp [keys,List.getD_eq_getElem?_getD,h2]
 have e2:(keys M)[j]'(by rw [keys_len];exact hj)=(M.getD j default).1:=by simp [keys,List.getD_eq_getElem?_getD,hj]
 exact (List.getElem_inj hn).1 (e1.trans (h3.trans e2.symm))
theorem Sz.whole {f:List (Int × Rat)} {B:Nat} (h:Sz f B) (b:Int):Sz (wholeF b f) (B+2):=Sz.sub h ⟨fun v=>by simp only [nbv];split <;> simp [nb_one],by simp⟩
def pivV (n:Int) (t:TR) (b o:Int):AV:=if goodB n (nrmT t) then if b<0∨n≤b∨o<0∨n≤o then .tup [cU 0 [],.int .i64 61] else match idxM (nrmT t) b with
  | none => .tup [cU 0 [],.int .i64 71]
  | some k=>if o∈keys (nrmT t) then .tup [cU 0 [],.int .i64 71] else if coef (wholeF b ((nrmT t).getD k default).2) o=0 then .tup [cU 0 [],.int .i64 72] else .tup [cU n (sortM (pivP (nrmT t) k o (solvF b ((nrmT t).getD k default).2 o))),.int .i64 0]
 else .tup [cU 0 [],.int .i64 70]
def rowOk (n:Int) (M:TM) (j:Nat):Prop:=inR n (M.getD j default).1=true∧idxM M (M.getD j default).1=some j∧knownB n (M.getD j default).2=true
theorem GT.of {n:Int} {M:TM} (h0:0≤n) (h1:n≤65536) (h:∀ j,j<M.length→rowOk n M j) (hf:∀ j,j<M.length→∀ p∈(M.getD j default).2,idxM M p.1=none):GT n M:=by
 refine ⟨h0,h1,?_,fun b hb=>?_,fun r hr p hp=>?_⟩
 ·rw [List.Nodup,List.pairwise_iff_getElem]
  intro i j hi hj hij he
  have hi':i<M.length:=by rwa [keys_len] at hi
  have hj':j<M.length:=by rwa [keys_len] at hj
  have e1:=(h i hi').2.1
  have e2:=(h j hj').2.1
  have:(M.getD i default).1=(M.getD j default).1:=by
   simp only [keys,List.getElem_map] at he
   simp [List.getD_eq_getElem?_getD,hi',hj',he]
  rw [this,e2] at e1
  cases e1
  omega
 ·obtain ⟨r,hr,rfl⟩:=List.mem_map.1 hb
  obtain ⟨j,hj,rfl⟩:=mem_getD hr
  exact inR_iff.1 (h j hj).1
 ·obtain ⟨j,hj,rfl⟩:=mem_getD hr
  have h2:=(h j hj).2.2
  unfold knownB at h2
  refine ⟨inR_iff.1 (List.all_eq_true.1 h2 p hp),(idx_none (hf j hj p hp)).1⟩
theorem TG.pf {t:TR} (h:TG t) {r:Int × List (Int × RR)} (hr:r∈t):PF r.2 536870913:=((h.form hr).pf (by omega)).mono (by omega)
def NewSV (base:Nat) (w:World) (F:Nat→Prop) (T:TypeId) (k:Nat) (pre:List AV) (rows:List (List AV)) (v:Value):Prop :=
 ∃ vs x,v = .agg (vs++[x]).toArray∧Rps w F noPl pre vs∧NewA base w F T k rows x
def NewS (P:Program) (g:FuncId) (args:List AV) (T:TypeId) (k:Nat) (pre:List AV) (R:List (List AV)→Prop):Prop :=
 pre.all AV.flat=true∧∀ (w:World) (vals:List Value) (F:Nat→Prop),(∀ k,F k→k<w.heap.size)→Rps w F noPl args vals →
  Calls P g vals.toArray w fun e w'=>∃ v rows,e = .returned v∧R rows∧Below w.heap.size w w'∧NewSV w.heap.size w' F T k pre rows v
theorem flats_any {w w':World} {A A':Nat→Prop} {ρ ρ':Pl}:∀ (l:List AV) {vs:List Value},l.all AV.flat=true→Rps w A ρ l vs→Rps w' A' ρ' l vs
 | [],_,_,h=>by simpa only [Rps] using h
 | x::l,vs,hf,h=>by
  simp only [List.all_cons,Bool.and_eq_true] at hf
  simp only [Rps] at h ⊢
  obtain ⟨v,us,h1,h2,h3⟩:=h
  exact ⟨v,us,h1,flat_any x hf.1 h2,flats_any l hf.2 h3⟩
def newSK (T:TypeId) (k:Nat) (pre:List AV) (R:List (List AV)→Prop) (hp:List Ob):AV→Prop
 | .agg cells=>∃ x,cells=pre++[x]∧newK T k R hp x
 | _=>False
def newSQ (P:Program) (rs:List ResultVar) (T:TypeId) (k:Nat) (pre:List AV) (R:List (List AV)→Prop):Exit→St→Prop
 | .normal,s=>resW P s rs fun xs=>newSK T k pre R s.hp (asOne xs)
 | .ret,s=>resW P s rs fun xs=>newSK T k pre R s.hp (asOne xs)
 | _,_=>False
theorem newK_A {fr:Fr} {ρ:Pl} {s:St} {a:Act} {w:World} (hr:Rep fr ρ s a w) (hpins:∀ b,¬ fr.M b) {T:TypeId} {k:Nat} {R:List (List AV)→Prop} {x:AV} {v:Value} (h1:newK T k R s.hp x) (h3:Rp w (Av fr.F ρ) ρ x v) :
  ∃ rows,R rows∧NewA fr.base w fr.F T k rows v:=by
 cases x with
 | nils =>
  simp only [Rp] at h3
  exact ⟨[],h1,.inl ⟨h3,rfl⟩⟩
 | sref i off n =>
  obtain ⟨rows,rfl,rfl,hi,hR⟩:=h1
  have ho:=hr.heap i
  rw [show s.hp.getD i .dead = .arr T k true rows by simp [List.getD_eq_getElem?_getD,hi]] at ho
  simp only [Rp] at h3
  rcases h3 with ⟨g1,g2,g3,g4⟩ | ⟨b,s',cap,len,x,g1,g2,g3,g4⟩
  ·exact ⟨rows,hR,.inl ⟨g4,List.eq_nil_of_length_eq_zero g3⟩⟩
  ·rw [g1] at ho
   obtain ⟨e1,e2,vss,rest,e3,e4,e5⟩:=ho
   subst e1
   have hx0:=g4 (.inr trivial)
   rw [Nat.zero_mul] at hx0
   subst hx0
   refine ⟨rows,hR,.inr ⟨b,cap,?_,by rw [g3,Nat.sub_zero],vss,rest,e3,?_,e5⟩⟩
   ·rcases hr.mine i _ b g1 rfl with h4 | h4
    ·exact h4
    ·exact absurd h4 (hpins _)
   ·exact RpR.later (ρ:=noPl) _ ⟨Nat.le_refl _,fun c _ hc=>by
     rcases hc with hc | rfl
     ·exact .inl hc
     ·exact .inr ⟨i,_,g1,rfl⟩,fun _ _ _=>rfl,fun _ _ h=>h⟩ e4
 | _=>exact h1.elim
theorem newS_of_W {P:Program} {g:FuncId} {fn:Func} {c:Code} {args:List AV} {T:TypeId} {k:Nat} {pre:List AV} {R:List (List AV)→Prop} (hf:P.funcs[g]?=some fn) (hb:fn.body=some c) {rs:List ResultVar} (hrs:fn.results.toList=rs) {nt:Nat} (hn:fn.ntmps=nt) (hpre:pre.all AV.flat=true)
  (h:W P [] c (newSQ P rs T k pre R) ⟨args++List.replicate (nt-args.length) .und,List.replicate nt .dead⟩):NewS P g args T k pre R:=by
 subst hrs;subst hn
 refine ⟨hpre,fun w vals F hF hv=>?_⟩
 have hlen:=hv.length
 refine calls_of_wp hf hb ?_
 let fr:Fr:=⟨w.heap.size,w,F,fun _=>False,[],noPl,fun _ _ h=>h⟩
 have hA:Av F noPl=F:=by
  funext k
  simp [Av,noPl]
 have hrep:Rep fr noPl ⟨args++List.replicate (fn.ntmps-args.length) .und,List.replicate fn.ntmps .dead⟩ { tmps:=vals.toArray++Array.replicate (fn.ntmps-vals.toArray.size) undef,defers:=[] } w:=by
  refine { keep:=⟨rfl,rfl,rfl,Nat.le_refl _,fun _ _ _=>rfl⟩,base:=Nat.le_refl _,defers:=rfl,heap:=fun i=>?_,inj:=(fun i j p q b hi=>by cases hi),mine:=(fun i p b hi=>by cases hi),fF:=hF,pin:=(fun i hi=>by cases hi),env:=?_ }
  ·show HRo _ _ _ ((List.replicate fn.ntmps Ob.dead).getD i .dead) _
   rw [show (List.replicate fn.ntmps Ob.dead).getD i .dead = .dead by
    rw [List.getD_eq_getElem?_getD,List.getElem?_replicate];split <;> rfl]
   rfl
  ·show Rps w (Av F noPl) noPl _ _
   rw [hA]
   have h1:(vals.toArray++Array.replicate (fn.ntmps-vals.toArray.size) undef).toList=vals++List.replicate (fn.ntmps-args.length) undef:=by
    simp [hlen]
   rw [h1]
   refine hv.append (Rps.mk (by simp) fun i x v hx hv=>?_)
   rw [List.getElem?_replicate] at hx hv
   split at hx
   ·rename_i hi;rw [if_pos hi] at hv;cases hx;cases hv;simp only [Rp]
   ·cases hx
 refine Code.wp_mono (fun e a' w' he=>?_) (h fr noPl _ w rfl hrep)
 obtain ⟨s,ρ,hq,hr⟩:=he
 have fin:resW P s fn.results.toList (fun xs=>newSK T k pre R s.hp (asOne xs))→a'.defers=[]∧∃ v,(results fn a'.tmps).run P w' = .ok v w'∧∃ v2 rows,Ending.returned v = .returned v2∧R rows∧Below w.heap.size w w'∧NewSV w.heap.size w' F T k pre rows v2:=by
  intro hk
  obtain ⟨xs,v,h1,h2,h3⟩:=results_sound hr fn hk
  have hbel:Below w.heap.size w w':=⟨hr.keep.os,hr.keep.tape,hr.keep.output,hr.keep.size,fun k hk=>hr.keep.block k hk (fun h=>h)⟩
  refine ⟨hr.defers,v,h2,?_⟩
  cases hx:asOne xs with
  | agg cells =>
   rw [hx] at h1 h3
   obtain ⟨x,rfl,hkx⟩:=h1
   simp only [Rp] at h3
   obtain ⟨vs0,rfl,h4⟩:=h3
   obtain ⟨vs,us,rfl,h5,h6⟩:=h4.of_append
   simp only [Rps] at h6
   obtain ⟨y,_,rfl,h7,rfl⟩:=h6
   obtain ⟨rows,hR,hN⟩:=newK_A hr (fun _ h=>h) hkx h7
   exact ⟨_,rows,rfl,hR,hbel,vs,y,rfl,flats_any _ hpre h5,hN⟩
  | _=>rw [hx] at h1;exact h1.elim
 cases e with
 | normal=>exact fin hq
 | ret=>exact fin hq
 | _=>exact hq.elim
theorem NewS.pure {P:Program} {g:FuncId} {args:List AV} {T:TypeId} {k:Nat} {pre:List AV} {R:List (List AV)→Prop} (h:NewS P g args T k pre R):Pure P g args (fun r=>∃ rows,R rows∧r = .agg (pre++[.sl rows])):=by
 intro w vals F hF hv
 refine (h.2 w vals F hF hv).mono fun e w' he=>?_
 obtain ⟨v,rows,h1,h2,h3,vs,x,rfl,h5,h4⟩:=he
 refine ⟨_,_,h1,⟨rows,h2,rfl⟩,h3,?_⟩
 simp only [Rp]
 refine ⟨_,rfl,h5.append ?_⟩
 simp only [Rps,Rp]
 refine ⟨_,_,rfl,?_,rfl⟩
 rcases h4 with ⟨rfl,rfl⟩ | ⟨b,cap,hb,rfl,vss,rest,e1,e2,e3,e4,e5,e6⟩
 ·exact ⟨none,0,by simp,by simp,by simp [maxLen],.inl rfl⟩
 ·refine ⟨_,cap,rfl,e5,e6,.inr ⟨b,0,vss,rfl,fun hFb=>?_,(Array.getElem?_eq_some_iff.1 e1).1,?_,RpR.later (ρ:=noPl) _ ⟨Nat.le_refl _,fun c _ hc => .inl hc,fun _ _ _=>rfl,fun _ _ h=>h⟩ e2⟩⟩
  ·have:=hF b hFb
   omega
  ·intro j u hj
   have h5:=(List.getElem?_eq_some_iff.1 hj).1
   simp only [World.cell?,Nat.zero_add]
   rw [e1]
   simp [List.getElem?_append_left h5,hj]
end Go.Proofs.YtjmkfbhecgkbmaaGreat.Vm
/-
  The reference's tableaus: the rows by rising variables.
-/
namespace Go.Proofs.YtjmkfbhecgkbmaaGreat.Vm
open Go Go.RowKit
theorem sUc {G G' : Prop} (h : G') (e : G = G' := by conv => lhs; simp (disch := omega) only [rowsOf, cNat, cN, St.ret, St.seth, Eff.app, Eff.wi, sepL, guardOf, St.known, objOf, List.set, sliceW, litW, copyW, lenOf, bnd, mxOk, ofCells, TI.isAgg, cellsOf, storable, AV.one, dead, laid, overlay, reduceCtorEq, Int.reduceLE, Int.reduceLT, Int.reduceSub, Int.reduceAdd, Nat.reduceMul, Int.reduceToNat, Nat.reducePow, Int.reduceNeg, Nat.reduceAdd, Nat.reduceLT, Nat.reduceLeDiff, sA, sB, Nat.reduceEqDiff, cQ, rowQ, rowU, rowT, rowM, i64s_getD, i64s_length, i64s_all, tab_length, tab_drop, tab_take, tab_append, tab_nil, rowT_all, rowT_one, rowT_pure, rowU_all, rowU_one, rowU_pure, rowQ_all, rowQ_one, rowQ_pure, rowM_all, rowM_one, rowM_pure, List.take_length, List.length_append, sT]) : G := e.mpr h
theorem sUcX {G G' P : Prop} (p : P) (h : G') (e : P → G = G' := by intro p; conv => lhs; simp (disch := omega) only [rowsOf, cNat, cN, St.ret, St.seth, Eff.app, Eff.wi, sepL, guardOf, St.known, objOf, List.set, sliceW, litW, copyW, lenOf, bnd, mxOk, ofCells, TI.isAgg, cellsOf, storable, AV.one, dead, laid, overlay, reduceCtorEq, Int.reduceLE, Int.reduceLT, Int.reduceSub, Int.reduceAdd, Nat.reduceMul, Int.reduceToNat, Nat.reducePow, Int.reduceNeg, Nat.reduceAdd, Nat.reduceLT, Nat.reduceLeDiff, sA, sB, Nat.reduceEqDiff, cQ, rowQ, rowU, rowT, rowM, i64s_getD, i64s_length, i64s_all, tab_length, tab_drop, tab_take, tab_append, tab_nil, rowT_all, rowT_one, rowT_pure, rowU_all, rowU_one, rowU_pure, rowQ_all, rowQ_one, rowQ_pure, rowM_all, rowM_one, rowM_pure, List.take_length, List.length_append, sT, p]) : G := (e p).mpr h
theorem aUc {G G' : Prop} (h : G') (f : Wr G' → G := by intro h; (repeat (first | (refine W_seqV fun K hK => ?_; (try (refine sUc ?_; try exact True.intro)); (repeat refine aI ?_); refine hK _ ?_; clear hK K) | (refine W_seqR fun K hK => ?_; (try (refine sUc ?_; try exact True.intro)); (repeat refine aI ?_); refine hK _ ?_; clear hK K) | (refine W_seqD mixed [] (by kernel_rfl) fun K hK => ?_; (try (refine sUc ?_; try exact True.intro)); (repeat refine aI ?_); refine hK _ ?_; clear hK K))); exact h.out) : G := f ⟨h⟩

def lastK (l : List Int) (k : Nat) : Int := if k = 0 then -1 else l.getD (k - 1) 0
theorem lastK_succ (l : List Int) (k : Nat) : lastK l (k + 1) = l.getD k 0 := by simp [lastK]
theorem next_least {l : List Int} (hl : l.Pairwise (· < ·)) (h0 : ∀ x ∈ l, 0 ≤ x) {k : Nat} (hk : k < l.length) : lastK l k < l.getD k 0 ∧ ∀ x ∈ l, lastK l k < x → l.getD k 0 ≤ x := by
  rw [List.pairwise_iff_getElem] at hl
  have hg : ∀ i (h : i < l.length), l.getD i 0 = l[i] := fun i h => by simp [List.getD_eq_getElem?_getD, h]
  unfold lastK
  rw [hg k hk]
  constructor
  · split
    · have := h0 l[k] (List.getElem_mem hk); omega
    · rw [hg (k - 1) (by omega)]
      exact hl (k - 1) k (by omega) hk (by omega)
  · intro x hx hlt
    obtain ⟨j, hj, rfl⟩ := List.getElem_of_mem hx
    by_cases hjk : j < k
    · exfalso
      rw [if_neg (by omega), hg (k - 1) (by omega)] at hlt
      by_cases h1 : j = k - 1
      · subst h1; omega
      · have := hl j (k - 1) hj (by omega) (by omega)
        omega
    · by_cases h1 : j = k
      · subst h1; omega
      · have := hl k j hk hj (by omega)
        omega
/-- The least of the first i that is above last: where it stands. -/
def Least (M : TM) (last : Int) (i : Nat) (a : Int) : Prop := (a = -1 ∧ ∀ j, j < i → (M.getD j default).1 ≤ last) ∨ ∃ m : Nat, a = (m : Int) ∧ m < i ∧ last < (M.getD m default).1 ∧ ∀ j, j < i → last < (M.getD j default).1 → (M.getD m default).1 ≤ (M.getD j default).1
set_option maxHeartbeats 4000000 in
theorem r7sorted_gen (n : Int) (t : TR) (hlen : t.length ≤ 68157440) (hpf : ∀ r ∈ t, PF r.2 8589934592) (hnod : (keys (nrmT t)).Nodup) (hpos : ∀ b ∈ keys (nrmT t), 0 ≤ b) : NewS Tryz.prog 161 [cT n t] 99 2 [.int .i64 n] (· = tab rowU (sortM (nrmT t))) := by
  have hml := nrmT_len t
  have hnd := fun i (hi : i < t.length) => nrmT_getD hi
  have hno : ∀ i, i < t.length → Pure Tryz.prog 47 [cF (t.getD i default).2] (· = cL (normF (vals (t.getD i default).2))) := fun i hi => f6norm_ok _ (hpf _ (getD_mem hi)) (by omega)
  have hll : (sortK (keys (nrmT t))).length = t.length := by rw [sortK_len, keys_len, hml]
  have hlast := fun k (hk : k < (sortK (keys (nrmT t))).length) => next_least (sortK_lt hnod) (fun x hx => hpos x (mem_sortK.1 hx)) hk
  have hkm : ∀ k, k < (sortK (keys (nrmT t))).length → ∃ j, j < (nrmT t).length ∧ ((nrmT t).getD j default).1 = (sortK (keys (nrmT t))).getD k 0 := fun k hk => by
    have : (sortK (keys (nrmT t))).getD k 0 ∈ keys (nrmT t) := mem_sortK.1 (by simp [List.getD_eq_getElem?_getD, hk])
    obtain ⟨j, _, h2, h3, _⟩ := look_idx this
    exact ⟨j, h2, h3⟩
  have hmk : ∀ m, m < (nrmT t).length → ((nrmT t).getD m default).1 ∈ sortK (keys (nrmT t)) := fun m hm => mem_sortK.2 (List.mem_map.2 ⟨_, getD_mem hm, rfl⟩)
  have hst : ∀ k m, k < (sortK (keys (nrmT t))).length → m < (nrmT t).length → ((nrmT t).getD m default).1 = (sortK (keys (nrmT t))).getD k 0 → (sortM (nrmT t)).take (k + 1) = (sortM (nrmT t)).take k ++ [(nrmT t).getD m default] := fun k m hk hm he => by
    rw [take_snoc (by rw [sortM_len, hml, ← hll]; exact hk), sortM_getD hk, ← he]
    have := idx_nodup hnod hm
    rw [(idx_some this).2.2.1]
    rfl
  have h0 : (sortM (nrmT t)).take 0 = [] := rfl
  have hall : (sortM (nrmT t)).take t.length = sortM (nrmT t) := by rw [← hml, ← sortM_len, List.take_length]
  have hln : ∀ i, i ≤ t.length → ((sortM (nrmT t)).take i).length = i := fun i hi => by rw [List.length_take, sortM_len]; omega
  clear hpf hnod hpos
  unfold cT at *
  rw [← hall]
  clear hall
  generalize hE : (fun i => (sortM (nrmT t)).take i) = E at *
  have hE' : ∀ i, (sortM (nrmT t)).take i = E i := fun i => congrFun hE i
  simp only [hE'] at *
  clear hE hE'
  generalize sortK (keys (nrmT t)) = l at *
  generalize nrmT t = M at *
  (refine newS_of_W (T := 99) (k := 2) (pre := [.int .i64 n]) Tryz.func161 rfl (rs := [Go.ResultVar.cell 2 62]) rfl (nt := 73) rfl rfl ?_; simp only [List.length_cons, List.length_nil, List.replicate, List.cons_append, List.nil_append])
  (refine aUc ?_)
  refine W.le ?_ (Le_nilO 3 0 1 70 99 2 true rfl rfl rfl rfl)
  simp only [List.set]
  refine W_seq ?_
  refine W_block (W_loop (fun s : {k : Nat // k ≤ t.length} =>
      ⟨(.any :: (.ptr 1 0 0) :: (.ptr 2 0 0) :: (.ptr 3 0 0) :: (.int .i64 (lastK l s.1)) :: .any :: .any :: .any :: .any :: .any :: .any :: .any :: .any :: .any :: .any :: .any :: .any :: .any :: .any :: .any :: .any :: .any :: .any :: .any :: .any :: .any :: .any :: .any :: .any :: .any :: .any :: .any :: .any :: .any :: .any :: .any :: .any :: .any :: .any :: .any :: .any :: .any :: .any :: .any :: .any :: .any :: .any :: .any :: .any :: .any :: .any :: .any :: .any :: .any :: .any :: .any :: .any :: .any :: .any :: .any :: .any :: .any :: .any :: .any :: .any :: .any :: .any :: .any :: .any :: .any :: .any :: .any :: .any :: []),
       (.dead :: (.arr 62 2 false [[.int .i64 n, .sl (tab rowT t)]]) :: (.arr 62 2 false [[.int .i64 0, .nils]]) :: (.arr 62 2 false [[.int .i64 n, .sref 70 0 s.1]]) :: .dead :: .dead :: .dead :: .dead :: .dead :: .dead :: .dead :: .dead :: .dead :: .dead :: .dead :: .dead :: .dead :: .dead :: .dead :: .dead :: .dead :: .dead :: .dead :: .dead :: .dead :: .dead :: .dead :: .dead :: .dead :: .dead :: .dead :: .dead :: .dead :: .dead :: .dead :: .dead :: .dead :: .dead :: .dead :: .dead :: .dead :: .dead :: .dead :: .dead :: .dead :: .dead :: .dead :: .dead :: .dead :: .dead :: .dead :: .dead :: .dead :: .dead :: .dead :: .dead :: .dead :: .dead :: .dead :: .dead :: .dead :: .dead :: .dead :: .dead :: .dead :: .dead :: .dead :: .dead :: .dead :: .dead :: (.arr 99 2 true (tab rowU (E s.1))) :: .dead :: .dead :: [])⟩) (fun s => t.length - s.1)
      ⟨0, by omega⟩ (Le_drop (by simp [leE, lastK]) (by simp [leH, h0, tab]) rfl rfl) fun s => ?_)
  obtain ⟨k, hk⟩ := s
  dsimp only
  by_cases hlt : k < t.length
  · obtain ⟨hgt, hleast⟩ := hlast k (by omega)
    have hstk := hst k
    have hlk := hln k (by omega)
    obtain ⟨j0, hj0, hj1⟩ := hkm k (by omega)
    have hls := lastK_succ l k
    generalize hlv : l.getD k 0 = v at *
    generalize hla : lastK l k = last at *
    generalize hE1 : E (k + 1) = o' at *
    generalize E k = o at *
    refine W_seq ?_
    ((refine W_seqV ?_); intro K hK; (refine sUcX hlt ?_))
    (refine hK _ ?_; clear hK K)
    (refine W_cond rfl (fun _ => ?_) (fun h => by cases h))
    refine W_skip ?_
    simp only [thenW]
    refine W_block ?_
    (refine aUc ?_)
    refine W_seq ?_
    ((refine W_seqV ?_); intro K hK; (refine sUc ?_))
    (refine hK _ ?_; clear hK K)
    refine W_block (W_loop (fun s : {p : Nat × Int // p.1 ≤ t.length ∧ Least M last p.1 p.2} =>
      ⟨(.any :: (.ptr 1 0 0) :: (.ptr 2 0 0) :: (.ptr 3 0 0) :: (.int .i64 last) :: (.int .i64 s.1.2) :: (.int .i64 s.1.1) :: .any :: .any :: .any :: .any :: .any :: .any :: .any :: .any :: .any :: .any :: .any :: .any :: .any :: .any :: .any :: .any :: .any :: .any :: .any :: .any :: .any :: .any :: .any :: .any :: .any :: .any :: .any :: .any :: .any :: .any :: .any :: .any :: .any :: .any :: .any :: .any :: .any :: .any :: .any :: .any :: .any :: .any :: .any :: .any :: .any :: .any :: .any :: .any :: .any :: .any :: .any :: .any :: .any :: .any :: .any :: .any :: .any :: .any :: .any :: .any :: .any :: .any :: .any :: .any :: .any :: .any :: []),
       (.dead :: (.arr 62 2 false [[.int .i64 n, .sl (tab rowT t)]]) :: (.arr 62 2 false [[.int .i64 0, .nils]]) :: (.arr 62 2 false [[.int .i64 n, .sref 70 0 k]]) :: .dead :: .dead :: .dead :: .dead :: .dead :: .dead :: .dead :: .dead :: .dead :: .dead :: .dead :: .dead :: .dead :: .dead :: .dead :: .dead :: .dead :: .dead :: .dead :: .dead :: .dead :: .dead :: .dead :: .dead :: .dead :: .dead :: .dead :: .dead :: .dead :: .dead :: .dead :: .dead :: .dead :: .dead :: .dead :: .dead :: .dead :: .dead :: .dead :: .dead :: .dead :: .dead :: .dead :: .dead :: .dead :: .dead :: .dead :: .dead :: .dead :: .dead :: .dead :: .dead :: .dead :: .dead :: .dead :: .dead :: .dead :: .dead :: .dead :: .dead :: .dead :: .dead :: .dead :: .dead :: .dead :: .dead :: (.arr 99 2 true (tab rowU o)) :: .dead :: .dead :: [])⟩) (fun s => t.length - s.1.1)
      ⟨(0, -1), by omega, .inl ⟨rfl, by omega⟩⟩ (Le_drop (by simp [leE]) (by simp [leH]) rfl rfl) fun s => ?_)
    obtain ⟨⟨i, a⟩, hi, ha⟩ := s
    dsimp only at *
    by_cases hil : i < t.length
    · have hti : (tab rowT t).getD i [] = rowT (t.getD i default) := tab_getD hil
      have hMi : (M.getD i default).1 = (t.getD i default).1 := by rw [hnd i hil]
      have hno1 : (M.getD i default).1 ≤ last → Least M last i a → Least M last (i + 1) a := fun h1 h2 => by
        rcases h2 with ⟨h3, h4⟩ | ⟨m, h3, h4, h5, h6⟩
        · exact .inl ⟨h3, fun j hj => by
            by_cases hji : j = i
            · subst hji; exact h1
            · exact h4 j (by omega)⟩
        · exact .inr ⟨m, h3, by omega, h5, fun j hj hl => by
            by_cases hji : j = i
            · subst hji; omega
            · exact h6 j (by omega) hl⟩
      have hnew : last < (M.getD i default).1 → (∀ j, j < i → last < (M.getD j default).1 → (M.getD i default).1 ≤ (M.getD j default).1) → Least M last (i + 1) (i : Int) := fun h1 h2 =>
        .inr ⟨i, rfl, by omega, h1, fun j hj hl => by
          by_cases hji : j = i
          · subst hji; exact Int.le_refl _
          · exact h2 j (by omega) hl⟩
      have hold : ∀ m : Nat, m < i → last < (M.getD m default).1 → (∀ j, j < i → last < (M.getD j default).1 → (M.getD m default).1 ≤ (M.getD j default).1) → (M.getD m default).1 ≤ (M.getD i default).1 → Least M last (i + 1) (m : Int) := fun m h1 h2 h3 h4 =>
        .inr ⟨m, rfl, by omega, h2, fun j hj hl => by
          by_cases hji : j = i
          · subst hji; exact h4
          · exact h3 j (by omega) hl⟩
      rw [hMi] at hno1 hnew hold
      generalize t.getD i default = r at *
      obtain ⟨b, f⟩ := r
      simp only [rowT] at hti
      dsimp only at *
      refine W_seq ?_
      ((refine W_seqV ?_); intro K hK; (refine sUcX hil ?_))
      (refine hK _ ?_; clear hK K)
      (refine W_cond rfl (fun _ => ?_) (fun h => by cases h))
      refine W_skip ?_
      simp only [thenW]
      refine W_seq ?_
      refine W_block ?_
      refine W_seq ?_
      by_cases c1 : last < b
      · rcases ha with ⟨rfl, hle⟩ | ⟨m, rfl, hm, hmgt, hmle⟩
        · ((refine W_regD mixed [] (by kernel_rfl) ?_); intro K hK; (refine sUcX (And.intro hti (And.intro hil c1)) ?_))
          (refine hK _ ?_; clear hK K)
          simp only [thenW]
          (refine W_cond rfl (fun _ => ?_) (fun h => by cases h))
          ((refine W_regV ?_); intro K hK; (refine sUc ?_))
          (refine hK _ ?_; clear hK K)
          simp only [thenW, blockW]
          ((refine W_regV ?_); intro K hK; (refine sUc ?_))
          (refine hK _ ?_; clear hK K)
          simp only [blockW, thenW]
          refine ⟨⟨(i + 1, (i : Int)), by dsimp only; omega, hnew c1 fun j hj hl => by have := hle j hj; omega⟩, Le_drop (by simp [leE]) (by simp [leH]) rfl rfl, ?_⟩
          dsimp only
          omega
        · have hXm : (tab rowT t).getD m [] = rowT (t.getD m default) := tab_getD (by omega)
          have hMm : (M.getD m default).1 = (t.getD m default).1 := by rw [hnd m (by omega)]
          have hm0 : ¬ ((m : Int) < 0) := by omega
          have hmt : m < t.length := by omega
          have hold2 := hold m hm hmgt hmle
          rw [hMm] at hold2 hmgt hmle
          generalize t.getD m default = r2 at *
          obtain ⟨b2, f2⟩ := r2
          simp only [rowT] at hXm
          dsimp only at *
          by_cases c2 : b < b2
          · ((refine W_regD mixed [] (by kernel_rfl) ?_); intro K hK; (refine sUcX (And.intro hti (And.intro hil (And.intro c1 (And.intro hXm (And.intro hmt (And.intro hm0 c2)))))) ?_))
            (refine hK _ ?_; clear hK K)
            simp only [thenW]
            (refine W_cond rfl (fun _ => ?_) (fun h => by cases h))
            ((refine W_regV ?_); intro K hK; (refine sUc ?_))
            (refine hK _ ?_; clear hK K)
            simp only [thenW, blockW]
            ((refine W_regV ?_); intro K hK; (refine sUc ?_))
            (refine hK _ ?_; clear hK K)
            simp only [blockW, thenW]
            refine ⟨⟨(i + 1, (i : Int)), by dsimp only; omega, hnew c1 fun j hj hl => by have := hmle j hj hl; omega⟩, Le_drop (by simp [leE]) (by simp [leH]) rfl rfl, ?_⟩
            dsimp only
            omega
          · ((refine W_regD mixed [] (by kernel_rfl) ?_); intro K hK; (refine sUcX (And.intro hti (And.intro hil (And.intro c1 (And.intro hXm (And.intro hmt (And.intro hm0 c2)))))) ?_))
            (refine hK _ ?_; clear hK K)
            simp only [thenW]
            (refine W_cond rfl (fun h => by cases h) (fun _ => ?_))
            refine W_skip ?_
            simp only [thenW, blockW]
            ((refine W_regV ?_); intro K hK; (refine sUc ?_))
            (refine hK _ ?_; clear hK K)
            simp only [blockW, thenW]
            refine ⟨⟨(i + 1, (m : Int)), by dsimp only; omega, hold2 (by omega)⟩, Le_drop (by simp [leE]) (by simp [leH]) rfl rfl, ?_⟩
            dsimp only
            omega
      · ((refine W_regD mixed [] (by kernel_rfl) ?_); intro K hK; (refine sUcX (And.intro hti (And.intro hil c1)) ?_))
        (refine hK _ ?_; clear hK K)
        simp only [thenW]
        (refine W_cond rfl (fun h => by cases h) (fun _ => ?_))
        refine W_skip ?_
        simp only [thenW, blockW]
        ((refine W_regV ?_); intro K hK; (refine sUc ?_))
        (refine hK _ ?_; clear hK K)
        simp only [blockW, thenW]
        refine ⟨⟨(i + 1, a), by dsimp only; omega, hno1 (by omega) ha⟩, Le_drop (by simp [leE]) (by simp [leH]) rfl rfl, ?_⟩
        dsimp only
        omega
    · obtain rfl : i = t.length := by omega
      obtain ⟨m, rfl, hm, hmgt, hmle⟩ : ∃ m : Nat, a = (m : Int) ∧ m < t.length ∧ last < (M.getD m default).1 ∧ ∀ j, j < t.length → last < (M.getD j default).1 → (M.getD m default).1 ≤ (M.getD j default).1 := by
        rcases ha with ⟨_, h⟩ | h
        · have := h j0 (by omega)
          omega
        · exact h
      have hmv : (M.getD m default).1 = v := by
        have e1 := hmle j0 (by omega) (by omega)
        have e2 := hleast _ (hmk m (by omega)) hmgt
        omega
      have hst2 := hstk m (by omega) (by omega) hmv
      have hXm : (tab rowT t).getD m [] = rowT (t.getD m default) := tab_getD hm
      have hnom := hno m hm
      rw [hnd m hm] at hst2 hmv
      generalize t.getD m default = r2 at *
      obtain ⟨b2, f2⟩ := r2
      simp only [rowT] at hXm
      dsimp only at *
      simp only [cF, cL] at hnom
      subst hmv
      refine W_seq ?_
      ((refine W_seqV ?_); intro K hK; (refine sUc ?_))
      (refine hK _ ?_; clear hK K)
      (refine W_cond rfl (fun h => by cases h) (fun _ => ?_))
      refine W_exit ?_
      simp only [thenW, blockW, if_true]
      ((refine W_seqV ?_); intro K hK; (refine sUcX (And.intro hXm hm) ?_))
      (refine hK _ ?_; clear hK K)
      ((refine W_regS mixed 12 [] (by kernel_rfl) ?_); intro K hK; (refine sUcX (And.intro hXm hm) ?_))
      (refine ⟨by kernel_rfl, _, .pure rfl (hnom), ?_⟩; (try (refine sUc ?_)); (repeat refine aI ?_))
      (refine hK _ ?_; clear hK K)
      simp only [thenW, blockW]
      refine ⟨⟨k + 1, by omega⟩, Le_drop (by simp [leE, hls]) (by simp [leH, hE1, hst2, ← tab_snoc, rowU, tab_take, List.take_of_length_le, hlk]) rfl rfl, ?_⟩
      dsimp only
      omega
  · obtain rfl : k = t.length := by omega
    refine W_seq ?_
    ((refine W_seqV ?_); intro K hK; (refine sUc ?_))
    (refine hK _ ?_; clear hK K)
    (refine W_cond rfl (fun h => by cases h) (fun _ => ?_))
    refine W_exit ?_
    simp only [thenW, blockW, if_true]
    have hlk := hln t.length (Nat.le_refl _)
    generalize E t.length = o at *
    (refine aUc ?_)
    refine W_ret ?_
    (simp only [thenW, blockW, newSQ, resW, resV, asOne_one, List.getD_cons_zero, List.getD_cons_succ, newSK])
    (refine sUc ?_; try exact True.intro)
    skip
    exact ⟨_, rfl, _, rfl, by rw [tab_length, hlk], rfl, rfl⟩
theorem r7sorted_new (n : Int) (t : TR) (hT : TG t) (hnod : (keys (nrmT t)).Nodup) (hpos : ∀ b ∈ keys (nrmT t), 0 ≤ b) : NewS Tryz.prog 161 [cT n t] 99 2 [.int .i64 n] (· = tab rowU (sortM (nrmT t))) :=
  r7sorted_gen n t hT.len (fun r hr => (hT.pf hr).mono (by omega)) hnod hpos
theorem r7sorted_ok (n : Int) (t : TR) (hT : TG t) (hnod : (keys (nrmT t)).Nodup) (hpos : ∀ b ∈ keys (nrmT t), 0 ≤ b) : Pure Tryz.prog 161 [cT n t] (· = cU n (sortM (nrmT t))) :=
  (r7sorted_new n t hT hnod hpos).pure.mono fun r ⟨rows, h1, h2⟩ => by
    subst h1
    exact h2
end Go.Proofs.YtjmkfbhecgkbmaaGreat.Vm

namespace Go.Proofs.YtjmkfbhecgkbmaaGreat.Vm
open Go Go.RowKit
theorem TG.sorted {t:TR} (h:TG t) {n:Int} (hg:goodB n (nrmT t)=true):Pure Tryz.prog 161 [cT n t] (·=cU n (sortM (nrmT t))) :=
 r7sorted_ok n t h (gt_iff.1 hg).nodup fun b hb=>((gt_iff.1 hg).range b hb).1
def belowK (l:List Int):Nat→Nat
 | 0=>0
 | v+1=>if (v:Int)∈l then belowK l v+1 else belowK l v
theorem sVf {G G':Prop} (h:G') (e:G=G':=by conv=>lhs;simp (disch:=omega) only [rowsOf,cNat,cN,St.ret,St.seth,Eff.app,Eff.wi,sepL,guardOf,St.known,objOf,List.set,sliceW,litW,copyW,lenOf,bnd,mxOk,ofCells,TI.isAgg,cellsOf,storable,AV.one,dead,laid,overlay,reduceCtorEq,Int.reduceLE,Int.reduceLT,Int.reduceSub,Int.reduceAdd,Nat.reduceMul,Int.reduceToNat,Nat.reducePow,Int.reduceNeg,Nat.reduceAdd,Nat.reduceLT,Nat.reduceLeDiff,sA,sB,Nat.reduceEqDiff,cQ,cD,tab_length,List.take_length,tab_drop,tab_take,tab_nil,rowD_all,rowD_one,rowD_pure,rowQ_all,rowQ_one,rowQ_pure,rowM_all,rowM_one,rowM_pure,sT]):G:=e.mpr h
theorem sVfX {G G' P:Prop} (p:P) (h:G') (e:P→G=G':=by intro p;conv=>lhs;simp (disch:=omega) only [rowsOf,cNat,cN,St.ret,St.seth,Eff.app,Eff.wi,sepL,guardOf,St.known,objOf,List.set,sliceW,litW,copyW,lenOf,bnd,mxOk,ofCells,TI.isAgg,cellsOf,storable,AV.one,dead,laid,overlay,reduceCtorEq,Int.reduceLE,Int.reduceLT,Int.reduceSub,Int.reduceAdd,Nat.reduceMul,Int.reduceToNat,Nat.reducePow,Int.reduceNeg,Nat.reduceAdd,Nat.reduceLT,Nat.reduceLeDiff,sA,sB,Nat.reduceEqDiff,cQ,cD,tab_length,List.take_length,tab_drop,tab_take,tab_nil,rowD_all,rowD_one,rowD_pure,rowQ_all,rowQ_one,rowQ_pure,rowM_all,rowM_one,rowM_pure,sT,p]):G:=(e p).mpr h
theorem sVfV {G G':Prop} (h:G') (e:G=G':=by conv=>lhs;simp (disch:=omega) only [rowsOf,cNat,cN,St.ret,St.seth,Eff.app,Eff.wi,sepL,guardOf,St.known,objOf,List.set,sliceW,litW,copyW,lenOf,bnd,mxOk,ofCells,TI.isAgg,cellsOf,storable,AV.one,dead,laid,overlay,reduceCtorEq,Int.reduceLE,Int.reduceLT,Int.reduceSub,Int.reduceAdd,Nat.reduceMul,Int.reduceToNat,Nat.reducePow,Int.reduceNeg,Nat.reduceAdd,Nat.reduceLT,Nat.reduceLeDiff,sA,sB,Nat.reduceEqDiff,cQ,cD,tab_length,List.take_length,tab_drop,tab_take,tab_nil,rowD_all,rowD_one,rowD_pure,rowQ_all,rowQ_one,rowQ_pure,rowM_all,rowM_one,rowM_pure,sT,view_sref,viewRef,view_agg,views_cons,views_nil,view_bool,view_int,view_sl,view_nils,view_str,view_tup,view_nilif]):G:=e.mpr h
theorem aVf {G G':Prop} (h:G') (f:Wr G'→G:=by intro h;(repeat (first|(refine W_seqV fun K hK=>?_;(try (refine sVf ?_;try exact True.intro));(repeat refine aI ?_);refine hK _ ?_;clear hK K)|(refine W_seqR fun K hK=>?_;(try (refine sVf ?_;try exact True.intro));(repeat refine aI ?_);refine hK _ ?_;clear hK K)|(refine W_seqD mixed [] (by kernel_rfl) fun K hK=>?_;(try (refine sVf ?_;try exact True.intro));(repeat refine aI ?_);refine hK _ ?_;clear hK K)));exact h.out):G:=f ⟨h⟩
theorem dnorm_ok (d:DD) (h:d.ok):Pure Tryz.prog 102 [d.av] (·=cD d.v):=by
 have h1:=rnorm_ok d.a h.1
 have h2:=rnorm_ok d.b h.2
 obtain ⟨⟨n,x,y⟩,⟨m,z,w⟩⟩:=d
 simp only [DD.av,DD.cells,DD.v,RR.av] at *
 generalize RR.v _=p at *
 generalize RR.v _=q at *
 simp only [cD,cQ] at *
 (refine pureW Tryz.func102 rfl (rs:=[Go.ResultVar.cell 2 41]) rfl (n:=10) rfl ?_;simp only [List.length_cons,List.length_nil,List.replicate,List.cons_append,List.nil_append])
 (refine aVf ?_)
 ((refine W_seqD mixed [] (by kernel_rfl) ?_);intro K hK;(refine sVf ?_))
 (refine ⟨by kernel_rfl,_,.pure rfl (h1),?_⟩;(try (refine sVf ?_)))
 (refine ⟨by kernel_rfl,_,.pure rfl (h2),?_⟩;(try (refine sVf ?_)))
 (refine hK _ ?_;clear hK K)
 refine W_ret ?_
 (refine qG ?_;try exact True.intro);try (refine sVfV ?_;try exact True.intro)
def cellsO:Option DD→List AV
 | none=>[.bool false,.nils,.nils,.bool false,.nils,.nils]
 | some d=>d.cells
theorem zeroD0_ok:zeroD0.ok:=⟨zeroR_ok,zeroR_ok⟩
set_option maxHeartbeats 8000000 in
theorem ldeltas_gen (ds:List DD) (f:List (Int × Rat)) (hnv:∀ i,nb2 (evd ds (f.take i))≤4294967296) (hvo:∀ v,(valD ds v).ok∧nb2 (valD ds v).v≤4294967296) (hel:f.length≤4294967296) (hmem:∀ p∈f,nb p.2≤4294967296):Pure Tryz.prog 84 [.sl (tab rowQ f),.sl (tab rowD ds)] (·=cD (evd ds f)):=by
 have hE0:evd ds (f.take 0)=(0,0):=rfl
 have hEl:evd ds (f.take f.length)=evd ds f:=by rw [List.take_length]
 have hst:=fun i hi=>@evd_step ds f i hi
 rw [← hEl]
 generalize hEA:(fun i=>evd ds (f.take i))=EA at *
 have hEA':∀ i,evd ds (f.take i)=EA i:=fun i=>congrFun hEA i
 simp only [hEA'] at *
 clear hEA hEA' hEl
 have hu0:u32s []=[]:=rfl
 (refine pureW Tryz.func84 rfl (rs:=[Go.ResultVar.cell 4 41]) rfl (n:=38) rfl ?_;simp only [List.length_cons,List.length_nil,List.replicate,List.cons_append,List.nil_append])
 (refine aVf ?_)
 refine W_seq ?_
 ((refine W_seqV ?_);intro K hK;(refine sVf ?_))
 (refine hK _ ?_;clear hK K)
 refine W_block (W_loop (fun s:{p:Nat × Option DD // p.1≤f.length∧(p.2.getD zeroD0).ok∧(p.2.getD zeroD0).v=EA p.1} =>
   ⟨[.any,.sl (tab rowD ds),.any,.any,.ptr 4 0 0,.ptr 5 0 0,.any,.any,.any,.sl (tab rowQ f),.int .i64 f.length,.int .i64 s.1.1,.any,.any,.any,.any,.any,.any,.any,.any,.any,.any,.any,.any,.any,.any,.any,.any,.any,.any,.any,.any,.any,.any,.any,.any,.any,.any],[.dead,.dead,.dead,.dead,.arr 41 6 false [[.bool false,.nils,.nils,.bool false,.nils,.nils]],.arr 41 6 false [cellsO s.1.2],.dead,.dead,.dead,.dead,.dead,.dead,.dead,.dead,.dead,.dead,.dead,.dead,.dead,.dead,.dead,.dead,.dead,.dead,.dead,.dead,.dead,.dead,.dead,.dead,.dead,.dead,.dead,.dead,.dead,.dead,.dead,.dead]⟩) (fun s=>f.length-s.1.1)
   ⟨(0,none),by simp,zeroD0_ok,by show zeroD0.v=_;rw [zeroD0_v',hE0]⟩ (Le_drop (by simp [leE]) (by simp [leH,cellsO]) rfl rfl) fun s=>?_)
 obtain ⟨⟨i,od⟩,hi,hdo,hdv⟩:=s
 dsimp only at *
 rcases od with _ | d
 ·have hdo:zeroD0.ok:=hdo
  have hdv:zeroD0.v=EA i:=hdv
  simp only [cellsO]
  by_cases hlt:i<f.length
  ·have hXi:(tab rowQ f).getD i []=rowQ (f.getD i default):=tab_getD hlt
   have hsi:=hst i hlt
   have hni:=hnv i
   have hni1:=hnv (i+1)
   have hem:=hmem (f.getD i default) (getD_mem hlt)
   generalize f.getD i default=m at *
   obtain ⟨v,c⟩:=m
   dsimp only at *
   obtain ⟨hv1,hv2⟩:=hvo v
   simp only [rowQ] at hXi
   refine W_seq ?_
   ((refine W_regV ?_);intro K hK;(refine sVfX hlt ?_))
   (refine hK _ ?_;clear hK K)
   (refine W_seq (W_ct rfl ?_))
   refine W_skip ?_
   simp only [thenW]
   refine W_seq ?_
   refine W_block ?_
   ((refine W_seqV ?_);intro K hK;(refine sVfX (And.intro hlt hXi) ?_))
   (refine hK _ ?_;clear hK K)
   by_cases hv0:0≤v
   ·by_cases hv3:v<(ds.length:Int)
    ·have hYi:(tab rowD ds).getD v.toNat []=rowD (ds.getD v.toNat default):=tab_getD (by omega)
     have hvd:valD ds v=ds.getD v.toNat default:=if_pos ⟨hv0,hv3⟩
     rw [hvd] at hsi hv1 hv2
     generalize ds.getD v.toNat default=y at *
     have hsc:=dscale_ok (qr c) y (qr_ok (by omega)) hv1
     rw [qr_v] at hsc
     have hsn:=nb2_scale c y.v
     have had:=dadd_ok zeroD0 (dq (dscale c y.v)) hdo (dq_ok (by omega))
     rw [dq_v,hdv,← hsi,dq_av] at had
     generalize dscale c y.v=dm at *
     simp only [rowD,DD.cells] at hYi
     simp only [RR.av,qr,cD,DD.av,DD.cells,zeroD0,zeroR,hu0] at hsc had
     ((refine W_seqV ?_);intro K hK;(refine sVfX (And.intro hv0 hv3) ?_))
     (refine hK _ ?_;clear hK K)
     (refine W_ct rfl ?_)
     ((refine W_regD mixed [] (by kernel_rfl) ?_);intro K hK;(refine sVfX (And.intro hYi (And.intro hv0 hv3)) ?_))
     (refine ⟨by kernel_rfl,_,.pure rfl (hsc),?_⟩;(try (refine sVf ?_)))
     (refine ⟨by kernel_rfl,_,.pure rfl (had),?_⟩;(try (refine sVf ?_)))
     (refine hK _ ?_;clear hK K)
     simp only [blockW,thenW]
     ((refine W_regV ?_);intro K hK;(refine sVf ?_))
     (refine hK _ ?_;clear hK K)
     simp only [blockW,thenW]
     refine ⟨⟨(i+1,some (dq (EA (i+1)))),by dsimp only;omega,dq_ok (by omega),by show (dq (EA (i+1))).v=_;rw [dq_v]⟩,Le_drop (by simp [leE]) (by simp [leH,cellsO,DD.cells,dq,qr]) rfl rfl,?_⟩
     dsimp only
     omega
    ·have hvd:valD ds v=zeroD0:=if_neg fun h=>hv3 h.2
     have hnx:EA (i+1)=EA i:=by
      rw [hsi,hvd,zeroD0_v'];simp [dadd,dscale,Rat.mul_zero,Rat.add_zero]
     ((refine W_seqV ?_);intro K hK;(refine sVfX (And.intro hv0 hv3) ?_))
     (refine hK _ ?_;clear hK K)
     (refine W_cf rfl ?_)
     refine W_skip ?_
     simp only [blockW,thenW]
     ((refine W_regV ?_);intro K hK;(refine sVf ?_))
     (refine hK _ ?_;clear hK K)
     simp only [blockW,thenW]
     refine ⟨⟨(i+1,none),by dsimp only;omega,hdo,by show zeroD0.v=_;rw [hnx];exact hdv⟩,Le_drop (by simp [leE]) (by simp [leH,cellsO]) rfl rfl,?_⟩
     dsimp only
     omega
   ·have hvd:valD ds v=zeroD0:=if_neg fun h=>hv0 h.1
    have hnx:EA (i+1)=EA i:=by
     rw [hsi,hvd,zeroD0_v'];simp [dadd,dscale,Rat.mul_zero,Rat.add_zero]
    ((refine W_seqV ?_);intro K hK;(refine sVfX hv0 ?_))
    (refine hK _ ?_;clear hK K)
    (refine W_cf rfl ?_)
    refine W_skip ?_
    simp only [blockW,thenW]
    ((refine W_regV ?_);intro K hK;(refine sVf ?_))
    (refine hK _ ?_;clear hK K)
    simp only [blockW,thenW]
    refine ⟨⟨(i+1,none),by dsimp only;omega,hdo,by show zeroD0.v=_;rw [hnx];exact hdv⟩,Le_drop (by simp [leE]) (by simp [leH,cellsO]) rfl rfl,?_⟩
    dsimp only
    omega
  ·obtain rfl:i=f.length:=by omega
   have hno:=dnorm_ok zeroD0 hdo
   rw [hdv] at hno
   simp only [DD.av,DD.cells,cD,zeroD0,zeroR,hu0] at hno
   refine W_seq ?_
   ((refine W_regV ?_);intro K hK;(refine sVf ?_))
   (refine hK _ ?_;clear hK K)
   (refine W_seq (W_cf rfl ?_))
   refine W_exit ?_
   simp only [thenW,blockW,if_true]
   ((refine W_seqV ?_);intro K hK;(refine sVf ?_))
   (refine ⟨by kernel_rfl,_,.pure rfl (hno),?_⟩;(try (refine sVf ?_)))
   (refine hK _ ?_;clear hK K)
   refine W_ret ?_
   (refine qG ?_;try exact True.intro);try (refine sVfV ?_;try exact True.intro)
 ·have hdo:d.ok:=hdo
  have hdv:d.v=EA i:=hdv
  simp only [cellsO,DD.cells]
  by_cases hlt:i<f.length
  ·have hXi:(tab rowQ f).getD i []=rowQ (f.getD i default):=tab_getD hlt
   have hsi:=hst i hlt
   have hni:=hnv i
   have hni1:=hnv (i+1)
   have hem:=hmem (f.getD i default) (getD_mem hlt)
   generalize f.getD i default=m at *
   obtain ⟨v,c⟩:=m
   dsimp only at *
   obtain ⟨hv1,hv2⟩:=hvo v
   simp only [rowQ] at hXi
   refine W_seq ?_
   ((refine W_regV ?_);intro K hK;(refine sVfX hlt ?_))
   (refine hK _ ?_;clear hK K)
   (refine W_seq (W_ct rfl ?_))
   refine W_skip ?_
   simp only [thenW]
   refine W_seq ?_
   refine W_block ?_
   ((refine W_seqV ?_);intro K hK;(refine sVfX (And.intro hlt hXi) ?_))
   (refine hK _ ?_;clear hK K)
   by_cases hv0:0≤v
   ·by_cases hv3:v<(ds.length:Int)
    ·have hYi:(tab rowD ds).getD v.toNat []=rowD (ds.getD v.toNat default):=tab_getD (by omega)
     have hvd:valD ds v=ds.getD v.toNat default:=if_pos ⟨hv0,hv3⟩
     rw [hvd] at hsi hv1 hv2
     generalize ds.getD v.toNat default=y at *
     have hsc:=dscale_ok (qr c) y (qr_ok (by omega)) hv1
     rw [qr_v] at hsc
     have hsn:=nb2_scale c y.v
     have had:=dadd_ok d (dq (dscale c y.v)) hdo (dq_ok (by omega))
     rw [dq_v,hdv,← hsi,dq_av] at had
     generalize dscale c y.v=dm at *
     simp only [rowD,DD.cells] at hYi
     simp only [RR.av,qr,cD,DD.av,DD.cells] at hsc had
     ((refine W_seqV ?_);intro K hK;(refine sVfX (And.intro hv0 hv3) ?_))
     (refine hK _ ?_;clear hK K)
     (refine W_ct rfl ?_)
     ((refine W_regD mixed [] (by kernel_rfl) ?_);intro K hK;(refine sVfX (And.intro hYi (And.intro hv0 hv3)) ?_))
     (refine ⟨by kernel_rfl,_,.pure rfl (hsc),?_⟩;(try (refine sVf ?_)))
     (refine ⟨by kernel_rfl,_,.pure rfl (had),?_⟩;(try (refine sVf ?_)))
     (refine hK _ ?_;clear hK K)
     simp only [blockW,thenW]
     ((refine W_regV ?_);intro K hK;(refine sVf ?_))
     (refine hK _ ?_;clear hK K)
     simp only [blockW,thenW]
     refine ⟨⟨(i+1,some (dq (EA (i+1)))),by dsimp only;omega,dq_ok (by omega),by show (dq (EA (i+1))).v=_;rw [dq_v]⟩,Le_drop (by simp [leE]) (by simp [leH,cellsO,DD.cells,dq,qr]) rfl rfl,?_⟩
     dsimp only
     omega
    ·have hvd:valD ds v=zeroD0:=if_neg fun h=>hv3 h.2
     have hnx:EA (i+1)=EA i:=by
      rw [hsi,hvd,zeroD0_v'];simp [dadd,dscale,Rat.mul_zero,Rat.add_zero]
     ((refine W_seqV ?_);intro K hK;(refine sVfX (And.intro hv0 hv3) ?_))
     (refine hK _ ?_;clear hK K)
     (refine W_cf rfl ?_)
     refine W_skip ?_
     simp only [blockW,thenW]
     ((refine W_regV ?_);intro K hK;(refine sVf ?_))
     (refine hK _ ?_;clear hK K)
     simp only [blockW,thenW]
     refine ⟨⟨(i+1,some d),by dsimp only;omega,hdo,by show d.v=_;rw [hnx];exact hdv⟩,Le_drop (by simp [leE]) (by simp [leH,cellsO]) rfl rfl,?_⟩
     dsimp only
     omega
   ·have hvd:valD ds v=zeroD0:=if_neg fun h=>hv0 h.1
    have hnx:EA (i+1)=EA i:=by
     rw [hsi,hvd,zeroD0_v'];simp [dadd,dscale,Rat.mul_zero,Rat.add_zero]
    ((refine W_seqV ?_);intro K hK;(refine sVfX hv0 ?_))
    (refine hK _ ?_;clear hK K)
    (refine W_cf rfl ?_)
    refine W_skip ?_
    simp only [blockW,thenW]
    ((refine W_regV ?_);intro K hK;(refine sVf ?_))
    (refine hK _ ?_;clear hK K)
    simp only [blockW,thenW]
    refine ⟨⟨(i+1,some d),by dsimp only;omega,hdo,by show d.v=_;rw [hnx];exact hdv⟩,Le_drop (by simp [leE]) (by simp [leH,cellsO]) rfl rfl,?_⟩
    dsimp only
    omega
  ·obtain rfl:i=f.length:=by omega
   have hno:=dnorm_ok d hdo
   rw [hdv] at hno
   simp only [DD.av,DD.cells,cD] at hno
   refine W_seq ?_
   ((refine W_regV ?_);intro K hK;(refine sVf ?_))
   (refine hK _ ?_;clear hK K)
   (refine W_seq (W_cf rfl ?_))
   refine W_exit ?_
   simp only [thenW,blockW,if_true]
   ((refine W_seqV ?_);intro K hK;(refine sVf ?_))
   (refine ⟨by kernel_rfl,_,.pure rfl (hno),?_⟩;(try (refine sVf ?_)))
   (refine hK _ ?_;clear hK K)
   refine W_ret ?_
   (refine qG ?_;try exact True.intro);try (refine sVfV ?_;try exact True.intro)
structure EvOk (M:TM) (ds:List DD):Prop where
 vo:∀ v,(valD ds v).ok∧nb2 (valD ds v).v≤4294967296
 ro:∀ r∈M,r.2.length≤4294967296∧(∀ p∈r.2,nb p.2≤4294967296)∧∀ i,nb2 (evd ds (r.2.take i))≤4294967296
theorem valD_getD {ds:List DD} {i:Nat} (h:i<ds.length):valD ds (i:Int)=ds.getD i default:=by
 unfold valD
 rw [if_pos ⟨by omega,by omega⟩,Int.toNat_natCast]
theorem EvOk.mem {M:TM} {ds:List DD} (h:EvOk M ds):∀ d∈ds,d.ok∧nb2 d.v≤4294967296:=fun d hd=>by
 obtain ⟨i,hi,rfl⟩:=mem_getD hd
 rw [← valD_getD hi]
 exact h.vo _
theorem DsOk.ev {ds:List DD} (h:DsOk ds) {M:TM} (hM:∀ r∈M,nbs r.2≤68157440):EvOk M ds :=
 ⟨fun v=>⟨(valD_ok h v).1,Nat.le_trans (valD_ok h v).2 (by omega)⟩,fun r hr=>by
  have hs:=hM r hr
  have:=nbs_each (f:=r.2) (by omega)
  exact ⟨this.1,this.2,(evd_gen h r.2 hs).1⟩⟩
theorem ldeltas_ev {M:TM} {ds:List DD} (h:EvOk M ds) {r:Int × List (Int × Rat)} (hr:r∈M):Pure Tryz.prog 84 [.sl (tab rowQ r.2),.sl (tab rowD ds)] (·=cD (evd ds r.2)) :=
 ldeltas_gen ds r.2 (h.ro r hr).2.2 h.vo (h.ro r hr).1 (h.ro r hr).2.1
def NewTV (base:Nat) (w:World) (F:Nat→Prop) (T:TypeId) (k:Nat) (post:List AV) (rows:List (List AV)) (v:Value):Prop :=
 ∃ vs x,v = .tuple (x::vs).toArray∧Rps w F noPl post vs∧NewA base w F T k rows x
def NewT (P:Program) (g:FuncId) (args:List AV) (T:TypeId) (k:Nat) (post:List AV) (R:List (List AV)→Prop):Prop :=
 post.all AV.flat=true∧∀ (w:World) (vals:List Value) (F:Nat→Prop),(∀ k,F k→k<w.heap.size)→Rps w F noPl args vals →
  Calls P g vals.toArray w fun e w'=>∃ v rows,e = .returned v∧R rows∧Below w.heap.size w w'∧NewTV w.heap.size w' F T k post rows v
def newTK (T:TypeId) (k:Nat) (post:List AV) (R:List (List AV)→Prop) (hp:List Ob):AV→Prop
 | .tup cells=>∃ x,cells=x::post∧newK T k R hp x
 | _=>False
def newTQ (P:Program) (rs:List ResultVar) (T:TypeId) (k:Nat) (post:List AV) (R:List (List AV)→Prop):Exit→St→Prop
 | .normal,s=>resW P s rs fun xs=>newTK T k post R s.hp (asOne xs)
 | .ret,s=>resW P s rs fun xs=>newTK T k post R s.hp (asOne xs)
 | _,_=>False
theorem newT_of_W {P:Program} {g:FuncId} {fn:Func} {c:Code} {args:List AV} {T:TypeId} {k:Nat} {post:List AV} {R:List (List AV)→Prop} (hf:P.funcs[g]?=some fn) (hb:fn.body=some c) {rs:List ResultVar} (hrs:fn.results.toList=rs) {nt:Nat} (hn:fn.ntmps=nt) (hpost:post.all AV.flat=true)
  (h:W P [] c (newTQ P rs T k post R) ⟨args++List.replicate (nt-args.length) .und,List.replicate nt .dead⟩):NewT P g args T k post R:=by
 subst hrs;subst hn
 refine ⟨hpost,fun w vals F hF hv=>?_⟩
 have hlen:=hv.length
 refine calls_of_wp hf hb ?_
 let fr:Fr:=⟨w.heap.size,w,F,fun _=>False,[],noPl,fun _ _ h=>h⟩
 have hA:Av F noPl=F:=by
  funext k
  simp [Av,noPl]
 have hrep:Rep fr noPl ⟨args++List.replicate (fn.ntmps-args.length) .und,List.replicate fn.ntmps .dead⟩ { tmps:=vals.toArray++Array.replicate (fn.ntmps-vals.toArray.size) undef,defers:=[] } w:=by
  refine { keep:=⟨rfl,rfl,rfl,Nat.le_refl _,fun _ _ _=>rfl⟩,base:=Nat.le_refl _,defers:=rfl,heap:=fun i=>?_,inj:=(fun i j p q b hi=>by cases hi),mine:=(fun i p b hi=>by cases hi),fF:=hF,pin:=(fun i hi=>by cases hi),env:=?_ }
  ·show HRo _ _ _ ((List.replicate fn.ntmps Ob.dead).getD i .dead) _
   rw [show (List.replicate fn.ntmps Ob.dead).getD i .dead = .dead by
    rw [List.getD_eq_getElem?_getD,List.getElem?_replicate];split <;> rfl]
   rfl
  ·show Rps w (Av F noPl) noPl _ _
   rw [hA]
   have h1:(vals.toArray++Array.replicate (fn.ntmps-vals.toArray.size) undef).toList=vals++List.replicate (fn.ntmps-args.length) undef:=by
    simp [hlen]
   rw [h1]
   refine hv.append (Rps.mk (by simp) fun i x v hx hv=>?_)
   rw [List.getElem?_replicate] at hx hv
   split at hx
   ·rename_i hi;rw [if_pos hi] at hv;cases hx;cases hv;simp only [Rp]
   ·cases hx
 refine Code.wp_mono (fun e a' w' he=>?_) (h fr noPl _ w rfl hrep)
 obtain ⟨s,ρ,hq,hr⟩:=he
 have fin:resW P s fn.results.toList (fun xs=>newTK T k post R s.hp (asOne xs))→a'.defers=[]∧∃ v,(results fn a'.tmps).run P w' = .ok v w'∧∃ v2 rows,Ending.returned v = .returned v2∧R rows∧Below w.heap.size w w'∧NewTV w.heap.size w' F T k post rows v2:=by
  intro hk
  obtain ⟨xs,v,h1,h2,h3⟩:=results_sound hr fn hk
  have hbel:Below w.heap.size w w':=⟨hr.keep.os,hr.keep.tape,hr.keep.output,hr.keep.size,fun k hk=>hr.keep.block k hk (fun h=>h)⟩
  refine ⟨hr.defers,v,h2,?_⟩
  cases hx:asOne xs with
  | tup cells =>
   rw [hx] at h1 h3
   obtain ⟨x,rfl,hkx⟩:=h1
   simp only [Rp,Rps] at h3
   obtain ⟨vs0,rfl,y,us,rfl,h7,h5⟩:=h3
   obtain ⟨rows,hR,hN⟩:=newK_A hr (fun _ h=>h) hkx h7
   exact ⟨_,rows,rfl,hR,hbel,us,y,rfl,flats_any _ hpost h5,hN⟩
  | _=>rw [hx] at h1;exact h1.elim
 cases e with
 | normal=>exact fin hq
 | ret=>exact fin hq
 | _=>exact hq.elim
theorem call_newT {P:Program} {pins:List Nat} {g:FuncId} {avs:List AV} {s:St} {K:AV→St→Prop} {T:TypeId} {k:Nat} {post:List AV} {R:List (List AV)→Prop} (d:Nat) (hd:s.hp[d]?=some .dead) (ha:AV.pures avs=true) (hnew:NewT P g (AV.datas avs) T k post R)
  (hk:∀ rows,R rows→K (.tup (.sref d 0 rows.length::post)) (s.seth d (.arr T k true rows))):CallOk P pins g avs s K:=by
 intro fr ρ a w vals hp hr hv
 refine (hnew.2 w vals (Av fr.F ρ) ?_ (Rps.data avs (Rps.pure noPl avs ha hv))).mono fun e w' he=>?_
 ·rintro k (hk | ⟨i,p,h1,h2⟩)
  ·exact Nat.lt_of_lt_of_le (hr.fF k hk) hr.base
  ·exact hr.lt h1 h2
 obtain ⟨v,rows,h1,h2,h3,vs,x,rfl,h4,h5⟩:=he
 obtain ⟨ρ',h6,h7⟩:=hr.adopt h3 hd h5
 refine ⟨_,_,_,ρ',h1,hk rows h2,h6,?_⟩
 simp only [Rp,Rps]
 exact ⟨_,rfl,_,_,rfl,by simpa only [Rp] using h7,flats_any _ hnew.1 h4⟩
theorem NewT.pure {P:Program} {g:FuncId} {args:List AV} {T:TypeId} {k:Nat} {post:List AV} {R:List (List AV)→Prop} (h:NewT P g args T k post R):Pure P g args (fun r=>∃ rows,R rows∧r = .tup (.sl rows::post)):=by
 intro w vals F hF hv
 refine (h.2 w vals F hF hv).mono fun e w' he=>?_
 obtain ⟨v,rows,h1,h2,h3,vs,x,rfl,h5,h4⟩:=he
 refine ⟨_,_,h1,⟨rows,h2,rfl⟩,h3,?_⟩
 simp only [Rp,Rps]
 refine ⟨_,rfl,_,_,rfl,?_,h5⟩
 rcases h4 with ⟨rfl,rfl⟩ | ⟨b,cap,hb,rfl,vss,rest,e1,e2,e3,e4,e5,e6⟩
 ·exact ⟨none,0,by simp,by simp,by simp [maxLen],.inl rfl⟩
 ·refine ⟨_,cap,rfl,e5,e6,.inr ⟨b,0,vss,rfl,fun hFb=>?_,(Array.getElem?_eq_some_iff.1 e1).1,?_,RpR.later (ρ:=noPl) _ ⟨Nat.le_refl _,fun c _ hc => .inl hc,fun _ _ _=>rfl,fun _ _ h=>h⟩ e2⟩⟩
  ·have:=hF b hFb
   omega
  ·intro j u hj
   have h5:=(List.getElem?_eq_some_iff.1 hj).1
   simp only [World.cell?,Nat.zero_add]
   rw [e1]
   simp [List.getElem?_append_left h5,hj]
theorem sVg {G G':Prop} (h:G') (e:G=G':=by conv=>lhs;simp (disch:=omega) only [rowsOf,cNat,cN,St.ret,St.seth,Eff.app,Eff.wi,sepL,guardOf,St.known,objOf,List.set,sliceW,litW,copyW,lenOf,bnd,mxOk,ofCells,TI.isAgg,cellsOf,storable,AV.one,dead,laid,overlay,reduceCtorEq,Int.reduceLE,Int.reduceLT,Int.reduceSub,Int.reduceAdd,Nat.reduceMul,Int.reduceToNat,Nat.reducePow,Int.reduceNeg,Nat.reduceAdd,Nat.reduceLT,Nat.reduceLeDiff,sA,sB,Nat.reduceEqDiff,cellsX_all,cellsX_one,cellsX_pure,cQ,cD,rowQ,rowU,rowT,rowM,tab_length,List.take_length,tab_drop,tab_take,tab_nil,rowD_all,rowD_one,rowD_pure,rowT_all,rowT_one,rowT_pure,rowU_all,rowU_one,rowU_pure,rowQ_all,rowQ_one,rowQ_pure,rowM_all,rowM_one,rowM_pure,findA_tab,range_snoc,pure_sl,sT]):G:=e.mpr h
theorem sVgX {G G' P:Prop} (p:P) (h:G') (e:P→G=G':=by intro p;conv=>lhs;simp (disch:=omega) only [rowsOf,cNat,cN,St.ret,St.seth,Eff.app,Eff.wi,sepL,guardOf,St.known,objOf,List.set,sliceW,litW,copyW,lenOf,bnd,mxOk,ofCells,TI.isAgg,cellsOf,storable,AV.one,dead,laid,overlay,reduceCtorEq,Int.reduceLE,Int.reduceLT,Int.reduceSub,Int.reduceAdd,Nat.reduceMul,Int.reduceToNat,Nat.reducePow,Int.reduceNeg,Nat.reduceAdd,Nat.reduceLT,Nat.reduceLeDiff,sA,sB,Nat.reduceEqDiff,cellsX_all,cellsX_one,cellsX_pure,cQ,cD,rowQ,rowU,rowT,rowM,tab_length,List.take_length,tab_drop,tab_take,tab_nil,rowD_all,rowD_one,rowD_pure,rowT_all,rowT_one,rowT_pure,rowU_all,rowU_one,rowU_pure,rowQ_all,rowQ_one,rowQ_pure,rowM_all,rowM_one,rowM_pure,findA_tab,range_snoc,pure_sl,sT,p]):G:=(e p).mpr h
theorem aVg {G G':Prop} (h:G') (f:Wr G'→G:=by intro h;(repeat (first|(refine W_seqV fun K hK=>?_;(try (refine sVg ?_;try exact True.intro));(repeat refine aI ?_);refine hK _ ?_;clear hK K)|(refine W_seqR fun K hK=>?_;(try (refine sVg ?_;try exact True.intro));(repeat refine aI ?_);refine hK _ ?_;clear hK K)|(refine W_seqD mixed [] (by kernel_rfl) fun K hK=>?_;(try (refine sVg ?_;try exact True.intro));(repeat refine aI ?_);refine hK _ ?_;clear hK K)));exact h.out):G:=f ⟨h⟩
def cellsX (x:Rat × Rat):List AV:=(dq x).cells
theorem cellsX_all (f:List (Rat × Rat)):AllLen 6 (tab cellsX f):=tab_all (k:=6) (fun _=>rfl) f
theorem cellsX_one (f:List (Rat × Rat)):AllOne (tab cellsX f):=tab_one (fun _=>rfl) f
theorem cellsX_pure (f:List (Rat × Rat)):AllPure (tab cellsX f):=tab_pure (fun _=>rfl) f
def extR (M:TM) (ds:List DD) (i:Nat):Rat × Rat:=match lookM M i with | some g=>evd ds g | none=>(ds.getD i default).v
def extL (M:TM) (ds:List DD):List (Rat × Rat):=(List.range ds.length).map (extR M ds)
def extV (n:Int) (t:TR) (ds:List DD):AV:=if goodB n (nrmT t) then if (ds.length:Int)=n then .tup [.sl (tab cellsX (extL (nrmT t) ds)),.int .i64 0] else .tup [.sl [],.int .i64 1] else .tup [.sl [],.int .i64 70]
theorem set_fill {α:Type} (A:List α) (z x:α) (k:Nat):(A++List.replicate (k+1) z).set A.length x=A++[x]++List.replicate k z:=by
 rw [List.set_append_right _ _ (Nat.le_refl _),Nat.sub_self,List.replicate_succ,List.set_cons_zero,List.append_assoc]
 rfl
theorem text_new (t:TR) (ds:List DD) (hT:TG t) (hd:EvOk (nrmT t) ds) (hl:ds.length<1099511627776) (hg:goodB (ds.length:Int) (nrmT t)=true) :
  NewT Tryz.prog 181 [cT (ds.length:Int) t,.sl (tab rowD ds)] 41 6 [.int .i64 0] (·=tab cellsX (extL (nrmT t) ds)):=by
 have a1:=hT.load (ds.length:Int)
 have hM:=hT.mok
 unfold loadV at a1
 rw [if_pos hg] at a1
 unfold cT at *
 have hld:∀ i g,lookM (nrmT t) i=some g→Pure Tryz.prog 84 [.sl (tab rowQ g),.sl (tab rowD ds)] (·=cD (evd ds g)):=fun i g h =>
  ldeltas_ev hd (look_mem h)
 have hnd:∀ i,i<ds.length→Pure Tryz.prog 102 [(ds.getD i default).av] (·=cD (ds.getD i default).v):=fun i hi=>dnorm_ok _ (hd.mem _ (getD_mem hi)).1
 clear hg hM hd hT
 generalize nrmT t=M at *
 have hnb:((ds.length:Int) != (ds.length:Int))=false:=by simp
 (refine newT_of_W (T:=41) (k:=6) (post:=[.int .i64 0]) Tryz.func181 rfl (rs:=[Go.ResultVar.tmp 4,Go.ResultVar.tmp 5]) rfl (nt:=57) rfl rfl ?_;simp only [List.length_cons,List.length_nil,List.replicate,List.cons_append,List.nil_append])
 (refine aVg ?_)
 ((refine W_seqV ?_);intro K hK;(refine sVg ?_))
 (refine ⟨by kernel_rfl,_,.pure rfl (a1),?_⟩;(try (refine sVg ?_)))
 (refine hK _ ?_;clear hK K)
 refine W_seq ?_
 refine W_block ?_
 ((refine W_seqV ?_);intro K hK;(refine sVg ?_))
 (refine hK _ ?_;clear hK K)
 (refine W_cf rfl ?_)
 ((refine W_seqV ?_);intro K hK;(refine sVgX hnb ?_))
 (refine hK _ ?_;clear hK K)
 (refine W_cf rfl ?_)
 refine W_skip ?_
 simp only [thenW,blockW]
 ((refine W_seqR ?_);intro K hK;(refine sVg ?_))
 (repeat refine aI ?_);refine hK _ ?_;clear hK K
 have hst:∀ i:Nat,(List.range (i+1)).map (extR M ds)=(List.range i).map (extR M ds)++[extR M ds i]:=fun i=>by rw [List.range_succ,List.map_append];rfl
 have hz:(List.range 0).map (extR M ds)=[]:=rfl
 have hln:∀ i:Nat,((List.range i).map (extR M ds)).length=i:=fun i=>by simp
 unfold extL
 have hex1:∀ (i:Nat) g,lookM M i=some g→extR M ds i=evd ds g:=fun i g h=>by unfold extR;rw [h]
 have hex2:∀ (i:Nat),lookM M i=none→extR M ds i=(ds.getD i default).v:=fun i h=>by unfold extR;rw [h]
 generalize hF:extR M ds=F at *
 generalize hE:(fun i:Nat=>(List.range i).map F)=E at *
 have hE':∀ i:Nat,(List.range i).map F=E i:=fun i=>congrFun hE i
 simp only [hE'] at *
 clear hE hE' hF
 have hfill:∀ i z,i<ds.length→(tab cellsX (E i)++List.replicate (ds.length-i) z).set i (cellsX (F i))=tab cellsX (E (i+1))++List.replicate (ds.length-(i+1)) z∧(tab cellsX (E i)++List.replicate (ds.length-i) z).getD i []=z:=fun i z hi=>by
  have h1:(tab cellsX (E i)).length=i:=by rw [tab_length,hln]
  obtain ⟨k,hk⟩:∃ k,ds.length-i=k+1:=⟨ds.length-i-1,by omega⟩
  have hk2:ds.length-(i+1)=k:=by omega
  have h2:=set_fill (tab cellsX (E i)) z (cellsX (F i)) k
  rw [h1] at h2
  rw [hk,hk2,h2,hst,← tab_snoc]
  refine ⟨rfl,?_⟩
  rw [List.getD_eq_getElem?_getD,List.getElem?_append_right (by omega),h1,Nat.sub_self,List.replicate_succ]
  rfl
 have hlen:∀ i z,i≤ds.length→(tab cellsX (E i)++List.replicate (ds.length-i) z).length=ds.length:=fun i z hi=>by rw [List.length_append,tab_length,hln,List.length_replicate];omega
 refine W_seq ?_
 ((refine W_seqV ?_);intro K hK;(refine sVg ?_))
 (refine hK _ ?_;clear hK K)
 generalize hzz:[AV.bool false,AV.nils,AV.nils,AV.bool false,AV.nils,AV.nils]=zz at *
 have hzl:zz.length=6:=by rw [← hzz];rfl
 have hzd:List.drop 6 zz=[]:=by rw [← hzz];rfl
 refine W_block (W_loop (fun s:{i:Nat // i≤ds.length} =>
   ⟨[.any,.sl (tab rowD ds),.any,.any,.any,.any,.md t.length (List.range t.length) (tab rowU M),.any,.sref 28 0 ds.length,.any,.any,.any,.any,.any,.any,.any,.any,.any,.any,.any,.any,.any,.any,.any,.any,.any,.any,.any,.any,.any,.int .i64 ds.length,.int .i64 s.1,.any,.any,.any,.any,.any,.any,.any,.any,.any,.any,.any,.any,.any,.any,.any,.any,.any,.any,.any,.any,.any,.any,.any,.any,.any],[.dead,.dead,.dead,.dead,.dead,.dead,.dead,.dead,.dead,.dead,.dead,.dead,.dead,.dead,.dead,.dead,.dead,.dead,.dead,.dead,.dead,.dead,.dead,.dead,.dead,.dead,.dead,.dead,.arr 41 6 true (tab cellsX (E s.1)++List.replicate (ds.length-s.1) zz),.dead,.dead,.dead,.dead,.dead,.dead,.dead,.dead,.dead,.dead,.dead,.dead,.dead,.dead,.dead,.dead,.dead,.dead,.dead,.dead,.dead,.dead,.dead,.dead,.dead,.dead,.dead,.dead]⟩) (fun s=>ds.length-s.1)
   ⟨0,by omega⟩ (Le_drop (by simp [leE]) (by simp [leH,hz,tab]) rfl rfl) fun s=>?_)
 obtain ⟨i,hi⟩:=s
 dsimp only
 by_cases hlt:i<ds.length
 ·obtain ⟨hf1,hf2⟩:=hfill i zz hlt
  have hf3:=hlen i zz hi
  generalize tab cellsX (E i)++List.replicate (ds.length-i) zz=R at *
  generalize hR':tab cellsX (E (i+1))++List.replicate (ds.length-(i+1)) zz=R' at *
  refine W_seq ?_
  ((refine W_regV ?_);intro K hK;(refine sVgX hlt ?_))
  (refine hK _ ?_;clear hK K)
  (refine W_seq (W_ct rfl ?_))
  refine W_skip ?_
  simp only [thenW]
  refine W_seq ?_
  refine W_block ?_
  ((refine W_seqV ?_);intro K hK;(refine sVg ?_))
  (refine hK _ ?_;clear hK K)
  cases hid:idxM M (i:Int) with
  | some j =>
   obtain ⟨hj1,hj2,hj3,hj4⟩:=idx_some hid
   have hXj:(tab rowU M).getD j []=rowU (M.getD j default):=rowU_getD hj1
   have hc:=hld _ _ hj3
   have hx:=hex1 i _ hj3
   generalize M.getD j default=q at *
   obtain ⟨w,g⟩:=q
   dsimp only at *
   generalize evd ds g=x at *
   simp only [rowU] at hXj
   simp only [cD] at hc
   ((refine W_seqV ?_);intro K hK;(refine sVgX (And.intro hid hXj) ?_))
   (refine hK _ ?_;clear hK K)
   ((refine W_seqV ?_);intro K hK;(refine sVg ?_))
   (refine hK _ ?_;clear hK K)
   (refine W_ct rfl ?_)
   ((refine W_regV ?_);intro K hK;(refine sVgX (And.intro hlt (And.intro hf3 (And.intro hf2 (And.intro hzl hzd)))) ?_))
   (refine ⟨by kernel_rfl,_,.pure rfl (hc),?_⟩;(try (refine sVg ?_));(repeat refine aI ?_))
   (refine sVgX (And.intro hlt (And.intro hf3 (And.intro hf2 (And.intro hzl hzd)))) ?_;try exact True.intro)
   (refine hK _ ?_;clear hK K)
   simp only [blockW,thenW]
   ((refine W_regV ?_);intro K hK;(refine sVg ?_))
   (refine hK _ ?_;clear hK K)
   simp only [blockW,thenW]
   refine ⟨⟨i+1,by omega⟩,Le_drop (by simp [leE]) (by simp [leH,hR',← hf1,hx,cellsX,DD.cells,dq,qr]) rfl rfl,?_⟩
   dsimp only
   omega
  | none =>
   have hx:=hex2 i (idx_none hid).2
   have hc:=hnd i hlt
   have hYi:(tab rowD ds).getD i []=rowD (ds.getD i default):=tab_getD hlt
   generalize hyy:ds.getD i default=y at *
   generalize y.v=x at *
   simp only [rowD,DD.cells] at hYi
   simp only [cD,DD.av,DD.cells] at hc
   ((refine W_seqV ?_);intro K hK;(refine sVgX hid ?_))
   (refine hK _ ?_;clear hK K)
   ((refine W_seqV ?_);intro K hK;(refine sVg ?_))
   (refine hK _ ?_;clear hK K)
   (refine W_cf rfl ?_)
   ((refine W_regV ?_);intro K hK;(refine sVgX (And.intro hlt (And.intro hYi (And.intro hf3 (And.intro hf2 (And.intro hzl hzd))))) ?_))
   (refine ⟨by kernel_rfl,_,.pure rfl (hc),?_⟩;(try (refine sVg ?_));(repeat refine aI ?_))
   (refine sVgX (And.intro hlt (And.intro hf3 (And.intro hf2 (And.intro hzl hzd)))) ?_;try exact True.intro)
   (refine hK _ ?_;clear hK K)
   simp only [blockW,thenW]
   ((refine W_regV ?_);intro K hK;(refine sVg ?_))
   (refine hK _ ?_;clear hK K)
   simp only [blockW,thenW]
   refine ⟨⟨i+1,by omega⟩,Le_drop (by simp [leE]) (by simp [leH,hR',← hf1,hx,cellsX,DD.cells,dq,qr]) rfl rfl,?_⟩
   dsimp only
   omega
 ·obtain rfl:i=ds.length:=by omega
  rw [Nat.sub_self,List.replicate_zero,List.append_nil]
  have hll:=hln ds.length
  generalize E ds.length=oo at *
  refine W_seq ?_
  ((refine W_regV ?_);intro K hK;(refine sVg ?_))
  (refine hK _ ?_;clear hK K)
  (refine W_seq (W_cf rfl ?_))
  refine W_exit ?_
  simp only [thenW,blockW,if_true]
  refine W_seq ?_
  ((refine W_regV ?_);intro K hK;(refine sVg ?_))
  (refine hK _ ?_;clear hK K)
  refine W_ret ?_
  (simp only [thenW,blockW,newTQ,resW,resV,asOne_two,List.getD_cons_zero,List.getD_cons_succ,newTK])
  exact ⟨_,rfl,_,rfl,by rw [tab_length,hll],rfl,rfl⟩
theorem TOk.ev {t:TR} (hT:TOk t) {ds:List DD} (hd:DsOk ds):EvOk (nrmT t) ds:=hd.ev fun r hr=>by have:=tb_mem hr;have:=hT.tb;omega
def eqAt (M:TM) (ds:List DD) (i:Nat):Bool:=dsg (dsub (extR M ds i) (ds.getD i default).v) == 0
def eqTo (M:TM) (ds:List DD) (k:Nat):Bool:=(List.range k).all (eqAt M ds)
def holdsV (n:Int) (t:TR) (ds:List DD):AV:=if goodB n (nrmT t) then if (ds.length:Int)=n then .tup [.bool (eqTo (nrmT t) ds ds.length),.int .i64 0] else .tup [.bool false,.int .i64 1] else .tup [.bool false,.int .i64 70]
theorem extL_len (M:TM) (ds:List DD):(extL M ds).length=ds.length:=by simp [extL]
end Go.Proofs.YtjmkfbhecgkbmaaGreat.Vm
namespace Go.Proofs.YtjmkfbhecgkbmaaGreat.Vm
open Go Go.RowKit
end Go.Proofs.YtjmkfbhecgkbmaaGreat.Vm
namespace Go.Proofs.YtjmkfbhecgkbmaaGreat.Vm
open Go Go.RowKit
end Go.Proofs.YtjmkfbhecgkbmaaGreat.Vm
namespace Go.Proofs.YtjmkfbhecgkbmaaGreat.Vm
open Go Go.RowKit
theorem ev2_stepR (x:Int→Rat) (f out:List (Int × Rat)) (r:Int × List (Int × Rat)) (h:x r.1=ev2 x r.2):ev2 x (stepR f out r)=ev2 x out:=by
 unfold stepR
 rw [ev2_norm,ev2_append,ev2_sub,ev2_norm,ev2_scale,← h]
 simp only [ev2]
 grind
theorem ev2_fold (x:Int→Rat) (f:List (Int × Rat)):∀ (M:TM) (out:List (Int × Rat)),(∀ r∈M,x r.1=ev2 x r.2)→ev2 x (M.foldl (stepR f) out)=ev2 x out
 | [],_,_=>rfl
 | r::M,out,h=>by
  rw [List.foldl_cons,ev2_fold x f M _ fun q hq=>h q (List.mem_cons_of_mem _ hq),ev2_stepR x f out r (h r List.mem_cons_self)]
theorem ev2_expr (x:Int→Rat) {n:Int} {M:TM} (hg:GT n M) (hx:∀ r∈M,x r.1=ev2 x r.2) (f:List (Int × Rat)):ev2 x (exprT M f)=ev2 x f:=by
 have h:M.foldl (stepR f) (normF f)=exprT M f:=(exprR_ok hg.nodup _).ext (exprP_ok hg _)
 rw [← h,ev2_fold x f M _ hx,ev2_norm]
theorem ev2_same {x y:Int→Rat}:∀ {f:List (Int × Rat)},(∀ p∈f,x p.1=y p.1)→ev2 x f=ev2 y f
 | [],_=>rfl
 | p::f,h=>by
  simp only [ev2]
  rw [h p List.mem_cons_self,ev2_same fun q hq=>h q (List.mem_cons_of_mem _ hq)]
theorem mul_den (q:Rat):q*(q.den:Rat)=(q.num:Rat):=by
 have h0:(q.den:Rat)≠0:=fun h=>by
  rw [show (0:Rat)=((0:Nat):Rat) from rfl,Rat.natCast_inj] at h
  exact q.den_nz h
 have h:q=(q.num:Rat) / (q.den:Rat):=by
  have:=Rat.mkRat_self q
  rw [Rat.mkRat_eq_div] at this
  simpa using this.symm
 calc q*(q.den:Rat)=(q.num:Rat) / (q.den:Rat)*(q.den:Rat):=by rw [← h]
  _=_:=Rat.div_mul_cancel h0
def Ht (D m:Nat) (q:Rat):Prop:=∃ k:Int,q*(D:Rat)=(k:Rat)∧k.natAbs≤m
theorem Ht.zero (D m:Nat):Ht D m 0:=⟨0,by simp,by simp⟩
theorem Ht.mono {D m m':Nat} {q:Rat} (h:Ht D m q) (hm:m≤m'):Ht D m' q:=by
 obtain ⟨k,h1,h2⟩:=h
 exact ⟨k,h1,by omega⟩
theorem Ht.add {D m m':Nat} {q r:Rat} (h:Ht D m q) (h':Ht D m' r):Ht D (m+m') (q+r):=by
 obtain ⟨k,h1,h2⟩:=h
 obtain ⟨l,h3,h4⟩:=h'
 exact ⟨k+l,by rw [Rat.add_mul,h1,h3];simp,by omega⟩
theorem Ht.neg {D m:Nat} {q:Rat} (h:Ht D m q):Ht D m (-q):=by
 obtain ⟨k,h1,h2⟩:=h
 exact ⟨-k,by rw [Rat.neg_mul,h1];simp,by omega⟩
theorem Ht.sub {D m m':Nat} {q r:Rat} (h:Ht D m q) (h':Ht D m' r):Ht D (m+m') (q-r):=by
 rw [Rat.sub_eq_add_neg]
 exact h.add h'.neg
theorem Ht.mul {D E m m':Nat} {q r:Rat} (h:Ht D m q) (h':Ht E m' r):Ht (D*E) (m*m') (q*r):=by
 obtain ⟨k,h1,h2⟩:=h
 obtain ⟨l,h3,h4⟩:=h'
 refine ⟨k*l,?_,by rw [Int.natAbs_mul];exact Nat.mul_le_mul h2 h4⟩
 have:q*r*((D*E:Nat):Rat)=(q*(D:Rat))*(r*(E:Rat)):=by
  rw [Rat.natCast_mul];grind
 rw [this,h1,h3,Rat.intCast_mul]
theorem Ht.wide {D m:Nat} {q:Rat} (h:Ht D m q) (E:Nat):Ht (D*E) (m*E) q:=by
 obtain ⟨k,h1,h2⟩:=h
 refine ⟨k*E,?_,by rw [Int.natAbs_mul];exact Nat.mul_le_mul h2 (by simp)⟩
 rw [Rat.natCast_mul,← Rat.mul_assoc,h1,Rat.intCast_mul]
 rfl
theorem Ht.wide' {D m:Nat} {q:Rat} (h:Ht D m q) (E:Nat):Ht (E*D) (E*m) q:=by
 rw [Nat.mul_comm E D,Nat.mul_comm E m]
 exact h.wide E
theorem Ht.H {D m:Nat} {q:Rat} (h:Ht D m q) (hD:0<D):Vm.H q≤m+D:=by
 obtain ⟨k,h1,h2⟩:=h
 have h0:(D:Rat)≠0:=fun h=>by
  rw [show (0:Rat)=((0:Nat):Rat) from rfl,Rat.natCast_inj] at h
  omega
 have:q=mkRat k D:=by
  rw [Rat.mkRat_eq_div,← h1]
  have:=Rat.mul_div_cancel (a:=q) h0
  simpa using this.symm
 rw [this]
 exact Nat.le_trans (H_mkRat _ (by omega)) (by omega)
theorem Ht.nb {D m k:Nat} {q:Rat} (h:Ht D m q) (hD:0<D) (h1:D<2^k) (h2:m<2^k):Vm.nb q≤k+1:=by
 refine nb_le (Nat.lt_of_le_of_lt (h.H hD) ?_)
 rw [Nat.pow_succ]
 omega
theorem Ht.self (q:Rat):Ht q.den (Vm.H q) q:=⟨q.num,mul_den q,by unfold Vm.H;omega⟩
def dnf:List (Int × Rat)→Nat
 | []=>1
 | p::f=>p.2.den*dnf f
def htf:List (Int × Rat)→Nat
 | []=>1
 | p::f=>Vm.H p.2*htf f
theorem dnf_pos:∀ f,0<dnf f
 | []=>by simp [dnf]
 | p::f=>Nat.mul_pos p.2.den_pos (dnf_pos f)
theorem dnf_le:∀ f,dnf f≤htf f
 | []=>by simp [dnf,htf]
 | p::f=>Nat.mul_le_mul (by unfold Vm.H;omega) (dnf_le f)
theorem htf_lt:∀ f,htf f<2^(nbs f+1)
 | []=>by simp [htf,nbs]
 | p::f=>by
  have h1:=H_lt p.2
  have h2:=htf_lt f
  simp only [htf,nbs]
  rw [Nat.add_assoc,Nat.pow_add]
  exact Nat.mul_lt_mul_of_lt_of_le h1 (Nat.le_of_lt h2) (Nat.pow_pos (by omega))
theorem Ht.ev {x:Int→Rat} {E m:Nat}:∀ (f:List (Int × Rat)),(∀ p∈f,Ht E m (x p.1))→Ht (dnf f*E) (htf f*m) (ev2 x f)
 | [],_=>Ht.zero _ _
 | p::f,h=>by
  have ih:=Ht.ev f fun q hq=>h q (List.mem_cons_of_mem _ hq)
  obtain ⟨k,h1,h2⟩:=h p List.mem_cons_self
  obtain ⟨l,h3,h4⟩:=ih
  have h5:p.2*(p.2.den:Rat)=(p.2.num:Rat):=mul_den _
  refine ⟨p.2.num*(dnf f:Int)*k+p.2.den*l,?_,?_⟩
  ·simp only [ev2,dnf]
   rw [Rat.natCast_mul] at h3
   rw [Rat.natCast_mul,Rat.natCast_mul,Rat.intCast_add,Rat.intCast_mul,Rat.intCast_mul,Rat.intCast_mul,← h1,← h3,← h5]
   simp only [Rat.intCast_natCast]
   grind
  ·refine Nat.le_trans (natAbs_add_le _ _) ?_
   rw [Int.natAbs_mul,Int.natAbs_mul,Int.natAbs_mul,Int.natAbs_natCast,Int.natAbs_natCast]
   simp only [htf]
   have h6:p.2.num.natAbs*dnf f*k.natAbs≤p.2.num.natAbs*htf f*m:=Nat.mul_le_mul (Nat.mul_le_mul_left _ (dnf_le f)) h2
   have h7:p.2.den*l.natAbs≤p.2.den*(htf f*m):=Nat.mul_le_mul_left _ h4
   have h8:Vm.H p.2*htf f*m=p.2.num.natAbs*htf f*m+p.2.den*(htf f*m):=by
    unfold Vm.H
    rw [Nat.add_mul,Nat.add_mul,Nat.mul_assoc p.2.den]
   omega
theorem Ht.evn {x:Int→Rat} {D E m n:Nat}:∀ (f:List (Int × Rat)),(∀ p∈f,Ht D n p.2∧Ht E m (x p.1))→Ht (D*E) (f.length*(n*m)) (ev2 x f)
 | [],_=>Ht.zero _ _
 | p::f,h=>by
  have ih:=Ht.evn f fun q hq=>h q (List.mem_cons_of_mem _ hq)
  have h1:=h p List.mem_cons_self
  simp only [ev2,List.length_cons]
  have h2:=(h1.1.mul h1.2).add ih
  exact h2.mono (by rw [Nat.add_mul];omega)
def dnM:TM→Nat
 | []=>1
 | r::M=>dnf r.2*dnM M
def htM:TM→Nat
 | []=>1
 | r::M=>htf r.2*htM M
theorem dnM_pos:∀ M,0<dnM M
 | []=>by simp [dnM]
 | r::M=>Nat.mul_pos (dnf_pos _) (dnM_pos M)
theorem dnM_le:∀ M,dnM M≤htM M
 | []=>by simp [dnM,htM]
 | r::M=>Nat.mul_le_mul (dnf_le _) (dnM_le M)
theorem htM_lt:∀ M,htM M<2^(tb M+1)
 | []=>by simp [htM,tb]
 | r::M=>by
  have h1:=htf_lt r.2
  have h2:=htM_lt M
  have h3:tb (r::M)=nbs r.2+1+tb M:=by simp only [tb];try omega
  simp only [htM]
  rw [h3,Nat.add_assoc (nbs r.2+1),Nat.pow_add]
  exact Nat.mul_lt_mul_of_lt_of_le h1 (Nat.le_of_lt h2) (Nat.pow_pos (by omega))
theorem Ht.ofM {q:Rat} {E m:Nat} {r:Int × List (Int × Rat)}:∀ {M:TM},r∈M→Ht (dnf r.2*E) (htf r.2*m) q→Ht (dnM M*E) (htM M*m) q
 | [],h,_=>by cases h
 | s::M,h,hq=>by
  simp only [dnM,htM]
  rcases List.mem_cons.1 h with rfl | h
  ·have h1:=hq.wide (dnM M)
   rw [Nat.mul_right_comm (dnf r.2) E,Nat.mul_right_comm (htf r.2) m] at h1
   exact h1.mono (Nat.mul_le_mul_right _ (Nat.mul_le_mul_left _ (dnM_le M)))
  ·have h1:=(Ht.ofM h hq).wide' (dnf s.2)
   rw [← Nat.mul_assoc,← Nat.mul_assoc] at h1
   exact h1.mono (Nat.mul_le_mul_right _ (Nat.mul_le_mul_right _ (dnf_le _)))
theorem coef_ev2 (v:Int):∀ f:List (Int × Rat),coef f v=ev2 (fun w=>if w=v then 1 else 0) f
 | []=>rfl
 | p::f=>by
  rw [coef,ev2,coef_ev2 v f]
  congr 1
  split <;> simp [Rat.mul_one,Rat.mul_zero]
theorem Ht.one (m:Nat) (h:1≤m):Ht 1 m 1:=⟨1,by simp,by simpa using h⟩
theorem Ht.coef (f:List (Int × Rat)) (v:Int):Ht (dnf f) (htf f) (Vm.coef f v):=by
 rw [coef_ev2]
 have:=Ht.ev (x:=fun w=>if w=v then 1 else 0) (E:=1) (m:=1) f fun p _=>by
  split
  ·exact Ht.one 1 (Nat.le_refl _)
  ·exact Ht.zero _ _
 simpa using this
def putX (M:TM) (x b:Int):Rat:=match lookM M b with | some g=>Vm.coef g x | none=>if b=x then 1 else 0
end Go.Proofs.YtjmkfbhecgkbmaaGreat.Vm
