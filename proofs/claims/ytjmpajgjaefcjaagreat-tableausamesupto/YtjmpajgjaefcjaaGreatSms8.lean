/-
  The law TableauSames holds of the given program, for all arguments of bulk at most 1048576: no further conditions.
-/
import Derived.Test.YtjmpajgjaefcjaaGreatSms7
import Derived.Orders
import Derived.Below
import Derived.Laws.AppendOwn
import Derived.Laws.MakeOwn
import Derived.Laws.CopyRow
import Derived.Laws.Rows
import Derived.Laws.Cells
import Derived.Tactics
import Derived.Laws.BitsLemmas
import Derived.Maps.Range
import Derived.Carry
import Derived.Test.YtjmpajgjaefcjaaGreatProg
import Derived.Sort.Row
import Derived.Sort.Grow
import Derived.Shelf.Sort.Plain
import Derived.Shelf.Slices.In.SortNone
import Derived.Ground.NamesProg
import Derived.Test.YtjmpajgjaefcjaaGreatRows
import Derived.WalkKit
import Derived.ProofKit
import Derived.OpenShut
import Derived.JoinedCond

namespace Go.Proofs.YtjmpajgjaefcjaaGreat.Vm
open Go Go.RowKit
set_option maxRecDepth 100000
set_option linter.unusedVariables false
set_option linter.unusedSimpArgs false
def sig : Nat → (Nat → Rat) → Rat
 | 0,_ => 0
 | n + 1,f => sig n f + f n
theorem sig_congr {f g : Nat → Rat} : ∀ {n : Nat},(∀ i,i < n → f i = g i) → sig n f = sig n g
 | 0,_ => rfl
 | n + 1,h => by rw [sig,sig,sig_congr fun i hi => h i (by omega),h n (by omega)]
theorem sig_zero {f : Nat → Rat} {n : Nat} (h : ∀ i,i < n → f i = 0) : sig n f = 0 := by
 rw [sig_congr h]
 induction n with
 | zero => rfl
 | succ n ih => rw [sig,ih fun i hi => h i (by omega),Rat.add_zero]
theorem sig_add (f g : Nat → Rat) : ∀ n,sig n (fun i => f i + g i) = sig n f + sig n g
 | 0 => by simp [sig,Rat.add_zero]
 | n + 1 => by rw [sig,sig,sig,sig_add f g n];grind
theorem sig_mul (c : Rat) (f : Nat → Rat) : ∀ n,sig n (fun i => c * f i) = c * sig n f
 | 0 => by simp [sig,Rat.mul_zero]
 | n + 1 => by rw [sig,sig,sig_mul c f n];grind
theorem sig_swap (f : Nat → Nat → Rat) (m : Nat) : ∀ n,sig n (fun i => sig m (f i)) = sig m fun j => sig n fun i => f i j
 | 0 => by rw [sig_zero (f := fun j => sig 0 fun i => f i j) (n := m) fun i _ => rfl];rfl
 | n + 1 => by
  rw [sig,sig_swap f m n,← sig_add]
  rfl
def dl (i j : Nat) : Rat := if i = j then 1 else 0
theorem sig_dl (f : Nat → Rat) (k : Nat) : ∀ n,sig n (fun i => f i * dl i k) = if k < n then f k else 0
 | 0 => rfl
 | n + 1 => by
  rw [sig,sig_dl f k n]
  unfold dl
  by_cases h : n = k
  ·subst h;simp [Rat.zero_add,Rat.mul_one]
  ·rw [if_neg h,Rat.mul_zero,Rat.add_zero]
   by_cases h2 : k < n
   ·rw [if_pos h2,if_pos (by omega)]
   ·rw [if_neg h2,if_neg (by omega)]
def skip (k j : Nat) : Nat := if j < k then j else j + 1
theorem sig_skip (f : Nat → Rat) (k : Nat) : ∀ n,k ≤ n → sig (n + 1) f = f k + sig n fun j => f (skip k j)
 | 0,h => by
  obtain rfl : k = 0 := by omega
  simp [sig,Rat.add_comm]
 | n + 1,h => by
  by_cases hk : k = n + 1
  ·subst hk
   rw [sig,sig_congr (g := fun j => f (skip (n + 1) j)) fun i hi => by unfold skip;rw [if_pos hi]]
   exact Rat.add_comm _ _
  ·rw [sig,sig_skip f k n (by omega),sig]
   have : skip k n = n + 1 := by unfold skip;rw [if_neg (by omega)]
   rw [this,Rat.add_assoc]
theorem homog : ∀ (q p : Nat),q < p → ∀ a : Nat → Nat → Rat,∃ x : Nat → Rat,(∃ j,j < p ∧ x j ≠ 0) ∧ ∀ i,i < q → sig p (fun j => a i j * x j) = 0
 | 0,p,h,a => ⟨fun _ => 1,⟨0,h,by decide⟩,fun i hi => absurd hi (Nat.not_lt_zero _)⟩
 | q + 1,p,h,a => by
  by_cases hz : ∀ j,j < p → a q j = 0
  ·obtain ⟨x,h1,h2⟩ := homog q p (by omega) a
   refine ⟨x,h1,fun i hi => ?_⟩
   by_cases hq : i = q
   ·subst hq
    exact sig_zero fun j hj => by rw [hz j hj,Rat.zero_mul]
   ·exact h2 i (by omega)
  ·simp only [Classical.not_forall] at hz
   obtain ⟨k,hk,hne⟩ := hz
   obtain ⟨p,rfl⟩ : ∃ p',p = p' + 1 := ⟨p - 1,by omega⟩
   obtain ⟨y,⟨j0,hj0,hy0⟩,hy⟩ := homog q p (by omega) fun i j => a i (skip k j) - a i k / a q k * a q (skip k j)
   let t : Rat := -(sig p fun j => a q (skip k j) * y j) / a q k
   let x : Nat → Rat := fun j => if j = k then t else y (if j < k then j else j - 1)
   have hxk : x k = t := by simp [x]
   have hxs : ∀ j,x (skip k j) = y j := fun j => by
    simp only [x,skip]
    by_cases h : j < k
    ·rw [if_pos h,if_neg (by omega),if_pos h]
    ·rw [if_neg h,if_neg (by omega),if_neg (by omega),Nat.add_sub_cancel]
   have hq : t * a q k = -(sig p fun j => a q (skip k j) * y j) := Rat.div_mul_cancel hne
   refine ⟨x,⟨skip k j0,by unfold skip;split <;> omega,by rw [hxs];exact hy0⟩,fun i hi => ?_⟩
   rw [sig_skip _ k p (by omega),hxk]
   have h1 : (sig p fun j => a i (skip k j) * x (skip k j)) = sig p fun j => a i (skip k j) * y j := sig_congr fun j _ => by rw [hxs]
   rw [h1]
   by_cases hiq : i = q
   ·subst hiq
    rw [Rat.mul_comm,hq,Rat.neg_add_cancel]
   ·have h2 := hy i (by omega)
    have h3 : (sig p fun j => (a i (skip k j) - a i k / a q k * a q (skip k j)) * y j) = (sig p fun j => a i (skip k j) * y j) + -(a i k / a q k) * sig p fun j => a q (skip k j) * y j := by
     rw [← sig_mul,← sig_add]
     exact sig_congr fun j _ => by grind
    rw [h3] at h2
    have h4 : t = -(sig p fun j => a q (skip k j) * y j) * (a q k)⁻¹ := Rat.div_def _ _
    have h5 : a i k / a q k = a i k * (a q k)⁻¹ := Rat.div_def _ _
    rw [h4]
    rw [h5] at h2
    grind
section
variable {q p : Nat} {A B : Nat → Nat → Rat}
theorem inv_inj (h : ∀ j k,j < q → k < q → sig p (fun i => A j i * B i k) = dl j k) {y : Nat → Rat} (hy : ∀ i,i < p → sig q (fun j => A j i * y j) = 0) {k : Nat} (hk : k < q) : y k = 0 := by
 have h1 : sig q (fun j => y j * dl j k) = y k := by rw [sig_dl,if_pos hk]
 rw [← h1]
 have h2 : sig q (fun j => y j * dl j k) = sig q fun j => sig p fun i => y j * (A j i * B i k) := sig_congr fun j hj => by rw [← h j k hj hk,← sig_mul]
 rw [h2,sig_swap]
 refine sig_zero fun i hi => ?_
 have h3 : (sig q fun j => y j * (A j i * B i k)) = B i k * sig q fun j => A j i * y j := by
  rw [← sig_mul]
  exact sig_congr fun j _ => by grind
 rw [h3,hy i hi,Rat.mul_zero]
theorem inv_le (h : ∀ j k,j < q → k < q → sig p (fun i => A j i * B i k) = dl j k) : q ≤ p := by
 refine Classical.byContradiction fun hn => ?_
 obtain ⟨y,⟨j,hj,hne⟩,hy⟩ := homog p q (by omega) fun i j => A j i
 exact hne (inv_inj h hy hj)
theorem inv_left (h : ∀ j k,j < p → k < p → sig p (fun i => A j i * B i k) = dl j k) {i0 l : Nat} (hi : i0 < p) (hl : l < p) : sig p (fun k => B i0 k * A k l) = dl i0 l := by
 obtain ⟨y,⟨j,hj,hne⟩,hy⟩ := homog p (p + 1) (by omega) fun l j => if j = p then dl i0 l else A j l
 have hy' : ∀ l,l < p → sig p (fun j => A j l * y j) + dl i0 l * y p = 0 := fun l hl => by
  have h1 := hy l hl
  rw [sig] at h1
  rw [sig_congr (g := fun j => A j l * y j) fun j hj => by rw [if_neg (by omega)]] at h1
  simpa using h1
 have hp : y p ≠ 0 := fun h0 => by
  have h1 : ∀ l,l < p → sig p (fun j => A j l * y j) = 0 := fun l hl => by
   have := hy' l hl
   rw [h0,Rat.mul_zero,Rat.add_zero] at this
   exact this
  by_cases hjp : j = p
  ·subst hjp;exact hne h0
  ·exact hne (inv_inj h h1 (by omega))
 let w : Nat → Rat := fun j => -(y j) * (y p)⁻¹
 have hw : ∀ l,l < p → sig p (fun j => w j * A j l) = dl i0 l := fun l hl => by
  have h1 := hy' l hl
  have h2 : sig p (fun j => w j * A j l) = -(y p)⁻¹ * sig p fun j => A j l * y j := by
   rw [← sig_mul]
   exact sig_congr fun j _ => by simp only [w];grind
  have h3 : (y p)⁻¹ * y p = 1 := Rat.inv_mul_cancel _ hp
  rw [h2]
  grind
 have hb : ∀ k,k < p → B i0 k = w k := fun k hk => by
  have h1 : sig p (fun l => B l k * dl l i0) = B i0 k := by rw [sig_dl (fun l => B l k),if_pos hi]
  rw [← h1]
  have h2 : sig p (fun l => B l k * dl l i0) = sig p fun l => sig p fun j => w j * A j l * B l k := sig_congr fun l hl => by
   have : (sig p fun j => w j * A j l * B l k) = B l k * sig p fun j => w j * A j l := by
    rw [← sig_mul]
    exact sig_congr fun j _ => by grind
   rw [this,hw l hl]
   unfold dl
   by_cases e : l = i0
   ·rw [if_pos e,if_pos e.symm]
   ·rw [if_neg e,if_neg (Ne.symm e)]
  rw [h2,sig_swap]
  have h3 : (sig p fun j => sig p fun i => w j * A j i * B i k) = sig p fun j => w j * dl j k := sig_congr fun j hj => by
   rw [← h j k hj hk,← sig_mul]
   exact sig_congr fun i _ => by grind
  rw [h3,sig_dl,if_pos hk]
 rw [← hw l hl]
 exact sig_congr fun k hk => by rw [hb k hk]
end
theorem sumM_sig (c : Int → Rat) (x : Int) (M : TM) : sumM c x M = sig M.length fun i => c (M.getD i default).1 * coef (M.getD i default).2 x := by
 have key : ∀ i,i ≤ M.length → sumM c x (M.take i) = sig i fun i => c (M.getD i default).1 * coef (M.getD i default).2 x := by
  intro i
  induction i with
  | zero => intro _;rfl
  | succ i ih =>
   intro hi
   rw [take_snoc (show i < M.length by omega),sig,← ih (by omega)]
   have ha : ∀ (M N : TM),sumM c x (M ++ N) = sumM c x M + sumM c x N := by
    intro M N
    induction M with
    | nil => simp [sumM,Rat.zero_add]
    | cons r M ih => simp only [List.cons_append,sumM,ih,Rat.add_assoc]
   rw [ha]
   simp [sumM,Rat.add_zero]
 have := key M.length (Nat.le_refl _)
 rwa [List.take_length] at this
def zc (r : Int × List (Int × Rat)) (x : Int) : Rat := coef r.2 x - if x = r.1 then 1 else 0
def follB (M N : TM) : Bool := N.all fun r => (exprT M (wholeF r.1 r.2)).isEmpty
theorem coef_wholeZ (b : Int) (f : List (Int × Rat)) (x : Int) : coef (wholeF b f) x = zc (b,f) x := by
 unfold wholeF zc
 rw [coef_sub]
 simp only [coef,Rat.add_zero]
 by_cases h : b = x
 ·rw [if_pos h,if_pos h.symm]
 ·rw [if_neg h,if_neg (Ne.symm h)]
theorem empty_iff {n : Int} {M : TM} (hg : GT n M) (f : List (Int × Rat)) : (exprT M f).isEmpty = true ↔ ∀ x,coef f x = - sig M.length fun i => coef f (M.getD i default).1 * zc (M.getD i default) x := by
 have he := exprP_ok hg f
 have hco : ∀ x,coef (exprT M f) x = (coef f x) + sig M.length fun i => coef f (M.getD i default).1 * zc (M.getD i default) x := fun x => by
  rw [show coef (exprT M f) x = _ from he.co x,sumM_sig]
  have h1 : (sig M.length fun i => coef f (M.getD i default).1 * zc (M.getD i default) x) = (sig M.length fun i => coef f (M.getD i default).1 * coef (M.getD i default).2 x) + sig M.length fun i => - (coef f (M.getD i default).1 * if x = (M.getD i default).1 then 1 else 0) := by
   rw [← sig_add]
   exact sig_congr fun i _ => by unfold zc;grind
  rw [h1]
  have h2 : (sig M.length fun i => - (coef f (M.getD i default).1 * if x = (M.getD i default).1 then 1 else 0)) = if x ∈ keys M then - coef f x else 0 := by
   by_cases hx : x ∈ keys M
   ·rw [if_pos hx]
    obtain ⟨j,hj1,hj2,hj3,hj4,_⟩ := look_idx hx
    have h3 : (sig M.length fun i => - (coef f (M.getD i default).1 * if x = (M.getD i default).1 then 1 else 0)) = sig M.length fun i => (- coef f x) * dl i j := sig_congr fun i hi => by
     unfold dl
     by_cases hij : i = j
     ·subst hij;rw [if_pos rfl,hj3,if_pos rfl];grind
     ·rw [if_neg hij,if_neg fun h => hij ?_]
      ·grind
      ·have h4 : (keys M).Nodup := hg.nodup
       have h5 : (keys M)[i]? = (keys M)[j]? := by
        simp only [keys,List.getElem?_map]
        rw [List.getElem?_eq_getElem hi,List.getElem?_eq_getElem hj2]
        simp only [Option.map_some,Option.some.injEq]
        rw [show M[i] = M.getD i default by simp [List.getD_eq_getElem?_getD,hi],show M[j] = M.getD j default by simp [List.getD_eq_getElem?_getD,hj2],hj3]
        exact h.symm
       exact (List.getElem?_inj (by rw [keys_len];exact hi) h4).1 h5
    rw [h3,sig_dl (fun _ => - coef f x),if_pos hj2]
   ·rw [if_neg hx]
    exact sig_zero fun i hi => by
     rw [if_neg fun h : x = (M.getD i default).1 => hx (h ▸ List.mem_map.2 ⟨_,getD_mem hi,rfl⟩)];grind
  rw [h2]
  split <;> grind
 constructor
 ·intro h x
  have h1 : exprT M f = [] := List.isEmpty_iff.1 h
  have := hco x
  rw [h1,coef_nil] at this
  grind
 ·intro h
  rw [List.isEmpty_iff]
  refine NF.ext he.nf NF.nil fun x => ?_
  rw [hco x,h x,coef_nil]
  grind
theorem follB_iff {n : Int} {M N : TM} (hg : GT n M) : follB M N = true ↔ ∀ j,j < N.length → ∀ x,zc (N.getD j default) x = - sig M.length fun i => zc (N.getD j default) (M.getD i default).1 * zc (M.getD i default) x := by
 unfold follB
 rw [List.all_eq_true]
 constructor
 ·intro h j hj x
  have := (empty_iff hg _).1 (h _ (getD_mem hj)) x
  simp only [coef_wholeZ] at this
  exact this
 ·intro h r hr
  obtain ⟨j,hj,rfl⟩ := mem_getD hr
  rw [empty_iff hg]
  intro x
  simp only [coef_wholeZ]
  exact h j hj x
theorem zc_basic {n : Int} {N : TM} (hg : GT n N) {j k : Nat} (hj : j < N.length) (hk : k < N.length) : zc (N.getD j default) (N.getD k default).1 = - dl j k := by
 unfold zc dl
 rw [free_coef hg (getD_mem hj) (List.mem_map.2 ⟨_,getD_mem hk,rfl⟩)]
 by_cases h : j = k
 ·subst h;simp;grind
 ·rw [if_neg h,if_neg fun he => h ?_]
  ·grind
  ·have h5 : (keys N)[k]? = (keys N)[j]? := by
    simp only [keys,List.getElem?_map]
    rw [List.getElem?_eq_getElem hj,List.getElem?_eq_getElem hk]
    simp only [Option.map_some,Option.some.injEq]
    rw [show N[k] = N.getD k default by simp [List.getD_eq_getElem?_getD,hk],show N[j] = N.getD j default by simp [List.getD_eq_getElem?_getD,hj],he]
   exact ((List.getElem?_inj (by rw [keys_len];exact hk) hg.nodup).1 h5).symm
theorem foll_both {n : Int} {M N : TM} (hM : GT n M) (hN : GT n N) : (follB M N && follB N M) = (decide (M.length = N.length) && follB M N) := by
 have inv : ∀ {M N : TM},GT n M → GT n N → follB M N = true → ∀ j k,j < N.length → k < N.length → sig M.length (fun i => (- zc (N.getD j default) (M.getD i default).1) * (- zc (M.getD i default) (N.getD k default).1)) = dl j k := by
  intro M N hM hN h j k hj hk
  have h1 := (follB_iff hM).1 h j hj (N.getD k default).1
  rw [zc_basic hN hj hk] at h1
  rw [sig_congr (g := fun i => zc (N.getD j default) (M.getD i default).1 * zc (M.getD i default) (N.getD k default).1) fun i _ => by grind]
  grind
 by_cases h : follB M N = true
 ·rw [h,Bool.true_and,Bool.and_true]
  have i1 := inv hM hN h
  have hle := inv_le i1
  by_cases hl : M.length = N.length
  ·rw [decide_eq_true hl,follB_iff hN]
   intro i hi x
   rw [hl] at i1 hi
   have hx : ∀ k,k < N.length → zc (N.getD k default) x = - sig N.length fun l => zc (N.getD k default) (M.getD l default).1 * zc (M.getD l default) x := fun k hk => by
    have := (follB_iff hM).1 h k hk x
    rwa [hl] at this
   have h2 : (sig N.length fun k => zc (M.getD i default) (N.getD k default).1 * zc (N.getD k default) x) = sig N.length fun k => sig N.length fun l => (- zc (M.getD i default) (N.getD k default).1) * (zc (N.getD k default) (M.getD l default).1 * zc (M.getD l default) x) := sig_congr fun k hk => by
    rw [sig_mul,hx k hk]
    grind
   rw [h2,sig_swap]
   have h3 : (sig N.length fun l => sig N.length fun k => (- zc (M.getD i default) (N.getD k default).1) * (zc (N.getD k default) (M.getD l default).1 * zc (M.getD l default) x)) = sig N.length fun l => (- zc (M.getD l default) x) * dl l i := sig_congr fun l hl' => by
    have h4 := inv_left i1 hi hl'
    have h5 : (sig N.length fun k => (- zc (M.getD i default) (N.getD k default).1) * (zc (N.getD k default) (M.getD l default).1 * zc (M.getD l default) x)) = (- zc (M.getD l default) x) * sig N.length fun k => (- zc (M.getD i default) (N.getD k default).1) * (- zc (N.getD k default) (M.getD l default).1) := by
     rw [← sig_mul]
     exact sig_congr fun k _ => by grind
    rw [h5,h4]
    unfold dl
    by_cases e : i = l
    ·rw [if_pos e,if_pos e.symm]
    ·rw [if_neg e,if_neg (Ne.symm e)]
   rw [h3,sig_dl (fun l => - zc (M.getD l default) x),if_pos hi]
   grind
  ·rw [decide_eq_false hl,Bool.eq_false_iff]
   intro h'
   have := inv_le (inv hN hM h')
   omega
 ·rw [Bool.not_eq_true] at h
  rw [h];simp
def keptD (M : TM) (ds : List DD) : List DD := (extL M ds).map dq
theorem keptD_len (M : TM) (ds : List DD) : (keptD M ds).length = ds.length := by simp [keptD,extL_len]
def asgP (pr : Rat × Rat → Rat) (ds : List DD) : Int → Rat := asg (ds.map fun d => pr d.v)
theorem asgP_in (pr : Rat × Rat → Rat) (ds : List DD) {v : Int} (h0 : 0 ≤ v) (h1 : v < (ds.length : Int)) : asgP pr ds v = pr (ds.getD v.toNat default).v := by
 unfold asgP asg
 rw [if_pos h0]
 have h2 : v.toNat < ds.length := by omega
 simp [List.getD_eq_getElem?_getD,h2]
theorem asgP_out (pr : Rat × Rat → Rat) (ds : List DD) {v : Int} (h : ¬ (0 ≤ v ∧ v < (ds.length : Int))) : asgP pr ds v = 0 := by
 unfold asgP asg
 split
 ·rw [List.getD_eq_getElem?_getD,List.getElem?_eq_none (by rw [List.length_map];omega)];rfl
 ·rfl
theorem kept_getD (M : TM) (ds : List DD) {i : Nat} (h : i < ds.length) : (keptD M ds).getD i default = dq (extR M ds i) := by
 simp [keptD,extL,List.getD_eq_getElem?_getD,h]
theorem kept_free (pr : Rat × Rat → Rat) {M : TM} (ds : List DD) {v : Int} (hv : v ∉ keys M) : asgP pr (keptD M ds) v = asgP pr ds v := by
 by_cases h : 0 ≤ v ∧ v < (ds.length : Int)
 ·rw [asgP_in pr _ h.1 (by rw [keptD_len];exact h.2),asgP_in pr _ h.1 h.2,kept_getD M ds (by omega),dq_v]
  unfold extR
  rw [show ((v.toNat : Nat) : Int) = v by omega,look_none hv]
 ·rw [asgP_out pr _ (by rw [keptD_len];exact h),asgP_out pr _ h]
theorem kept_basic (pr : Rat × Rat → Rat) {M : TM} {ds : List DD} (hg : GT (ds.length : Int) M) {r : Int × List (Int × Rat)} (hr : r ∈ M) : asgP pr (keptD M ds) r.1 = pr (evd ds r.2) := by
 have hb := hg.range r.1 (List.mem_map.2 ⟨r,hr,rfl⟩)
 rw [asgP_in pr _ hb.1 (by rw [keptD_len];exact hb.2),kept_getD M ds (by omega),dq_v]
 unfold extR
 rw [show ((r.1.toNat : Nat) : Int) = r.1 by omega,look_of hg.nodup (g := r.2) hr]
def lift0 (xs : List Rat) : List (Int × Rat) := xs.map fun x => (0,x)
theorem nbs_lift : ∀ xs : List Rat,nbs (lift0 xs) = nbl xs
 | [] => rfl
 | x::xs => by show nb x + nbs (lift0 xs) = _;rw [nbs_lift xs];rfl
theorem Ht.mem {p : Int × Rat} : ∀ {f : List (Int × Rat)},p ∈ f → Ht (dnf f) (htf f) p.2
 | [],h => by cases h
 | q::f,h => by
  simp only [dnf,htf]
  rcases List.mem_cons.1 h with rfl | h
  ·exact ((Ht.self p.2).wide (dnf f)).mono (Nat.mul_le_mul_left _ (dnf_le f))
  ·exact ((Ht.mem h).wide' q.2.den).mono (Nat.mul_le_mul_right _ (by unfold Vm.H;omega))
theorem Ht.asg (xs : List Rat) (v : Int) : Ht (dnf (lift0 xs)) (htf (lift0 xs)) (Vm.asg xs v) := by
 unfold Vm.asg
 split
 ·by_cases h : v.toNat < xs.length
  ·exact Ht.mem (p := (0,xs.getD v.toNat 0)) (List.mem_map.2 ⟨_,by simp [List.getD_eq_getElem?_getD,h],rfl⟩)
  ·rw [List.getD_eq_getElem?_getD,List.getElem?_eq_none (by omega)]
   exact Ht.zero _ _
 ·exact Ht.zero _ _
theorem Ht.kept {M : TM} {ds : List DD} (hg : GT (ds.length : Int) M) (pr : Rat × Rat → Rat) (hp : pr = Prod.fst ∨ pr = Prod.snd) (v : Int) :
  Ht (dnM M * dnf (lift0 (ds.map fun d => pr d.v))) (htM M * htf (lift0 (ds.map fun d => pr d.v))) (asgP pr (keptD M ds) v) := by
 by_cases hv : v ∈ keys M
 ·obtain ⟨r,hr,rfl⟩ := List.mem_map.1 hv
  rw [kept_basic pr hg hr]
  refine Ht.ofM hr ?_
  have : pr (evd ds r.2) = ev2 (asgP pr ds) r.2 := by rcases hp with rfl | rfl <;> rfl
  rw [this]
  exact Ht.ev r.2 fun p _ => Ht.asg _ _
 ·rw [kept_free pr ds hv]
  exact ((Ht.asg _ v).wide' (dnM M)).mono (Nat.mul_le_mul_right _ (dnM_le M))
theorem DsOk.half {ds : List DD} (h : DsOk ds) (pr : Rat × Rat → Rat) (hp : pr = Prod.fst ∨ pr = Prod.snd) : nbs (lift0 (ds.map fun d => pr d.v)) ≤ 67108864 := by
 rw [nbs_lift]
 rcases hp with rfl | rfl
 ·exact h.sa
 ·exact h.sb
theorem NF.coef_mem {g : List (Int × Rat)} (h : NF g) {p : Int × Rat} (hp : p ∈ g) : coef g p.1 = p.2 := by
 induction g with
 | nil => cases hp
 | cons q g ih =>
  rcases List.mem_cons.1 hp with rfl | hp
  ·exact h.coef_head
  ·have h1 := h.head p hp
   rw [coef,if_neg (by omega),Rat.zero_add,ih h.tail hp]
theorem exprT_range {n : Int} {M : TM} (hg : GT n M) {f : List (Int × Rat)} (hk : knownB n (normF f) = true) : ∀ p ∈ exprT M f,(0 ≤ p.1 ∧ p.1 < n) ∧ p.1 ∉ keys M := fun p hp => by
 have he := exprP_ok hg f
 have hn := he.nf
 have hc : coef (exprT M f) p.1 = p.2 := hn.coef_mem hp
 have hz := hn.nz p hp
 have hco : coef (exprT M f) p.1 = _ := he.co p.1
 constructor
 ·refine Classical.byContradiction fun hr => hz ?_
  rw [← hc,hco,coef_out hk hr,sumM_out hg _ hr]
  split <;> simp [Rat.add_zero]
 ·intro hb
  apply hz
  rw [← hc,hco,if_pos hb,sumM_basic hg _ hb,Rat.add_zero]
theorem exprT_len {n : Int} {M : TM} (hg : GT n M) {f : List (Int × Rat)} (hk : knownB n (normF f) = true) : (exprT M f).length ≤ 65536 :=
 nf_len (exprP_ok hg f).nf hg.hi fun p hp => (exprT_range hg hk p hp).1
theorem sVu {G G' : Prop} (h : G') (e : G = G' := by conv => lhs;simp (disch := omega) only [rowsOf,cNat,cN,St.ret,St.seth,Eff.app,Eff.wi,sepL,guardOf,St.known,objOf,List.set,sliceW,litW,copyW,lenOf,bnd,mxOk,ofCells,TI.isAgg,cellsOf,storable,AV.one,dead,laid,overlay,reduceCtorEq,Int.reduceLE,Int.reduceLT,Int.reduceSub,Int.reduceAdd,Nat.reduceMul,Int.reduceToNat,Nat.reducePow,Int.reduceNeg,Nat.reduceAdd,Nat.reduceLT,Nat.reduceLeDiff,sA,sB,Nat.reduceEqDiff,cQ,rowQ,rowU,rowT,rowM,tab_length,tab_drop,tab_take,tab_append,tab_nil,rowT_all,rowT_one,rowT_pure,rowU_all,rowU_one,rowU_pure,rowQ_all,rowQ_one,rowQ_pure,rowM_all,rowM_one,rowM_pure,List.take_length,List.length_append,findA_tab,range_snoc,pure_sl,sT]) : G := e.mpr h
theorem sVuX {G G' P : Prop} (p : P) (h : G') (e : P → G = G' := by intro p;conv => lhs;simp (disch := omega) only [rowsOf,cNat,cN,St.ret,St.seth,Eff.app,Eff.wi,sepL,guardOf,St.known,objOf,List.set,sliceW,litW,copyW,lenOf,bnd,mxOk,ofCells,TI.isAgg,cellsOf,storable,AV.one,dead,laid,overlay,reduceCtorEq,Int.reduceLE,Int.reduceLT,Int.reduceSub,Int.reduceAdd,Nat.reduceMul,Int.reduceToNat,Nat.reducePow,Int.reduceNeg,Nat.reduceAdd,Nat.reduceLT,Nat.reduceLeDiff,sA,sB,Nat.reduceEqDiff,cQ,rowQ,rowU,rowT,rowM,tab_length,tab_drop,tab_take,tab_append,tab_nil,rowT_all,rowT_one,rowT_pure,rowU_all,rowU_one,rowU_pure,rowQ_all,rowQ_one,rowQ_pure,rowM_all,rowM_one,rowM_pure,List.take_length,List.length_append,findA_tab,range_snoc,pure_sl,sT,p]) : G := (e p).mpr h
theorem aVu {G G' : Prop} (h : G') (f : Wr G' → G := by intro h;(repeat (first|(refine W_seqV fun K hK => ?_;(try (refine sVu ?_;try exact True.intro));(repeat refine aI ?_);refine hK _ ?_;clear hK K)|(refine W_seqR fun K hK => ?_;(try (refine sVu ?_;try exact True.intro));(repeat refine aI ?_);refine hK _ ?_;clear hK K)|(refine W_seqD mixed [] (by kernel_rfl) fun K hK => ?_;(try (refine sVu ?_;try exact True.intro));(repeat refine aI ?_);refine hK _ ?_;clear hK K)));exact h.out) : G := f ⟨h⟩
theorem whole_range {n : Int} {N : TM} (hN : GT n N) {r : Int × List (Int × Rat)} (hr : r ∈ N) : knownB n (normF (wholeF r.1 r.2)) = true := by
 unfold knownB
 rw [List.all_eq_true]
 intro p hp
 rw [inR_iff]
 refine Classical.byContradiction fun hn => ?_
 have h1 := (NF.norm (wholeF r.1 r.2)).nz p hp
 have h2 : coef (normF (wholeF r.1 r.2)) p.1 = p.2 := (NF.norm _).coef_mem hp
 rw [coef_norm,coef_wholeZ] at h2
 unfold zc at h2
 have h3 : coef r.2 p.1 = 0 := coef_none fun q hq he => hn (he ▸ (hN.free r hr q hq).1)
 have h4 : p.1 ≠ r.1 := fun he => hn (by rw [he];exact hN.range _ (List.mem_map.2 ⟨_,hr,rfl⟩))
 simp only [h3,if_neg h4] at h2
 exact h1 (by rw [← h2];grind)
structure FollOk (M N : TM) : Prop where
 sz : ∀ r ∈ N,Sz r.2 536870912
 ex : ∀ r ∈ N,ExOk M (rf (wholeF r.1 r.2))
theorem foll_row {n : Int} {M N : TM} (hM : GT n M) (hN : GT n N) (hMn : ∀ r ∈ M,NF r.2) (hf : FollOk M N) {c : Nat} {bs : List Nat} (hb : bs.length = M.length) (hn : bs.Nodup) (hlt : ∀ x ∈ bs,x < c) {r : Int × List (Int × Rat)} (hr : r ∈ N) :
  Pure Tryz.prog 92 [cL r.2,.sl (tab rowQ [(r.1,(1 : Rat))])] (· = cL (wholeF r.1 r.2)) ∧ Pure Tryz.prog 67 [.md c bs (tab rowU M),cL (wholeF r.1 r.2)] (· = cL (exprT M (wholeF r.1 r.2))) := by
 constructor
 ·have hsub := lsub_ok (rf r.2) (rf [(r.1,1)]) (FOk.rf (hf.sz r hr) (by omega)) (unit_fok r.1) (by omega)
  rw [vals_rf,vals_rf,cF_rf,cF_rf] at hsub
  exact hsub
 ·have h := texpr_ok M (rf (wholeF r.1 r.2)) c bs hM hMn (by rw [vals_rf];exact whole_range hN hr) (hf.ex r hr) hb hn hlt
  rw [vals_rf,cF_rf] at h
  exact h
theorem tfollows_ok {n : Int} {M N : TM} (hM : GT n M) (hN : GT n N) (hMn : ∀ r ∈ M,NF r.2) (hf : FollOk M N) {c c2 : Nat} {bs bs2 : List Nat} (hb : bs.length = M.length) (hn : bs.Nodup) (hlt : ∀ x ∈ bs,x < c)
  (hb2 : bs2.length = N.length) (hn2 : bs2.Nodup) (hlt2 : ∀ x ∈ bs2,x < c2) :
  Pure Tryz.prog 83 [.md c bs (tab rowU M),.md c2 bs2 (tab rowU N)] (· = .bool (follB M N)) := by
 have hrow := fun r (hr : r ∈ N) => foll_row hM hN hMn hf hb hn hlt hr
 have hlen := fun r (hr : r ∈ N) => (exprT_len hM (whole_range hN hr))
 have hw := rwhole_ok 1 (by omega) (by omega)
 have h1e : ((1 : Int) : Rat) = 1 := rfl
 rw [h1e] at hw
 have hT : (∀ r ∈ N,(exprT M (wholeF r.1 r.2)).isEmpty = true) → follB M N = true := fun h => List.all_eq_true.2 h
 have hF : ∀ r ∈ N,(exprT M (wholeF r.1 r.2)).isEmpty = false → follB M N = false := fun r hr h => by
  rw [Bool.eq_false_iff]
  intro h2
  have := List.all_eq_true.1 h2 r hr
  rw [h] at this
  cases this
 clear hM hN hMn hf
 have ht : ∀ b,tab rowQ [(b,(1 : Rat))] = [[.int .i64 b,.bool (decide ((1 : Rat).num < 0)),.sl (u32s (limbs (1 : Rat).num.natAbs)),.sl (u32s (limbs (1 : Rat).den))]] := fun b => rfl
 simp only [ht,cL,cQ] at hrow hw
 generalize (1 : Rat) = one at *
 generalize follB M N = fb at *
 (refine pureW Tryz.func83 rfl (rs := [Go.ResultVar.tmp 4]) rfl (n := 26) rfl ?_;simp only [List.length_cons,List.length_nil,List.replicate,List.cons_append,List.nil_append])
 ((refine W_seqV ?_);intro K hK;(refine sVu ?_))
 (refine hK _ ?_;clear hK K)
 ((refine W_seq (W_seqR ?_));intro K hK;(refine sVu ?_))
 (refine hK _ ?_;clear hK K)
 refine W_block (W_loop (fun t : {t : List Nat // Seen bs2 t ∧ ∀ x ∈ t,(exprT M (wholeF (atB bs2 N x).1 (atB bs2 N x).2)).isEmpty = true} =>
   ⟨[.md c bs (tab rowU M),.any,.any,.any,.any,.any,.any,.any,.any,.it 9,.any,.any,.any,.any,.any,.any,.any,.any,.any,.any,.any,.any,.any,.any,.any,.any],[.dead,.dead,.dead,.dead,.dead,.dead,.dead,.dead,.dead,.iter (.md c2 bs2 (tab rowU N)) c2 t.1 c2,.dead,.dead,.dead,.dead,.dead,.dead,.dead,.dead,.dead,.dead,.dead,.dead,.dead,.dead,.dead,.dead]⟩) (fun t => bs2.length - t.1.length)
   ⟨[],Seen.nil bs2,by simp⟩ (Le_of (by simp [leE]) (by simp)) fun t => ?_)
 obtain ⟨sn,hsn,hse⟩ := t
 dsimp only
 ((refine W_seqR ?_);intro K hK;(refine sVu ?_))
 refine ⟨Nat.le_refl _,hlt2,fun hall => hK _ ?_,fun j x hj hx => hK _ ?_⟩ <;> clear hK K
 ·have hfb := hT fun r hr => by
   have h1 := map_atB hn2 hb2
   rw [← h1] at hr
   obtain ⟨x,hx,rfl⟩ := List.mem_map.1 hr
   exact hse x (hall x hx)
  (refine W_seq (W_cf rfl ?_))
  refine W_exit ?_
  simp only [thenW,blockW,if_true]
  rw [hfb]
  (repeat' (first | (refine W_seqV fun K hK => ?_;(try (refine sVu ?_));refine hK _ ?_;clear hK K) | (refine W_ret ?_;(refine qG ?_;try exact True.intro))))
 ·have hjl : j < N.length := by have := births_lt hj;omega
  have hXj : (tab rowU N).getD j [] = rowU (N.getD j default) := tab_getD hjl
  have hat := atB_of hn2 hj (M := N)
  have hs2 := hsn.snoc hj hx
  have hmu := hsn.lt hj hx
  obtain ⟨hr1,hr2⟩ := hrow _ (getD_mem hjl)
  have hel := hlen _ (getD_mem hjl)
  have hFj := hF _ (getD_mem hjl)
  generalize N.getD j default = p at *
  obtain ⟨b,g⟩ := p
  simp only [rowU] at hXj
  dsimp only at *
  rw [hXj]
  generalize hwh : wholeF b g = wh at *
  (refine W_seq (W_ct rfl ?_))
  refine W_skip ?_
  simp only [thenW]
  refine W_block ?_
  ((refine W_seqR ?_);intro K hK;(refine sVu ?_))
  refine ⟨j,x,by simp,hj,?_⟩
  (refine sVuX hXj ?_;try exact True.intro)
  (refine hK _ ?_;clear hK K)
  generalize hee : exprT M wh = e at *
  ((refine W_seqV ?_);intro K hK;(refine sVu ?_))
  (refine ⟨by kernel_rfl,_,.pure rfl (hw),?_⟩;(try (refine sVu ?_));(repeat refine aI ?_))
  (refine ⟨by kernel_rfl,_,.pure rfl (hr1),?_⟩;(try (refine sVu ?_)))
  (refine hK _ ?_;clear hK K)
  by_cases hz : e.length = 0
  ·obtain rfl : e = [] := List.length_eq_zero_iff.1 hz
   ((refine W_seqV ?_);intro K hK;(refine sVu ?_))
   (refine ⟨by kernel_rfl,_,.pure rfl (hr2),?_⟩;(try (refine sVu ?_)))
   (refine hK _ ?_;clear hK K)
   (refine W_cf rfl ?_)
   refine W_skip ?_
   simp only [blockW,thenW]
   refine ⟨⟨sn ++ [x],hs2,fun y hy => ?_⟩,Le_drop (by simp [leE]) (by simp [leH]) rfl rfl,?_⟩
   ·rcases List.mem_append.1 hy with hy | hy
    ·exact hse y hy
    ·simp at hy
     subst hy
     rw [hat,hwh,hee]
     rfl
   ·exact hmu
  ·have hne : e.isEmpty = false := by cases e with
    | nil => exact absurd rfl hz
    | cons _ _ => rfl
   have hp : 0 < e.length := by omega
   rw [hFj hne]
   ((refine W_seqV ?_);intro K hK;(refine sVuX hp ?_))
   (refine ⟨by kernel_rfl,_,.pure rfl (hr2),?_⟩;(try (refine sVu ?_)))
   (refine hK _ ?_;clear hK K)
   rw [decide_eq_true hp]
   (refine W_ct rfl ?_)
   (repeat' (first | (refine W_seqV fun K hK => ?_;(try (refine sVu ?_));refine hK _ ?_;clear hK K) | (refine W_ret ?_;(refine qG ?_;try exact True.intro))))
def sameV (n : Int) (t : TR) (m : Int) (u : TR) : AV := if goodB n (nrmT t) && goodB m (nrmT u) then if n = m then .tup [.bool (follB (nrmT t) (nrmT u) && follB (nrmT u) (nrmT t)),.int .i64 0] else .tup [.bool false,.int .i64 1] else .tup [.bool false,.int .i64 70]
theorem tsame_g (n : Int) (t : TR) (m : Int) (u : TR) (hT : TG t) (hU : TG u) (hx : goodB n (nrmT t) = true → goodB m (nrmT u) = true → n = m → FollOk (nrmT t) (nrmT u) ∧ FollOk (nrmT u) (nrmT t)) :
  Pure Tryz.prog 38 [cT n t,cT m u] (· = sameV n t m u) := by
 have a1 := hT.load n
 have a2 := hU.load m
 have hf : goodB n (nrmT t) = true → goodB m (nrmT u) = true → n = m → Pure Tryz.prog 83 [.md t.length (List.range t.length) (tab rowU (nrmT t)),.md u.length (List.range u.length) (tab rowU (nrmT u))] (· = .bool (follB (nrmT t) (nrmT u))) ∧ Pure Tryz.prog 83 [.md u.length (List.range u.length) (tab rowU (nrmT u)),.md t.length (List.range t.length) (tab rowU (nrmT t))] (· = .bool (follB (nrmT u) (nrmT t))) := fun h1 h2 h3 => by
  obtain ⟨h4,h5⟩ := hx h1 h2 h3
  subst h3
  exact ⟨tfollows_ok (gt_iff.1 h1) (gt_iff.1 h2) hT.mok.nf h4 (by rw [nrmT_len];exact range_births.1) range_births.2.1 range_births.2.2 (by rw [nrmT_len];exact range_births.1) range_births.2.1 range_births.2.2,
   tfollows_ok (gt_iff.1 h2) (gt_iff.1 h1) hU.mok.nf h5 (by rw [nrmT_len];exact range_births.1) range_births.2.1 range_births.2.2 (by rw [nrmT_len];exact range_births.1) range_births.2.1 range_births.2.2⟩
 unfold loadV at a1 a2
 unfold sameV
 unfold cT at *
 clear hx hT hU
 generalize goodB n (nrmT t) = gb at *
 generalize goodB m (nrmT u) = gc at *
 generalize follB (nrmT t) (nrmT u) = b1 at *
 generalize follB (nrmT u) (nrmT t) = b2 at *
 generalize nrmT t = M at *
 generalize nrmT u = N at *
 cases gb
 ·simp only [Bool.false_eq_true,if_false,Bool.false_and] at a1 ⊢
  cases gc
  all_goals
   simp only [Bool.false_eq_true,if_false,if_true] at a2
   (refine pureW Tryz.func38 rfl (rs := [Go.ResultVar.tmp 4,Go.ResultVar.tmp 5]) rfl (n := 41) rfl ?_;simp only [List.length_cons,List.length_nil,List.replicate,List.cons_append,List.nil_append])
   (refine aVu ?_)
   ((refine W_seqV ?_);intro K hK;(refine sVu ?_))
   (refine ⟨by kernel_rfl,_,.pure rfl (a1),?_⟩;(try (refine sVu ?_)))
   (refine hK _ ?_;clear hK K)
   ((refine W_seqV ?_);intro K hK;(refine sVu ?_))
   (refine ⟨by kernel_rfl,_,.pure rfl (a2),?_⟩;(try (refine sVu ?_)))
   (refine hK _ ?_;clear hK K)
   (repeat' (first | (exfalso;simp at h;done) | refine W_block ?_ | (refine W_seqV fun K hK => ?_;(try (refine sVu ?_));refine hK _ ?_;clear hK K) | (refine W_ret ?_;(refine qG ?_;try exact True.intro)) | (refine W_cond rfl (fun h => ?_) (fun h => ?_) <;> (try simp only [cond_true,cond_false,ne_eq,cB] at h)) | refine W_seq ?_))
 cases gc
 ·simp only [Bool.false_eq_true,if_false,if_true,Bool.and_false] at a1 a2 ⊢
  (refine pureW Tryz.func38 rfl (rs := [Go.ResultVar.tmp 4,Go.ResultVar.tmp 5]) rfl (n := 41) rfl ?_;simp only [List.length_cons,List.length_nil,List.replicate,List.cons_append,List.nil_append])
  (refine aVu ?_)
  ((refine W_seqV ?_);intro K hK;(refine sVu ?_))
  (refine ⟨by kernel_rfl,_,.pure rfl (a1),?_⟩;(try (refine sVu ?_)))
  (refine hK _ ?_;clear hK K)
  ((refine W_seqV ?_);intro K hK;(refine sVu ?_))
  (refine ⟨by kernel_rfl,_,.pure rfl (a2),?_⟩;(try (refine sVu ?_)))
  (refine hK _ ?_;clear hK K)
  (repeat' (first | (exfalso;simp at h;done) | refine W_block ?_ | (refine W_seqV fun K hK => ?_;(try (refine sVu ?_));refine hK _ ?_;clear hK K) | (refine W_ret ?_;(refine qG ?_;try exact True.intro)) | (refine W_cond rfl (fun h => ?_) (fun h => ?_) <;> (try simp only [cond_true,cond_false,ne_eq,cB] at h)) | refine W_seq ?_))
 simp only [if_true,Bool.and_self] at a1 a2 ⊢
 by_cases hn : n = m
 rotate_left
 ·rw [if_neg hn]
  have hnb : (n != m) = true := bne_iff_ne.2 hn
  (refine pureW Tryz.func38 rfl (rs := [Go.ResultVar.tmp 4,Go.ResultVar.tmp 5]) rfl (n := 41) rfl ?_;simp only [List.length_cons,List.length_nil,List.replicate,List.cons_append,List.nil_append])
  (refine aVu ?_)
  ((refine W_seqV ?_);intro K hK;(refine sVu ?_))
  (refine ⟨by kernel_rfl,_,.pure rfl (a1),?_⟩;(try (refine sVu ?_)))
  (refine hK _ ?_;clear hK K)
  ((refine W_seqV ?_);intro K hK;(refine sVu ?_))
  (refine ⟨by kernel_rfl,_,.pure rfl (a2),?_⟩;(try (refine sVu ?_)))
  (refine hK _ ?_;clear hK K)
  refine W_seq ?_
  refine W_block ?_
  ((refine W_seqV ?_);intro K hK;(refine sVu ?_))
  (refine hK _ ?_;clear hK K)
  (refine W_cf rfl ?_)
  ((refine W_seqV ?_);intro K hK;(refine sVuX hnb ?_))
  (refine hK _ ?_;clear hK K)
  (repeat' (first | (exfalso;simp at h;done) | (refine W_seqV fun K hK => ?_;(try (refine sVu ?_));refine hK _ ?_;clear hK K) | (refine W_ret ?_;(refine qG ?_;try exact True.intro)) | (refine W_cond rfl (fun h => ?_) (fun h => ?_) <;> (try simp only [cond_true,cond_false,ne_eq,cB] at h))))
 rw [if_pos hn]
 obtain ⟨h1,h2⟩ := hf rfl rfl hn
 subst hn
 have hnb : (n != n) = false := by simp
 (refine pureW Tryz.func38 rfl (rs := [Go.ResultVar.tmp 4,Go.ResultVar.tmp 5]) rfl (n := 41) rfl ?_;simp only [List.length_cons,List.length_nil,List.replicate,List.cons_append,List.nil_append])
 (refine aVu ?_)
 ((refine W_seqV ?_);intro K hK;(refine sVu ?_))
 (refine ⟨by kernel_rfl,_,.pure rfl (a1),?_⟩;(try (refine sVu ?_)))
 (refine hK _ ?_;clear hK K)
 ((refine W_seqV ?_);intro K hK;(refine sVu ?_))
 (refine ⟨by kernel_rfl,_,.pure rfl (a2),?_⟩;(try (refine sVu ?_)))
 (refine hK _ ?_;clear hK K)
 refine W_seq ?_
 refine W_block ?_
 ((refine W_seqV ?_);intro K hK;(refine sVu ?_))
 (refine hK _ ?_;clear hK K)
 (refine W_cf rfl ?_)
 ((refine W_seqV ?_);intro K hK;(refine sVuX hnb ?_))
 (refine hK _ ?_;clear hK K)
 (refine W_cf rfl ?_)
 refine W_skip ?_
 simp only [thenW,blockW]
 cases b1
 ·rw [Bool.false_and]
  ((refine W_seqV ?_);intro K hK;(refine sVu ?_))
  (refine ⟨by kernel_rfl,_,.pure rfl (h1),?_⟩;(try (refine sVu ?_)))
  (refine hK _ ?_;clear hK K)
  (repeat' (refine W_ret ?_;(refine qG ?_;try exact True.intro)))
 ·rw [Bool.true_and]
  ((refine W_seqV ?_);intro K hK;(refine sVu ?_))
  (refine ⟨by kernel_rfl,_,.pure rfl (h1),?_⟩;(try (refine sVu ?_)))
  (refine ⟨by kernel_rfl,_,.pure rfl (h2),?_⟩;(try (refine sVu ?_)))
  (refine hK _ ?_;clear hK K)
  (repeat' (refine W_ret ?_;(refine qG ?_;try exact True.intro)))
def delM (l : List (Int × RR)) (v : Int) : List (Int × RR) := l.filter fun p => !(p.1 == v)
def solvA (f : List (Int × RR)) (r : RR) (v : Int) : AV := if coef (vals f) v = 0 then .tup [.agg [.sl [],.bool false,.sl [],.sl []],.int .i64 61] else
 .tup [.agg (affQ (normF (scaleF (-(coef (vals f) v)⁻¹) (delF (vals f) v))) (-(coef (vals f) v)⁻¹ * r.v)),.int .i64 0]
def subsA (f : List (Int × RR)) (r : RR) (v : Int) (g : List (Int × RR)) (s : RR) : AV := .agg (affQ (normF (delF (vals f) v ++ normF (scaleF (coef (vals f) v) (vals g)))) (r.v + coef (vals f) v * s.v))
theorem FormOk.pf {f : List (Int × RR)} (h : FormOk f) : PF f 68157441 := by
 have := h.sz
 exact (h.fok.pf (by omega)).mono (by omega)
theorem sortK_snoc {l : List Int} (hn : l.Nodup) {n : Int} (h : ∀ x ∈ l,x < n) : sortK (l ++ [n]) = sortK l ++ [n] := by
 refine sorted_ext ((sortK_perm _).trans ((sortK_perm l).symm.append_right [n])) (sortK_le _) ?_
 rw [List.pairwise_append]
 refine ⟨sortK_le l,by simp,fun a ha b hb => ?_⟩
 simp at hb
 subst hb
 have := h a (mem_sortK.1 ha)
 omega
theorem look_snoc {M : TM} {n b : Int} {g : List (Int × Rat)} (hb : b ∈ keys M) : lookM (M ++ [(n,g)]) b = lookM M b := by
 obtain ⟨j,h1,h2,h3,h4,h5⟩ := look_idx hb
 rw [h4]
 unfold lookM at h4 ⊢
 rw [List.find?_append]
 cases hf : M.find? fun r => r.1 == b with
 | none => rw [hf] at h4;cases h4
 | some r => rw [hf] at h4;simpa using h4
theorem sortM_snoc {M : TM} (hn : (keys M).Nodup) {n : Int} (h : ∀ x ∈ keys M,x < n) (g : List (Int × Rat)) : sortM (M ++ [(n,g)]) = sortM M ++ [(n,g)] := by
 unfold sortM
 rw [keys_append,show keys [(n,g)] = [n] from rfl,sortK_snoc hn h,List.map_append]
 congr 1
 ·refine List.map_congr_left fun b hb => ?_
  rw [look_snoc (mem_sortK.1 hb)]
 ·have hnn : n ∉ keys M := fun hm => by have := h n hm;omega
  have hnd : (keys (M ++ [(n,g)])).Nodup := by
   rw [keys_append,List.nodup_append]
   refine ⟨hn,by simp [keys],?_⟩
   rintro a ha b hb rfl
   simp [keys] at hb
   subst hb
   exact hnn ha
  simp only [List.map_cons,List.map_nil]
  rw [look_of hnd (g := g) (by simp)]
  rfl
theorem sUf {G G' : Prop} (h : G') (e : G = G' := by conv => lhs;simp (disch := omega) only [rowsOf,cNat,cN,St.ret,St.seth,Eff.app,Eff.wi,sepL,guardOf,St.known,objOf,List.set,sliceW,litW,copyW,lenOf,bnd,mxOk,ofCells,TI.isAgg,cellsOf,storable,AV.one,dead,laid,overlay,reduceCtorEq,Int.reduceLE,Int.reduceLT,Int.reduceSub,Int.reduceAdd,Nat.reduceMul,Int.reduceToNat,Nat.reducePow,Int.reduceNeg,Nat.reduceAdd,Nat.reduceLT,Nat.reduceLeDiff,sA,sB,Nat.reduceEqDiff,cQ,rowQ,rowU,rowT,rowM,i64s_getD,i64s_length,i64s_all,tab_length,tab_drop,tab_take,tab_append,tab_nil,rowT_all,rowT_one,rowT_pure,rowU_all,rowU_one,rowU_pure,rowQ_all,rowQ_one,rowQ_pure,rowM_all,rowM_one,rowM_pure,List.take_length,List.length_append,sT]) : G := e.mpr h
theorem sUfX {G G' P : Prop} (p : P) (h : G') (e : P → G = G' := by intro p;conv => lhs;simp (disch := omega) only [rowsOf,cNat,cN,St.ret,St.seth,Eff.app,Eff.wi,sepL,guardOf,St.known,objOf,List.set,sliceW,litW,copyW,lenOf,bnd,mxOk,ofCells,TI.isAgg,cellsOf,storable,AV.one,dead,laid,overlay,reduceCtorEq,Int.reduceLE,Int.reduceLT,Int.reduceSub,Int.reduceAdd,Nat.reduceMul,Int.reduceToNat,Nat.reducePow,Int.reduceNeg,Nat.reduceAdd,Nat.reduceLT,Nat.reduceLeDiff,sA,sB,Nat.reduceEqDiff,cQ,rowQ,rowU,rowT,rowM,i64s_getD,i64s_length,i64s_all,tab_length,tab_drop,tab_take,tab_append,tab_nil,rowT_all,rowT_one,rowT_pure,rowU_all,rowU_one,rowU_pure,rowQ_all,rowQ_one,rowQ_pure,rowM_all,rowM_one,rowM_pure,List.take_length,List.length_append,sT,p]) : G := (e p).mpr h
theorem sUfV {G G' : Prop} (h : G') (e : G = G' := by conv => lhs;simp (disch := omega) only [rowsOf,cNat,cN,St.ret,St.seth,Eff.app,Eff.wi,sepL,guardOf,St.known,objOf,List.set,sliceW,litW,copyW,lenOf,bnd,mxOk,ofCells,TI.isAgg,cellsOf,storable,AV.one,dead,laid,overlay,reduceCtorEq,Int.reduceLE,Int.reduceLT,Int.reduceSub,Int.reduceAdd,Nat.reduceMul,Int.reduceToNat,Nat.reducePow,Int.reduceNeg,Nat.reduceAdd,Nat.reduceLT,Nat.reduceLeDiff,sA,sB,Nat.reduceEqDiff,cQ,rowQ,rowU,rowT,rowM,i64s_getD,i64s_length,i64s_all,tab_length,tab_drop,tab_take,tab_append,tab_nil,rowT_all,rowT_one,rowT_pure,rowU_all,rowU_one,rowU_pure,rowQ_all,rowQ_one,rowQ_pure,rowM_all,rowM_one,rowM_pure,List.take_length,List.length_append,sT,view_sref,viewRef,view_agg,views_cons,views_nil,view_bool,view_int,view_sl,view_nils,view_str,view_tup,view_nilif]) : G := e.mpr h
theorem aUf {G G' : Prop} (h : G') (f : Wr G' → G := by intro h;(repeat (first|(refine W_seqV fun K hK => ?_;(try (refine sUf ?_;try exact True.intro));(repeat refine aI ?_);refine hK _ ?_;clear hK K)|(refine W_seqR fun K hK => ?_;(try (refine sUf ?_;try exact True.intro));(repeat refine aI ?_);refine hK _ ?_;clear hK K)|(refine W_seqD mixed [] (by kernel_rfl) fun K hK => ?_;(try (refine sUf ?_;try exact True.intro));(repeat refine aI ?_);refine hK _ ?_;clear hK K)));exact h.out) : G := f ⟨h⟩
theorem len_neI (n : Nat) : ((n : Int) != (n : Int)) = false := by simp
theorem int_neI (n : Int) : (n != n) = false := by simp
theorem bool_eqI (b : Bool) : (b == b) = true := by simp
theorem f1same_ok (l : List Nat) (h : l.length < 1099511627776) : Pure Tryz.prog 114 [.sl (u32s l),.sl (u32s l)] (· = .bool true) := by
 have hz := len_neI l.length
 (refine pureW Tryz.func114 rfl (rs := [Go.ResultVar.tmp 4]) rfl (n := 26) rfl ?_;simp only [List.length_cons,List.length_nil,List.replicate,List.cons_append,List.nil_append])
 (refine aUf ?_)
 refine W_seq ?_
 ((refine W_seqV ?_);intro K hK;(refine sUfX hz ?_))
 (refine hK _ ?_;clear hK K)
 (refine W_cf rfl ?_)
 refine W_skip ?_
 simp only [thenW]
 refine W_seq ?_
 ((refine W_seqV ?_);intro K hK;(refine sUf ?_))
 (refine hK _ ?_;clear hK K)
 refine W_block (W_loop (fun t : {t : Nat // t ≤ l.length} =>
   ⟨[.sl (u32s l),.sl (u32s l),.any,.any,.any,.int .i64 t.1,.any,.any,.any,.any,.any,.any,.any,.any,.any,.any,.any,.any,.any,.any,.any,.any,.any,.any,.any,.any],[.dead,.dead,.dead,.dead,.dead,.dead,.dead,.dead,.dead,.dead,.dead,.dead,.dead,.dead,.dead,.dead,.dead,.dead,.dead,.dead,.dead,.dead,.dead,.dead,.dead,.dead]⟩) (fun t => l.length - t.1)
   ⟨0,by omega⟩ (Le_of (by simp [leE]) (by simp)) fun t => ?_)
 obtain ⟨i,hi⟩ := t
 dsimp only
 by_cases hlt : i < l.length
 ·generalize hx : l.getD i 0 = x
  have hzx := len_neI x
  refine W_seq ?_
  ((refine W_seqV ?_);intro K hK;(refine sUfX hlt ?_))
  (refine hK _ ?_;clear hK K)
  (refine W_ct rfl ?_)
  refine W_skip ?_
  simp only [thenW]
  refine W_seq ?_
  refine W_block ?_
  ((refine W_seqD mixed [] (by kernel_rfl) ?_);intro K hK;(refine sUfX (And.intro hlt (And.intro hx hzx)) ?_))
  (refine hK _ ?_;clear hK K)
  (refine W_cf rfl ?_)
  refine W_skip ?_
  simp only [blockW,thenW]
  ((refine W_regV ?_);intro K hK;(refine sUf ?_))
  (refine hK _ ?_;clear hK K)
  simp only [blockW,thenW]
  refine ⟨⟨i + 1,by omega⟩,Le_drop (by simp [leE]) (by simp [leH]) rfl rfl,?_⟩
  dsimp only
  omega
 ·obtain rfl : i = l.length := by omega
  refine W_seq ?_
  ((refine W_seqV ?_);intro K hK;(refine sUf ?_))
  (refine hK _ ?_;clear hK K)
  (refine W_cf rfl ?_)
  refine W_exit ?_
  simp only [thenW,blockW,if_true]
  (repeat' (first | (refine W_seqV fun K hK => ?_;(try (refine sUf ?_));refine hK _ ?_;clear hK K) | (refine W_ret ?_;(refine qG ?_;try exact True.intro))))
theorem f3same_ok (r : RR) (h : r.ok) : Pure Tryz.prog 72 [r.av,r.av] (· = .bool true) := by
 have h1 := f1same_ok r.num (by have := h.nl;omega)
 have h2 := f1same_ok r.den (by have := h.dl;omega)
 have hb := bool_eqI r.neg
 obtain ⟨neg,n,d⟩ := r
 simp only [RR.av] at *
 (refine pureW Tryz.func72 rfl (rs := [Go.ResultVar.tmp 4]) rfl (n := 28) rfl ?_;simp only [List.length_cons,List.length_nil,List.replicate,List.cons_append,List.nil_append])
 (refine aUf ?_)
 ((refine W_seqV ?_);intro K hK;(refine sUfX hb ?_))
 (refine ⟨by kernel_rfl,_,.pure rfl (h1),?_⟩;(try (refine sUf ?_)))
 (refine ⟨by kernel_rfl,_,.pure rfl (h2),?_⟩;(try (refine sUf ?_)))
 (refine hK _ ?_;clear hK K)
 refine W_ret ?_
 (refine qG ?_;try exact True.intro);try (refine sUfV ?_;try exact True.intro)
theorem r7sameForm_ok (f : List (Int × RR)) (h : ∀ p ∈ f,p.2.ok) (hl : f.length < 1099511627776) : Pure Tryz.prog 27 [cF f,cF f] (· = .bool true) := by
 have hz := len_neI f.length
 have hs : ∀ i,i < f.length → Pure Tryz.prog 72 [(f.getD i default).2.av,(f.getD i default).2.av] (· = .bool true) := fun i hi => f3same_ok _ (h _ (getD_mem hi))
 simp only [cF,RR.av] at *
 (refine pureW Tryz.func27 rfl (rs := [Go.ResultVar.tmp 4]) rfl (n := 42) rfl ?_;simp only [List.length_cons,List.length_nil,List.replicate,List.cons_append,List.nil_append])
 (refine aUf ?_)
 ((refine W_seq (W_seqV ?_));intro K hK;(refine sUfX hz ?_))
 (refine hK _ ?_;clear hK K)
 (refine W_cf rfl ?_)
 refine W_skip ?_
 simp only [thenW]
 refine W_seq ?_
 ((refine W_seqV ?_);intro K hK;(refine sUf ?_))
 (refine hK _ ?_;clear hK K)
 refine W_block (W_loop (fun t : {t : Nat // t ≤ f.length} =>
   ⟨[.sl (tab rowM f),.sl (tab rowM f),.any,.any,.any,.int .i64 t.1,.any,.any,.any,.any,.any,.any,.any,.any,.any,.any,.any,.any,.any,.any,.any,.any,.any,.any,.any,.any,.any,.any,.any,.any,.any,.any,.any,.any,.any,.any,.any,.any,.any,.any,.any,.any],[.dead,.dead,.dead,.dead,.dead,.dead,.dead,.dead,.dead,.dead,.dead,.dead,.dead,.dead,.dead,.dead,.dead,.dead,.dead,.dead,.dead,.dead,.dead,.dead,.dead,.dead,.dead,.dead,.dead,.dead,.dead,.dead,.dead,.dead,.dead,.dead,.dead,.dead,.dead,.dead,.dead,.dead]⟩) (fun t => f.length - t.1)
   ⟨0,by omega⟩ (Le_of (by simp [leE]) (by simp)) fun t => ?_)
 obtain ⟨i,hi⟩ := t
 dsimp only
 by_cases hlt : i < f.length
 ·have hfi : (tab rowM f).getD i [] = rowM (f.getD i default) := tab_getD hlt
  have hsi := hs i hlt
  generalize f.getD i default = p at *
  obtain ⟨v,neg,n,d⟩ := p
  simp only [rowM] at hfi
  dsimp only at *
  have hzx := int_neI v
  refine W_seq ?_
  ((refine W_seqV ?_);intro K hK;(refine sUfX hlt ?_))
  (refine hK _ ?_;clear hK K)
  (refine W_ct rfl ?_)
  refine W_skip ?_
  simp only [thenW]
  refine W_seq ?_
  refine W_block ?_
  ((refine W_seqD mixed [] (by kernel_rfl) ?_);intro K hK;(refine sUfX (And.intro hlt (And.intro hfi hzx)) ?_))
  (refine ⟨by kernel_rfl,_,.pure rfl (hsi),?_⟩;(try (refine sUf ?_)))
  (refine hK _ ?_;clear hK K)
  (refine W_cf rfl ?_)
  refine W_skip ?_
  simp only [blockW,thenW]
  ((refine W_regV ?_);intro K hK;(refine sUf ?_))
  (refine hK _ ?_;clear hK K)
  simp only [blockW,thenW]
  refine ⟨⟨i + 1,by omega⟩,Le_drop (by simp [leE]) (by simp [leH]) rfl rfl,?_⟩
  dsimp only
  omega
 ·obtain rfl : i = f.length := by omega
  refine W_seq ?_
  ((refine W_seqV ?_);intro K hK;(refine sUf ?_))
  (refine hK _ ?_;clear hK K)
  (refine W_cf rfl ?_)
  refine W_exit ?_
  simp only [thenW,blockW,if_true]
  (repeat' (first | (refine W_seqV fun K hK => ?_;(try (refine sUf ?_));refine hK _ ?_;clear hK K) | (refine W_ret ?_;(refine qG ?_;try exact True.intro))))
structure TS (t : TR) : Prop where
 ok : ∀ r ∈ t,∀ p ∈ r.2,p.2.ok
 fl : ∀ r ∈ t,r.2.length < 1099511627776
 len : t.length < 1099511627776
theorem TOk.ts {t : TR} (h : TOk t) : TS t := ⟨h.ok,fun r hr => by have := nbs_len (vals r.2);have := h.nbs hr;rw [vals_length] at *;omega,by have := h.len;omega⟩
theorem r7alike_ok (n : Int) (t : TR) (h : TS t) : Pure Tryz.prog 65 [cT n t,cT n t] (· = .bool true) := by
 have hz := len_neI t.length
 have hzn := int_neI n
 have hlen := h.len
 have hs : ∀ i,i < t.length → Pure Tryz.prog 27 [cF (t.getD i default).2,cF (t.getD i default).2] (· = .bool true) := fun i hi => r7sameForm_ok _ (h.ok _ (getD_mem hi)) (h.fl _ (getD_mem hi))
 simp only [cF,cT] at *
 (refine pureW Tryz.func65 rfl (rs := [Go.ResultVar.tmp 4]) rfl (n := 56) rfl ?_;simp only [List.length_cons,List.length_nil,List.replicate,List.cons_append,List.nil_append])
 (refine aUf ?_)
 ((refine W_seq (W_seqV ?_));intro K hK;(refine sUfX (And.intro hz hzn) ?_))
 (refine hK _ ?_;clear hK K)
 (refine W_cf rfl ?_)
 refine W_skip ?_
 simp only [thenW]
 refine W_seq ?_
 ((refine W_seqV ?_);intro K hK;(refine sUf ?_))
 (refine hK _ ?_;clear hK K)
 refine W_block (W_loop (fun s : {i : Nat // i ≤ t.length} =>
   ⟨[.any,.any,.ptr 2 0 0,.ptr 3 0 0,.any,.int .i64 s.1,.any,.any,.any,.any,.any,.any,.any,.any,.any,.any,.any,.any,.any,.any,.any,.any,.any,.any,.any,.any,.any,.any,.any,.any,.any,.any,.any,.any,.any,.any,.any,.any,.any,.any,.any,.any,.any,.any,.any,.any,.any,.any,.any,.any,.any,.any,.any,.any,.any,.any],[.dead,.dead,.arr 24 2 false [[.int .i64 n,.sl (tab rowT t)]],.arr 24 2 false [[.int .i64 n,.sl (tab rowT t)]],.dead,.dead,.dead,.dead,.dead,.dead,.dead,.dead,.dead,.dead,.dead,.dead,.dead,.dead,.dead,.dead,.dead,.dead,.dead,.dead,.dead,.dead,.dead,.dead,.dead,.dead,.dead,.dead,.dead,.dead,.dead,.dead,.dead,.dead,.dead,.dead,.dead,.dead,.dead,.dead,.dead,.dead,.dead,.dead,.dead,.dead,.dead,.dead,.dead,.dead,.dead,.dead]⟩) (fun s => t.length - s.1)
   ⟨0,by omega⟩ (Le_drop (by simp [leE]) (by simp [leH]) rfl rfl) fun s => ?_)
 obtain ⟨i,hi⟩ := s
 dsimp only
 by_cases hlt : i < t.length
 ·have hti : (tab rowT t).getD i [] = rowT (t.getD i default) := tab_getD hlt
  have hsi := hs i hlt
  generalize t.getD i default = r at *
  obtain ⟨b,f⟩ := r
  simp only [rowT] at hti
  dsimp only at *
  have hzx := int_neI b
  refine W_seq ?_
  ((refine W_seqV ?_);intro K hK;(refine sUfX hlt ?_))
  (refine hK _ ?_;clear hK K)
  (refine W_ct rfl ?_)
  refine W_skip ?_
  simp only [thenW]
  refine W_seq ?_
  refine W_block ?_
  ((refine W_seqD mixed [] (by kernel_rfl) ?_);intro K hK;(refine sUfX (And.intro hlt (And.intro hti hzx)) ?_))
  (refine ⟨by kernel_rfl,_,.pure rfl (hsi),?_⟩;(try (refine sUf ?_)))
  (refine hK _ ?_;clear hK K)
  (refine W_cf rfl ?_)
  refine W_skip ?_
  simp only [blockW,thenW]
  ((refine W_regV ?_);intro K hK;(refine sUf ?_))
  (refine hK _ ?_;clear hK K)
  simp only [blockW,thenW]
  refine ⟨⟨i + 1,by omega⟩,Le_drop (by simp [leE]) (by simp [leH]) rfl rfl,?_⟩
  dsimp only
  omega
 ·obtain rfl : i = t.length := by omega
  refine W_seq ?_
  ((refine W_seqV ?_);intro K hK;(refine sUf ?_))
  (refine hK _ ?_;clear hK K)
  (refine W_cf rfl ?_)
  refine W_exit ?_
  simp only [thenW,blockW,if_true]
  (repeat' (first | (refine W_seqV fun K hK => ?_;(try (refine sUf ?_));refine hK _ ?_;clear hK K) | (refine W_ret ?_;(refine qG ?_;try exact True.intro))))
theorem lalike_ok (n : Int) (t : TR) (h : TS t) : Pure Tryz.prog 20 [cT n t,cT n t] (· = .bool true) := by
 have a := r7alike_ok n t h
 unfold cT at *
 (refine pureW Tryz.func20 rfl (rs := [Go.ResultVar.tmp 4]) rfl (n := 8) rfl ?_;simp only [List.length_cons,List.length_nil,List.replicate,List.cons_append,List.nil_append])
 (refine aUf ?_)
 ((refine W_seqV ?_);intro K hK;(refine sUf ?_))
 (refine ⟨by kernel_rfl,_,.pure rfl (a),?_⟩;(try (refine sUf ?_)))
 (refine hK _ ?_;clear hK K)
 refine W_ret ?_
 (refine qG ?_;try exact True.intro);try (refine sUfV ?_;try exact True.intro)
def rfT (M : TM) : TR := M.map fun r => (r.1,rf r.2)
theorem cU_rf (n : Int) (M : TM) : cT n (rfT M) = cU n M := by
 unfold cT cU rfT
 congr 4
 unfold tab
 rw [List.map_map]
 refine List.map_congr_left fun r _ => ?_
 simp only [Function.comp,rowT,rowU]
 rw [tab_rf]
theorem MOk.ts {M : TM} {B : Nat} (h : MOk M B) (hB : B < 17179869184) : TS (rfT M) := by
 refine ⟨fun r hr p hp => ?_,fun r hr => ?_,by simp only [rfT,List.length_map];exact h.len⟩
 ·obtain ⟨q,hq,rfl⟩ := List.mem_map.1 hr
  obtain ⟨x,hx,rfl⟩ := List.mem_map.1 hp
  have := (h.sz q hq).mem hx
  exact qr_ok (by omega)
 ·obtain ⟨q,hq,rfl⟩ := List.mem_map.1 hr
  have := (h.sz q hq).l
  simp only [rf,List.length_map]
  omega
theorem mnat_ok (l : List Nat) (h : l.length < 1099511627776) : Pure Tryz.prog 111 [.sl (u32s l)] (· = .sl (u32s l)) := by
 (refine pureW Tryz.func111 rfl (rs := [Go.ResultVar.tmp 2]) rfl (n := 19) rfl ?_;simp only [List.length_cons,List.length_nil,List.replicate,List.cons_append,List.nil_append])
 (refine aUf ?_)
 refine W.le ?_ (Le_nil 3 3 128 1 true rfl rfl)
 simp only [List.set]
 refine W_seq ?_
 ((refine W_seqV ?_);intro K hK;(refine sUf ?_))
 (refine hK _ ?_;clear hK K)
 refine W_block (W_loop (fun t : {t : Nat // t ≤ l.length} =>
   ⟨[.sl (u32s l),.any,.any,.sref 3 0 t.1,.int .i64 t.1,.any,.any,.any,.any,.any,.any,.any,.any,.any,.any,.any,.any,.any,.any],[.dead,.dead,.dead,.arr 128 1 true (u32s (l.take t.1)),.dead,.dead,.dead,.dead,.dead,.dead,.dead,.dead,.dead,.dead,.dead,.dead,.dead,.dead,.dead]⟩) (fun t => l.length - t.1)
   ⟨0,by omega⟩ (Le_drop (by simp [leE]) (by simp [leH,u32s]) rfl rfl) fun t => ?_)
 obtain ⟨i,hi⟩ := t
 dsimp only
 have htl : (l.take i).length = i := by rw [List.length_take];omega
 by_cases hlt : i < l.length
 ·have hst : l.take (i + 1) = l.take i ++ [l.getD i 0] := by
   rw [List.take_succ_eq_append_getElem hlt]
   simp [List.getD_eq_getElem?_getD,hlt]
  generalize hx : l.getD i 0 = x at *
  generalize hP : l.take i = P at *
  refine W_seq ?_
  ((refine W_seqV ?_);intro K hK;(refine sUfX hlt ?_))
  (refine hK _ ?_;clear hK K)
  (refine W_ct rfl ?_)
  refine W_skip ?_
  simp only [thenW]
  refine W_seq ?_
  refine W_block ?_
  refine W_regR fun K hK => ?_
  (refine sUfX (And.intro hx (And.intro hlt htl)) ?_;try exact True.intro)
  (repeat refine aI ?_)
  refine hK _ ?_
  clear hK K
  simp only [blockW,thenW]
  ((refine W_regV ?_);intro K hK;(refine sUf ?_))
  (refine hK _ ?_;clear hK K)
  simp only [blockW,thenW]
  refine ⟨⟨i + 1,by omega⟩,Le_drop (by simp [leE]) (by simp [leH,hst,u32s,List.take_of_length_le,htl]) rfl rfl,?_⟩
  dsimp only
  omega
 ·obtain rfl : i = l.length := by omega
  rw [List.take_length]
  refine W_seq ?_
  ((refine W_seqV ?_);intro K hK;(refine sUf ?_))
  (refine hK _ ?_;clear hK K)
  (refine W_cf rfl ?_)
  refine W_exit ?_
  simp only [thenW,blockW,if_true]
  (refine W.le ?_ (Le_freeze 3 (rows := u32s l) rfl (by simp) (.inl rfl));simp only [St.freeze,List.map_cons,List.map_nil,List.set,if_true,if_false,Nat.reduceEqDiff,reduceCtorEq,List.drop_zero,u32s_take,u32s_drop,froz_any,froz_und,froz_int,froz_bool,froz_str,froz_nils,froz_sl,froz_ia,froz_nilp,froz_nilif,froz_nilfn,froz_nilmp,froz_gl,froz_sref,froz_ptr,froz_agg,froz_tup,froz_fn,froz_ifc,frozs_nil,frozs_cons,froz_dead,froz_arr,froz_mp,froz_it,froz_md,froz_map,froz_iter])
  (repeat' (first | (refine W_seqV fun K hK => ?_;(try (refine sUf ?_));refine hK _ ?_;clear hK K) | (refine W_ret ?_;(refine qG ?_;try exact True.intro))))
theorem mint_ok (neg : Bool) (l : List Nat) (h : l.length < 1099511627776) : Pure Tryz.prog 110 [.agg [.bool neg,.sl (u32s l)]] (· = .agg [.bool neg,.sl (u32s l)]) := by
 have a := mnat_ok l h
 (refine pureW Tryz.func110 rfl (rs := [Go.ResultVar.cell 2 51]) rfl (n := 9) rfl ?_;simp only [List.length_cons,List.length_nil,List.replicate,List.cons_append,List.nil_append])
 (refine aUf ?_)
 ((refine W_seqS mixed 6 [] (by kernel_rfl) ?_);intro K hK;(refine sUf ?_))
 (refine ⟨by kernel_rfl,_,.pure rfl (a),?_⟩;(try (refine sUf ?_)))
 (refine hK _ ?_;clear hK K)
 refine W_ret ?_
 (refine qG ?_;try exact True.intro);try (refine sUfV ?_;try exact True.intro)
theorem mrat_ok (r : RR) (h : r.ok) : Pure Tryz.prog 68 [r.av] (· = r.av) := by
 have a1 := mint_ok r.neg r.num (by have := h.nl;omega)
 have a2 := mnat_ok r.den (by have := h.dl;omega)
 obtain ⟨neg,n,d⟩ := r
 simp only [RR.av] at *
 (refine pureW Tryz.func68 rfl (rs := [Go.ResultVar.cell 2 53]) rfl (n := 10) rfl ?_;simp only [List.length_cons,List.length_nil,List.replicate,List.cons_append,List.nil_append])
 (refine aUf ?_)
 ((refine W_seqS mixed 7 [] (by kernel_rfl) ?_);intro K hK;(refine sUf ?_))
 (refine ⟨by kernel_rfl,_,.pure rfl (a1),?_⟩;(try (refine sUf ?_)))
 (refine ⟨by kernel_rfl,_,.pure rfl (a2),?_⟩;(try (refine sUf ?_)))
 (refine hK _ ?_;clear hK K)
 refine W_ret ?_
 (refine qG ?_;try exact True.intro);try (refine sUfV ?_;try exact True.intro)
theorem mform_ok (f : List (Int × RR)) (h : ∀ p ∈ f,p.2.ok) (hl : f.length < 1099511627776) : Pure Tryz.prog 22 [cF f] (· = cF f) := by
 have hs : ∀ i,i < f.length → Pure Tryz.prog 68 [(f.getD i default).2.av] (· = (f.getD i default).2.av) := fun i hi => mrat_ok _ (h _ (getD_mem hi))
 have hst : ∀ i,i < f.length → f.take (i + 1) = f.take i ++ [f.getD i default] := fun i hi => take_snoc hi
 simp only [cF,RR.av] at *
 (refine pureW Tryz.func22 rfl (rs := [Go.ResultVar.tmp 2]) rfl (n := 27) rfl ?_;simp only [List.length_cons,List.length_nil,List.replicate,List.cons_append,List.nil_append])
 (refine aUf ?_)
 refine W.le ?_ (Le_nil 3 3 55 4 true rfl rfl)
 simp only [List.set]
 refine W_seq ?_
 ((refine W_seqV ?_);intro K hK;(refine sUf ?_))
 (refine hK _ ?_;clear hK K)
 refine W_block (W_loop (fun t : {t : Nat // t ≤ f.length} =>
   ⟨[.sl (tab rowM f),.any,.any,.sref 3 0 t.1,.int .i64 t.1,.any,.any,.any,.any,.any,.any,.any,.any,.any,.any,.any,.any,.any,.any,.any,.any,.any,.any,.any,.any,.any,.any],[.dead,.dead,.dead,.arr 55 4 true (tab rowM (f.take t.1)),.dead,.dead,.dead,.dead,.dead,.dead,.dead,.dead,.dead,.dead,.dead,.dead,.dead,.dead,.dead,.dead,.dead,.dead,.dead,.dead,.dead,.dead,.dead]⟩) (fun t => f.length - t.1)
   ⟨0,by omega⟩ (Le_drop (by simp [leE]) (by simp [leH,tab]) rfl rfl) fun t => ?_)
 obtain ⟨i,hi⟩ := t
 dsimp only
 have htl : (f.take i).length = i := by rw [List.length_take];omega
 by_cases hlt : i < f.length
 ·have hfi : (tab rowM f).getD i [] = rowM (f.getD i default) := tab_getD hlt
  have hsi := hs i hlt
  have hsti := hst i hlt
  generalize f.getD i default = p at *
  obtain ⟨v,neg,n,d⟩ := p
  simp only [rowM] at hfi
  dsimp only at *
  generalize f.take i = P at *
  refine W_seq ?_
  ((refine W_seqV ?_);intro K hK;(refine sUfX hlt ?_))
  (refine hK _ ?_;clear hK K)
  (refine W_ct rfl ?_)
  refine W_skip ?_
  simp only [thenW]
  refine W_seq ?_
  refine W_block ?_
  ((refine W_regS mixed 14 [] (by kernel_rfl) ?_);intro K hK;(refine sUfX (And.intro hlt hfi) ?_))
  (refine ⟨by kernel_rfl,_,.pure rfl (hsi),?_⟩;(try (refine sUf ?_));(repeat refine aI ?_))
  (refine hK _ ?_;clear hK K)
  simp only [blockW,thenW]
  ((refine W_regV ?_);intro K hK;(refine sUf ?_))
  (refine hK _ ?_;clear hK K)
  simp only [blockW,thenW]
  refine ⟨⟨i + 1,by omega⟩,Le_drop (by simp [leE]) (by simp [leH,hsti,← tab_snoc,rowM,tab_take,List.take_of_length_le,htl]) rfl rfl,?_⟩
  dsimp only
  omega
 ·obtain rfl : i = f.length := by omega
  rw [List.take_length]
  refine W_seq ?_
  ((refine W_seqV ?_);intro K hK;(refine sUf ?_))
  (refine hK _ ?_;clear hK K)
  (refine W_cf rfl ?_)
  refine W_exit ?_
  simp only [thenW,blockW,if_true]
  (refine W.le ?_ (Le_freeze 3 (rows := tab rowM f) rfl (by simp) (.inl rfl));simp only [St.freeze,List.map_cons,List.map_nil,List.set,if_true,if_false,Nat.reduceEqDiff,reduceCtorEq,List.drop_zero,u32s_take,u32s_drop,froz_any,froz_und,froz_int,froz_bool,froz_str,froz_nils,froz_sl,froz_ia,froz_nilp,froz_nilif,froz_nilfn,froz_nilmp,froz_gl,froz_sref,froz_ptr,froz_agg,froz_tup,froz_fn,froz_ifc,frozs_nil,frozs_cons,froz_dead,froz_arr,froz_mp,froz_it,froz_md,froz_map,froz_iter])
  (repeat' (first | (refine W_seqV fun K hK => ?_;(try (refine sUf ?_));refine hK _ ?_;clear hK K) | (refine W_ret ?_;(refine qG ?_;try exact True.intro))))
theorem ltwin_ok (n : Int) (t : TR) (h : TS t) : Pure Tryz.prog 18 [cT n t] (· = cT n t) := by
 have hlen := h.len
 have hs : ∀ i,i < t.length → Pure Tryz.prog 22 [cF (t.getD i default).2] (· = cF (t.getD i default).2) := fun i hi => mform_ok _ (h.ok _ (getD_mem hi)) (h.fl _ (getD_mem hi))
 have hst : ∀ i,i < t.length → t.take (i + 1) = t.take i ++ [t.getD i default] := fun i hi => take_snoc hi
 simp only [cF,cT] at *
 (refine pureW Tryz.func18 rfl (rs := [Go.ResultVar.cell 2 24]) rfl (n := 35) rfl ?_;simp only [List.length_cons,List.length_nil,List.replicate,List.cons_append,List.nil_append])
 (refine aUf ?_)
 refine W.le ?_ (Le_nilO 3 0 1 32 84 2 true rfl rfl rfl rfl)
 simp only [List.set]
 refine W_seq ?_
 ((refine W_seqV ?_);intro K hK;(refine sUf ?_))
 (refine hK _ ?_;clear hK K)
 refine W_block (W_loop (fun s : {i : Nat // i ≤ t.length} =>
   ⟨[.any,.ptr 1 0 0,.ptr 2 0 0,.ptr 3 0 0,.int .i64 s.1,.any,.any,.any,.any,.any,.any,.any,.any,.any,.any,.any,.any,.any,.any,.any,.any,.any,.any,.any,.any,.any,.any,.any,.any,.any,.any,.any,.any,.any,.any],[.dead,.arr 24 2 false [[.int .i64 n,.sl (tab rowT t)]],.arr 24 2 false [[.int .i64 0,.nils]],.arr 24 2 false [[.int .i64 n,.sref 32 0 s.1]],.dead,.dead,.dead,.dead,.dead,.dead,.dead,.dead,.dead,.dead,.dead,.dead,.dead,.dead,.dead,.dead,.dead,.dead,.dead,.dead,.dead,.dead,.dead,.dead,.dead,.dead,.dead,.dead,.arr 84 2 true (tab rowT (t.take s.1)),.dead,.dead]⟩) (fun s => t.length - s.1)
   ⟨0,by omega⟩ (Le_drop (by simp [leE]) (by simp [leH,tab]) rfl rfl) fun s => ?_)
 obtain ⟨i,hi⟩ := s
 dsimp only
 have htl : (t.take i).length = i := by rw [List.length_take];omega
 by_cases hlt : i < t.length
 ·have hti : (tab rowT t).getD i [] = rowT (t.getD i default) := tab_getD hlt
  have hsi := hs i hlt
  have hsti := hst i hlt
  generalize t.getD i default = r at *
  obtain ⟨b,f⟩ := r
  simp only [rowT] at hti
  dsimp only at *
  generalize t.take i = P at *
  refine W_seq ?_
  ((refine W_seqV ?_);intro K hK;(refine sUfX hlt ?_))
  (refine hK _ ?_;clear hK K)
  (refine W_ct rfl ?_)
  refine W_skip ?_
  simp only [thenW]
  refine W_seq ?_
  refine W_block ?_
  ((refine W_regS mixed 17 [] (by kernel_rfl) ?_);intro K hK;(refine sUfX (And.intro hlt hti) ?_))
  (refine ⟨by kernel_rfl,_,.pure rfl (hsi),?_⟩;(try (refine sUf ?_));(repeat refine aI ?_))
  (refine hK _ ?_;clear hK K)
  simp only [blockW,thenW]
  ((refine W_regV ?_);intro K hK;(refine sUf ?_))
  (refine hK _ ?_;clear hK K)
  simp only [blockW,thenW]
  refine ⟨⟨i + 1,by omega⟩,Le_drop (by simp [leE]) (by simp [leH,hsti,← tab_snoc,rowT,tab_take,List.take_of_length_le,htl]) rfl rfl,?_⟩
  dsimp only
  omega
 ·obtain rfl : i = t.length := by omega
  rw [List.take_length]
  refine W_seq ?_
  ((refine W_seqV ?_);intro K hK;(refine sUf ?_))
  (refine hK _ ?_;clear hK K)
  (refine W_cf rfl ?_)
  refine W_exit ?_
  simp only [thenW,blockW,if_true]
  (repeat' (first | (refine W_seqV fun K hK => ?_;(try (refine sUf ?_));refine hK _ ?_;clear hK K) | (refine W_ret ?_;(refine qG ?_))))
  (try (refine sUfV ?_;try exact True.intro))
theorem sUg {G G' : Prop} (h : G') (e : G = G' := by conv => lhs;simp (disch := omega) only [rowsOf,cNat,cN,St.ret,St.seth,Eff.app,Eff.wi,sepL,guardOf,St.known,objOf,List.set,sliceW,litW,copyW,lenOf,bnd,mxOk,ofCells,TI.isAgg,cellsOf,storable,AV.one,dead,laid,overlay,reduceCtorEq,Int.reduceLE,Int.reduceLT,Int.reduceSub,Int.reduceAdd,Nat.reduceMul,Int.reduceToNat,Nat.reducePow,Int.reduceNeg,Nat.reduceAdd,Nat.reduceLT,Nat.reduceLeDiff,sA,sB,Nat.reduceEqDiff,beq_self_eq_true,Int.reduceBEq,Int.reduceBNe,cQ,rowQ,rowU,rowT,rowM,i64s_getD,i64s_length,i64s_all,tab_length,tab_drop,tab_take,tab_append,tab_nil,rowT_all,rowT_one,rowT_pure,rowU_all,rowU_one,rowU_pure,rowQ_all,rowQ_one,rowQ_pure,rowM_all,rowM_one,rowM_pure,List.take_length,List.length_append,sT]) : G := e.mpr h
theorem sUgV {G G' : Prop} (h : G') (e : G = G' := by conv => lhs;simp (disch := omega) only [rowsOf,cNat,cN,St.ret,St.seth,Eff.app,Eff.wi,sepL,guardOf,St.known,objOf,List.set,sliceW,litW,copyW,lenOf,bnd,mxOk,ofCells,TI.isAgg,cellsOf,storable,AV.one,dead,laid,overlay,reduceCtorEq,Int.reduceLE,Int.reduceLT,Int.reduceSub,Int.reduceAdd,Nat.reduceMul,Int.reduceToNat,Nat.reducePow,Int.reduceNeg,Nat.reduceAdd,Nat.reduceLT,Nat.reduceLeDiff,sA,sB,Nat.reduceEqDiff,beq_self_eq_true,Int.reduceBEq,Int.reduceBNe,cQ,rowQ,rowU,rowT,rowM,i64s_getD,i64s_length,i64s_all,tab_length,tab_drop,tab_take,tab_append,tab_nil,rowT_all,rowT_one,rowT_pure,rowU_all,rowU_one,rowU_pure,rowQ_all,rowQ_one,rowQ_pure,rowM_all,rowM_one,rowM_pure,List.take_length,List.length_append,sT,view_sref,viewRef,view_agg,views_cons,views_nil,view_bool,view_int,view_sl,view_nils,view_str,view_tup,view_nilif]) : G := e.mpr h
theorem aUg {G G' : Prop} (h : G') (f : Wr G' → G := by intro h;(repeat (first|(refine W_seqV fun K hK => ?_;(try (refine sUg ?_;try exact True.intro));(repeat refine aI ?_);refine hK _ ?_;clear hK K)|(refine W_seqR fun K hK => ?_;(try (refine sUg ?_;try exact True.intro));(repeat refine aI ?_);refine hK _ ?_;clear hK K)|(refine W_seqD mixed [] (by kernel_rfl) fun K hK => ?_;(try (refine sUg ?_;try exact True.intro));(repeat refine aI ?_);refine hK _ ?_;clear hK K)));exact h.out) : G := f ⟨h⟩
theorem lmono_ok (v c : Int) (h1 : -9223372036854775808 ≤ c) (h2 : c < 9223372036854775808) : Pure Tryz.prog 69 [.int .i64 v,.int .i64 c] (· = .agg (rowQ (v,(c : Rat)))) := by
 have a := f3whole_ok c h1 h2
 simp only [rowQ,cQ] at *
 (refine pureW Tryz.func69 rfl (rs := [Go.ResultVar.cell 4 55]) rfl (n := 9) rfl ?_;simp only [List.length_cons,List.length_nil,List.replicate,List.cons_append,List.nil_append])
 (refine aUg ?_)
 ((refine W_seqV ?_);intro K hK;(refine sUg ?_))
 (refine ⟨by kernel_rfl,_,.pure rfl (a),?_⟩;(try (refine sUg ?_)))
 (refine hK _ ?_;clear hK K)
 refine W_ret ?_
 (refine qG ?_;try exact True.intro);try (refine sUgV ?_;try exact True.intro)
theorem norm01 : normF [(1,(1 : Rat)),(0,1)] = [(0,1),(1,1)] := by
 refine NF.ext (NF.norm _) (NF.cons (NF.cons NF.nil (by decide) (by simp)) (by decide) (by simp)) fun v => ?_
 rw [coef_norm]
 simp only [coef]
 grind
theorem expr_nil (f : List (Int × Rat)) : exprT [] f = normF f := by
 unfold exprT exprP
 have : ∀ (l : List Int) (h : List (Int × Rat)),l.foldl (fun h v => match lookM [] v with | some g => putF h v g | none => h) h = h := by
  intro l
  induction l with
  | nil => intro h;rfl
  | cons x l ih => intro h;rw [List.foldl_cons];exact ih h
 exact this _ _
theorem lives_ok : Pure Tryz.prog 24 [] (· = .bool true) := by
 have a1 := tnew_ok 2
 have e1 : newR 2 = .tup [.agg [.int .i64 2,.sl []],.int .i64 0] := rfl
 rw [e1] at a1
 have m11 := lmono_ok 1 1 (by omega) (by omega)
 have m01 := lmono_ok 0 1 (by omega) (by omega)
 have h1e : ((1 : Int) : Rat) = 1 := rfl
 rw [h1e] at m11 m01
 have hfo : FormOk (rf [(1,(1 : Rat)),(0,1)]) := by
  refine ⟨fun p hp => ?_,?_⟩
  ·obtain ⟨q,hq,rfl⟩ := List.mem_map.1 hp
   refine qr_ok ?_
   simp only [List.mem_cons,List.mem_nil_iff,or_false] at hq
   rcases hq with rfl | rfl <;> simp only [nb_one] <;> omega
  ·rw [vals_rf]
   simp only [nbs,nb_one]
   omega
 have hto : TOk [] := ⟨by simp,by simp [tb]⟩
 have a2 := tdefine_ok 2 [] (rf [(1,(1 : Rat)),(0,1)]) hto hfo
 have hg : goodB 2 [] = true := by decide
 have hn : nrmT [] = [] := rfl
 have e2 : defV 2 [] (rf [(1,(1 : Rat)),(0,1)]) = .tup [cU 3 [(2,[(0,1),(1,1)])],.int .i64 2,.int .i64 0] := by
  unfold defV
  rw [hn,hg,vals_rf,expr_nil,norm01]
  have hk : knownB 2 [(0,(1 : Rat)),(1,1)] = true := by simp [knownB,inR]
  rw [hk]
  simp only [if_true]
  rw [if_neg (by omega),sortM_snoc (by simp [keys]) (by simp [keys]),show sortM [] = [] by simp [sortM,sortK,keys]]
  rfl
 rw [e2] at a2
 have hts : TS (rfT [(2,[(0,(1 : Rat)),(1,1)])]) := by
  refine MOk.ts (B := 100) ⟨fun r hr => ?_,fun r hr => ?_,by simp⟩ (by omega)
  ·simp at hr;subst hr
   exact NF.cons (NF.cons NF.nil (by decide) (by simp)) (by decide) (by simp)
  ·simp at hr;subst hr
   refine (Sz.of _).mono ?_
   simp only [nbs,nb_one]
   omega
 have a3 := lalike_ok 3 _ hts
 rw [cU_rf] at a3
 have ht0 : tab rowT [] = [] := rfl
 have ht1 : tab rowM (rf [(1,(1 : Rat)),(0,1)]) = [rowQ (1,1),rowQ (0,1)] := by rw [tab_rf];rfl
 have ht2 : tab rowU [(2,[(0,(1 : Rat)),(1,1)])] = [[.int .i64 2,.sl [rowQ (0,1),rowQ (1,1)]]] := rfl
 have q1 : rowQ (1,(1 : Rat)) = [.int .i64 1,.bool (decide ((1 : Rat).num < 0)),.sl (u32s (limbs (1 : Rat).num.natAbs)),.sl (u32s (limbs (1 : Rat).den))] := rfl
 have q0 : rowQ (0,(1 : Rat)) = [.int .i64 0,.bool (decide ((1 : Rat).num < 0)),.sl (u32s (limbs (1 : Rat).num.natAbs)),.sl (u32s (limbs (1 : Rat).den))] := rfl
 simp only [cT,cU,cF,ht0,ht1,ht2] at a2 a3
 rw [q1,q0] at a2 a3
 rw [q1] at m11
 rw [q0] at m01
 clear e1 e2 hfo hto hg hn hts ht0 ht1 ht2 q1 q0 h1e
 generalize (1 : Rat) = one at *
 (refine pureW Tryz.func24 rfl (rs := [Go.ResultVar.tmp 0]) rfl (n := 35) rfl ?_;simp only [List.length_cons,List.length_nil,List.replicate,List.cons_append,List.nil_append])
 (refine aUg ?_)
 ((refine W_seqV ?_);intro K hK;(refine sUg ?_))
 (refine ⟨by kernel_rfl,_,.pure rfl (a1),?_⟩;(try (refine sUg ?_)))
 (refine hK _ ?_;clear hK K)
 (repeat' (first | (exfalso;simp at h;done) | (refine W_seqV fun K hK => ?_;(try (refine sUg ?_));refine hK _ ?_;clear hK K) | refine W_skip ?_ | (refine W_cond rfl (fun h => ?_) (fun h => ?_) <;> (try simp only [cond_true,cond_false,ne_eq,cB] at h)) | refine W_seq ?_))
 ((refine W_regD mixed [] (by kernel_rfl) ?_);intro K hK;(refine sUg ?_))
 (refine ⟨by kernel_rfl,_,.pure rfl (m11),?_⟩;(try (refine sUg ?_)))
 (refine ⟨by kernel_rfl,_,.pure rfl (m01),?_⟩;(try (refine sUg ?_));(repeat refine aI ?_))
 (refine ⟨by kernel_rfl,_,.pure rfl (a2),?_⟩;(try (refine sUg ?_)))
 (refine hK _ ?_;clear hK K)
 ((refine W_seqD mixed [] (by kernel_rfl) ?_);intro K hK;(refine sUg ?_))
 (refine ⟨by kernel_rfl,_,.pure rfl (m01),?_⟩;(try (refine sUg ?_)))
 (refine ⟨by kernel_rfl,_,.pure rfl (m11),?_⟩;(try (refine sUg ?_));(repeat refine aI ?_))
 (refine ⟨by kernel_rfl,_,.pure rfl (a3),?_⟩;(try (refine sUg ?_)))
 (refine hK _ ?_;clear hK K)
 (repeat' (refine W_ret ?_;(refine qG ?_;try exact True.intro)))
theorem MOk.expr {M : TM} {n : Int} (hg : GT n M) {f : List (Int × RR)} (hx : ExOk M f) (hk : knownB n (normF (vals f)) = true) : NF (exprT M (vals f)) ∧ Sz (exprT M (vals f)) 536936448 := by
 have hp := exprP_preG hg hk hx (keys (normF (vals f))).length
 rw [List.take_length] at hp
 exact ⟨hp.1,hp.2.mono (by omega)⟩
theorem FormOk.len {f : List (Int × RR)} (h : FormOk f) : f.length ≤ 68157440 := by have := nbs_len (vals f);have := h.sz;rw [vals_length] at *;omega
theorem sVv {G G' : Prop} (h : G') (e : G = G' := by conv => lhs;simp (disch := omega) only [rowsOf,cNat,cN,St.ret,St.seth,Eff.app,Eff.wi,sepL,guardOf,St.known,objOf,List.set,sliceW,litW,copyW,lenOf,bnd,mxOk,ofCells,TI.isAgg,cellsOf,storable,AV.one,dead,laid,overlay,reduceCtorEq,Int.reduceLE,Int.reduceLT,Int.reduceSub,Int.reduceAdd,Nat.reduceMul,Int.reduceToNat,Nat.reducePow,Int.reduceNeg,Nat.reduceAdd,Nat.reduceLT,Nat.reduceLeDiff,sA,sB,Nat.reduceEqDiff,beq_self_eq_true,Int.reduceBEq,Int.reduceBNe,cQ,rowQ,rowU,rowT,rowM,tab_length,tab_drop,tab_take,tab_append,tab_nil,rowT_all,rowT_one,rowT_pure,rowU_all,rowU_one,rowU_pure,rowQ_all,rowQ_one,rowQ_pure,rowM_all,rowM_one,rowM_pure,List.take_length,List.length_append,sT]) : G := e.mpr h
theorem sVvX {G G' P : Prop} (p : P) (h : G') (e : P → G = G' := by intro p;conv => lhs;simp (disch := omega) only [rowsOf,cNat,cN,St.ret,St.seth,Eff.app,Eff.wi,sepL,guardOf,St.known,objOf,List.set,sliceW,litW,copyW,lenOf,bnd,mxOk,ofCells,TI.isAgg,cellsOf,storable,AV.one,dead,laid,overlay,reduceCtorEq,Int.reduceLE,Int.reduceLT,Int.reduceSub,Int.reduceAdd,Nat.reduceMul,Int.reduceToNat,Nat.reducePow,Int.reduceNeg,Nat.reduceAdd,Nat.reduceLT,Nat.reduceLeDiff,sA,sB,Nat.reduceEqDiff,beq_self_eq_true,Int.reduceBEq,Int.reduceBNe,cQ,rowQ,rowU,rowT,rowM,tab_length,tab_drop,tab_take,tab_append,tab_nil,rowT_all,rowT_one,rowT_pure,rowU_all,rowU_one,rowU_pure,rowQ_all,rowQ_one,rowQ_pure,rowM_all,rowM_one,rowM_pure,List.take_length,List.length_append,sT,p]) : G := (e p).mpr h
theorem sVvV {G G' : Prop} (h : G') (e : G = G' := by conv => lhs;simp (disch := omega) only [rowsOf,cNat,cN,St.ret,St.seth,Eff.app,Eff.wi,sepL,guardOf,St.known,objOf,List.set,sliceW,litW,copyW,lenOf,bnd,mxOk,ofCells,TI.isAgg,cellsOf,storable,AV.one,dead,laid,overlay,reduceCtorEq,Int.reduceLE,Int.reduceLT,Int.reduceSub,Int.reduceAdd,Nat.reduceMul,Int.reduceToNat,Nat.reducePow,Int.reduceNeg,Nat.reduceAdd,Nat.reduceLT,Nat.reduceLeDiff,sA,sB,Nat.reduceEqDiff,beq_self_eq_true,Int.reduceBEq,Int.reduceBNe,cQ,rowQ,rowU,rowT,rowM,tab_length,tab_drop,tab_take,tab_append,tab_nil,rowT_all,rowT_one,rowT_pure,rowU_all,rowU_one,rowU_pure,rowQ_all,rowQ_one,rowQ_pure,rowM_all,rowM_one,rowM_pure,List.take_length,List.length_append,sT,view_sref,viewRef,view_agg,views_cons,views_nil,view_bool,view_int,view_sl,view_nils,view_str,view_tup,view_nilif]) : G := e.mpr h
theorem aVv {G G' : Prop} (h : G') (f : Wr G' → G := by intro h;(repeat (first|(refine W_seqV fun K hK => ?_;(try (refine sVv ?_;try exact True.intro));(repeat refine aI ?_);refine hK _ ?_;clear hK K)|(refine W_seqR fun K hK => ?_;(try (refine sVv ?_;try exact True.intro));(repeat refine aI ?_);refine hK _ ?_;clear hK K)|(refine W_seqD mixed [] (by kernel_rfl) fun K hK => ?_;(try (refine sVv ?_;try exact True.intro));(repeat refine aI ?_);refine hK _ ?_;clear hK K)));exact h.out) : G := f ⟨h⟩
theorem tb_of_foll {M : TM} (h : tb M ≤ 68157440) : ∀ r ∈ M,Sz r.2 536870912 := fun r hr => (Sz.of _).mono (by have := tb_mem hr;omega)
theorem nbs_negF (f : List (Int × Rat)) : nbs (negF f) ≤ 3 * nbs f := by
 unfold negF scaleF
 induction f with
 | nil => simp [nbs]
 | cons p f ih =>
  simp only [List.map_cons,nbs]
  have h1 := nb_mul (-1) p.2
  have h2 : nb (-1 : Rat) = 2 := nb_m1
  have h3 := nb_pos p.2
  omega
theorem nbs_whole (b : Int) (f : List (Int × Rat)) : nbs (wholeF b f) ≤ nbs f + 6 := by
 unfold wholeF subF
 have h1 := nbs_norm (f ++ negF (normF [(b,1)]))
 have h2 := nbs_append f (negF (normF [(b,1)]))
 have h3 := nbs_negF (normF [(b,1)])
 have h4 := nbs_norm [(b,(1 : Rat))]
 have h5 : nbs [(b,(1 : Rat))] = 2 := by simp [nbs,nb_one]
 omega
theorem FollOk.of {M N : TM} (hn : (keys M).Nodup) (hM : tb M ≤ 68157440) (hN : tb N ≤ 68157440) : FollOk M N :=
 ⟨tb_of_foll (by omega),fun r hr => by
  have h1 := nbs_whole r.1 r.2
  have h2 := tb_mem hr
  have h3 : vals (rf (wholeF r.1 r.2)) = wholeF r.1 r.2 := vals_rf _
  refine ⟨FOk.rf ((Sz.of _).mono (by omega)) (by omega),fun r hr => (Sz.of _).mono (by have := tb_mem hr;omega),fun i x y c hc hy => ?_⟩
  rw [h3] at hc hy
  have := nb_expr (keys_take hn i) (wholeF r.1 r.2) hc hy
  have := tb_take M i
  omega⟩
theorem sameV_ref {n : Int} {t : TR} {m : Int} {u : TR} : sameV n t m u = if goodB n (nrmT t) && goodB m (nrmT u) then if n = m then .tup [.bool (decide (t.length = u.length) && follB (nrmT t) (nrmT u)),.int .i64 0] else .tup [.bool false,.int .i64 1] else .tup [.bool false,.int .i64 70] := by
 unfold sameV
 split
 ·rename_i h
  rw [Bool.and_eq_true] at h
  split
  ·rename_i hn
   subst hn
   rw [foll_both (gt_iff.1 h.1) (gt_iff.1 h.2),nrmT_len,nrmT_len]
  ·rfl
 ·rfl
theorem whole_raw (b : Int) (f : List (Int × Rat)) : subF f [(b,1)] = wholeF b (normF f) := by
 unfold wholeF
 refine NF.ext (NF.sub _ _) (NF.sub _ _) fun x => ?_
 rw [coef_sub,coef_sub,coef_norm]
theorem r7same_row {n : Int} {t u : TR} (hT : TG t) (hU : TG u) (h1 : goodB n (nrmT t) = true) (h2 : goodB n (nrmT u) = true) (hfo : FollOk (nrmT t) (nrmT u)) {k : Nat} (hk : k < u.length) :
  ∃ b f wh,(tab rowT u).getD k [] = [.int .i64 b,.sl (tab rowM f)] ∧ wholeF ((nrmT u).getD k default).1 ((nrmT u).getD k default).2 = wh ∧
   Pure Tryz.prog 84 [cF f,.sl (tab rowQ [(b,(1 : Rat))])] (· = cL wh) ∧ Pure Tryz.prog 71 [cT n t,cL wh] (· = cL (exprT (nrmT t) wh)) ∧ (exprT (nrmT t) wh).length ≤ 65536 := by
 have hgu := gt_iff.1 h2
 have hkm : (nrmT u).getD k default ∈ nrmT u := getD_mem (by rw [nrmT_len];exact hk)
 have hrf := hfo.ex _ hkm
 have hwr := whole_range hgu hkm
 rw [nrmT_getD hk] at hrf hwr ⊢
 have hff := hU.form (getD_mem hk)
 have hpf := hff.pf (by omega)
 refine ⟨(u.getD k default).1,(u.getD k default).2,_,tab_getD hk,rfl,?_,?_,exprT_len (gt_iff.1 h1) hwr⟩
 ·have hsub := f6sub_ok (u.getD k default).2 (rf [((u.getD k default).1,1)]) hpf ((unit_fok _).pf (by omega)) (fun p hp => by
   simp only [rf,List.map_cons,List.map_nil,List.mem_singleton] at hp
   subst hp
   rw [qr_v,nb_one]
   omega) (by have h9 := hff.sz.l;rw [vals_length] at h9;simp only [rf,List.length_map,List.length_cons,List.length_nil];omega) (by omega)
  rw [vals_rf,whole_raw,cF_rf] at hsub
  exact hsub
 ·have he := r7expr_ok n t (rf (wholeF (u.getD k default).1 (normF (vals (u.getD k default).2)))) hT (gt_iff.1 h1) hrf (by rw [vals_rf];exact hwr)
  rw [vals_rf,cF_rf] at he
  exact he
set_option maxHeartbeats 8000000 in
theorem r7same_g (n : Int) (t : TR) (m : Int) (u : TR) (hT : TG t) (hU : TG u) (hx : goodB n (nrmT t) = true → goodB m (nrmT u) = true → n = m → FollOk (nrmT t) (nrmT u)) :
  Pure Tryz.prog 39 [cT n t,cT m u] (· = sameV n t m u) := by
 have a1 := r7check_ok n t hT
 have a2 := r7check_ok m u hU
 have hw := f3whole_ok 1 (by omega) (by omega)
 have h1e : ((1 : Int) : Rat) = 1 := rfl
 rw [h1e] at hw
 have hlt1 := hT.len
 have hlu1 := hU.len
 have hrow := fun h1 h2 (h3 : n = m) k (hk : k < u.length) => r7same_row (n := n) hT hU h1 (by rw [h3];exact h2) (hx h1 h2 h3) hk
 rw [sameV_ref]
 unfold follB
 have hml := nrmT_len u
 unfold cT at *
 clear hx hT hU
 generalize goodB n (nrmT t) = gb at *
 generalize goodB m (nrmT u) = gc at *
 generalize nrmT t = M at *
 generalize nrmT u = N at *
 cases gb
 ·simp only [Bool.false_eq_true,if_false,Bool.false_and] at a1 ⊢
  clear hrow
  (refine pureW Tryz.func39 rfl (rs := [Go.ResultVar.tmp 4,Go.ResultVar.tmp 5]) rfl (n := 56) rfl ?_;simp only [List.length_cons,List.length_nil,List.replicate,List.cons_append,List.nil_append])
  (refine aVv ?_)
  ((refine W_seq (W_seqV ?_));intro K hK;(refine sVv ?_))
  (refine ⟨by kernel_rfl,_,.pure rfl (a1),?_⟩;(try (refine sVv ?_)))
  (refine hK _ ?_;clear hK K)
  (repeat' (first | (exfalso;simp at h;done) | (refine W_seqV fun K hK => ?_;(try (refine sVv ?_));refine hK _ ?_;clear hK K) | (refine W_ret ?_;(refine qG ?_;try exact True.intro)) | (refine W_cond rfl (fun h => ?_) (fun h => ?_) <;> (try simp only [cond_true,cond_false,ne_eq,cB] at h))))
 cases gc
 ·simp only [Bool.false_eq_true,if_false,if_true,Bool.and_false] at a1 a2 ⊢
  clear hrow
  (refine pureW Tryz.func39 rfl (rs := [Go.ResultVar.tmp 4,Go.ResultVar.tmp 5]) rfl (n := 56) rfl ?_;simp only [List.length_cons,List.length_nil,List.replicate,List.cons_append,List.nil_append])
  (refine aVv ?_)
  ((refine W_seq (W_seqV ?_));intro K hK;(refine sVv ?_))
  (refine ⟨by kernel_rfl,_,.pure rfl (a1),?_⟩;(try (refine sVv ?_)))
  (refine ⟨by kernel_rfl,_,.pure rfl (a2),?_⟩;(try (refine sVv ?_)))
  (refine hK _ ?_;clear hK K)
  (repeat' (first | (exfalso;simp at h;done) | (refine W_seqV fun K hK => ?_;(try (refine sVv ?_));refine hK _ ?_;clear hK K) | (refine W_ret ?_;(refine qG ?_;try exact True.intro)) | (refine W_cond rfl (fun h => ?_) (fun h => ?_) <;> (try simp only [cond_true,cond_false,ne_eq,cB] at h))))
 simp only [if_true,Bool.and_self] at a1 a2 ⊢
 by_cases hn : n = m
 rotate_left
 ·rw [if_neg hn]
  clear hrow
  have hnb : (n != m) = true := bne_iff_ne.2 hn
  (refine pureW Tryz.func39 rfl (rs := [Go.ResultVar.tmp 4,Go.ResultVar.tmp 5]) rfl (n := 56) rfl ?_;simp only [List.length_cons,List.length_nil,List.replicate,List.cons_append,List.nil_append])
  (refine aVv ?_)
  ((refine W_seq (W_seqV ?_));intro K hK;(refine sVv ?_))
  (refine ⟨by kernel_rfl,_,.pure rfl (a1),?_⟩;(try (refine sVv ?_)))
  (refine ⟨by kernel_rfl,_,.pure rfl (a2),?_⟩;(try (refine sVv ?_)))
  (refine hK _ ?_;clear hK K)
  (refine W_cf rfl ?_)
  refine W_skip ?_
  simp only [thenW]
  refine W_seq ?_
  ((refine W_seqV ?_);intro K hK;(refine sVvX hnb ?_))
  (refine hK _ ?_;clear hK K)
  (repeat' (first | (exfalso;simp at h;done) | (refine W_seqV fun K hK => ?_;(try (refine sVv ?_));refine hK _ ?_;clear hK K) | (refine W_ret ?_;(refine qG ?_;try exact True.intro)) | (refine W_cond rfl (fun h => ?_) (fun h => ?_) <;> (try simp only [cond_true,cond_false,ne_eq,cB] at h))))
 rw [if_pos hn]
 replace hrow := hrow rfl rfl hn
 subst hn
 have hnb : (n != n) = false := by simp
 by_cases hll : t.length = u.length
 rotate_left
 ·have hlb : (((t.length : Nat) : Int) != ((u.length : Nat) : Int)) = true := bne_iff_ne.2 (by omega)
  rw [decide_eq_false hll,Bool.false_and]
  clear hrow
  (refine pureW Tryz.func39 rfl (rs := [Go.ResultVar.tmp 4,Go.ResultVar.tmp 5]) rfl (n := 56) rfl ?_;simp only [List.length_cons,List.length_nil,List.replicate,List.cons_append,List.nil_append])
  (refine aVv ?_)
  ((refine W_seq (W_seqV ?_));intro K hK;(refine sVv ?_))
  (refine ⟨by kernel_rfl,_,.pure rfl (a1),?_⟩;(try (refine sVv ?_)))
  (refine ⟨by kernel_rfl,_,.pure rfl (a2),?_⟩;(try (refine sVv ?_)))
  (refine hK _ ?_;clear hK K)
  (refine W_cf rfl ?_)
  refine W_skip ?_
  simp only [thenW]
  refine W_seq ?_
  ((refine W_seqV ?_);intro K hK;(refine sVvX hnb ?_))
  (refine hK _ ?_;clear hK K)
  (refine W_cf rfl ?_)
  refine W_skip ?_
  simp only [thenW]
  refine W_seq ?_
  ((refine W_seqV ?_);intro K hK;(refine sVvX hlb ?_))
  (refine hK _ ?_;clear hK K)
  (repeat' (first | (exfalso;simp at h;done) | (refine W_seqV fun K hK => ?_;(try (refine sVv ?_));refine hK _ ?_;clear hK K) | (refine W_ret ?_;(refine qG ?_;try exact True.intro)) | (refine W_cond rfl (fun h => ?_) (fun h => ?_) <;> (try simp only [cond_true,cond_false,ne_eq,cB] at h))))
 have hlb : (((t.length : Nat) : Int) != ((u.length : Nat) : Int)) = false := by rw [hll];simp
 rw [decide_eq_true hll,Bool.true_and]
 have hT : (∀ k,k < u.length → (exprT M (wholeF (N.getD k default).1 (N.getD k default).2)).isEmpty = true) → (List.all N fun r => (exprT M (wholeF r.1 r.2)).isEmpty) = true := fun h => List.all_eq_true.2 fun r hr => by
  obtain ⟨k,hk,rfl⟩ := mem_getD hr
  exact h k (by omega)
 have hF : ∀ k,k < u.length → (exprT M (wholeF (N.getD k default).1 (N.getD k default).2)).isEmpty = false → (List.all N fun r => (exprT M (wholeF r.1 r.2)).isEmpty) = false := fun k hk h => by
  rw [Bool.eq_false_iff]
  intro h2
  have := List.all_eq_true.1 h2 _ (getD_mem (show k < N.length by omega))
  rw [h] at this
  cases this
 have ht : ∀ b,tab rowQ [(b,(1 : Rat))] = [[.int .i64 b,.bool (decide ((1 : Rat).num < 0)),.sl (u32s (limbs (1 : Rat).num.natAbs)),.sl (u32s (limbs (1 : Rat).den))]] := fun b => rfl
 simp only [ht,cL,cF,cQ] at hrow hw
 generalize (1 : Rat) = one at *
 generalize (List.all N fun r => (exprT M (wholeF r.1 r.2)).isEmpty) = fb at *
 (refine pureW Tryz.func39 rfl (rs := [Go.ResultVar.tmp 4,Go.ResultVar.tmp 5]) rfl (n := 56) rfl ?_;simp only [List.length_cons,List.length_nil,List.replicate,List.cons_append,List.nil_append])
 (refine aVv ?_)
 ((refine W_seq (W_seqV ?_));intro K hK;(refine sVv ?_))
 (refine ⟨by kernel_rfl,_,.pure rfl (a1),?_⟩;(try (refine sVv ?_)))
 (refine ⟨by kernel_rfl,_,.pure rfl (a2),?_⟩;(try (refine sVv ?_)))
 (refine hK _ ?_;clear hK K)
 (refine W_cf rfl ?_)
 refine W_skip ?_
 simp only [thenW]
 refine W_seq ?_
 ((refine W_seqV ?_);intro K hK;(refine sVvX hnb ?_))
 (refine hK _ ?_;clear hK K)
 (refine W_cf rfl ?_)
 refine W_skip ?_
 simp only [thenW]
 refine W_seq ?_
 ((refine W_seqV ?_);intro K hK;(refine sVvX hlb ?_))
 (refine hK _ ?_;clear hK K)
 (refine W_cf rfl ?_)
 refine W_skip ?_
 simp only [thenW]
 refine W_seq ?_
 ((refine W_seqV ?_);intro K hK;(refine sVv ?_))
 (refine hK _ ?_;clear hK K)
 refine W_block (W_loop (fun s : {k : Nat // k ≤ u.length ∧ ∀ i,i < k → (exprT M (wholeF (N.getD i default).1 (N.getD i default).2)).isEmpty = true} =>
   ⟨[.any,.any,.ptr 2 0 0,.ptr 3 0 0,.any,.any,.int .i64 s.1,.any,.any,.any,.any,.any,.any,.any,.any,.any,.any,.any,.any,.any,.any,.any,.any,.any,.any,.any,.any,.any,.any,.any,.any,.any,.any,.any,.any,.any,.any,.any,.any,.any,.any,.any,.any,.any,.any,.any,.any,.any,.any,.any,.any,.any,.any,.any,.any,.any],[.dead,.dead,.arr 24 2 false [[.int .i64 n,.sl (tab rowT t)]],.arr 24 2 false [[.int .i64 n,.sl (tab rowT u)]],.dead,.dead,.dead,.dead,.dead,.dead,.dead,.dead,.dead,.dead,.dead,.dead,.dead,.dead,.dead,.dead,.dead,.dead,.dead,.dead,.dead,.dead,.dead,.dead,.dead,.dead,.dead,.dead,.dead,.dead,.dead,.dead,.dead,.dead,.dead,.dead,.dead,.dead,.dead,.dead,.dead,.dead,.dead,.dead,.dead,.dead,.dead,.dead,.dead,.dead,.dead,.dead]⟩) (fun s => u.length - s.1)
   ⟨0,by omega,fun i hi => absurd hi (Nat.not_lt_zero _)⟩ (Le_drop (by simp [leE]) (by simp [leH]) rfl rfl) fun s => ?_)
 obtain ⟨k,hk,hpre⟩ := s
 dsimp only
 by_cases hlt : k < u.length
 ·obtain ⟨b,f,wh,hti,hwh,hs1,hs2,hel⟩ := hrow k hlt
  have hFk := hF k hlt
  rw [hwh] at hFk
  refine W_seq ?_
  ((refine W_seqV ?_);intro K hK;(refine sVvX hlt ?_))
  (refine hK _ ?_;clear hK K)
  (refine W_ct rfl ?_)
  refine W_skip ?_
  simp only [thenW]
  refine W_seq ?_
  refine W_block ?_
  generalize hee : exprT M wh = e at *
  ((refine W_seqD mixed [] (by kernel_rfl) ?_);intro K hK;(refine sVvX (And.intro hlt hti) ?_))
  (refine ⟨by kernel_rfl,_,.pure rfl (hw),?_⟩;(try (refine sVv ?_));(repeat refine aI ?_))
  (refine ⟨by kernel_rfl,_,.pure rfl (hs1),?_⟩;(try (refine sVv ?_)))
  (refine hK _ ?_;clear hK K)
  by_cases hz : e.length = 0
  ·obtain rfl : e = [] := List.length_eq_zero_iff.1 hz
   ((refine W_seqV ?_);intro K hK;(refine sVv ?_))
   (refine ⟨by kernel_rfl,_,.pure rfl (hs2),?_⟩;(try (refine sVv ?_)))
   (refine hK _ ?_;clear hK K)
   (refine W_cf rfl ?_)
   refine W_skip ?_
   simp only [blockW,thenW]
   ((refine W_regV ?_);intro K hK;(refine sVv ?_))
   (refine hK _ ?_;clear hK K)
   simp only [blockW,thenW]
   refine ⟨⟨k + 1,by omega,fun i hi => ?_⟩,Le_drop (by simp [leE]) (by simp [leH]) rfl rfl,?_⟩
   ·by_cases hik : i = k
    ·rw [hik,hwh,hee];rfl
    ·exact hpre i (by omega)
   ·dsimp only;omega
  ·have hne : e.isEmpty = false := by cases e with
    | nil => exact absurd rfl hz
    | cons _ _ => rfl
   have hp : 0 < e.length := by omega
   rw [hFk hne]
   ((refine W_seqV ?_);intro K hK;(refine sVv ?_))
   (refine ⟨by kernel_rfl,_,.pure rfl (hs2),?_⟩;(try (refine sVv ?_)))
   (refine hK _ ?_;clear hK K)
   rw [decide_eq_true hp]
   (refine W_ct rfl ?_)
   (repeat' (first | (refine W_seqV fun K hK => ?_;(try (refine sVv ?_));refine hK _ ?_;clear hK K) | (refine W_ret ?_;(refine qG ?_;try exact True.intro))))
 ·obtain rfl : k = u.length := by omega
  rw [hT hpre]
  refine W_seq ?_
  ((refine W_seqV ?_);intro K hK;(refine sVv ?_))
  (refine hK _ ?_;clear hK K)
  (refine W_cf rfl ?_)
  refine W_exit ?_
  simp only [thenW,blockW,if_true]
  (repeat' (first | (refine W_seqV fun K hK => ?_;(try (refine sVv ?_));refine hK _ ?_;clear hK K) | (refine W_ret ?_;(refine qG ?_;try exact True.intro))))
theorem sames_law (n : Int) (t : TR) (m : Int) (u : TR) (hT : TOk t) (hU : TOk u) : Pure Tryz.prog 7 [cT n t,cT m u] (· = .bool true) := by
 have a1 := ltwin_ok n t hT.ts
 have a2 := ltwin_ok m u hU.ts
 have hli := lives_ok
 have b1 := tsame_g n t m u hT hU fun h1 h2 _ => ⟨FollOk.of (gt_iff.1 h1).nodup hT.tb hU.tb,FollOk.of (gt_iff.1 h2).nodup hU.tb hT.tb⟩
 have b2 := r7same_g n t m u hT hU fun h1 h2 _ => FollOk.of (gt_iff.1 h1).nodup hT.tb hU.tb
 obtain ⟨b,e,he⟩ : ∃ b e,sameV n t m u = .tup [.bool b,.int .i64 e] := by
  unfold sameV
  split
  ·split
   ·exact ⟨_,_,rfl⟩
   ·exact ⟨_,_,rfl⟩
  ·exact ⟨_,_,rfl⟩
 rw [he] at b1 b2
 have z1 := int_eqI e
 have z2 := bool_eqI b
 simp only [cT] at *
 (refine pureW Tryz.func7 rfl (rs := [Go.ResultVar.tmp 4]) rfl (n := 34) rfl ?_;simp only [List.length_cons,List.length_nil,List.replicate,List.cons_append,List.nil_append])
 ((refine W_seqV ?_);intro K hK;(refine sVv ?_))
 (refine hK _ ?_;clear hK K)
 ((refine W_seqD mixed [] (by kernel_rfl) ?_);intro K hK;(refine sVv ?_))
 (refine ⟨by kernel_rfl,_,.pure rfl (a1),?_⟩;(try (refine sVv ?_)))
 (refine ⟨by kernel_rfl,_,.pure rfl (a2),?_⟩;(try (refine sVv ?_)))
 (refine ⟨by kernel_rfl,_,.pure rfl (b1),?_⟩;(try (refine sVv ?_)))
 (refine hK _ ?_;clear hK K)
 ((refine W_seqV ?_);intro K hK;(refine sVv ?_))
 (refine ⟨by kernel_rfl,_,.pure rfl (b2),?_⟩;(try (refine sVv ?_)))
 (refine hK _ ?_;clear hK K)
 ((refine W_seqV ?_);intro K hK;(refine sVvX (And.intro z1 z2) ?_))
 (refine ⟨by kernel_rfl,_,.pure rfl (hli),?_⟩;(try (refine sVv ?_)))
 (refine hK _ ?_;clear hK K)
 refine W_ret ?_
 (refine qG ?_;try exact True.intro);try (refine sVvV ?_;try exact True.intro)
end Go.Proofs.YtjmpajgjaefcjaaGreat.Vm
namespace Go.Proofs.YtjmpajgjaefcjaaGreat.Vm
open Go Go.RowKit
set_option linter.unusedVariables false
set_option linter.unusedSimpArgs false
section
variable {H : Type} {encH : TypeId × Value → H} {P : Program} {w : World}
def Opens (encH : TypeId × Value → H) (P : Program) (w : World) (t : TypeId) {α : Type} (e : α → List AV) (good : α → Prop) (wt : α → Nat) : Prop :=
 ∀ (fuel : Nat) (cs : List Value) (x : DataW H × List MemPlace),DataW.trod encH P w 0 (fun _ => true) true fuel t cs = some x → ∃ a,Rps w (fun _ => False) noPl (e a) cs ∧ good a ∧ wt a ≤ Rows.uptoBulk x.1
theorem Opens.bool {t : TypeId} (ht : P.underlying t = some .bool) : Opens encH P w t (fun b : Bool => [.bool b]) (fun _ => True) (fun _ => 1) := by
 intro fuel cs x h
 obtain ⟨b,rfl,rfl⟩ := DataW.trod_bool ht h
 exact ⟨b,⟨_,_,rfl,rfl,rfl⟩,trivial,by simp [Rows.uptoBulk]⟩
theorem Opens.i64 {t : TypeId} (ht : P.underlying t = some (.int .i64)) : Opens encH P w t (fun n : Int => [.int .i64 n]) (fun n => -9223372036854775808 ≤ n ∧ n ≤ 9223372036854775807) (fun _ => 1) := by
 intro fuel cs x h
 obtain ⟨n,rfl,rfl,hw⟩ := DataW.trod_int ht h
 exact ⟨n,⟨_,_,rfl,rfl,rfl⟩,bounds_i64 hw,by simp [Rows.uptoBulk]⟩
theorem Opens.u32 {t : TypeId} (ht : P.underlying t = some (.int .u32)) : Opens encH P w t (fun n : Nat => [.int .u32 (n : Int)]) (fun n => n < 4294967296) (fun _ => 1) := by
 intro fuel cs x h
 obtain ⟨n,rfl,rfl,hw⟩ := DataW.trod_int ht h
 obtain ⟨h1,h2⟩ := bounds_u32 hw
 refine ⟨n.toNat,⟨_,_,rfl,?_,rfl⟩,by omega,by simp [Rows.uptoBulk]⟩
 show Value.int .u32 n = _
 rw [Int.toNat_of_nonneg h1]
theorem Opens.str {t : TypeId} (ht : P.underlying t = some .string) : Opens encH P w t (fun s : ByteArray => [.str s]) (fun _ => True) (fun s => s.size + 1) := by
 intro fuel cs x h
 obtain ⟨s,rfl,rfl,hs⟩ := DataW.trod_string ht h
 refine ⟨s,⟨_,_,rfl,rfl,rfl⟩,trivial,?_⟩
 simp only [Rows.uptoBulk]
 have : s.data.toList.length = s.size := by rw [Array.length_toList];rfl
 omega
theorem Opens.map {t : TypeId} {α β : Type} {e : α → List AV} {good : α → Prop} {wt : α → Nat} (h : Opens encH P w t e good wt) {e' : β → List AV} {good' : β → Prop} {wt' : β → Nat} (f : α → β)
  (he : ∀ a,e' (f a) = e a) (hg : ∀ a,good a → good' (f a)) (hw : ∀ a,wt' (f a) ≤ wt a) : Opens encH P w t e' good' wt' := by
 intro fuel cs x hx
 obtain ⟨a,h1,h2,h3⟩ := h fuel cs x hx
 exact ⟨f a,by rw [he];exact h1,hg a h2,Nat.le_trans (hw a) h3⟩
theorem Opens.two {t : TypeId} {f0 f1 : Field} (ht : P.underlying t = some (.struct #[f0,f1])) (o0 : f0.offset = 0) (o1 : f1.offset = P.cellsOf f0.type) (hl : P.cellsOf t = P.cellsOf f0.type + P.cellsOf f1.type)
  {α β : Type} {e0 : α → List AV} {g0 : α → Prop} {w0 : α → Nat} {e1 : β → List AV} {g1 : β → Prop} {w1 : β → Nat} (h0 : Opens encH P w f0.type e0 g0 w0) (h1 : Opens encH P w f1.type e1 g1 w1) :
  Opens encH P w t (fun p : α × β => e0 p.1 ++ e1 p.2) (fun p => g0 p.1 ∧ g1 p.2) (fun p => w0 p.1 + w1 p.2 + 1) := by
 intro fuel cs x h
 obtain ⟨xs,n,_,rfl,hlen,hxs,hf⟩ := DataW.trod_struct ht h
 match xs,hxs with
 | [y0,y1],_ =>
  obtain ⟨a,r0,q0,b0⟩ := h0 _ _ _ (hf 0 f0 rfl)
  obtain ⟨b,r1,q1,b1⟩ := h1 _ _ _ (hf 1 f1 rfl)
  refine ⟨(a,b),?_,⟨q0,q1⟩,?_⟩
  ·have := r0.append r1
   rw [o0,o1,List.drop_zero,List.take_of_length_le (l := cs.drop _) (by rw [List.length_drop];omega),List.take_append_drop] at this
   exact this
  ·simp only [List.map_cons,List.map_nil,Rows.uptoBulk,Rows.uptoBulkAll]
   omega
def sumW {α : Type} (wt : α → Nat) : List α → Nat
 | [] => 0
 | x::l => wt x + sumW wt l
theorem sumW_snoc {α : Type} (wt : α → Nat) (l : List α) (x : α) : sumW wt (l ++ [x]) = sumW wt l + wt x := by
 induction l with
 | nil => simp [sumW]
 | cons y l ih => simp only [List.cons_append,sumW,ih];omega
theorem bulk_append (l r : List (DataW H)) : Rows.uptoBulkAll (l ++ r) = Rows.uptoBulkAll l + Rows.uptoBulkAll r := by
 induction l with
 | nil => simp [Rows.uptoBulkAll]
 | cons x l ih => simp only [List.cons_append,Rows.uptoBulkAll,ih];omega
theorem Opens.slice {t e : TypeId} (ht : P.underlying t = some (.slice e)) (hpos : 0 < P.cellsOf e) {α : Type} {enc : α → List AV} {good : α → Prop} {wt : α → Nat} (he : Opens encH P w e enc good wt) :
  Opens encH P w t (fun l : List α => [.sl (tab enc l)]) (fun l => ∀ x ∈ l,good x) (fun l => sumW wt l + 1) := by
 intro fuel cs x h
 rcases DataW.trod_slice ht h with ⟨rfl,rfl⟩ | ⟨a,len,cap,elems,rest,n,_,rfl,rfl,hb,hlc,hcm,hlen,hel,_,_⟩
 ·exact ⟨[],⟨_,_,rfl,⟨none,0,rfl,Nat.le_refl _,by decide,.inl rfl⟩,rfl⟩,by simp,by simp [Rows.uptoBulk,sumW]⟩
 ·obtain ⟨b,o,spot⟩ := a
  have step : ∀ m,m ≤ len → ∃ (l : List α) (vss : List (List Value)),l.length = m ∧ vss.flatten.length = m * P.cellsOf e ∧ RpR w (fun _ => False) noPl (tab enc l) vss ∧ (∀ x ∈ l,good x) ∧ sumW wt l ≤ Rows.uptoBulkAll ((elems.take m).map (·.1)) ∧
    (0 < m → spot = none ∧ b < w.heap.size) ∧ CellsAt w b o vss.flatten := by
   intro m
   induction m with
   | zero => exact fun _ => ⟨[],[],rfl,by simp,rfl,by simp,by simp [sumW,Rows.uptoBulkAll],by omega,fun j u hj => by simp at hj⟩
   | succ m ih =>
    intro hm
    obtain ⟨l,vss,h1,h2,h3,h4,h5,h6,h7⟩ := ih (by omega)
    have hi := hel m (by omega)
    have hg : elems[m]? = some (elems[m]'(by omega)) := by simp
    rw [hg] at hi
    obtain ⟨cs',hc,hd⟩ := Option.bind_eq_some_iff.1 hi
    obtain ⟨_,hcl,hcell⟩ := World.cells?_some hc
    obtain ⟨y,hy1,hy2,hy3⟩ := he _ _ _ hd
    obtain ⟨c0,hc0⟩ : ∃ c0,cs'[0]? = some c0 := ⟨cs'[0]'(by omega),by simp⟩
    have g0 : w.cell? (((⟨b,o,spot⟩ : Addr).add (m * P.cellsOf e)).add 0) = some c0 := by rw [hcell 0 hpos,hc0]
    have hsp : spot = none ∧ b < w.heap.size := by
     have hs : spot = none := by
      cases m with
      | zero => have := World.cell?_spot g0;simpa [Addr.add] using this
      | succ m => exact (h6 (by omega)).1
     refine ⟨hs,?_⟩
     have : ((⟨b,o,spot⟩ : Addr).add (m * P.cellsOf e)).add 0 = ⟨b,o + m * P.cellsOf e,none⟩ := by rw [hs,WideShapes.add_plain,WideShapes.add_plain];rfl
     rw [this] at g0
     unfold World.cell? at g0
     split at g0
     ·rename_i heq
      exact (Array.getElem?_eq_some_iff.1 heq).1
     ·cases g0
    obtain ⟨hs,hbs⟩ := hsp
    subst hs
    refine ⟨l ++ [y],vss ++ [cs'],by simp [h1],?_,?_,?_,?_,fun _ => ⟨rfl,hbs⟩,?_⟩
    ·rw [List.flatten_append,List.length_append,h2,Nat.succ_mul]
     simp [hcl]
    ·rw [← tab_snoc]
     exact h3.append ⟨_,_,rfl,hy1,rfl⟩
    ·intro x hx
     rcases List.mem_append.1 hx with hx | hx
     ·exact h4 x hx
     ·rw [List.mem_singleton] at hx;subst hx;exact hy2
    ·rw [sumW_snoc,List.take_add_one,hg,List.map_append,bulk_append]
     simp only [Option.toList_some,List.map_cons,List.map_nil,Rows.uptoBulkAll]
     omega
    ·intro j u hj
     rw [List.flatten_append] at hj
     by_cases hjl : j < vss.flatten.length
     ·rw [List.getElem?_append_left hjl] at hj
      exact h7 j u hj
     ·rw [List.getElem?_append_right (by omega)] at hj
      simp only [List.flatten_cons,List.flatten_nil,List.append_nil] at hj
      have hlt : j - vss.flatten.length < cs'.length := (List.getElem?_eq_some_iff.1 hj).1
      have := hcell (j - vss.flatten.length) (by omega)
      rw [WideShapes.add_plain,WideShapes.add_plain,hj] at this
      rw [← this]
      congr 2
      omega
  obtain ⟨l,vss,h1,h2,h3,h4,h5,h6,h7⟩ := step len (Nat.le_refl _)
  have htl : (tab enc l).length = len := by rw [tab_length,h1]
  refine ⟨l,⟨_,_,rfl,⟨some ⟨b,o,spot⟩,cap,by rw [htl],by rw [htl];exact hlc,hcm,?_⟩,rfl⟩,h4,?_⟩
  ·by_cases h0 : 0 < len
   ·obtain ⟨rfl,hbs⟩ := h6 h0
    exact .inr ⟨b,o,vss,rfl,fun h => h,hbs,h7,h3⟩
   ·left
    have : l = [] := List.eq_nil_of_length_eq_zero (by omega)
    rw [this];rfl
  ·rw [List.take_of_length_le (by omega)] at h5
   simp only [Rows.uptoBulk]
   omega
end
section
variable {H : Type} {encH : TypeId × Value → H} {w : World}
theorem sumW_one (l : List Nat) : sumW (fun _ => 1) l = l.length := by
 induction l with
 | nil => rfl
 | cons x l ih => simp only [sumW,ih,List.length_cons];omega
theorem opens_nat : Opens encH Tryz.prog w 49 (fun l : List Nat => [.sl (u32s l)]) Limbs (fun l => l.length + 1) :=
 (Opens.slice Tryz.underlying49 (by show 0 < Tryz.prog.cellsOf 128;rw [show Tryz.prog.cellsOf 128 = 1 by kernel_rfl];decide) (Opens.u32 Tryz.underlying128)).map id (fun _ => rfl) (fun _ h => h) (fun l => by show l.length + 1 ≤ sumW (fun _ => 1) l + 1;rw [sumW_one];exact Nat.le_refl _)
theorem opens_int : Opens encH Tryz.prog w 51 (fun p : Bool × List Nat => [.bool p.1,.sl (u32s p.2)]) (fun p => Limbs p.2) (fun p => p.2.length + 3) :=
 (Opens.two Tryz.underlying51 rfl (by kernel_rfl) (by kernel_rfl) (Opens.bool Tryz.underlying4) opens_nat).map id (fun _ => rfl) (fun _ h => h.2) (fun l => by simp only [id];omega)
def RR.good (r : RR) : Prop := Limbs r.num ∧ Limbs r.den
def RR.wt (r : RR) : Nat := r.num.length + r.den.length + 5
theorem RR.bits_wt (r : RR) : r.bits ≤ 32 * r.wt := by unfold RR.bits RR.wt;omega
theorem opens_rat : Opens encH Tryz.prog w 53 rowR RR.good RR.wt :=
 (Opens.two Tryz.underlying53 rfl (by kernel_rfl) (by kernel_rfl) opens_int opens_nat).map (fun p => (⟨p.1.1,p.1.2,p.2⟩ : RR)) (fun _ => rfl) (fun _ h => h) (fun l => by simp only [RR.wt];omega)
def mono_wt (p : Int × RR) : Nat := p.2.wt + 2
theorem opens_mono : Opens encH Tryz.prog w 55 rowM (fun p : Int × RR => (-9223372036854775808 ≤ p.1 ∧ p.1 ≤ 9223372036854775807) ∧ p.2.good) mono_wt :=
 (Opens.two Tryz.underlying55 rfl (by kernel_rfl) (by kernel_rfl) (Opens.i64 Tryz.underlying3) opens_rat).map id (fun _ => rfl) (fun _ h => h) (fun l => by simp only [id,mono_wt];omega)
def form_good (f : List (Int × RR)) : Prop := ∀ p ∈ f,(-9223372036854775808 ≤ p.1 ∧ p.1 ≤ 9223372036854775807) ∧ p.2.good
def form_wt (f : List (Int × RR)) : Nat := sumW mono_wt f + 1
theorem opens_form : Opens encH Tryz.prog w 26 (fun f => [cF f]) form_good form_wt :=
 Opens.slice Tryz.underlying26 (by show 0 < Tryz.prog.cellsOf 55;rw [show Tryz.prog.cellsOf 55 = 4 by kernel_rfl];decide) opens_mono
def At.good (a : At) : Prop := form_good a.form ∧ a.bound.good
def At.wt (a : At) : Nat := a.name.size + form_wt a.form + a.bound.wt + 3
end
theorem RR.good.ok {r : RR} (h : r.good) (hb : r.wt ≤ 1048576) : r.ok := ⟨h.1,h.2,by unfold RR.wt at hb;omega,by unfold RR.wt at hb;omega⟩
theorem RR.good.nb {r : RR} (h : r.good) : nb r.v ≤ 32 * r.wt := Nat.le_trans (nb_v r h.1 h.2) r.bits_wt
theorem form_nbs : ∀ {f : List (Int × RR)},form_good f → nbs (vals f) ≤ 32 * sumW mono_wt f
 | [],_ => by simp [vals,nbs]
 | p::f,h => by
  have h1 := (h p List.mem_cons_self).2.nb
  have h2 := form_nbs (f := f) fun q hq => h q (List.mem_cons_of_mem _ hq)
  simp only [vals,List.map_cons,nbs,sumW,mono_wt] at *
  omega
theorem sumW_mem {α : Type} {wt : α → Nat} {l : List α} {x : α} (h : x ∈ l) : wt x ≤ sumW wt l := by
 induction l with
 | nil => cases h
 | cons y l ih =>
  simp only [sumW]
  rcases List.mem_cons.1 h with rfl | h
  ·omega
  ·have := ih h;omega
theorem form_ok {f : List (Int × RR)} (h : form_good f) (hb : form_wt f ≤ 1048576) : FOk f 67108864 ∧ nbs (vals f) ≤ 67108864 := by
 have h1 := form_nbs h
 unfold form_wt at hb
 refine ⟨⟨fun p hp => (h p hp).2.ok ?_,(Sz.of _).mono (by omega)⟩,by omega⟩
 have := sumW_mem (wt := mono_wt) hp
 unfold mono_wt at this hb
 omega
theorem At.good.ok {a : At} (h : a.good) (hb : a.wt ≤ 1048576) : AtOk a := by
 unfold At.wt at hb
 obtain ⟨h1,h2⟩ := form_ok h.1 (by omega)
 refine ⟨h1,h2,h.2.ok (by omega),?_⟩
 have := h.2.nb
 omega
section
variable {H : Type} {encH : TypeId × Value → H} {P : Program} {w : World}
theorem rps_some {α : Type} {t : TypeId} {e : α → List AV} {good : α → Prop} {wt : α → Nat} (h : Opens encH P w t e good wt) {v : Value} {d : DataW H} {p : List MemPlace} (hd : DataW.Trod encH P w 0 (fun _ => true) true t v d p) :
  ∃ a,Rps w (fun _ => False) noPl (e a) v.cells.toList ∧ good a ∧ wt a ≤ Rows.uptoBulk d := by
 obtain ⟨fuel,hf⟩ := hd
 exact h fuel _ _ hf
theorem par_struct {α : Type} {t : TypeId} {fs : Array Field} (ht : P.underlying t = some (.struct fs)) {e : α → List AV} {good : α → Prop} {wt : α → Nat} (h : Opens encH P w t e good wt) {base : Nat} {v : Value} (hok : Value.okWide P w .any base t v) {d : DataW H} {p : List MemPlace} (hd : DataW.Trod encH P w 0 (fun _ => true) true t v d p) :
  ∃ a,Rp w (fun _ => False) noPl (.agg (e a)) v ∧ good a ∧ wt a ≤ Rows.uptoBulk d := by
 unfold Value.okWide at hok
 rw [ht] at hok
 obtain ⟨cs,rfl,_,_⟩ := hok
 obtain ⟨a,h1,h2,h3⟩ := rps_some h hd
 exact ⟨a,⟨cs.toList,by simp,h1⟩,h2,h3⟩
end
end Go.Proofs.YtjmpajgjaefcjaaGreat.Vm
namespace Go.Proofs.YtjmpajgjaefcjaaGreat.Vm
open Go Go.RowKit
set_option maxRecDepth 100000
set_option linter.unusedVariables false
set_option linter.unusedSimpArgs false
section
variable {H : Type} {encH : TypeId × Value → H} {w : World}
def row_good (r : Int × List (Int × RR)) : Prop := form_good r.2
def row_wt (r : Int × List (Int × RR)) : Nat := form_wt r.2
theorem opens_rowT : Opens encH Tryz.prog w 84 rowT row_good row_wt :=
 (Opens.two Tryz.underlying84 (by kernel_rfl) (by kernel_rfl) (by kernel_rfl) (Opens.i64 Tryz.underlying3) opens_form).map id (fun p => rfl) (fun _ h => h.2) (fun p => by simp only [id,row_wt];omega)
def tab_good (p : Int × TR) : Prop := ∀ r ∈ p.2,row_good r
def tab_wt (p : Int × TR) : Nat := sumW row_wt p.2 + 1
theorem opens_rowsT : Opens encH Tryz.prog w 22 (fun t : TR => [.sl (tab rowT t)]) (fun t => ∀ r ∈ t,row_good r) (fun t => sumW row_wt t + 1) :=
 Opens.slice Tryz.underlying22 (by show 0 < Tryz.prog.cellsOf 84;rw [show Tryz.prog.cellsOf 84 = 2 by kernel_rfl];decide) opens_rowT
def cellsT (p : Int × TR) : List AV := [.int .i64 p.1,.sl (tab rowT p.2)]
theorem opens_tab : Opens encH Tryz.prog w 24 cellsT tab_good tab_wt :=
 (Opens.two Tryz.underlying24 (by kernel_rfl) (by kernel_rfl) (by kernel_rfl) (Opens.i64 Tryz.underlying3) opens_rowsT).map id (fun p => rfl) (fun _ h => h.2) (fun p => by simp only [id,tab_wt];omega)
end
theorem tab_tb : ∀ {t : TR},(∀ r ∈ t,row_good r) → tb (t.map fun r => (r.1,vals r.2)) ≤ 33 * sumW row_wt t
 | [],_ => Nat.le_refl _
 | r::t,h => by
  have h1 := tab_tb (t := t) fun x hx => h x (List.mem_cons_of_mem _ hx)
  have h2 := form_nbs (h r List.mem_cons_self)
  simp only [List.map_cons,tb,sumW,row_wt,form_wt] at *
  omega
theorem tab_ok {p : Int × TR} (h : tab_good p) (hb : tab_wt p ≤ 1048576) : TOk p.2 := by
 unfold tab_wt at hb
 refine ⟨fun r hr q hq => (form_ok (h r hr) ?_).1.1 q hq,?_⟩
 ·have := sumW_mem (wt := row_wt) hr
  have e : form_wt r.2 = row_wt r := rfl
  omega
 ·have := tab_tb h
  omega
end Go.Proofs.YtjmpajgjaefcjaaGreat.Vm
namespace Go.Proofs.YtjmpajgjaefcjaaGreat.Vm
open Go Go.RowKit Go.ChangeShapes Go.WideShapes Go.ChangeAt
set_option maxRecDepth 100000
set_option linter.unusedVariables false
def joinedRest (P : Program) (fn : Func) (s : ChangeSpec) (c : OpenClaim) : Bool :=
 (c.wf (OpenSpec.ofChange s)) && (fn.params.all (P.readableRec ·)) && (namedTie P c.named s.vars) && ((c.stops == [])) && ((c.knobs == [])) && ((c.maps == (fn.params.toList ++ s.plain.varTypes P).any (P.mapsRec ·))) && ((c.ifaces == (fn.params.toList ++ s.plain.varTypes P).any (P.ifacesRec ·))) && ((c.mapsOut == P.mapsAmong fn.resultTypes.toList)) && ((c.loops == (fn.params.toList ++ s.plain.varTypes P).any (P.loopsFrom ·))) && ((c.wideKeys == (fn.params.toList ++ s.plain.varTypes P ++ fn.resultTypes.toList).any (P.wideKeysFrom ·))) && (s.vars.all (P.varReadable ·)) && (fn.resultTypes.all (fun t => P.readableRec t && decide (t < P.types.size))) && ((c.ifacesOut == fn.resultTypes.toList.any (P.ifacesRec ·))) && ((c.loopsOut == fn.resultTypes.toList.any (P.loopsFrom ·))) && (c.shortTexts.isNone) && ((c.kinds == (if c.domain.isEmpty then [] else fn.params.toList.map fun t => match P.underlying t with|some (.int k) => some k|_ => none))) && ((c.pinned == c.pinnedBy)) && ((c.veiled == (fn.params.toList ++ s.plain.varTypes P ++ fn.resultTypes.toList).any (P.veiledRec ·))) && (c.veiledFits P fn.params.toList (fn.params.toList ++ s.plain.varTypes P ++ fn.resultTypes.toList))
theorem joined_of {P : Program} {f : FuncId} {fn : Func} {s : ChangeSpec} {c : OpenClaim} (h1 : (laidOutB P) = true) (h2 : (mapsRowed P) = true) (h6 : ((P.stops == [])) = true) (h8 : ((P.stopKnobs == [])) = true) (h24 : (P.stopsHeard) = true) (h25 : (P.mayEnter) = true) (h9 : ((c.inPlace == P.inPlace f)) = true) (h10 : ((c.unfollowed == P.unfollowed f)) = true) (h11 : ((c.recurses == P.recurses f)) = true) (h12 : ((c.named == P.varsNamed f)) = true) (h22 : ((c.plainKeys == P.plainKeys)) = true) (h26 : ((c.lifted == P.liftsFinal)) = true) (h27 : ((P.make == some c.make)) = true)
  (h : joinedRest P fn s c = true) : joinedFacts P f fn s c = true := by
 unfold joinedRest at h
 unfold joinedFacts
 simp only [Bool.and_eq_true] at h ⊢
 obtain ⟨⟨⟨⟨⟨⟨⟨⟨⟨⟨⟨⟨⟨⟨⟨⟨⟨⟨r0,r3⟩,r4⟩,r5⟩,r7⟩,r13⟩,r14⟩,r15⟩,r16⟩,r17⟩,r18⟩,r19⟩,r20⟩,r21⟩,r23⟩,r28⟩,r29⟩,r30⟩,r31⟩ := h
 exact ⟨⟨⟨⟨⟨⟨⟨⟨⟨⟨⟨⟨⟨⟨⟨⟨⟨⟨⟨⟨⟨⟨⟨⟨⟨⟨⟨⟨⟨⟨⟨r0,h1⟩,h2⟩,r3⟩,r4⟩,r5⟩,h6⟩,r7⟩,h8⟩,h9⟩,h10⟩,h11⟩,h12⟩,r13⟩,r14⟩,r15⟩,r16⟩,r17⟩,r18⟩,r19⟩,r20⟩,r21⟩,h22⟩,r23⟩,h24⟩,h25⟩,h26⟩,h27⟩,r28⟩,r29⟩,r30⟩,r31⟩
def plainClaim : OpenClaim := { program := "", sum := "", func := "", spec := "" }
theorem pf_laid : laidOutB Tryz.prog = true := by kernel_rfl
theorem pf_maps : mapsRowed Tryz.prog = true := by kernel_rfl
theorem pf_stops : (Tryz.prog.stops == []) = true := by kernel_rfl
theorem pf_knobs : (Tryz.prog.stopKnobs == []) = true := by kernel_rfl
theorem pf_heard : Tryz.prog.stopsHeard = true := by kernel_rfl
theorem pf_enter : Tryz.prog.mayEnter = true := by kernel_rfl
theorem pf_keys : (plainClaim.plainKeys == Tryz.prog.plainKeys) = true := by kernel_rfl
theorem pf_lifts : (plainClaim.lifted == Tryz.prog.liftsFinal) = true := by kernel_rfl
theorem pf_make : (Tryz.prog.make == some plainClaim.make) = true := by kernel_rfl
theorem pf_own : ownKnob Tryz.prog.godebug = none := by kernel_rfl
end Go.Proofs.YtjmpajgjaefcjaaGreat.Vm
namespace Go.Proofs.YtjmpajgjaefcjaaGreat.Vm
open Go Go.RowKit Go.ChangeShapes Go.WideShapes Go.ChangeAt
set_option maxRecDepth 100000
set_option linter.unusedVariables false
set_option linter.unusedSimpArgs false
namespace tableauSames_
theorem own : ownKnob Tryz.prog.godebug = none := pf_own
theorem laidOut : laidOutB Tryz.prog = true := pf_laid
theorem pf_place : (Rows.tableauSamesUptoRow.inPlace == Tryz.prog.inPlace 7) = true := by kernel_rfl
theorem pf_foll : (Rows.tableauSamesUptoRow.unfollowed == Tryz.prog.unfollowed 7) = true := by kernel_rfl
theorem pf_rec : (Rows.tableauSamesUptoRow.recurses == Tryz.prog.recurses 7) = true := by kernel_rfl
theorem pf_nam : (Rows.tableauSamesUptoRow.named == Tryz.prog.varsNamed 7) = true := by kernel_rfl
theorem pf_rest : joinedRest Tryz.prog Tryz.f7 (Rows.OpenSpec.upto Rows.tableauSamesSpec).bare Rows.tableauSamesUptoRow = true := by kernel_rfl
theorem facts : joinedFacts Tryz.prog 7 Tryz.f7 (Rows.OpenSpec.upto Rows.tableauSamesSpec).bare Rows.tableauSamesUptoRow = true := joined_of pf_laid pf_maps pf_stops pf_knobs pf_heard pf_enter pf_place pf_foll pf_rec pf_nam pf_keys pf_lifts pf_make pf_rest
theorem contract (H : Type) (encH : TypeId × Value → H) (W : World) (base : Nat) (args : Array Value) (ds gs : List (DataW H)) (before : List MemPlace)
  (hval : ∀ (j : Nat) t v,Tryz.f7.params[j]? = some t → args[j]? = some v → Value.okWide Tryz.prog W .any base t v)
  (hW : DataW.Whole encH Tryz.prog Tryz.f7.params.toList Rows.tableauSamesSpec.vars false W args.toList ds gs before) (hk : Rows.uptoSmall H (ds ++ gs) = true) :
  Calls Tryz.prog 7 args W fun e W' => ∃ v,e = .returned v ∧ Rows.tableauSamesSpec.post encH Tryz.prog Tryz.f7 false true false false W args v W' := by
 have hW' := hW
 obtain ⟨p,q,hA0,hV,rfl,hfz,hnd⟩ := hW
 have hA : DataW.TrodAll encH Tryz.prog W 0 (fun _ => true) true Tryz.f7.params.toList args.toList ds p := hA0
 rw [Tryz.params7] at hA hval
 obtain ⟨v0,v1,d0,d1,p0,p1,rfl,rfl,rfl,h0,h1⟩ := trodAll_two hA
 obtain ⟨rfl,rfl⟩ := trodVars_none hV
 simp only [List.append_nil] at hW' hk
 have hlt : ∀ x ∈ p0 ++ p1,x.block < W.heap.size := fun x hx => hW'.lt x (by simpa using hx)
 obtain ⟨a0,r0,g0,b0⟩ := par_struct Tryz.underlying24 opens_tab (hval 0 24 v0 rfl rfl) h0
 obtain ⟨a1,r1,g1,b1⟩ := par_struct Tryz.underlying24 opens_tab (hval 1 24 v1 rfl rfl) h1
 have hbulk : Rows.uptoBulkAll [d0,d1] ≤ 1048576 := of_decide_eq_true hk
 simp only [Rows.uptoBulkAll] at hbulk
 have hlaw := sames_law a0.1 a0.2 a1.1 a1.2 (tab_ok g0 (by omega)) (tab_ok g1 (by omega))
 refine (hlaw W [v0,v1] (fun _ => False) (fun _ h => h.elim) ⟨_,_,rfl,r0,_,_,rfl,r1,rfl⟩).mono fun e W' he => ?_
 obtain ⟨v,r,rfl,rfl,hbel,hrp⟩ := he
 have hv : v = .bool true := hrp
 subst hv
 exact ⟨_,rfl,⟨_,_,_,[],_,[],hW',trodAll_mk1 (shut_bool Tryz.underlying4 _),trodAll_mk2 (Below.trod laidOut (by kernel_rfl) (of_decide_eq_true (by kernel_rfl)) h0 hbel (fun x hx => hlt x (by simp [hx]))) (Below.trod laidOut (by kernel_rfl) (of_decide_eq_true (by kernel_rfl)) h1 hbel (fun x hx => hlt x (by simp [hx]))),rfl,hbel.frame _,fun h => by cases h⟩⟩
theorem lifted (os : Os) (started : os.Started) (H : Type) (enc : TypeId × Value → H) (F : Stop.Interp) :
  ReturnsInHanded {} Tryz.checked os 7 .any ((Rows.OpenSpec.upto Rows.tableauSamesSpec).pre6 enc Tryz.prog Tryz.f7 Rows.tableauSamesUptoRow.domain false) (((Rows.OpenSpec.upto Rows.tableauSamesSpec).at F).post enc Tryz.prog Tryz.f7 false true false false) := by
 refine returnsInHanded_of_cond (C := Tryz.checked) (s := Rows.OpenSpec.upto Rows.tableauSamesSpec) (k := Rows.uptoSmall) rfl own started (by kernel_rfl) Tryz.func7
  (OpenSpec.witness (enc := enc) (C := Tryz.checked) (s := Rows.OpenSpec.upto Rows.tableauSamesSpec) (k := Rows.uptoSmall) rfl false ⟨#[],#[.agg #[.int .i64 0,.slice none 0 0],.agg #[.int .i64 0,.slice none 0 0]],[]⟩ 8 (by kernel_rfl) (by kernel_rfl) (by kernel_rfl)
   (x := ([.agg [.lit (.int .i64 0),.nil],.agg [.lit (.int .i64 0),.nil]],[],[])) (by kernel_rfl) rfl (by kernel_rfl)) ?_
 intro W base args ds gs before hval hW _ hk _
 exact contract H enc W base args ds gs before hval hW hk
end tableauSames_
theorem tableauSames_holds : Rows.TableauSamesUptoSaid :=
 OpenClaim.holds_of_cond 7 Tryz.f7 rfl rfl rfl rfl rfl rfl rfl ⟨rfl,rfl,rfl,rfl,rfl⟩ rfl rfl rfl rfl rfl (by kernel_rfl) Tryz.func7 tableauSames_.facts
  (of_decide_eq_true (by kernel_rfl)) (by unfold Func.isWrapper;first | (rw [if_pos (by decide +kernel)];kernel_rfl) | (rw [if_neg (by decide +kernel)];exact ⟨rfl,rfl⟩))
  (fun os started H enc _ F => tableauSames_.lifted os started H enc F)
end Go.Proofs.YtjmpajgjaefcjaaGreat.Vm
