/-
  Part 5 of 9 of a proof.
-/
import Derived.Test.YtjmpajgjaefcjaaGreatChks4
import Derived.Orders
import Derived.Below
import Derived.Laws.AppendOwn
import Derived.Laws.MakeOwn
import Derived.Laws.CopyRow
import Derived.Laws.Rows
import Derived.Laws.Cells
import Derived.Tactics
import Derived.Laws.BitsLemmas
import Derived.Maps.Range
import Derived.Carry
import Derived.Sort.Row
import Derived.Sort.Grow
import Derived.Test.YtjmpajgjaefcjaaGreatProg

namespace Go.Proofs.YtjmpajgjaefcjaaGreat.Vm
open Go Go.RowKit
set_option maxRecDepth 100000
set_option linter.unusedVariables false
set_option linter.unusedSimpArgs false
theorem limbs_top {n : Nat} (h : n ≠ 0) : (limbs n).getD ((limbs n).length - 1) 0 ≠ 0 := by
 induction n using Nat.strongRecOn with
 | _ n ih =>
  rw [limbs_pos h,List.length_cons,Nat.add_sub_cancel]
  by_cases h0 : n / 4294967296 = 0
  ·rw [h0,limbs_zero]
   simp only [List.length_nil,List.getD_cons_zero]
   omega
  ·have := ih _ (by omega) h0
   obtain ⟨m,hm⟩ : ∃ m,(limbs (n / 4294967296)).length = m + 1 := ⟨(limbs (n / 4294967296)).length - 1,by
    have : limbs (n / 4294967296) ≠ [] := fun h => h0 (limbs_eq_nil.1 h)
    have := List.length_pos_iff.2 this
    omega⟩
   rw [hm] at this ⊢
   rw [List.getD_cons_succ]
   exact this
theorem limbs_len_pos {n : Nat} (h : n ≠ 0) : 0 < (limbs n).length := List.length_pos_iff.2 fun h0 => h (limbs_eq_nil.1 h0)
theorem sgn_lt {a b : Nat} (h : a < b) : sgn a b = -1 := by simp [sgn,h]
theorem sgn_ge {a b : Nat} (h : ¬ a < b) : decide (sgn a b < 0) = false := by
 simp only [sgn,h,if_false,decide_eq_false_iff_not]
 split <;> omega
theorem sgn_lt' {a b : Nat} (h : a < b) : decide (sgn a b < 0) = true := by rw [sgn_lt h];rfl
theorem limbs_one {n : Nat} (h : (limbs n).length = 1) : (limbs n).getD 0 0 = n ∧ n < 4294967296 := by
 have h0 : n ≠ 0 := by rintro rfl;rw [limbs_zero] at h;cases h
 have h1 := val_limbs n
 have h2 := limbs_limbs n
 match hl : limbs n,h with
 | [x],_ =>
  rw [hl] at h1 h2
  have h3 := h2 x List.mem_cons_self
  simp only [val] at h1
  simp only [List.getD_cons_zero]
  omega
def divR (a b : Nat) : AV := if b = 0 then .tup [cN 0,cN 0,.int .i64 11] else .tup [cN (a / b),cN (a % b),.int .i64 0]
set_option maxHeartbeats 4000000 in
theorem ndiv_ok (a b : List Nat) (ha : Limbs a) (hb : Limbs b) (h1 : a.length < 274877906944) (h2 : b.length < 274877906944) :
  Pure Tryz.prog 205 [cNat a,cNat b] (· = divR (val a) (val b)) := by
 have hal := limbs_val_length ha
 have hbl := limbs_val_length hb
 have haL := limbs_limbs (val a)
 have hbL := limbs_limbs (val b)
 have hcmp := ncmp_ok (limbs (val a)) (limbs (val b)) haL hbL (by omega) (by omega)
 rw [val_limbs,val_limbs] at hcmp
 have hoa := own_ok' (limbs (val a)) haL (by omega)
 rw [val_limbs] at hoa
 (refine pureW Tryz.func205 rfl (rs := [Go.ResultVar.tmp 4,Go.ResultVar.tmp 5,Go.ResultVar.tmp 6]) rfl (n := 51) rfl ?_;simp only [List.length_cons,List.length_nil,List.replicate,List.cons_append,List.nil_append])
 ((first | refine W_seqV ?_ | refine W_seq (W_seqV ?_) | refine W_regV ?_);intro K hK;(refine sNa ?_;try exact True.intro))
 (repeat refine aI ?_);refine hK _ ?_;clear hK K
 ((first | refine W_seqV ?_ | refine W_seq (W_seqV ?_) | refine W_regV ?_);intro K hK;(refine sNa ?_;try exact True.intro))
 ((repeat refine aI ?_);refine ⟨by kernel_rfl,_,.pure rfl (trim_ok' a ha (by omega)),?_⟩;(try (refine sNa ?_;try exact True.intro));(repeat refine aI ?_))
 ((repeat refine aI ?_);refine ⟨by kernel_rfl,_,.pure rfl (trim_ok' b hb (by omega)),?_⟩;(try (refine sNa ?_;try exact True.intro));(repeat refine aI ?_))
 (repeat refine aI ?_);refine hK _ ?_;clear hK K
 refine W_seq (W_block ?_)
 by_cases hb0 : val b = 0
 ·rw [hb0,limbs_zero]
  (repeat' (first|(exfalso;simp at h;done)|refine W_block ?_ |((first|refine W_seqV fun K hK => ?_|refine W_regV fun K hK => ?_);(try (refine sNa ?_;try exact True.intro));(repeat refine aI ?_);refine hK _ ?_;clear hK K)|((first|refine W_seqR fun K hK => ?_|refine W_regR fun K hK => ?_);(try (refine sNa ?_;try exact True.intro));(repeat refine aI ?_);refine hK _ ?_;clear hK K)|((first|refine W_seqD mixed [] (by kernel_rfl) fun K hK => ?_|refine W_regD mixed [] (by kernel_rfl) fun K hK => ?_);(try (refine sNa ?_;try exact True.intro));(repeat refine aI ?_);refine hK _ ?_;clear hK K)|refine W_skip ?_|(refine W_ret ?_;(refine qG ?_;try exact True.intro))|(refine W_exit ?_;simp only [thenW,blockW,if_true,reduceCtorEq,if_false,Nat.reduceEqDiff])|(refine W_cond rfl (fun h => ?_) (fun h => ?_) <;> (try simp only [cond_true,cond_false,ne_eq,cB] at h))|refine W_seq ?_))
  rw [divR,if_pos rfl]
  simp only [cN,limbs_zero,cNat]
  rfl
 have hbp := limbs_len_pos hb0
 have hbt := limbs_top hb0
 rw [divR,if_neg hb0]
 have hz : (((limbs (val b)).length : Int) == 0) = false := by rw [beq_eq_false_iff_ne];omega
 ((first | refine W_seqV ?_ | refine W_seq (W_seqV ?_) | refine W_regV ?_);intro K hK;(refine sNaX hz ?_;try exact True.intro))
 (repeat refine aI ?_);refine hK _ ?_;clear hK K
 (first | refine W_cf rfl ?_ | refine W_seq (W_cf rfl ?_))
 by_cases hlt : val a < val b
 ·have hs := sgn_lt' hlt
  ((first | refine W_seqV ?_ | refine W_seq (W_seqV ?_) | refine W_regV ?_);intro K hK;(refine sNa ?_;try exact True.intro))
  ((repeat refine aI ?_);refine ⟨by kernel_rfl,_,.pure rfl (hcmp),?_⟩;(try (refine sNa ?_;try exact True.intro));(repeat refine aI ?_))
  (refine sNaX hs ?_;try exact True.intro)
  (repeat refine aI ?_);refine hK _ ?_;clear hK K
  (first | refine W_ct rfl ?_ | refine W_seq (W_ct rfl ?_))
  ((first | refine W_seqV ?_ | refine W_seq (W_seqV ?_) | refine W_regV ?_);intro K hK;(refine sNa ?_;try exact True.intro))
  ((repeat refine aI ?_);refine ⟨by kernel_rfl,_,.pure rfl (hoa),?_⟩;(try (refine sNa ?_;try exact True.intro));(repeat refine aI ?_))
  (repeat refine aI ?_);refine hK _ ?_;clear hK K
  refine W_ret ?_
  (refine qG ?_;try exact True.intro)
  rw [Nat.div_eq_of_lt hlt,Nat.mod_eq_of_lt hlt,limbs_zero]
  rfl
 ·have hs := sgn_ge hlt
  have hmono := limbs_mono (Nat.le_of_not_lt hlt)
  ((first | refine W_seqV ?_ | refine W_seq (W_seqV ?_) | refine W_regV ?_);intro K hK;(refine sNa ?_;try exact True.intro))
  ((repeat refine aI ?_);refine ⟨by kernel_rfl,_,.pure rfl (hcmp),?_⟩;(try (refine sNa ?_;try exact True.intro));(repeat refine aI ?_))
  (refine sNaX hs ?_;try exact True.intro)
  (repeat refine aI ?_);refine hK _ ?_;clear hK K
  (first | refine W_cf rfl ?_ | refine W_seq (W_cf rfl ?_))
  by_cases ho : (limbs (val b)).length = 1
  ·obtain ⟨o1,o2⟩ := limbs_one ho
   have hz2 : (((limbs (val b)).length : Int) == 1) = true := by rw [ho];rfl
   have hsh := short_ok (limbs (val a)) (val b) haL (by omega) (by omega) o2
   rw [val_limbs] at hsh
   have hmod := Nat.mod_lt (val a) (show 0 < val b by omega)
   have hql : (padL (limbs (val a)).length (val a / val b)).length = (limbs (val a)).length := padL_length (Nat.lt_of_le_of_lt (Nat.div_le_self _ _) (by have := val_lt haL;rwa [val_limbs] at this))
   have hq := own_ok' (padL (limbs (val a)).length (val a / val b)) (padL_limbs _ _) (by omega)
   rw [padL_val] at hq
   have hr := own_ok' [val a % val b] (fun x hx => by simp at hx;omega) (by simp)
   simp only [val,Nat.mul_zero,Nat.add_zero] at hr
   ((first | refine W_seqV ?_ | refine W_seq (W_seqV ?_) | refine W_regV ?_);intro K hK;(refine sNaX hz2 ?_;try exact True.intro))
   (repeat refine aI ?_);refine hK _ ?_;clear hK K
   (first | refine W_ct rfl ?_ | refine W_seq (W_ct rfl ?_))
   ((first | refine W_seqV ?_ | refine W_seq (W_seqV ?_) | refine W_regV ?_);intro K hK;(refine sNaX o1 ?_;try exact True.intro))
   ((repeat refine aI ?_);refine ⟨by kernel_rfl,_,.pure rfl (hsh),?_⟩;(try (refine sNa ?_;try exact True.intro));(repeat refine aI ?_))
   (repeat refine aI ?_);refine hK _ ?_;clear hK K
   ((first | refine W_seqV ?_ | refine W_seq (W_seqV ?_) | refine W_regV ?_);intro K hK;(refine sNa ?_;try exact True.intro))
   ((repeat refine aI ?_);refine ⟨by kernel_rfl,_,.pure rfl (hq),?_⟩;(try (refine sNa ?_;try exact True.intro));(repeat refine aI ?_))
   ((repeat refine aI ?_);refine ⟨by kernel_rfl,_,.pure rfl (hr),?_⟩;(try (refine sNa ?_;try exact True.intro));(repeat refine aI ?_))
   (repeat refine aI ?_);refine hK _ ?_;clear hK K
   refine W_ret ?_
   (refine qG ?_;try exact True.intro)
  ·have hz2 : (((limbs (val b)).length : Int) == 1) = false := by rw [beq_eq_false_iff_ne];omega
   have hlo := long_ok (limbs (val a)) (limbs (val b)) haL hbL (by omega) hmono (by omega) hbt
   rw [val_limbs,val_limbs] at hlo
   ((first | refine W_seqV ?_ | refine W_seq (W_seqV ?_) | refine W_regV ?_);intro K hK;(refine sNaX hz2 ?_;try exact True.intro))
   (repeat refine aI ?_);refine hK _ ?_;clear hK K
   (first | refine W_cf rfl ?_ | refine W_seq (W_cf rfl ?_))
   refine W_skip ?_
   simp only [thenW,blockW]
   ((first | refine W_seqV ?_ | refine W_seq (W_seqV ?_) | refine W_regV ?_);intro K hK;(refine sNa ?_;try exact True.intro))
   ((repeat refine aI ?_);refine ⟨by kernel_rfl,_,.pure rfl (hlo),?_⟩;(try (refine sNa ?_;try exact True.intro));(repeat refine aI ?_))
   (repeat refine aI ?_);refine hK _ ?_;clear hK K
   (repeat' (first|(exfalso;simp at h;done)|refine W_block ?_ |((first|refine W_seqV fun K hK => ?_|refine W_regV fun K hK => ?_);(try (refine sNa ?_;try exact True.intro));(repeat refine aI ?_);refine hK _ ?_;clear hK K)|((first|refine W_seqR fun K hK => ?_|refine W_regR fun K hK => ?_);(try (refine sNa ?_;try exact True.intro));(repeat refine aI ?_);refine hK _ ?_;clear hK K)|((first|refine W_seqD mixed [] (by kernel_rfl) fun K hK => ?_|refine W_regD mixed [] (by kernel_rfl) fun K hK => ?_);(try (refine sNa ?_;try exact True.intro));(repeat refine aI ?_);refine hK _ ?_;clear hK K)|refine W_skip ?_|(refine W_ret ?_;(refine qG ?_;try exact True.intro))|(refine W_exit ?_;simp only [thenW,blockW,if_true,reduceCtorEq,if_false,Nat.reduceEqDiff])|(refine W_cond rfl (fun h => ?_) (fun h => ?_) <;> (try simp only [cond_true,cond_false,ne_eq,cB] at h))|refine W_seq ?_))
theorem gcd_step {a b : Nat} (hb : b ≠ 0) : Nat.gcd b (a % b) = Nat.gcd a b := by
 rw [Nat.gcd_comm b,← Nat.gcd_rec,Nat.gcd_comm]
set_option maxHeartbeats 4000000 in
theorem ngcd_ok (a b : List Nat) (ha : Limbs a) (hb : Limbs b) (h1 : a.length < 274877906944) (h2 : b.length < 274877906944) :
  Pure Tryz.prog 204 [cNat a,cNat b] (· = cN (Nat.gcd (val a) (val b))) := by
 have hal := limbs_val_length ha
 have hbl := limbs_val_length hb
 (refine pureW Tryz.func204 rfl (rs := [Go.ResultVar.tmp 4]) rfl (n := 25) rfl ?_;simp only [List.length_cons,List.length_nil,List.replicate,List.cons_append,List.nil_append])
 ((first | refine W_seqV ?_ | refine W_seq (W_seqV ?_) | refine W_regV ?_);intro K hK;(refine sNa ?_;try exact True.intro))
 (repeat refine aI ?_);refine hK _ ?_;clear hK K
 ((first | refine W_seqV ?_ | refine W_seq (W_seqV ?_) | refine W_regV ?_);intro K hK;(refine sNa ?_;try exact True.intro))
 ((repeat refine aI ?_);refine ⟨by kernel_rfl,_,.pure rfl (own_ok' a ha (by omega)),?_⟩;(try (refine sNa ?_;try exact True.intro));(repeat refine aI ?_))
 ((repeat refine aI ?_);refine ⟨by kernel_rfl,_,.pure rfl (own_ok' b hb (by omega)),?_⟩;(try (refine sNa ?_;try exact True.intro));(repeat refine aI ?_))
 (repeat refine aI ?_);refine hK _ ?_;clear hK K
 refine W_seq (W_block (W_loop (fun t : {t : Nat × Nat // (limbs t.1).length < 274877906944 ∧ (limbs t.2).length < 274877906944 ∧ Nat.gcd t.1 t.2 = Nat.gcd (val a) (val b)} =>
   ⟨[cN t.1.1,cN t.1.2,.any,.any,.any,.any,.any,.any,.any,.any,.any,.any,.any,.any,.any,.any,.any,.any,.any,.any,.any,.any,.any,.any,.any],[.dead,.dead,.dead,.dead,.dead,.dead,.dead,.dead,.dead,.dead,.dead,.dead,.dead,.dead,.dead,.dead,.dead,.dead,.dead,.dead,.dead,.dead,.dead,.dead,.dead]⟩) (fun t => t.1.2)
   ⟨(val a,val b),by dsimp only;omega,by dsimp only;omega,rfl⟩ (Le_of (by simp [leE,cN,cNat]) rfl) fun t => ?_))
 obtain ⟨⟨x,y⟩,h3,h4,h5⟩ := t
 dsimp only at h3 h4 h5 ⊢
 by_cases hy : y = 0
 ·subst hy
  simp only [cN,limbs_zero,cNat]
  (repeat' (first|(exfalso;simp at h;done)|refine W_block ?_ |((first|refine W_seqV fun K hK => ?_|refine W_regV fun K hK => ?_);(try (refine sNa ?_;try exact True.intro));(repeat refine aI ?_);refine hK _ ?_;clear hK K)|((first|refine W_seqR fun K hK => ?_|refine W_regR fun K hK => ?_);(try (refine sNa ?_;try exact True.intro));(repeat refine aI ?_);refine hK _ ?_;clear hK K)|((first|refine W_seqD mixed [] (by kernel_rfl) fun K hK => ?_|refine W_regD mixed [] (by kernel_rfl) fun K hK => ?_);(try (refine sNa ?_;try exact True.intro));(repeat refine aI ?_);refine hK _ ?_;clear hK K)|refine W_skip ?_|(refine W_ret ?_;(refine qG ?_;try exact True.intro))|(refine W_exit ?_;simp only [thenW,blockW,if_true,reduceCtorEq,if_false,Nat.reduceEqDiff])|(refine W_cond rfl (fun h => ?_) (fun h => ?_) <;> (try simp only [cond_true,cond_false,ne_eq,cB] at h))|refine W_seq ?_))
  rw [← h5,Nat.gcd_zero_right]
 ·have hp := limbs_len_pos hy
  have hd := ndiv_ok (limbs x) (limbs y) (limbs_limbs x) (limbs_limbs y) h3 h4
  rw [val_limbs,val_limbs,divR,if_neg hy] at hd
  have hml := limbs_mono (Nat.mod_le x y)
  (repeat' (first|(exfalso;simp at h;done)|refine W_block ?_ |((first|refine W_seqV fun K hK => ?_|refine W_regV fun K hK => ?_);(try (refine sNa ?_;try exact True.intro));(repeat refine aI ?_);refine hK _ ?_;clear hK K)|((first|refine W_seqR fun K hK => ?_|refine W_regR fun K hK => ?_);(try (refine sNa ?_;try exact True.intro));(repeat refine aI ?_);refine hK _ ?_;clear hK K)|((first|refine W_seqD mixed [] (by kernel_rfl) fun K hK => ?_|refine W_regD mixed [] (by kernel_rfl) fun K hK => ?_);(try (refine sNa ?_;try exact True.intro));(repeat refine aI ?_);refine hK _ ?_;clear hK K)|refine W_skip ?_|(refine W_ret ?_;(refine qG ?_;try exact True.intro))|(refine W_exit ?_;simp only [thenW,blockW,if_true,reduceCtorEq,if_false,Nat.reduceEqDiff])|(refine W_cond rfl (fun h => ?_) (fun h => ?_) <;> (try simp only [cond_true,cond_false,ne_eq,cB] at h))|refine W_seq ?_))
  ·((first | refine W_seqV ?_ | refine W_seq (W_seqV ?_) | refine W_regV ?_);intro K hK;(refine sNa ?_;try exact True.intro))
   ((repeat refine aI ?_);refine ⟨by kernel_rfl,_,.pure rfl (hd),?_⟩;(try (refine sNa ?_;try exact True.intro));(repeat refine aI ?_))
   (repeat refine aI ?_);refine hK _ ?_;clear hK K
   ((first | refine W_seqV ?_ | refine W_seq (W_seqV ?_) | refine W_regV ?_);intro K hK;(refine sNa ?_;try exact True.intro))
   (repeat refine aI ?_);refine hK _ ?_;clear hK K
   simp only [blockW,thenW]
   exact ⟨⟨(y,x % y),h4,by dsimp only;omega,by rw [gcd_step hy];exact h5⟩,Le_of (by simp [leE,cN,cNat]) rfl,Nat.mod_lt _ (by omega)⟩
  ·exfalso;omega
end Go.Proofs.YtjmpajgjaefcjaaGreat.Vm
namespace Go.Proofs.YtjmpajgjaefcjaaGreat.Vm
open Go Go.RowKit
set_option linter.unusedVariables false
set_option linter.unusedSimpArgs false
def cI (neg : Bool) (l : List Nat) : AV := .agg [.bool neg,.sl (u32s l)]
def iv (neg : Bool) (l : List Nat) : Int := if neg then -(val l : Int) else val l
def cZ (z : Int) : AV := cI (decide (z < 0)) (limbs z.natAbs)
theorem iv_abs (neg : Bool) (l : List Nat) : (iv neg l).natAbs = val l := by
 unfold iv;split <;> simp
theorem iv_cZ (z : Int) : iv (decide (z < 0)) (limbs z.natAbs) = z := by
 unfold iv
 rw [val_limbs]
 by_cases h : z < 0
 ·simp only [h,decide_true,if_true];omega
 ·simp only [h,decide_false,Bool.false_eq_true,if_false];omega
theorem cZ_of (p : Int) (n : Nat) : cI (decide (p < 0) && decide (0 < (limbs n).length)) (limbs n) = cZ (if p < 0 then -(n : Int) else n) := by
 unfold cZ
 by_cases hp : p < 0
 ·simp only [hp,decide_true,if_true,Bool.true_and,Int.natAbs_neg,Int.natAbs_natCast]
  by_cases h0 : n = 0
  ·subst h0;simp [limbs_zero]
  ·have := limbs_len_pos h0
   rw [decide_eq_true this,decide_eq_true (show -(n : Int) < 0 by omega)]
 ·simp only [hp,decide_false,Bool.false_and,Bool.false_eq_true,if_false,Int.natAbs_natCast]
  rw [decide_eq_false (show ¬ ((n : Int) < 0) by omega)]
theorem isign (neg : Bool) (l : List Nat) : (iv neg l).sign = if val l = 0 then 0 else if neg then -1 else 1 := by
 unfold iv
 by_cases h0 : val l = 0
 ·simp [h0]
 ·rw [if_neg h0]
  cases neg
  ·simp only [Bool.false_eq_true,if_false];exact Int.sign_eq_one_of_pos (by omega)
  ·simp only [if_true];exact Int.sign_eq_neg_one_of_neg (by omega)
def sg (z : Int) : Prop := z = -1 ∨ z = 0 ∨ z = 1
theorem sg_sign (z : Int) : sg z.sign := by
 rcases Int.lt_trichotomy z 0 with h | h | h
 ·exact .inl (Int.sign_eq_neg_one_of_neg h)
 ·subst h;exact .inr (.inl rfl)
 ·exact .inr (.inr (Int.sign_eq_one_of_pos h))
theorem sg_mul {a b : Int} (ha : sg a) (hb : sg b) : sg (a * b) := by
 rcases ha with rfl | rfl | rfl <;> rcases hb with rfl | rfl | rfl <;> simp [sg]
theorem sg_wrap {a : Int} (h : sg a) : IntKind.wrap .i64 a = a := by
 rcases h with rfl | rfl | rfl <;> rfl
def i64s (l : List Int) : List (List AV) := l.map fun x => [.int .i64 x]
theorem i64s_length (l : List Int) : (i64s l).length = l.length := by simp [i64s]
theorem i64s_all (l : List Int) : AllLen 1 (i64s l) := by
 intro r hr
 simp only [i64s,List.mem_map] at hr
 obtain ⟨x,_,rfl⟩ := hr
 rfl
theorem i64s_getD {l : List Int} {i : Nat} (h : i < l.length) : (i64s l).getD i [] = [.int .i64 (l.getD i 0)] := by
 simp [i64s,List.getD_eq_getElem?_getD,h]
def prodL (l : List Int) : Int := l.foldl (· * ·) 1
theorem prodL_take {l : List Int} {i : Nat} (h : i < l.length) : prodL (l.take (i + 1)) = prodL (l.take i) * l.getD i 0 := by
 unfold prodL
 rw [List.take_succ_eq_append_getElem h,List.foldl_append,List.foldl_cons,List.foldl_nil,List.getD_eq_getElem?_getD,List.getElem?_eq_getElem h]
 rfl
theorem sg_prodL {l : List Int} (h : ∀ x ∈ l,sg x) : sg (prodL l) := by
 unfold prodL
 have : ∀ (l : List Int) (a : Int),sg a → (∀ x ∈ l,sg x) → sg (l.foldl (· * ·) a) := by
  intro l
  induction l with
  | nil => intro a ha _;exact ha
  | cons x l ih =>
   intro a ha hl
   exact ih _ (sg_mul ha (hl x List.mem_cons_self)) fun y hy => hl y (List.mem_cons_of_mem _ hy)
 exact this l 1 (.inr (.inr rfl)) h
theorem sg_getD {l : List Int} (h : ∀ x ∈ l,sg x) (i : Nat) : sg (l.getD i 0) := by
 rw [List.getD_eq_getElem?_getD]
 cases hi : l[i]? with
 | none => exact .inr (.inl rfl)
 | some x => exact h x (List.mem_of_getElem? hi)
theorem iv_norm (neg : Bool) (l : List Nat) : (if prodL [(iv neg l).sign] < 0 then -(val l : Int) else val l) = iv neg l := by
 rw [isign]
 simp only [prodL,List.foldl_cons,List.foldl_nil,iv]
 by_cases h0 : val l = 0
 ·simp [h0]
 ·cases neg <;> simp [h0]
theorem iv_mul (neg neg' : Bool) (l m : List Nat) : (if prodL [(iv neg l).sign,(iv neg' m).sign] < 0 then -((val l * val m : Nat) : Int) else (val l * val m : Nat)) = iv neg l * iv neg' m := by
 rw [isign,isign]
 simp only [prodL,List.foldl_cons,List.foldl_nil,iv]
 by_cases h0 : val l = 0
 ·simp [h0]
 ·by_cases h1 : val m = 0
  ·simp [h1]
  ·cases neg <;> cases neg' <;> simp [h0,h1,Int.neg_mul,Int.mul_neg]
theorem bor_sg {x y : Int} (hx : sg x) (hy : sg y) : borI .i64 (borI .i64 x y) 1 = if x = -1 ∨ y = -1 then -1 else 1 := by
 rcases hx with rfl | rfl | rfl <;> rcases hy with rfl | rfl | rfl <;> decide
theorem sg_bor {x y : Int} : sg (if x = -1 ∨ y = -1 then -1 else 1) := by
 split
 ·exact .inl rfl
 ·exact .inr (.inr rfl)
theorem iv_add_same (neg : Bool) (l : List Nat) (neg' : Bool) (m : List Nat) (h : 0 ≤ (iv neg l).sign * (iv neg' m).sign) :
  (if prodL [if (iv neg l).sign = -1 ∨ (iv neg' m).sign = -1 then -1 else 1] < 0 then -((val l + val m : Nat) : Int) else (val l + val m : Nat)) = iv neg l + iv neg' m := by
 rw [isign,isign] at h ⊢
 simp only [prodL,List.foldl_cons,List.foldl_nil,iv]
 by_cases h0 : val l = 0
 ·by_cases h1 : val m = 0
  ·simp [h0,h1]
  ·cases neg <;> cases neg' <;> simp [h0,h1]
 ·by_cases h1 : val m = 0
  ·cases neg <;> cases neg' <;> simp [h0,h1]
  ·cases neg <;> cases neg' <;> simp [h0,h1] at h ⊢
   omega
theorem iv_add_diff (neg : Bool) (l : List Nat) (neg' : Bool) (m : List Nat) (h : ¬ 0 ≤ (iv neg l).sign * (iv neg' m).sign) :
  (val m ≤ val l → (if prodL [(iv neg l).sign] < 0 then -((val l - val m : Nat) : Int) else (val l - val m : Nat)) = iv neg l + iv neg' m) ∧
  (val l < val m → (if prodL [(iv neg' m).sign] < 0 then -((val m - val l : Nat) : Int) else (val m - val l : Nat)) = iv neg l + iv neg' m) := by
 rw [isign,isign] at h ⊢
 simp only [prodL,List.foldl_cons,List.foldl_nil,iv]
 by_cases h0 : val l = 0
 ·simp [h0] at h
 ·by_cases h1 : val m = 0
  ·simp [h1] at h
  ·cases neg <;> cases neg' <;> simp [h0,h1] at h ⊢ <;> omega
theorem sgn_nn {a b : Nat} (h : b ≤ a) : decide (0 ≤ sgn a b) = true := by
 refine decide_eq_true ?_
 unfold sgn
 rw [if_neg (by omega)]
 split <;> omega
theorem sgn_ng {a b : Nat} (h : ¬ b ≤ a) : decide (0 ≤ sgn a b) = false := by
 rw [sgn_lt (by omega)];rfl
def zl (z : Int) : Nat := (limbs z.natAbs).length
theorem len_le {n k : Nat} (h : n < 4294967296 ^ k) : (limbs n).length ≤ k := limbs_length_le h
theorem lt_len (n : Nat) : n < 4294967296 ^ (limbs n).length := by
 have := val_lt (limbs_limbs n)
 rwa [val_limbs] at this
theorem zl_add (a b : Int) : zl (a + b) ≤ zl a + zl b + 1 := by
 unfold zl
 refine len_le ?_
 have h1 := lt_len a.natAbs
 have h2 := lt_len b.natAbs
 have h3 : (a + b).natAbs ≤ a.natAbs + b.natAbs := Int.natAbs_add_le a b
 have p1 : 0 < 4294967296 ^ (limbs a.natAbs).length := Nat.pow_pos (by omega)
 have p2 : 0 < 4294967296 ^ (limbs b.natAbs).length := Nat.pow_pos (by omega)
 rw [Nat.pow_succ,Nat.pow_add]
 have h4 : 4294967296 ^ (limbs a.natAbs).length ≤ 4294967296 ^ (limbs a.natAbs).length * 4294967296 ^ (limbs b.natAbs).length := Nat.le_mul_of_pos_right _ p2
 have h5 : 4294967296 ^ (limbs b.natAbs).length ≤ 4294967296 ^ (limbs a.natAbs).length * 4294967296 ^ (limbs b.natAbs).length := Nat.le_mul_of_pos_left _ p1
 omega
theorem len_mul (a b : Nat) : (limbs (a * b)).length ≤ (limbs a).length + (limbs b).length := by
 refine len_le ?_
 rw [Nat.pow_add]
 have h1 := lt_len a
 have h2 := lt_len b
 exact Nat.mul_lt_mul'' h1 h2
theorem zl_mul (a b : Int) : zl (a * b) ≤ zl a + zl b := by
 unfold zl;rw [Int.natAbs_mul];exact len_mul _ _
end Go.Proofs.YtjmpajgjaefcjaaGreat.Vm
namespace Go.Proofs.YtjmpajgjaefcjaaGreat.Vm
open Go Go.RowKit
set_option maxRecDepth 100000
set_option linter.unusedVariables false
set_option linter.unusedSimpArgs false
theorem sWa {G G' : Prop} (h : G') (e : G = G' := by conv => lhs;simp (disch := omega) only [rowsOf,cNat,cN,St.ret,St.seth,Eff.app,Eff.wi,sepL,guardOf,St.known,objOf,List.set,sliceW,litW,copyW,lenOf,bnd,mxOk,ofCells,TI.isAgg,cellsOf,storable,AV.one,dead,laid,overlay,reduceCtorEq,Int.reduceLE,Int.reduceLT,Int.reduceSub,Int.reduceAdd,Nat.reduceMul,Int.reduceToNat,Nat.reducePow,Int.reduceNeg,Nat.reduceAdd,Nat.reduceLT,Nat.reduceLeDiff,sA,sB,i64s_getD,i64s_length,i64s_all,sT]) : G := e.mpr h
theorem sWaX {G G' P : Prop} (p : P) (h : G') (e : P → G = G' := by intro p;conv => lhs;simp (disch := omega) only [rowsOf,cNat,cN,St.ret,St.seth,Eff.app,Eff.wi,sepL,guardOf,St.known,objOf,List.set,sliceW,litW,copyW,lenOf,bnd,mxOk,ofCells,TI.isAgg,cellsOf,storable,AV.one,dead,laid,overlay,reduceCtorEq,Int.reduceLE,Int.reduceLT,Int.reduceSub,Int.reduceAdd,Nat.reduceMul,Int.reduceToNat,Nat.reducePow,Int.reduceNeg,Nat.reduceAdd,Nat.reduceLT,Nat.reduceLeDiff,sA,sB,i64s_getD,i64s_length,i64s_all,sT,p]) : G := (e p).mpr h
theorem sWaV {G G' : Prop} (h : G') (e : G = G' := by conv => lhs;simp (disch := omega) only [rowsOf,cNat,cN,St.ret,St.seth,Eff.app,Eff.wi,sepL,guardOf,St.known,objOf,List.set,sliceW,litW,copyW,lenOf,bnd,mxOk,ofCells,TI.isAgg,cellsOf,storable,AV.one,dead,laid,overlay,reduceCtorEq,Int.reduceLE,Int.reduceLT,Int.reduceSub,Int.reduceAdd,Nat.reduceMul,Int.reduceToNat,Nat.reducePow,Int.reduceNeg,Nat.reduceAdd,Nat.reduceLT,Nat.reduceLeDiff,sA,sB,i64s_getD,i64s_length,i64s_all,sT,view_sref,viewRef,view_agg,views_cons,views_nil,view_bool,view_int,view_sl,view_nils,view_str,view_tup,view_nilif]) : G := e.mpr h
theorem aWa {G G' : Prop} (h : G') (f : Wr G' → G := by intro h;(repeat (first|(refine W_seqV fun K hK => ?_;(try (refine sWa ?_;try exact True.intro));(repeat refine aI ?_);refine hK _ ?_;clear hK K)|(refine W_seqR fun K hK => ?_;(try (refine sWa ?_;try exact True.intro));(repeat refine aI ?_);refine hK _ ?_;clear hK K)|(refine W_seqD mixed [] (by kernel_rfl) fun K hK => ?_;(try (refine sWa ?_;try exact True.intro));(repeat refine aI ?_);refine hK _ ?_;clear hK K)));exact h.out) : G := f ⟨h⟩
set_option maxHeartbeats 1000000 in
theorem core_ok (l : List Nat) (hl : l.length < 9223372036854775807) : Pure Tryz.prog 163 [cNat l] (· = cNat (trim l)) := by
 (refine pureW Tryz.func163 rfl (rs := [Go.ResultVar.tmp 2]) rfl (n := 22) rfl ?_;simp only [List.length_cons,List.length_nil,List.replicate,List.cons_append,List.nil_append])
 unfold cNat
 ((first | refine W_seqR ?_ | refine W_seq (W_seqR ?_));intro K hK;(refine sWa ?_;try exact True.intro))
 (repeat refine aI ?_);refine hK _ ?_;clear hK K
 ((first | refine W_seqR ?_ | refine W_seq (W_seqR ?_));intro K hK;(refine sWa ?_;try exact True.intro))
 (repeat refine aI ?_);refine hK _ ?_;clear hK K
 refine W_seq (W_block (W_loop (fun n : {n : Nat // n ≤ l.length ∧ cutLen l n = cutLen l l.length} => ⟨[.sl (u32s l),.any,.any,.int .i64 n.1,.any,.any,.any,.any,.any,.any,.any,.any,.any,.any,.any,.any,.any,.any,.any,.any,.any,.any],[.dead,.dead,.dead,.dead,.dead,.dead,.dead,.dead,.dead,.dead,.dead,.dead,.dead,.dead,.dead,.dead,.dead,.dead,.dead,.dead,.dead,.dead]⟩) (fun n => n.1) ⟨l.length,Nat.le_refl _,rfl⟩ (Le_of ?_ rfl) fun n => ?_))
 ·simp [leE]
 obtain ⟨n,hn,hc⟩ := n
 refine W_seq ?_
 dsimp only
 rcases Nat.eq_zero_or_pos n with rfl | hpos
 ·((first | refine W_seqR ?_ | refine W_seq (W_seqR ?_));intro K hK;(refine sWa ?_;try exact True.intro))
  (repeat refine aI ?_);refine hK _ ?_;clear hK K
  (first | refine W_cf rfl ?_ | refine W_seq (W_cf rfl ?_))
  refine W_exit ?_
  simp only [thenW,blockW,if_true]
  ((first | refine W_seqR ?_ | refine W_seq (W_seqR ?_));intro K hK;(refine sWa ?_;try exact True.intro))
  (repeat refine aI ?_);refine hK _ ?_;clear hK K
  refine W_ret ?_
  (refine qG ?_;try exact True.intro)
  simp [trim,← hc,cutLen,u32s]
 ·((first | refine W_seqR ?_ | refine W_seq (W_seqR ?_) | refine W_regR ?_);intro K hK;(refine sWaX hpos ?_;try exact True.intro))
  refine ⟨by omega,?_⟩
  (repeat refine aI ?_);refine hK _ ?_;clear hK K
  refine W_cond rfl (fun h => ?_) (fun h => ?_)
  ·refine W_skip (W_block (W_regR fun K hK => ?_))
   (refine sWa ?_;try exact True.intro)
   refine hK _ ⟨⟨n - 1,by omega,?_⟩,Le_of ?_ rfl,?_⟩
   ·rw [← hc]
    obtain ⟨m,rfl⟩ : ∃ m,n = m + 1 := ⟨n - 1,by omega⟩
    simp at h
    simp only [cutLen,Nat.add_sub_cancel,List.getD_eq_getElem?_getD,h,if_true]
   ·simp [leE]
   ·simp;omega
  refine W_exit ?_
  simp only [thenW,blockW,if_true]
  ((first | refine W_seqR ?_ | refine W_seq (W_seqR ?_));intro K hK;(refine sWa ?_;try exact True.intro))
  refine ⟨hn,?_⟩
  (repeat refine aI ?_);refine hK _ ?_;clear hK K
  refine W_ret ?_
  (refine qG ?_;try exact True.intro)
  obtain ⟨m,rfl⟩ : ∃ m,n = m + 1 := ⟨n - 1,by omega⟩
  simp at h
  simp only [trim,← hc,cutLen,List.getD_eq_getElem?_getD,h,if_false]
theorem core_ok' (l : List Nat) (h : Limbs l) (hl : l.length < 1099511627776) : Pure Tryz.prog 163 [cNat l] (· = cN (val l)) := by
 have := core_ok l (by omega)
 rwa [trim_eq h] at this
set_option maxHeartbeats 1000000 in
theorem wsign_ok (neg : Bool) (l : List Nat) (h : Limbs l) (hl : l.length < 1099511627776) : Pure Tryz.prog 126 [cI neg l] (· = .int .i64 (iv neg l).sign) := by
 rw [isign]
 have hc := core_ok' l h hl
 (refine pureW Tryz.func126 rfl (rs := [Go.ResultVar.tmp 2]) rfl (n := 12) rfl ?_;simp only [List.length_cons,List.length_nil,List.replicate,List.cons_append,List.nil_append])
 unfold cI
 (refine aWa ?_)
 refine W_seq (W_block ?_)
 by_cases h0 : val l = 0
 ·rw [h0] at hc
  simp only [cN,limbs_zero,cNat] at hc
  rw [if_pos h0]
  ((first | refine W_seqV ?_ | refine W_seq (W_seqV ?_) | refine W_regV ?_);intro K hK;(refine sWa ?_;try exact True.intro))
  ((repeat refine aI ?_);refine ⟨by kernel_rfl,_,.pure rfl (hc),?_⟩;(try (refine sWa ?_;try exact True.intro));(repeat refine aI ?_))
  (repeat refine aI ?_);refine hK _ ?_;clear hK K
  (repeat' (first|(exfalso;simp at h;done)|refine W_block ?_ |((first|refine W_seqV fun K hK => ?_|refine W_regV fun K hK => ?_);(try (refine sWa ?_;try exact True.intro));(repeat refine aI ?_);refine hK _ ?_;clear hK K)|((first|refine W_seqR fun K hK => ?_|refine W_regR fun K hK => ?_);(try (refine sWa ?_;try exact True.intro));(repeat refine aI ?_);refine hK _ ?_;clear hK K)|((first|refine W_seqD mixed [] (by kernel_rfl) fun K hK => ?_|refine W_regD mixed [] (by kernel_rfl) fun K hK => ?_);(try (refine sWa ?_;try exact True.intro));(repeat refine aI ?_);refine hK _ ?_;clear hK K)|refine W_skip ?_|(refine W_ret ?_;(refine qG ?_;try exact True.intro))|(refine W_exit ?_;simp only [thenW,blockW,if_true,reduceCtorEq,if_false,Nat.reduceEqDiff])|(refine W_cond rfl (fun h => ?_) (fun h => ?_) <;> (try simp only [cond_true,cond_false,ne_eq,cB] at h))|refine W_seq ?_))
 ·rw [if_neg h0]
  have hp := limbs_len_pos h0
  have hz : (((limbs (val l)).length : Int) == 0) = false := by rw [beq_eq_false_iff_ne];omega
  simp only [cN,cNat] at hc
  ((first | refine W_seqV ?_ | refine W_seq (W_seqV ?_) | refine W_regV ?_);intro K hK;(refine sWa ?_;try exact True.intro))
  ((repeat refine aI ?_);refine ⟨by kernel_rfl,_,.pure rfl (hc),?_⟩;(try (refine sWa ?_;try exact True.intro));(repeat refine aI ?_))
  (refine sWaX hz ?_;try exact True.intro)
  (repeat refine aI ?_);refine hK _ ?_;clear hK K
  (first | refine W_cf rfl ?_ | refine W_seq (W_cf rfl ?_))
  cases neg
  ·(repeat' (first|(exfalso;simp at h;done)|refine W_block ?_ |((first|refine W_seqV fun K hK => ?_|refine W_regV fun K hK => ?_);(try (refine sWa ?_;try exact True.intro));(repeat refine aI ?_);refine hK _ ?_;clear hK K)|((first|refine W_seqR fun K hK => ?_|refine W_regR fun K hK => ?_);(try (refine sWa ?_;try exact True.intro));(repeat refine aI ?_);refine hK _ ?_;clear hK K)|((first|refine W_seqD mixed [] (by kernel_rfl) fun K hK => ?_|refine W_regD mixed [] (by kernel_rfl) fun K hK => ?_);(try (refine sWa ?_;try exact True.intro));(repeat refine aI ?_);refine hK _ ?_;clear hK K)|refine W_skip ?_|(refine W_ret ?_;(refine qG ?_;try exact True.intro))|(refine W_exit ?_;simp only [thenW,blockW,if_true,reduceCtorEq,if_false,Nat.reduceEqDiff])|(refine W_cond rfl (fun h => ?_) (fun h => ?_) <;> (try simp only [cond_true,cond_false,ne_eq,cB] at h))|refine W_seq ?_))
   rfl
  ·(repeat' (first|(exfalso;simp at h;done)|refine W_block ?_ |((first|refine W_seqV fun K hK => ?_|refine W_regV fun K hK => ?_);(try (refine sWa ?_;try exact True.intro));(repeat refine aI ?_);refine hK _ ?_;clear hK K)|((first|refine W_seqR fun K hK => ?_|refine W_regR fun K hK => ?_);(try (refine sWa ?_;try exact True.intro));(repeat refine aI ?_);refine hK _ ?_;clear hK K)|((first|refine W_seqD mixed [] (by kernel_rfl) fun K hK => ?_|refine W_regD mixed [] (by kernel_rfl) fun K hK => ?_);(try (refine sWa ?_;try exact True.intro));(repeat refine aI ?_);refine hK _ ?_;clear hK K)|refine W_skip ?_|(refine W_ret ?_;(refine qG ?_;try exact True.intro))|(refine W_exit ?_;simp only [thenW,blockW,if_true,reduceCtorEq,if_false,Nat.reduceEqDiff])|(refine W_cond rfl (fun h => ?_) (fun h => ?_) <;> (try simp only [cond_true,cond_false,ne_eq,cB] at h))|refine W_seq ?_))
   rfl
set_option maxHeartbeats 1000000 in
theorem signed_ok (l : List Nat) (ss : List Int) (h : Limbs l) (hl : l.length < 1099511627776) (hss : ∀ x ∈ ss,sg x) (hsl : ss.length < 100) :
  Pure Tryz.prog 170 [cNat l,.sl (i64s ss)] (· = cZ (if prodL ss < 0 then -(val l : Int) else val l)) := by
 rw [← cZ_of]
 (refine pureW Tryz.func170 rfl (rs := [Go.ResultVar.cell 4 51]) rfl (n := 29) rfl ?_;simp only [List.length_cons,List.length_nil,List.replicate,List.cons_append,List.nil_append])
 unfold cNat
 (refine aWa ?_)
 ((first | refine W_seqV ?_ | refine W_seq (W_seqV ?_) | refine W_regV ?_);intro K hK;(refine sWa ?_;try exact True.intro))
 ((repeat refine aI ?_);refine ⟨by kernel_rfl,_,.pure rfl (norm_ok l h hl),?_⟩;(try (refine sWa ?_;try exact True.intro));(repeat refine aI ?_))
 (repeat refine aI ?_);refine hK _ ?_;clear hK K
 (refine aWa ?_)
 refine W_join (fun s' => Le [] s' ⟨[.sl (u32s (limbs (val l))),.any,.any,.any,.ptr 4 0 0,.int .i64 (prodL ss),.any,.any,.any,.any,.any,.any,.any,.any,.any,.any,.any,.any,.any,.any,.any,.any,.any,.any,.any,.any,.any,.any,.any],[.dead,.dead,.dead,.dead,.arr 51 2 false [[.bool false,.nils]],.dead,.dead,.dead,.dead,.dead,.dead,.dead,.dead,.dead,.dead,.dead,.dead,.dead,.dead,.dead,.dead,.dead,.dead,.dead,.dead,.dead,.dead,.dead,.dead]⟩) ?_ ?_
 ·(refine aWa ?_)
  refine W_block (W_loop (fun t : {t : Nat // t ≤ ss.length} => ⟨[.sl (u32s (limbs (val l))),.any,.any,.any,.ptr 4 0 0,.int .i64 (prodL (ss.take t.1)),.any,.any,.any,.any,.sl (i64s ss),.int .i64 ss.length,.int .i64 t.1,.any,.any,.any,.any,.any,.any,.any,.any,.any,.any,.any,.any,.any,.any,.any,.any],[.dead,.dead,.dead,.dead,.arr 51 2 false [[.bool false,.nils]],.dead,.dead,.dead,.dead,.dead,.dead,.dead,.dead,.dead,.dead,.dead,.dead,.dead,.dead,.dead,.dead,.dead,.dead,.dead,.dead,.dead,.dead,.dead,.dead]⟩) (fun t => ss.length - t.1)
   ⟨0,by omega⟩ (Le_of (by simp [leE,prodL]) rfl) fun t => ?_)
  obtain ⟨i,hi⟩ := t
  dsimp only
  have hw := sg_wrap (sg_mul (sg_prodL (l := ss.take i) fun x hx => hss x (List.mem_of_mem_take hx)) (sg_getD hss i))
  (repeat' (first|(exfalso;simp at h;done)|refine W_block ?_ |((first|refine W_seqV fun K hK => ?_|refine W_regV fun K hK => ?_);(try (refine sWa ?_;try exact True.intro));(repeat refine aI ?_);refine hK _ ?_;clear hK K)|((first|refine W_seqR fun K hK => ?_|refine W_regR fun K hK => ?_);(try (refine sWa ?_;try exact True.intro));(repeat refine aI ?_);refine hK _ ?_;clear hK K)|((first|refine W_seqD mixed [] (by kernel_rfl) fun K hK => ?_|refine W_regD mixed [] (by kernel_rfl) fun K hK => ?_);(try (refine sWa ?_;try exact True.intro));(repeat refine aI ?_);refine hK _ ?_;clear hK K)|refine W_skip ?_|(refine W_ret ?_;(refine qG ?_;try exact True.intro))|(refine W_exit ?_;simp only [thenW,blockW,if_true,reduceCtorEq,if_false,Nat.reduceEqDiff])|(refine W_cond rfl (fun h => ?_) (fun h => ?_) <;> (try simp only [cond_true,cond_false,ne_eq,cB] at h))|refine W_seq ?_))
  ·simp only [thenW]
   exact ⟨⟨i + 1,by omega⟩,Le_of (by simp [leE,prodL_take (show i < ss.length by omega)];simpa using hw) rfl,by dsimp only;omega⟩
  ·obtain rfl : i = ss.length := by omega
   rw [List.take_length]
   exact Le_of (by simp [leE]) rfl
 rintro s' hle
 refine W.le ?_ hle
 clear hle s'
 by_cases hp : prodL ss < 0
 ·have hz : decide (prodL ss < 0) = true := decide_eq_true hp
  ((first | refine W_seqV ?_ | refine W_seq (W_seqV ?_) | refine W_regV ?_);intro K hK;(refine sWaX hz ?_;try exact True.intro))
  (repeat refine aI ?_);refine hK _ ?_;clear hK K
  refine W_ret ?_
  (refine qG ?_;try exact True.intro);try (refine sWaV ?_;try exact True.intro)
  simp only [cI,hz,Bool.true_and,Bool.false_and]
 ·have hz : decide (prodL ss < 0) = false := decide_eq_false hp
  ((first | refine W_seqV ?_ | refine W_seq (W_seqV ?_) | refine W_regV ?_);intro K hK;(refine sWaX hz ?_;try exact True.intro))
  (repeat refine aI ?_);refine hK _ ?_;clear hK K
  refine W_ret ?_
  (refine qG ?_;try exact True.intro);try (refine sWaV ?_;try exact True.intro)
  simp only [cI,hz,Bool.true_and,Bool.false_and]
theorem sWb {G G' : Prop} (h : G') (e : G = G' := by conv => lhs;simp (disch := omega) only [rowsOf,cNat,cN,St.ret,St.seth,Eff.app,Eff.wi,sepL,guardOf,St.known,objOf,List.set,sliceW,litW,copyW,lenOf,bnd,mxOk,ofCells,TI.isAgg,cellsOf,storable,AV.one,dead,laid,overlay,reduceCtorEq,Int.reduceLE,Int.reduceLT,Int.reduceSub,Int.reduceAdd,Nat.reduceMul,Int.reduceToNat,Nat.reducePow,Int.reduceNeg,Nat.reduceAdd,Nat.reduceLT,Nat.reduceLeDiff,sA,sB,cZ,cI,i64s_getD,i64s_length,i64s_all,sT]) : G := e.mpr h
theorem sWbX {G G' P : Prop} (p : P) (h : G') (e : P → G = G' := by intro p;conv => lhs;simp (disch := omega) only [rowsOf,cNat,cN,St.ret,St.seth,Eff.app,Eff.wi,sepL,guardOf,St.known,objOf,List.set,sliceW,litW,copyW,lenOf,bnd,mxOk,ofCells,TI.isAgg,cellsOf,storable,AV.one,dead,laid,overlay,reduceCtorEq,Int.reduceLE,Int.reduceLT,Int.reduceSub,Int.reduceAdd,Nat.reduceMul,Int.reduceToNat,Nat.reducePow,Int.reduceNeg,Nat.reduceAdd,Nat.reduceLT,Nat.reduceLeDiff,sA,sB,cZ,cI,i64s_getD,i64s_length,i64s_all,sT,p]) : G := (e p).mpr h
theorem sWbV {G G' : Prop} (h : G') (e : G = G' := by conv => lhs;simp (disch := omega) only [rowsOf,cNat,cN,St.ret,St.seth,Eff.app,Eff.wi,sepL,guardOf,St.known,objOf,List.set,sliceW,litW,copyW,lenOf,bnd,mxOk,ofCells,TI.isAgg,cellsOf,storable,AV.one,dead,laid,overlay,reduceCtorEq,Int.reduceLE,Int.reduceLT,Int.reduceSub,Int.reduceAdd,Nat.reduceMul,Int.reduceToNat,Nat.reducePow,Int.reduceNeg,Nat.reduceAdd,Nat.reduceLT,Nat.reduceLeDiff,sA,sB,cZ,cI,i64s_getD,i64s_length,i64s_all,sT,view_sref,viewRef,view_agg,views_cons,views_nil,view_bool,view_int,view_sl,view_nils,view_str,view_tup,view_nilif]) : G := e.mpr h
theorem aWb {G G' : Prop} (h : G') (f : Wr G' → G := by intro h;(repeat (first|(refine W_seqV fun K hK => ?_;(try (refine sWb ?_;try exact True.intro));(repeat refine aI ?_);refine hK _ ?_;clear hK K)|(refine W_seqR fun K hK => ?_;(try (refine sWb ?_;try exact True.intro));(repeat refine aI ?_);refine hK _ ?_;clear hK K)|(refine W_seqD mixed [] (by kernel_rfl) fun K hK => ?_;(try (refine sWb ?_;try exact True.intro));(repeat refine aI ?_);refine hK _ ?_;clear hK K)));exact h.out) : G := f ⟨h⟩
set_option maxHeartbeats 1000000 in
theorem wnorm_ok (neg : Bool) (l : List Nat) (h : Limbs l) (hl : l.length < 1099511627776) : Pure Tryz.prog 206 [cI neg l] (· = cZ (iv neg l)) := by
 have hs := wsign_ok neg l h hl
 have hg := signed_ok l [(iv neg l).sign] h hl (by intro x hx;simp at hx;subst hx;exact sg_sign _) (by simp)
 rw [iv_norm] at hg
 (refine pureW Tryz.func206 rfl (rs := [Go.ResultVar.cell 2 51]) rfl (n := 9) rfl ?_;simp only [List.length_cons,List.length_nil,List.replicate,List.cons_append,List.nil_append])
 unfold cI
 (refine aWb ?_)
 ((first | refine W_seqD mixed [] (by kernel_rfl) ?_ | refine W_seq (W_seqD mixed [] (by kernel_rfl) ?_) | refine W_regD mixed [] (by kernel_rfl) ?_);intro K hK;(refine sWb ?_;try exact True.intro))
 ((repeat refine aI ?_);refine ⟨by kernel_rfl,_,.pure rfl (hs),?_⟩;(try (refine sWb ?_;try exact True.intro));(repeat refine aI ?_))
 ((repeat refine aI ?_);refine ⟨by kernel_rfl,_,.pure rfl (hg),?_⟩;(try (refine sWb ?_;try exact True.intro));(repeat refine aI ?_))
 (repeat refine aI ?_);refine hK _ ?_;clear hK K
 refine W_ret ?_
 (refine qG ?_;try exact True.intro);try (refine sWbV ?_;try exact True.intro)
set_option maxHeartbeats 1000000 in
theorem wmul_ok (neg : Bool) (l : List Nat) (h : Limbs l) (hl : l.length < 274877906944) (neg' : Bool) (l' : List Nat) (h' : Limbs l') (hl' : l'.length < 274877906944) : Pure Tryz.prog 167 [cI neg l,cI neg' l'] (· = cZ (iv neg l * iv neg' l')) := by
 have hs := wsign_ok neg l h (by omega)
 have hs' := wsign_ok neg' l' h' (by omega)
 have hm := nmul_ok l l' h h' hl hl'
 have hml := len_mul (val l) (val l')
 have h1 := limbs_val_length h
 have h2 := limbs_val_length h'
 have hg := signed_ok (limbs (val l * val l')) [(iv neg l).sign,(iv neg' l').sign] (limbs_limbs _) (by omega) (by intro x hx;simp at hx;rcases hx with rfl | rfl <;> exact sg_sign _) (by simp)
 rw [val_limbs,iv_mul] at hg
 (refine pureW Tryz.func167 rfl (rs := [Go.ResultVar.cell 4 51]) rfl (n := 16) rfl ?_;simp only [List.length_cons,List.length_nil,List.replicate,List.cons_append,List.nil_append])
 unfold cI
 (refine aWb ?_)
 ((first | refine W_seqD mixed [] (by kernel_rfl) ?_ | refine W_seq (W_seqD mixed [] (by kernel_rfl) ?_) | refine W_regD mixed [] (by kernel_rfl) ?_);intro K hK;(refine sWb ?_;try exact True.intro))
 ((repeat refine aI ?_);refine ⟨by kernel_rfl,_,.pure rfl (hm),?_⟩;(try (refine sWb ?_;try exact True.intro));(repeat refine aI ?_))
 ((repeat refine aI ?_);refine ⟨by kernel_rfl,_,.pure rfl (hs),?_⟩;(try (refine sWb ?_;try exact True.intro));(repeat refine aI ?_))
 ((repeat refine aI ?_);refine ⟨by kernel_rfl,_,.pure rfl (hs'),?_⟩;(try (refine sWb ?_;try exact True.intro));(repeat refine aI ?_))
 ((repeat refine aI ?_);refine ⟨by kernel_rfl,_,.pure rfl (hg),?_⟩;(try (refine sWb ?_;try exact True.intro));(repeat refine aI ?_))
 (repeat refine aI ?_);refine hK _ ?_;clear hK K
 refine W_ret ?_
 (refine qG ?_;try exact True.intro);try (refine sWbV ?_;try exact True.intro)
set_option maxHeartbeats 4000000 in
theorem wadd_ok (neg : Bool) (l : List Nat) (h : Limbs l) (hl : l.length < 274877906944) (neg' : Bool) (l' : List Nat) (h' : Limbs l') (hl' : l'.length < 274877906944) : Pure Tryz.prog 166 [cI neg l,cI neg' l'] (· = cZ (iv neg l + iv neg' l')) := by
 have hs := wsign_ok neg l h (by omega)
 have hs' := wsign_ok neg' l' h' (by omega)
 have g1 := sg_sign (iv neg l)
 have g2 := sg_sign (iv neg' l')
 have hb := bor_sg g1 g2
 have hw := sg_wrap (sg_mul g1 g2)
 have hla := limbs_val_length h
 have hlb := limbs_val_length h'
 (refine pureW Tryz.func166 rfl (rs := [Go.ResultVar.cell 4 51]) rfl (n := 60) rfl ?_;simp only [List.length_cons,List.length_nil,List.replicate,List.cons_append,List.nil_append])
 unfold cI
 (refine aWb ?_)
 ((first | refine W_seqD mixed [] (by kernel_rfl) ?_ | refine W_seq (W_seqD mixed [] (by kernel_rfl) ?_) | refine W_regD mixed [] (by kernel_rfl) ?_);intro K hK;(refine sWb ?_;try exact True.intro))
 ((repeat refine aI ?_);refine ⟨by kernel_rfl,_,.pure rfl (hs),?_⟩;(try (refine sWb ?_;try exact True.intro));(repeat refine aI ?_))
 ((repeat refine aI ?_);refine ⟨by kernel_rfl,_,.pure rfl (hs'),?_⟩;(try (refine sWb ?_;try exact True.intro));(repeat refine aI ?_))
 (repeat refine aI ?_);refine hK _ ?_;clear hK K
 by_cases hd : 0 ≤ (iv neg l).sign * (iv neg' l').sign
 ·have hz : decide (0 ≤ (iv neg l).sign * (iv neg' l').sign) = true := decide_eq_true hd
  have ha := nadd_ok l l' h h' (by omega) (by omega)
  have hal : (limbs (val l + val l')).length ≤ (limbs (val l)).length + (limbs (val l')).length + 1 := by
   have := zl_add (val l) (val l')
   simpa [zl,← Int.natCast_add] using this
  have hg := signed_ok (limbs (val l + val l')) [if (iv neg l).sign = -1 ∨ (iv neg' l').sign = -1 then -1 else 1] (limbs_limbs _) (by omega) (by intro x hx;simp only [List.mem_singleton] at hx;subst hx;exact sg_bor) (by simp)
  rw [val_limbs,iv_add_same _ _ _ _ hd] at hg
  refine W_seq ?_
  ((first | refine W_seqV ?_ | refine W_seq (W_seqV ?_) | refine W_regV ?_);intro K hK;(refine sWbX (And.intro hw hz) ?_;try exact True.intro))
  (repeat refine aI ?_);refine hK _ ?_;clear hK K
  (first | refine W_ct rfl ?_ | refine W_seq (W_ct rfl ?_))
  ((first | refine W_seqV ?_ | refine W_seq (W_seqV ?_) | refine W_regV ?_);intro K hK;(refine sWbX hb ?_;try exact True.intro))
  ((repeat refine aI ?_);refine ⟨by kernel_rfl,_,.pure rfl (ha),?_⟩;(try (refine sWb ?_;try exact True.intro));(repeat refine aI ?_))
  ((repeat refine aI ?_);refine ⟨by kernel_rfl,_,.pure rfl (hg),?_⟩;(try (refine sWb ?_;try exact True.intro));(repeat refine aI ?_))
  (repeat refine aI ?_);refine hK _ ?_;clear hK K
  refine W_ret ?_
  (refine qG ?_;try exact True.intro);try (refine sWbV ?_;try exact True.intro)
 ·have hz : decide (0 ≤ (iv neg l).sign * (iv neg' l').sign) = false := decide_eq_false hd
  obtain ⟨e1,e2⟩ := iv_add_diff neg l neg' l' hd
  have hc := ncmp_ok l l' h h' (by omega) (by omega)
  refine W_seq ?_
  ((first | refine W_seqV ?_ | refine W_seq (W_seqV ?_) | refine W_regV ?_);intro K hK;(refine sWbX (And.intro hw hz) ?_;try exact True.intro))
  (repeat refine aI ?_);refine hK _ ?_;clear hK K
  (first | refine W_cf rfl ?_ | refine W_seq (W_cf rfl ?_))
  refine W_skip ?_
  simp only [thenW]
  by_cases hle : val l' ≤ val l
  ·have hz2 := sgn_nn hle
   have hsub := nsub_ok l l' h h' (by omega) (by omega)
   have hsl := limbs_mono (Nat.sub_le (val l) (val l'))
   have hg := signed_ok (limbs (val l - val l')) [(iv neg l).sign] (limbs_limbs _) (by omega) (by intro x hx;simp only [List.mem_singleton] at hx;subst hx;exact g1) (by simp)
   rw [val_limbs,e1 hle] at hg
   refine W_seq ?_
   ((first | refine W_seqV ?_ | refine W_seq (W_seqV ?_) | refine W_regV ?_);intro K hK;(refine sWb ?_;try exact True.intro))
   ((repeat refine aI ?_);refine ⟨by kernel_rfl,_,.pure rfl (hc),?_⟩;(try (refine sWb ?_;try exact True.intro));(repeat refine aI ?_))
   (refine sWbX hz2 ?_;try exact True.intro)
   (repeat refine aI ?_);refine hK _ ?_;clear hK K
   (first | refine W_ct rfl ?_ | refine W_seq (W_ct rfl ?_))
   ((first | refine W_seqV ?_ | refine W_seq (W_seqV ?_) | refine W_regV ?_);intro K hK;(refine sWb ?_;try exact True.intro))
   ((repeat refine aI ?_);refine ⟨by kernel_rfl,_,.pure rfl (hsub),?_⟩;(try (refine sWb ?_;try exact True.intro));(repeat refine aI ?_))
   (repeat refine aI ?_);refine hK _ ?_;clear hK K
   ((first | refine W_seqV ?_ | refine W_seq (W_seqV ?_) | refine W_regV ?_);intro K hK;(refine sWb ?_;try exact True.intro))
   ((repeat refine aI ?_);refine ⟨by kernel_rfl,_,.pure rfl (hg),?_⟩;(try (refine sWb ?_;try exact True.intro));(repeat refine aI ?_))
   (repeat refine aI ?_);refine hK _ ?_;clear hK K
   refine W_ret ?_
   (refine qG ?_;try exact True.intro);try (refine sWbV ?_;try exact True.intro)
  ·have hz2 := sgn_ng hle
   have hsub := nsub_ok l' l h' h (by omega) (by omega)
   have hsl := limbs_mono (Nat.sub_le (val l') (val l))
   have hg := signed_ok (limbs (val l' - val l)) [(iv neg' l').sign] (limbs_limbs _) (by omega) (by intro x hx;simp only [List.mem_singleton] at hx;subst hx;exact g2) (by simp)
   rw [val_limbs,e2 (by omega)] at hg
   refine W_seq ?_
   ((first | refine W_seqV ?_ | refine W_seq (W_seqV ?_) | refine W_regV ?_);intro K hK;(refine sWb ?_;try exact True.intro))
   ((repeat refine aI ?_);refine ⟨by kernel_rfl,_,.pure rfl (hc),?_⟩;(try (refine sWb ?_;try exact True.intro));(repeat refine aI ?_))
   (refine sWbX hz2 ?_;try exact True.intro)
   (repeat refine aI ?_);refine hK _ ?_;clear hK K
   (first | refine W_cf rfl ?_ | refine W_seq (W_cf rfl ?_))
   refine W_skip ?_
   simp only [thenW]
   ((first | refine W_seqV ?_ | refine W_seq (W_seqV ?_) | refine W_regV ?_);intro K hK;(refine sWb ?_;try exact True.intro))
   ((repeat refine aI ?_);refine ⟨by kernel_rfl,_,.pure rfl (hsub),?_⟩;(try (refine sWb ?_;try exact True.intro));(repeat refine aI ?_))
   (repeat refine aI ?_);refine hK _ ?_;clear hK K
   ((first | refine W_seqV ?_ | refine W_seq (W_seqV ?_) | refine W_regV ?_);intro K hK;(refine sWb ?_;try exact True.intro))
   ((repeat refine aI ?_);refine ⟨by kernel_rfl,_,.pure rfl (hg),?_⟩;(try (refine sWb ?_;try exact True.intro));(repeat refine aI ?_))
   (repeat refine aI ?_);refine hK _ ?_;clear hK K
   refine W_ret ?_
   (refine qG ?_;try exact True.intro);try (refine sWbV ?_;try exact True.intro)
theorem wrap_u64_neg {n : Int} (h : n < 0) (h2 : -9223372036854775808 ≤ n) : IntKind.wrap .u64 (0 - IntKind.wrap .u64 n) = ((n.natAbs : Nat) : Int) := by
 unfold IntKind.wrap
 simp [IntKind.bits,IntKind.signed]
 omega
end Go.Proofs.YtjmpajgjaefcjaaGreat.Vm
namespace Go.Proofs.YtjmpajgjaefcjaaGreat.Vm
open Go Go.RowKit
set_option linter.unusedVariables false
set_option linter.unusedSimpArgs false
structure RR where
 neg : Bool
 num : List Nat
 den : List Nat
def RR.av (r : RR) : AV := .agg [.bool r.neg,.sl (u32s r.num),.sl (u32s r.den)]
def RR.v (r : RR) : Rat := mkRat (iv r.neg r.num) (val r.den)
structure RR.ok (r : RR) : Prop where
 num : Limbs r.num
 den : Limbs r.den
 nl : r.num.length < 17179869184
 dl : r.den.length < 17179869184
def qr (q : Rat) : RR := ⟨decide (q.num < 0),limbs q.num.natAbs,limbs q.den⟩
def cQ (q : Rat) : AV := .agg [.bool (decide (q.num < 0)),.sl (u32s (limbs q.num.natAbs)),.sl (u32s (limbs q.den))]
theorem qr_av (q : Rat) : (qr q).av = cQ q := rfl
theorem qr_v (q : Rat) : (qr q).v = q := by
 unfold RR.v qr
 dsimp only
 rw [iv_cZ,val_limbs,Rat.mkRat_self]
def H (q : Rat) : Nat := q.num.natAbs + q.den
def nb (q : Rat) : Nat := Nat.log2 (H q) + 1
theorem H_pos (q : Rat) : 0 < H q := by have := q.den_pos;unfold H;omega
theorem H_lt (q : Rat) : H q < 2 ^ nb q := Nat.lt_log2_self
theorem nb_le {q : Rat} {k : Nat} (h : H q < 2 ^ k) : nb q ≤ k := by
 have := (Nat.log2_lt (Nat.ne_of_gt (H_pos q))).2 h
 unfold nb;omega
theorem H_mkRat (n : Int) {d : Nat} (hd : d ≠ 0) : H (mkRat n d) ≤ n.natAbs + d := by
 unfold H
 rw [Rat.num_mkRat,Rat.den_mkRat,if_neg hd,if_neg hd]
 have h1 : (n / ((d.gcd n.natAbs : Nat) : Int)).natAbs = n.natAbs / d.gcd n.natAbs := by
  rw [Int.natAbs_ediv_of_dvd,Int.natAbs_natCast]
  rw [← Int.dvd_natAbs,Int.ofNat_dvd]
  exact Nat.gcd_dvd_right _ _
 rw [h1]
 have h2 := Nat.div_le_self n.natAbs (d.gcd n.natAbs)
 have h3 := Nat.div_le_self d (d.gcd n.natAbs)
 omega
theorem nb_of {q : Rat} {x y k l : Nat} (h : H q ≤ x * y) (hx : x < 2 ^ k) (hy : y < 2 ^ l) : nb q ≤ k + l := by
 refine nb_le (Nat.lt_of_le_of_lt h ?_)
 rw [Nat.pow_add]
 exact Nat.mul_lt_mul_of_lt_of_le hx (Nat.le_of_lt hy) (Nat.pow_pos (by omega))
theorem natAbs_add_le (a b : Int) : (a + b).natAbs ≤ a.natAbs + b.natAbs := by omega
theorem H_add (a b : Rat) : H (a + b) ≤ H a * H b := by
 rw [Rat.add_def']
 refine Nat.le_trans (H_mkRat _ (Nat.mul_ne_zero a.den_nz b.den_nz)) ?_
 have := natAbs_add_le (a.num * b.den) (b.num * a.den)
 rw [Int.natAbs_mul,Int.natAbs_mul,Int.natAbs_natCast,Int.natAbs_natCast] at this
 unfold H
 rw [Nat.add_mul,Nat.mul_add,Nat.mul_add]
 have h1 : b.num.natAbs * a.den = a.den * b.num.natAbs := Nat.mul_comm _ _
 omega
theorem nb_add (a b : Rat) : nb (a + b) ≤ nb a + nb b := nb_of (H_add a b) (H_lt a) (H_lt b)
theorem H_neg (a : Rat) : H (-a) = H a := by unfold H;simp
theorem nb_neg (a : Rat) : nb (-a) = nb a := by unfold nb;rw [H_neg]
theorem H_mul (a b : Rat) : H (a * b) ≤ H a * H b := by
 rw [Rat.mul_def']
 refine Nat.le_trans (H_mkRat _ (Nat.mul_ne_zero a.den_nz b.den_nz)) ?_
 rw [Int.natAbs_mul]
 unfold H
 rw [Nat.add_mul,Nat.mul_add,Nat.mul_add]
 omega
theorem nb_mul (a b : Rat) : nb (a * b) ≤ nb a + nb b := nb_of (H_mul a b) (H_lt a) (H_lt b)
theorem nb_zero : nb 0 = 1 := by decide
theorem nb_one : nb 1 = 2 := by decide
theorem nb_pos (q : Rat) : 1 ≤ nb q := by unfold nb;omega
theorem len_bits {n k : Nat} (h : n < 2 ^ k) : (limbs n).length ≤ k := by
 refine limbs_length_le (Nat.lt_of_lt_of_le h ?_)
 rw [show (4294967296 : Nat) = 2 ^ 32 from rfl,← Nat.pow_mul]
 exact Nat.pow_le_pow_right (by omega) (by omega)
theorem len_num (q : Rat) : (limbs q.num.natAbs).length ≤ nb q := len_bits (Nat.lt_of_le_of_lt (by unfold H;omega) (H_lt q))
theorem len_den (q : Rat) : (limbs q.den).length ≤ nb q := len_bits (Nat.lt_of_le_of_lt (by unfold H;omega) (H_lt q))
def RR.bits (r : RR) : Nat := 32 * (r.num.length + r.den.length) + 1
theorem nb_v (r : RR) (hn : Limbs r.num) (hd : Limbs r.den) : nb r.v ≤ r.bits := by
 unfold RR.v RR.bits
 by_cases h0 : val r.den = 0
 ·rw [h0,Rat.mkRat_zero,nb_zero];omega
 refine nb_le (Nat.lt_of_le_of_lt (H_mkRat _ h0) ?_)
 rw [iv_abs]
 have h1 := val_lt hn
 have h2 := val_lt hd
 rw [show (4294967296 : Nat) = 2 ^ 32 from rfl,← Nat.pow_mul] at h1 h2
 have h3 : 2 ^ (32 * r.num.length) ≤ 2 ^ (32 * (r.num.length + r.den.length)) := Nat.pow_le_pow_right (by omega) (by omega)
 have h4 : 2 ^ (32 * r.den.length) ≤ 2 ^ (32 * (r.num.length + r.den.length)) := Nat.pow_le_pow_right (by omega) (by omega)
 rw [Nat.pow_succ]
 omega
theorem qr_ok {q : Rat} (h : nb q < 17179869184) : (qr q).ok :=
 ⟨limbs_limbs _,limbs_limbs _,Nat.lt_of_le_of_lt (len_num q) h,Nat.lt_of_le_of_lt (len_den q) h⟩
theorem mk_num (neg : Bool) (n : List Nat) {d : Nat} (hd : d ≠ 0) : (mkRat (iv neg n) d).num = iv neg (limbs (val n / Nat.gcd (val n) d)) := by
 rw [Rat.num_mkRat,if_neg hd,iv_abs,Nat.gcd_comm]
 unfold iv
 rw [val_limbs]
 cases neg
 ·simp
 ·simp only [if_true]
  rw [Int.neg_ediv_of_dvd (Int.ofNat_dvd.2 (Nat.gcd_dvd_left _ _))]
  simp
theorem mk_den (neg : Bool) (n : List Nat) {d : Nat} (hd : d ≠ 0) : (mkRat (iv neg n) d).den = d / Nat.gcd (val n) d := by
 rw [Rat.den_mkRat,if_neg hd,iv_abs,Nat.gcd_comm]
theorem v_len {r : RR} (hr : r.ok) : (limbs r.v.num.natAbs).length < 17179869184 ∧ (limbs r.v.den).length < 17179869184 := by
 unfold RR.v
 by_cases h0 : val r.den = 0
 ·rw [h0,Rat.mkRat_zero]
  have : (limbs 1).length ≤ 1 := limbs_length_le (by decide)
  simp [limbs_zero]
  omega
 ·rw [mk_num _ _ h0,mk_den _ _ h0,iv_abs,val_limbs]
  have h1 := limbs_mono (Nat.div_le_self (val r.num) (Nat.gcd (val r.num) (val r.den)))
  have h2 := limbs_mono (Nat.div_le_self (val r.den) (Nat.gcd (val r.num) (val r.den)))
  have h3 := limbs_val_length hr.num
  have h4 := limbs_val_length hr.den
  have := hr.nl
  have := hr.dl
  exact ⟨by omega,by omega⟩
theorem v_ok {r : RR} (hr : r.ok) : (qr r.v).ok := ⟨limbs_limbs _,limbs_limbs _,(v_len hr).1,(v_len hr).2⟩
end Go.Proofs.YtjmpajgjaefcjaaGreat.Vm
namespace Go.Proofs.YtjmpajgjaefcjaaGreat.Vm
open Go Go.RowKit
set_option maxRecDepth 100000
set_option linter.unusedVariables false
set_option linter.unusedSimpArgs false
theorem sRa {G G' : Prop} (h : G') (e : G = G' := by conv => lhs;simp (disch := omega) only [rowsOf,cNat,cN,St.ret,St.seth,Eff.app,Eff.wi,sepL,guardOf,St.known,objOf,List.set,sliceW,litW,copyW,lenOf,bnd,mxOk,ofCells,TI.isAgg,cellsOf,storable,AV.one,dead,laid,overlay,reduceCtorEq,Int.reduceLE,Int.reduceLT,Int.reduceSub,Int.reduceAdd,Nat.reduceMul,Int.reduceToNat,Nat.reducePow,Int.reduceNeg,Nat.reduceAdd,Nat.reduceLT,Nat.reduceLeDiff,sA,sB,cZ,cI,cQ,sT]) : G := e.mpr h
theorem sRaX {G G' P : Prop} (p : P) (h : G') (e : P → G = G' := by intro p;conv => lhs;simp (disch := omega) only [rowsOf,cNat,cN,St.ret,St.seth,Eff.app,Eff.wi,sepL,guardOf,St.known,objOf,List.set,sliceW,litW,copyW,lenOf,bnd,mxOk,ofCells,TI.isAgg,cellsOf,storable,AV.one,dead,laid,overlay,reduceCtorEq,Int.reduceLE,Int.reduceLT,Int.reduceSub,Int.reduceAdd,Nat.reduceMul,Int.reduceToNat,Nat.reducePow,Int.reduceNeg,Nat.reduceAdd,Nat.reduceLT,Nat.reduceLeDiff,sA,sB,cZ,cI,cQ,sT,p]) : G := (e p).mpr h
theorem sRaV {G G' : Prop} (h : G') (e : G = G' := by conv => lhs;simp (disch := omega) only [rowsOf,cNat,cN,St.ret,St.seth,Eff.app,Eff.wi,sepL,guardOf,St.known,objOf,List.set,sliceW,litW,copyW,lenOf,bnd,mxOk,ofCells,TI.isAgg,cellsOf,storable,AV.one,dead,laid,overlay,reduceCtorEq,Int.reduceLE,Int.reduceLT,Int.reduceSub,Int.reduceAdd,Nat.reduceMul,Int.reduceToNat,Nat.reducePow,Int.reduceNeg,Nat.reduceAdd,Nat.reduceLT,Nat.reduceLeDiff,sA,sB,cZ,cI,cQ,sT,view_sref,viewRef,view_agg,views_cons,views_nil,view_bool,view_int,view_sl,view_nils,view_str,view_tup,view_nilif]) : G := e.mpr h
theorem aRa {G G' : Prop} (h : G') (f : Wr G' → G := by intro h;(repeat (first|(refine W_seqV fun K hK => ?_;(try (refine sRa ?_;try exact True.intro));(repeat refine aI ?_);refine hK _ ?_;clear hK K)|(refine W_seqR fun K hK => ?_;(try (refine sRa ?_;try exact True.intro));(repeat refine aI ?_);refine hK _ ?_;clear hK K)|(refine W_seqD mixed [] (by kernel_rfl) fun K hK => ?_;(try (refine sRa ?_;try exact True.intro));(repeat refine aI ?_);refine hK _ ?_;clear hK K)));exact h.out) : G := f ⟨h⟩
set_option maxHeartbeats 4000000 in
theorem rmade_ok (neg : Bool) (n d : List Nat) (hn : Limbs n) (hd : Limbs d) (h1 : n.length < 274877906944) (h2 : d.length < 274877906944) (h0 : val d ≠ 0) :
  Pure Tryz.prog 165 [cI neg n,cNat d] (· = cQ (mkRat (iv neg n) (val d))) := by
 have hg := ngcd_ok n d hn hd h1 h2
 have hnl := limbs_val_length hn
 have hdl := limbs_val_length hd
 have hgd : Nat.gcd (val n) (val d) ≠ 0 := fun h => h0 (Nat.gcd_eq_zero_iff.1 h).2
 have hgl := limbs_mono (Nat.le_of_dvd (Nat.pos_of_ne_zero h0) (Nat.gcd_dvd_right (val n) (val d)))
 have hd1 := ndiv_ok n (limbs (Nat.gcd (val n) (val d))) hn (limbs_limbs _) h1 (by omega)
 have hd2 := ndiv_ok d (limbs (Nat.gcd (val n) (val d))) hd (limbs_limbs _) h2 (by omega)
 rw [val_limbs,divR,if_neg hgd] at hd1 hd2
 have hq1 := limbs_mono (Nat.div_le_self (val n) (Nat.gcd (val n) (val d)))
 have hw := wnorm_ok neg (limbs (val n / Nat.gcd (val n) (val d))) (limbs_limbs _) (by omega)
 rw [← mk_num neg n h0] at hw
 have hden := mk_den neg n h0
 generalize mkRat (iv neg n) (val d) = q at *
 (refine pureW Tryz.func165 rfl (rs := [Go.ResultVar.cell 4 53]) rfl (n := 38) rfl ?_;simp only [List.length_cons,List.length_nil,List.replicate,List.cons_append,List.nil_append])
 unfold cI
 (refine aRa ?_)
 ((first | refine W_seqV ?_ | refine W_seq (W_seqV ?_) | refine W_regV ?_);intro K hK;(refine sRa ?_;try exact True.intro))
 ((repeat refine aI ?_);refine ⟨by kernel_rfl,_,.pure rfl (hg),?_⟩;(try (refine sRa ?_;try exact True.intro));(repeat refine aI ?_))
 (repeat refine aI ?_);refine hK _ ?_;clear hK K
 ((first | refine W_seqV ?_ | refine W_seq (W_seqV ?_) | refine W_regV ?_);intro K hK;(refine sRa ?_;try exact True.intro))
 ((repeat refine aI ?_);refine ⟨by kernel_rfl,_,.pure rfl (hd1),?_⟩;(try (refine sRa ?_;try exact True.intro));(repeat refine aI ?_))
 (repeat refine aI ?_);refine hK _ ?_;clear hK K
 ((first | refine W_seqV ?_ | refine W_seq (W_seqV ?_) | refine W_regV ?_);intro K hK;(refine sRa ?_;try exact True.intro))
 ((repeat refine aI ?_);refine ⟨by kernel_rfl,_,.pure rfl (hd2),?_⟩;(try (refine sRa ?_;try exact True.intro));(repeat refine aI ?_))
 (repeat refine aI ?_);refine hK _ ?_;clear hK K
 ((first | refine W_seqV ?_ | refine W_seq (W_seqV ?_) | refine W_regV ?_);intro K hK;(refine sRa ?_;try exact True.intro))
 ((repeat refine aI ?_);refine ⟨by kernel_rfl,_,.pure rfl (hw),?_⟩;(try (refine sRa ?_;try exact True.intro));(repeat refine aI ?_))
 (repeat refine aI ?_);refine hK _ ?_;clear hK K
 refine W_ret ?_
 (refine qG ?_;try exact True.intro);try (refine sRaV ?_;try exact True.intro)
 rw [hden]
theorem bits_pos {l : List Nat} (h : Limbs l) (h1 : l.length < 549755813888) (h0 : val l ≠ 0) : ∃ k : Nat,k ≠ 0 ∧ Pure Tryz.prog 164 [cNat l] (· = .int .i64 k) := by
 have hb := bits_ok l h h1
 rw [if_neg h0] at hb
 refine ⟨_,?_,hb⟩
 have h2 : blen ((limbs (val l)).getD ((limbs (val l)).length - 1) 0) ≠ 0 := by
  intro h3
  have := (blen_spec ((limbs (val l)).getD ((limbs (val l)).length - 1) 0)).1
  rw [h3] at this
  have := limbs_top h0
  omega
 omega
theorem limbs_1 : limbs 1 = [1] := by rw [limbs_pos (by decide)];simp [limbs_zero]
theorem iz {k : Nat} (h : k ≠ 0) : (((k : Nat) : Int) == 0) = false := by rw [beq_eq_false_iff_ne];omega
set_option maxHeartbeats 4000000 in
theorem rnorm_ok (r : RR) (hr : r.ok) : Pure Tryz.prog 127 [r.av] (· = cQ r.v) := by
 obtain ⟨neg,n,d⟩ := r
 obtain ⟨hn,hd,h1,h2⟩ := hr
 dsimp only at hn hd h1 h2
 have hb := bits_ok d hd (by omega)
 simp only [RR.av,RR.v]
 by_cases h0 : val d = 0
 ·rw [h0,Rat.mkRat_zero]
  rw [if_pos h0] at hb
  (refine pureW Tryz.func127 rfl (rs := [Go.ResultVar.cell 2 53]) rfl (n := 14) rfl ?_;simp only [List.length_cons,List.length_nil,List.replicate,List.cons_append,List.nil_append])
  (refine aRa ?_)
  refine W_seq ?_
  ((first | refine W_seqV ?_ | refine W_seq (W_seqV ?_) | refine W_regV ?_);intro K hK;(refine sRa ?_;try exact True.intro))
  ((repeat refine aI ?_);refine ⟨by kernel_rfl,_,.pure rfl (hb),?_⟩;(try (refine sRa ?_;try exact True.intro));(repeat refine aI ?_))
  (repeat refine aI ?_);refine hK _ ?_;clear hK K
  (repeat' (first|(exfalso;simp at h;done)|refine W_block ?_ |((first|refine W_seqV fun K hK => ?_|refine W_regV fun K hK => ?_);(try (refine sRa ?_;try exact True.intro));(repeat refine aI ?_);refine hK _ ?_;clear hK K)|((first|refine W_seqR fun K hK => ?_|refine W_regR fun K hK => ?_);(try (refine sRa ?_;try exact True.intro));(repeat refine aI ?_);refine hK _ ?_;clear hK K)|((first|refine W_seqD mixed [] (by kernel_rfl) fun K hK => ?_|refine W_regD mixed [] (by kernel_rfl) fun K hK => ?_);(try (refine sRa ?_;try exact True.intro));(repeat refine aI ?_);refine hK _ ?_;clear hK K)|refine W_skip ?_|(refine W_ret ?_;(refine qG ?_;try exact True.intro))|(refine W_exit ?_;simp only [thenW,blockW,if_true,reduceCtorEq,if_false,Nat.reduceEqDiff])|(refine W_cond rfl (fun h => ?_) (fun h => ?_) <;> (try simp only [cond_true,cond_false,ne_eq,cB] at h))|refine W_seq ?_))
  (try (refine sRaV ?_;try exact True.intro))
  simp [cQ,limbs_zero,u32s,limbs_1]
 ·have hm := rmade_ok neg n d hn hd (by omega) (by omega) h0
  obtain ⟨k,hk,hb⟩ := bits_pos hd (by omega) h0
  have hz := iz hk
  (refine pureW Tryz.func127 rfl (rs := [Go.ResultVar.cell 2 53]) rfl (n := 14) rfl ?_;simp only [List.length_cons,List.length_nil,List.replicate,List.cons_append,List.nil_append])
  (refine aRa ?_)
  refine W_seq ?_
  ((first | refine W_seqV ?_ | refine W_seq (W_seqV ?_) | refine W_regV ?_);intro K hK;(refine sRa ?_;try exact True.intro))
  ((repeat refine aI ?_);refine ⟨by kernel_rfl,_,.pure rfl (hb),?_⟩;(try (refine sRa ?_;try exact True.intro));(repeat refine aI ?_))
  (refine sRaX hz ?_;try exact True.intro)
  (repeat refine aI ?_);refine hK _ ?_;clear hK K
  (first | refine W_cf rfl ?_ | refine W_seq (W_cf rfl ?_))
  refine W_skip ?_
  simp only [thenW]
  ((first | refine W_seqV ?_ | refine W_seq (W_seqV ?_) | refine W_regV ?_);intro K hK;(refine sRa ?_;try exact True.intro))
  ((repeat refine aI ?_);refine ⟨by kernel_rfl,_,.pure rfl (hm),?_⟩;(try (refine sRa ?_;try exact True.intro));(repeat refine aI ?_))
  (repeat refine aI ?_);refine hK _ ?_;clear hK K
  refine W_ret ?_
  (refine qG ?_;try exact True.intro);try (refine sRaV ?_;try exact True.intro)
theorem q_num (q : Rat) : iv (decide (q.num < 0)) (limbs q.num.natAbs) = q.num := iv_cZ _
theorem sgnq (q : Rat) (h : (qr q).ok) : Pure Tryz.prog 126 [cI (decide (q.num < 0)) (limbs q.num.natAbs)] (· = .int .i64 q.num.sign) := by
 have := wsign_ok (decide (q.num < 0)) (limbs q.num.natAbs) (limbs_limbs _) (Nat.lt_trans h.nl (by decide))
 rwa [q_num] at this
theorem den_iv (q : Rat) : iv false (limbs q.den) = q.den := by simp [iv,val_limbs]
set_option maxHeartbeats 4000000 in
theorem rsign_ok (r : RR) (hr : r.ok) : Pure Tryz.prog 88 [r.av] (· = .int .i64 r.v.num.sign) := by
 have hn := rnorm_ok r hr
 have hs := sgnq r.v (v_ok hr)
 obtain ⟨neg,n,d⟩ := r
 simp only [RR.av] at hn ⊢
 generalize RR.v _ = q at *
 simp only [cQ] at hn
 (refine pureW Tryz.func88 rfl (rs := [Go.ResultVar.tmp 2]) rfl (n := 7) rfl ?_;simp only [List.length_cons,List.length_nil,List.replicate,List.cons_append,List.nil_append])
 (refine aRa ?_)
 ((first | refine W_seqV ?_ | refine W_seq (W_seqV ?_) | refine W_regV ?_);intro K hK;(refine sRa ?_;try exact True.intro))
 ((repeat refine aI ?_);refine ⟨by kernel_rfl,_,.pure rfl (hn),?_⟩;(try (refine sRa ?_;try exact True.intro));(repeat refine aI ?_))
 ((repeat refine aI ?_);refine ⟨by kernel_rfl,_,.pure rfl (hs),?_⟩;(try (refine sRa ?_;try exact True.intro));(repeat refine aI ?_))
 (repeat refine aI ?_);refine hK _ ?_;clear hK K
 refine W_ret ?_
 (refine qG ?_;try exact True.intro);try (refine sRaV ?_;try exact True.intro)
theorem sRb {G G' : Prop} (h : G') (e : G = G' := by conv => lhs;simp (disch := omega) only [rowsOf,cNat,cN,St.ret,St.seth,Eff.app,Eff.wi,sepL,guardOf,St.known,objOf,List.set,sliceW,litW,copyW,lenOf,bnd,mxOk,ofCells,TI.isAgg,cellsOf,storable,AV.one,dead,laid,overlay,reduceCtorEq,Int.reduceLE,Int.reduceLT,Int.reduceSub,Int.reduceAdd,Nat.reduceMul,Int.reduceToNat,Nat.reducePow,Int.reduceNeg,Nat.reduceAdd,Nat.reduceLT,Nat.reduceLeDiff,sA,sB,cZ,cI,cQ,sT]) : G := e.mpr h
theorem sRbV {G G' : Prop} (h : G') (e : G = G' := by conv => lhs;simp (disch := omega) only [rowsOf,cNat,cN,St.ret,St.seth,Eff.app,Eff.wi,sepL,guardOf,St.known,objOf,List.set,sliceW,litW,copyW,lenOf,bnd,mxOk,ofCells,TI.isAgg,cellsOf,storable,AV.one,dead,laid,overlay,reduceCtorEq,Int.reduceLE,Int.reduceLT,Int.reduceSub,Int.reduceAdd,Nat.reduceMul,Int.reduceToNat,Nat.reducePow,Int.reduceNeg,Nat.reduceAdd,Nat.reduceLT,Nat.reduceLeDiff,sA,sB,cZ,cI,cQ,sT,view_sref,viewRef,view_agg,views_cons,views_nil,view_bool,view_int,view_sl,view_nils,view_str,view_tup,view_nilif]) : G := e.mpr h
def rs (q : Rat) : Int := q.num.sign
theorem mkRat_iv (z : Int) (d : Nat) : mkRat (iv (decide (z < 0)) (limbs z.natAbs)) (val (limbs d)) = mkRat z d := by rw [iv_cZ,val_limbs]
theorem mul_qq (a b : Rat) (ha : (qr a).ok) (hb : (qr b).ok) : Pure Tryz.prog 167 [cI (decide (a.num < 0)) (limbs a.num.natAbs),cI (decide (b.num < 0)) (limbs b.num.natAbs)] (· = cZ (a.num * b.num)) := by
 have := wmul_ok (decide (a.num < 0)) (limbs a.num.natAbs) (limbs_limbs _) (Nat.lt_trans ha.nl (by decide)) (decide (b.num < 0)) (limbs b.num.natAbs) (limbs_limbs _) (Nat.lt_trans hb.nl (by decide))
 rwa [q_num,q_num] at this
theorem mul_qd (a b : Rat) (ha : (qr a).ok) (hb : (qr b).ok) : Pure Tryz.prog 167 [cI (decide (a.num < 0)) (limbs a.num.natAbs),cI false (limbs b.den)] (· = cZ (a.num * b.den)) := by
 have := wmul_ok (decide (a.num < 0)) (limbs a.num.natAbs) (limbs_limbs _) (Nat.lt_trans ha.nl (by decide)) false (limbs b.den) (limbs_limbs _) (Nat.lt_trans hb.dl (by decide))
 rwa [q_num,den_iv] at this
theorem zl_qd (a b : Rat) (ha : (qr a).ok) (hb : (qr b).ok) : zl (a.num * b.den) < 34359738368 := by
 have h1 := zl_mul a.num b.den
 have h2 : zl a.num < 17179869184 := ha.nl
 have h3 : zl (b.den : Int) < 17179869184 := hb.dl
 omega
theorem dd_ok (a b : Rat) (ha : (qr a).ok) (hb : (qr b).ok) : Pure Tryz.prog 168 [cNat (limbs a.den),cNat (limbs b.den)] (· = cN (a.den * b.den)) := by
 have := nmul_ok (limbs a.den) (limbs b.den) (limbs_limbs _) (limbs_limbs _) (Nat.lt_trans ha.dl (by decide)) (Nat.lt_trans hb.dl (by decide))
 rwa [val_limbs,val_limbs] at this
theorem dd_len (a b : Rat) (ha : (qr a).ok) (hb : (qr b).ok) : (limbs (a.den * b.den)).length < 34359738368 := by
 have h1 := len_mul a.den b.den
 have h2 : (limbs a.den).length < 17179869184 := ha.dl
 have h3 : (limbs b.den).length < 17179869184 := hb.dl
 omega
theorem made_zd (z : Int) (d : Nat) (hz : zl z < 274877906944) (hd : (limbs d).length < 274877906944) (h0 : d ≠ 0) :
  Pure Tryz.prog 165 [cI (decide (z < 0)) (limbs z.natAbs),cNat (limbs d)] (· = cQ (mkRat z d)) := by
 have := rmade_ok (decide (z < 0)) (limbs z.natAbs) (limbs d) (limbs_limbs _) (limbs_limbs _) hz hd (by rw [val_limbs];exact h0)
 rwa [mkRat_iv] at this
set_option maxHeartbeats 4000000 in
theorem radd_ok (r t : RR) (hr : r.ok) (ht : t.ok) : Pure Tryz.prog 128 [r.av,t.av] (· = cQ (r.v + t.v)) := by
 have hn := rnorm_ok r hr
 have hm := rnorm_ok t ht
 have ho := v_ok hr
 have hp := v_ok ht
 obtain ⟨neg,n,d⟩ := r
 obtain ⟨neg',n',d'⟩ := t
 simp only [RR.av] at hn hm ⊢
 generalize RR.v _ = q at *
 generalize RR.v _ = p at *
 have h1 := mul_qd q p ho hp
 have h2 := mul_qd p q hp ho
 have z1 := zl_qd q p ho hp
 have z2 := zl_qd p q hp ho
 have hc := wadd_ok (decide (q.num * p.den < 0)) (limbs (q.num * p.den).natAbs) (limbs_limbs _) (Nat.lt_trans z1 (by decide)) (decide (p.num * q.den < 0)) (limbs (p.num * q.den).natAbs) (limbs_limbs _) (Nat.lt_trans z2 (by decide))
 rw [iv_cZ,iv_cZ] at hc
 have z3 := zl_add (q.num * p.den) (p.num * q.den)
 have hd := dd_ok q p ho hp
 have hl := dd_len q p ho hp
 have hmd := made_zd (q.num * p.den + p.num * q.den) (q.den * p.den) (by omega) (by omega) (Nat.mul_ne_zero q.den_nz p.den_nz)
 rw [← Rat.add_def'] at hmd
 simp only [cQ] at hn hm
 (refine pureW Tryz.func128 rfl (rs := [Go.ResultVar.cell 4 53]) rfl (n := 30) rfl ?_;simp only [List.length_cons,List.length_nil,List.replicate,List.cons_append,List.nil_append])
 ((first | refine W_seqV ?_ | refine W_seq (W_seqV ?_) | refine W_regV ?_);intro K hK;(refine sRb ?_;try exact True.intro))
 (repeat refine aI ?_);refine hK _ ?_;clear hK K
 ((first | refine W_seqD mixed [(2,4)] (by kernel_rfl) ?_ | refine W_seq (W_seqD mixed [(2,4)] (by kernel_rfl) ?_) | refine W_regD mixed [(2,4)] (by kernel_rfl) ?_);intro K hK;(refine sRb ?_;try exact True.intro))
 ((repeat refine aI ?_);refine ⟨by kernel_rfl,_,.pure rfl (hn),?_⟩;(try (refine sRb ?_;try exact True.intro));(repeat refine aI ?_))
 ((repeat refine aI ?_);refine ⟨by kernel_rfl,_,.pure rfl (hm),?_⟩;(try (refine sRb ?_;try exact True.intro));(repeat refine aI ?_))
 (repeat refine aI ?_);refine hK _ ?_;clear hK K
 ((first | refine W_seqD mixed [(1,13),(3,13),(7,13),(9,13)] (by kernel_rfl) ?_ | refine W_seq (W_seqD mixed [(1,13),(3,13),(7,13),(9,13)] (by kernel_rfl) ?_) | refine W_regD mixed [(1,13),(3,13),(7,13),(9,13)] (by kernel_rfl) ?_);intro K hK;(refine sRb ?_;try exact True.intro))
 ((repeat refine aI ?_);refine ⟨by kernel_rfl,_,.pure rfl (h1),?_⟩;(try (refine sRb ?_;try exact True.intro));(repeat refine aI ?_))
 ((repeat refine aI ?_);refine ⟨by kernel_rfl,_,.pure rfl (h2),?_⟩;(try (refine sRb ?_;try exact True.intro));(repeat refine aI ?_))
 ((repeat refine aI ?_);refine ⟨by kernel_rfl,_,.pure rfl (hc),?_⟩;(try (refine sRb ?_;try exact True.intro));(repeat refine aI ?_))
 (repeat refine aI ?_);refine hK _ ?_;clear hK K
 ((first | refine W_seqD mixed [] (by kernel_rfl) ?_ | refine W_seq (W_seqD mixed [] (by kernel_rfl) ?_) | refine W_regD mixed [] (by kernel_rfl) ?_);intro K hK;(refine sRb ?_;try exact True.intro))
 ((repeat refine aI ?_);refine ⟨by kernel_rfl,_,.pure rfl (hd),?_⟩;(try (refine sRb ?_;try exact True.intro));(repeat refine aI ?_))
 ((repeat refine aI ?_);refine ⟨by kernel_rfl,_,.pure rfl (hmd),?_⟩;(try (refine sRb ?_;try exact True.intro));(repeat refine aI ?_))
 (repeat refine aI ?_);refine hK _ ?_;clear hK K
 refine W_ret ?_
 (refine qG ?_;try exact True.intro);try (refine sRbV ?_;try exact True.intro)
set_option maxHeartbeats 4000000 in
theorem rmul_ok (r t : RR) (hr : r.ok) (ht : t.ok) : Pure Tryz.prog 169 [r.av,t.av] (· = cQ (r.v * t.v)) := by
 have hn := rnorm_ok r hr
 have hm := rnorm_ok t ht
 have ho := v_ok hr
 have hp := v_ok ht
 obtain ⟨neg,n,d⟩ := r
 obtain ⟨neg',n',d'⟩ := t
 simp only [RR.av] at hn hm ⊢
 generalize RR.v _ = q at *
 generalize RR.v _ = p at *
 have h1 := mul_qq q p ho hp
 have z1 : zl (q.num * p.num) < 34359738368 := by
  have h1 := zl_mul q.num p.num
  have h2 : zl q.num < 17179869184 := ho.nl
  have h3 : zl p.num < 17179869184 := hp.nl
  omega
 have hd := dd_ok q p ho hp
 have hl := dd_len q p ho hp
 have hmd := made_zd (q.num * p.num) (q.den * p.den) (by omega) (by omega) (Nat.mul_ne_zero q.den_nz p.den_nz)
 rw [← Rat.mul_def'] at hmd
 simp only [cQ] at hn hm
 (refine pureW Tryz.func169 rfl (rs := [Go.ResultVar.cell 4 53]) rfl (n := 20) rfl ?_;simp only [List.length_cons,List.length_nil,List.replicate,List.cons_append,List.nil_append])
 ((first | refine W_seqV ?_ | refine W_seq (W_seqV ?_) | refine W_regV ?_);intro K hK;(refine sRb ?_;try exact True.intro))
 (repeat refine aI ?_);refine hK _ ?_;clear hK K
 ((first | refine W_seqD mixed [(2,4)] (by kernel_rfl) ?_ | refine W_seq (W_seqD mixed [(2,4)] (by kernel_rfl) ?_) | refine W_regD mixed [(2,4)] (by kernel_rfl) ?_);intro K hK;(refine sRb ?_;try exact True.intro))
 ((repeat refine aI ?_);refine ⟨by kernel_rfl,_,.pure rfl (hn),?_⟩;(try (refine sRb ?_;try exact True.intro));(repeat refine aI ?_))
 ((repeat refine aI ?_);refine ⟨by kernel_rfl,_,.pure rfl (hm),?_⟩;(try (refine sRb ?_;try exact True.intro));(repeat refine aI ?_))
 (repeat refine aI ?_);refine hK _ ?_;clear hK K
 ((first | refine W_seqD mixed [] (by kernel_rfl) ?_ | refine W_seq (W_seqD mixed [] (by kernel_rfl) ?_) | refine W_regD mixed [] (by kernel_rfl) ?_);intro K hK;(refine sRb ?_;try exact True.intro))
 ((repeat refine aI ?_);refine ⟨by kernel_rfl,_,.pure rfl (h1),?_⟩;(try (refine sRb ?_;try exact True.intro));(repeat refine aI ?_))
 ((repeat refine aI ?_);refine ⟨by kernel_rfl,_,.pure rfl (hd),?_⟩;(try (refine sRb ?_;try exact True.intro));(repeat refine aI ?_))
 ((repeat refine aI ?_);refine ⟨by kernel_rfl,_,.pure rfl (hmd),?_⟩;(try (refine sRb ?_;try exact True.intro));(repeat refine aI ?_))
 (repeat refine aI ?_);refine hK _ ?_;clear hK K
 refine W_ret ?_
 (refine qG ?_;try exact True.intro);try (refine sRbV ?_;try exact True.intro)
def noQ : AV := .tup [.agg [.bool false,.sl [],.sl []],.int .i64 11]
def cQE (q : Rat) : AV := .tup [cQ q,.int .i64 0]
end Go.Proofs.YtjmpajgjaefcjaaGreat.Vm
namespace Go.Proofs.YtjmpajgjaefcjaaGreat.Vm
open Go Go.RowKit
set_option linter.unusedVariables false
set_option linter.unusedSimpArgs false
def tab {α : Type} (enc : α → List AV) (l : List α) : List (List AV) := l.map enc
section
variable {α : Type} {enc : α → List AV}
theorem tab_length (l : List α) : (tab enc l).length = l.length := by simp [tab]
theorem tab_getD [Inhabited α] {l : List α} {i : Nat} (h : i < l.length) : (tab enc l).getD i [] = enc (l.getD i default) := by simp [tab,List.getD_eq_getElem?_getD,h]
theorem tab_take (l : List α) (n : Nat) : (tab enc l).take n = tab enc (l.take n) := by simp [tab,List.map_take]
theorem tab_drop (l : List α) (n : Nat) : (tab enc l).drop n = tab enc (l.drop n) := by simp [tab,List.map_drop]
theorem tab_append (l m : List α) : tab enc l ++ tab enc m = tab enc (l ++ m) := by simp [tab]
theorem tab_nil : tab enc [] = [] := rfl
theorem tab_snoc (l : List α) (x : α) : tab enc l ++ [enc x] = tab enc (l ++ [x]) := by simp [tab]
theorem tab_set (l : List α) (n : Nat) (x : α) : (tab enc l).set n (enc x) = tab enc (l.set n x) := by simp [tab,List.map_set]
theorem tab_all {k : Nat} (h : ∀ x,(enc x).length = k) (l : List α) : AllLen k (tab enc l) := by
 intro r hr
 simp only [tab,List.mem_map] at hr
 obtain ⟨x,_,rfl⟩ := hr
 exact h x
theorem tab_one (h : ∀ x,(enc x).all AV.one = true) (l : List α) : AllOne (tab enc l) := by
 intro r hr
 simp only [tab,List.mem_map] at hr
 obtain ⟨x,_,rfl⟩ := hr
 exact h x
theorem tab_pure (h : ∀ x,AV.pures (enc x) = true) (l : List α) : AllPure (tab enc l) := by
 intro r hr
 simp only [tab,List.mem_map] at hr
 obtain ⟨x,_,rfl⟩ := hr
 exact h x
end
theorem pos_succ {n : Nat} : (0 < n + 1) = True := by simp
theorem drop_one {α : Type} {x : α} {l : List α} : (x::l).drop 1 = l := rfl
theorem tab_getD_zero {α : Type} {enc : α → List AV} {x : α} {l : List α} : (tab enc (x::l)).getD 0 [] = enc x := rfl
theorem tab_cons {α : Type} {enc : α → List AV} {x : α} {l : List α} : tab enc (x::l) = enc x::tab enc l := rfl
instance : Inhabited RR := ⟨⟨false,[],[]⟩⟩
def rowM (p : Int × RR) : List AV := [.int .i64 p.1,.bool p.2.neg,.sl (u32s p.2.num),.sl (u32s p.2.den)]
def rowQ (p : Int × Rat) : List AV := [.int .i64 p.1,.bool (decide (p.2.num < 0)),.sl (u32s (limbs p.2.num.natAbs)),.sl (u32s (limbs p.2.den))]
def cF (f : List (Int × RR)) : AV := .sl (tab rowM f)
def cL (l : List (Int × Rat)) : AV := .sl (tab rowQ l)
def rf (l : List (Int × Rat)) : List (Int × RR) := l.map fun p => (p.1,qr p.2)
def vals (f : List (Int × RR)) : List (Int × Rat) := f.map fun p => (p.1,p.2.v)
theorem vals_rf (l : List (Int × Rat)) : vals (rf l) = l := by
 simp only [vals,rf,List.map_map]
 conv => rhs;rw [← List.map_id l]
 refine List.map_congr_left fun p _ => ?_
 simp [qr_v]
theorem tab_rf (l : List (Int × Rat)) : tab rowM (rf l) = tab rowQ l := by
 simp only [tab,rf,List.map_map];rfl
theorem cF_rf (l : List (Int × Rat)) : cF (rf l) = cL l := by rw [cF,tab_rf];rfl
theorem rowM_all (f : List (Int × RR)) : AllLen 4 (tab rowM f) := tab_all (k := 4) (fun _ => rfl) f
theorem rowQ_all (f : List (Int × Rat)) : AllLen 4 (tab rowQ f) := tab_all (k := 4) (fun _ => rfl) f
theorem rowM_one (f : List (Int × RR)) : AllOne (tab rowM f) := tab_one (fun _ => rfl) f
theorem rowQ_one (f : List (Int × Rat)) : AllOne (tab rowQ f) := tab_one (fun _ => rfl) f
theorem rowM_pure (f : List (Int × RR)) : AllPure (tab rowM f) := tab_pure (fun _ => rfl) f
theorem rowQ_pure (f : List (Int × Rat)) : AllPure (tab rowQ f) := tab_pure (fun _ => rfl) f
def coef : List (Int × Rat) → Int → Rat
 | [],_ => 0
 | p::l,v => (if p.1 = v then p.2 else 0) + coef l v
theorem coef_append (f g : List (Int × Rat)) (v : Int) : coef (f ++ g) v = coef f v + coef g v := by
 induction f with
 | nil => simp [coef,Rat.zero_add]
 | cons p f ih => simp only [List.cons_append,coef,ih,Rat.add_assoc]
def nbv : List (Int × Rat) → Int → Nat
 | [],_ => 0
 | p::l,v => (if p.1 = v then nb p.2 else 0) + nbv l v
theorem nbv_append (f g : List (Int × Rat)) (v : Int) : nbv (f ++ g) v = nbv f v + nbv g v := by
 induction f with
 | nil => simp [nbv]
 | cons p f ih => simp only [List.cons_append,nbv,ih];omega
theorem nbv_mem {l : List (Int × Rat)} {p : Int × Rat} (h : p ∈ l) : nb p.2 ≤ nbv l p.1 := by
 induction l with
 | nil => cases h
 | cons q l ih =>
  simp only [nbv]
  rcases List.mem_cons.1 h with rfl | h
  ·simp
  ·have := ih h;omega
structure Sz (l : List (Int × Rat)) (B : Nat) : Prop where
 b : ∀ v,nbv l v ≤ B
 l : l.length ≤ B
theorem Sz.mem {l : List (Int × Rat)} {B : Nat} (h : Sz l B) {p : Int × Rat} (hp : p ∈ l) : nb p.2 ≤ B := Nat.le_trans (nbv_mem hp) (h.b _)
theorem Sz.mono {l : List (Int × Rat)} {B C : Nat} (h : Sz l B) (hc : B ≤ C) : Sz l C := ⟨fun v => Nat.le_trans (h.b v) hc,Nat.le_trans h.l hc⟩
theorem Sz.append {f g : List (Int × Rat)} {B C : Nat} (hf : Sz f B) (hg : Sz g C) : Sz (f ++ g) (B + C) :=
 ⟨fun v => by rw [nbv_append];have := hf.b v;have := hg.b v;omega,by rw [List.length_append];have := hf.l;have := hg.l;omega⟩
theorem Sz.left {f g : List (Int × Rat)} {B : Nat} (h : Sz (f ++ g) B) : Sz f B :=
 ⟨fun v => by have := h.b v;rw [nbv_append] at this;omega,by have := h.l;rw [List.length_append] at this;omega⟩
theorem Sz.right {f g : List (Int × Rat)} {B : Nat} (h : Sz (f ++ g) B) : Sz g B :=
 ⟨fun v => by have := h.b v;rw [nbv_append] at this;omega,by have := h.l;rw [List.length_append] at this;omega⟩
structure NF (l : List (Int × Rat)) : Prop where
 lt : l.Pairwise fun p q => p.1 < q.1
 nz : ∀ p ∈ l,p.2 ≠ 0
theorem NF.nil : NF [] := ⟨List.Pairwise.nil,fun _ h => by cases h⟩
theorem NF.tail {p : Int × Rat} {l : List (Int × Rat)} (h : NF (p::l)) : NF l := ⟨(List.pairwise_cons.1 h.lt).2,fun q hq => h.nz q (List.mem_cons_of_mem _ hq)⟩
theorem NF.cons {p : Int × Rat} {l : List (Int × Rat)} (h : NF l) (h0 : p.2 ≠ 0) (hl : ∀ q ∈ l,p.1 < q.1) : NF (p::l) :=
 ⟨List.pairwise_cons.2 ⟨hl,h.lt⟩,fun q hq => by rcases List.mem_cons.1 hq with rfl | hq;exact h0;exact h.nz q hq⟩
theorem NF.head {p : Int × Rat} {l : List (Int × Rat)} (h : NF (p::l)) : ∀ q ∈ l,p.1 < q.1 := (List.pairwise_cons.1 h.lt).1
theorem coef_none {l : List (Int × Rat)} {v : Int} (h : ∀ p ∈ l,p.1 ≠ v) : coef l v = 0 := by
 induction l with
 | nil => rfl
 | cons p l ih => rw [coef,if_neg (h p List.mem_cons_self),ih fun q hq => h q (List.mem_cons_of_mem _ hq),Rat.zero_add]
theorem NF.coef_head {p : Int × Rat} {l : List (Int × Rat)} (h : NF (p::l)) : coef (p::l) p.1 = p.2 := by
 rw [coef,if_pos rfl,coef_none fun q hq => by have := h.head q hq;omega,Rat.add_zero]
theorem NF.coef_lt {p : Int × Rat} {l : List (Int × Rat)} (h : NF (p::l)) {v : Int} (hv : v < p.1) : coef (p::l) v = 0 :=
 coef_none fun q hq => by
  rcases List.mem_cons.1 hq with rfl | hq
  ·omega
  ·have := h.head q hq;omega
theorem NF.coef_tail {p : Int × Rat} {l : List (Int × Rat)} (h : NF (p::l)) (v : Int) : coef l v = if p.1 = v then 0 else coef (p::l) v := by
 split
 ·rename_i hv;subst hv;exact coef_none fun q hq => by have := h.head q hq;omega
 ·rename_i hv;rw [coef,if_neg hv,Rat.zero_add]
theorem NF.ext : ∀ {f g : List (Int × Rat)},NF f → NF g → (∀ v,coef f v = coef g v) → f = g
 | [],[],_,_,_ => rfl
 | [],q::g,_,hg,h => by
  have := h q.1
  rw [hg.coef_head] at this
  exact absurd this.symm (hg.nz q List.mem_cons_self)
 | p::f,[],hf,_,h => by
  have := h p.1
  rw [hf.coef_head] at this
  exact absurd this (hf.nz p List.mem_cons_self)
 | p::f,q::g,hf,hg,h => by
  have h1 : p.1 = q.1 := by
   rcases Int.lt_trichotomy p.1 q.1 with hlt | he | hlt
   ·have := h p.1
    rw [hf.coef_head,hg.coef_lt hlt] at this
    exact absurd this (hf.nz p List.mem_cons_self)
   ·exact he
   ·have := h q.1
    rw [hg.coef_head,hf.coef_lt hlt] at this
    exact absurd this.symm (hg.nz q List.mem_cons_self)
  have h2 : p.2 = q.2 := by
   have := h p.1
   rwa [hf.coef_head,h1,hg.coef_head] at this
  have h3 : f = g := NF.ext hf.tail hg.tail fun v => by rw [hf.coef_tail,hg.coef_tail,h1,h v]
  rw [h3,show p = q from Prod.ext h1 h2]
def mergeF : List (Int × Rat) → List (Int × Rat) → List (Int × Rat)
 | [],g => g
 | f,[] => f
 | p::f,q::g => if p.1 < q.1 then p::mergeF f (q::g) else if q.1 < p.1 then q::mergeF (p::f) g else if p.2 + q.2 = 0 then mergeF f g else (p.1,p.2 + q.2)::mergeF f g
 termination_by f g => f.length + g.length
theorem mergeF_nil_left (g : List (Int × Rat)) : mergeF [] g = g := by simp [mergeF]
theorem mergeF_nil_right (f : List (Int × Rat)) : mergeF f [] = f := by cases f <;> simp [mergeF]
theorem mergeF_cons (p : Int × Rat) (f : List (Int × Rat)) (q : Int × Rat) (g : List (Int × Rat)) : mergeF (p::f) (q::g) = if p.1 < q.1 then p::mergeF f (q::g) else if q.1 < p.1 then q::mergeF (p::f) g else if p.2 + q.2 = 0 then mergeF f g else (p.1,p.2 + q.2)::mergeF f g := by
 rw [mergeF]
theorem mergeF_ind {P : List (Int × Rat) → List (Int × Rat) → Prop} (h1 : ∀ g,P [] g) (h2 : ∀ f,P f [])
  (h3 : ∀ p f q g,P f (q::g) → P (p::f) g → P f g → P (p::f) (q::g)) : ∀ f g,P f g := by
 intro f g
 induction hn : f.length + g.length using Nat.strongRecOn generalizing f g with
 | _ n ih =>
  match f,g with
  | [],g => exact h1 g
  | p::f,[] => exact h2 _
  | p::f,q::g =>
   simp only [List.length_cons] at hn
   exact h3 p f q g (ih _ (by simp only [List.length_cons];omega) f (q::g) rfl) (ih _ (by simp only [List.length_cons];omega) (p::f) g rfl) (ih _ (by omega) f g rfl)
theorem coef_merge (v : Int) : ∀ f g : List (Int × Rat),coef (mergeF f g) v = coef f v + coef g v := by
 refine mergeF_ind (fun g => ?_) (fun f => ?_) fun p f q g i1 i2 i3 => ?_
 ·rw [mergeF_nil_left,coef,Rat.zero_add]
 ·rw [mergeF_nil_right];simp [coef,Rat.add_zero]
 ·rw [mergeF_cons]
  split
  ·simp only [coef,i1];grind
  ·split
   ·simp only [coef,i2];grind
   ·have he : p.1 = q.1 := by omega
    split
    ·rename_i h0
     simp only [i3,coef,he]
     split <;> grind
    ·simp only [coef,i3,he]
     split <;> grind
theorem mem_merge {r : Int × Rat} : ∀ f g : List (Int × Rat),r ∈ mergeF f g → (∃ p ∈ f,p.1 = r.1) ∨ ∃ q ∈ g,q.1 = r.1 := by
 refine mergeF_ind (fun g h => ?_) (fun f h => ?_) fun p f q g i1 i2 i3 h => ?_
 ·rw [mergeF_nil_left] at h;exact .inr ⟨r,h,rfl⟩
 ·rw [mergeF_nil_right] at h;exact .inl ⟨r,h,rfl⟩
 ·rw [mergeF_cons] at h
  have lift : ∀ {f' g' : List (Int × Rat)},(∀ x ∈ f',x ∈ p::f) → (∀ x ∈ g',x ∈ q::g) → ((∃ x ∈ f',x.1 = r.1) ∨ ∃ x ∈ g',x.1 = r.1) → (∃ x ∈ p::f,x.1 = r.1) ∨ ∃ x ∈ q::g,x.1 = r.1 := by
   rintro f' g' hf hg (⟨x,hx,e⟩ | ⟨x,hx,e⟩)
   ·exact .inl ⟨x,hf x hx,e⟩
   ·exact .inr ⟨x,hg x hx,e⟩
  split at h
  ·rcases List.mem_cons.1 h with rfl | h
   ·exact .inl ⟨r,List.mem_cons_self,rfl⟩
   ·exact lift (fun x hx => List.mem_cons_of_mem _ hx) (fun x hx => hx) (i1 h)
  ·split at h
   ·rcases List.mem_cons.1 h with rfl | h
    ·exact .inr ⟨r,List.mem_cons_self,rfl⟩
    ·exact lift (fun x hx => hx) (fun x hx => List.mem_cons_of_mem _ hx) (i2 h)
   ·split at h
    ·exact lift (fun x hx => List.mem_cons_of_mem _ hx) (fun x hx => List.mem_cons_of_mem _ hx) (i3 h)
    ·rcases List.mem_cons.1 h with rfl | h
     ·exact .inl ⟨p,List.mem_cons_self,rfl⟩
     ·exact lift (fun x hx => List.mem_cons_of_mem _ hx) (fun x hx => List.mem_cons_of_mem _ hx) (i3 h)
theorem NF.merge : ∀ f g : List (Int × Rat),NF f → NF g → NF (mergeF f g) := by
 refine mergeF_ind (fun g hf hg => ?_) (fun f hf hg => ?_) fun p f q g i1 i2 i3 hf hg => ?_
 ·rwa [mergeF_nil_left]
 ·rwa [mergeF_nil_right]
 ·rw [mergeF_cons]
  have lo : ∀ v,(∀ x ∈ p::f,v ≤ x.1) → True := fun _ _ => trivial
  split
  ·rename_i h
   refine NF.cons (i1 hf.tail hg) (hf.nz p List.mem_cons_self) fun r hr => ?_
   rcases mem_merge _ _ hr with ⟨x,hx,e⟩ | ⟨x,hx,e⟩
   ·have := hf.head x hx;omega
   ·rcases List.mem_cons.1 hx with rfl | hx
    ·omega
    ·have := hg.head x hx;omega
  ·split
   ·rename_i h1 h
    refine NF.cons (i2 hf hg.tail) (hg.nz q List.mem_cons_self) fun r hr => ?_
    rcases mem_merge _ _ hr with ⟨x,hx,e⟩ | ⟨x,hx,e⟩
    ·rcases List.mem_cons.1 hx with rfl | hx
     ·omega
     ·have := hf.head x hx;omega
    ·have := hg.head x hx;omega
   ·have he : p.1 = q.1 := by omega
    split
    ·exact i3 hf.tail hg.tail
    ·rename_i h0
     refine NF.cons (i3 hf.tail hg.tail) h0 fun r hr => ?_
     rcases mem_merge _ _ hr with ⟨x,hx,e⟩ | ⟨x,hx,e⟩
     ·have := hf.head x hx;dsimp only;omega
     ·have := hg.head x hx;dsimp only;omega
theorem nbv_merge (v : Int) : ∀ f g : List (Int × Rat),nbv (mergeF f g) v ≤ nbv f v + nbv g v := by
 refine mergeF_ind (fun g => ?_) (fun f => ?_) fun p f q g i1 i2 i3 => ?_
 ·rw [mergeF_nil_left];simp [nbv]
 ·rw [mergeF_nil_right];simp [nbv]
 ·rw [mergeF_cons]
  simp only [nbv] at *
  split
  ·simp only [nbv];omega
  ·split
   ·simp only [nbv];omega
   ·have he : p.1 = q.1 := by omega
    split
    ·omega
    ·simp only [nbv]
     have := nb_add p.2 q.2
     rw [he]
     split <;> omega
theorem len_merge : ∀ f g : List (Int × Rat),(mergeF f g).length ≤ f.length + g.length := by
 refine mergeF_ind (fun g => ?_) (fun f => ?_) fun p f q g i1 i2 i3 => ?_
 ·rw [mergeF_nil_left];simp
 ·rw [mergeF_nil_right];simp
 ·rw [mergeF_cons]
  simp only [List.length_cons] at *
  split
  ·simp only [List.length_cons];omega
  ·split
   ·simp only [List.length_cons];omega
   ·split
    ·omega
    ·simp only [List.length_cons];omega
def normF : List (Int × Rat) → List (Int × Rat)
 | [] => []
 | p::f => mergeF (if p.2 = 0 then [] else [p]) (normF f)
theorem coef_norm (v : Int) : ∀ f : List (Int × Rat),coef (normF f) v = coef f v
 | [] => rfl
 | p::f => by
  rw [normF,coef_merge,coef_norm v f,coef]
  split
  ·rename_i h;rw [h];simp [coef]
  ·simp [coef,Rat.add_zero]
theorem NF.norm : ∀ f : List (Int × Rat),NF (normF f)
 | [] => NF.nil
 | p::f => by
  rw [normF]
  refine NF.merge _ _ ?_ (NF.norm f)
  split
  ·exact NF.nil
  ·rename_i h;exact NF.cons NF.nil h fun _ h => by cases h
theorem nbv_norm (v : Int) : ∀ f : List (Int × Rat),nbv (normF f) v ≤ nbv f v
 | [] => Nat.le_refl _
 | p::f => by
  rw [normF]
  refine Nat.le_trans (nbv_merge _ _ _) ?_
  have := nbv_norm v f
  simp only [nbv]
  split
  ·simp only [nbv];omega
  ·simp only [nbv];omega
theorem len_norm : ∀ f : List (Int × Rat),(normF f).length ≤ f.length
 | [] => Nat.le_refl _
 | p::f => by
  rw [normF]
  refine Nat.le_trans (len_merge _ _) ?_
  have := len_norm f
  split <;> simp only [List.length_cons,List.length_nil] <;> omega
theorem Sz.norm {f : List (Int × Rat)} {B : Nat} (h : Sz f B) : Sz (normF f) B := ⟨fun v => Nat.le_trans (nbv_norm v f) (h.b v),Nat.le_trans (len_norm f) h.l⟩
theorem norm_of {f g : List (Int × Rat)} (hg : NF g) (h : ∀ v,coef g v = coef f v) : g = normF f := NF.ext hg (NF.norm f) fun v => by rw [h,coef_norm]
theorem norm_self {f : List (Int × Rat)} (h : NF f) : normF f = f := (norm_of h fun _ => rfl).symm
theorem norm_split (f g : List (Int × Rat)) : mergeF (normF f) (normF g) = normF (f ++ g) :=
 norm_of (NF.merge _ _ (NF.norm f) (NF.norm g)) fun v => by rw [coef_merge,coef_norm,coef_norm,coef_append]
theorem NF.coef_zero {l : List (Int × Rat)} (h : NF l) {p : Int × Rat} (hp : p ∈ l) : coef l p.1 = p.2 := by
 induction l with
 | nil => cases hp
 | cons q l ih =>
  rcases List.mem_cons.1 hp with rfl | hp
  ·exact h.coef_head
  ·have h1 := h.head p hp
   rw [coef,if_neg (by omega),Rat.zero_add]
   exact ih h.tail hp
def nbs : List (Int × Rat) → Nat
 | [] => 0
 | p::l => nb p.2 + nbs l
theorem nbv_le_nbs (l : List (Int × Rat)) (v : Int) : nbv l v ≤ nbs l := by
 induction l with
 | nil => exact Nat.le_refl _
 | cons p l ih => simp only [nbv,nbs];split <;> omega
theorem nbs_len (l : List (Int × Rat)) : l.length ≤ nbs l := by
 induction l with
 | nil => simp
 | cons p l ih => simp only [nbs,List.length_cons];have := nb_pos p.2;omega
theorem Sz.of (l : List (Int × Rat)) : Sz l (nbs l) := ⟨nbv_le_nbs l,nbs_len l⟩
theorem nbs_merge : ∀ f g : List (Int × Rat),nbs (mergeF f g) ≤ nbs f + nbs g := by
 refine mergeF_ind (fun g => ?_) (fun f => ?_) fun p f q g i1 i2 i3 => ?_
 ·rw [mergeF_nil_left];simp [nbs]
 ·rw [mergeF_nil_right];simp [nbs]
 ·rw [mergeF_cons]
  simp only [nbs] at *
  split
  ·simp only [nbs];omega
  ·split
   ·simp only [nbs];omega
   ·split
    ·omega
    ·simp only [nbs]
     have := nb_add p.2 q.2
     omega
theorem nbs_norm : ∀ f : List (Int × Rat),nbs (normF f) ≤ nbs f
 | [] => Nat.le_refl _
 | p::f => by
  rw [normF]
  refine Nat.le_trans (nbs_merge _ _) ?_
  have := nbs_norm f
  simp only [nbs]
  split <;> simp only [nbs] <;> omega
def ev2 (x : Int → Rat) : List (Int × Rat) → Rat
 | [] => 0
 | p::l => p.2 * x p.1 + ev2 x l
def scaleF (c : Rat) (f : List (Int × Rat)) : List (Int × Rat) := f.map fun p => (p.1,c * p.2)
theorem coef_scale (c : Rat) (f : List (Int × Rat)) (v : Int) : coef (scaleF c f) v = c * coef f v := by
 induction f with
 | nil => simp [scaleF,coef]
 | cons p f ih =>
  simp only [scaleF,List.map_cons,coef] at *
  rw [ih]
  split <;> grind
theorem NF.scale {f : List (Int × Rat)} (h : NF f) {c : Rat} (hc : c ≠ 0) : NF (scaleF c f) := by
 refine ⟨?_,fun p hp => ?_⟩
 ·have := h.lt
  simp only [scaleF,List.pairwise_map]
  exact this
 ·simp only [scaleF,List.mem_map] at hp
  obtain ⟨q,hq,rfl⟩ := hp
  dsimp only
  intro h0
  rcases Rat.mul_eq_zero.1 h0 with h1 | h1
  ·exact hc h1
  ·exact h.nz q hq h1
theorem nbv_none {l : List (Int × Rat)} {v : Int} (h : ∀ p ∈ l,p.1 ≠ v) : nbv l v = 0 := by
 induction l with
 | nil => rfl
 | cons p l ih => rw [nbv,if_neg (h p List.mem_cons_self),ih fun q hq => h q (List.mem_cons_of_mem _ hq)]
theorem Sz.scale {l : List (Int × Rat)} (hl : NF l) {B : Nat} (h : Sz l B) (c : Rat) : Sz (scaleF c l) (nb c + B) := by
 refine ⟨fun v => ?_,by have := h.l;simp [scaleF];omega⟩
 have key : ∀ l : List (Int × Rat),NF l → nbv (scaleF c l) v ≤ nb c + nbv l v := by
  intro l
  induction l with
  | nil => intro _;simp [scaleF,nbv]
  | cons p l ih =>
   intro hl
   have h1 := ih hl.tail
   simp only [scaleF,List.map_cons,nbv] at *
   have h2 := nb_mul c p.2
   split
   ·rename_i hv
    subst hv
    have h3 : nbv (l.map fun p => (p.1,c * p.2)) p.1 = 0 := nbv_none fun q hq => by
     simp only [List.mem_map] at hq
     obtain ⟨r,hr,rfl⟩ := hq
     have := hl.head r hr
     dsimp only
     omega
    rw [h3]
    omega
   ·omega
 have := key l hl
 have := h.b v
 omega
def topF (l : List (Int × Rat)) : Nat := l.foldl (fun t p => Nat.gcd t p.2.num.natAbs) 0
def botF (l : List (Int × Rat)) : Nat := l.foldl (fun t p => Nat.lcm t p.2.den) 1
def primeC (l : List (Int × Rat)) : Rat := match l with
 | [] => 1
 | p::_ => mkRat (iv (decide (p.2.num.sign < 0)) (limbs (topF l))) (botF l)
def primeF (l : List (Int × Rat)) : List (Int × Rat) := scaleF (primeC l)⁻¹ l
end Go.Proofs.YtjmpajgjaefcjaaGreat.Vm
namespace Go.Proofs.YtjmpajgjaefcjaaGreat.Vm
open Go Go.RowKit
set_option maxRecDepth 100000
set_option linter.unusedVariables false
set_option linter.unusedSimpArgs false
theorem sLa {G G' : Prop} (h : G') (e : G = G' := by conv => lhs;simp (disch := omega) only [rowsOf,cNat,cN,St.ret,St.seth,Eff.app,Eff.wi,sepL,guardOf,St.known,objOf,List.set,sliceW,litW,copyW,lenOf,bnd,mxOk,ofCells,TI.isAgg,cellsOf,storable,AV.one,dead,laid,overlay,reduceCtorEq,Int.reduceLE,Int.reduceLT,Int.reduceSub,Int.reduceAdd,Nat.reduceMul,Int.reduceToNat,Nat.reducePow,Int.reduceNeg,Nat.reduceAdd,Nat.reduceLT,Nat.reduceLeDiff,sA,sB,cQ,rowQ,pos_succ,drop_one,tab_getD_zero,List.take_length,List.length_append,tab_length,tab_drop,tab_take,tab_append,tab_snoc,tab_nil,rowQ_all,rowQ_one,rowQ_pure,sT]) : G := e.mpr h
theorem sLaV {G G' : Prop} (h : G') (e : G = G' := by conv => lhs;simp (disch := omega) only [rowsOf,cNat,cN,St.ret,St.seth,Eff.app,Eff.wi,sepL,guardOf,St.known,objOf,List.set,sliceW,litW,copyW,lenOf,bnd,mxOk,ofCells,TI.isAgg,cellsOf,storable,AV.one,dead,laid,overlay,reduceCtorEq,Int.reduceLE,Int.reduceLT,Int.reduceSub,Int.reduceAdd,Nat.reduceMul,Int.reduceToNat,Nat.reducePow,Int.reduceNeg,Nat.reduceAdd,Nat.reduceLT,Nat.reduceLeDiff,sA,sB,cQ,rowQ,pos_succ,drop_one,tab_getD_zero,List.take_length,List.length_append,tab_length,tab_drop,tab_take,tab_append,tab_snoc,tab_nil,rowQ_all,rowQ_one,rowQ_pure,sT,view_sref,viewRef,view_agg,views_cons,views_nil,view_bool,view_int,view_sl,view_nils,view_str,view_tup,view_nilif]) : G := e.mpr h
theorem aLa {G G' : Prop} (h : G') (f : Wr G' → G := by intro h;(repeat (first|(refine W_seqV fun K hK => ?_;(try (refine sLa ?_;try exact True.intro));(repeat refine aI ?_);refine hK _ ?_;clear hK K)|(refine W_seqR fun K hK => ?_;(try (refine sLa ?_;try exact True.intro));(repeat refine aI ?_);refine hK _ ?_;clear hK K)|(refine W_seqD mixed [] (by kernel_rfl) fun K hK => ?_;(try (refine sLa ?_;try exact True.intro));(repeat refine aI ?_);refine hK _ ?_;clear hK K)));exact h.out) : G := f ⟨h⟩
def cmpV (a b : Int) : Int := if a < b then -1 else if b < a then 1 else 0
set_option maxHeartbeats 1000000 in
theorem byVar_ok (p q : Int × RR) : Pure Tryz.prog 188 [.agg (rowM p),.agg (rowM q)] (· = .int .i64 (cmpV p.1 q.1)) := by
 obtain ⟨v,a⟩ := p
 obtain ⟨w,b⟩ := q
 (refine pureW Tryz.func188 rfl (rs := [Go.ResultVar.tmp 4]) rfl (n := 17) rfl ?_;simp only [List.length_cons,List.length_nil,List.replicate,List.cons_append,List.nil_append])
 simp only [rowM]
 (repeat' (first|(exfalso;simp at h;done)|refine W_block ?_ |((first|refine W_seqV fun K hK => ?_|refine W_regV fun K hK => ?_);(try (refine sLa ?_;try exact True.intro));(repeat refine aI ?_);refine hK _ ?_;clear hK K)|((first|refine W_seqR fun K hK => ?_|refine W_regR fun K hK => ?_);(try (refine sLa ?_;try exact True.intro));(repeat refine aI ?_);refine hK _ ?_;clear hK K)|((first|refine W_seqD mixed [] (by kernel_rfl) fun K hK => ?_|refine W_regD mixed [] (by kernel_rfl) fun K hK => ?_);(try (refine sLa ?_;try exact True.intro));(repeat refine aI ?_);refine hK _ ?_;clear hK K)|refine W_skip ?_|(refine W_ret ?_;(refine qG ?_;try exact True.intro))|(refine W_exit ?_;simp only [thenW,blockW,if_true,reduceCtorEq,if_false,Nat.reduceEqDiff])|(refine W_cond rfl (fun h => ?_) (fun h => ?_) <;> (try simp only [cond_true,cond_false,ne_eq,cB] at h))|refine W_seq ?_))
 all_goals (congr 1;unfold cmpV;(repeat split) <;> omega)
theorem rs_ne (q : Rat) : (q.num.sign != 0) = decide (q ≠ 0) := by
 by_cases h : q = 0
 ·subst h;rfl
 ·rw [decide_eq_true h,bne_iff_ne]
  intro h0
  exact h (Rat.num_eq_zero.1 (Int.sign_eq_zero_iff_zero.1 h0))
set_option maxHeartbeats 1000000 in
theorem together_ok (p q : Int × Rat) (hp : (qr p.2).ok) (hq : (qr q.2).ok) (hs : (qr (p.2 + q.2)).ok) :
  Pure Tryz.prog 189 [.agg (rowQ p),.agg (rowQ q)] (· = .tup [.agg (rowQ (p.1,p.2 + q.2)),.bool (decide (p.2 + q.2 ≠ 0))]) := by
 have ha := radd_ok (qr p.2) (qr q.2) hp hq
 rw [qr_v,qr_v] at ha
 have hg := rsign_ok (qr (p.2 + q.2)) hs
 rw [qr_v] at hg
 have hne := rs_ne (p.2 + q.2)
 obtain ⟨v,a⟩ := p
 obtain ⟨w,b⟩ := q
 dsimp only at *
 simp only [RR.av,qr] at ha hg
 rw [← hne]
 (refine pureW Tryz.func189 rfl (rs := [Go.ResultVar.cell 4 55,Go.ResultVar.tmp 5]) rfl (n := 19) rfl ?_;simp only [List.length_cons,List.length_nil,List.replicate,List.cons_append,List.nil_append])
 unfold rowQ
 ((first | refine W_seqV ?_ | refine W_seq (W_seqV ?_) | refine W_regV ?_);intro K hK;(refine sLa ?_;try exact True.intro))
 (repeat refine aI ?_);refine hK _ ?_;clear hK K
 ((first | refine W_seqV ?_ | refine W_seq (W_seqV ?_) | refine W_regV ?_);intro K hK;(refine sLa ?_;try exact True.intro))
 ((repeat refine aI ?_);refine ⟨by kernel_rfl,_,.pure rfl (ha),?_⟩;(try (refine sLa ?_;try exact True.intro));(repeat refine aI ?_))
 (repeat refine aI ?_);refine hK _ ?_;clear hK K
 ((first | refine W_seqD mixed [(4,7)] (by kernel_rfl) ?_ | refine W_seq (W_seqD mixed [(4,7)] (by kernel_rfl) ?_) | refine W_regD mixed [(4,7)] (by kernel_rfl) ?_);intro K hK;(refine sLa ?_;try exact True.intro))
 ((repeat refine aI ?_);refine ⟨by kernel_rfl,_,.pure rfl (hg),?_⟩;(try (refine sLa ?_;try exact True.intro));(repeat refine aI ?_))
 (repeat refine aI ?_);refine hK _ ?_;clear hK K
 refine W_ret ?_
 (refine qG ?_;try exact True.intro);try (refine sLaV ?_;try exact True.intro)
theorem byVar_q (p q : Int × Rat) : Pure Tryz.prog 188 [.agg (rowQ p),.agg (rowQ q)] (· = .int .i64 (cmpV p.1 q.1)) := byVar_ok (p.1,qr p.2) (q.1,qr q.2)
structure Mg (f g f' g' out : List (Int × Rat)) : Prop where
 eq : out ++ mergeF f' g' = mergeF f g
 nb : ∀ v,nbv out v + nbv f' v + nbv g' v ≤ nbv f v + nbv g v
 len : out.length + f'.length + g'.length ≤ f.length + g.length
set_option maxHeartbeats 4000000 in
theorem merge_new (f g : List (Int × Rat)) {B : Nat} (h : Sz (f ++ g) B) (hB : B < 17179869184) :
  New Tryz.prog 187 [cL f,cL g,.fn (.func 188) [] [],.fn (.func 189) [] []] 55 4 (· = tab rowQ (mergeF f g)) := by
 (refine new_of_W (T := 55) (k := 4) Tryz.func187 rfl (rs := [Go.ResultVar.tmp 8]) rfl (nt := 76) rfl ?_;simp only [List.length_cons,List.length_nil,List.replicate,List.cons_append,List.nil_append])
 simp only [cL]
 (refine aLa ?_)
 refine W.le ?_ (Le_nil 9 9 55 4 true rfl rfl)
 simp only [List.set]
 refine W_seq (W_block (W_loop (fun t : {t : List (Int × Rat) × List (Int × Rat) × List (Int × Rat) // Mg f g t.1 t.2.1 t.2.2} =>
   ⟨((cL t.1.1)::(cL t.1.2.1)::(.fn (.func 188) [] [])::(.fn (.func 189) [] [])::.any::.any::.any::.any::.any::(.sref 9 0 t.1.2.2.length)::.any::.any::.any::.any::.any::.any::.any::.any::.any::.any::.any::.any::.any::.any::.any::.any::.any::.any::.any::.any::.any::.any::.any::.any::.any::.any::.any::.any::.any::.any::.any::.any::.any::.any::.any::.any::.any::.any::.any::.any::.any::.any::.any::.any::.any::.any::.any::.any::.any::.any::.any::.any::.any::.any::.any::.any::.any::.any::.any::.any::.any::.any::.any::.any::.any::.any::[]),(.dead::.dead::.dead::.dead::.dead::.dead::.dead::.dead::.dead::(.arr 55 4 true (tab rowQ t.1.2.2))::.dead::.dead::.dead::.dead::.dead::.dead::.dead::.dead::.dead::.dead::.dead::.dead::.dead::.dead::.dead::.dead::.dead::.dead::.dead::.dead::.dead::.dead::.dead::.dead::.dead::.dead::.dead::.dead::.dead::.dead::.dead::.dead::.dead::.dead::.dead::.dead::.dead::.dead::.dead::.dead::.dead::.dead::.dead::.dead::.dead::.dead::.dead::.dead::.dead::.dead::.dead::.dead::.dead::.dead::.dead::.dead::.dead::.dead::.dead::.dead::.dead::.dead::.dead::.dead::.dead::.dead::[])⟩) (fun t => t.1.1.length + t.1.2.1.length)
   ⟨(f,g,[]),⟨rfl,by simp [nbv],by simp⟩⟩ (Le_of (by simp [leE,cL]) rfl) fun t => ?_))
 obtain ⟨⟨f',g',out⟩,hM⟩ := t
 dsimp only at hM ⊢
 have hll := hM.len
 have hnb := hM.nb
 have hle : f.length + g.length ≤ B := by have := h.l;rwa [List.length_append] at this
 have hbv : ∀ v,nbv f v + nbv g v ≤ B := fun v => by have := h.b v;rwa [nbv_append] at this
 simp only [cL]
 rcases f' with _ | ⟨p,f'⟩
 ·refine W_seq ?_
  ((first | refine W_seqV ?_ | refine W_seq (W_seqV ?_) | refine W_regV ?_);intro K hK;(refine sLa ?_;try exact True.intro))
  (repeat refine aI ?_);refine hK _ ?_;clear hK K
  (first | refine W_cf rfl ?_ | refine W_seq (W_cf rfl ?_))
  refine W_exit ?_
  simp only [thenW,blockW,if_true]
  have heq := hM.eq
  rw [mergeF_nil_left] at heq
  ((first | refine W_seqR ?_ | refine W_seq (W_seqR ?_));intro K hK;(refine sLa ?_;try exact True.intro))
  (repeat refine aI ?_);refine hK _ ?_;clear hK K
  refine W_ret ?_
  (refine qG ?_;try exact True.intro)
  exact ⟨_,by simp,by simp [tab_length],rfl,by rw [← heq]⟩
 rcases g' with _ | ⟨q,g'⟩
 ·refine W_seq ?_
  ((first | refine W_seqV ?_ | refine W_seq (W_seqV ?_) | refine W_regV ?_);intro K hK;(refine sLa ?_;try exact True.intro))
  (repeat refine aI ?_);refine hK _ ?_;clear hK K
  (first | refine W_cf rfl ?_ | refine W_seq (W_cf rfl ?_))
  refine W_exit ?_
  simp only [thenW,blockW,if_true]
  have heq := hM.eq
  rw [mergeF_nil_right] at heq
  simp only [List.length_cons] at hll
  ((first | refine W_seqR ?_ | refine W_seq (W_seqR ?_));intro K hK;(refine sLa ?_;try exact True.intro))
  (repeat refine aI ?_);refine hK _ ?_;clear hK K
  refine W_ret ?_
  (refine qG ?_;try exact True.intro)
  exact ⟨_,by simp,by simp [tab_length],rfl,by rw [← heq,List.take_of_length_le (by simp)]⟩
 have hc := byVar_q p q
 simp only [rowQ] at hc
 have hnp : nb p.2 ≤ nbv (p::f') p.1 := nbv_mem List.mem_cons_self
 have hnq : nb q.2 ≤ nbv (q::g') q.1 := nbv_mem List.mem_cons_self
 have hnp2 := hnb p.1
 have hnq2 := hnb q.1
 have hbp := hbv p.1
 have hbq := hbv q.1
 simp only [List.length_cons] at hll
 have hmc := mergeF_cons p f' q g'
 have heq := hM.eq
 have hsn : ∀ (r : Int × Rat) (v : Int),nbv (out ++ [r]) v = nbv out v + (if r.1 = v then nb r.2 else 0) := fun r v => by rw [nbv_append];simp [nbv]
 refine W_seq ?_
 ((first | refine W_seqV ?_ | refine W_seq (W_seqV ?_) | refine W_regV ?_);intro K hK;(refine sLa ?_;try exact True.intro))
 (repeat refine aI ?_);refine hK _ ?_;clear hK K
 (first | refine W_ct rfl ?_ | refine W_seq (W_ct rfl ?_))
 refine W_skip ?_
 simp only [thenW]
 refine W_block ?_
 ((first | refine W_seqD mixed [] (by kernel_rfl) ?_ | refine W_seq (W_seqD mixed [] (by kernel_rfl) ?_) | refine W_regD mixed [] (by kernel_rfl) ?_);intro K hK;(refine sLa ?_;try exact True.intro))
 ((repeat refine aI ?_);refine ⟨by kernel_rfl,_,.pure rfl (hc),?_⟩;(try (refine sLa ?_;try exact True.intro));(repeat refine aI ?_))
 (repeat refine aI ?_);refine hK _ ?_;clear hK K
 refine W_block ?_
 refine W_seq ?_
 ((first | refine W_seqV ?_ | refine W_seq (W_seqV ?_) | refine W_regV ?_);intro K hK;(refine sLa ?_;try exact True.intro))
 (repeat refine aI ?_);refine hK _ ?_;clear hK K
 rcases Int.lt_trichotomy p.1 q.1 with hlt | hee | hgt
 ·have hcv : cmpV p.1 q.1 = -1 := by simp [cmpV,hlt]
  rw [hcv]
  (first | refine W_ct rfl ?_ | refine W_seq (W_ct rfl ?_))
  ((first | refine W_seqR ?_ | refine W_seq (W_seqR ?_));intro K hK;(refine sLa ?_;try exact True.intro))
  (repeat refine aI ?_);refine hK _ ?_;clear hK K
  ((first | refine W_seqV ?_ | refine W_seq (W_seqV ?_) | refine W_regV ?_);intro K hK;(refine sLa ?_;try exact True.intro))
  (repeat refine aI ?_);refine hK _ ?_;clear hK K
  simp only [blockW,thenW]
  rw [if_pos hlt] at hmc
  refine ⟨⟨(f',q::g',out ++ [p]),⟨?_,?_,?_⟩⟩,Le_drop (by simp [leE,cL]) (by simp [leH,← tab_snoc,rowQ]) rfl rfl,?_⟩
  ·rw [← heq,hmc];simp
  ·intro v;have := hnb v;rw [hsn];simp only [nbv] at *;omega
  ·simp only [List.length_append,List.length_cons,List.length_nil];omega
  ·simp
 ·have hcv : cmpV p.1 q.1 = 0 := by simp [cmpV,hee]
  rw [hcv]
  rw [if_neg (by omega),if_neg (by omega)] at hmc
  have hadd := nb_add p.2 q.2
  have hnq' : nb q.2 ≤ nbv (q::g') p.1 := by rw [hee];exact hnq
  have ht := together_ok p q (qr_ok (by omega)) (qr_ok (by omega)) (qr_ok (by omega))
  simp only [rowQ] at ht
  (first | refine W_cf rfl ?_ | refine W_seq (W_cf rfl ?_))
  refine W_seq ?_
  ((first | refine W_seqV ?_ | refine W_seq (W_seqV ?_) | refine W_regV ?_);intro K hK;(refine sLa ?_;try exact True.intro))
  (repeat refine aI ?_);refine hK _ ?_;clear hK K
  (first | refine W_cf rfl ?_ | refine W_seq (W_cf rfl ?_))
  refine W_seq ?_
  ((first | refine W_seqD mixed [(2,11),(3,11),(5,11),(6,11)] (by kernel_rfl) ?_ | refine W_seq (W_seqD mixed [(2,11),(3,11),(5,11),(6,11)] (by kernel_rfl) ?_) | refine W_regD mixed [(2,11),(3,11),(5,11),(6,11)] (by kernel_rfl) ?_);intro K hK;(refine sLa ?_;try exact True.intro))
  ((repeat refine aI ?_);refine ⟨by kernel_rfl,_,.pure rfl (ht),?_⟩;(try (refine sLa ?_;try exact True.intro));(repeat refine aI ?_))
  (repeat refine aI ?_);refine hK _ ?_;clear hK K
  by_cases h0 : p.2 + q.2 = 0
  ·rw [if_pos h0] at hmc
   have hz : decide (p.2 + q.2 ≠ 0) = false := by simp [h0]
   rw [hz]
   ((first | refine W_seqV ?_ | refine W_seq (W_seqV ?_) | refine W_regV ?_);intro K hK;(refine sLa ?_;try exact True.intro))
   (repeat refine aI ?_);refine hK _ ?_;clear hK K
   (first | refine W_cf rfl ?_ | refine W_seq (W_cf rfl ?_))
   refine W_skip ?_
   simp only [thenW]
   (refine W_regD mixed [] (by kernel_rfl) fun K hK => ?_;(refine sLa ?_;try exact True.intro))
   (repeat refine aI ?_);refine hK _ ?_;clear hK K
   simp only [blockW,thenW]
   refine ⟨⟨(f',g',out),⟨?_,?_,?_⟩⟩,Le_drop (by simp [leE,cL]) (by simp [leH]) rfl rfl,?_⟩
   ·rw [← heq,hmc]
   ·intro v;have := hnb v;simp only [nbv] at *;omega
   ·dsimp only;omega
   ·dsimp only [List.length_cons];omega
  ·rw [if_neg h0] at hmc
   have hz : decide (p.2 + q.2 ≠ 0) = true := by simp [h0]
   rw [hz]
   ((first | refine W_seqV ?_ | refine W_seq (W_seqV ?_) | refine W_regV ?_);intro K hK;(refine sLa ?_;try exact True.intro))
   (repeat refine aI ?_);refine hK _ ?_;clear hK K
   (first | refine W_ct rfl ?_ | refine W_seq (W_ct rfl ?_))
   (refine W_regR fun K hK => ?_;(refine sLa ?_;try exact True.intro))
   (repeat refine aI ?_);refine hK _ ?_;clear hK K
   simp only [thenW]
   (refine W_regD mixed [] (by kernel_rfl) fun K hK => ?_;(refine sLa ?_;try exact True.intro))
   (repeat refine aI ?_);refine hK _ ?_;clear hK K
   simp only [blockW,thenW]
   refine ⟨⟨(f',g',out ++ [(p.1,p.2 + q.2)]),⟨?_,?_,?_⟩⟩,Le_drop (by simp [leE,cL]) (by simp [leH,← tab_snoc,rowQ]) rfl rfl,?_⟩
   ·rw [← heq,hmc];simp
   ·intro v;have := hnb v;rw [hsn];simp only [nbv] at *;rw [hee] at *;split <;> simp_all <;> omega
   ·simp only [List.length_append,List.length_cons,List.length_nil];omega
   ·dsimp only [List.length_cons];omega
 ·have hcv : cmpV p.1 q.1 = 1 := by rw [cmpV,if_neg (by omega),if_pos hgt]
  rw [hcv]
  (first | refine W_cf rfl ?_ | refine W_seq (W_cf rfl ?_))
  refine W_seq ?_
  ((first | refine W_seqV ?_ | refine W_seq (W_seqV ?_) | refine W_regV ?_);intro K hK;(refine sLa ?_;try exact True.intro))
  (repeat refine aI ?_);refine hK _ ?_;clear hK K
  (first | refine W_ct rfl ?_ | refine W_seq (W_ct rfl ?_))
  ((first | refine W_seqR ?_ | refine W_seq (W_seqR ?_));intro K hK;(refine sLa ?_;try exact True.intro))
  (repeat refine aI ?_);refine hK _ ?_;clear hK K
  ((first | refine W_seqV ?_ | refine W_seq (W_seqV ?_) | refine W_regV ?_);intro K hK;(refine sLa ?_;try exact True.intro))
  (repeat refine aI ?_);refine hK _ ?_;clear hK K
  simp only [blockW,thenW]
  rw [if_neg (by omega),if_pos hgt] at hmc
  refine ⟨⟨(p::f',g',out ++ [q]),⟨?_,?_,?_⟩⟩,Le_drop (by simp [leE,cL]) (by simp [leH,← tab_snoc,rowQ]) rfl rfl,?_⟩
  ·rw [← heq,hmc];simp
  ·intro v;have := hnb v;rw [hsn];simp only [nbv] at *;omega
  ·simp only [List.length_append,List.length_cons,List.length_nil];omega
  ·simp
set_option maxHeartbeats 1000000 in
theorem sum_new (f g : List (Int × Rat)) {B : Nat} (h : Sz (f ++ g) B) (hB : B < 17179869184) : New Tryz.prog 148 [cL f,cL g] 55 4 (· = tab rowQ (mergeF f g)) := by
 have hm := merge_new f g h hB
 (refine new_of_W (T := 55) (k := 4) Tryz.func148 rfl (rs := [Go.ResultVar.tmp 4]) rfl (nt := 8) rfl ?_;simp only [List.length_cons,List.length_nil,List.replicate,List.cons_append,List.nil_append])
 simp only [cL] at hm ⊢
 (refine aLa ?_)
 (refine W_seqR fun K hK => ?_;(refine sLa ?_;try exact True.intro))
 refine ⟨by kernel_rfl,?_⟩
 refine call_new 7 rfl rfl hm fun rows hr => ?_
 subst hr
 (refine sLa ?_;try exact True.intro)
 (repeat refine aI ?_);refine hK _ ?_;clear hK K
 refine W_ret ?_
 (refine qG ?_;try exact True.intro)
 exact ⟨tab rowQ (mergeF f g),by simp [tab_length],by simp [tab_length],rfl,rfl⟩
theorem sLb {G G' : Prop} (h : G') (e : G = G' := by conv => lhs;simp (disch := omega) only [rowsOf,cNat,cN,St.ret,St.seth,Eff.app,Eff.wi,sepL,guardOf,St.known,objOf,List.set,sliceW,litW,copyW,lenOf,bnd,mxOk,ofCells,TI.isAgg,cellsOf,storable,AV.one,dead,laid,overlay,reduceCtorEq,Int.reduceLE,Int.reduceLT,Int.reduceSub,Int.reduceAdd,Nat.reduceMul,Int.reduceToNat,Nat.reducePow,Int.reduceNeg,Nat.reduceAdd,Nat.reduceLT,Nat.reduceLeDiff,sA,sB,cQ,rowQ,rowM,tab_length,tab_getD_zero,List.take_length,List.length_append,tab_drop,tab_take,tab_append,tab_nil,rowQ_all,rowQ_one,rowQ_pure,rowM_all,rowM_one,rowM_pure,sT]) : G := e.mpr h
theorem sLbX {G G' P : Prop} (p : P) (h : G') (e : P → G = G' := by intro p;conv => lhs;simp (disch := omega) only [rowsOf,cNat,cN,St.ret,St.seth,Eff.app,Eff.wi,sepL,guardOf,St.known,objOf,List.set,sliceW,litW,copyW,lenOf,bnd,mxOk,ofCells,TI.isAgg,cellsOf,storable,AV.one,dead,laid,overlay,reduceCtorEq,Int.reduceLE,Int.reduceLT,Int.reduceSub,Int.reduceAdd,Nat.reduceMul,Int.reduceToNat,Nat.reducePow,Int.reduceNeg,Nat.reduceAdd,Nat.reduceLT,Nat.reduceLeDiff,sA,sB,cQ,rowQ,rowM,tab_length,tab_getD_zero,List.take_length,List.length_append,tab_drop,tab_take,tab_append,tab_nil,rowQ_all,rowQ_one,rowQ_pure,rowM_all,rowM_one,rowM_pure,sT,p]) : G := (e p).mpr h
theorem aLb {G G' : Prop} (h : G') (f : Wr G' → G := by intro h;(repeat (first|(refine W_seqV fun K hK => ?_;(try (refine sLb ?_;try exact True.intro));(repeat refine aI ?_);refine hK _ ?_;clear hK K)|(refine W_seqR fun K hK => ?_;(try (refine sLb ?_;try exact True.intro));(repeat refine aI ?_);refine hK _ ?_;clear hK K)|(refine W_seqD mixed [] (by kernel_rfl) fun K hK => ?_;(try (refine sLb ?_;try exact True.intro));(repeat refine aI ?_);refine hK _ ?_;clear hK K)));exact h.out) : G := f ⟨h⟩
structure FOk (f : List (Int × RR)) (B : Nat) : Prop where
 ok : ∀ p ∈ f,p.2.ok
 sz : Sz (vals f) B
theorem vals_length (f : List (Int × RR)) : (vals f).length = f.length := by simp [vals]
theorem vals_append (f g : List (Int × RR)) : vals (f ++ g) = vals f ++ vals g := by simp [vals]
theorem FOk.len {f : List (Int × RR)} {B : Nat} (h : FOk f B) : f.length ≤ B := by
 have := h.sz.l
 rwa [vals_length] at this
theorem FOk.take {f : List (Int × RR)} {B : Nat} (h : FOk f B) (n : Nat) : FOk (f.take n) B := by
 refine ⟨fun p hp => h.ok p (List.mem_of_mem_take hp),?_⟩
 have h1 := h.sz
 rw [← List.take_append_drop n f,vals_append] at h1
 exact h1.left
theorem FOk.drop {f : List (Int × RR)} {B : Nat} (h : FOk f B) (n : Nat) : FOk (f.drop n) B := by
 refine ⟨fun p hp => h.ok p (List.mem_of_mem_drop hp),?_⟩
 have h1 := h.sz
 rw [← List.take_append_drop n f,vals_append] at h1
 exact h1.right
theorem FOk.rf {l : List (Int × Rat)} {B : Nat} (h : Sz l B) (hB : B < 17179869184) : FOk (rf l) B := by
 refine ⟨fun p hp => ?_,by rw [vals_rf];exact h⟩
 simp only [Vm.rf,List.mem_map] at hp
 obtain ⟨q,hq,rfl⟩ := hp
 exact qr_ok (Nat.lt_of_le_of_lt (h.mem hq) hB)
theorem rs_eq (q : Rat) : (q.num.sign == 0) = decide (q = 0) := by
 by_cases h : q = 0
 ·subst h;rfl
 ·rw [decide_eq_false h,beq_eq_false_iff_ne]
  intro h0
  exact h (Rat.num_eq_zero.1 (Int.sign_eq_zero_iff_zero.1 h0))
theorem half_lt {n : Nat} (h : 2 ≤ n) : n / 2 < n ∧ 0 < n / 2 := by omega
set_option maxHeartbeats 4000000 in
theorem lnorm_new (f : List (Int × RR)) {B : Nat} (h : FOk f B) (hB : B < 17179869184) : New Tryz.prog 108 [cF f] 55 4 (· = tab rowQ (normF (vals f))) := by
 induction hn : f.length using Nat.strongRecOn generalizing f with
 | _ n ih =>
  have hlen := h.len
  match f,hn with
  | [],_ =>
   (refine new_of_W (T := 55) (k := 4) Tryz.func108 rfl (rs := [Go.ResultVar.tmp 2]) rfl (nt := 39) rfl ?_;simp only [List.length_cons,List.length_nil,List.replicate,List.cons_append,List.nil_append])
   simp only [cF]
   (repeat' (first|(exfalso;simp at h;done)|refine W_block ?_ |((first|refine W_seqV fun K hK => ?_|refine W_regV fun K hK => ?_);(try (refine sLb ?_;try exact True.intro));(repeat refine aI ?_);refine hK _ ?_;clear hK K)|((first|refine W_seqR fun K hK => ?_|refine W_regR fun K hK => ?_);(try (refine sLb ?_;try exact True.intro));(repeat refine aI ?_);refine hK _ ?_;clear hK K)|((first|refine W_seqD mixed [] (by kernel_rfl) fun K hK => ?_|refine W_regD mixed [] (by kernel_rfl) fun K hK => ?_);(try (refine sLb ?_;try exact True.intro));(repeat refine aI ?_);refine hK _ ?_;clear hK K)|refine W_skip ?_|(refine W_ret ?_;(refine qG ?_;try exact True.intro))|(refine W_exit ?_;simp only [thenW,blockW,if_true,reduceCtorEq,if_false,Nat.reduceEqDiff])|(refine W_cond rfl (fun h => ?_) (fun h => ?_) <;> (try simp only [cond_true,cond_false,ne_eq,cB] at h))|refine W_seq ?_))
   rfl
  | [p],hn =>
   have hg := rsign_ok p.2 (h.ok p List.mem_cons_self)
   have hm := rnorm_ok p.2 (h.ok p List.mem_cons_self)
   obtain ⟨v,r⟩ := p
   have heq := rs_eq r.v
   simp only [RR.av] at hg hm
   try dsimp only at hg hm heq
   by_cases h0 : r.v = 0
   ·rw [decide_eq_true h0] at heq
    have hv : vals [(v,r)] = [(v,0)] := by simp [vals,h0]
    have hnn : normF [(v,(0 : Rat))] = [] := by simp [normF,mergeF]
    rw [hv,hnn]
    (refine new_of_W (T := 55) (k := 4) Tryz.func108 rfl (rs := [Go.ResultVar.tmp 2]) rfl (nt := 39) rfl ?_;simp only [List.length_cons,List.length_nil,List.replicate,List.cons_append,List.nil_append])
    simp only [cF]
    (refine aLb ?_)
    refine W_seq ?_
    ((first | refine W_seqV ?_ | refine W_seq (W_seqV ?_) | refine W_regV ?_);intro K hK;(refine sLb ?_;try exact True.intro))
    (repeat refine aI ?_);refine hK _ ?_;clear hK K
    refine W_block ?_
    refine W_seq ?_
    ((first | refine W_seqV ?_ | refine W_seq (W_seqV ?_) | refine W_regV ?_);intro K hK;(refine sLb ?_;try exact True.intro))
    (repeat refine aI ?_);refine hK _ ?_;clear hK K
    (first | refine W_cf rfl ?_ | refine W_seq (W_cf rfl ?_))
    refine W_seq ?_
    ((first | refine W_seqV ?_ | refine W_seq (W_seqV ?_) | refine W_regV ?_);intro K hK;(refine sLb ?_;try exact True.intro))
    (repeat refine aI ?_);refine hK _ ?_;clear hK K
    (first | refine W_ct rfl ?_ | refine W_seq (W_ct rfl ?_))
    refine W_seq ?_
    refine W_seq ?_
    ((first | refine W_seqV ?_ | refine W_seq (W_seqV ?_) | refine W_regV ?_);intro K hK;(refine sLb ?_;try exact True.intro))
    ((repeat refine aI ?_);refine ⟨by kernel_rfl,_,.pure rfl (hg),?_⟩;(try (refine sLb ?_;try exact True.intro));(repeat refine aI ?_))
    (refine sLbX heq ?_;try exact True.intro)
    (repeat refine aI ?_);refine hK _ ?_;clear hK K
    (first | refine W_ct rfl ?_ | refine W_seq (W_ct rfl ?_))
    ((first | refine W_seqV ?_ | refine W_seq (W_seqV ?_) | refine W_regV ?_);intro K hK;(refine sLb ?_;try exact True.intro))
    (repeat refine aI ?_);refine hK _ ?_;clear hK K
    refine W_ret ?_
    (refine qG ?_;try exact True.intro)
    try rfl
   ·rw [decide_eq_false h0] at heq
    have hv : normF (vals [(v,r)]) = [(v,r.v)] := by simp [vals,normF,mergeF,h0]
    rw [hv]
    (refine new_of_W (T := 55) (k := 4) Tryz.func108 rfl (rs := [Go.ResultVar.tmp 2]) rfl (nt := 39) rfl ?_;simp only [List.length_cons,List.length_nil,List.replicate,List.cons_append,List.nil_append])
    simp only [cF]
    (refine aLb ?_)
    refine W_seq ?_
    ((first | refine W_seqV ?_ | refine W_seq (W_seqV ?_) | refine W_regV ?_);intro K hK;(refine sLb ?_;try exact True.intro))
    (repeat refine aI ?_);refine hK _ ?_;clear hK K
    refine W_block ?_
    refine W_seq ?_
    ((first | refine W_seqV ?_ | refine W_seq (W_seqV ?_) | refine W_regV ?_);intro K hK;(refine sLb ?_;try exact True.intro))
    (repeat refine aI ?_);refine hK _ ?_;clear hK K
    (first | refine W_cf rfl ?_ | refine W_seq (W_cf rfl ?_))
    refine W_seq ?_
    ((first | refine W_seqV ?_ | refine W_seq (W_seqV ?_) | refine W_regV ?_);intro K hK;(refine sLb ?_;try exact True.intro))
    (repeat refine aI ?_);refine hK _ ?_;clear hK K
    (first | refine W_ct rfl ?_ | refine W_seq (W_ct rfl ?_))
    refine W_seq ?_
    refine W_seq ?_
    ((first | refine W_seqV ?_ | refine W_seq (W_seqV ?_) | refine W_regV ?_);intro K hK;(refine sLb ?_;try exact True.intro))
    ((repeat refine aI ?_);refine ⟨by kernel_rfl,_,.pure rfl (hg),?_⟩;(try (refine sLb ?_;try exact True.intro));(repeat refine aI ?_))
    (refine sLbX heq ?_;try exact True.intro)
    (repeat refine aI ?_);refine hK _ ?_;clear hK K
    (first | refine W_cf rfl ?_ | refine W_seq (W_cf rfl ?_))
    refine W_skip ?_
    simp only [thenW]
    ((first | refine W_seqS mixed 10 [] (by kernel_rfl) ?_ | refine W_seq (W_seqS mixed 10 [] (by kernel_rfl) ?_) | refine W_regS mixed 10 [] (by kernel_rfl) ?_);intro K hK;(refine sLb ?_;try exact True.intro))
    ((repeat refine aI ?_);refine ⟨by kernel_rfl,_,.pure rfl (hm),?_⟩;(try (refine sLb ?_;try exact True.intro));(repeat refine aI ?_))
    (repeat refine aI ?_);refine hK _ ?_;clear hK K
    refine W_ret ?_
    (refine qG ?_;try exact True.intro)
    exact ⟨_,by simp,rfl,rfl,by simp [tab,rowQ]⟩
  | p::q::g,hn =>
   obtain ⟨l1,l2⟩ := half_lt (n := (p::q::g).length) (by simp)
   generalize hfe : p::q::g = f at *
   have ht := (ih (f.take (f.length / 2)).length (by rw [List.length_take];omega) (f.take (f.length / 2)) (h.take _) rfl).pure
   have hd := (ih (f.drop (f.length / 2)).length (by rw [List.length_drop];omega) (f.drop (f.length / 2)) (h.drop _) rfl).pure
   have hv1 : vals f = vals (f.take (f.length / 2)) ++ vals (f.drop (f.length / 2)) := by
    simp only [vals];rw [← List.map_append,List.take_append_drop]
   have hsz := h.sz
   rw [hv1] at hsz
   have hsz2 : Sz (normF (vals (f.take (f.length / 2))) ++ normF (vals (f.drop (f.length / 2)))) B := by
    refine ⟨fun v => ?_,?_⟩
    ·have h1 := hsz.b v
     rw [nbv_append] at h1 ⊢
     have := nbv_norm v (vals (f.take (f.length / 2)))
     have := nbv_norm v (vals (f.drop (f.length / 2)))
     omega
    ·have h1 := hsz.l
     rw [List.length_append] at h1 ⊢
     have := len_norm (vals (f.take (f.length / 2)))
     have := len_norm (vals (f.drop (f.length / 2)))
     omega
   have hs := sum_new _ _ hsz2 hB
   rw [norm_split,← hv1] at hs
   have h3 : 2 ≤ f.length := by rw [← hfe];simp
   clear hfe ih
   have ht' := ht.mono (R' := (· = cL (normF (vals (f.take (f.length / 2)))))) fun r hr => by obtain ⟨rows,rfl,rfl⟩ := hr;rfl
   have hd' := hd.mono (R' := (· = cL (normF (vals (f.drop (f.length / 2)))))) fun r hr => by obtain ⟨rows,rfl,rfl⟩ := hr;rfl
   (refine new_of_W (T := 55) (k := 4) Tryz.func108 rfl (rs := [Go.ResultVar.tmp 2]) rfl (nt := 39) rfl ?_;simp only [List.length_cons,List.length_nil,List.replicate,List.cons_append,List.nil_append])
   simp only [cF,cL] at hs ht' hd' ⊢
   have z0 : ((f.length : Int) == 0) = false := by rw [beq_eq_false_iff_ne];omega
   have z1 : ((f.length : Int) == 1) = false := by rw [beq_eq_false_iff_ne];omega
   (refine aLb ?_)
   refine W_seq ?_
   ((first | refine W_seqV ?_ | refine W_seq (W_seqV ?_) | refine W_regV ?_);intro K hK;(refine sLb ?_;try exact True.intro))
   (repeat refine aI ?_);refine hK _ ?_;clear hK K
   refine W_block ?_
   refine W_seq ?_
   ((first | refine W_seqV ?_ | refine W_seq (W_seqV ?_) | refine W_regV ?_);intro K hK;(refine sLbX z0 ?_;try exact True.intro))
   (repeat refine aI ?_);refine hK _ ?_;clear hK K
   (first | refine W_cf rfl ?_ | refine W_seq (W_cf rfl ?_))
   refine W_seq ?_
   ((first | refine W_seqV ?_ | refine W_seq (W_seqV ?_) | refine W_regV ?_);intro K hK;(refine sLbX z1 ?_;try exact True.intro))
   (repeat refine aI ?_);refine hK _ ?_;clear hK K
   (first | refine W_cf rfl ?_ | refine W_seq (W_cf rfl ?_))
   refine W_skip ?_
   simp only [thenW,blockW]
   have hw : IntKind.wrap .i64 ((f.length : Int).tdiv 2) = ((f.length / 2 : Nat) : Int) := by
    rw [show (f.length : Int).tdiv 2 = ((f.length / 2 : Nat) : Int) from rfl]
    exact wrap_i64_nat (by omega)
   ((first | refine W_seqV ?_ | refine W_seq (W_seqV ?_) | refine W_regV ?_);intro K hK;(refine sLbX hw ?_;try exact True.intro))
   (repeat refine aI ?_);refine hK _ ?_;clear hK K
   ((first | refine W_seqS mixed 8 [] (by kernel_rfl) ?_ | refine W_seq (W_seqS mixed 8 [] (by kernel_rfl) ?_) | refine W_regS mixed 8 [] (by kernel_rfl) ?_);intro K hK;(refine sLb ?_;try exact True.intro))
   ((repeat refine aI ?_);refine ⟨by kernel_rfl,_,.pure rfl (ht'),?_⟩;(try (refine sLb ?_;try exact True.intro));(repeat refine aI ?_))
   ((repeat refine aI ?_);refine ⟨by kernel_rfl,_,.pure rfl (hd'),?_⟩;(try (refine sLb ?_;try exact True.intro));(repeat refine aI ?_))
   ((repeat refine aI ?_);refine ⟨by kernel_rfl,call_new 38 rfl rfl (hs) fun rows hr => ?_⟩;subst hr;(try (refine sLb ?_;try exact True.intro)))
   (repeat refine aI ?_);refine hK _ ?_;clear hK K
   refine W_ret ?_
   (refine qG ?_;try exact True.intro)
   exact ⟨tab rowQ (normF (vals f)),by simp,by simp [tab_length],rfl,rfl⟩
theorem lnorm_ok (f : List (Int × RR)) {B : Nat} (h : FOk f B) (hB : B < 17179869184) : Pure Tryz.prog 108 [cF f] (· = cL (normF (vals f))) :=
 (lnorm_new f h hB).pure.mono fun r h => by obtain ⟨rows,rfl,rfl⟩ := h;rfl
set_option maxHeartbeats 1000000 in
theorem ladd_new (f g : List (Int × RR)) {B C : Nat} (hf : FOk f B) (hg : FOk g C) (hs : B + C < 17179869184) : New Tryz.prog 130 [cF f,cF g] 55 4 (· = tab rowQ (normF (vals f ++ vals g))) := by
 have h1 := lnorm_ok f hf (by omega)
 have h2 := lnorm_ok g hg (by omega)
 have h3 := sum_new (normF (vals f)) (normF (vals g)) (hf.sz.norm.append hg.sz.norm) hs
 rw [norm_split] at h3
 (refine new_of_W (T := 55) (k := 4) Tryz.func130 rfl (rs := [Go.ResultVar.tmp 4]) rfl (nt := 10) rfl ?_;simp only [List.length_cons,List.length_nil,List.replicate,List.cons_append,List.nil_append])
 simp only [cF,cL] at h1 h2 h3 ⊢
 (refine aLb ?_)
 ((first | refine W_seqR ?_ | refine W_seq (W_seqR ?_));intro K hK;(refine sLb ?_;try exact True.intro))
 (refine ⟨by kernel_rfl,call_pure rfl (h1) fun r hr => ?_⟩;subst hr;(refine sLb ?_;try exact True.intro))
 (refine ⟨by kernel_rfl,call_pure rfl (h2) fun r hr => ?_⟩;subst hr;(refine sLb ?_;try exact True.intro))
 ((repeat refine aI ?_);refine ⟨by kernel_rfl,call_new 9 rfl rfl (h3) fun rows hr => ?_⟩;subst hr;(try (refine sLb ?_;try exact True.intro)))
 (repeat refine aI ?_);refine hK _ ?_;clear hK K
 refine W_ret ?_
 (refine qG ?_;try exact True.intro)
 exact ⟨tab rowQ (normF (vals f ++ vals g)),by simp,by simp [tab_length],rfl,rfl⟩
theorem ladd_ok (f g : List (Int × RR)) {B C : Nat} (hf : FOk f B) (hg : FOk g C) (hs : B + C < 17179869184) : Pure Tryz.prog 130 [cF f,cF g] (· = cL (normF (vals f ++ vals g))) :=
 (ladd_new f g hf hg hs).pure.mono fun r h => by obtain ⟨rows,rfl,rfl⟩ := h;rfl
set_option maxHeartbeats 4000000 in
theorem lscale_new (r : RR) (f : List (Int × RR)) {B : Nat} (hr : r.ok) (hf : FOk f B) (hs : nb r.v + B < 17179869184) :
  New Tryz.prog 131 [r.av,cF f] 55 4 (· = tab rowQ (if r.v = 0 then [] else scaleF r.v (normF (vals f)))) := by
 have hg := rsign_ok r hr
 have heq := rs_eq r.v
 have hn := lnorm_new f hf (by omega)
 have hsz := hf.sz.norm
 have hlen := hsz.l
 have hmul : ∀ p ∈ normF (vals f),Pure Tryz.prog 169 [r.av,cQ p.2] (· = cQ (r.v * p.2)) := fun p hp => by
  have hb := hsz.mem hp
  have := rmul_ok r (qr p.2) hr (qr_ok (by omega))
  rwa [qr_v] at this
 generalize normF (vals f) = l at *
 obtain ⟨neg,n,d⟩ := r
 simp only [RR.av] at hg hmul ⊢
 generalize RR.v _ = c at *
 by_cases h0 : c = 0
 ·rw [decide_eq_true h0] at heq
  rw [if_pos h0]
  (refine new_of_W (T := 55) (k := 4) Tryz.func131 rfl (rs := [Go.ResultVar.tmp 4]) rfl (nt := 30) rfl ?_;simp only [List.length_cons,List.length_nil,List.replicate,List.cons_append,List.nil_append])
  simp only [cF]
  (refine aLb ?_)
  refine W_seq ?_
  ((first | refine W_seqV ?_ | refine W_seq (W_seqV ?_) | refine W_regV ?_);intro K hK;(refine sLb ?_;try exact True.intro))
  ((repeat refine aI ?_);refine ⟨by kernel_rfl,_,.pure rfl (hg),?_⟩;(try (refine sLb ?_;try exact True.intro));(repeat refine aI ?_))
  (refine sLbX heq ?_;try exact True.intro)
  (repeat refine aI ?_);refine hK _ ?_;clear hK K
  (first | refine W_ct rfl ?_ | refine W_seq (W_ct rfl ?_))
  ((first | refine W_seqV ?_ | refine W_seq (W_seqV ?_) | refine W_regV ?_);intro K hK;(refine sLb ?_;try exact True.intro))
  (repeat refine aI ?_);refine hK _ ?_;clear hK K
  refine W_ret ?_
  (refine qG ?_;try exact True.intro)
  rfl
 ·rw [decide_eq_false h0] at heq
  rw [if_neg h0]
  (refine new_of_W (T := 55) (k := 4) Tryz.func131 rfl (rs := [Go.ResultVar.tmp 4]) rfl (nt := 30) rfl ?_;simp only [List.length_cons,List.length_nil,List.replicate,List.cons_append,List.nil_append])
  simp only [cF] at hn ⊢
  (refine aLb ?_)
  refine W_seq ?_
  ((first | refine W_seqV ?_ | refine W_seq (W_seqV ?_) | refine W_regV ?_);intro K hK;(refine sLb ?_;try exact True.intro))
  ((repeat refine aI ?_);refine ⟨by kernel_rfl,_,.pure rfl (hg),?_⟩;(try (refine sLb ?_;try exact True.intro));(repeat refine aI ?_))
  (refine sLbX heq ?_;try exact True.intro)
  (repeat refine aI ?_);refine hK _ ?_;clear hK K
  (first | refine W_cf rfl ?_ | refine W_seq (W_cf rfl ?_))
  refine W_skip ?_
  simp only [thenW]
  ((first | refine W_seqR ?_ | refine W_seq (W_seqR ?_));intro K hK;(refine sLb ?_;try exact True.intro))
  ((repeat refine aI ?_);refine ⟨by kernel_rfl,call_new 11 rfl rfl (hn) fun rows hr => ?_⟩;subst hr;(try (refine sLb ?_;try exact True.intro)))
  (repeat refine aI ?_);refine hK _ ?_;clear hK K
  ((first | refine W_seqV ?_ | refine W_seq (W_seqV ?_) | refine W_regV ?_);intro K hK;(refine sLb ?_;try exact True.intro))
  (repeat refine aI ?_);refine hK _ ?_;clear hK K
  refine W_block (W_loop (fun t : {t : Nat // t ≤ l.length} =>
   ⟨[.any,.any,.ptr 2 0 0,.any,.any,.sref 11 0 l.length,.any,.any,.any,.any,.any,.any,.any,.int .i64 l.length,.int .i64 t.1,.any,.any,.any,.any,.any,.any,.any,.any,.any,.any,.any,.any,.any,.any,.any],[.dead,.dead,.arr 53 3 false [[.bool neg,.sl (u32s n),.sl (u32s d)]],.dead,.dead,.dead,.dead,.dead,.dead,.dead,.dead,.arr 55 4 true (tab rowQ (scaleF c (l.take t.1) ++ l.drop t.1)),.dead,.dead,.dead,.dead,.dead,.dead,.dead,.dead,.dead,.dead,.dead,.dead,.dead,.dead,.dead,.dead,.dead,.dead]⟩) (fun t => l.length - t.1)
   ⟨0,by omega⟩ (Le_of (by simp [leE]) (by simp [scaleF])) fun t => ?_)
  obtain ⟨i,hi⟩ := t
  dsimp only
  have hle : (scaleF c (l.take i) ++ l.drop i).length = l.length := by simp [scaleF];omega
  by_cases hlt : i < l.length
  ·have hmem : l.getD i default ∈ l := by simp [List.getD_eq_getElem?_getD,hlt]
   have hX2 : (scaleF c (l.take i) ++ l.drop i).getD i default = l.getD i default := by
    have h1 : (scaleF c (l.take i)).length = i := by simp [scaleF];omega
    rw [List.getD_eq_getElem?_getD,List.getElem?_append_right (by omega),h1,List.getElem?_drop]
    simp [List.getD_eq_getElem?_getD]
   have hset : (scaleF c (l.take i) ++ l.drop i).set i ((l.getD i default).1,c * (l.getD i default).2) = scaleF c (l.take (i + 1)) ++ l.drop (i + 1) := by
    have h1 : (scaleF c (l.take i)).length = i := by simp [scaleF];omega
    rw [List.set_append_right _ _ (by omega),h1,Nat.sub_self,List.drop_eq_getElem_cons hlt,List.set_cons_zero,List.take_succ_eq_append_getElem hlt]
    simp only [scaleF,List.map_append,List.map_cons,List.map_nil,List.append_assoc,List.cons_append,List.nil_append]
    simp [List.getD_eq_getElem?_getD,hlt]
   have hm := hmul _ hmem
   generalize hXe : scaleF c (l.take i) ++ l.drop i = X at *
   generalize hpe : l.getD i default = p at *
   have htset := congrArg (tab rowQ) hset
   rw [← tab_set] at htset
   have hcol : ((i : Nat) : Int) < ((l.length : Nat) : Int) := by omega
   have hXi : (tab rowQ X).getD i [] = rowQ p := by rw [tab_getD (by omega),hX2]
   simp only [rowQ] at htset hXi
   simp only [cQ] at hm
   refine W_seq ?_
   ((first | refine W_seqV ?_ | refine W_seq (W_seqV ?_) | refine W_regV ?_);intro K hK;(refine sLbX hlt ?_;try exact True.intro))
   (repeat refine aI ?_);refine hK _ ?_;clear hK K
   (first | refine W_ct rfl ?_ | refine W_seq (W_ct rfl ?_))
   refine W_skip ?_
   simp only [thenW]
   refine W_seq ?_
   refine W_block ?_
   ((first | refine W_seqV ?_ | refine W_seq (W_seqV ?_) | refine W_regV ?_);intro K hK;(refine sLb ?_;try exact True.intro))
   (repeat refine aI ?_);refine hK _ ?_;clear hK K
   ((first | refine W_regS mixed 11 [] (by kernel_rfl) fun K hK => ?_);(refine sLbX hXi ?_;try exact True.intro))
   ((repeat refine aI ?_);refine ⟨by kernel_rfl,_,.pure rfl (hm),?_⟩;(try (refine sLb ?_;try exact True.intro));(repeat refine aI ?_))
   (repeat refine aI ?_);refine hK _ ?_;clear hK K
   simp only [blockW,thenW]
   ((first | refine W_seqV ?_ | refine W_seq (W_seqV ?_) | refine W_regV ?_);intro K hK;(refine sLb ?_;try exact True.intro))
   (repeat refine aI ?_);refine hK _ ?_;clear hK K
   try simp only [blockW,thenW]
   refine ⟨⟨i + 1,by omega⟩,Le_drop (by simp [leE]) (by simp [leH,htset]) rfl rfl,?_⟩
   dsimp only
   omega
  ·obtain rfl : i = l.length := by omega
   refine W_seq ?_
   ((first | refine W_seqV ?_ | refine W_seq (W_seqV ?_) | refine W_regV ?_);intro K hK;(refine sLb ?_;try exact True.intro))
   (repeat refine aI ?_);refine hK _ ?_;clear hK K
   (first | refine W_cf rfl ?_ | refine W_seq (W_cf rfl ?_))
   refine W_exit ?_
   simp only [thenW,blockW,if_true]
   ((first | refine W_seqV ?_ | refine W_seq (W_seqV ?_) | refine W_regV ?_);intro K hK;(refine sLb ?_;try exact True.intro))
   (repeat refine aI ?_);refine hK _ ?_;clear hK K
   refine W_ret ?_
   (refine qG ?_;try exact True.intro)
   exact ⟨tab rowQ (scaleF c l),by simp,by simp [tab_length,scaleF],by simp,rfl⟩
theorem lscale_ok (r : RR) (f : List (Int × RR)) {B : Nat} (hr : r.ok) (hf : FOk f B) (hs : nb r.v + B < 17179869184) :
  Pure Tryz.prog 131 [r.av,cF f] (· = cL (if r.v = 0 then [] else scaleF r.v (normF (vals f)))) :=
 (lscale_new r f hr hf hs).pure.mono fun r h => by obtain ⟨rows,rfl,rfl⟩ := h;rfl
def negF (l : List (Int × Rat)) : List (Int × Rat) := scaleF (-1) l
theorem nbv_neg (l : List (Int × Rat)) (v : Int) : nbv (negF l) v = nbv l v := by
 induction l with
 | nil => rfl
 | cons p l ih =>
  simp only [negF,scaleF,List.map_cons,nbv] at *
  rw [ih,show (-1 : Rat) * p.2 = -p.2 by grind,nb_neg]
def subF (f g : List (Int × Rat)) : List (Int × Rat) := normF (f ++ negF (normF g))
theorem NF.sub (f g : List (Int × Rat)) : NF (subF f g) := NF.norm _
theorem Sz.neg {l : List (Int × Rat)} {B : Nat} (h : Sz l B) : Sz (negF l) B := ⟨fun v => by rw [nbv_neg];exact h.b v,by have := h.l;simpa [negF,scaleF] using this⟩
theorem Sz.sub {f g : List (Int × Rat)} {B C : Nat} (hf : Sz f B) (hg : Sz g C) : Sz (subF f g) (B + C) := (hf.append hg.norm.neg).norm
def cmpF (f g : List (Int × Rat)) : Int := match subF f g with | [] => 0 | p::_ => p.2.num.sign
end Go.Proofs.YtjmpajgjaefcjaaGreat.Vm
namespace Go.Proofs.YtjmpajgjaefcjaaGreat.Vm
open Go Go.RowKit
set_option maxRecDepth 100000
set_option linter.unusedVariables false
set_option linter.unusedSimpArgs false
set_option maxHeartbeats 2000000 in
theorem fnorm_new0 (l : List Nat) (hl : l.length < 1099511627776) : New Tryz.prog 116 [cNat l] 128 1 (· = u32s (trim l)) := by
 have hcl := cutLen_le l l.length
 (refine new_of_W (T := 128) (k := 1) Tryz.func116 rfl (rs := [Go.ResultVar.tmp 2]) rfl (nt := 35) rfl ?_;simp only [List.length_cons,List.length_nil,List.replicate,List.cons_append,List.nil_append])
 unfold cNat
 (refine aNa ?_)
 refine W_join (fun s' => Le [] s' ⟨[.sl (u32s l),.any,.nils,.int .i64 (cutLen l l.length),.any,.any,.any,.any,.any,.any,.any,.any,.any,.any,.any,.any,.any,.any,.any,.any,.any,.any,.any,.any,.any,.any,.any,.any,.any,.any,.any,.any,.any,.any,.any],[.dead,.dead,.dead,.dead,.dead,.dead,.dead,.dead,.dead,.dead,.dead,.dead,.dead,.dead,.dead,.dead,.dead,.dead,.dead,.dead,.dead,.dead,.dead,.dead,.dead,.dead,.dead,.dead,.dead,.dead,.dead,.dead,.dead,.dead,.dead]⟩) ?_ ?_
 ·refine W_block (W_loop (fun n : {n : Nat // n ≤ l.length ∧ cutLen l n = cutLen l l.length} => ⟨[.sl (u32s l),.any,.nils,.int .i64 n.1,.any,.any,.any,.any,.any,.any,.any,.any,.any,.any,.any,.any,.any,.any,.any,.any,.any,.any,.any,.any,.any,.any,.any,.any,.any,.any,.any,.any,.any,.any,.any],[.dead,.dead,.dead,.dead,.dead,.dead,.dead,.dead,.dead,.dead,.dead,.dead,.dead,.dead,.dead,.dead,.dead,.dead,.dead,.dead,.dead,.dead,.dead,.dead,.dead,.dead,.dead,.dead,.dead,.dead,.dead,.dead,.dead,.dead,.dead]⟩) (fun n => n.1) ⟨l.length,Nat.le_refl _,rfl⟩ (Le_of (by simp [leE]) rfl) fun n => ?_)
  obtain ⟨n,hn,hc⟩ := n
  refine W_seq ?_
  dsimp only
  rcases Nat.eq_zero_or_pos n with rfl | hpos
  ·((first | refine W_seqV ?_ | refine W_seq (W_seqV ?_) | refine W_regV ?_);intro K hK;(refine sNa ?_;try exact True.intro))
   (repeat refine aI ?_);refine hK _ ?_;clear hK K
   (first | refine W_cf rfl ?_ | refine W_seq (W_cf rfl ?_))
   refine W_exit ?_
   simp only [thenW,blockW,if_true]
   rw [← hc]
   exact Le_of (by simp [leE,cutLen]) rfl
  ·((first | refine W_seqV ?_ | refine W_seq (W_seqV ?_) | refine W_regV ?_);intro K hK;(refine sNaX hpos ?_;try exact True.intro))
   (repeat refine aI ?_);refine hK _ ?_;clear hK K
   refine W_cond rfl (fun h => ?_) (fun h => ?_)
   ·refine W_skip ?_
    simp only [thenW]
    refine W_block ?_
    ((first | refine W_seqV ?_ | refine W_seq (W_seqV ?_) | refine W_regV ?_);intro K hK;(refine sNa ?_;try exact True.intro))
    (repeat refine aI ?_);refine hK _ ?_;clear hK K
    simp only [thenW,blockW]
    refine ⟨⟨n - 1,by omega,?_⟩,Le_of (by simp [leE]) rfl,?_⟩
    ·rw [← hc]
     obtain ⟨m,rfl⟩ : ∃ m,n = m + 1 := ⟨n - 1,by omega⟩
     simp at h
     simp only [cutLen,Nat.add_sub_cancel,List.getD_eq_getElem?_getD,h,if_true]
    ·simp;omega
   ·refine W_exit ?_
    simp only [thenW,blockW,if_true]
    rw [← hc]
    obtain ⟨m,rfl⟩ : ∃ m,n = m + 1 := ⟨n - 1,by omega⟩
    simp at h
    refine Le_of ?_ rfl
    simp only [leE,cutLen,List.getD_eq_getElem?_getD,h,if_false]
    simp
 intro s' hle
 refine W.le ?_ hle
 clear hle s'
 unfold trim
 generalize cutLen l l.length = n at *
 ((first | refine W_seqR ?_ | refine W_seq (W_seqR ?_));intro K hK;(refine sNa ?_;try exact True.intro))
 (repeat refine aI ?_);refine hK _ ?_;clear hK K
 ((first | refine W_seqV ?_ | refine W_seq (W_seqV ?_) | refine W_regV ?_);intro K hK;(refine sNa ?_;try exact True.intro))
 (repeat refine aI ?_);refine hK _ ?_;clear hK K
 refine W_block (W_loop (fun t : {t : Nat × List Nat // t.1 ≤ n ∧ t.2.length = n ∧ t.2.take t.1 = l.take t.1} => ⟨[.sl (u32s l),.any,.nils,.int .i64 n,.sref 21 0 n,.int .i64 t.1.1,.any,.any,.any,.any,.any,.any,.any,.any,.any,.any,.any,.any,.any,.any,.any,.any,.any,.any,.any,.any,.any,.any,.any,.any,.any,.any,.any,.any,.any],[.dead,.dead,.dead,.dead,.dead,.dead,.dead,.dead,.dead,.dead,.dead,.dead,.dead,.dead,.dead,.dead,.dead,.dead,.dead,.dead,.dead,.arr 128 1 true (u32s t.1.2),.dead,.dead,.dead,.dead,.dead,.dead,.dead,.dead,.dead,.dead,.dead,.dead,.dead]⟩) (fun t => n - t.1.1) ⟨(0,List.replicate n 0),by simp,by simp,by simp⟩ (Le_of (by simp [leE]) (by simp)) fun t => ?_)
 obtain ⟨⟨i,c⟩,hi,hc,ht⟩ := t
 dsimp only at hi hc ht ⊢
 by_cases hlt : i < n
 ·refine W_seq ?_
  ((first | refine W_seqV ?_ | refine W_seq (W_seqV ?_) | refine W_regV ?_);intro K hK;(refine sNaX hlt ?_;try exact True.intro))
  (repeat refine aI ?_);refine hK _ ?_;clear hK K
  (first | refine W_ct rfl ?_ | refine W_seq (W_ct rfl ?_))
  refine W_skip ?_
  simp only [thenW]
  refine W_seq ?_
  refine W_block ?_
  ((first | refine W_seqV ?_ | refine W_seq (W_seqV ?_) | refine W_regV ?_);intro K hK;(refine sNa ?_;try exact True.intro))
  (repeat refine aI ?_);refine hK _ ?_;clear hK K
  simp only [thenW,blockW]
  ((first | refine W_seqV ?_ | refine W_seq (W_seqV ?_) | refine W_regV ?_);intro K hK;(refine sNa ?_;try exact True.intro))
  (repeat refine aI ?_);refine hK _ ?_;clear hK K
  simp only [thenW,blockW]
  refine ⟨⟨(i + 1,c.set i (l.getD i 0)),by dsimp only;omega,by simpa using hc,?_⟩,Le_of (by simp [leE]) (by simp),by dsimp only;omega⟩
  dsimp only
  rw [take_set_succ (by omega),ht,List.take_succ_eq_append_getElem (by omega)]
  congr 1
  simp [List.getD_eq_getElem?_getD,show i < l.length by omega]
 ·obtain rfl : i = n := by omega
  refine W_seq ?_
  ((first | refine W_seqV ?_ | refine W_seq (W_seqV ?_) | refine W_regV ?_);intro K hK;(refine sNa ?_;try exact True.intro))
  (repeat refine aI ?_);refine hK _ ?_;clear hK K
  (first | refine W_cf rfl ?_ | refine W_seq (W_cf rfl ?_))
  refine W_exit ?_
  simp only [thenW,blockW,if_true]
  ((first | refine W_seqV ?_ | refine W_seq (W_seqV ?_) | refine W_regV ?_);intro K hK;(refine sNa ?_;try exact True.intro))
  (repeat refine aI ?_);refine hK _ ?_;clear hK K
  refine W_ret ?_
  (refine qG ?_;try exact True.intro)
  rw [List.take_of_length_le (by omega)] at ht
  exact ⟨u32s c,by simp,by simp [u32s_length,hc],rfl,by rw [ht]⟩
theorem fnorm_new (l : List Nat) (h : Limbs l) (hl : l.length < 1099511627776) : New Tryz.prog 116 [cNat l] 128 1 (· = u32s (limbs (val l))) := by
 have := fnorm_new0 l hl
 rwa [trim_eq h] at this
theorem fnorm_ok (l : List Nat) (h : Limbs l) (hl : l.length < 1099511627776) : Pure Tryz.prog 116 [cNat l] (· = cN (val l)) :=
 (fnorm_new l h hl).pure.mono fun r h => by obtain ⟨rows,rfl,rfl⟩ := h;rfl
set_option maxHeartbeats 1000000 in
theorem at_ok (l : List Nat) (hL : Limbs l) (i : Nat) : Pure Tryz.prog 190 [cNat l,.int .i64 i] (· = .int .u64 (l.getD i 0)) := by
 (refine pureW Tryz.func190 rfl (rs := [Go.ResultVar.tmp 4]) rfl (n := 14) rfl ?_;simp only [List.length_cons,List.length_nil,List.replicate,List.cons_append,List.nil_append])
 unfold cNat
 by_cases hlt : i < l.length
 ·have hge : decide (l.length ≤ i) = false := decide_eq_false (by omega)
  (refine aNa ?_)
  refine W_seq ?_
  ((first | refine W_seqV ?_ | refine W_seq (W_seqV ?_) | refine W_regV ?_);intro K hK;(refine sNaX hge ?_;try exact True.intro))
  (repeat refine aI ?_);refine hK _ ?_;clear hK K
  (first | refine W_cf rfl ?_ | refine W_seq (W_cf rfl ?_))
  refine W_skip ?_
  simp only [thenW]
  have hx := hL.getD i
  ((first | refine W_seqV ?_ | refine W_seq (W_seqV ?_) | refine W_regV ?_);intro K hK;(refine sNaX hlt ?_;try exact True.intro))
  (repeat refine aI ?_);refine hK _ ?_;clear hK K
  refine W_ret ?_
  (refine qG ?_;try exact True.intro)
 ·have hge : decide (l.length ≤ i) = true := decide_eq_true (by omega)
  (refine aNa ?_)
  refine W_seq ?_
  ((first | refine W_seqV ?_ | refine W_seq (W_seqV ?_) | refine W_regV ?_);intro K hK;(refine sNaX hge ?_;try exact True.intro))
  (repeat refine aI ?_);refine hK _ ?_;clear hK K
  (first | refine W_ct rfl ?_ | refine W_seq (W_ct rfl ?_))
  ((first | refine W_seqV ?_ | refine W_seq (W_seqV ?_) | refine W_regV ?_);intro K hK;(refine sNa ?_;try exact True.intro))
  (repeat refine aI ?_);refine hK _ ?_;clear hK K
  refine W_ret ?_
  (refine qG ?_;try exact True.intro)
  simp [List.getD_eq_getElem?_getD,List.getElem?_eq_none (show l.length ≤ i by omega)]
theorem cmp_lt {l m : List Nat} (hl : Limbs l) {i : Nat} (h : val l + val (m.take (i + 1)) = val m + val (l.take (i + 1))) (hlt : l.getD i 0 < m.getD i 0) : val l < val m := by
 rw [val_take_succ,val_take_succ] at h
 have h1 := val_lt (hl.take i)
 have h2 : 4294967296 ^ (l.take i).length ≤ 4294967296 ^ i := Nat.pow_le_pow_right (by omega) (by rw [List.length_take];omega)
 have h3 : 4294967296 ^ i * (l.getD i 0 + 1) ≤ 4294967296 ^ i * m.getD i 0 := Nat.mul_le_mul_left _ hlt
 rw [Nat.mul_add] at h3
 omega
theorem cmp_eq {l m : List Nat} {i : Nat} (h : val l + val (m.take (i + 1)) = val m + val (l.take (i + 1))) (he : l.getD i 0 = m.getD i 0) : val l + val (m.take i) = val m + val (l.take i) := by
 rw [val_take_succ,val_take_succ,he] at h
 omega
set_option maxHeartbeats 4000000 in
theorem fcmp_ok (l m : List Nat) (hl : Limbs l) (hm : Limbs m) (h1 : l.length < 1099511627776) (h2 : m.length < 1099511627776) : Pure Tryz.prog 150 [cNat l,cNat m] (· = .int .i64 (sgn (val l) (val m))) := by
 obtain ⟨N,hN⟩ : ∃ N,N = max l.length m.length := ⟨_,rfl⟩
 (refine pureW Tryz.func150 rfl (rs := [Go.ResultVar.tmp 4]) rfl (n := 35) rfl ?_;simp only [List.length_cons,List.length_nil,List.replicate,List.cons_append,List.nil_append])
 unfold cNat
 (refine aNa ?_)
 refine W_join (fun s' => Le [] s' ⟨[.sl (u32s l),.sl (u32s m),.any,.any,.int .i64 0,.int .i64 (N : Int),.any,.any,.any,.any,.any,.any,.any,.any,.any,.any,.any,.any,.any,.any,.any,.any,.any,.any,.any,.any,.any,.any,.any,.any,.any,.any,.any,.any,.any],[.dead,.dead,.dead,.dead,.dead,.dead,.dead,.dead,.dead,.dead,.dead,.dead,.dead,.dead,.dead,.dead,.dead,.dead,.dead,.dead,.dead,.dead,.dead,.dead,.dead,.dead,.dead,.dead,.dead,.dead,.dead,.dead,.dead,.dead,.dead]⟩) ?_ ?_
 ·by_cases hgt : l.length < m.length
  ·((first | refine W_seqV ?_ | refine W_seq (W_seqV ?_) | refine W_regV ?_);intro K hK;(refine sNaX hgt ?_;try exact True.intro))
   (repeat refine aI ?_);refine hK _ ?_;clear hK K
   (first | refine W_ct rfl ?_ | refine W_seq (W_ct rfl ?_))
   ((first | refine W_seqV ?_ | refine W_seq (W_seqV ?_) | refine W_regV ?_);intro K hK;(refine sNa ?_;try exact True.intro))
   (repeat refine aI ?_);refine hK _ ?_;clear hK K
   simp only [thenW]
   exact Le_of (by simp [leE];omega) rfl
  ·have hgt' : decide (l.length < m.length) = false := decide_eq_false hgt
   ((first | refine W_seqV ?_ | refine W_seq (W_seqV ?_) | refine W_regV ?_);intro K hK;(refine sNaX hgt' ?_;try exact True.intro))
   (repeat refine aI ?_);refine hK _ ?_;clear hK K
   (first | refine W_cf rfl ?_ | refine W_seq (W_cf rfl ?_))
   refine W_skip ?_
   simp only [thenW]
   exact Le_of (by simp [leE];omega) rfl
 intro s' hle
 refine W.le ?_ hle
 clear hle s'
 have hwN : IntKind.wrap .i64 ((N : Int) - 1) = (N : Int) - 1 := wrap_i64 (by omega) (by omega)
 ((first | refine W_seqV ?_ | refine W_seq (W_seqV ?_) | refine W_regV ?_);intro K hK;(refine sNaX hwN ?_;try exact True.intro))
 (repeat refine aI ?_);refine hK _ ?_;clear hK K
 refine W_block (W_loop (fun t : {t : Nat // t ≤ N ∧ val l + val (m.take t) = val m + val (l.take t)} => ⟨[.sl (u32s l),.sl (u32s m),.any,.any,.int .i64 0,.any,.int .i64 ((t.1 : Int) - 1),.any,.any,.any,.any,.any,.any,.any,.any,.any,.any,.any,.any,.any,.any,.any,.any,.any,.any,.any,.any,.any,.any,.any,.any,.any,.any,.any,.any],[.dead,.dead,.dead,.dead,.dead,.dead,.dead,.dead,.dead,.dead,.dead,.dead,.dead,.dead,.dead,.dead,.dead,.dead,.dead,.dead,.dead,.dead,.dead,.dead,.dead,.dead,.dead,.dead,.dead,.dead,.dead,.dead,.dead,.dead,.dead]⟩) (fun t => t.1) ⟨N,Nat.le_refl _,by rw [List.take_of_length_le (by omega),List.take_of_length_le (by omega)];omega⟩ (Le_of (by simp [leE]) rfl) fun t => ?_)
 obtain ⟨i,hi,hv⟩ := t
 dsimp only
 rcases i with _ | i
 ·have hz : decide (((0 : Nat) : Int) - 1 ≥ 0) = false := by decide
  refine W_seq ?_
  ((first | refine W_seqV ?_ | refine W_seq (W_seqV ?_) | refine W_regV ?_);intro K hK;(refine sNa ?_;try exact True.intro))
  (repeat refine aI ?_);refine hK _ ?_;clear hK K
  (first | refine W_cf rfl ?_ | refine W_seq (W_cf rfl ?_))
  refine W_exit ?_
  simp only [thenW,blockW,if_true]
  ((first | refine W_seqV ?_ | refine W_seq (W_seqV ?_) | refine W_regV ?_);intro K hK;(refine sNa ?_;try exact True.intro))
  (repeat refine aI ?_);refine hK _ ?_;clear hK K
  refine W_ret ?_
  (refine qG ?_;try exact True.intro)
  have he : val l = val m := by simpa [val] using hv
  simp [he]
 ·have hj : ((i + 1 : Nat) : Int) - 1 = i := by omega
  have ha := at_ok l hl i
  have hb := at_ok m hm i
  simp only [cNat] at ha hb
  rw [hj]
  refine W_seq ?_
  ((first | refine W_seqV ?_ | refine W_seq (W_seqV ?_) | refine W_regV ?_);intro K hK;(refine sNa ?_;try exact True.intro))
  (repeat refine aI ?_);refine hK _ ?_;clear hK K
  (first | refine W_ct rfl ?_ | refine W_seq (W_ct rfl ?_))
  refine W_skip ?_
  simp only [thenW]
  refine W_seq (W_block ?_)
  refine W_seq ?_
  ((first | refine W_seqV ?_ | refine W_seq (W_seqV ?_) | refine W_regV ?_);intro K hK;(refine sNa ?_;try exact True.intro))
  ((repeat refine aI ?_);refine ⟨by kernel_rfl,_,.pure rfl (ha),?_⟩;(try (refine sNa ?_;try exact True.intro));(repeat refine aI ?_))
  ((repeat refine aI ?_);refine ⟨by kernel_rfl,_,.pure rfl (hb),?_⟩;(try (refine sNa ?_;try exact True.intro));(repeat refine aI ?_))
  (repeat refine aI ?_);refine hK _ ?_;clear hK K
  by_cases hlt : l.getD i 0 < m.getD i 0
  ·have hlv := cmp_lt hl hv hlt
   have hz : decide (l.getD i 0 < m.getD i 0) = true := decide_eq_true hlt
   rw [hz]
   (first | refine W_ct rfl ?_ | refine W_seq (W_ct rfl ?_))
   ((first | refine W_seqV ?_ | refine W_seq (W_seqV ?_) | refine W_regV ?_);intro K hK;(refine sNa ?_;try exact True.intro))
   (repeat refine aI ?_);refine hK _ ?_;clear hK K
   refine W_ret ?_
   (refine qG ?_;try exact True.intro)
   simp [sgn,hlv]
  have hz : decide (l.getD i 0 < m.getD i 0) = false := decide_eq_false hlt
  rw [hz]
  (first | refine W_cf rfl ?_ | refine W_seq (W_cf rfl ?_))
  refine W_skip ?_
  simp only [thenW]
  ((first | refine W_seqV ?_ | refine W_seq (W_seqV ?_) | refine W_regV ?_);intro K hK;(refine sNa ?_;try exact True.intro))
  ((repeat refine aI ?_);refine ⟨by kernel_rfl,_,.pure rfl (ha),?_⟩;(try (refine sNa ?_;try exact True.intro));(repeat refine aI ?_))
  ((repeat refine aI ?_);refine ⟨by kernel_rfl,_,.pure rfl (hb),?_⟩;(try (refine sNa ?_;try exact True.intro));(repeat refine aI ?_))
  (repeat refine aI ?_);refine hK _ ?_;clear hK K
  by_cases hgt : m.getD i 0 < l.getD i 0
  ·have hlv := cmp_lt hm hv.symm hgt
   have hz : decide (m.getD i 0 < l.getD i 0) = true := decide_eq_true hgt
   rw [hz]
   (first | refine W_ct rfl ?_ | refine W_seq (W_ct rfl ?_))
   ((first | refine W_seqV ?_ | refine W_seq (W_seqV ?_) | refine W_regV ?_);intro K hK;(refine sNa ?_;try exact True.intro))
   (repeat refine aI ?_);refine hK _ ?_;clear hK K
   refine W_ret ?_
   (refine qG ?_;try exact True.intro)
   simp [sgn,hlv,Nat.lt_asymm hlv]
  have hz : decide (m.getD i 0 < l.getD i 0) = false := decide_eq_false hgt
  rw [hz]
  (first | refine W_cf rfl ?_ | refine W_seq (W_cf rfl ?_))
  refine W_skip ?_
  simp only [thenW,blockW]
  have hwi : IntKind.wrap .i64 ((i : Int) - 1) = (i : Int) - 1 := wrap_i64 (by omega) (by omega)
  ((first | refine W_seqV ?_ | refine W_seq (W_seqV ?_) | refine W_regV ?_);intro K hK;(refine sNaX hwi ?_;try exact True.intro))
  (repeat refine aI ?_);refine hK _ ?_;clear hK K
  simp only [thenW,blockW]
  exact ⟨⟨i,by omega,cmp_eq hv (by omega)⟩,Le_of (by simp [leE]) rfl,by dsimp only;omega⟩
end Go.Proofs.YtjmpajgjaefcjaaGreat.Vm
namespace Go.Proofs.YtjmpajgjaefcjaaGreat.Vm
open Go Go.RowKit
set_option maxRecDepth 100000
set_option linter.unusedVariables false
set_option linter.unusedSimpArgs false
theorem add_end {l m : List Nat} {N k v : Nat} (hl : Limbs l) (hm : Limbs m) (h1 : l.length ≤ N) (h2 : m.length ≤ N) (hk : k ≤ 1) (h : v + 4294967296 ^ (N + 1) * k = val l + val m) : k = 0 := by
 rcases Nat.eq_zero_or_pos k with h0 | h0
 ·exact h0
 ·have e1 : k = 1 := by omega
  subst e1
  have b1 := val_lt hl
  have b2 := val_lt hm
  have b3 : 4294967296 ^ l.length ≤ 4294967296 ^ N := Nat.pow_le_pow_right (by omega) h1
  have b4 : 4294967296 ^ m.length ≤ 4294967296 ^ N := Nat.pow_le_pow_right (by omega) h2
  rw [Nat.pow_succ] at h
  generalize 4294967296 ^ N = P at *
  omega
set_option maxHeartbeats 4000000 in
theorem fadd_ok (l m : List Nat) (hl : Limbs l) (hm : Limbs m) (h1 : l.length < 549755813888) (h2 : m.length < 549755813888) : Pure Tryz.prog 191 [cNat l,cNat m] (· = cN (val l + val m)) := by
 obtain ⟨N,hN⟩ : ∃ N,N = max l.length m.length := ⟨_,rfl⟩
 (refine pureW Tryz.func191 rfl (rs := [Go.ResultVar.tmp 4]) rfl (n := 44) rfl ?_;simp only [List.length_cons,List.length_nil,List.replicate,List.cons_append,List.nil_append])
 unfold cNat
 (refine aNa ?_)
 refine W_join (fun s' => Le [] s' ⟨[.sl (u32s l),.sl (u32s m),.any,.any,.any,.int .i64 (N : Int),.any,.any,.any,.any,.any,.any,.any,.any,.any,.any,.any,.any,.any,.any,.any,.any,.any,.any,.any,.any,.any,.any,.any,.any,.any,.any,.any,.any,.any,.any,.any,.any,.any,.any,.any,.any,.any,.any],[.dead,.dead,.dead,.dead,.dead,.dead,.dead,.dead,.dead,.dead,.dead,.dead,.dead,.dead,.dead,.dead,.dead,.dead,.dead,.dead,.dead,.dead,.dead,.dead,.dead,.dead,.dead,.dead,.dead,.dead,.dead,.dead,.dead,.dead,.dead,.dead,.dead,.dead,.dead,.dead,.dead,.dead,.dead,.dead]⟩) ?_ ?_
 ·by_cases hgt : l.length < m.length
  ·((first | refine W_seqV ?_ | refine W_seq (W_seqV ?_) | refine W_regV ?_);intro K hK;(refine sNaX hgt ?_;try exact True.intro))
   (repeat refine aI ?_);refine hK _ ?_;clear hK K
   (first | refine W_ct rfl ?_ | refine W_seq (W_ct rfl ?_))
   ((first | refine W_seqV ?_ | refine W_seq (W_seqV ?_) | refine W_regV ?_);intro K hK;(refine sNa ?_;try exact True.intro))
   (repeat refine aI ?_);refine hK _ ?_;clear hK K
   simp only [thenW]
   exact Le_of (by simp [leE];omega) rfl
  ·have hgt' : decide (l.length < m.length) = false := decide_eq_false hgt
   ((first | refine W_seqV ?_ | refine W_seq (W_seqV ?_) | refine W_regV ?_);intro K hK;(refine sNaX hgt' ?_;try exact True.intro))
   (repeat refine aI ?_);refine hK _ ?_;clear hK K
   (first | refine W_cf rfl ?_ | refine W_seq (W_cf rfl ?_))
   refine W_skip ?_
   simp only [thenW]
   exact Le_of (by simp [leE];omega) rfl
 intro s' hle
 refine W.le ?_ hle
 clear hle s'
 ((first | refine W_seqR ?_ | refine W_seq (W_seqR ?_));intro K hK;(refine sNa ?_;try exact True.intro))
 (repeat refine aI ?_);refine hK _ ?_;clear hK K
 (refine aNa ?_)
 refine W_seq ?_
 ((first | refine W_seqV ?_ | refine W_seq (W_seqV ?_) | refine W_regV ?_);intro K hK;(refine sNa ?_;try exact True.intro))
 (repeat refine aI ?_);refine hK _ ?_;clear hK K
 refine W_block (W_loop (fun t : {t : Nat × List Nat × Nat // t.1 ≤ N + 1 ∧ t.2.1.length = N + 1 ∧ Limbs t.2.1 ∧ t.2.2 ≤ 1 ∧ val (t.2.1.take t.1) + 4294967296 ^ t.1 * t.2.2 = val (l.take t.1) + val (m.take t.1)} =>
   ⟨[.sl (u32s l),.sl (u32s m),.any,.any,.any,.int .i64 (N : Int),.sref 20 0 (N + 1),.int .u64 t.1.2.2,.int .i64 t.1.1,.any,.any,.any,.any,.any,.any,.any,.any,.any,.any,.any,.any,.any,.any,.any,.any,.any,.any,.any,.any,.any,.any,.any,.any,.any,.any,.any,.any,.any,.any,.any,.any,.any,.any,.any],[.dead,.dead,.dead,.dead,.dead,.dead,.dead,.dead,.dead,.dead,.dead,.dead,.dead,.dead,.dead,.dead,.dead,.dead,.dead,.dead,.arr 128 1 true (u32s t.1.2.1),.dead,.dead,.dead,.dead,.dead,.dead,.dead,.dead,.dead,.dead,.dead,.dead,.dead,.dead,.dead,.dead,.dead,.dead,.dead,.dead,.dead,.dead,.dead]⟩) (fun t => N + 1 - t.1.1)
  ⟨(0,List.replicate (N + 1) 0,0),by simp,by simp,Limbs.rep _,by simp,by simp [val]⟩ (Le_of (by simp [leE]) (by simp)) fun t => ?_)
 obtain ⟨⟨i,c,k⟩,h3,h4,h5,h6,h7⟩ := t
 dsimp only at h3 h4 h5 h6 h7 ⊢
 by_cases hlt : i ≤ N
 ·have hx := hl.getD i
  have hy := hm.getD i
  have ha := at_ok l hl i
  have hb := at_ok m hm i
  simp only [cNat] at ha hb
  have hi : i < c.length := by omega
  refine W_seq ?_
  ((first | refine W_seqV ?_ | refine W_seq (W_seqV ?_) | refine W_regV ?_);intro K hK;(refine sNaX hlt ?_;try exact True.intro))
  (repeat refine aI ?_);refine hK _ ?_;clear hK K
  (first | refine W_ct rfl ?_ | refine W_seq (W_ct rfl ?_))
  refine W_skip ?_
  simp only [thenW]
  refine W_seq (W_block ?_)
  ((first | refine W_seqV ?_ | refine W_seq (W_seqV ?_) | refine W_regV ?_);intro K hK;(refine sNa ?_;try exact True.intro))
  ((repeat refine aI ?_);refine ⟨by kernel_rfl,_,.pure rfl (ha),?_⟩;(try (refine sNa ?_;try exact True.intro));(repeat refine aI ?_))
  ((repeat refine aI ?_);refine ⟨by kernel_rfl,_,.pure rfl (hb),?_⟩;(try (refine sNa ?_;try exact True.intro));(repeat refine aI ?_))
  (repeat refine aI ?_);refine hK _ ?_;clear hK K
  ((first | refine W_seqV ?_ | refine W_seq (W_seqV ?_) | refine W_regV ?_);intro K hK;(refine sNa ?_;try exact True.intro))
  (repeat refine aI ?_);refine hK _ ?_;clear hK K
  ((first | refine W_seqV ?_ | refine W_seq (W_seqV ?_) | refine W_regV ?_);intro K hK;(refine sNa ?_;try exact True.intro))
  (repeat refine aI ?_);refine hK _ ?_;clear hK K
  simp only [thenW,blockW]
  ((first | refine W_seqV ?_ | refine W_seq (W_seqV ?_) | refine W_regV ?_);intro K hK;(refine sNa ?_;try exact True.intro))
  (repeat refine aI ?_);refine hK _ ?_;clear hK K
  simp only [thenW,blockW]
  refine ⟨⟨(i + 1,c.set i ((l.getD i 0 + m.getD i 0 + k) % 4294967296),(l.getD i 0 + m.getD i 0 + k) / 4294967296),by dsimp only;omega,by simpa using h4,h5.set i (by omega),by dsimp only;omega,?_⟩,Le_of (by simp [leE]) (by simp),by dsimp only;omega⟩
  dsimp only
  rw [val_take_set hi,val_take_succ,val_take_succ,Nat.pow_succ]
  exact add_round h7 (by omega)
 ·obtain rfl : i = N + 1 := by omega
  have hlt' : (N + 1 ≤ N) = False := by simp
  rw [List.take_of_length_le (by omega),List.take_of_length_le (by omega),List.take_of_length_le (by omega)] at h7
  have hk : k = 0 := add_end hl hm (by omega) (by omega) h6 h7
  subst hk
  rw [Nat.mul_zero,Nat.add_zero] at h7
  refine W_seq ?_
  ((first | refine W_seqV ?_ | refine W_seq (W_seqV ?_) | refine W_regV ?_);intro K hK;(refine sNaX hlt' ?_;try exact True.intro))
  (repeat refine aI ?_);refine hK _ ?_;clear hK K
  (first | refine W_cf rfl ?_ | refine W_seq (W_cf rfl ?_))
  refine W_exit ?_
  simp only [thenW,blockW,if_true]
  (refine W.le ?_ (Le_freeze 20 (rows := u32s c) rfl (by simp) (.inl rfl));simp only [St.freeze,List.map_cons,List.map_nil,List.set,if_true,if_false,Nat.reduceEqDiff,reduceCtorEq,List.drop_zero,u32s_take,u32s_drop,froz_any,froz_und,froz_int,froz_bool,froz_str,froz_nils,froz_sl,froz_ia,froz_nilp,froz_nilif,froz_nilfn,froz_nilmp,froz_gl,froz_sref,froz_ptr,froz_agg,froz_tup,froz_fn,froz_ifc,frozs_nil,frozs_cons,froz_dead,froz_arr,froz_mp,froz_it,froz_md,froz_map,froz_iter])
  rw [List.take_of_length_le (by omega)]
  ((first | refine W_seqV ?_ | refine W_seq (W_seqV ?_) | refine W_regV ?_);intro K hK;(refine sNa ?_;try exact True.intro))
  ((repeat refine aI ?_);refine ⟨by kernel_rfl,_,.pure rfl (fnorm_ok c h5 (by omega)),?_⟩;(try (refine sNa ?_;try exact True.intro));(repeat refine aI ?_))
  (repeat refine aI ?_);refine hK _ ?_;clear hK K
  refine W_ret ?_
  (refine qG ?_;try exact True.intro)
  rw [h7]
theorem usub64 {x y k : Nat} (hx : x < 4294967296) (hy : y < 4294967296) (hk : k ≤ 1) : IntKind.wrap .u64 (IntKind.wrap .u64 ((x : Int) - (y : Int)) - (k : Int)) = (((x + 18446744073709551616 - y - k) % 18446744073709551616 : Nat) : Int) := by
 unfold IntKind.wrap
 simp [IntKind.bits,IntKind.signed]
 omega
theorem usub_lo {x y k : Nat} (hx : x < 4294967296) (hy : y < 4294967296) (hk : k ≤ 1) : (x + 18446744073709551616 - y - k) % 18446744073709551616 % 4294967296 + y + k = x + 4294967296 * (if x < y + k then 1 else 0) := by
 split <;> omega
theorem usub_hi {x y k : Nat} (hx : x < 4294967296) (hy : y < 4294967296) (hk : k ≤ 1) : (x + 18446744073709551616 - y - k) % 18446744073709551616 / 9223372036854775808 = if x < y + k then 1 else 0 := by
 split <;> omega
theorem val_take_of_lt {m : List Nat} {n : Nat} (h : val m < 4294967296 ^ n) : val (m.take n) = val m := by
 by_cases hn : n ≤ m.length
 ·have h1 := val_drop_split m n hn
  generalize 4294967296 ^ n = P at *
  rcases Nat.eq_zero_or_pos (val (m.drop n)) with h0 | h0
  ·rw [h0,Nat.mul_zero,Nat.add_zero] at h1
   exact h1.symm
  ·have : P * 1 ≤ P * val (m.drop n) := Nat.mul_le_mul_left _ h0
   omega
 ·rw [List.take_of_length_le (by omega)]
theorem sub_end {l m c : List Nat} {k : Nat} (hc : Limbs c) (hcl : c.length = l.length) (hk : k ≤ 1) (hle : val m ≤ val l) (h : val c + val m = val l + 4294967296 ^ l.length * k) : k = 0 ∧ val c = val l - val m := by
 have h1 := val_lt hc
 rw [hcl] at h1
 generalize 4294967296 ^ l.length = P at *
 have hk0 : k = 0 := by
  rcases Nat.eq_zero_or_pos k with h0 | h0
  ·exact h0
  ·have : k = 1 := by omega
   subst this
   omega
 subst hk0
 omega
set_option maxHeartbeats 4000000 in
theorem fsub_ok (l m : List Nat) (hl : Limbs l) (hm : Limbs m) (h1 : l.length < 549755813888) (h2 : m.length < 549755813888) (hle : val m ≤ val l) : Pure Tryz.prog 153 [cNat l,cNat m] (· = .tup [cN (val l - val m),.int .i64 0]) := by
 have hcmp := fcmp_ok l m hl hm (by omega) (by omega)
 have hs := sgn_ge (a := val l) (b := val m) (by omega)
 simp only [cNat] at hcmp
 (refine pureW Tryz.func153 rfl (rs := [Go.ResultVar.tmp 4,Go.ResultVar.tmp 5]) rfl (n := 41) rfl ?_;simp only [List.length_cons,List.length_nil,List.replicate,List.cons_append,List.nil_append])
 unfold cNat
 (refine aNa ?_)
 refine W_seq ?_
 ((first | refine W_seqV ?_ | refine W_seq (W_seqV ?_) | refine W_regV ?_);intro K hK;(refine sNa ?_;try exact True.intro))
 ((repeat refine aI ?_);refine ⟨by kernel_rfl,_,.pure rfl (hcmp),?_⟩;(try (refine sNa ?_;try exact True.intro));(repeat refine aI ?_))
 (refine sNaX hs ?_;try exact True.intro)
 (repeat refine aI ?_);refine hK _ ?_;clear hK K
 (first | refine W_cf rfl ?_ | refine W_seq (W_cf rfl ?_))
 refine W_skip ?_
 simp only [thenW]
 ((first | refine W_seqR ?_ | refine W_seq (W_seqR ?_));intro K hK;(refine sNa ?_;try exact True.intro))
 (repeat refine aI ?_);refine hK _ ?_;clear hK K
 (refine aNa ?_)
 refine W_seq ?_
 ((first | refine W_seqV ?_ | refine W_seq (W_seqV ?_) | refine W_regV ?_);intro K hK;(refine sNa ?_;try exact True.intro))
 (repeat refine aI ?_);refine hK _ ?_;clear hK K
 refine W_block (W_loop (fun t : {t : Nat × List Nat × Nat // t.1 ≤ l.length ∧ t.2.1.length = l.length ∧ Limbs t.2.1 ∧ t.2.2 ≤ 1 ∧ val (t.2.1.take t.1) + val (m.take t.1) = val (l.take t.1) + 4294967296 ^ t.1 * t.2.2} =>
   ⟨[.sl (u32s l),.sl (u32s m),.any,.any,.any,.int .i64 0,.sref 16 0 l.length,.int .u64 t.1.2.2,.int .i64 t.1.1,.any,.any,.any,.any,.any,.any,.any,.any,.any,.any,.any,.any,.any,.any,.any,.any,.any,.any,.any,.any,.any,.any,.any,.any,.any,.any,.any,.any,.any,.any,.any,.any],[.dead,.dead,.dead,.dead,.dead,.dead,.dead,.dead,.dead,.dead,.dead,.dead,.dead,.dead,.dead,.dead,.arr 128 1 true (u32s t.1.2.1),.dead,.dead,.dead,.dead,.dead,.dead,.dead,.dead,.dead,.dead,.dead,.dead,.dead,.dead,.dead,.dead,.dead,.dead,.dead,.dead,.dead,.dead,.dead,.dead]⟩) (fun t => l.length - t.1.1)
  ⟨(0,List.replicate l.length 0,0),by simp,by simp,Limbs.rep _,by simp,by simp [val]⟩ (Le_of (by simp [leE]) (by simp)) fun t => ?_)
 obtain ⟨⟨i,c,k⟩,h3,h4,h5,h6,h7⟩ := t
 dsimp only at h3 h4 h5 h6 h7 ⊢
 by_cases hlt : i < l.length
 ·have hx := hl.getD i
  have hy := hm.getD i
  have ha := at_ok l hl i
  have hb := at_ok m hm i
  simp only [cNat] at ha hb
  have hi : i < c.length := by omega
  have hw := usub64 hx hy h6
  have hlo := usub_lo hx hy h6
  have hhi := usub_hi hx hy h6
  refine W_seq ?_
  ((first | refine W_seqV ?_ | refine W_seq (W_seqV ?_) | refine W_regV ?_);intro K hK;(refine sNaX hlt ?_;try exact True.intro))
  (repeat refine aI ?_);refine hK _ ?_;clear hK K
  (first | refine W_ct rfl ?_ | refine W_seq (W_ct rfl ?_))
  refine W_skip ?_
  simp only [thenW]
  refine W_seq (W_block ?_)
  ((first | refine W_seqV ?_ | refine W_seq (W_seqV ?_) | refine W_regV ?_);intro K hK;(refine sNa ?_;try exact True.intro))
  ((repeat refine aI ?_);refine ⟨by kernel_rfl,_,.pure rfl (ha),?_⟩;(try (refine sNa ?_;try exact True.intro));(repeat refine aI ?_))
  ((repeat refine aI ?_);refine ⟨by kernel_rfl,_,.pure rfl (hb),?_⟩;(try (refine sNa ?_;try exact True.intro));(repeat refine aI ?_))
  (refine sNaX hw ?_;try exact True.intro)
  (repeat refine aI ?_);refine hK _ ?_;clear hK K
  generalize (l.getD i 0 + 18446744073709551616 - m.getD i 0 - k) % 18446744073709551616 = d at *
  ((first | refine W_seqV ?_ | refine W_seq (W_seqV ?_) | refine W_regV ?_);intro K hK;(refine sNa ?_;try exact True.intro))
  (repeat refine aI ?_);refine hK _ ?_;clear hK K
  ((first | refine W_seqV ?_ | refine W_seq (W_seqV ?_) | refine W_regV ?_);intro K hK;(refine sNaX hhi ?_;try exact True.intro))
  (repeat refine aI ?_);refine hK _ ?_;clear hK K
  simp only [thenW,blockW]
  ((first | refine W_seqV ?_ | refine W_seq (W_seqV ?_) | refine W_regV ?_);intro K hK;(refine sNa ?_;try exact True.intro))
  (repeat refine aI ?_);refine hK _ ?_;clear hK K
  simp only [thenW,blockW]
  refine ⟨⟨(i + 1,c.set i (d % 4294967296),if l.getD i 0 < m.getD i 0 + k then 1 else 0),by dsimp only;omega,by simpa using h4,h5.set i (by omega),by dsimp only;split <;> omega,?_⟩,Le_of (by simp [leE]) (by simp),by dsimp only;omega⟩
  dsimp only
  rw [val_take_set hi,val_take_succ,val_take_succ,Nat.pow_succ]
  exact sub_round h7 hlo
 ·obtain rfl : i = l.length := by omega
  have hml : m.length ≤ l.length ∨ l.length < m.length := by omega
  have h8 : val c + val m = val l + 4294967296 ^ l.length * k := by
   rw [List.take_length,List.take_of_length_le (by omega),val_take_of_lt (Nat.lt_of_le_of_lt hle (val_lt hl))] at h7
   exact h7
  obtain ⟨rfl,hv⟩ := sub_end h5 h4 h6 hle h8
  have hlt' : decide (l.length < l.length) = false := decide_eq_false (by omega)
  refine W_seq ?_
  ((first | refine W_seqV ?_ | refine W_seq (W_seqV ?_) | refine W_regV ?_);intro K hK;(refine sNaX hlt' ?_;try exact True.intro))
  (repeat refine aI ?_);refine hK _ ?_;clear hK K
  (first | refine W_cf rfl ?_ | refine W_seq (W_cf rfl ?_))
  refine W_exit ?_
  simp only [thenW,blockW,if_true]
  (refine W.le ?_ (Le_freeze 16 (rows := u32s c) rfl (by simp) (.inl rfl));simp only [St.freeze,List.map_cons,List.map_nil,List.set,if_true,if_false,Nat.reduceEqDiff,reduceCtorEq,List.drop_zero,u32s_take,u32s_drop,froz_any,froz_und,froz_int,froz_bool,froz_str,froz_nils,froz_sl,froz_ia,froz_nilp,froz_nilif,froz_nilfn,froz_nilmp,froz_gl,froz_sref,froz_ptr,froz_agg,froz_tup,froz_fn,froz_ifc,frozs_nil,frozs_cons,froz_dead,froz_arr,froz_mp,froz_it,froz_md,froz_map,froz_iter])
  rw [List.take_of_length_le (by omega)]
  ((first | refine W_seqV ?_ | refine W_seq (W_seqV ?_) | refine W_regV ?_);intro K hK;(refine sNa ?_;try exact True.intro))
  ((repeat refine aI ?_);refine ⟨by kernel_rfl,_,.pure rfl (fnorm_ok c h5 (by omega)),?_⟩;(try (refine sNa ?_;try exact True.intro));(repeat refine aI ?_))
  (repeat refine aI ?_);refine hK _ ?_;clear hK K
  refine W_ret ?_
  (refine qG ?_;try exact True.intro)
  rw [hv]
set_option maxHeartbeats 4000000 in
theorem fmul_ok (l m : List Nat) (hl : Limbs l) (hm : Limbs m) (h1 : l.length < 274877906944) (h2 : m.length < 274877906944) : Pure Tryz.prog 158 [cNat l,cNat m] (· = cN (val l * val m)) := by
 (refine pureW Tryz.func158 rfl (rs := [Go.ResultVar.tmp 4]) rfl (n := 68) rfl ?_;simp only [List.length_cons,List.length_nil,List.replicate,List.cons_append,List.nil_append])
 unfold cNat
 (refine aNa ?_)
 ((first | refine W_seqR ?_ | refine W_seq (W_seqR ?_));intro K hK;(refine sNa ?_;try exact True.intro))
 (repeat refine aI ?_);refine hK _ ?_;clear hK K
 refine W_block (W_loop (fun t : {t : Nat × List Nat // t.1 ≤ l.length ∧ t.2.length = l.length + m.length ∧ Limbs t.2 ∧ val (t.2.take (t.1 + m.length)) = val (l.take t.1) * val m} =>
   ⟨((.sl (u32s l))::(.sl (u32s m))::.any::.any::.any::(.sref 15 0 (l.length + m.length))::(.int .i64 t.1.1)::.any::.any::.any::.any::.any::.any::.any::.any::.any::.any::.any::.any::.any::.any::.any::.any::.any::.any::.any::.any::.any::.any::.any::.any::.any::.any::.any::.any::.any::.any::.any::.any::.any::.any::.any::.any::.any::.any::.any::.any::.any::.any::.any::.any::.any::.any::.any::.any::.any::.any::.any::.any::.any::.any::.any::.any::.any::.any::.any::.any::.any::[]),(.dead::.dead::.dead::.dead::.dead::.dead::.dead::.dead::.dead::.dead::.dead::.dead::.dead::.dead::.dead::(.arr 128 1 true (u32s t.1.2))::.dead::.dead::.dead::.dead::.dead::.dead::.dead::.dead::.dead::.dead::.dead::.dead::.dead::.dead::.dead::.dead::.dead::.dead::.dead::.dead::.dead::.dead::.dead::.dead::.dead::.dead::.dead::.dead::.dead::.dead::.dead::.dead::.dead::.dead::.dead::.dead::.dead::.dead::.dead::.dead::.dead::.dead::.dead::.dead::.dead::.dead::.dead::.dead::.dead::.dead::.dead::.dead::[])⟩) (fun t => l.length - t.1.1)
  ⟨(0,List.replicate (l.length + m.length) 0),by simp,by simp,Limbs.rep _,by simp [val,List.take_replicate,val_zeros]⟩ (Le_of (by simp [leE]) (by simp)) fun t => ?_)
 obtain ⟨⟨i,c0⟩,h3,h4,h5,h7⟩ := t
 dsimp only at h3 h4 h5 h7 ⊢
 by_cases hlt : i < l.length
 ·have hx := hl.getD i
  refine W_seq ?_
  ((first | refine W_seqV ?_ | refine W_seq (W_seqV ?_) | refine W_regV ?_);intro K hK;(refine sNaX hlt ?_;try exact True.intro))
  (repeat refine aI ?_);refine hK _ ?_;clear hK K
  (first | refine W_ct rfl ?_ | refine W_seq (W_ct rfl ?_))
  refine W_skip ?_
  simp only [thenW]
  refine W_seq (W_block ?_)
  (refine aNa ?_)
  refine W_seq ?_
  ((first | refine W_seqV ?_ | refine W_seq (W_seqV ?_) | refine W_regV ?_);intro K hK;(refine sNa ?_;try exact True.intro))
  (repeat refine aI ?_);refine hK _ ?_;clear hK K
  refine W_block (W_loop (fun t : {t : Nat × List Nat × Nat // t.1 ≤ m.length ∧ t.2.1.length = l.length + m.length ∧ Limbs t.2.1 ∧ t.2.2 < 4294967296 ∧ val (t.2.1.take (i + m.length)) + 4294967296 ^ (i + t.1) * t.2.2 = val (c0.take (i + m.length)) + 4294967296 ^ i * l.getD i 0 * val (m.take t.1)} =>
   ⟨((.sl (u32s l))::(.sl (u32s m))::.any::.any::.any::(.sref 15 0 (l.length + m.length))::(.int .i64 i)::(.int .u64 t.1.2.2)::(.int .i64 t.1.1)::.any::.any::.any::.any::.any::.any::.any::.any::.any::.any::.any::.any::.any::.any::.any::.any::.any::.any::.any::.any::.any::.any::.any::.any::.any::.any::.any::.any::.any::.any::.any::.any::.any::.any::.any::.any::.any::.any::.any::.any::.any::.any::.any::.any::.any::.any::.any::.any::.any::.any::.any::.any::.any::.any::.any::.any::.any::.any::.any::[]),(.dead::.dead::.dead::.dead::.dead::.dead::.dead::.dead::.dead::.dead::.dead::.dead::.dead::.dead::.dead::(.arr 128 1 true (u32s t.1.2.1))::.dead::.dead::.dead::.dead::.dead::.dead::.dead::.dead::.dead::.dead::.dead::.dead::.dead::.dead::.dead::.dead::.dead::.dead::.dead::.dead::.dead::.dead::.dead::.dead::.dead::.dead::.dead::.dead::.dead::.dead::.dead::.dead::.dead::.dead::.dead::.dead::.dead::.dead::.dead::.dead::.dead::.dead::.dead::.dead::.dead::.dead::.dead::.dead::.dead::.dead::.dead::.dead::[])⟩) (fun t => m.length - t.1.1)
   ⟨(0,c0,0),by simp,h4,h5,by simp,by simp [val]⟩ (Le_of (by simp [leE]) rfl) fun t => ?_)
  obtain ⟨⟨j,c,k⟩,h8,h9,h10,h11,h12⟩ := t
  dsimp only at h8 h9 h10 h11 h12 ⊢
  by_cases hjt : j < m.length
  ·have hy := hm.getD j
   have hz := h10.getD (i + j)
   have hxy : l.getD i 0 * m.getD j 0 ≤ 4294967295 * 4294967295 := Nat.mul_le_mul (by omega) (by omega)
   refine W_seq ?_
   ((first | refine W_seqV ?_ | refine W_seq (W_seqV ?_) | refine W_regV ?_);intro K hK;(refine sNaX hjt ?_;try exact True.intro))
   (repeat refine aI ?_);refine hK _ ?_;clear hK K
   (first | refine W_ct rfl ?_ | refine W_seq (W_ct rfl ?_))
   refine W_skip ?_
   simp only [thenW]
   refine W_seq (W_block ?_)
   ((first | refine W_seqD mixed [] (by kernel_rfl) ?_ | refine W_seq (W_seqD mixed [] (by kernel_rfl) ?_) | refine W_regD mixed [] (by kernel_rfl) ?_);intro K hK;(refine sNaX hlt ?_;try exact True.intro))
   (repeat refine aI ?_);refine hK _ ?_;clear hK K
   ((first | refine W_seqV ?_ | refine W_seq (W_seqV ?_) | refine W_regV ?_);intro K hK;(refine sNa ?_;try exact True.intro))
   (repeat refine aI ?_);refine hK _ ?_;clear hK K
   ((first | refine W_seqV ?_ | refine W_seq (W_seqV ?_) | refine W_regV ?_);intro K hK;(refine sNa ?_;try exact True.intro))
   (repeat refine aI ?_);refine hK _ ?_;clear hK K
   simp only [thenW,blockW]
   ((first | refine W_seqV ?_ | refine W_seq (W_seqV ?_) | refine W_regV ?_);intro K hK;(refine sNa ?_;try exact True.intro))
   (repeat refine aI ?_);refine hK _ ?_;clear hK K
   simp only [thenW,blockW]
   refine ⟨⟨(j + 1,c.set (i + j) ((l.getD i 0 * m.getD j 0 + c.getD (i + j) 0 + k) % 4294967296),(l.getD i 0 * m.getD j 0 + c.getD (i + j) 0 + k) / 4294967296),by dsimp only;omega,by simpa using h9,h10.set _ (by omega),by dsimp only;omega,?_⟩,Le_of (by simp [leE]) (by simp),by dsimp only;omega⟩
   dsimp only
   have hp : i + j < (c.take (i + m.length)).length := by rw [List.length_take];omega
   have hset := val_set hp ((l.getD i 0 * m.getD j 0 + c.getD (i + j) 0 + k) % 4294967296)
   rw [show (c.take (i + m.length)).getD (i + j) 0 = c.getD (i + j) 0 by simp [List.getD_eq_getElem?_getD,List.getElem?_take,show j < m.length by omega]] at hset
   rw [List.take_set,val_take_succ,← Nat.add_assoc,Nat.pow_succ]
   exact mul_round h12 hset (by omega) (Nat.pow_add _ _ _)
  ·obtain rfl : j = m.length := by omega
   have hjt' : decide (m.length < m.length) = false := decide_eq_false (by omega)
   have hp : i + m.length < c.length := by omega
   rw [List.take_length] at h12
   refine W_seq ?_
   ((first | refine W_seqV ?_ | refine W_seq (W_seqV ?_) | refine W_regV ?_);intro K hK;(refine sNaX hjt' ?_;try exact True.intro))
   (repeat refine aI ?_);refine hK _ ?_;clear hK K
   (first | refine W_cf rfl ?_ | refine W_seq (W_cf rfl ?_))
   refine W_exit ?_
   simp only [thenW,blockW,if_true]
   ((first | refine W_seqV ?_ | refine W_seq (W_seqV ?_) | refine W_regV ?_);intro K hK;(refine sNa ?_;try exact True.intro))
   (repeat refine aI ?_);refine hK _ ?_;clear hK K
   simp only [thenW,blockW]
   ((first | refine W_seqV ?_ | refine W_seq (W_seqV ?_) | refine W_regV ?_);intro K hK;(refine sNa ?_;try exact True.intro))
   (repeat refine aI ?_);refine hK _ ?_;clear hK K
   simp only [thenW,blockW]
   refine ⟨⟨(i + 1,c.set (i + m.length) (k % 4294967296)),by dsimp only;omega,by simpa using h9,h10.set _ (by omega),?_⟩,Le_of (by simp [leE]) (by simp),by dsimp only;omega⟩
   dsimp only
   rw [show i + 1 + m.length = i + m.length + 1 by omega,val_take_set hp,Nat.mod_eq_of_lt h11,h12,h7,val_take_succ,Nat.add_mul]
 ·obtain rfl : i = l.length := by omega
  have hlt' : decide (l.length < l.length) = false := decide_eq_false (by omega)
  rw [List.take_length,List.take_of_length_le (by omega)] at h7
  refine W_seq ?_
  ((first | refine W_seqV ?_ | refine W_seq (W_seqV ?_) | refine W_regV ?_);intro K hK;(refine sNaX hlt' ?_;try exact True.intro))
  (repeat refine aI ?_);refine hK _ ?_;clear hK K
  (first | refine W_cf rfl ?_ | refine W_seq (W_cf rfl ?_))
  refine W_exit ?_
  simp only [thenW,blockW,if_true]
  (refine W.le ?_ (Le_freeze 15 (rows := u32s c0) rfl (by simp) (.inl rfl));simp only [St.freeze,List.map_cons,List.map_nil,List.set,if_true,if_false,Nat.reduceEqDiff,reduceCtorEq,List.drop_zero,u32s_take,u32s_drop,froz_any,froz_und,froz_int,froz_bool,froz_str,froz_nils,froz_sl,froz_ia,froz_nilp,froz_nilif,froz_nilfn,froz_nilmp,froz_gl,froz_sref,froz_ptr,froz_agg,froz_tup,froz_fn,froz_ifc,frozs_nil,frozs_cons,froz_dead,froz_arr,froz_mp,froz_it,froz_md,froz_map,froz_iter])
  rw [List.take_of_length_le (by omega)]
  ((first | refine W_seqV ?_ | refine W_seq (W_seqV ?_) | refine W_regV ?_);intro K hK;(refine sNa ?_;try exact True.intro))
  ((repeat refine aI ?_);refine ⟨by kernel_rfl,_,.pure rfl (fnorm_ok c0 h5 (by omega)),?_⟩;(try (refine sNa ?_;try exact True.intro));(repeat refine aI ?_))
  (repeat refine aI ?_);refine hK _ ?_;clear hK K
  refine W_ret ?_
  (refine qG ?_;try exact True.intro)
  rw [h7]
end Go.Proofs.YtjmpajgjaefcjaaGreat.Vm
