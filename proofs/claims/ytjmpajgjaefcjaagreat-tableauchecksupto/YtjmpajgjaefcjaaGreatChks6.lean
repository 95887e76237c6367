/-
  Part 6 of 9 of a proof.
-/
import Derived.Test.YtjmpajgjaefcjaaGreatChks5
import Derived.Orders
import Derived.Below
import Derived.Laws.AppendOwn
import Derived.Laws.MakeOwn
import Derived.Laws.CopyRow
import Derived.Laws.Rows
import Derived.Laws.Cells
import Derived.Tactics
import Derived.Laws.BitsLemmas
import Derived.Maps.Range
import Derived.Carry
import Derived.Sort.Row
import Derived.Sort.Grow
import Derived.Test.YtjmpajgjaefcjaaGreatProg

namespace Go.Proofs.YtjmpajgjaefcjaaGreat.Vm
open Go Go.RowKit
set_option linter.unusedVariables false
set_option linter.unusedSimpArgs false
theorem val_div (l : List Nat) (h : Limbs l) (p : Nat) : val l / 4294967296 ^ p = val (l.drop p) := by
 by_cases hp : p ≤ l.length
 ·have h1 := val_drop_split l p hp
  have h2 := val_lt (h.take p)
  rw [List.length_take,Nat.min_eq_left hp] at h2
  rw [h1]
  generalize 4294967296 ^ p = P at *
  rw [Nat.add_comm,Nat.mul_add_div (by omega),Nat.div_eq_of_lt h2,Nat.add_zero]
 ·rw [List.drop_eq_nil_of_le (by omega)]
  have h2 := val_lt h
  have h3 : 4294967296 ^ l.length ≤ 4294967296 ^ p := Nat.pow_le_pow_right (by omega) (by omega)
  generalize 4294967296 ^ p = P at *
  rw [Nat.div_eq_of_lt (by omega)]
  rfl
theorem val_limb (l : List Nat) (h : Limbs l) (p : Nat) : val l / 4294967296 ^ p % 4294967296 = l.getD p 0 := by
 rw [val_div l h]
 by_cases hp : p < l.length
 ·have h1 := h.getD p
  rw [drop_getD hp,val]
  omega
 ·rw [List.drop_eq_nil_of_le (by omega),List.getD_eq_getElem?_getD,List.getElem?_eq_none (by omega)]
  rfl
theorem pow_B (p r : Nat) : 2 ^ (32 * p + r) = 4294967296 ^ p * 2 ^ r := by
 rw [Nat.pow_add,Nat.pow_mul]
theorem bit_limb (l : List Nat) (h : Limbs l) (p r : Nat) (hr : r < 32) : val l / 2 ^ (32 * p + r) % 2 = l.getD p 0 / 2 ^ r % 2 := by
 rw [pow_B,← Nat.div_div_eq_div_mul,← val_limb l h p]
 generalize val l / 4294967296 ^ p = x
 have h1 : (4294967296 : Nat) = 2 ^ r * 2 ^ (32 - r) := by rw [← Nat.pow_add,show r + (32 - r) = 32 by omega]
 have h2 : 2 ^ (32 - r) = 2 * 2 ^ (31 - r) := by rw [show 32 - r = (31 - r) + 1 by omega,Nat.pow_succ,Nat.mul_comm]
 rw [h1,Nat.mod_mul_right_div_self,h2,Nat.mod_mul_right_mod]
def bitV (n i : Nat) : Bool := n / 2 ^ i % 2 == 1
theorem and1 (x : Nat) : x &&& 1 = x % 2 := Nat.and_one_is_mod x
theorem limb_mul {q : List Nat} (h : Limbs q) {p r k : Nat} (hr : r < 32) (hv : val q = 2 ^ (32 * p + r + 1) * k) : q.getD p 0 % 2 ^ (r + 1) = 0 := by
 rw [← val_limb q h p,hv,show 32 * p + r + 1 = 32 * p + (r + 1) by omega,pow_B,Nat.mul_assoc,Nat.mul_div_cancel_left _ (Nat.pow_pos (by omega))]
 have h1 : (4294967296 : Nat) = 2 ^ (r + 1) * 2 ^ (31 - r) := by rw [← Nat.pow_add,show r + 1 + (31 - r) = 32 by omega]
 rw [h1,Nat.mod_mul_right_mod,Nat.mul_mod_right]
theorem or_bit {x r : Nat} (h : x % 2 ^ (r + 1) = 0) : (x ||| 2 ^ r) = x + 2 ^ r := by
 obtain ⟨k,rfl⟩ : ∃ k,x = k * 2 ^ (r + 1) := ⟨x / 2 ^ (r + 1),by have := Nat.div_add_mod x (2 ^ (r + 1));rw [h,Nat.add_zero,Nat.mul_comm] at this;exact this.symm⟩
 exact or_add (a := k) (k := r + 1) (b := 2 ^ r) (by rw [Nat.pow_succ];have : 0 < 2 ^ r := Nat.pow_pos (by omega);omega)
theorem or_bit_lt {x r : Nat} (hx : x < 4294967296) (hr : r < 32) (h : x % 2 ^ (r + 1) = 0) : x + 2 ^ r < 4294967296 := by
 have h1 : (4294967296 : Nat) = 2 ^ (r + 1) * 2 ^ (31 - r) := by rw [← Nat.pow_add,show r + 1 + (31 - r) = 32 by omega]
 have h3 : x / 2 ^ (r + 1) < 2 ^ (31 - r) := Nat.div_lt_of_lt_mul (by rw [← h1];exact hx)
 have h4 : x = 2 ^ (r + 1) * (x / 2 ^ (r + 1)) := by have := Nat.div_add_mod x (2 ^ (r + 1));omega
 have h5 : 2 ^ (r + 1) * (x / 2 ^ (r + 1) + 1) ≤ 2 ^ (r + 1) * 2 ^ (31 - r) := Nat.mul_le_mul_left _ h3
 rw [Nat.mul_add,← h4,← h1,Nat.pow_succ] at h5
 have : 0 < 2 ^ r := Nat.pow_pos (by omega)
 omega
theorem div_step {a b i r q : Nat} (hb : 0 < b) (hr : r = a / 2 ^ (i + 1) % b) (hq : q = a / 2 ^ (i + 1) / b * 2 ^ (i + 1)) :
  a / 2 ^ i = b * (2 * (a / 2 ^ (i + 1) / b)) + (2 * r + a / 2 ^ i % 2) ∧ 2 * r + a / 2 ^ i % 2 < 2 * b ∧
  (b ≤ 2 * r + a / 2 ^ i % 2 → (2 * r + a / 2 ^ i % 2) - b = a / 2 ^ i % b ∧ q + 2 ^ i = a / 2 ^ i / b * 2 ^ i) ∧
  (2 * r + a / 2 ^ i % 2 < b → 2 * r + a / 2 ^ i % 2 = a / 2 ^ i % b ∧ q = a / 2 ^ i / b * 2 ^ i) := by
 have e1 : a / 2 ^ (i + 1) = a / 2 ^ i / 2 := by rw [Nat.pow_succ,Nat.div_div_eq_div_mul]
 rw [e1] at hr hq ⊢
 generalize hx : a / 2 ^ i = x at *
 have e2 := Nat.div_add_mod x 2
 have e3 := Nat.div_add_mod (x / 2) b
 have e4 := Nat.mod_lt (x / 2) hb
 generalize hm : x / 2 / b = m at *
 have e5 : x = b * (2 * m) + (2 * r + x % 2) := by
  rw [hr]
  have : b * (2 * m) = 2 * (b * m) := by rw [← Nat.mul_assoc,Nat.mul_comm b 2,Nat.mul_assoc]
  omega
 have hrb : r < b := by omega
 refine ⟨e5,by omega,fun h => ?_,fun h => ?_⟩
 ·have e6 : x = b * (2 * m + 1) + (2 * r + x % 2 - b) := by rw [Nat.mul_add,Nat.mul_one];omega
  have e7 : x / b = 2 * m + 1 := by
   rw [e6,Nat.mul_add_div hb,Nat.div_eq_of_lt (by omega),Nat.add_zero]
  have e8 : x % b = 2 * r + x % 2 - b := by
   conv => lhs;rw [e6]
   rw [Nat.mul_add_mod,Nat.mod_eq_of_lt (by omega)]
  refine ⟨e8.symm,?_⟩
  rw [e7,hq,Nat.pow_succ,Nat.add_mul,Nat.one_mul]
  rw [show m * (2 ^ i * 2) = 2 * m * 2 ^ i by rw [Nat.mul_comm (2 ^ i) 2,← Nat.mul_assoc,Nat.mul_comm m 2]]
 ·have e7 : x / b = 2 * m := by
   rw [e5,Nat.mul_add_div hb,Nat.div_eq_of_lt h,Nat.add_zero]
  have e8 : x % b = 2 * r + x % 2 := by
   conv => lhs;rw [e5]
   rw [Nat.mul_add_mod,Nat.mod_eq_of_lt h]
  refine ⟨e8.symm,?_⟩
  rw [e7,hq,Nat.pow_succ]
  rw [show m * (2 ^ i * 2) = 2 * m * 2 ^ i by rw [Nat.mul_comm (2 ^ i) 2,← Nat.mul_assoc,Nat.mul_comm m 2]]
theorem twice_lo {x k : Nat} (hk : k ≤ 1) : (x * 2 ^ 1 % 4294967296 ||| k) = x * 2 % 4294967296 + k := by
 have h1 : x * 2 ^ 1 % 4294967296 = (x % 2147483648) * 2 ^ 1 := by omega
 rw [h1,or_add (by omega)]
theorem twice_round {C L P x k c' k' : Nat} (h : C + P * k = 2 * L + c') (hk : k ≤ 1) (hx : x < 4294967296) (hk' : k' = x / 2147483648) : C + P * (x * 2 % 4294967296 + k) + P * 4294967296 * k' = 2 * (L + P * x) + c' := by
 subst hk'
 have h1 : x * 2 % 4294967296 + 4294967296 * (x / 2147483648) = 2 * x := by omega
 have h2 : P * (x * 2 % 4294967296) + P * 4294967296 * (x / 2147483648) = 2 * (P * x) := by
  rw [Nat.mul_assoc,← Nat.mul_add,h1,← Nat.mul_assoc,Nat.mul_comm P 2,Nat.mul_assoc]
 rw [Nat.mul_add,Nat.mul_add]
 omega
theorem gcd_half_left {a b : Nat} (ha : a % 2 = 0) (hb : b % 2 = 1) : Nat.gcd (a / 2) b = Nat.gcd a b := by
 obtain ⟨x,rfl⟩ : ∃ x,a = 2 * x := ⟨a / 2,by omega⟩
 rw [Nat.mul_div_cancel_left _ (by omega)]
 have hc : Nat.Coprime 2 b := by
  rw [Nat.coprime_comm,Nat.Coprime]
  have h1 := Nat.gcd_dvd_left b 2
  have h2 := Nat.le_of_dvd (by omega) (Nat.gcd_dvd_right b 2)
  have h3 := Nat.gcd_pos_of_pos_right b (show 0 < 2 by omega)
  rcases (show Nat.gcd b 2 = 1 ∨ Nat.gcd b 2 = 2 by omega) with h | h
  ·exact h
  ·rw [h] at h1;omega
 exact (hc.gcd_mul_left_cancel x).symm
theorem gcd_half_right {a b : Nat} (ha : a % 2 = 1) (hb : b % 2 = 0) : Nat.gcd a (b / 2) = Nat.gcd a b := by
 rw [Nat.gcd_comm,gcd_half_left hb ha,Nat.gcd_comm]
theorem gcd_less {a b : Nat} (h : a ≤ b) : Nat.gcd a (b - a) = Nat.gcd a b := by
 have := Nat.gcd_add_self_right (m := a) (n := b - a)
 rw [Nat.sub_add_cancel h] at this
 exact this.symm
end Go.Proofs.YtjmpajgjaefcjaaGreat.Vm
namespace Go.Proofs.YtjmpajgjaefcjaaGreat.Vm
open Go Go.RowKit
set_option maxRecDepth 100000
set_option linter.unusedVariables false
set_option linter.unusedSimpArgs false
theorem sFc {G G' : Prop} (h : G') (e : G = G' := by conv => lhs;simp (disch := omega) only [rowsOf,cNat,cN,St.ret,St.seth,Eff.app,Eff.wi,sepL,guardOf,St.known,objOf,List.set,sliceW,litW,copyW,lenOf,bnd,mxOk,ofCells,TI.isAgg,cellsOf,storable,AV.one,dead,laid,overlay,reduceCtorEq,Int.reduceLE,Int.reduceLT,Int.reduceSub,Int.reduceAdd,Nat.reduceMul,Int.reduceToNat,Nat.reducePow,Int.reduceNeg,Nat.reduceAdd,Nat.reduceLT,Nat.reduceLeDiff,sA,sB,tyUint,sT]) : G := e.mpr h
theorem sFcX {G G' P : Prop} (p : P) (h : G') (e : P → G = G' := by intro p;conv => lhs;simp (disch := omega) only [rowsOf,cNat,cN,St.ret,St.seth,Eff.app,Eff.wi,sepL,guardOf,St.known,objOf,List.set,sliceW,litW,copyW,lenOf,bnd,mxOk,ofCells,TI.isAgg,cellsOf,storable,AV.one,dead,laid,overlay,reduceCtorEq,Int.reduceLE,Int.reduceLT,Int.reduceSub,Int.reduceAdd,Nat.reduceMul,Int.reduceToNat,Nat.reducePow,Int.reduceNeg,Nat.reduceAdd,Nat.reduceLT,Nat.reduceLeDiff,sA,sB,tyUint,sT,p]) : G := (e p).mpr h
theorem aFc {G G' : Prop} (h : G') (f : Wr G' → G := by intro h;(repeat (first|(refine W_seqV fun K hK => ?_;(try (refine sFc ?_;try exact True.intro));(repeat refine aI ?_);refine hK _ ?_;clear hK K)|(refine W_seqR fun K hK => ?_;(try (refine sFc ?_;try exact True.intro));(repeat refine aI ?_);refine hK _ ?_;clear hK K)|(refine W_seqD mixed [] (by kernel_rfl) fun K hK => ?_;(try (refine sFc ?_;try exact True.intro));(repeat refine aI ?_);refine hK _ ?_;clear hK K)));exact h.out) : G := f ⟨h⟩
theorem tyUint : tyOf Tryz.prog 169 = ⟨.int .u64,1,8,true,[.int .u64 0]⟩ := by kernel_rfl
set_option maxHeartbeats 1000000 in
theorem f1of_ok (n : Nat) (h : n < 18446744073709551616) : Pure Tryz.prog 159 [.int .u64 n] (· = cN n) := by
 have hv : val [n % 4294967296,n / 4294967296 % 4294967296] = n := by simp only [val];omega
 have hl : Limbs [n % 4294967296,n / 4294967296 % 4294967296] := by
  intro x hx
  simp only [List.mem_cons,List.not_mem_nil,or_false] at hx
  omega
 have ho := fnorm_ok _ hl (by simp)
 rw [hv] at ho
 (refine pureW Tryz.func159 rfl (rs := [Go.ResultVar.tmp 2]) rfl (n := 10) rfl ?_;simp only [List.length_cons,List.length_nil,List.replicate,List.cons_append,List.nil_append])
 (refine aFc ?_)
 ((first | refine W_seqV ?_ | refine W_seq (W_seqV ?_) | refine W_regV ?_);intro K hK;(refine sFc ?_;try exact True.intro))
 refine ⟨⟨rfl,rfl⟩,?_⟩
 ((repeat refine aI ?_);refine ⟨by kernel_rfl,_,.pure rfl (ho),?_⟩;(try (refine sFc ?_;try exact True.intro));(repeat refine aI ?_))
 (repeat refine aI ?_);refine hK _ ?_;clear hK K
 refine W_ret ?_
 (refine qG ?_;try exact True.intro)
set_option maxHeartbeats 4000000 in
theorem ftwice_ok (l : List Nat) (d : Bool) (hl : Limbs l) (h1 : l.length < 549755813888) : Pure Tryz.prog 154 [cNat l,.bool d] (· = cN (2 * val l + d.toNat)) := by
 have hd : d.toNat ≤ 1 := by cases d <;> decide
 (refine pureW Tryz.func154 rfl (rs := [Go.ResultVar.tmp 4]) rfl (n := 41) rfl ?_;simp only [List.length_cons,List.length_nil,List.replicate,List.cons_append,List.nil_append])
 unfold cNat
 (refine aFc ?_)
 refine W_join (fun s' => Le [] s' ⟨[.sl (u32s l),.any,.any,.any,.any,.sref 11 0 (l.length + 1),.int .u32 (d.toNat : Int),.any,.any,.any,.any,.any,.any,.any,.any,.any,.any,.any,.any,.any,.any,.any,.any,.any,.any,.any,.any,.any,.any,.any,.any,.any,.any,.any,.any,.any,.any,.any,.any,.any,.any],[.dead,.dead,.dead,.dead,.dead,.dead,.dead,.dead,.dead,.dead,.dead,.arr 128 1 true (u32s (List.replicate (l.length + 1) 0)),.dead,.dead,.dead,.dead,.dead,.dead,.dead,.dead,.dead,.dead,.dead,.dead,.dead,.dead,.dead,.dead,.dead,.dead,.dead,.dead,.dead,.dead,.dead,.dead,.dead,.dead,.dead,.dead,.dead]⟩) ?_ ?_
 ·cases d
  ·((first | refine W_seqV ?_ | refine W_seq (W_seqV ?_) | refine W_regV ?_);intro K hK;(refine sFc ?_;try exact True.intro))
   (repeat refine aI ?_);refine hK _ ?_;clear hK K
   (first | refine W_cf rfl ?_ | refine W_seq (W_cf rfl ?_))
   refine W_skip ?_
   simp only [thenW]
   exact Le_of (by simp [leE]) (by simp)
  ·((first | refine W_seqV ?_ | refine W_seq (W_seqV ?_) | refine W_regV ?_);intro K hK;(refine sFc ?_;try exact True.intro))
   (repeat refine aI ?_);refine hK _ ?_;clear hK K
   (first | refine W_ct rfl ?_ | refine W_seq (W_ct rfl ?_))
   ((first | refine W_seqV ?_ | refine W_seq (W_seqV ?_) | refine W_regV ?_);intro K hK;(refine sFc ?_;try exact True.intro))
   (repeat refine aI ?_);refine hK _ ?_;clear hK K
   simp only [thenW]
   exact Le_of (by simp [leE]) (by simp)
 intro s' hle
 refine W.le ?_ hle
 clear hle s'
 generalize d.toNat = k0 at *
 ((first | refine W_seqV ?_ | refine W_seq (W_seqV ?_) | refine W_regV ?_);intro K hK;(refine sFc ?_;try exact True.intro))
 (repeat refine aI ?_);refine hK _ ?_;clear hK K
 refine W_block (W_loop (fun t : {t : Nat × List Nat × Nat // t.1 ≤ l.length ∧ t.2.1.length = l.length + 1 ∧ Limbs t.2.1 ∧ t.2.2 ≤ 1 ∧ val (t.2.1.take t.1) + 4294967296 ^ t.1 * t.2.2 = 2 * val (l.take t.1) + k0} =>
   ⟨[.sl (u32s l),.any,.any,.any,.any,.sref 11 0 (l.length + 1),.int .u32 t.1.2.2,.int .i64 t.1.1,.any,.any,.any,.any,.any,.any,.any,.any,.any,.any,.any,.any,.any,.any,.any,.any,.any,.any,.any,.any,.any,.any,.any,.any,.any,.any,.any,.any,.any,.any,.any,.any,.any],[.dead,.dead,.dead,.dead,.dead,.dead,.dead,.dead,.dead,.dead,.dead,.arr 128 1 true (u32s t.1.2.1),.dead,.dead,.dead,.dead,.dead,.dead,.dead,.dead,.dead,.dead,.dead,.dead,.dead,.dead,.dead,.dead,.dead,.dead,.dead,.dead,.dead,.dead,.dead,.dead,.dead,.dead,.dead,.dead,.dead]⟩) (fun t => l.length - t.1.1)
  ⟨(0,List.replicate (l.length + 1) 0,k0),by simp,by simp,Limbs.rep _,hd,by simp [val]⟩ (Le_of (by simp [leE]) (by simp)) fun t => ?_)
 obtain ⟨⟨i,c,k⟩,h3,h4,h5,h6,h7⟩ := t
 dsimp only at h3 h4 h5 h6 h7 ⊢
 by_cases hlt : i < l.length
 ·have hx := hl.getD i
  have hi : i < c.length := by omega
  have hor := twice_lo (x := l.getD i 0) h6
  have hk32 : k < 4294967296 := by omega
  have hlo : l.getD i 0 * 2 ^ 1 % 4294967296 < 4294967296 := Nat.mod_lt _ (by omega)
  refine W_seq ?_
  ((first | refine W_seqV ?_ | refine W_seq (W_seqV ?_) | refine W_regV ?_);intro K hK;(refine sFcX hlt ?_;try exact True.intro))
  (repeat refine aI ?_);refine hK _ ?_;clear hK K
  (first | refine W_ct rfl ?_ | refine W_seq (W_ct rfl ?_))
  refine W_skip ?_
  simp only [thenW]
  refine W_seq (W_block ?_)
  ((first | refine W_seqV ?_ | refine W_seq (W_seqV ?_) | refine W_regV ?_);intro K hK;(refine sFcX hlt ?_;try exact True.intro))
  (repeat refine aI ?_);refine hK _ ?_;clear hK K
  ((first | refine W_seqV ?_ | refine W_seq (W_seqV ?_) | refine W_regV ?_);intro K hK;(refine sFcX hlt ?_;try exact True.intro))
  (repeat refine aI ?_);refine hK _ ?_;clear hK K
  simp only [thenW,blockW]
  ((first | refine W_seqV ?_ | refine W_seq (W_seqV ?_) | refine W_regV ?_);intro K hK;(refine sFc ?_;try exact True.intro))
  (repeat refine aI ?_);refine hK _ ?_;clear hK K
  simp only [thenW,blockW]
  have hor2 : l.getD i 0 * 2 % 4294967296 ||| k = l.getD i 0 * 2 % 4294967296 + k := hor
  have hkk : l.getD i 0 / 2 ^ 31 = l.getD i 0 / 2147483648 := rfl
  simp only [Nat.pow_one,hor2,hkk]
  refine ⟨⟨(i + 1,c.set i (l.getD i 0 * 2 % 4294967296 + k),l.getD i 0 / 2147483648),by dsimp only;omega,by simpa using h4,h5.set i (by omega),by dsimp only;omega,?_⟩,Le_of (by simp [leE]) (by simp),by dsimp only;omega⟩
  dsimp only
  rw [val_take_set hi,val_take_succ,Nat.pow_succ]
  exact twice_round h7 h6 hx rfl
 ·obtain rfl : i = l.length := by omega
  have hlt' : decide (l.length < l.length) = false := decide_eq_false (by omega)
  have hi : l.length < c.length := by omega
  have hv := val_take_set hi k
  rw [List.take_length] at h7
  rw [List.take_of_length_le (by simp;omega),h7] at hv
  have hn := fnorm_ok (c.set l.length k) (h5.set _ (by omega)) (by simp;omega)
  rw [hv] at hn
  refine W_seq ?_
  ((first | refine W_seqV ?_ | refine W_seq (W_seqV ?_) | refine W_regV ?_);intro K hK;(refine sFcX hlt' ?_;try exact True.intro))
  (repeat refine aI ?_);refine hK _ ?_;clear hK K
  (first | refine W_cf rfl ?_ | refine W_seq (W_cf rfl ?_))
  refine W_exit ?_
  simp only [thenW,blockW,if_true]
  ((first | refine W_seqV ?_ | refine W_seq (W_seqV ?_) | refine W_regV ?_);intro K hK;(refine sFc ?_;try exact True.intro))
  (repeat refine aI ?_);refine hK _ ?_;clear hK K
  (refine W.le ?_ (Le_freeze 11 (rows := u32s (c.set l.length k)) rfl (by simp) (.inl rfl));simp only [St.freeze,List.map_cons,List.map_nil,List.set,if_true,if_false,Nat.reduceEqDiff,reduceCtorEq,List.drop_zero,u32s_take,u32s_drop,froz_any,froz_und,froz_int,froz_bool,froz_str,froz_nils,froz_sl,froz_ia,froz_nilp,froz_nilif,froz_nilfn,froz_nilmp,froz_gl,froz_sref,froz_ptr,froz_agg,froz_tup,froz_fn,froz_ifc,frozs_nil,frozs_cons,froz_dead,froz_arr,froz_mp,froz_it,froz_md,froz_map,froz_iter])
  rw [List.take_of_length_le (by simp;omega)]
  ((first | refine W_seqV ?_ | refine W_seq (W_seqV ?_) | refine W_regV ?_);intro K hK;(refine sFc ?_;try exact True.intro))
  ((repeat refine aI ?_);refine ⟨by kernel_rfl,_,.pure rfl (hn),?_⟩;(try (refine sFc ?_;try exact True.intro));(repeat refine aI ?_))
  (repeat refine aI ?_);refine hK _ ?_;clear hK K
  refine W_ret ?_
  (refine qG ?_;try exact True.intro)
set_option maxHeartbeats 4000000 in
theorem fbit_ok (l : List Nat) (i : Nat) (hl : Limbs l) (h1 : l.length < 549755813888) (hi : i < 1125899906842624) : Pure Tryz.prog 151 [cNat l,.int .i64 i] (· = .bool (bitV (val l) i)) := by
 have hx := hl.getD (i / 32)
 have hb : bitV (val l) i = (l.getD (i / 32) 0 / 2 ^ (i % 32) % 2 == 1) := by
  unfold bitV
  rw [← bit_limb l hl (i / 32) (i % 32) (Nat.mod_lt _ (by omega)),Nat.div_add_mod]
 have hq : IntKind.wrap .i64 ((i : Int).tdiv 32) = ((i / 32 : Nat) : Int) := by
  rw [show (i : Int).tdiv 32 = ((i / 32 : Nat) : Int) from rfl];exact wrap_i64_nat (by omega)
 have hr : (i : Int).tmod 32 = ((i % 32 : Nat) : Int) := rfl
 have hm : min (i % 32) 32 = i % 32 := Nat.min_eq_left (by omega)
 have hge : decide ((0 : Int) ≤ (i : Int)) = true := decide_eq_true (by omega)
 by_cases hlt : i / 32 < l.length
 ·(refine pureW Tryz.func151 rfl (rs := [Go.ResultVar.tmp 4]) rfl (n := 27) rfl ?_;simp only [List.length_cons,List.length_nil,List.replicate,List.cons_append,List.nil_append])
  unfold cNat
  (refine aFc ?_)
  ((first | refine W_seqV ?_ | refine W_seq (W_seqV ?_) | refine W_regV ?_);intro K hK;(refine sFcX (And.intro hq (And.intro hr (And.intro hlt hge))) ?_;try exact True.intro))
  repeat refine And.intro (by first | decide | omega) ?_
  refine hK _ ?_
  refine W_ret ?_
  (refine qG ?_;try exact True.intro)
  rw [hb]
  have hand := band_u32 (x := l.getD (i / 32) 0 / 2 ^ (i % 32)) (y := 1) (Nat.lt_of_le_of_lt (Nat.div_le_self _ _) hx) (by decide)
  rw [show ((1 : Nat) : Int) = 1 from rfl] at hand
  rw [hand,and1]
  congr 1
  rw [Bool.eq_iff_iff,beq_iff_eq,beq_iff_eq]
  omega
 ·have hlt' : decide (i / 32 < l.length) = false := decide_eq_false hlt
  have h0 : l.getD (i / 32) 0 = 0 := by simp [List.getD_eq_getElem?_getD,List.getElem?_eq_none (show l.length ≤ i / 32 by omega)]
  rw [hb,h0]
  (refine pureW Tryz.func151 rfl (rs := [Go.ResultVar.tmp 4]) rfl (n := 27) rfl ?_;simp only [List.length_cons,List.length_nil,List.replicate,List.cons_append,List.nil_append])
  unfold cNat
  (refine aFc ?_)
  ((first | refine W_seqV ?_ | refine W_seq (W_seqV ?_) | refine W_regV ?_);intro K hK;(refine sFcX (And.intro hq (And.intro hr (And.intro hlt' hge))) ?_;try exact True.intro))
  repeat refine And.intro (by first | decide | omega) ?_
  refine hK _ ?_
  refine W_ret ?_
  (refine qG ?_;try exact True.intro)
  simp
theorem shr_pos {l : List Nat} (h : Limbs l) : l.getD 0 0 % 2 = val l % 2 := by
 cases l with
 | nil => rfl
 | cons x l => simp only [List.getD_cons_zero,val];omega
structure Hf (l c : List Nat) (i : Nat) : Prop where
 len : c.length = l.length
 limbs : Limbs c
 eq : 2 * val c + (if i = 0 then 0 else l.getD 0 0 % 2) = val (l.take i)
 zero : ∀ j,i ≤ j → c.getD j 0 = 0
 low : 0 < i → c.getD (i - 1) 0 < 2147483648
theorem Hf.start (l : List Nat) : Hf l (List.replicate l.length 0) 0 :=
 ⟨by simp,Limbs.rep _,by simp [val,val_zeros],fun j _ => by simp [List.getD_eq_getElem?_getD,List.getElem?_replicate];split <;> simp,fun h => by omega⟩
theorem Hf.zero_step {l c : List Nat} (h : Hf l c 0) (hl : 0 < l.length) (hL : Limbs l) : Hf l (c.set 0 (l.getD 0 0 / 2)) 1 := by
 have hx := hL.getD 0
 have h1 := h.len
 have h2 := val_set (l := c) (p := 0) (by omega) (l.getD 0 0 / 2)
 have h3 := h.eq
 have h4 := h.zero 0 (Nat.le_refl _)
 rw [h4] at h2
 simp only [Nat.pow_zero,Nat.one_mul,Nat.add_zero,List.take_zero,val,if_true] at h2 h3
 refine ⟨by simpa using h1,h.limbs.set _ (by omega),?_,fun j hj => ?_,fun _ => ?_⟩
 ·rw [val_take_succ]
  simp only [List.take_zero,val,Nat.pow_zero,Nat.one_mul,Nat.zero_add,show (1 : Nat) ≠ 0 by omega,if_false]
  omega
 ·rw [List.getD_eq_getElem?_getD,List.getElem?_set_ne (by omega),← List.getD_eq_getElem?_getD]
  exact h.zero j (by omega)
 ·rw [List.getD_eq_getElem?_getD,Nat.sub_self,List.getElem?_set_self (by omega)]
  simp only [Option.getD_some]
  omega
theorem half_alg {V2 V1 V0 P B M y x t : Nat} (hB : B = 2 * M) (h2 : V1 + P * y = V0 + P * (y + x % 2 * M)) (h3 : V2 = V1 + P * B * (x / 2)) : 2 * V2 + t = 2 * V0 + t + P * B * x := by
 subst hB
 rw [Nat.mul_add] at h2
 have h4 : V1 = V0 + P * (x % 2 * M) := by omega
 subst h4 h3
 have e1 : P * (2 * M) * x = P * (2 * M) * (2 * (x / 2) + x % 2) := by rw [Nat.div_add_mod]
 rw [e1]
 generalize x / 2 = u
 generalize x % 2 = w
 have e2 : P * (2 * M) * (2 * u + w) = 2 * (P * (2 * M) * u) + 2 * (P * (w * M)) := by
  rw [Nat.mul_add,← Nat.mul_assoc _ 2,Nat.mul_comm _ 2,Nat.mul_assoc 2]
  congr 1
  rw [Nat.mul_assoc,Nat.mul_assoc,Nat.mul_comm M w,← Nat.mul_assoc P 2,Nat.mul_comm P 2,Nat.mul_assoc 2]
 rw [e2]
 omega
theorem Hf.step {l c : List Nat} {i : Nat} (h : Hf l c (i + 1)) (hi : i + 1 < l.length) (hL : Limbs l) :
  Hf l ((c.set i (c.getD i 0 + l.getD (i + 1) 0 % 2 * 2147483648)).set (i + 1) (l.getD (i + 1) 0 / 2)) (i + 2) := by
 have hx := hL.getD (i + 1)
 have h1 := h.len
 have hlow := h.low (by omega)
 rw [Nat.add_sub_cancel] at hlow
 have h2 := val_set (l := c) (p := i) (by omega) (c.getD i 0 + l.getD (i + 1) 0 % 2 * 2147483648)
 have h3 := val_set (l := c.set i (c.getD i 0 + l.getD (i + 1) 0 % 2 * 2147483648)) (p := i + 1) (by simp;omega) (l.getD (i + 1) 0 / 2)
 have h4 : (c.set i (c.getD i 0 + l.getD (i + 1) 0 % 2 * 2147483648)).getD (i + 1) 0 = 0 := by
  rw [List.getD_eq_getElem?_getD,List.getElem?_set_ne (by omega),← List.getD_eq_getElem?_getD]
  exact h.zero _ (Nat.le_refl _)
 rw [h4] at h3
 have h5 := h.eq
 simp only [show i + 1 ≠ 0 by omega,if_false] at h5
 refine ⟨by simpa using h1,(h.limbs.set _ (by omega)).set _ (by omega),?_,fun j hj => ?_,fun _ => ?_⟩
 ·rw [val_take_succ,← h5]
  simp only [show i + 1 + 1 ≠ 0 by omega,if_false]
  rw [Nat.pow_succ] at h3 ⊢
  rw [Nat.mul_zero,Nat.add_zero] at h3
  exact half_alg (by decide) h2 h3
 ·rw [List.getD_eq_getElem?_getD,List.getElem?_set_ne (by omega),List.getElem?_set_ne (by omega),← List.getD_eq_getElem?_getD]
  exact h.zero j (by omega)
 ·rw [List.getD_eq_getElem?_getD,show i + 2 - 1 = i + 1 by omega,List.getElem?_set_self (by simp;omega)]
  simp only [Option.getD_some]
  omega
theorem Hf.done {l c : List Nat} (h : Hf l c l.length) (hL : Limbs l) : val c = val l / 2 := by
 have h1 := h.eq
 rw [List.take_length] at h1
 have h2 := shr_pos hL
 split at h1
 ·rename_i h0
  rw [List.eq_nil_of_length_eq_zero h0] at h1 ⊢
  simp only [val] at *
  omega
 ·omega
theorem sFd {G G' : Prop} (h : G') (e : G = G' := by conv => lhs;simp (disch := omega) only [rowsOf,cNat,cN,St.ret,St.seth,Eff.app,Eff.wi,sepL,guardOf,St.known,objOf,List.set,sliceW,litW,copyW,lenOf,bnd,mxOk,ofCells,TI.isAgg,cellsOf,storable,AV.one,dead,laid,overlay,reduceCtorEq,Int.reduceLE,Int.reduceLT,Int.reduceSub,Int.reduceAdd,Nat.reduceMul,Int.reduceToNat,Nat.reducePow,Int.reduceNeg,Nat.reduceAdd,Nat.reduceLT,Nat.reduceLeDiff,sA,sB,tyUint,sT]) : G := e.mpr h
theorem sFdX {G G' P : Prop} (p : P) (h : G') (e : P → G = G' := by intro p;conv => lhs;simp (disch := omega) only [rowsOf,cNat,cN,St.ret,St.seth,Eff.app,Eff.wi,sepL,guardOf,St.known,objOf,List.set,sliceW,litW,copyW,lenOf,bnd,mxOk,ofCells,TI.isAgg,cellsOf,storable,AV.one,dead,laid,overlay,reduceCtorEq,Int.reduceLE,Int.reduceLT,Int.reduceSub,Int.reduceAdd,Nat.reduceMul,Int.reduceToNat,Nat.reducePow,Int.reduceNeg,Nat.reduceAdd,Nat.reduceLT,Nat.reduceLeDiff,sA,sB,tyUint,sT,p]) : G := (e p).mpr h
theorem aFd {G G' : Prop} (h : G') (f : Wr G' → G := by intro h;(repeat (first|(refine W_seqV fun K hK => ?_;(try (refine sFd ?_;try exact True.intro));(repeat refine aI ?_);refine hK _ ?_;clear hK K)|(refine W_seqR fun K hK => ?_;(try (refine sFd ?_;try exact True.intro));(repeat refine aI ?_);refine hK _ ?_;clear hK K)|(refine W_seqD mixed [] (by kernel_rfl) fun K hK => ?_;(try (refine sFd ?_;try exact True.intro));(repeat refine aI ?_);refine hK _ ?_;clear hK K)));exact h.out) : G := f ⟨h⟩
theorem shr_lo {x y : Nat} (hy : y < 2147483648) : (y ||| x * 2147483648 % 4294967296) = y + x % 2 * 2147483648 := by
 have h1 : x * 2147483648 % 4294967296 = (x % 2) * 2 ^ 31 := by omega
 rw [h1,Nat.or_comm,or_add (by omega)]
 omega
theorem shr_hi {x : Nat} (hx : x < 4294967296) : (0 ||| x * 2147483648 / 4294967296 % 4294967296) = x / 2 := by
 rw [Nat.zero_or]
 omega
set_option maxHeartbeats 8000000 in
theorem fshr_ok (l : List Nat) (hl : Limbs l) (h1 : l.length < 549755813888) : Pure Tryz.prog 152 [cNat l,.int .i64 (-1)] (· = .tup [cN (val l / 2),.int .i64 0]) := by
 have hn := fnorm_ok l hl (by omega)
 have hnl := limbs_val_length hl
 have c1 : IntKind.wrap .i64 (Int.tdiv (-1) 32) = 0 := rfl
 have c2 : Int.tmod (-1) 32 = -1 := rfl
 have c3 : IntKind.wrap .i64 (-1) = -1 := rfl
 have c4 : IntKind.wrap .i64 31 = 31 := rfl
 have c5 : IntKind.wrap .u64 31 = 31 := rfl
 simp only [cN,cNat] at hn
 by_cases h0 : val l = 0
 ·rw [h0,limbs_zero] at hn
  (refine pureW Tryz.func152 rfl (rs := [Go.ResultVar.tmp 4,Go.ResultVar.tmp 5]) rfl (n := 106) rfl ?_;simp only [List.length_cons,List.length_nil,List.replicate,List.cons_append,List.nil_append])
  unfold cNat
  (refine aFd ?_)
  refine W_seq ?_
  ((first | refine W_seqV ?_ | refine W_seq (W_seqV ?_) | refine W_regV ?_);intro K hK;(refine sFd ?_;try exact True.intro))
  (repeat refine aI ?_);refine hK _ ?_;clear hK K
  (first | refine W_cf rfl ?_ | refine W_seq (W_cf rfl ?_))
  refine W_skip ?_
  simp only [thenW]
  refine W_seq ?_
  ((first | refine W_seqV ?_ | refine W_seq (W_seqV ?_) | refine W_regV ?_);intro K hK;(refine sFd ?_;try exact True.intro))
  ((repeat refine aI ?_);refine ⟨by kernel_rfl,_,.pure rfl (hn),?_⟩;(try (refine sFd ?_;try exact True.intro));(repeat refine aI ?_))
  (repeat refine aI ?_);refine hK _ ?_;clear hK K
  (first | refine W_ct rfl ?_ | refine W_seq (W_ct rfl ?_))
  ((first | refine W_seqV ?_ | refine W_seq (W_seqV ?_) | refine W_regV ?_);intro K hK;(refine sFd ?_;try exact True.intro))
  (repeat refine aI ?_);refine hK _ ?_;clear hK K
  refine W_ret ?_
  (refine qG ?_;try exact True.intro)
  simp [h0,cN,cNat,limbs_zero,u32s]
 ·have hp := limbs_len_pos h0
  have hz : (((limbs (val l)).length : Int) == 0) = false := by rw [beq_eq_false_iff_ne];omega
  have hlp : 0 < l.length := by omega
  (refine pureW Tryz.func152 rfl (rs := [Go.ResultVar.tmp 4,Go.ResultVar.tmp 5]) rfl (n := 106) rfl ?_;simp only [List.length_cons,List.length_nil,List.replicate,List.cons_append,List.nil_append])
  unfold cNat
  (refine aFd ?_)
  refine W_seq ?_
  ((first | refine W_seqV ?_ | refine W_seq (W_seqV ?_) | refine W_regV ?_);intro K hK;(refine sFd ?_;try exact True.intro))
  (repeat refine aI ?_);refine hK _ ?_;clear hK K
  (first | refine W_cf rfl ?_ | refine W_seq (W_cf rfl ?_))
  refine W_skip ?_
  simp only [thenW]
  refine W_seq ?_
  ((first | refine W_seqV ?_ | refine W_seq (W_seqV ?_) | refine W_regV ?_);intro K hK;(refine sFd ?_;try exact True.intro))
  ((repeat refine aI ?_);refine ⟨by kernel_rfl,_,.pure rfl (hn),?_⟩;(try (refine sFd ?_;try exact True.intro));(repeat refine aI ?_))
  (refine sFdX hz ?_;try exact True.intro)
  (repeat refine aI ?_);refine hK _ ?_;clear hK K
  (first | refine W_cf rfl ?_ | refine W_seq (W_cf rfl ?_))
  refine W_skip ?_
  simp only [thenW]
  clear hn hz
  (refine aFd ?_)
  refine W_seq ?_
  ((first | refine W_seqV ?_ | refine W_seq (W_seqV ?_) | refine W_regV ?_);intro K hK;(refine sFd ?_;try exact True.intro))
  (repeat refine aI ?_);refine hK _ ?_;clear hK K
  (first | refine W_cf rfl ?_ | refine W_seq (W_cf rfl ?_))
  refine W_skip ?_
  simp only [thenW]
  ((first | refine W_seqR ?_ | refine W_seq (W_seqR ?_));intro K hK;(refine sFd ?_;try exact True.intro))
  (repeat refine aI ?_);refine hK _ ?_;clear hK K
  ((first | refine W_seqV ?_ | refine W_seq (W_seqV ?_) | refine W_regV ?_);intro K hK;(refine sFdX c1 ?_;try exact True.intro))
  (repeat refine aI ?_);refine hK _ ?_;clear hK K
  ((first | refine W_seqV ?_ | refine W_seq (W_seqV ?_) | refine W_regV ?_);intro K hK;(refine sFdX c2 ?_;try exact True.intro))
  (repeat refine aI ?_);refine hK _ ?_;clear hK K
  refine W_seq ?_
  ((first | refine W_seqV ?_ | refine W_seq (W_seqV ?_) | refine W_regV ?_);intro K hK;(refine sFd ?_;try exact True.intro))
  (repeat refine aI ?_);refine hK _ ?_;clear hK K
  (first | refine W_ct rfl ?_ | refine W_seq (W_ct rfl ?_))
  ((first | refine W_seqV ?_ | refine W_seq (W_seqV ?_) | refine W_regV ?_);intro K hK;(refine sFdX c3 ?_;try exact True.intro))
  (repeat refine aI ?_);refine hK _ ?_;clear hK K
  ((first | refine W_seqV ?_ | refine W_seq (W_seqV ?_) | refine W_regV ?_);intro K hK;(refine sFdX c4 ?_;try exact True.intro))
  (repeat refine aI ?_);refine hK _ ?_;clear hK K
  simp only [thenW]
  ((first | refine W_seqV ?_ | refine W_seq (W_seqV ?_) | refine W_regV ?_);intro K hK;(refine sFd ?_;try exact True.intro))
  (repeat refine aI ?_);refine hK _ ?_;clear hK K
  refine W_block (W_loop (fun t : {t : Nat × List Nat // t.1 ≤ l.length ∧ Hf l t.2 t.1} =>
   ⟨((.sl (u32s l))::(.int .i64 (-1))::.any::.any::.any::(.int .i64 0)::(.int .i64 l.length)::(.sref 33 0 l.length)::(.int .i64 (-1))::(.int .i64 31)::(.int .i64 t.1.1)::.any::.any::.any::.any::.any::.any::.any::.any::.any::.any::.any::.any::.any::.any::.any::.any::.any::.any::.any::.any::.any::.any::.any::.any::.any::.any::.any::.any::.any::.any::.any::.any::.any::.any::.any::.any::.any::.any::.any::.any::.any::.any::.any::.any::.any::.any::.any::.any::.any::.any::.any::.any::.any::.any::.any::.any::.any::.any::.any::.any::.any::.any::.any::.any::.any::.any::.any::.any::.any::.any::.any::.any::.any::.any::.any::.any::.any::.any::.any::.any::.any::.any::.any::.any::.any::.any::.any::.any::.any::.any::.any::.any::.any::.any::.any::[]),(.dead::.dead::.dead::.dead::.dead::.dead::.dead::.dead::.dead::.dead::.dead::.dead::.dead::.dead::.dead::.dead::.dead::.dead::.dead::.dead::.dead::.dead::.dead::.dead::.dead::.dead::.dead::.dead::.dead::.dead::.dead::.dead::.dead::(.arr 128 1 true (u32s t.1.2))::.dead::.dead::.dead::.dead::.dead::.dead::.dead::.dead::.dead::.dead::.dead::.dead::.dead::.dead::.dead::.dead::.dead::.dead::.dead::.dead::.dead::.dead::.dead::.dead::.dead::.dead::.dead::.dead::.dead::.dead::.dead::.dead::.dead::.dead::.dead::.dead::.dead::.dead::.dead::.dead::.dead::.dead::.dead::.dead::.dead::.dead::.dead::.dead::.dead::.dead::.dead::.dead::.dead::.dead::.dead::.dead::.dead::.dead::.dead::.dead::.dead::.dead::.dead::.dead::.dead::.dead::.dead::.dead::.dead::.dead::.dead::.dead::[])⟩) (fun t => l.length - t.1.1)
   ⟨(0,List.replicate l.length 0),by simp,Hf.start l⟩ (Le_of (by simp [leE,c3,c4]) (by simp)) fun t => ?_)
  obtain ⟨⟨i,c⟩,h3,hH⟩ := t
  dsimp only at h3 hH ⊢
  have hcl := hH.len
  by_cases hlt : i < l.length
  ·have hx := hl.getD i
   have hhi := shr_hi hx
   have hz := hH.zero i (Nat.le_refl _)
   have hd : l.getD i 0 / 2 < 4294967296 := by omega
   have hw : IntKind.wrap .i64 (IntKind.wrap .i64 ((i : Int) + -1) + 1) = (i : Int) := by rw [wrap_i64 (x := (i : Int) + -1) (by omega) (by omega),wrap_i64 (by omega) (by omega)];omega
   have hge : decide (0 ≤ (i : Int)) = true := decide_eq_true (by omega)
   refine W_seq ?_
   ((first | refine W_seqV ?_ | refine W_seq (W_seqV ?_) | refine W_regV ?_);intro K hK;(refine sFdX hlt ?_;try exact True.intro))
   (repeat refine aI ?_);refine hK _ ?_;clear hK K
   (first | refine W_ct rfl ?_ | refine W_seq (W_ct rfl ?_))
   refine W_skip ?_
   simp only [thenW]
   refine W_seq (W_block ?_)
   ((first | refine W_seqV ?_ | refine W_seq (W_seqV ?_) | refine W_regV ?_);intro K hK;(refine sFdX (And.intro hlt c5) ?_;try exact True.intro))
   (repeat refine aI ?_);refine hK _ ?_;clear hK K
   rcases i with _ | i
   ·have hneg : decide (0 ≤ IntKind.wrap .i64 (((0 : Nat) : Int) + -1)) = false := rfl
    have hst := hH.zero_step hlt hl
    have hw0 : IntKind.wrap .i64 (IntKind.wrap .i64 (-1) + 1) = 0 := rfl
    have hw1 : IntKind.wrap .i64 0 = 0 := rfl
    refine W_seq ?_
    ((first | refine W_seqV ?_ | refine W_seq (W_seqV ?_) | refine W_regV ?_);intro K hK;(refine sFdX c3 ?_;try exact True.intro))
    (repeat refine aI ?_);refine hK _ ?_;clear hK K
    (first | refine W_cf rfl ?_ | refine W_seq (W_cf rfl ?_))
    refine W_skip ?_
    simp only [thenW]
    ((first | refine W_seqV ?_ | refine W_seq (W_seqV ?_) | refine W_regV ?_);intro K hK;(refine sFdX (And.intro c3 (And.intro hlt hw1)) ?_;try exact True.intro))
    (repeat refine aI ?_);refine hK _ ?_;clear hK K
    (first | refine W_ct rfl ?_ | refine W_seq (W_ct rfl ?_))
    have hc0 : c.getD 0 0 < 4294967296 := by omega
    ((first | refine W_seqV ?_ | refine W_seq (W_seqV ?_) | refine W_regV ?_);intro K hK;(refine sFdX (And.intro c3 (And.intro hlt hw1)) ?_;try exact True.intro))
    (repeat refine aI ?_);refine hK _ ?_;clear hK K
    simp only [thenW,blockW]
    ((first | refine W_seqV ?_ | refine W_seq (W_seqV ?_) | refine W_regV ?_);intro K hK;(refine sFd ?_;try exact True.intro))
    (repeat refine aI ?_);refine hK _ ?_;clear hK K
    simp only [thenW,blockW]
    refine ⟨⟨(1,c.set 0 (l.getD 0 0 / 2)),by dsimp only;omega,hst⟩,Le_of (by simp [leE];try rfl) ?_,by dsimp only;omega⟩
    dsimp only
    simp only [List.cons.injEq,Ob.arr.injEq,true_and,and_true]
    simp only [hz,hhi,u32s_set]
   ·have hneg : IntKind.wrap .i64 (((i + 1 : Nat) : Int) + -1) = (i : Int) := by rw [wrap_i64 (by omega) (by omega)];omega
    have hlow := hH.low (by omega)
    rw [Nat.add_sub_cancel] at hlow
    have hlo := shr_lo (x := l.getD (i + 1) 0) hlow
    have hst := hH.step hlt hl
    have hgi : decide (0 ≤ (i : Int)) = true := decide_eq_true (by omega)
    have hil : i < l.length := by omega
    have hyl : c.getD i 0 < 4294967296 := by omega
    refine W_seq ?_
    ((first | refine W_seqV ?_ | refine W_seq (W_seqV ?_) | refine W_regV ?_);intro K hK;(refine sFdX (And.intro hneg (And.intro hgi hil)) ?_;try exact True.intro))
    (repeat refine aI ?_);refine hK _ ?_;clear hK K
    (first | refine W_ct rfl ?_ | refine W_seq (W_ct rfl ?_))
    ((first | refine W_seqV ?_ | refine W_seq (W_seqV ?_) | refine W_regV ?_);intro K hK;(refine sFdX (And.intro hneg hil) ?_;try exact True.intro))
    (repeat refine aI ?_);refine hK _ ?_;clear hK K
    simp only [thenW]
    simp only [hlo]
    have hz2 : (c.set i (c.getD i 0 + l.getD (i + 1) 0 % 2 * 2147483648)).getD (i + 1) 0 = 0 := by
     rw [List.getD_eq_getElem?_getD,List.getElem?_set_ne (by omega),← List.getD_eq_getElem?_getD];exact hz
    have hz3 : (c.set i (c.getD i 0 + l.getD (i + 1) 0 % 2 * 2147483648)).getD (i + 1) 0 < 4294967296 := by omega
    ((first | refine W_seqV ?_ | refine W_seq (W_seqV ?_) | refine W_regV ?_);intro K hK;(refine sFdX (And.intro hw (And.intro hge hlt)) ?_;try exact True.intro))
    (repeat refine aI ?_);refine hK _ ?_;clear hK K
    (first | refine W_ct rfl ?_ | refine W_seq (W_ct rfl ?_))
    ((first | refine W_seqV ?_ | refine W_seq (W_seqV ?_) | refine W_regV ?_);intro K hK;(refine sFdX (And.intro hw hlt) ?_;try exact True.intro))
    (repeat refine aI ?_);refine hK _ ?_;clear hK K
    simp only [thenW,blockW]
    ((first | refine W_seqV ?_ | refine W_seq (W_seqV ?_) | refine W_regV ?_);intro K hK;(refine sFd ?_;try exact True.intro))
    (repeat refine aI ?_);refine hK _ ?_;clear hK K
    simp only [thenW,blockW]
    refine ⟨⟨(i + 1 + 1,(c.set i (c.getD i 0 + l.getD (i + 1) 0 % 2 * 2147483648)).set (i + 1) (l.getD (i + 1) 0 / 2)),by dsimp only;omega,hst⟩,Le_of (by simp [leE];try rfl) ?_,by dsimp only;omega⟩
    dsimp only
    simp only [List.cons.injEq,Ob.arr.injEq,true_and,and_true]
    simp only [hz2,hhi,u32s_set]
  ·obtain rfl : i = l.length := by omega
   have hv := hH.done hl
   have hlt' : decide (l.length < l.length) = false := decide_eq_false (by omega)
   have hn := fnorm_ok c hH.limbs (by omega)
   rw [hv] at hn
   refine W_seq ?_
   ((first | refine W_seqV ?_ | refine W_seq (W_seqV ?_) | refine W_regV ?_);intro K hK;(refine sFdX hlt' ?_;try exact True.intro))
   (repeat refine aI ?_);refine hK _ ?_;clear hK K
   (first | refine W_cf rfl ?_ | refine W_seq (W_cf rfl ?_))
   refine W_exit ?_
   simp only [thenW,blockW,if_true]
   (refine W.le ?_ (Le_freeze 33 (rows := u32s c) rfl (by simp) (.inl rfl));simp only [St.freeze,List.map_cons,List.map_nil,List.set,if_true,if_false,Nat.reduceEqDiff,reduceCtorEq,List.drop_zero,u32s_take,u32s_drop,froz_any,froz_und,froz_int,froz_bool,froz_str,froz_nils,froz_sl,froz_ia,froz_nilp,froz_nilif,froz_nilfn,froz_nilmp,froz_gl,froz_sref,froz_ptr,froz_agg,froz_tup,froz_fn,froz_ifc,frozs_nil,frozs_cons,froz_dead,froz_arr,froz_mp,froz_it,froz_md,froz_map,froz_iter])
   rw [List.take_of_length_le (by omega)]
   ((first | refine W_seqV ?_ | refine W_seq (W_seqV ?_) | refine W_regV ?_);intro K hK;(refine sFd ?_;try exact True.intro))
   ((repeat refine aI ?_);refine ⟨by kernel_rfl,_,.pure rfl (hn),?_⟩;(try (refine sFd ?_;try exact True.intro));(repeat refine aI ?_))
   (repeat refine aI ?_);refine hK _ ?_;clear hK K
   refine W_ret ?_
   (refine qG ?_;try exact True.intro)
theorem sFe {G G' : Prop} (h : G') (e : G = G' := by conv => lhs;simp (disch := omega) only [rowsOf,cNat,cN,St.ret,St.seth,Eff.app,Eff.wi,sepL,guardOf,St.known,objOf,List.set,sliceW,litW,copyW,lenOf,bnd,mxOk,ofCells,TI.isAgg,cellsOf,storable,AV.one,dead,laid,overlay,reduceCtorEq,Int.reduceLE,Int.reduceLT,Int.reduceSub,Int.reduceAdd,Nat.reduceMul,Int.reduceToNat,Nat.reducePow,Int.reduceNeg,Nat.reduceAdd,Nat.reduceLT,Nat.reduceLeDiff,sA,sB,tyUint,List.take_length,sT]) : G := e.mpr h
theorem sFeX {G G' P : Prop} (p : P) (h : G') (e : P → G = G' := by intro p;conv => lhs;simp (disch := omega) only [rowsOf,cNat,cN,St.ret,St.seth,Eff.app,Eff.wi,sepL,guardOf,St.known,objOf,List.set,sliceW,litW,copyW,lenOf,bnd,mxOk,ofCells,TI.isAgg,cellsOf,storable,AV.one,dead,laid,overlay,reduceCtorEq,Int.reduceLE,Int.reduceLT,Int.reduceSub,Int.reduceAdd,Nat.reduceMul,Int.reduceToNat,Nat.reducePow,Int.reduceNeg,Nat.reduceAdd,Nat.reduceLT,Nat.reduceLeDiff,sA,sB,tyUint,List.take_length,sT,p]) : G := (e p).mpr h
theorem aFe {G G' : Prop} (h : G') (f : Wr G' → G := by intro h;(repeat (first|(refine W_seqV fun K hK => ?_;(try (refine sFe ?_;try exact True.intro));(repeat refine aI ?_);refine hK _ ?_;clear hK K)|(refine W_seqR fun K hK => ?_;(try (refine sFe ?_;try exact True.intro));(repeat refine aI ?_);refine hK _ ?_;clear hK K)|(refine W_seqD mixed [] (by kernel_rfl) fun K hK => ?_;(try (refine sFe ?_;try exact True.intro));(repeat refine aI ?_);refine hK _ ?_;clear hK K)));exact h.out) : G := f ⟨h⟩
theorem fbit_v (n i : Nat) (h : (limbs n).length < 549755813888) (hi : i < 1125899906842624) : Pure Tryz.prog 151 [cN n,.int .i64 i] (· = .bool (bitV n i)) := by
 have := fbit_ok (limbs n) i (limbs_limbs n) h hi
 rwa [val_limbs] at this
theorem ftwice_v (n : Nat) (d : Bool) (h : (limbs n).length < 549755813888) : Pure Tryz.prog 154 [cN n,.bool d] (· = cN (2 * n + d.toNat)) := by
 have := ftwice_ok (limbs n) d (limbs_limbs n) h
 rwa [val_limbs] at this
theorem fcmp_v (n m : Nat) (h : (limbs n).length < 549755813888) (h' : (limbs m).length < 549755813888) : Pure Tryz.prog 150 [cN n,cN m] (· = .int .i64 (sgn n m)) := by
 have := fcmp_ok (limbs n) (limbs m) (limbs_limbs n) (limbs_limbs m) (by omega) (by omega)
 rwa [val_limbs,val_limbs] at this
theorem fsub_v (n m : Nat) (h : (limbs n).length < 549755813888) (h' : (limbs m).length < 549755813888) (hle : m ≤ n) : Pure Tryz.prog 153 [cN n,cN m] (· = .tup [cN (n - m),.int .i64 0]) := by
 have := fsub_ok (limbs n) (limbs m) (limbs_limbs n) (limbs_limbs m) h h' (by rw [val_limbs,val_limbs];exact hle)
 rwa [val_limbs,val_limbs] at this
theorem fshr_v (n : Nat) (h : (limbs n).length < 549755813888) : Pure Tryz.prog 152 [cN n,.int .i64 (-1)] (· = .tup [cN (n / 2),.int .i64 0]) := by
 have := fshr_ok (limbs n) (limbs_limbs n) h
 rwa [val_limbs] at this
theorem limbs_low {n : Nat} (h : n ≠ 0) : 4294967296 ^ ((limbs n).length - 1) ≤ n := by
 have h1 := limbs_len_pos h
 have h2 := limbs_top h
 obtain ⟨k,hk⟩ : ∃ k,(limbs n).length = k + 1 := ⟨(limbs n).length - 1,by omega⟩
 rw [hk,Nat.add_sub_cancel] at h2 ⊢
 have h3 := val_top hk
 rw [val_limbs] at h3
 have h4 : 4294967296 ^ k * 1 ≤ 4294967296 ^ k * (limbs n).getD k 0 := Nat.mul_le_mul_left _ (by omega)
 generalize 4294967296 ^ k = P at *
 omega
theorem div_start {a b h : Nat} (hb : b ≠ 0) (hh : h = min ((limbs b).length - 1) (limbs a).length) :
  val ((limbs a).drop ((limbs a).length - h)) = a / 2 ^ (32 * ((limbs a).length - h)) ∧ a / 2 ^ (32 * ((limbs a).length - h)) < b := by
 have h1 := val_div (limbs a) (limbs_limbs a) ((limbs a).length - h)
 rw [val_limbs] at h1
 have h2 := pow_B ((limbs a).length - h) 0
 rw [Nat.add_zero,Nat.pow_zero,Nat.mul_one] at h2
 rw [h2,h1]
 refine ⟨rfl,?_⟩
 have h3 := val_lt ((limbs_limbs a).drop ((limbs a).length - h))
 have h4 := limbs_low hb
 have h5 : ((limbs a).drop ((limbs a).length - h)).length ≤ (limbs b).length - 1 := by rw [List.length_drop];omega
 have h6 : 4294967296 ^ ((limbs a).drop ((limbs a).length - h)).length ≤ 4294967296 ^ ((limbs b).length - 1) := Nat.pow_le_pow_right (by omega) h5
 exact Nat.lt_of_lt_of_le h3 (Nat.le_trans h6 h4)
theorem bitV_toNat (n i : Nat) : (bitV n i).toNat = n / 2 ^ i % 2 := by
 unfold bitV
 have : n / 2 ^ i % 2 < 2 := Nat.mod_lt _ (by omega)
 rcases (show n / 2 ^ i % 2 = 0 ∨ n / 2 ^ i % 2 = 1 by omega) with h | h <;> rw [h] <;> rfl
set_option maxHeartbeats 8000000 in
theorem fdiv_ok (l m : List Nat) (hl : Limbs l) (hm : Limbs m) (h1 : l.length < 274877906944) (h2 : m.length < 274877906944) :
  Pure Tryz.prog 118 [cNat l,cNat m] (· = divR (val l) (val m)) := by
 have hna := fnorm_ok l hl (by omega)
 have hnb := fnorm_ok m hm (by omega)
 have hal := limbs_val_length hl
 have hbl := limbs_val_length hm
 simp only [cN,cNat] at hna hnb
 generalize val l = a at *
 generalize val m = b at *
 by_cases hb0 : b = 0
 ·subst hb0
  rw [limbs_zero] at hnb
  (refine pureW Tryz.func118 rfl (rs := [Go.ResultVar.tmp 4,Go.ResultVar.tmp 5,Go.ResultVar.tmp 6]) rfl (n := 76) rfl ?_;simp only [List.length_cons,List.length_nil,List.replicate,List.cons_append,List.nil_append])
  unfold cNat
  (refine aFe ?_)
  ((first | refine W_seqV ?_ | refine W_seq (W_seqV ?_) | refine W_regV ?_);intro K hK;(refine sFe ?_;try exact True.intro))
  ((repeat refine aI ?_);refine ⟨by kernel_rfl,_,.pure rfl (hnb),?_⟩;(try (refine sFe ?_;try exact True.intro));(repeat refine aI ?_))
  (repeat refine aI ?_);refine hK _ ?_;clear hK K
  refine W_seq ?_
  ((first | refine W_seqV ?_ | refine W_seq (W_seqV ?_) | refine W_regV ?_);intro K hK;(refine sFe ?_;try exact True.intro))
  (repeat refine aI ?_);refine hK _ ?_;clear hK K
  (first | refine W_ct rfl ?_ | refine W_seq (W_ct rfl ?_))
  ((first | refine W_seqV ?_ | refine W_seq (W_seqV ?_) | refine W_regV ?_);intro K hK;(refine sFe ?_;try exact True.intro))
  (repeat refine aI ?_);refine hK _ ?_;clear hK K
  refine W_ret ?_
  (refine qG ?_;try exact True.intro)
  simp [divR,cN,cNat,limbs_zero,u32s]
 ·have hbp := limbs_len_pos hb0
  have hz : (((limbs b).length : Int) == 0) = false := by rw [beq_eq_false_iff_ne];omega
  rw [divR,if_neg hb0]
  obtain ⟨hi,hhi⟩ : ∃ hi,hi = min ((limbs b).length - 1) (limbs a).length := ⟨_,rfl⟩
  obtain ⟨hs1,hs2⟩ := div_start hb0 hhi
  have hLd := (limbs_limbs a).drop ((limbs a).length - hi)
  have hr0 := fnorm_ok _ hLd (by rw [List.length_drop];omega)
  rw [hs1] at hr0
  simp only [cN,cNat] at hr0
  (refine pureW Tryz.func118 rfl (rs := [Go.ResultVar.tmp 4,Go.ResultVar.tmp 5,Go.ResultVar.tmp 6]) rfl (n := 76) rfl ?_;simp only [List.length_cons,List.length_nil,List.replicate,List.cons_append,List.nil_append])
  unfold cNat
  (refine aFe ?_)
  ((first | refine W_seqV ?_ | refine W_seq (W_seqV ?_) | refine W_regV ?_);intro K hK;(refine sFe ?_;try exact True.intro))
  ((repeat refine aI ?_);refine ⟨by kernel_rfl,_,.pure rfl (hnb),?_⟩;(try (refine sFe ?_;try exact True.intro));(repeat refine aI ?_))
  (repeat refine aI ?_);refine hK _ ?_;clear hK K
  refine W_seq ?_
  ((first | refine W_seqV ?_ | refine W_seq (W_seqV ?_) | refine W_regV ?_);intro K hK;(refine sFeX hz ?_;try exact True.intro))
  (repeat refine aI ?_);refine hK _ ?_;clear hK K
  (first | refine W_cf rfl ?_ | refine W_seq (W_cf rfl ?_))
  refine W_skip ?_
  simp only [thenW]
  ((first | refine W_seqV ?_ | refine W_seq (W_seqV ?_) | refine W_regV ?_);intro K hK;(refine sFe ?_;try exact True.intro))
  ((repeat refine aI ?_);refine ⟨by kernel_rfl,_,.pure rfl (hna),?_⟩;(try (refine sFe ?_;try exact True.intro));(repeat refine aI ?_))
  (repeat refine aI ?_);refine hK _ ?_;clear hK K
  ((first | refine W_seqR ?_ | refine W_seq (W_seqR ?_));intro K hK;(refine sFe ?_;try exact True.intro))
  (repeat refine aI ?_);refine hK _ ?_;clear hK K
  ((first | refine W_seqV ?_ | refine W_seq (W_seqV ?_) | refine W_regV ?_);intro K hK;(refine sFe ?_;try exact True.intro))
  (repeat refine aI ?_);refine hK _ ?_;clear hK K
  refine W_join (fun s' => Le [] s' ⟨((.sl (u32s (limbs a)))::(.sl (u32s (limbs b)))::.any::.any::.any::.any::(.int .i64 0)::(.sref 20 0 (limbs a).length)::(.int .i64 (hi : Int))::.any::.any::.any::.any::.any::.any::.any::.any::.any::.any::.any::.any::.any::.any::.any::.any::.any::.any::.any::.any::.any::.any::.any::.any::.any::.any::.any::.any::.any::.any::.any::.any::.any::.any::.any::.any::.any::.any::.any::.any::.any::.any::.any::.any::.any::.any::.any::.any::.any::.any::.any::.any::.any::.any::.any::.any::.any::.any::.any::.any::.any::.any::.any::.any::.any::.any::.any::[]),(.dead::.dead::.dead::.dead::.dead::.dead::.dead::.dead::.dead::.dead::.dead::.dead::.dead::.dead::.dead::.dead::.dead::.dead::.dead::.dead::(.arr 128 1 true (u32s (List.replicate (limbs a).length 0)))::.dead::.dead::.dead::.dead::.dead::.dead::.dead::.dead::.dead::.dead::.dead::.dead::.dead::.dead::.dead::.dead::.dead::.dead::.dead::.dead::.dead::.dead::.dead::.dead::.dead::.dead::.dead::.dead::.dead::.dead::.dead::.dead::.dead::.dead::.dead::.dead::.dead::.dead::.dead::.dead::.dead::.dead::.dead::.dead::.dead::.dead::.dead::.dead::.dead::.dead::.dead::.dead::.dead::.dead::.dead::[])⟩) ?_ ?_
  ·by_cases hgt : (limbs a).length < (limbs b).length - 1
   ·((first | refine W_seqV ?_ | refine W_seq (W_seqV ?_) | refine W_regV ?_);intro K hK;(refine sFeX hgt ?_;try exact True.intro))
    (repeat refine aI ?_);refine hK _ ?_;clear hK K
    (first | refine W_ct rfl ?_ | refine W_seq (W_ct rfl ?_))
    ((first | refine W_seqV ?_ | refine W_seq (W_seqV ?_) | refine W_regV ?_);intro K hK;(refine sFe ?_;try exact True.intro))
    (repeat refine aI ?_);refine hK _ ?_;clear hK K
    simp only [thenW]
    exact Le_of (by simp [leE];omega) (by simp)
   ·have hgt' : decide ((limbs a).length < (limbs b).length - 1) = false := decide_eq_false hgt
    ((first | refine W_seqV ?_ | refine W_seq (W_seqV ?_) | refine W_regV ?_);intro K hK;(refine sFeX hgt' ?_;try exact True.intro))
    (repeat refine aI ?_);refine hK _ ?_;clear hK K
    (first | refine W_cf rfl ?_ | refine W_seq (W_cf rfl ?_))
    refine W_skip ?_
    simp only [thenW]
    exact Le_of (by simp [leE];omega) (by simp)
  intro s' hle
  refine W.le ?_ hle
  clear hle s'
  have hw32 : IntKind.wrap .i64 (IntKind.wrap .i64 (32 * (((limbs a).length - hi : Nat) : Int)) - 1) = ((32 * ((limbs a).length - hi) : Nat) : Int) - 1 := by
   rw [wrap_i64 (x := 32 * (((limbs a).length - hi : Nat) : Int)) (by omega) (by omega),wrap_i64 (by omega) (by omega)];omega
  ((first | refine W_seqV ?_ | refine W_seq (W_seqV ?_) | refine W_regV ?_);intro K hK;(refine sFe ?_;try exact True.intro))
  ((repeat refine aI ?_);refine ⟨by kernel_rfl,_,.pure rfl (hr0),?_⟩;(try (refine sFe ?_;try exact True.intro));(repeat refine aI ?_))
  (repeat refine aI ?_);refine hK _ ?_;clear hK K
  ((first | refine W_seqV ?_ | refine W_seq (W_seqV ?_) | refine W_regV ?_);intro K hK;(refine sFeX hw32 ?_;try exact True.intro))
  (repeat refine aI ?_);refine hK _ ?_;clear hK K
  have hb : 0 < b := by omega
  refine W_block (W_loop (fun t : {t : Nat × List Nat // t.1 ≤ 32 * ((limbs a).length - hi) ∧ t.2.length = (limbs a).length ∧ Limbs t.2 ∧ val t.2 = a / 2 ^ t.1 / b * 2 ^ t.1} =>
   ⟨((.sl (u32s (limbs a)))::(.sl (u32s (limbs b)))::.any::.any::.any::.any::(.int .i64 0)::(.sref 20 0 (limbs a).length)::.any::(cN (a / 2 ^ t.1.1 % b))::(.int .i64 ((t.1.1 : Int) - 1))::.any::.any::.any::.any::.any::.any::.any::.any::.any::.any::.any::.any::.any::.any::.any::.any::.any::.any::.any::.any::.any::.any::.any::.any::.any::.any::.any::.any::.any::.any::.any::.any::.any::.any::.any::.any::.any::.any::.any::.any::.any::.any::.any::.any::.any::.any::.any::.any::.any::.any::.any::.any::.any::.any::.any::.any::.any::.any::.any::.any::.any::.any::.any::.any::.any::[]),(.dead::.dead::.dead::.dead::.dead::.dead::.dead::.dead::.dead::.dead::.dead::.dead::.dead::.dead::.dead::.dead::.dead::.dead::.dead::.dead::(.arr 128 1 true (u32s t.1.2))::.dead::.dead::.dead::.dead::.dead::.dead::.dead::.dead::.dead::.dead::.dead::.dead::.dead::.dead::.dead::.dead::.dead::.dead::.dead::.dead::.dead::.dead::.dead::.dead::.dead::.dead::.dead::.dead::.dead::.dead::.dead::.dead::.dead::.dead::.dead::.dead::.dead::.dead::.dead::.dead::.dead::.dead::.dead::.dead::.dead::.dead::.dead::.dead::.dead::.dead::.dead::.dead::.dead::.dead::.dead::[])⟩) (fun t => t.1.1)
   ⟨(32 * ((limbs a).length - hi),List.replicate (limbs a).length 0),Nat.le_refl _,by simp,Limbs.rep _,by dsimp only;rw [Nat.div_eq_of_lt hs2,Nat.zero_mul];exact val_zeros _⟩ (Le_of (by simp [leE,cN,cNat,Nat.mod_eq_of_lt hs2]) (by simp)) fun t => ?_)
  obtain ⟨⟨t,q⟩,ht,hql,hqL,hqv⟩ := t
  dsimp only at ht hql hqL hqv ⊢
  simp only [cN,cNat]
  rcases t with _ | t
  ·have hq0 : val q = a / b := by rw [hqv];simp
   have hnq := fnorm_ok q hqL (by omega)
   rw [hq0] at hnq
   refine W_seq ?_
   ((first | refine W_seqV ?_ | refine W_seq (W_seqV ?_) | refine W_regV ?_);intro K hK;(refine sFe ?_;try exact True.intro))
   (repeat refine aI ?_);refine hK _ ?_;clear hK K
   (first | refine W_cf rfl ?_ | refine W_seq (W_cf rfl ?_))
   refine W_exit ?_
   simp only [thenW,blockW,if_true]
   (refine W.le ?_ (Le_freeze 20 (rows := u32s q) rfl (by simp) (.inl rfl));simp only [St.freeze,List.map_cons,List.map_nil,List.set,if_true,if_false,Nat.reduceEqDiff,reduceCtorEq,List.drop_zero,u32s_take,u32s_drop,froz_any,froz_und,froz_int,froz_bool,froz_str,froz_nils,froz_sl,froz_ia,froz_nilp,froz_nilif,froz_nilfn,froz_nilmp,froz_gl,froz_sref,froz_ptr,froz_agg,froz_tup,froz_fn,froz_ifc,frozs_nil,frozs_cons,froz_dead,froz_arr,froz_mp,froz_it,froz_md,froz_map,froz_iter])
   rw [List.take_of_length_le (by omega)]
   ((first | refine W_seqV ?_ | refine W_seq (W_seqV ?_) | refine W_regV ?_);intro K hK;(refine sFe ?_;try exact True.intro))
   ((repeat refine aI ?_);refine ⟨by kernel_rfl,_,.pure rfl (hnq),?_⟩;(try (refine sFe ?_;try exact True.intro));(repeat refine aI ?_))
   (repeat refine aI ?_);refine hK _ ?_;clear hK K
   refine W_ret ?_
   (refine qG ?_;try exact True.intro)
   simp
  ·have hj : ((t + 1 : Nat) : Int) - 1 = t := by omega
   rw [hj]
   obtain ⟨e1,e2,e3,e4⟩ := div_step hb (rfl : a / 2 ^ (t + 1) % b = _) hqv
   have hbv := bitV_toNat a t
   have hrb : a / 2 ^ (t + 1) % b < b := Nat.mod_lt _ hb
   have hrl := limbs_mono (Nat.le_of_lt hrb)
   have hbt := fbit_v a t (by omega) (by omega)
   have htw := ftwice_v (a / 2 ^ (t + 1) % b) (bitV a t) (by omega)
   rw [hbv] at htw
   have hr2 : (limbs (2 * (a / 2 ^ (t + 1) % b) + a / 2 ^ t % 2)).length ≤ (limbs b).length + 1 := by
    refine limbs_length_le (Nat.lt_of_lt_of_le e2 ?_)
    have := lt_len b
    rw [Nat.pow_succ]
    generalize 4294967296 ^ (limbs b).length = P at *
    omega
   have hcm := fcmp_v (2 * (a / 2 ^ (t + 1) % b) + a / 2 ^ t % 2) b (by omega) (by omega)
   have hge : decide ((0 : Int) ≤ (t : Int)) = true := decide_eq_true (by omega)
   have hwt : IntKind.wrap .i64 ((t : Int) - 1) = (t : Int) - 1 := wrap_i64 (by omega) (by omega)
   simp only [cN,cNat] at hbt htw
   refine W_seq ?_
   ((first | refine W_seqV ?_ | refine W_seq (W_seqV ?_) | refine W_regV ?_);intro K hK;(refine sFeX hge ?_;try exact True.intro))
   (repeat refine aI ?_);refine hK _ ?_;clear hK K
   (first | refine W_ct rfl ?_ | refine W_seq (W_ct rfl ?_))
   refine W_skip ?_
   simp only [thenW]
   refine W_seq (W_block ?_)
   ((first | refine W_seqV ?_ | refine W_seq (W_seqV ?_) | refine W_regV ?_);intro K hK;(refine sFe ?_;try exact True.intro))
   ((repeat refine aI ?_);refine ⟨by kernel_rfl,_,.pure rfl (hbt),?_⟩;(try (refine sFe ?_;try exact True.intro));(repeat refine aI ?_))
   ((repeat refine aI ?_);refine ⟨by kernel_rfl,_,.pure rfl (htw),?_⟩;(try (refine sFe ?_;try exact True.intro));(repeat refine aI ?_))
   (repeat refine aI ?_);refine hK _ ?_;clear hK K
   by_cases hle : b ≤ 2 * (a / 2 ^ (t + 1) % b) + a / 2 ^ t % 2
   ·obtain ⟨e5,e6⟩ := e3 hle
    have hs := sgn_nn hle
    have hsb := fsub_v (2 * (a / 2 ^ (t + 1) % b) + a / 2 ^ t % 2) b (by omega) (by omega) hle
    rw [e5] at hsb
    simp only [cN,cNat] at hsb hcm
    refine W_seq ?_
    ((first | refine W_seqV ?_ | refine W_seq (W_seqV ?_) | refine W_regV ?_);intro K hK;(refine sFe ?_;try exact True.intro))
    ((repeat refine aI ?_);refine ⟨by kernel_rfl,_,.pure rfl (hcm),?_⟩;(try (refine sFe ?_;try exact True.intro));(repeat refine aI ?_))
    (refine sFeX hs ?_;try exact True.intro)
    (repeat refine aI ?_);refine hK _ ?_;clear hK K
    (first | refine W_ct rfl ?_ | refine W_seq (W_ct rfl ?_))
    ((first | refine W_seqV ?_ | refine W_seq (W_seqV ?_) | refine W_regV ?_);intro K hK;(refine sFe ?_;try exact True.intro))
    ((repeat refine aI ?_);refine ⟨by kernel_rfl,_,.pure rfl (hsb),?_⟩;(try (refine sFe ?_;try exact True.intro));(repeat refine aI ?_))
    (repeat refine aI ?_);refine hK _ ?_;clear hK K
    have hr32 : t % 32 < 32 := Nat.mod_lt _ (by omega)
    have hp32 : t / 32 < q.length := by omega
    have hp32' : t / 32 < (limbs a).length := by omega
    have hx := hqL.getD (t / 32)
    have h2lt : 2 ^ (t % 32) < 4294967296 := Nat.lt_of_lt_of_le (Nat.pow_lt_pow_right (by omega) hr32) (by decide)
    have hmul := limb_mul (q := q) hqL (p := t / 32) (r := t % 32) (k := a / 2 ^ (t + 1) / b) hr32 (by rw [hqv,Nat.div_add_mod,Nat.mul_comm])
    have hor := or_bit hmul
    have hlt32 := or_bit_lt hx hr32 hmul
    have hset := val_set hp32 (q.getD (t / 32) 0 + 2 ^ (t % 32))
    rw [Nat.mul_add,← pow_B,Nat.div_add_mod] at hset
    have hvs : val (q.set (t / 32) (q.getD (t / 32) 0 + 2 ^ (t % 32))) = a / 2 ^ t / b * 2 ^ t := by omega
    have hqq : IntKind.wrap .i64 ((t : Int).tdiv 32) = ((t / 32 : Nat) : Int) := by
     rw [show (t : Int).tdiv 32 = ((t / 32 : Nat) : Int) from rfl];exact wrap_i64_nat (by omega)
    have hrr : (t : Int).tmod 32 = ((t % 32 : Nat) : Int) := rfl
    have hsh : IntKind.wrap .u32 (1 * p2 (t % 32)) = ((2 ^ (t % 32) : Nat) : Int) := by
     have := shl_u32 (n := 1) (k := t % 32)
     rw [Nat.one_mul,Nat.mod_eq_of_lt h2lt] at this
     exact this
    have hmi : min (t % 32) 32 = t % 32 := Nat.min_eq_left (by omega)
    ((first | refine W_seqV ?_ | refine W_seq (W_seqV ?_) | refine W_regV ?_);intro K hK;(refine sFeX (And.intro hqq (And.intro hrr (And.intro hsh (And.intro hmi hp32')))) ?_;try exact True.intro))
    (repeat refine aI ?_);refine hK _ ?_;clear hK K
    simp only [thenW,blockW]
    ((first | refine W_seqV ?_ | refine W_seq (W_seqV ?_) | refine W_regV ?_);intro K hK;(refine sFeX hwt ?_;try exact True.intro))
    (repeat refine aI ?_);refine hK _ ?_;clear hK K
    simp only [thenW,blockW]
    exact ⟨⟨(t,q.set (t / 32) (q.getD (t / 32) 0 + 2 ^ (t % 32))),by dsimp only;omega,by simpa using hql,hqL.set _ hlt32,hvs⟩,Le_of (by simp [leE,cN,cNat]) (by simp only [hor]),by dsimp only;omega⟩
   ·obtain ⟨e5,e6⟩ := e4 (by omega)
    have hs := sgn_ng hle
    simp only [cN,cNat] at hcm
    refine W_seq ?_
    ((first | refine W_seqV ?_ | refine W_seq (W_seqV ?_) | refine W_regV ?_);intro K hK;(refine sFe ?_;try exact True.intro))
    ((repeat refine aI ?_);refine ⟨by kernel_rfl,_,.pure rfl (hcm),?_⟩;(try (refine sFe ?_;try exact True.intro));(repeat refine aI ?_))
    (refine sFeX hs ?_;try exact True.intro)
    (repeat refine aI ?_);refine hK _ ?_;clear hK K
    (first | refine W_cf rfl ?_ | refine W_seq (W_cf rfl ?_))
    refine W_skip ?_
    simp only [thenW,blockW]
    ((first | refine W_seqV ?_ | refine W_seq (W_seqV ?_) | refine W_regV ?_);intro K hK;(refine sFeX hwt ?_;try exact True.intro))
    (repeat refine aI ?_);refine hK _ ?_;clear hK K
    simp only [thenW,blockW]
    exact ⟨⟨(t,q),by dsimp only;omega,hql,hqL,e6⟩,Le_of (by simp [leE,cN,cNat,e5]) rfl,by dsimp only;omega⟩
theorem sFf {G G' : Prop} (h : G') (e : G = G' := by conv => lhs;simp (disch := omega) only [rowsOf,cNat,cN,St.ret,St.seth,Eff.app,Eff.wi,sepL,guardOf,St.known,objOf,List.set,sliceW,litW,copyW,lenOf,bnd,mxOk,ofCells,TI.isAgg,cellsOf,storable,AV.one,dead,laid,overlay,reduceCtorEq,Int.reduceLE,Int.reduceLT,Int.reduceSub,Int.reduceAdd,Nat.reduceMul,Int.reduceToNat,Nat.reducePow,Int.reduceNeg,Nat.reduceAdd,Nat.reduceLT,Nat.reduceLeDiff,sA,sB,tyUint,List.take_length,sT]) : G := e.mpr h
theorem sFfX {G G' P : Prop} (p : P) (h : G') (e : P → G = G' := by intro p;conv => lhs;simp (disch := omega) only [rowsOf,cNat,cN,St.ret,St.seth,Eff.app,Eff.wi,sepL,guardOf,St.known,objOf,List.set,sliceW,litW,copyW,lenOf,bnd,mxOk,ofCells,TI.isAgg,cellsOf,storable,AV.one,dead,laid,overlay,reduceCtorEq,Int.reduceLE,Int.reduceLT,Int.reduceSub,Int.reduceAdd,Nat.reduceMul,Int.reduceToNat,Nat.reducePow,Int.reduceNeg,Nat.reduceAdd,Nat.reduceLT,Nat.reduceLeDiff,sA,sB,tyUint,List.take_length,sT,p]) : G := (e p).mpr h
theorem aFf {G G' : Prop} (h : G') (f : Wr G' → G := by intro h;(repeat (first|(refine W_seqV fun K hK => ?_;(try (refine sFf ?_;try exact True.intro));(repeat refine aI ?_);refine hK _ ?_;clear hK K)|(refine W_seqR fun K hK => ?_;(try (refine sFf ?_;try exact True.intro));(repeat refine aI ?_);refine hK _ ?_;clear hK K)|(refine W_seqD mixed [] (by kernel_rfl) fun K hK => ?_;(try (refine sFf ?_;try exact True.intro));(repeat refine aI ?_);refine hK _ ?_;clear hK K)));exact h.out) : G := f ⟨h⟩
theorem even_bit (n : Nat) : bitV n 0 = decide (n % 2 = 1) := by
 unfold bitV
 rw [Nat.pow_zero,Nat.div_one,Bool.eq_iff_iff]
 simp
theorem gcd_lims {x t a : Nat} (h0 : a ≠ 0) (h : x * 2 ^ t = a) : 0 < x ∧ (limbs x).length ≤ (limbs a).length ∧ t ≤ 32 * (limbs a).length := by
 have h1 : 0 < x := by
  rcases Nat.eq_zero_or_pos x with hz | hz
  ·subst hz;rw [Nat.zero_mul] at h;omega
  ·exact hz
 have h2 : 0 < 2 ^ t := Nat.pow_pos (by omega)
 refine ⟨h1,limbs_mono (by rw [← h];exact Nat.le_mul_of_pos_right _ h2),?_⟩
 have h3 := lt_len a
 rw [show (4294967296 : Nat) = 2 ^ 32 from rfl,← Nat.pow_mul] at h3
 have h4 : 2 ^ t ≤ a := by rw [← h];exact Nat.le_mul_of_pos_left _ h1
 have h5 : 2 ^ t < 2 ^ (32 * (limbs a).length) := Nat.lt_of_le_of_lt h4 h3
 exact Nat.le_of_lt ((Nat.pow_lt_pow_iff_right (by omega)).1 h5)
theorem half_pow {x t a : Nat} (h0 : x % 2 = 0) (h : x * 2 ^ t = a) : x / 2 * 2 ^ (t + 1) = a := by
 rw [Nat.pow_succ,← h,← Nat.mul_assoc,Nat.mul_right_comm,Nat.div_mul_cancel (by omega)]
set_option maxHeartbeats 16000000 in
theorem fgcd_ok (l m : List Nat) (hl : Limbs l) (hm : Limbs m) (h1 : l.length < 274877906944) (h2 : m.length < 274877906944) :
  Pure Tryz.prog 117 [cNat l,cNat m] (· = cN (Nat.gcd (val l) (val m))) := by
 have hna := fnorm_ok l hl (by omega)
 have hnb := fnorm_ok m hm (by omega)
 have hal := limbs_val_length hl
 have hbl := limbs_val_length hm
 simp only [cN,cNat] at hna hnb
 generalize val l = a at *
 generalize val m = b at *
 clear hl hm
 by_cases ha0 : a = 0
 ·subst ha0
  rw [limbs_zero] at hna
  (refine pureW Tryz.func117 rfl (rs := [Go.ResultVar.tmp 4]) rfl (n := 91) rfl ?_;simp only [List.length_cons,List.length_nil,List.replicate,List.cons_append,List.nil_append])
  unfold cNat
  (refine aFf ?_)
  ((first | refine W_seqV ?_ | refine W_seq (W_seqV ?_) | refine W_regV ?_);intro K hK;(refine sFf ?_;try exact True.intro))
  ((repeat refine aI ?_);refine ⟨by kernel_rfl,_,.pure rfl (hna),?_⟩;(try (refine sFf ?_;try exact True.intro));(repeat refine aI ?_))
  (repeat refine aI ?_);refine hK _ ?_;clear hK K
  ((first | refine W_seqV ?_ | refine W_seq (W_seqV ?_) | refine W_regV ?_);intro K hK;(refine sFf ?_;try exact True.intro))
  ((repeat refine aI ?_);refine ⟨by kernel_rfl,_,.pure rfl (hnb),?_⟩;(try (refine sFf ?_;try exact True.intro));(repeat refine aI ?_))
  (repeat refine aI ?_);refine hK _ ?_;clear hK K
  refine W_seq ?_
  ((first | refine W_seqV ?_ | refine W_seq (W_seqV ?_) | refine W_regV ?_);intro K hK;(refine sFf ?_;try exact True.intro))
  (repeat refine aI ?_);refine hK _ ?_;clear hK K
  (first | refine W_ct rfl ?_ | refine W_seq (W_ct rfl ?_))
  ((first | refine W_seqV ?_ | refine W_seq (W_seqV ?_) | refine W_regV ?_);intro K hK;(refine sFf ?_;try exact True.intro))
  (repeat refine aI ?_);refine hK _ ?_;clear hK K
  refine W_ret ?_
  (refine qG ?_;try exact True.intro)
  rw [Nat.gcd_zero_left]
 have hap := limbs_len_pos ha0
 have hza : (((limbs a).length : Int) == 0) = false := by rw [beq_eq_false_iff_ne];omega
 by_cases hb0 : b = 0
 ·subst hb0
  rw [limbs_zero] at hnb
  (refine pureW Tryz.func117 rfl (rs := [Go.ResultVar.tmp 4]) rfl (n := 91) rfl ?_;simp only [List.length_cons,List.length_nil,List.replicate,List.cons_append,List.nil_append])
  unfold cNat
  (refine aFf ?_)
  ((first | refine W_seqV ?_ | refine W_seq (W_seqV ?_) | refine W_regV ?_);intro K hK;(refine sFf ?_;try exact True.intro))
  ((repeat refine aI ?_);refine ⟨by kernel_rfl,_,.pure rfl (hna),?_⟩;(try (refine sFf ?_;try exact True.intro));(repeat refine aI ?_))
  (repeat refine aI ?_);refine hK _ ?_;clear hK K
  ((first | refine W_seqV ?_ | refine W_seq (W_seqV ?_) | refine W_regV ?_);intro K hK;(refine sFf ?_;try exact True.intro))
  ((repeat refine aI ?_);refine ⟨by kernel_rfl,_,.pure rfl (hnb),?_⟩;(try (refine sFf ?_;try exact True.intro));(repeat refine aI ?_))
  (repeat refine aI ?_);refine hK _ ?_;clear hK K
  refine W_seq ?_
  ((first | refine W_seqV ?_ | refine W_seq (W_seqV ?_) | refine W_regV ?_);intro K hK;(refine sFfX hza ?_;try exact True.intro))
  (repeat refine aI ?_);refine hK _ ?_;clear hK K
  (first | refine W_cf rfl ?_ | refine W_seq (W_cf rfl ?_))
  refine W_skip ?_
  simp only [thenW]
  refine W_seq ?_
  ((first | refine W_seqV ?_ | refine W_seq (W_seqV ?_) | refine W_regV ?_);intro K hK;(refine sFf ?_;try exact True.intro))
  (repeat refine aI ?_);refine hK _ ?_;clear hK K
  (first | refine W_ct rfl ?_ | refine W_seq (W_ct rfl ?_))
  ((first | refine W_seqV ?_ | refine W_seq (W_seqV ?_) | refine W_regV ?_);intro K hK;(refine sFf ?_;try exact True.intro))
  (repeat refine aI ?_);refine hK _ ?_;clear hK K
  refine W_ret ?_
  (refine qG ?_;try exact True.intro)
  rw [Nat.gcd_zero_right]
 have hbp := limbs_len_pos hb0
 have hzb : (((limbs b).length : Int) == 0) = false := by rw [beq_eq_false_iff_ne];omega
 have hl1 : limbs 1 = [1] := by rw [limbs_pos (by decide)];simp [limbs_zero]
 have hca := fcmp_v a 1 (by omega) (by rw [hl1];simp)
 have hcb := fcmp_v b 1 (by omega) (by rw [hl1];simp)
 simp only [cN,cNat,hl1] at hca hcb
 have he1 : (sgn a 1 == 0) = decide (a = 1) := by
  unfold sgn
  by_cases h : a = 1
  ·subst h;rfl
  ·rw [if_neg (by omega),if_pos (by omega),decide_eq_false h];rfl
 have he2 : (sgn b 1 == 0) = decide (b = 1) := by
  unfold sgn
  by_cases h : b = 1
  ·subst h;rfl
  ·rw [if_neg (by omega),if_pos (by omega),decide_eq_false h];rfl
 have hMa : (limbs a).length < 274877906944 := by omega
 have hMb : (limbs b).length < 274877906944 := by omega
 clear hal hbl h1 h2
 (refine pureW Tryz.func117 rfl (rs := [Go.ResultVar.tmp 4]) rfl (n := 91) rfl ?_;simp only [List.length_cons,List.length_nil,List.replicate,List.cons_append,List.nil_append])
 unfold cNat
 (refine aFf ?_)
 ((first | refine W_seqV ?_ | refine W_seq (W_seqV ?_) | refine W_regV ?_);intro K hK;(refine sFf ?_;try exact True.intro))
 ((repeat refine aI ?_);refine ⟨by kernel_rfl,_,.pure rfl (hna),?_⟩;(try (refine sFf ?_;try exact True.intro));(repeat refine aI ?_))
 (repeat refine aI ?_);refine hK _ ?_;clear hK K
 ((first | refine W_seqV ?_ | refine W_seq (W_seqV ?_) | refine W_regV ?_);intro K hK;(refine sFf ?_;try exact True.intro))
 ((repeat refine aI ?_);refine ⟨by kernel_rfl,_,.pure rfl (hnb),?_⟩;(try (refine sFf ?_;try exact True.intro));(repeat refine aI ?_))
 (repeat refine aI ?_);refine hK _ ?_;clear hK K
 refine W_seq ?_
 ((first | refine W_seqV ?_ | refine W_seq (W_seqV ?_) | refine W_regV ?_);intro K hK;(refine sFfX hza ?_;try exact True.intro))
 (repeat refine aI ?_);refine hK _ ?_;clear hK K
 (first | refine W_cf rfl ?_ | refine W_seq (W_cf rfl ?_))
 refine W_skip ?_
 simp only [thenW]
 refine W_seq ?_
 ((first | refine W_seqV ?_ | refine W_seq (W_seqV ?_) | refine W_regV ?_);intro K hK;(refine sFfX hzb ?_;try exact True.intro))
 (repeat refine aI ?_);refine hK _ ?_;clear hK K
 (first | refine W_cf rfl ?_ | refine W_seq (W_cf rfl ?_))
 refine W_skip ?_
 simp only [thenW]
 ((first | refine W_seqV ?_ | refine W_seq (W_seqV ?_) | refine W_regV ?_);intro K hK;(refine sFf ?_;try exact True.intro))
 (repeat refine aI ?_);refine hK _ ?_;clear hK K
 clear hna hnb
 by_cases ha1 : a = 1
 ·rw [decide_eq_true ha1] at he1
  refine W_seq ?_
  ((first | refine W_seqV ?_ | refine W_seq (W_seqV ?_) | refine W_regV ?_);intro K hK;(refine sFf ?_;try exact True.intro))
  ((repeat refine aI ?_);refine ⟨by kernel_rfl,_,.pure rfl (hca),?_⟩;(try (refine sFf ?_;try exact True.intro));(repeat refine aI ?_))
  (refine sFfX he1 ?_;try exact True.intro)
  (repeat refine aI ?_);refine hK _ ?_;clear hK K
  (first | refine W_ct rfl ?_ | refine W_seq (W_ct rfl ?_))
  ((first | refine W_seqV ?_ | refine W_seq (W_seqV ?_) | refine W_regV ?_);intro K hK;(refine sFf ?_;try exact True.intro))
  (repeat refine aI ?_);refine hK _ ?_;clear hK K
  refine W_ret ?_
  (refine qG ?_;try exact True.intro)
  rw [ha1,Nat.gcd_one_left,hl1]
  rfl
 rw [decide_eq_false ha1] at he1
 by_cases hb1 : b = 1
 ·rw [decide_eq_true hb1] at he2
  refine W_seq ?_
  ((first | refine W_seqV ?_ | refine W_seq (W_seqV ?_) | refine W_regV ?_);intro K hK;(refine sFf ?_;try exact True.intro))
  ((repeat refine aI ?_);refine ⟨by kernel_rfl,_,.pure rfl (hca),?_⟩;(try (refine sFf ?_;try exact True.intro));(repeat refine aI ?_))
  (refine sFfX he1 ?_;try exact True.intro)
  ((repeat refine aI ?_);refine ⟨by kernel_rfl,_,.pure rfl (hcb),?_⟩;(try (refine sFf ?_;try exact True.intro));(repeat refine aI ?_))
  (refine sFfX he2 ?_;try exact True.intro)
  (repeat refine aI ?_);refine hK _ ?_;clear hK K
  (first | refine W_ct rfl ?_ | refine W_seq (W_ct rfl ?_))
  ((first | refine W_seqV ?_ | refine W_seq (W_seqV ?_) | refine W_regV ?_);intro K hK;(refine sFf ?_;try exact True.intro))
  (repeat refine aI ?_);refine hK _ ?_;clear hK K
  refine W_ret ?_
  (refine qG ?_;try exact True.intro)
  rw [hb1,Nat.gcd_one_right,hl1]
  rfl
 rw [decide_eq_false hb1] at he2
 refine W_seq ?_
 ((first | refine W_seqV ?_ | refine W_seq (W_seqV ?_) | refine W_regV ?_);intro K hK;(refine sFf ?_;try exact True.intro))
 ((repeat refine aI ?_);refine ⟨by kernel_rfl,_,.pure rfl (hca),?_⟩;(try (refine sFf ?_;try exact True.intro));(repeat refine aI ?_))
 (refine sFfX he1 ?_;try exact True.intro)
 ((repeat refine aI ?_);refine ⟨by kernel_rfl,_,.pure rfl (hcb),?_⟩;(try (refine sFf ?_;try exact True.intro));(repeat refine aI ?_))
 (refine sFfX he2 ?_;try exact True.intro)
 (repeat refine aI ?_);refine hK _ ?_;clear hK K
 (first | refine W_cf rfl ?_ | refine W_seq (W_cf rfl ?_))
 refine W_skip ?_
 simp only [thenW]
 clear hca hcb he1 he2 hl1
 ((first | refine W_seqV ?_ | refine W_seq (W_seqV ?_) | refine W_regV ?_);intro K hK;(refine sFf ?_;try exact True.intro))
 (repeat refine aI ?_);refine hK _ ?_;clear hK K
 refine W_join (fun s' => ∃ x y tw,x * 2 ^ tw = a ∧ y * 2 ^ tw = b ∧ (x % 2 = 1 ∨ y % 2 = 1) ∧ Le [] s' ⟨((cN x)::(cN y)::.any::.any::.any::.any::(.int .i64 ((tw : Nat) : Int))::.any::.any::.any::.any::.any::.any::.any::.any::.any::.any::.any::.any::.any::.any::.any::.any::.any::.any::.any::.any::.any::.any::.any::.any::.any::.any::.any::.any::.any::.any::.any::.any::.any::.any::.any::.any::.any::.any::.any::.any::.any::.any::.any::.any::.any::.any::.any::.any::.any::.any::.any::.any::.any::.any::.any::.any::.any::.any::.any::.any::.any::.any::.any::.any::.any::.any::.any::.any::.any::.any::.any::.any::.any::.any::.any::.any::.any::.any::.any::.any::.any::.any::.any::.any::[]),(.dead::.dead::.dead::.dead::.dead::.dead::.dead::.dead::.dead::.dead::.dead::.dead::.dead::.dead::.dead::.dead::.dead::.dead::.dead::.dead::.dead::.dead::.dead::.dead::.dead::.dead::.dead::.dead::.dead::.dead::.dead::.dead::.dead::.dead::.dead::.dead::.dead::.dead::.dead::.dead::.dead::.dead::.dead::.dead::.dead::.dead::.dead::.dead::.dead::.dead::.dead::.dead::.dead::.dead::.dead::.dead::.dead::.dead::.dead::.dead::.dead::.dead::.dead::.dead::.dead::.dead::.dead::.dead::.dead::.dead::.dead::.dead::.dead::.dead::.dead::.dead::.dead::.dead::.dead::.dead::.dead::.dead::.dead::.dead::.dead::.dead::.dead::.dead::.dead::.dead::.dead::[])⟩) ?_ ?_
 ·refine W_block (W_loop (fun t : {t : Nat × Nat × Nat // t.1 * 2 ^ t.2.2 = a ∧ t.2.1 * 2 ^ t.2.2 = b} => ⟨((cN t.1.1)::(cN t.1.2.1)::.any::.any::.any::.any::(.int .i64 ((t.1.2.2 : Nat) : Int))::.any::.any::.any::.any::.any::.any::.any::.any::.any::.any::.any::.any::.any::.any::.any::.any::.any::.any::.any::.any::.any::.any::.any::.any::.any::.any::.any::.any::.any::.any::.any::.any::.any::.any::.any::.any::.any::.any::.any::.any::.any::.any::.any::.any::.any::.any::.any::.any::.any::.any::.any::.any::.any::.any::.any::.any::.any::.any::.any::.any::.any::.any::.any::.any::.any::.any::.any::.any::.any::.any::.any::.any::.any::.any::.any::.any::.any::.any::.any::.any::.any::.any::.any::.any::[]),(.dead::.dead::.dead::.dead::.dead::.dead::.dead::.dead::.dead::.dead::.dead::.dead::.dead::.dead::.dead::.dead::.dead::.dead::.dead::.dead::.dead::.dead::.dead::.dead::.dead::.dead::.dead::.dead::.dead::.dead::.dead::.dead::.dead::.dead::.dead::.dead::.dead::.dead::.dead::.dead::.dead::.dead::.dead::.dead::.dead::.dead::.dead::.dead::.dead::.dead::.dead::.dead::.dead::.dead::.dead::.dead::.dead::.dead::.dead::.dead::.dead::.dead::.dead::.dead::.dead::.dead::.dead::.dead::.dead::.dead::.dead::.dead::.dead::.dead::.dead::.dead::.dead::.dead::.dead::.dead::.dead::.dead::.dead::.dead::.dead::.dead::.dead::.dead::.dead::.dead::.dead::[])⟩) (fun t => t.1.1) ⟨(a,b,0),by simp,by simp⟩ (Le_of (by simp [leE,cN,cNat]) rfl) fun t => ?_)
  obtain ⟨⟨x,y,tw⟩,hx,hy⟩ := t
  dsimp only at hx hy ⊢
  obtain ⟨p1,p2,p3⟩ := gcd_lims ha0 hx
  obtain ⟨q1,q2,q3⟩ := gcd_lims hb0 hy
  have bx := fbit_v x 0 (by omega) (by omega)
  have by_ := fbit_v y 0 (by omega) (by omega)
  have sx := fshr_v x (by omega)
  have sy := fshr_v y (by omega)
  rw [even_bit] at bx by_
  simp only [cN,cNat,Int.natCast_zero] at bx by_ sx sy ⊢
  by_cases ex : x % 2 = 1
  ·rw [decide_eq_true ex] at bx
   refine W_seq ?_
   ((first | refine W_seqV ?_ | refine W_seq (W_seqV ?_) | refine W_regV ?_);intro K hK;(refine sFf ?_;try exact True.intro))
   ((repeat refine aI ?_);refine ⟨by kernel_rfl,_,.pure rfl (bx),?_⟩;(try (refine sFf ?_;try exact True.intro));(repeat refine aI ?_))
   (repeat refine aI ?_);refine hK _ ?_;clear hK K
   (first | refine W_cf rfl ?_ | refine W_seq (W_cf rfl ?_))
   refine W_exit ?_
   simp only [thenW,blockW,if_true]
   exact ⟨x,y,tw,hx,hy,.inl ex,Le_of (by simp [leE,cN,cNat]) rfl⟩
  rw [decide_eq_false ex] at bx
  by_cases ey : y % 2 = 1
  ·rw [decide_eq_true ey] at by_
   refine W_seq ?_
   ((first | refine W_seqV ?_ | refine W_seq (W_seqV ?_) | refine W_regV ?_);intro K hK;(refine sFf ?_;try exact True.intro))
   ((repeat refine aI ?_);refine ⟨by kernel_rfl,_,.pure rfl (bx),?_⟩;(try (refine sFf ?_;try exact True.intro));(repeat refine aI ?_))
   ((repeat refine aI ?_);refine ⟨by kernel_rfl,_,.pure rfl (by_),?_⟩;(try (refine sFf ?_;try exact True.intro));(repeat refine aI ?_))
   (repeat refine aI ?_);refine hK _ ?_;clear hK K
   (first | refine W_cf rfl ?_ | refine W_seq (W_cf rfl ?_))
   refine W_exit ?_
   simp only [thenW,blockW,if_true]
   exact ⟨x,y,tw,hx,hy,.inr ey,Le_of (by simp [leE,cN,cNat]) rfl⟩
  rw [decide_eq_false ey] at by_
  refine W_seq ?_
  ((first | refine W_seqV ?_ | refine W_seq (W_seqV ?_) | refine W_regV ?_);intro K hK;(refine sFf ?_;try exact True.intro))
  ((repeat refine aI ?_);refine ⟨by kernel_rfl,_,.pure rfl (bx),?_⟩;(try (refine sFf ?_;try exact True.intro));(repeat refine aI ?_))
  ((repeat refine aI ?_);refine ⟨by kernel_rfl,_,.pure rfl (by_),?_⟩;(try (refine sFf ?_;try exact True.intro));(repeat refine aI ?_))
  (repeat refine aI ?_);refine hK _ ?_;clear hK K
  (first | refine W_ct rfl ?_ | refine W_seq (W_ct rfl ?_))
  refine W_skip ?_
  simp only [thenW]
  refine W_block ?_
  ((first | refine W_seqV ?_ | refine W_seq (W_seqV ?_) | refine W_regV ?_);intro K hK;(refine sFf ?_;try exact True.intro))
  ((repeat refine aI ?_);refine ⟨by kernel_rfl,_,.pure rfl (sx),?_⟩;(try (refine sFf ?_;try exact True.intro));(repeat refine aI ?_))
  (repeat refine aI ?_);refine hK _ ?_;clear hK K
  ((first | refine W_seqV ?_ | refine W_seq (W_seqV ?_) | refine W_regV ?_);intro K hK;(refine sFf ?_;try exact True.intro))
  ((repeat refine aI ?_);refine ⟨by kernel_rfl,_,.pure rfl (sy),?_⟩;(try (refine sFf ?_;try exact True.intro));(repeat refine aI ?_))
  (repeat refine aI ?_);refine hK _ ?_;clear hK K
  ((first | refine W_seqV ?_ | refine W_seq (W_seqV ?_) | refine W_regV ?_);intro K hK;(refine sFf ?_;try exact True.intro))
  (repeat refine aI ?_);refine hK _ ?_;clear hK K
  simp only [thenW,blockW]
  refine ⟨⟨(x / 2,y / 2,tw + 1),half_pow (by omega) hx,half_pow (by omega) hy⟩,Le_of (by simp [leE,cN,cNat]) rfl,?_⟩
  dsimp only
  omega
 rintro s' ⟨x0,y0,tw,hx,hy,hodd,hle⟩
 refine W.le ?_ hle
 clear hle s' hza hzb hap hbp
 obtain ⟨p1,p2,p3⟩ := gcd_lims ha0 hx
 obtain ⟨q1,q2,q3⟩ := gcd_lims hb0 hy
 have hG : Nat.gcd a b = Nat.gcd x0 y0 * 2 ^ tw := by rw [← hx,← hy,Nat.gcd_mul_right]
 have hgx : Nat.gcd x0 y0 ≤ x0 := Nat.le_of_dvd p1 (Nat.gcd_dvd_left x0 y0)
 rw [hG]
 refine W_join (fun s' => Le [] s' ⟨((cN (Nat.gcd x0 y0))::.any::.any::.any::.any::.any::(.int .i64 ((tw : Nat) : Int))::.any::.any::.any::.any::.any::.any::.any::.any::.any::.any::.any::.any::.any::.any::.any::.any::.any::.any::.any::.any::.any::.any::.any::.any::.any::.any::.any::.any::.any::.any::.any::.any::.any::.any::.any::.any::.any::.any::.any::.any::.any::.any::.any::.any::.any::.any::.any::.any::.any::.any::.any::.any::.any::.any::.any::.any::.any::.any::.any::.any::.any::.any::.any::.any::.any::.any::.any::.any::.any::.any::.any::.any::.any::.any::.any::.any::.any::.any::.any::.any::.any::.any::.any::.any::[]),(.dead::.dead::.dead::.dead::.dead::.dead::.dead::.dead::.dead::.dead::.dead::.dead::.dead::.dead::.dead::.dead::.dead::.dead::.dead::.dead::.dead::.dead::.dead::.dead::.dead::.dead::.dead::.dead::.dead::.dead::.dead::.dead::.dead::.dead::.dead::.dead::.dead::.dead::.dead::.dead::.dead::.dead::.dead::.dead::.dead::.dead::.dead::.dead::.dead::.dead::.dead::.dead::.dead::.dead::.dead::.dead::.dead::.dead::.dead::.dead::.dead::.dead::.dead::.dead::.dead::.dead::.dead::.dead::.dead::.dead::.dead::.dead::.dead::.dead::.dead::.dead::.dead::.dead::.dead::.dead::.dead::.dead::.dead::.dead::.dead::.dead::.dead::.dead::.dead::.dead::.dead::[])⟩) ?_ ?_
 ·refine W_block (W_loop (fun t : {t : Nat × Nat // 0 < t.1 ∧ (t.1 % 2 = 1 ∨ t.2 % 2 = 1) ∧ Nat.gcd t.1 t.2 = Nat.gcd x0 y0 ∧ (limbs t.1).length < 274877906944 ∧ (limbs t.2).length < 274877906944} => ⟨((cN t.1.1)::(cN t.1.2)::.any::.any::.any::.any::(.int .i64 ((tw : Nat) : Int))::.any::.any::.any::.any::.any::.any::.any::.any::.any::.any::.any::.any::.any::.any::.any::.any::.any::.any::.any::.any::.any::.any::.any::.any::.any::.any::.any::.any::.any::.any::.any::.any::.any::.any::.any::.any::.any::.any::.any::.any::.any::.any::.any::.any::.any::.any::.any::.any::.any::.any::.any::.any::.any::.any::.any::.any::.any::.any::.any::.any::.any::.any::.any::.any::.any::.any::.any::.any::.any::.any::.any::.any::.any::.any::.any::.any::.any::.any::.any::.any::.any::.any::.any::.any::[]),(.dead::.dead::.dead::.dead::.dead::.dead::.dead::.dead::.dead::.dead::.dead::.dead::.dead::.dead::.dead::.dead::.dead::.dead::.dead::.dead::.dead::.dead::.dead::.dead::.dead::.dead::.dead::.dead::.dead::.dead::.dead::.dead::.dead::.dead::.dead::.dead::.dead::.dead::.dead::.dead::.dead::.dead::.dead::.dead::.dead::.dead::.dead::.dead::.dead::.dead::.dead::.dead::.dead::.dead::.dead::.dead::.dead::.dead::.dead::.dead::.dead::.dead::.dead::.dead::.dead::.dead::.dead::.dead::.dead::.dead::.dead::.dead::.dead::.dead::.dead::.dead::.dead::.dead::.dead::.dead::.dead::.dead::.dead::.dead::.dead::.dead::.dead::.dead::.dead::.dead::.dead::[])⟩) (fun t => t.1.1 + t.1.2) ⟨(x0,y0),p1,hodd,rfl,by dsimp only;omega,by dsimp only;omega⟩ (Le_of (by simp [leE]) rfl) fun t => ?_)
  obtain ⟨⟨x,y⟩,hx0,ho,hg,hlx,hly⟩ := t
  dsimp only at hx0 ho hg hlx hly ⊢
  by_cases y0' : y = 0
  ·subst y0'
   rw [Nat.gcd_zero_right] at hg
   subst hg
   simp only [cN,cNat,limbs_zero]
   refine W_seq ?_
   ((first | refine W_seqV ?_ | refine W_seq (W_seqV ?_) | refine W_regV ?_);intro K hK;(refine sFf ?_;try exact True.intro))
   (repeat refine aI ?_);refine hK _ ?_;clear hK K
   (first | refine W_cf rfl ?_ | refine W_seq (W_cf rfl ?_))
   refine W_exit ?_
   simp only [thenW,blockW,if_true]
   exact Le_of (by simp [leE,cN,cNat]) rfl
  ·have hyp := limbs_len_pos y0'
   simp only [cN,cNat]
   refine W_seq ?_
   ((first | refine W_seqV ?_ | refine W_seq (W_seqV ?_) | refine W_regV ?_);intro K hK;(refine sFfX hyp ?_;try exact True.intro))
   (repeat refine aI ?_);refine hK _ ?_;clear hK K
   (first | refine W_ct rfl ?_ | refine W_seq (W_ct rfl ?_))
   refine W_skip ?_
   simp only [thenW]
   refine W_block ?_
   refine W_join (fun s' => ∃ x',0 < x' ∧ x' % 2 = 1 ∧ x' ≤ x ∧ Nat.gcd x' y = Nat.gcd x0 y0 ∧ Le [] s' ⟨((cN x')::(cN y)::.any::.any::.any::.any::(.int .i64 ((tw : Nat) : Int))::.any::.any::.any::.any::.any::.any::.any::.any::.any::.any::.any::.any::.any::.any::.any::.any::.any::.any::.any::.any::.any::.any::.any::.any::.any::.any::.any::.any::.any::.any::.any::.any::.any::.any::.any::.any::.any::.any::.any::.any::.any::.any::.any::.any::.any::.any::.any::.any::.any::.any::.any::.any::.any::.any::.any::.any::.any::.any::.any::.any::.any::.any::.any::.any::.any::.any::.any::.any::.any::.any::.any::.any::.any::.any::.any::.any::.any::.any::.any::.any::.any::.any::.any::.any::[]),(.dead::.dead::.dead::.dead::.dead::.dead::.dead::.dead::.dead::.dead::.dead::.dead::.dead::.dead::.dead::.dead::.dead::.dead::.dead::.dead::.dead::.dead::.dead::.dead::.dead::.dead::.dead::.dead::.dead::.dead::.dead::.dead::.dead::.dead::.dead::.dead::.dead::.dead::.dead::.dead::.dead::.dead::.dead::.dead::.dead::.dead::.dead::.dead::.dead::.dead::.dead::.dead::.dead::.dead::.dead::.dead::.dead::.dead::.dead::.dead::.dead::.dead::.dead::.dead::.dead::.dead::.dead::.dead::.dead::.dead::.dead::.dead::.dead::.dead::.dead::.dead::.dead::.dead::.dead::.dead::.dead::.dead::.dead::.dead::.dead::.dead::.dead::.dead::.dead::.dead::.dead::[])⟩) ?_ ?_
   ·refine W_block (W_loop (fun t : {t : Nat // 0 < t ∧ t ≤ x ∧ (t % 2 = 1 ∨ y % 2 = 1) ∧ Nat.gcd t y = Nat.gcd x0 y0} => ⟨((cN t.1)::(cN y)::.any::.any::.any::.any::(.int .i64 ((tw : Nat) : Int))::.any::.any::.any::.any::.any::.any::.any::.any::.any::.any::.any::.any::.any::.any::.any::.any::.any::.any::.any::.any::.any::.any::.any::.any::.any::.any::.any::.any::.any::.any::.any::.any::.any::.any::.any::.any::.any::.any::.any::.any::.any::.any::.any::.any::.any::.any::.any::.any::.any::.any::.any::.any::.any::.any::.any::.any::.any::.any::.any::.any::.any::.any::.any::.any::.any::.any::.any::.any::.any::.any::.any::.any::.any::.any::.any::.any::.any::.any::.any::.any::.any::.any::.any::.any::[]),(.dead::.dead::.dead::.dead::.dead::.dead::.dead::.dead::.dead::.dead::.dead::.dead::.dead::.dead::.dead::.dead::.dead::.dead::.dead::.dead::.dead::.dead::.dead::.dead::.dead::.dead::.dead::.dead::.dead::.dead::.dead::.dead::.dead::.dead::.dead::.dead::.dead::.dead::.dead::.dead::.dead::.dead::.dead::.dead::.dead::.dead::.dead::.dead::.dead::.dead::.dead::.dead::.dead::.dead::.dead::.dead::.dead::.dead::.dead::.dead::.dead::.dead::.dead::.dead::.dead::.dead::.dead::.dead::.dead::.dead::.dead::.dead::.dead::.dead::.dead::.dead::.dead::.dead::.dead::.dead::.dead::.dead::.dead::.dead::.dead::.dead::.dead::.dead::.dead::.dead::.dead::[])⟩) (fun t => t.1) ⟨x,hx0,Nat.le_refl _,ho,hg⟩ (Le_of (by simp [leE,cN,cNat]) rfl) fun t => ?_)
    obtain ⟨t,ht0,htx,hto,htg⟩ := t
    dsimp only
    have htl := limbs_mono htx
    have bx := fbit_v t 0 (by omega) (by omega)
    have sx := fshr_v t (by omega)
    rw [even_bit] at bx
    simp only [cN,cNat,Int.natCast_zero] at bx sx ⊢
    by_cases ex : t % 2 = 1
    ·rw [decide_eq_true ex] at bx
     refine W_seq ?_
     ((first | refine W_seqV ?_ | refine W_seq (W_seqV ?_) | refine W_regV ?_);intro K hK;(refine sFf ?_;try exact True.intro))
     ((repeat refine aI ?_);refine ⟨by kernel_rfl,_,.pure rfl (bx),?_⟩;(try (refine sFf ?_;try exact True.intro));(repeat refine aI ?_))
     (repeat refine aI ?_);refine hK _ ?_;clear hK K
     (first | refine W_cf rfl ?_ | refine W_seq (W_cf rfl ?_))
     refine W_exit ?_
     simp only [thenW,blockW,if_true]
     exact ⟨t,ht0,ex,htx,htg,Le_of (by simp [leE,cN,cNat]) rfl⟩
    ·rw [decide_eq_false ex] at bx
     refine W_seq ?_
     ((first | refine W_seqV ?_ | refine W_seq (W_seqV ?_) | refine W_regV ?_);intro K hK;(refine sFf ?_;try exact True.intro))
     ((repeat refine aI ?_);refine ⟨by kernel_rfl,_,.pure rfl (bx),?_⟩;(try (refine sFf ?_;try exact True.intro));(repeat refine aI ?_))
     (repeat refine aI ?_);refine hK _ ?_;clear hK K
     (first | refine W_ct rfl ?_ | refine W_seq (W_ct rfl ?_))
     refine W_skip ?_
     simp only [thenW]
     refine W_block ?_
     ((first | refine W_seqV ?_ | refine W_seq (W_seqV ?_) | refine W_regV ?_);intro K hK;(refine sFf ?_;try exact True.intro))
     ((repeat refine aI ?_);refine ⟨by kernel_rfl,_,.pure rfl (sx),?_⟩;(try (refine sFf ?_;try exact True.intro));(repeat refine aI ?_))
     (repeat refine aI ?_);refine hK _ ?_;clear hK K
     simp only [thenW,blockW]
     refine ⟨⟨t / 2,by omega,by omega,.inr (hto.resolve_left ex),by rw [gcd_half_left (by omega) (hto.resolve_left ex)];exact htg⟩,Le_of (by simp [leE,cN,cNat]) rfl,?_⟩
     dsimp only
     omega
   rintro s' ⟨x',hx'0,hx'o,hx'x,hx'g,hle⟩
   refine W.le ?_ hle
   clear hle s'
   refine W_join (fun s' => ∃ y',0 < y' ∧ y' % 2 = 1 ∧ y' ≤ y ∧ Nat.gcd x' y' = Nat.gcd x0 y0 ∧ Le [] s' ⟨((cN x')::(cN y')::.any::.any::.any::.any::(.int .i64 ((tw : Nat) : Int))::.any::.any::.any::.any::.any::.any::.any::.any::.any::.any::.any::.any::.any::.any::.any::.any::.any::.any::.any::.any::.any::.any::.any::.any::.any::.any::.any::.any::.any::.any::.any::.any::.any::.any::.any::.any::.any::.any::.any::.any::.any::.any::.any::.any::.any::.any::.any::.any::.any::.any::.any::.any::.any::.any::.any::.any::.any::.any::.any::.any::.any::.any::.any::.any::.any::.any::.any::.any::.any::.any::.any::.any::.any::.any::.any::.any::.any::.any::.any::.any::.any::.any::.any::.any::[]),(.dead::.dead::.dead::.dead::.dead::.dead::.dead::.dead::.dead::.dead::.dead::.dead::.dead::.dead::.dead::.dead::.dead::.dead::.dead::.dead::.dead::.dead::.dead::.dead::.dead::.dead::.dead::.dead::.dead::.dead::.dead::.dead::.dead::.dead::.dead::.dead::.dead::.dead::.dead::.dead::.dead::.dead::.dead::.dead::.dead::.dead::.dead::.dead::.dead::.dead::.dead::.dead::.dead::.dead::.dead::.dead::.dead::.dead::.dead::.dead::.dead::.dead::.dead::.dead::.dead::.dead::.dead::.dead::.dead::.dead::.dead::.dead::.dead::.dead::.dead::.dead::.dead::.dead::.dead::.dead::.dead::.dead::.dead::.dead::.dead::.dead::.dead::.dead::.dead::.dead::.dead::[])⟩) ?_ ?_
   ·refine W_block (W_loop (fun t : {t : Nat // 0 < t ∧ t ≤ y ∧ Nat.gcd x' t = Nat.gcd x0 y0} => ⟨((cN x')::(cN t.1)::.any::.any::.any::.any::(.int .i64 ((tw : Nat) : Int))::.any::.any::.any::.any::.any::.any::.any::.any::.any::.any::.any::.any::.any::.any::.any::.any::.any::.any::.any::.any::.any::.any::.any::.any::.any::.any::.any::.any::.any::.any::.any::.any::.any::.any::.any::.any::.any::.any::.any::.any::.any::.any::.any::.any::.any::.any::.any::.any::.any::.any::.any::.any::.any::.any::.any::.any::.any::.any::.any::.any::.any::.any::.any::.any::.any::.any::.any::.any::.any::.any::.any::.any::.any::.any::.any::.any::.any::.any::.any::.any::.any::.any::.any::.any::[]),(.dead::.dead::.dead::.dead::.dead::.dead::.dead::.dead::.dead::.dead::.dead::.dead::.dead::.dead::.dead::.dead::.dead::.dead::.dead::.dead::.dead::.dead::.dead::.dead::.dead::.dead::.dead::.dead::.dead::.dead::.dead::.dead::.dead::.dead::.dead::.dead::.dead::.dead::.dead::.dead::.dead::.dead::.dead::.dead::.dead::.dead::.dead::.dead::.dead::.dead::.dead::.dead::.dead::.dead::.dead::.dead::.dead::.dead::.dead::.dead::.dead::.dead::.dead::.dead::.dead::.dead::.dead::.dead::.dead::.dead::.dead::.dead::.dead::.dead::.dead::.dead::.dead::.dead::.dead::.dead::.dead::.dead::.dead::.dead::.dead::.dead::.dead::.dead::.dead::.dead::.dead::[])⟩) (fun t => t.1) ⟨y,by omega,Nat.le_refl _,hx'g⟩ (Le_of (by simp [leE,cN,cNat]) rfl) fun t => ?_)
    obtain ⟨t,ht0,htx,htg⟩ := t
    dsimp only
    have htl := limbs_mono htx
    have bx := fbit_v t 0 (by omega) (by omega)
    have sx := fshr_v t (by omega)
    rw [even_bit] at bx
    simp only [cN,cNat,Int.natCast_zero] at bx sx ⊢
    by_cases ex : t % 2 = 1
    ·rw [decide_eq_true ex] at bx
     refine W_seq ?_
     ((first | refine W_seqV ?_ | refine W_seq (W_seqV ?_) | refine W_regV ?_);intro K hK;(refine sFf ?_;try exact True.intro))
     ((repeat refine aI ?_);refine ⟨by kernel_rfl,_,.pure rfl (bx),?_⟩;(try (refine sFf ?_;try exact True.intro));(repeat refine aI ?_))
     (repeat refine aI ?_);refine hK _ ?_;clear hK K
     (first | refine W_cf rfl ?_ | refine W_seq (W_cf rfl ?_))
     refine W_exit ?_
     simp only [thenW,blockW,if_true]
     exact ⟨t,ht0,ex,htx,htg,Le_of (by simp [leE,cN,cNat]) rfl⟩
    ·rw [decide_eq_false ex] at bx
     refine W_seq ?_
     ((first | refine W_seqV ?_ | refine W_seq (W_seqV ?_) | refine W_regV ?_);intro K hK;(refine sFf ?_;try exact True.intro))
     ((repeat refine aI ?_);refine ⟨by kernel_rfl,_,.pure rfl (bx),?_⟩;(try (refine sFf ?_;try exact True.intro));(repeat refine aI ?_))
     (repeat refine aI ?_);refine hK _ ?_;clear hK K
     (first | refine W_ct rfl ?_ | refine W_seq (W_ct rfl ?_))
     refine W_skip ?_
     simp only [thenW]
     refine W_block ?_
     ((first | refine W_seqV ?_ | refine W_seq (W_seqV ?_) | refine W_regV ?_);intro K hK;(refine sFf ?_;try exact True.intro))
     ((repeat refine aI ?_);refine ⟨by kernel_rfl,_,.pure rfl (sx),?_⟩;(try (refine sFf ?_;try exact True.intro));(repeat refine aI ?_))
     (repeat refine aI ?_);refine hK _ ?_;clear hK K
     simp only [thenW,blockW]
     refine ⟨⟨t / 2,by omega,by omega,by rw [gcd_half_right hx'o (by omega)];exact htg⟩,Le_of (by simp [leE,cN,cNat]) rfl,?_⟩
     dsimp only
     omega
   rintro s' ⟨y',hy'0,hy'o,hy'y,hy'g,hle⟩
   refine W.le ?_ hle
   clear hle s'
   have hxl' := limbs_mono hx'x
   have hyl' := limbs_mono hy'y
   have hcm := fcmp_v x' y' (by omega) (by omega)
   simp only [cN,cNat] at hcm ⊢
   by_cases hgt : y' < x'
   ·have hs : decide (0 < sgn x' y') = true := by rw [sgn,if_neg (by omega),if_pos hgt];rfl
    have hsb := fsub_v x' y' (by omega) (by omega) (by omega)
    have hdl := limbs_mono (Nat.sub_le x' y')
    simp only [cN,cNat] at hsb
    refine W_seq ?_
    refine W_seq ?_
    ((first | refine W_seqV ?_ | refine W_seq (W_seqV ?_) | refine W_regV ?_);intro K hK;(refine sFf ?_;try exact True.intro))
    ((repeat refine aI ?_);refine ⟨by kernel_rfl,_,.pure rfl (hcm),?_⟩;(try (refine sFf ?_;try exact True.intro));(repeat refine aI ?_))
    (refine sFfX hs ?_;try exact True.intro)
    (repeat refine aI ?_);refine hK _ ?_;clear hK K
    (first | refine W_ct rfl ?_ | refine W_seq (W_ct rfl ?_))
    ((first | refine W_seqV ?_ | refine W_seq (W_seqV ?_) | refine W_regV ?_);intro K hK;(refine sFf ?_;try exact True.intro))
    (repeat refine aI ?_);refine hK _ ?_;clear hK K
    simp only [thenW]
    ((first | refine W_seqV ?_ | refine W_seq (W_seqV ?_) | refine W_regV ?_);intro K hK;(refine sFf ?_;try exact True.intro))
    ((repeat refine aI ?_);refine ⟨by kernel_rfl,_,.pure rfl (hsb),?_⟩;(try (refine sFf ?_;try exact True.intro));(repeat refine aI ?_))
    (repeat refine aI ?_);refine hK _ ?_;clear hK K
    simp only [thenW,blockW]
    refine ⟨⟨(y',x' - y'),hy'0,.inl hy'o,by dsimp only;rw [gcd_less (by omega),Nat.gcd_comm];exact hy'g,by dsimp only;omega,by dsimp only;omega⟩,Le_of (by simp [leE,cN,cNat]) rfl,?_⟩
    dsimp only
    omega
   ·have hs : decide (0 < sgn x' y') = false := by
     rw [sgn,if_neg hgt]
     split <;> rfl
    have hsb := fsub_v y' x' (by omega) (by omega) (by omega)
    have hdl := limbs_mono (Nat.sub_le y' x')
    simp only [cN,cNat] at hsb
    refine W_seq ?_
    refine W_seq ?_
    ((first | refine W_seqV ?_ | refine W_seq (W_seqV ?_) | refine W_regV ?_);intro K hK;(refine sFf ?_;try exact True.intro))
    ((repeat refine aI ?_);refine ⟨by kernel_rfl,_,.pure rfl (hcm),?_⟩;(try (refine sFf ?_;try exact True.intro));(repeat refine aI ?_))
    (refine sFfX hs ?_;try exact True.intro)
    (repeat refine aI ?_);refine hK _ ?_;clear hK K
    (first | refine W_cf rfl ?_ | refine W_seq (W_cf rfl ?_))
    refine W_skip ?_
    simp only [thenW]
    ((first | refine W_seqV ?_ | refine W_seq (W_seqV ?_) | refine W_regV ?_);intro K hK;(refine sFf ?_;try exact True.intro))
    ((repeat refine aI ?_);refine ⟨by kernel_rfl,_,.pure rfl (hsb),?_⟩;(try (refine sFf ?_;try exact True.intro));(repeat refine aI ?_))
    (repeat refine aI ?_);refine hK _ ?_;clear hK K
    simp only [thenW,blockW]
    refine ⟨⟨(x',y' - x'),hx'0,.inl hx'o,by dsimp only;rw [gcd_less (by omega)];exact hy'g,by dsimp only;omega,by dsimp only;omega⟩,Le_of (by simp [leE,cN,cNat]) rfl,?_⟩
    dsimp only
    omega
 intro s' hle
 refine W.le ?_ hle
 clear hle s'
 generalize hge : Nat.gcd x0 y0 = g at *
 have hgl : ∀ j,j ≤ tw → (limbs (g * 2 ^ j)).length < 274877906944 := fun j hj => by
  have := limbs_mono (Nat.le_trans (Nat.mul_le_mul hgx (Nat.pow_le_pow_right (show 0 < 2 by omega) hj)) (Nat.le_of_eq hx))
  omega
 have htw : tw < 8796093022208 := by omega
 clear p1 p2 p3 q1 q2 q3 hx hy hodd hG hge hgx ha0 hb0 ha1 hb1 hMa hMb
 simp only [cN,cNat]
 ((first | refine W_seqV ?_ | refine W_seq (W_seqV ?_) | refine W_regV ?_);intro K hK;(refine sFf ?_;try exact True.intro))
 (repeat refine aI ?_);refine hK _ ?_;clear hK K
 refine W_block (W_loop (fun t : {t : Nat // t ≤ tw} => ⟨((cN (g * 2 ^ t.1))::.any::.any::.any::.any::.any::(.int .i64 ((tw : Nat) : Int))::(.int .i64 ((t.1 : Nat) : Int))::.any::.any::.any::.any::.any::.any::.any::.any::.any::.any::.any::.any::.any::.any::.any::.any::.any::.any::.any::.any::.any::.any::.any::.any::.any::.any::.any::.any::.any::.any::.any::.any::.any::.any::.any::.any::.any::.any::.any::.any::.any::.any::.any::.any::.any::.any::.any::.any::.any::.any::.any::.any::.any::.any::.any::.any::.any::.any::.any::.any::.any::.any::.any::.any::.any::.any::.any::.any::.any::.any::.any::.any::.any::.any::.any::.any::.any::.any::.any::.any::.any::.any::.any::[]),(.dead::.dead::.dead::.dead::.dead::.dead::.dead::.dead::.dead::.dead::.dead::.dead::.dead::.dead::.dead::.dead::.dead::.dead::.dead::.dead::.dead::.dead::.dead::.dead::.dead::.dead::.dead::.dead::.dead::.dead::.dead::.dead::.dead::.dead::.dead::.dead::.dead::.dead::.dead::.dead::.dead::.dead::.dead::.dead::.dead::.dead::.dead::.dead::.dead::.dead::.dead::.dead::.dead::.dead::.dead::.dead::.dead::.dead::.dead::.dead::.dead::.dead::.dead::.dead::.dead::.dead::.dead::.dead::.dead::.dead::.dead::.dead::.dead::.dead::.dead::.dead::.dead::.dead::.dead::.dead::.dead::.dead::.dead::.dead::.dead::.dead::.dead::.dead::.dead::.dead::.dead::[])⟩) (fun t => tw - t.1) ⟨0,by omega⟩ (Le_of (by simp [leE,cN,cNat]) rfl) fun t => ?_)
 obtain ⟨j,hj⟩ := t
 dsimp only
 have hjl := hgl j hj
 have htv := ftwice_v (g * 2 ^ j) false (by omega)
 rw [show 2 * (g * 2 ^ j) + false.toNat = g * 2 ^ (j + 1) by rw [Nat.pow_succ,Bool.toNat_false,Nat.add_zero,Nat.mul_comm 2,Nat.mul_assoc]] at htv
 simp only [cN,cNat] at htv ⊢
 by_cases hlt : j < tw
 ·refine W_seq ?_
  ((first | refine W_seqV ?_ | refine W_seq (W_seqV ?_) | refine W_regV ?_);intro K hK;(refine sFfX hlt ?_;try exact True.intro))
  (repeat refine aI ?_);refine hK _ ?_;clear hK K
  (first | refine W_ct rfl ?_ | refine W_seq (W_ct rfl ?_))
  refine W_skip ?_
  simp only [thenW]
  refine W_seq (W_block ?_)
  ((first | refine W_seqV ?_ | refine W_seq (W_seqV ?_) | refine W_regV ?_);intro K hK;(refine sFf ?_;try exact True.intro))
  ((repeat refine aI ?_);refine ⟨by kernel_rfl,_,.pure rfl (htv),?_⟩;(try (refine sFf ?_;try exact True.intro));(repeat refine aI ?_))
  (repeat refine aI ?_);refine hK _ ?_;clear hK K
  simp only [thenW,blockW]
  ((first | refine W_seqV ?_ | refine W_seq (W_seqV ?_) | refine W_regV ?_);intro K hK;(refine sFf ?_;try exact True.intro))
  (repeat refine aI ?_);refine hK _ ?_;clear hK K
  simp only [thenW,blockW]
  exact ⟨⟨j + 1,by omega⟩,Le_of (by simp [leE,cN,cNat]) rfl,by dsimp only;omega⟩
 ·obtain rfl : j = tw := by omega
  have hlt' : decide (j < j) = false := decide_eq_false (by omega)
  refine W_seq ?_
  ((first | refine W_seqV ?_ | refine W_seq (W_seqV ?_) | refine W_regV ?_);intro K hK;(refine sFfX hlt' ?_;try exact True.intro))
  (repeat refine aI ?_);refine hK _ ?_;clear hK K
  (first | refine W_cf rfl ?_ | refine W_seq (W_cf rfl ?_))
  refine W_exit ?_
  simp only [thenW,blockW,if_true]
  ((first | refine W_seqV ?_ | refine W_seq (W_seqV ?_) | refine W_regV ?_);intro K hK;(refine sFf ?_;try exact True.intro))
  (repeat refine aI ?_);refine hK _ ?_;clear hK K
  refine W_ret ?_
  (refine qG ?_;try exact True.intro)
theorem sGa {G G' : Prop} (h : G') (e : G = G' := by conv => lhs;simp (disch := omega) only [rowsOf,cNat,cN,St.ret,St.seth,Eff.app,Eff.wi,sepL,guardOf,St.known,objOf,List.set,sliceW,litW,copyW,lenOf,bnd,mxOk,ofCells,TI.isAgg,cellsOf,storable,AV.one,dead,laid,overlay,reduceCtorEq,Int.reduceLE,Int.reduceLT,Int.reduceSub,Int.reduceAdd,Nat.reduceMul,Int.reduceToNat,Nat.reducePow,Int.reduceNeg,Nat.reduceAdd,Nat.reduceLT,Nat.reduceLeDiff,sA,sB,cZ,cI,sT]) : G := e.mpr h
theorem sGaX {G G' P : Prop} (p : P) (h : G') (e : P → G = G' := by intro p;conv => lhs;simp (disch := omega) only [rowsOf,cNat,cN,St.ret,St.seth,Eff.app,Eff.wi,sepL,guardOf,St.known,objOf,List.set,sliceW,litW,copyW,lenOf,bnd,mxOk,ofCells,TI.isAgg,cellsOf,storable,AV.one,dead,laid,overlay,reduceCtorEq,Int.reduceLE,Int.reduceLT,Int.reduceSub,Int.reduceAdd,Nat.reduceMul,Int.reduceToNat,Nat.reducePow,Int.reduceNeg,Nat.reduceAdd,Nat.reduceLT,Nat.reduceLeDiff,sA,sB,cZ,cI,sT,p]) : G := (e p).mpr h
theorem sGaV {G G' : Prop} (h : G') (e : G = G' := by conv => lhs;simp (disch := omega) only [rowsOf,cNat,cN,St.ret,St.seth,Eff.app,Eff.wi,sepL,guardOf,St.known,objOf,List.set,sliceW,litW,copyW,lenOf,bnd,mxOk,ofCells,TI.isAgg,cellsOf,storable,AV.one,dead,laid,overlay,reduceCtorEq,Int.reduceLE,Int.reduceLT,Int.reduceSub,Int.reduceAdd,Nat.reduceMul,Int.reduceToNat,Nat.reducePow,Int.reduceNeg,Nat.reduceAdd,Nat.reduceLT,Nat.reduceLeDiff,sA,sB,cZ,cI,sT,view_sref,viewRef,view_agg,views_cons,views_nil,view_bool,view_int,view_sl,view_nils,view_str,view_tup,view_nilif]) : G := e.mpr h
theorem aGa {G G' : Prop} (h : G') (f : Wr G' → G := by intro h;(repeat (first|(refine W_seqV fun K hK => ?_;(try (refine sGa ?_;try exact True.intro));(repeat refine aI ?_);refine hK _ ?_;clear hK K)|(refine W_seqR fun K hK => ?_;(try (refine sGa ?_;try exact True.intro));(repeat refine aI ?_);refine hK _ ?_;clear hK K)|(refine W_seqD mixed [] (by kernel_rfl) fun K hK => ?_;(try (refine sGa ?_;try exact True.intro));(repeat refine aI ?_);refine hK _ ?_;clear hK K)));exact h.out) : G := f ⟨h⟩
theorem cZ_made (neg : Bool) (n : Nat) : cI (neg && decide (0 < (limbs n).length)) (limbs n) = cZ (if neg then -(n : Int) else n) := by
 cases neg
 ·have := cZ_of 1 n
  simpa using this
 ·have := cZ_of (-1) n
  simpa using this
theorem iv_if (neg : Bool) (l : List Nat) : iv neg l = if neg then -(val l : Int) else val l := rfl
set_option maxHeartbeats 2000000 in
theorem f2made_ok (neg : Bool) (l : List Nat) (h : Limbs l) (hl : l.length < 274877906944) : Pure Tryz.prog 149 [.bool neg,cNat l] (· = cZ (iv neg l)) := by
 have hn := fnorm_ok l h (by omega)
 rw [iv_if,← cZ_made]
 simp only [cN,cNat] at hn
 (refine pureW Tryz.func149 rfl (rs := [Go.ResultVar.cell 4 51]) rfl (n := 16) rfl ?_;simp only [List.length_cons,List.length_nil,List.replicate,List.cons_append,List.nil_append])
 unfold cNat
 (refine aGa ?_)
 ((first | refine W_seqV ?_ | refine W_seq (W_seqV ?_) | refine W_regV ?_);intro K hK;(refine sGa ?_;try exact True.intro))
 ((repeat refine aI ?_);refine ⟨by kernel_rfl,_,.pure rfl (hn),?_⟩;(try (refine sGa ?_;try exact True.intro));(repeat refine aI ?_))
 (repeat refine aI ?_);refine hK _ ?_;clear hK K
 cases neg
 ·((first | refine W_seqV ?_ | refine W_seq (W_seqV ?_) | refine W_regV ?_);intro K hK;(refine sGa ?_;try exact True.intro))
  (repeat refine aI ?_);refine hK _ ?_;clear hK K
  refine W_ret ?_
  (refine qG ?_;try exact True.intro);try (refine sGaV ?_;try exact True.intro)
  try rfl
 ·((first | refine W_seqV ?_ | refine W_seq (W_seqV ?_) | refine W_regV ?_);intro K hK;(refine sGa ?_;try exact True.intro))
  (repeat refine aI ?_);refine hK _ ?_;clear hK K
  refine W_ret ?_
  (refine qG ?_;try exact True.intro);try (refine sGaV ?_;try exact True.intro)
  try simp
theorem f2made_v (neg : Bool) (n : Nat) (hl : (limbs n).length < 274877906944) : Pure Tryz.prog 149 [.bool neg,cN n] (· = cZ (if neg then -(n : Int) else n)) := by
 have := f2made_ok neg (limbs n) (limbs_limbs n) hl
 rwa [iv_if,val_limbs] at this
set_option maxHeartbeats 2000000 in
theorem f2norm_ok (neg : Bool) (l : List Nat) (h : Limbs l) (hl : l.length < 274877906944) : Pure Tryz.prog 115 [cI neg l] (· = cZ (iv neg l)) := by
 have hm := f2made_ok neg l h hl
 (refine pureW Tryz.func115 rfl (rs := [Go.ResultVar.cell 2 51]) rfl (n := 8) rfl ?_;simp only [List.length_cons,List.length_nil,List.replicate,List.cons_append,List.nil_append])
 unfold cI
 (refine aGa ?_)
 ((first | refine W_seqV ?_ | refine W_seq (W_seqV ?_) | refine W_regV ?_);intro K hK;(refine sGa ?_;try exact True.intro))
 ((repeat refine aI ?_);refine ⟨by kernel_rfl,_,.pure rfl (hm),?_⟩;(try (refine sGa ?_;try exact True.intro));(repeat refine aI ?_))
 (repeat refine aI ?_);refine hK _ ?_;clear hK K
 refine W_ret ?_
 (refine qG ?_;try exact True.intro);try (refine sGaV ?_;try exact True.intro)
set_option maxHeartbeats 2000000 in
theorem f2sign_ok (neg : Bool) (l : List Nat) (h : Limbs l) (hl : l.length < 274877906944) : Pure Tryz.prog 129 [cI neg l] (· = .int .i64 (iv neg l).sign) := by
 have hm := f2norm_ok neg l h hl
 have hab := iv_abs neg l
 generalize iv neg l = z at *
 by_cases hz : z < 0
 ·have hz' := decide_eq_true hz
  rw [Int.sign_eq_neg_one_of_neg hz]
  (refine pureW Tryz.func129 rfl (rs := [Go.ResultVar.tmp 2]) rfl (n := 12) rfl ?_;simp only [List.length_cons,List.length_nil,List.replicate,List.cons_append,List.nil_append])
  unfold cI
  (refine aGa ?_)
  ((first | refine W_seqV ?_ | refine W_seq (W_seqV ?_) | refine W_regV ?_);intro K hK;(refine sGa ?_;try exact True.intro))
  ((repeat refine aI ?_);refine ⟨by kernel_rfl,_,.pure rfl (hm),?_⟩;(try (refine sGa ?_;try exact True.intro));(repeat refine aI ?_))
  (repeat refine aI ?_);refine hK _ ?_;clear hK K
  refine W_seq ?_
  ((first | refine W_seqV ?_ | refine W_seq (W_seqV ?_) | refine W_regV ?_);intro K hK;(refine sGaX hz' ?_;try exact True.intro))
  (repeat refine aI ?_);refine hK _ ?_;clear hK K
  (first | refine W_ct rfl ?_ | refine W_seq (W_ct rfl ?_))
  ((first | refine W_seqV ?_ | refine W_seq (W_seqV ?_) | refine W_regV ?_);intro K hK;(refine sGa ?_;try exact True.intro))
  (repeat refine aI ?_);refine hK _ ?_;clear hK K
  refine W_ret ?_
  (refine qG ?_;try exact True.intro);try (refine sGaV ?_;try exact True.intro)
 ·have hz' := decide_eq_false hz
  by_cases h0 : z = 0
  ·subst h0
   (refine pureW Tryz.func129 rfl (rs := [Go.ResultVar.tmp 2]) rfl (n := 12) rfl ?_;simp only [List.length_cons,List.length_nil,List.replicate,List.cons_append,List.nil_append])
   unfold cI
   (refine aGa ?_)
   ((first | refine W_seqV ?_ | refine W_seq (W_seqV ?_) | refine W_regV ?_);intro K hK;(refine sGa ?_;try exact True.intro))
   ((repeat refine aI ?_);refine ⟨by kernel_rfl,_,.pure rfl (hm),?_⟩;(try (refine sGa ?_;try exact True.intro));(repeat refine aI ?_))
   (repeat refine aI ?_);refine hK _ ?_;clear hK K
   refine W_seq ?_
   ((first | refine W_seqV ?_ | refine W_seq (W_seqV ?_) | refine W_regV ?_);intro K hK;(refine sGaX hz' ?_;try exact True.intro))
   (repeat refine aI ?_);refine hK _ ?_;clear hK K
   (first | refine W_cf rfl ?_ | refine W_seq (W_cf rfl ?_))
   refine W_skip ?_
   simp only [thenW]
   refine W_seq ?_
   ((first|refine W_seqV ?_|refine W_seq (W_seqV ?_)|refine W_regV ?_);intro K hK;simp (disch := omega) only [rowsOf,cNat,cN,St.ret,St.seth,Eff.app,Eff.wi,sepL,guardOf,St.known,objOf,List.set,sliceW,litW,copyW,lenOf,bnd,mxOk,ofCells,TI.isAgg,cellsOf,storable,AV.one,dead,laid,overlay,reduceCtorEq,Int.reduceLE,Int.reduceLT,Int.reduceSub,Int.reduceAdd,Nat.reduceMul,Int.reduceToNat,Nat.reducePow,Int.reduceNeg,Nat.reduceAdd,Nat.reduceLT,Nat.reduceLeDiff,sA,sB,cZ,cI,sT,Int.natAbs_zero,limbs_zero])
   (repeat refine aI ?_);refine hK _ ?_;clear hK K
   (first | refine W_cf rfl ?_ | refine W_seq (W_cf rfl ?_))
   refine W_skip ?_
   simp only [thenW]
   ((first | refine W_seqV ?_ | refine W_seq (W_seqV ?_) | refine W_regV ?_);intro K hK;(refine sGa ?_;try exact True.intro))
   (repeat refine aI ?_);refine hK _ ?_;clear hK K
   refine W_ret ?_
   (refine qG ?_;try exact True.intro);try (refine sGaV ?_;try exact True.intro)
   try rfl
  ·have hlp := limbs_len_pos (n := z.natAbs) (by omega)
   rw [Int.sign_eq_one_of_pos (by omega)]
   (refine pureW Tryz.func129 rfl (rs := [Go.ResultVar.tmp 2]) rfl (n := 12) rfl ?_;simp only [List.length_cons,List.length_nil,List.replicate,List.cons_append,List.nil_append])
   unfold cI
   (refine aGa ?_)
   ((first | refine W_seqV ?_ | refine W_seq (W_seqV ?_) | refine W_regV ?_);intro K hK;(refine sGa ?_;try exact True.intro))
   ((repeat refine aI ?_);refine ⟨by kernel_rfl,_,.pure rfl (hm),?_⟩;(try (refine sGa ?_;try exact True.intro));(repeat refine aI ?_))
   (repeat refine aI ?_);refine hK _ ?_;clear hK K
   refine W_seq ?_
   ((first | refine W_seqV ?_ | refine W_seq (W_seqV ?_) | refine W_regV ?_);intro K hK;(refine sGaX hz' ?_;try exact True.intro))
   (repeat refine aI ?_);refine hK _ ?_;clear hK K
   (first | refine W_cf rfl ?_ | refine W_seq (W_cf rfl ?_))
   refine W_skip ?_
   simp only [thenW]
   refine W_seq ?_
   ((first | refine W_seqV ?_ | refine W_seq (W_seqV ?_) | refine W_regV ?_);intro K hK;(refine sGaX hlp ?_;try exact True.intro))
   (repeat refine aI ?_);refine hK _ ?_;clear hK K
   (first | refine W_ct rfl ?_ | refine W_seq (W_ct rfl ?_))
   ((first | refine W_seqV ?_ | refine W_seq (W_seqV ?_) | refine W_regV ?_);intro K hK;(refine sGa ?_;try exact True.intro))
   (repeat refine aI ?_);refine hK _ ?_;clear hK K
   refine W_ret ?_
   (refine qG ?_;try exact True.intro);try (refine sGaV ?_;try exact True.intro)
set_option maxHeartbeats 2000000 in
theorem f2mul_ok (neg : Bool) (l : List Nat) (h : Limbs l) (hl : l.length < 68719476736) (neg' : Bool) (l' : List Nat) (h' : Limbs l') (hl' : l'.length < 68719476736) : Pure Tryz.prog 156 [cI neg l,cI neg' l'] (· = cZ (iv neg l * iv neg' l')) := by
 have hm := fmul_ok l l' h h' (by omega) (by omega)
 have hlm := len_mul (val l) (val l')
 have h1 := limbs_val_length h
 have h2 := limbs_val_length h'
 have hd := f2made_v (!(neg == neg')) (val l * val l') (by omega)
 rw [show (if (!(neg == neg')) = true then -((val l * val l' : Nat) : Int) else ((val l * val l' : Nat) : Int)) = iv neg l * iv neg' l' by cases neg <;> cases neg' <;> simp [iv,Int.neg_mul,Int.mul_neg]] at hd
 (refine pureW Tryz.func156 rfl (rs := [Go.ResultVar.cell 4 51]) rfl (n := 16) rfl ?_;simp only [List.length_cons,List.length_nil,List.replicate,List.cons_append,List.nil_append])
 unfold cI
 (refine aGa ?_)
 ((first | refine W_seqD mixed [] (by kernel_rfl) ?_ | refine W_seq (W_seqD mixed [] (by kernel_rfl) ?_) | refine W_regD mixed [] (by kernel_rfl) ?_);intro K hK;(refine sGa ?_;try exact True.intro))
 ((repeat refine aI ?_);refine ⟨by kernel_rfl,_,.pure rfl (hm),?_⟩;(try (refine sGa ?_;try exact True.intro));(repeat refine aI ?_))
 ((repeat refine aI ?_);refine ⟨by kernel_rfl,_,.pure rfl (hd),?_⟩;(try (refine sGa ?_;try exact True.intro));(repeat refine aI ?_))
 (repeat refine aI ?_);refine hK _ ?_;clear hK K
 refine W_ret ?_
 (refine qG ?_;try exact True.intro);try (refine sGaV ?_;try exact True.intro)
set_option maxHeartbeats 4000000 in
theorem f2add_ok (neg : Bool) (l : List Nat) (h : Limbs l) (hl : l.length < 137438953472) (neg' : Bool) (l' : List Nat) (h' : Limbs l') (hl' : l'.length < 137438953472) : Pure Tryz.prog 155 [cI neg l,cI neg' l'] (· = cZ (iv neg l + iv neg' l')) := by
 have h1 := limbs_val_length h
 have h2 := limbs_val_length h'
 cases hnn : neg == neg'
 ·have hc := fcmp_ok l l' h h' (by omega) (by omega)
  by_cases hle : val l' ≤ val l
  ·have hs := sgn_nn hle
   have hsub := fsub_ok l l' h h' (by omega) (by omega) hle
   have hsl := limbs_mono (Nat.sub_le (val l) (val l'))
   have hd := f2made_v neg (val l - val l') (by omega)
   rw [show (if neg = true then -((val l - val l' : Nat) : Int) else ((val l - val l' : Nat) : Int)) = iv neg l + iv neg' l' by cases neg <;> cases neg' <;> simp [iv] at * <;> omega] at hd
   (refine pureW Tryz.func155 rfl (rs := [Go.ResultVar.cell 4 51]) rfl (n := 52) rfl ?_;simp only [List.length_cons,List.length_nil,List.replicate,List.cons_append,List.nil_append])
   unfold cI
   (refine aGa ?_)
   refine W_seq ?_
   ((first | refine W_seqV ?_ | refine W_seq (W_seqV ?_) | refine W_regV ?_);intro K hK;(refine sGaX hnn ?_;try exact True.intro))
   (repeat refine aI ?_);refine hK _ ?_;clear hK K
   (first | refine W_cf rfl ?_ | refine W_seq (W_cf rfl ?_))
   refine W_skip ?_
   simp only [thenW]
   refine W_seq ?_
   ((first | refine W_seqV ?_ | refine W_seq (W_seqV ?_) | refine W_regV ?_);intro K hK;(refine sGa ?_;try exact True.intro))
   ((repeat refine aI ?_);refine ⟨by kernel_rfl,_,.pure rfl (hc),?_⟩;(try (refine sGa ?_;try exact True.intro));(repeat refine aI ?_))
   (refine sGaX hs ?_;try exact True.intro)
   (repeat refine aI ?_);refine hK _ ?_;clear hK K
   (first | refine W_ct rfl ?_ | refine W_seq (W_ct rfl ?_))
   ((first | refine W_seqV ?_ | refine W_seq (W_seqV ?_) | refine W_regV ?_);intro K hK;(refine sGa ?_;try exact True.intro))
   ((repeat refine aI ?_);refine ⟨by kernel_rfl,_,.pure rfl (hsub),?_⟩;(try (refine sGa ?_;try exact True.intro));(repeat refine aI ?_))
   (repeat refine aI ?_);refine hK _ ?_;clear hK K
   ((first | refine W_seqV ?_ | refine W_seq (W_seqV ?_) | refine W_regV ?_);intro K hK;(refine sGa ?_;try exact True.intro))
   ((repeat refine aI ?_);refine ⟨by kernel_rfl,_,.pure rfl (hd),?_⟩;(try (refine sGa ?_;try exact True.intro));(repeat refine aI ?_))
   (repeat refine aI ?_);refine hK _ ?_;clear hK K
   refine W_ret ?_
   (refine qG ?_;try exact True.intro);try (refine sGaV ?_;try exact True.intro)
  ·have hs := sgn_ng hle
   have hsub := fsub_ok l' l h' h (by omega) (by omega) (by omega)
   have hsl := limbs_mono (Nat.sub_le (val l') (val l))
   have hd := f2made_v neg' (val l' - val l) (by omega)
   rw [show (if neg' = true then -((val l' - val l : Nat) : Int) else ((val l' - val l : Nat) : Int)) = iv neg l + iv neg' l' by cases neg <;> cases neg' <;> simp [iv] at * <;> omega] at hd
   (refine pureW Tryz.func155 rfl (rs := [Go.ResultVar.cell 4 51]) rfl (n := 52) rfl ?_;simp only [List.length_cons,List.length_nil,List.replicate,List.cons_append,List.nil_append])
   unfold cI
   (refine aGa ?_)
   refine W_seq ?_
   ((first | refine W_seqV ?_ | refine W_seq (W_seqV ?_) | refine W_regV ?_);intro K hK;(refine sGaX hnn ?_;try exact True.intro))
   (repeat refine aI ?_);refine hK _ ?_;clear hK K
   (first | refine W_cf rfl ?_ | refine W_seq (W_cf rfl ?_))
   refine W_skip ?_
   simp only [thenW]
   refine W_seq ?_
   ((first | refine W_seqV ?_ | refine W_seq (W_seqV ?_) | refine W_regV ?_);intro K hK;(refine sGa ?_;try exact True.intro))
   ((repeat refine aI ?_);refine ⟨by kernel_rfl,_,.pure rfl (hc),?_⟩;(try (refine sGa ?_;try exact True.intro));(repeat refine aI ?_))
   (refine sGaX hs ?_;try exact True.intro)
   (repeat refine aI ?_);refine hK _ ?_;clear hK K
   (first | refine W_cf rfl ?_ | refine W_seq (W_cf rfl ?_))
   refine W_skip ?_
   simp only [thenW]
   ((first | refine W_seqV ?_ | refine W_seq (W_seqV ?_) | refine W_regV ?_);intro K hK;(refine sGa ?_;try exact True.intro))
   ((repeat refine aI ?_);refine ⟨by kernel_rfl,_,.pure rfl (hsub),?_⟩;(try (refine sGa ?_;try exact True.intro));(repeat refine aI ?_))
   (repeat refine aI ?_);refine hK _ ?_;clear hK K
   ((first | refine W_seqV ?_ | refine W_seq (W_seqV ?_) | refine W_regV ?_);intro K hK;(refine sGa ?_;try exact True.intro))
   ((repeat refine aI ?_);refine ⟨by kernel_rfl,_,.pure rfl (hd),?_⟩;(try (refine sGa ?_;try exact True.intro));(repeat refine aI ?_))
   (repeat refine aI ?_);refine hK _ ?_;clear hK K
   refine W_ret ?_
   (refine qG ?_;try exact True.intro);try (refine sGaV ?_;try exact True.intro)
 ·have ha := fadd_ok l l' h h' (by omega) (by omega)
  have hal : (limbs (val l + val l')).length ≤ (limbs (val l)).length + (limbs (val l')).length + 1 := by
   have := zl_add (val l) (val l')
   simpa [zl,← Int.natCast_add] using this
  have hd := f2made_v neg (val l + val l') (by omega)
  rw [show (if neg = true then -((val l + val l' : Nat) : Int) else ((val l + val l' : Nat) : Int)) = iv neg l + iv neg' l' by cases neg <;> cases neg' <;> simp [iv] at * <;> omega] at hd
  (refine pureW Tryz.func155 rfl (rs := [Go.ResultVar.cell 4 51]) rfl (n := 52) rfl ?_;simp only [List.length_cons,List.length_nil,List.replicate,List.cons_append,List.nil_append])
  unfold cI
  (refine aGa ?_)
  refine W_seq ?_
  ((first | refine W_seqV ?_ | refine W_seq (W_seqV ?_) | refine W_regV ?_);intro K hK;(refine sGaX hnn ?_;try exact True.intro))
  (repeat refine aI ?_);refine hK _ ?_;clear hK K
  (first | refine W_ct rfl ?_ | refine W_seq (W_ct rfl ?_))
  ((first | refine W_seqD mixed [] (by kernel_rfl) ?_ | refine W_seq (W_seqD mixed [] (by kernel_rfl) ?_) | refine W_regD mixed [] (by kernel_rfl) ?_);intro K hK;(refine sGa ?_;try exact True.intro))
  ((repeat refine aI ?_);refine ⟨by kernel_rfl,_,.pure rfl (ha),?_⟩;(try (refine sGa ?_;try exact True.intro));(repeat refine aI ?_))
  ((repeat refine aI ?_);refine ⟨by kernel_rfl,_,.pure rfl (hd),?_⟩;(try (refine sGa ?_;try exact True.intro));(repeat refine aI ?_))
  (repeat refine aI ?_);refine hK _ ?_;clear hK K
  refine W_ret ?_
  (refine qG ?_;try exact True.intro);try (refine sGaV ?_;try exact True.intro)
set_option maxHeartbeats 2000000 in
theorem f2of_ok (n : Int) (h1 : -9223372036854775808 ≤ n) (h2 : n < 9223372036854775808) : Pure Tryz.prog 123 [.int .i64 n] (· = cZ n) := by
 have ho := f1of_ok n.natAbs (by omega)
 have hl : (limbs n.natAbs).length ≤ 2 := len_le (by omega)
 by_cases h0 : n < 0
 ·have hw := wrap_u64_neg h0 h1
  have hd := f2made_v true n.natAbs (by omega)
  rw [show (if true = true then -(n.natAbs : Int) else (n.natAbs : Int)) = n by rw [if_pos rfl];omega] at hd
  have hz : decide (n < 0) = true := decide_eq_true h0
  (refine pureW Tryz.func123 rfl (rs := [Go.ResultVar.cell 2 51]) rfl (n := 14) rfl ?_;simp only [List.length_cons,List.length_nil,List.replicate,List.cons_append,List.nil_append])
  (refine aGa ?_)
  refine W_seq ?_
  ((first | refine W_seqV ?_ | refine W_seq (W_seqV ?_) | refine W_regV ?_);intro K hK;(refine sGaX hz ?_;try exact True.intro))
  (repeat refine aI ?_);refine hK _ ?_;clear hK K
  (first | refine W_ct rfl ?_ | refine W_seq (W_ct rfl ?_))
  ((first | refine W_seqV ?_ | refine W_seq (W_seqV ?_) | refine W_regV ?_);intro K hK;(refine sGaX hw ?_;try exact True.intro))
  ((repeat refine aI ?_);refine ⟨by kernel_rfl,_,.pure rfl (ho),?_⟩;(try (refine sGa ?_;try exact True.intro));(repeat refine aI ?_))
  ((repeat refine aI ?_);refine ⟨by kernel_rfl,_,.pure rfl (hd),?_⟩;(try (refine sGa ?_;try exact True.intro));(repeat refine aI ?_))
  (repeat refine aI ?_);refine hK _ ?_;clear hK K
  refine W_ret ?_
  (refine qG ?_;try exact True.intro);try (refine sGaV ?_;try exact True.intro)
 ·have hw : IntKind.wrap .u64 n = ((n.natAbs : Nat) : Int) := by rw [wrap_u64 (by omega) (by omega)];omega
  have hd := f2made_v false n.natAbs (by omega)
  rw [show (if false = true then -(n.natAbs : Int) else (n.natAbs : Int)) = n by rw [if_neg (by decide)];omega] at hd
  have hz : decide (n < 0) = false := decide_eq_false h0
  (refine pureW Tryz.func123 rfl (rs := [Go.ResultVar.cell 2 51]) rfl (n := 14) rfl ?_;simp only [List.length_cons,List.length_nil,List.replicate,List.cons_append,List.nil_append])
  (refine aGa ?_)
  refine W_seq ?_
  ((first | refine W_seqV ?_ | refine W_seq (W_seqV ?_) | refine W_regV ?_);intro K hK;(refine sGaX hz ?_;try exact True.intro))
  (repeat refine aI ?_);refine hK _ ?_;clear hK K
  (first | refine W_cf rfl ?_ | refine W_seq (W_cf rfl ?_))
  refine W_skip ?_
  simp only [thenW]
  ((first | refine W_seqV ?_ | refine W_seq (W_seqV ?_) | refine W_regV ?_);intro K hK;(refine sGaX hw ?_;try exact True.intro))
  ((repeat refine aI ?_);refine ⟨by kernel_rfl,_,.pure rfl (ho),?_⟩;(try (refine sGa ?_;try exact True.intro));(repeat refine aI ?_))
  ((repeat refine aI ?_);refine ⟨by kernel_rfl,_,.pure rfl (hd),?_⟩;(try (refine sGa ?_;try exact True.intro));(repeat refine aI ?_))
  (repeat refine aI ?_);refine hK _ ?_;clear hK K
  refine W_ret ?_
  (refine qG ?_;try exact True.intro);try (refine sGaV ?_;try exact True.intro)
theorem sGb {G G' : Prop} (h : G') (e : G = G' := by conv => lhs;simp (disch := omega) only [rowsOf,cNat,cN,St.ret,St.seth,Eff.app,Eff.wi,sepL,guardOf,St.known,objOf,List.set,sliceW,litW,copyW,lenOf,bnd,mxOk,ofCells,TI.isAgg,cellsOf,storable,AV.one,dead,laid,overlay,reduceCtorEq,Int.reduceLE,Int.reduceLT,Int.reduceSub,Int.reduceAdd,Nat.reduceMul,Int.reduceToNat,Nat.reducePow,Int.reduceNeg,Nat.reduceAdd,Nat.reduceLT,Nat.reduceLeDiff,sA,sB,cZ,cI,cQ,sT]) : G := e.mpr h
theorem sGbX {G G' P : Prop} (p : P) (h : G') (e : P → G = G' := by intro p;conv => lhs;simp (disch := omega) only [rowsOf,cNat,cN,St.ret,St.seth,Eff.app,Eff.wi,sepL,guardOf,St.known,objOf,List.set,sliceW,litW,copyW,lenOf,bnd,mxOk,ofCells,TI.isAgg,cellsOf,storable,AV.one,dead,laid,overlay,reduceCtorEq,Int.reduceLE,Int.reduceLT,Int.reduceSub,Int.reduceAdd,Nat.reduceMul,Int.reduceToNat,Nat.reducePow,Int.reduceNeg,Nat.reduceAdd,Nat.reduceLT,Nat.reduceLeDiff,sA,sB,cZ,cI,cQ,sT,p]) : G := (e p).mpr h
theorem sGbV {G G' : Prop} (h : G') (e : G = G' := by conv => lhs;simp (disch := omega) only [rowsOf,cNat,cN,St.ret,St.seth,Eff.app,Eff.wi,sepL,guardOf,St.known,objOf,List.set,sliceW,litW,copyW,lenOf,bnd,mxOk,ofCells,TI.isAgg,cellsOf,storable,AV.one,dead,laid,overlay,reduceCtorEq,Int.reduceLE,Int.reduceLT,Int.reduceSub,Int.reduceAdd,Nat.reduceMul,Int.reduceToNat,Nat.reducePow,Int.reduceNeg,Nat.reduceAdd,Nat.reduceLT,Nat.reduceLeDiff,sA,sB,cZ,cI,cQ,sT,view_sref,viewRef,view_agg,views_cons,views_nil,view_bool,view_int,view_sl,view_nils,view_str,view_tup,view_nilif]) : G := e.mpr h
theorem aGb {G G' : Prop} (h : G') (f : Wr G' → G := by intro h;(repeat (first|(refine W_seqV fun K hK => ?_;(try (refine sGb ?_;try exact True.intro));(repeat refine aI ?_);refine hK _ ?_;clear hK K)|(refine W_seqR fun K hK => ?_;(try (refine sGb ?_;try exact True.intro));(repeat refine aI ?_);refine hK _ ?_;clear hK K)|(refine W_seqD mixed [] (by kernel_rfl) fun K hK => ?_;(try (refine sGb ?_;try exact True.intro));(repeat refine aI ?_);refine hK _ ?_;clear hK K)));exact h.out) : G := f ⟨h⟩
theorem fgcd_v (a b : Nat) (ha : (limbs a).length < 274877906944) (hb : (limbs b).length < 274877906944) : Pure Tryz.prog 117 [cN a,cN b] (· = cN (Nat.gcd a b)) := by
 have := fgcd_ok (limbs a) (limbs b) (limbs_limbs a) (limbs_limbs b) ha hb
 rwa [val_limbs,val_limbs] at this
theorem fdiv_v (a b : Nat) (ha : (limbs a).length < 274877906944) (hb : (limbs b).length < 274877906944) (h0 : b ≠ 0) : Pure Tryz.prog 118 [cN a,cN b] (· = .tup [cN (a / b),cN (a % b),.int .i64 0]) := by
 have := fdiv_ok (limbs a) (limbs b) (limbs_limbs a) (limbs_limbs b) ha hb
 rwa [val_limbs,val_limbs,divR,if_neg h0] at this
theorem mk_cQ (z : Int) {d : Nat} (hd : d ≠ 0) (hz : z ≠ 0) : cQ (mkRat z d) = .agg [.bool (decide (z < 0)),cN (z.natAbs / Nat.gcd z.natAbs d),cN (d / Nat.gcd z.natAbs d)] := by
 have h1 := mk_num (decide (z < 0)) (limbs z.natAbs) hd
 have h2 := mk_den (decide (z < 0)) (limbs z.natAbs) hd
 rw [iv_cZ,val_limbs] at h1 h2
 have hg : 0 < Nat.gcd z.natAbs d := Nat.gcd_pos_of_pos_right _ (Nat.pos_of_ne_zero hd)
 have hn0 : z.natAbs / Nat.gcd z.natAbs d ≠ 0 := by
  have := Nat.div_pos (Nat.le_of_dvd (by omega) (Nat.gcd_dvd_left z.natAbs d)) hg
  omega
 unfold cQ
 rw [h1,h2,iv_abs,val_limbs]
 simp only [cN,cNat]
 congr 2
 rw [AV.bool.injEq,decide_eq_decide]
 unfold iv
 rw [val_limbs]
 generalize z.natAbs / Nat.gcd z.natAbs d = w at *
 split
 ·rename_i h;simp only [decide_eq_true_eq] at h;omega
 ·rename_i h;simp only [decide_eq_true_eq] at h;omega
theorem cQ_zero : cQ 0 = .agg [.bool false,.sl [],.sl [[.int .u32 1]]] := by
 unfold cQ
 simp [limbs_zero,limbs_1,u32s]
set_option maxHeartbeats 4000000 in
theorem f3norm_ok0 (neg : Bool) (n d : List Nat) (hn : Limbs n) (hd : Limbs d) (h1 : n.length < 137438953472) (h2 : d.length < 137438953472) :
  Pure Tryz.prog 76 [.agg [.bool neg,.sl (u32s n),.sl (u32s d)]] (· = cQ (mkRat (iv neg n) (val d))) := by
 have hz := f2norm_ok neg n hn (by omega)
 have hdn := fnorm_ok d hd (by omega)
 have hnl := limbs_val_length hn
 have hdl := limbs_val_length hd
 have hab := iv_abs neg n
 generalize iv neg n = z at *
 rw [← hab] at hnl
 clear hab
 generalize val d = e at *
 have z00 : ((0 : Int) == 0) = true := rfl
 by_cases he : e = 0
 ·subst he
  rw [Rat.mkRat_zero,cQ_zero]
  simp only [cN,cNat,limbs_zero] at hdn
  (refine pureW Tryz.func76 rfl (rs := [Go.ResultVar.cell 2 53]) rfl (n := 55) rfl ?_;simp only [List.length_cons,List.length_nil,List.replicate,List.cons_append,List.nil_append])
  (refine aGb ?_)
  ((first | refine W_seqV ?_ | refine W_seq (W_seqV ?_) | refine W_regV ?_);intro K hK;(refine sGb ?_;try exact True.intro))
  ((repeat refine aI ?_);refine ⟨by kernel_rfl,_,.pure rfl (hz),?_⟩;(try (refine sGb ?_;try exact True.intro));(repeat refine aI ?_))
  (repeat refine aI ?_);refine hK _ ?_;clear hK K
  ((first | refine W_seqV ?_ | refine W_seq (W_seqV ?_) | refine W_regV ?_);intro K hK;(refine sGb ?_;try exact True.intro))
  ((repeat refine aI ?_);refine ⟨by kernel_rfl,_,.pure rfl (hdn),?_⟩;(try (refine sGb ?_;try exact True.intro));(repeat refine aI ?_))
  (repeat refine aI ?_);refine hK _ ?_;clear hK K
  refine W_seq ?_
  ((first | refine W_seqV ?_ | refine W_seq (W_seqV ?_) | refine W_regV ?_);intro K hK;(refine sGbX z00 ?_;try exact True.intro))
  (repeat refine aI ?_);refine hK _ ?_;clear hK K
  (first | refine W_ct rfl ?_ | refine W_seq (W_ct rfl ?_))
  ((first | refine W_seqV ?_ | refine W_seq (W_seqV ?_) | refine W_regV ?_);intro K hK;(refine sGb ?_;try exact True.intro))
  (repeat refine aI ?_);refine hK _ ?_;clear hK K
  refine W_ret ?_
  (refine qG ?_;try exact True.intro);try (refine sGbV ?_;try exact True.intro)
  try rfl
 have hep := limbs_len_pos he
 have hze : (((limbs e).length : Int) == 0) = false := by rw [beq_eq_false_iff_ne];omega
 simp only [cN,cNat] at hdn
 by_cases h0 : z = 0
 ·subst h0
  rw [show mkRat 0 e = 0 by simp,cQ_zero]
  simp only [cZ,cI,Int.natAbs_zero,limbs_zero] at hz
  (refine pureW Tryz.func76 rfl (rs := [Go.ResultVar.cell 2 53]) rfl (n := 55) rfl ?_;simp only [List.length_cons,List.length_nil,List.replicate,List.cons_append,List.nil_append])
  (refine aGb ?_)
  ((first | refine W_seqV ?_ | refine W_seq (W_seqV ?_) | refine W_regV ?_);intro K hK;(refine sGb ?_;try exact True.intro))
  ((repeat refine aI ?_);refine ⟨by kernel_rfl,_,.pure rfl (hz),?_⟩;(try (refine sGb ?_;try exact True.intro));(repeat refine aI ?_))
  (repeat refine aI ?_);refine hK _ ?_;clear hK K
  ((first | refine W_seqV ?_ | refine W_seq (W_seqV ?_) | refine W_regV ?_);intro K hK;(refine sGb ?_;try exact True.intro))
  ((repeat refine aI ?_);refine ⟨by kernel_rfl,_,.pure rfl (hdn),?_⟩;(try (refine sGb ?_;try exact True.intro));(repeat refine aI ?_))
  (repeat refine aI ?_);refine hK _ ?_;clear hK K
  refine W_seq ?_
  ((first | refine W_seqV ?_ | refine W_seq (W_seqV ?_) | refine W_regV ?_);intro K hK;(refine sGbX (And.intro hze z00) ?_;try exact True.intro))
  (repeat refine aI ?_);refine hK _ ?_;clear hK K
  (first | refine W_ct rfl ?_ | refine W_seq (W_ct rfl ?_))
  ((first | refine W_seqV ?_ | refine W_seq (W_seqV ?_) | refine W_regV ?_);intro K hK;(refine sGb ?_;try exact True.intro))
  (repeat refine aI ?_);refine hK _ ?_;clear hK K
  refine W_ret ?_
  (refine qG ?_;try exact True.intro);try (refine sGbV ?_;try exact True.intro)
  try rfl
 have hzp := limbs_len_pos (n := z.natAbs) (by omega)
 have hzz : (((limbs z.natAbs).length : Int) == 0) = false := by rw [beq_eq_false_iff_ne];omega
 rw [mk_cQ z he h0]
 have hg := fgcd_v z.natAbs e (by omega) (by omega)
 have hg0 : Nat.gcd z.natAbs e ≠ 0 := fun h => he (Nat.gcd_eq_zero_iff.1 h).2
 have hgl := limbs_mono (Nat.le_of_dvd (Nat.pos_of_ne_zero he) (Nat.gcd_dvd_right z.natAbs e))
 have d1 := fdiv_v z.natAbs (Nat.gcd z.natAbs e) (by omega) (by omega) hg0
 have d2 := fdiv_v e (Nat.gcd z.natAbs e) (by omega) (by omega) hg0
 simp only [cN,cNat] at hg d1 d2 ⊢
 (refine pureW Tryz.func76 rfl (rs := [Go.ResultVar.cell 2 53]) rfl (n := 55) rfl ?_;simp only [List.length_cons,List.length_nil,List.replicate,List.cons_append,List.nil_append])
 (refine aGb ?_)
 ((first | refine W_seqV ?_ | refine W_seq (W_seqV ?_) | refine W_regV ?_);intro K hK;(refine sGb ?_;try exact True.intro))
 ((repeat refine aI ?_);refine ⟨by kernel_rfl,_,.pure rfl (hz),?_⟩;(try (refine sGb ?_;try exact True.intro));(repeat refine aI ?_))
 (repeat refine aI ?_);refine hK _ ?_;clear hK K
 ((first | refine W_seqV ?_ | refine W_seq (W_seqV ?_) | refine W_regV ?_);intro K hK;(refine sGb ?_;try exact True.intro))
 ((repeat refine aI ?_);refine ⟨by kernel_rfl,_,.pure rfl (hdn),?_⟩;(try (refine sGb ?_;try exact True.intro));(repeat refine aI ?_))
 (repeat refine aI ?_);refine hK _ ?_;clear hK K
 refine W_seq ?_
 ((first | refine W_seqV ?_ | refine W_seq (W_seqV ?_) | refine W_regV ?_);intro K hK;(refine sGbX (And.intro hze hzz) ?_;try exact True.intro))
 (repeat refine aI ?_);refine hK _ ?_;clear hK K
 (first | refine W_cf rfl ?_ | refine W_seq (W_cf rfl ?_))
 refine W_skip ?_
 simp only [thenW]
 ((first | refine W_seqV ?_ | refine W_seq (W_seqV ?_) | refine W_regV ?_);intro K hK;(refine sGb ?_;try exact True.intro))
 ((repeat refine aI ?_);refine ⟨by kernel_rfl,_,.pure rfl (hg),?_⟩;(try (refine sGb ?_;try exact True.intro));(repeat refine aI ?_))
 (repeat refine aI ?_);refine hK _ ?_;clear hK K
 ((first | refine W_seqV ?_ | refine W_seq (W_seqV ?_) | refine W_regV ?_);intro K hK;(refine sGb ?_;try exact True.intro))
 ((repeat refine aI ?_);refine ⟨by kernel_rfl,_,.pure rfl (d1),?_⟩;(try (refine sGb ?_;try exact True.intro));(repeat refine aI ?_))
 (repeat refine aI ?_);refine hK _ ?_;clear hK K
 ((first | refine W_seqV ?_ | refine W_seq (W_seqV ?_) | refine W_regV ?_);intro K hK;(refine sGb ?_;try exact True.intro))
 ((repeat refine aI ?_);refine ⟨by kernel_rfl,_,.pure rfl (d2),?_⟩;(try (refine sGb ?_;try exact True.intro));(repeat refine aI ?_))
 (repeat refine aI ?_);refine hK _ ?_;clear hK K
 ((first | refine W_seqV ?_ | refine W_seq (W_seqV ?_) | refine W_regV ?_);intro K hK;(refine sGb ?_;try exact True.intro))
 (repeat refine aI ?_);refine hK _ ?_;clear hK K
 refine W_ret ?_
 (refine qG ?_;try exact True.intro);try (refine sGbV ?_;try exact True.intro)
theorem f3norm_ok (r : RR) (hr : r.ok) : Pure Tryz.prog 76 [r.av] (· = cQ r.v) :=
 f3norm_ok0 r.neg r.num r.den hr.num hr.den (Nat.lt_trans hr.nl (by decide)) (Nat.lt_trans hr.dl (by decide))
theorem f3norm_zd (z : Int) (d : Nat) (hz : zl z < 137438953472) (hd : (limbs d).length < 137438953472) :
  Pure Tryz.prog 76 [.agg [.bool (decide (z < 0)),.sl (u32s (limbs z.natAbs)),.sl (u32s (limbs d))]] (· = cQ (mkRat z d)) := by
 have := f3norm_ok0 (decide (z < 0)) (limbs z.natAbs) (limbs d) (limbs_limbs _) (limbs_limbs _) hz hd
 rwa [mkRat_iv] at this
set_option maxHeartbeats 1000000 in
theorem positive_ok (l : List Nat) : Pure Tryz.prog 157 [cNat l] (· = cI false l) := by
 (refine pureW Tryz.func157 rfl (rs := [Go.ResultVar.cell 2 51]) rfl (n := 5) rfl ?_;simp only [List.length_cons,List.length_nil,List.replicate,List.cons_append,List.nil_append])
 unfold cNat
 (refine aGb ?_)
 refine W_ret ?_
 (refine qG ?_;try exact True.intro);try (refine sGbV ?_;try exact True.intro)
theorem f2mul_qd (a b : Rat) (ha : (qr a).ok) (hb : (qr b).ok) : Pure Tryz.prog 156 [cI (decide (a.num < 0)) (limbs a.num.natAbs),cI false (limbs b.den)] (· = cZ (a.num * b.den)) := by
 have := f2mul_ok (decide (a.num < 0)) (limbs a.num.natAbs) (limbs_limbs _) (Nat.lt_trans ha.nl (by decide)) false (limbs b.den) (limbs_limbs _) (Nat.lt_trans hb.dl (by decide))
 rwa [q_num,den_iv] at this
theorem f1dd_ok (a b : Rat) (ha : (qr a).ok) (hb : (qr b).ok) : Pure Tryz.prog 158 [cNat (limbs a.den),cNat (limbs b.den)] (· = cN (a.den * b.den)) := by
 have := fmul_ok (limbs a.den) (limbs b.den) (limbs_limbs _) (limbs_limbs _) (Nat.lt_trans ha.dl (by decide)) (Nat.lt_trans hb.dl (by decide))
 rwa [val_limbs,val_limbs] at this
set_option maxHeartbeats 4000000 in
theorem f3add_ok (r t : RR) (hr : r.ok) (ht : t.ok) : Pure Tryz.prog 121 [r.av,t.av] (· = cQ (r.v + t.v)) := by
 have hn := f3norm_ok r hr
 have hm := f3norm_ok t ht
 have ho := v_ok hr
 have hp := v_ok ht
 obtain ⟨neg,n,d⟩ := r
 obtain ⟨neg',n',d'⟩ := t
 simp only [RR.av] at hn hm ⊢
 generalize RR.v _ = q at *
 generalize RR.v _ = p at *
 have h1 := f2mul_qd q p ho hp
 have h2 := f2mul_qd p q hp ho
 have p1 := positive_ok (limbs p.den)
 have p2 := positive_ok (limbs q.den)
 have z1 := zl_qd q p ho hp
 have z2 := zl_qd p q hp ho
 have hc := f2add_ok (decide (q.num * p.den < 0)) (limbs (q.num * p.den).natAbs) (limbs_limbs _) (Nat.lt_trans z1 (by decide)) (decide (p.num * q.den < 0)) (limbs (p.num * q.den).natAbs) (limbs_limbs _) (Nat.lt_trans z2 (by decide))
 rw [iv_cZ,iv_cZ] at hc
 have z3 := zl_add (q.num * p.den) (p.num * q.den)
 have hd := f1dd_ok q p ho hp
 have hl := dd_len q p ho hp
 have hmd := f3norm_zd (q.num * p.den + p.num * q.den) (q.den * p.den) (by omega) (by omega)
 rw [← Rat.add_def'] at hmd
 simp only [cQ] at hn hm
 (refine pureW Tryz.func121 rfl (rs := [Go.ResultVar.cell 4 53]) rfl (n := 31) rfl ?_;simp only [List.length_cons,List.length_nil,List.replicate,List.cons_append,List.nil_append])
 (refine aGb ?_)
 ((first | refine W_seqV ?_ | refine W_seq (W_seqV ?_) | refine W_regV ?_);intro K hK;(refine sGb ?_;try exact True.intro))
 ((repeat refine aI ?_);refine ⟨by kernel_rfl,_,.pure rfl (hn),?_⟩;(try (refine sGb ?_;try exact True.intro));(repeat refine aI ?_))
 (repeat refine aI ?_);refine hK _ ?_;clear hK K
 ((first | refine W_seqV ?_ | refine W_seq (W_seqV ?_) | refine W_regV ?_);intro K hK;(refine sGb ?_;try exact True.intro))
 ((repeat refine aI ?_);refine ⟨by kernel_rfl,_,.pure rfl (hm),?_⟩;(try (refine sGb ?_;try exact True.intro));(repeat refine aI ?_))
 (repeat refine aI ?_);refine hK _ ?_;clear hK K
 ((first | refine W_seqD mixed [(1,13),(3,13),(7,13),(9,13)] (by kernel_rfl) ?_ | refine W_seq (W_seqD mixed [(1,13),(3,13),(7,13),(9,13)] (by kernel_rfl) ?_) | refine W_regD mixed [(1,13),(3,13),(7,13),(9,13)] (by kernel_rfl) ?_);intro K hK;(refine sGb ?_;try exact True.intro))
 ((repeat refine aI ?_);refine ⟨by kernel_rfl,_,.pure rfl (p1),?_⟩;(try (refine sGb ?_;try exact True.intro));(repeat refine aI ?_))
 ((repeat refine aI ?_);refine ⟨by kernel_rfl,_,.pure rfl (h1),?_⟩;(try (refine sGb ?_;try exact True.intro));(repeat refine aI ?_))
 ((repeat refine aI ?_);refine ⟨by kernel_rfl,_,.pure rfl (p2),?_⟩;(try (refine sGb ?_;try exact True.intro));(repeat refine aI ?_))
 ((repeat refine aI ?_);refine ⟨by kernel_rfl,_,.pure rfl (h2),?_⟩;(try (refine sGb ?_;try exact True.intro));(repeat refine aI ?_))
 ((repeat refine aI ?_);refine ⟨by kernel_rfl,_,.pure rfl (hc),?_⟩;(try (refine sGb ?_;try exact True.intro));(repeat refine aI ?_))
 (repeat refine aI ?_);refine hK _ ?_;clear hK K
 ((first | refine W_seqD mixed [] (by kernel_rfl) ?_ | refine W_seq (W_seqD mixed [] (by kernel_rfl) ?_) | refine W_regD mixed [] (by kernel_rfl) ?_);intro K hK;(refine sGb ?_;try exact True.intro))
 ((repeat refine aI ?_);refine ⟨by kernel_rfl,_,.pure rfl (hd),?_⟩;(try (refine sGb ?_;try exact True.intro));(repeat refine aI ?_))
 ((repeat refine aI ?_);refine ⟨by kernel_rfl,_,.pure rfl (hmd),?_⟩;(try (refine sGb ?_;try exact True.intro));(repeat refine aI ?_))
 (repeat refine aI ?_);refine hK _ ?_;clear hK K
 refine W_ret ?_
 (refine qG ?_;try exact True.intro);try (refine sGbV ?_;try exact True.intro)
set_option maxHeartbeats 4000000 in
theorem f3sign_ok (r : RR) (hr : r.ok) : Pure Tryz.prog 90 [r.av] (· = .int .i64 (rs r.v)) := by
 have hn := f3norm_ok r hr
 have ho := v_ok hr
 obtain ⟨neg,n,d⟩ := r
 simp only [RR.av] at hn ⊢
 generalize RR.v _ = q at *
 have hs := f2sign_ok (decide (q.num < 0)) (limbs q.num.natAbs) (limbs_limbs _) (Nat.lt_trans ho.nl (by decide))
 rw [q_num] at hs
 change Pure _ _ _ (· = .int .i64 (rs q)) at hs
 simp only [cQ] at hn
 (refine pureW Tryz.func90 rfl (rs := [Go.ResultVar.tmp 2]) rfl (n := 7) rfl ?_;simp only [List.length_cons,List.length_nil,List.replicate,List.cons_append,List.nil_append])
 (refine aGb ?_)
 ((first | refine W_seqV ?_ | refine W_seq (W_seqV ?_) | refine W_regV ?_);intro K hK;(refine sGb ?_;try exact True.intro))
 ((repeat refine aI ?_);refine ⟨by kernel_rfl,_,.pure rfl (hn),?_⟩;(try (refine sGb ?_;try exact True.intro));(repeat refine aI ?_))
 ((repeat refine aI ?_);refine ⟨by kernel_rfl,_,.pure rfl (hs),?_⟩;(try (refine sGb ?_;try exact True.intro));(repeat refine aI ?_))
 (repeat refine aI ?_);refine hK _ ?_;clear hK K
 refine W_ret ?_
 (refine qG ?_;try exact True.intro);try (refine sGbV ?_;try exact True.intro)
set_option maxHeartbeats 1000000 in
theorem f3whole_ok (n : Int) (h1 : -9223372036854775808 ≤ n) (h2 : n < 9223372036854775808) : Pure Tryz.prog 85 [.int .i64 n] (· = cQ n) := by
 have hw := f2of_ok n h1 h2
 have hm := f3norm_zd n 1 (by have : (limbs n.natAbs).length ≤ 2 := len_le (by omega);unfold zl;omega) (by rw [limbs_1];simp)
 rw [show mkRat n 1 = (n : Rat) by rw [← Rat.mkRat_self (n : Rat)];rfl,limbs_1] at hm
 (refine pureW Tryz.func85 rfl (rs := [Go.ResultVar.cell 2 53]) rfl (n := 8) rfl ?_;simp only [List.length_cons,List.length_nil,List.replicate,List.cons_append,List.nil_append])
 (refine aGb ?_)
 ((first | refine W_seqV ?_ | refine W_seq (W_seqV ?_) | refine W_regV ?_);intro K hK;(refine sGb ?_;try exact True.intro))
 ((repeat refine aI ?_);refine ⟨by kernel_rfl,_,.pure rfl (hw),?_⟩;(try (refine sGb ?_;try exact True.intro));(repeat refine aI ?_))
 ((repeat refine aI ?_);refine ⟨by kernel_rfl,_,.pure rfl (hm),?_⟩;(try (refine sGb ?_;try exact True.intro));(repeat refine aI ?_))
 (repeat refine aI ?_);refine hK _ ?_;clear hK K
 refine W_ret ?_
 (refine qG ?_;try exact True.intro);try (refine sGbV ?_;try exact True.intro)
end Go.Proofs.YtjmpajgjaefcjaaGreat.Vm
namespace Go.Proofs.YtjmpajgjaefcjaaGreat.Vm
open Go Go.RowKit
def rowR (r : RR) : List AV := [.bool r.neg,.sl (u32s r.num),.sl (u32s r.den)]
def rowS (s : ByteArray) : List AV := [.str s]
instance : Inhabited ByteArray := ⟨ByteArray.empty⟩
def zeroR : RR := ⟨false,[],[]⟩
theorem zeroR_ok : zeroR.ok := ⟨fun _ h => (by cases h),fun _ h => (by cases h),(by decide),(by decide)⟩
theorem zeroR_v : zeroR.v = 0 := by simp [zeroR,RR.v,val]
end Go.Proofs.YtjmpajgjaefcjaaGreat.Vm
namespace Go.Proofs.YtjmpajgjaefcjaaGreat.Vm
open Go Go.RowKit
set_option maxRecDepth 100000
set_option linter.unusedVariables false
set_option linter.unusedSimpArgs false
theorem sJa {G G' : Prop} (h : G') (e : G = G' := by conv => lhs;simp (disch := omega) only [rowsOf,cNat,cN,St.ret,St.seth,Eff.app,Eff.wi,sepL,guardOf,St.known,objOf,List.set,sliceW,litW,copyW,lenOf,bnd,mxOk,ofCells,TI.isAgg,cellsOf,storable,AV.one,dead,laid,overlay,reduceCtorEq,Int.reduceLE,Int.reduceLT,Int.reduceSub,Int.reduceAdd,Nat.reduceMul,Int.reduceToNat,Nat.reducePow,Int.reduceNeg,Nat.reduceAdd,Nat.reduceLT,Nat.reduceLeDiff,sA,sB,cQ,rowM,tab_length,tab_getD_zero,List.take_length,List.length_append,tab_drop,tab_take,tab_append,tab_nil,rowM_all,rowM_one,rowM_pure,rowQ_all,rowQ_one,rowQ_pure,sT]) : G := e.mpr h
theorem sJaX {G G' P : Prop} (p : P) (h : G') (e : P → G = G' := by intro p;conv => lhs;simp (disch := omega) only [rowsOf,cNat,cN,St.ret,St.seth,Eff.app,Eff.wi,sepL,guardOf,St.known,objOf,List.set,sliceW,litW,copyW,lenOf,bnd,mxOk,ofCells,TI.isAgg,cellsOf,storable,AV.one,dead,laid,overlay,reduceCtorEq,Int.reduceLE,Int.reduceLT,Int.reduceSub,Int.reduceAdd,Nat.reduceMul,Int.reduceToNat,Nat.reducePow,Int.reduceNeg,Nat.reduceAdd,Nat.reduceLT,Nat.reduceLeDiff,sA,sB,cQ,rowM,tab_length,tab_getD_zero,List.take_length,List.length_append,tab_drop,tab_take,tab_append,tab_nil,rowM_all,rowM_one,rowM_pure,rowQ_all,rowQ_one,rowQ_pure,sT,p]) : G := (e p).mpr h
theorem sJaV {G G' : Prop} (h : G') (e : G = G' := by conv => lhs;simp (disch := omega) only [rowsOf,cNat,cN,St.ret,St.seth,Eff.app,Eff.wi,sepL,guardOf,St.known,objOf,List.set,sliceW,litW,copyW,lenOf,bnd,mxOk,ofCells,TI.isAgg,cellsOf,storable,AV.one,dead,laid,overlay,reduceCtorEq,Int.reduceLE,Int.reduceLT,Int.reduceSub,Int.reduceAdd,Nat.reduceMul,Int.reduceToNat,Nat.reducePow,Int.reduceNeg,Nat.reduceAdd,Nat.reduceLT,Nat.reduceLeDiff,sA,sB,cQ,rowM,tab_length,tab_getD_zero,List.take_length,List.length_append,tab_drop,tab_take,tab_append,tab_nil,rowM_all,rowM_one,rowM_pure,rowQ_all,rowQ_one,rowQ_pure,sT,view_sref,viewRef,view_agg,views_cons,views_nil,view_bool,view_int,view_sl,view_nils,view_str,view_tup,view_nilif]) : G := e.mpr h
theorem aJa {G G' : Prop} (h : G') (f : Wr G' → G := by intro h;(repeat (first|(refine W_seqV fun K hK => ?_;(try (refine sJa ?_;try exact True.intro));(repeat refine aI ?_);refine hK _ ?_;clear hK K)|(refine W_seqR fun K hK => ?_;(try (refine sJa ?_;try exact True.intro));(repeat refine aI ?_);refine hK _ ?_;clear hK K)|(refine W_seqD mixed [] (by kernel_rfl) fun K hK => ?_;(try (refine sJa ?_;try exact True.intro));(repeat refine aI ?_);refine hK _ ?_;clear hK K)));exact h.out) : G := f ⟨h⟩
theorem f6zero_ok : Pure Tryz.prog 80 [] (· = cQ 0) := by
 have h1 := f3whole_ok 0 (by omega) (by omega)
 change Pure _ _ _ (· = cQ 0) at h1
 generalize (0 : Rat) = q at *
 simp only [cQ] at h1
 (refine pureW Tryz.func80 rfl (rs := [Go.ResultVar.cell 0 53]) rfl (n := 2) rfl ?_;simp only [List.length_cons,List.length_nil,List.replicate,List.cons_append,List.nil_append])
 (refine aJa ?_)
 ((first | refine W_seqV ?_ | refine W_seq (W_seqV ?_) | refine W_regV ?_);intro K hK;(refine sJa ?_;try exact True.intro))
 ((repeat refine aI ?_);refine ⟨by kernel_rfl,_,.pure rfl (h1),?_⟩;(try (refine sJa ?_;try exact True.intro));(repeat refine aI ?_))
 (repeat refine aI ?_);refine hK _ ?_;clear hK K
 refine W_ret ?_
 (refine qG ?_;try exact True.intro);try (refine sJaV ?_;try exact True.intro)
theorem coef_take (v : Int) (f : List (Int × Rat)) {i : Nat} (h : i < f.length) : coef (f.take (i + 1)) v = coef (f.take i) v + if (f.getD i default).1 = v then (f.getD i default).2 else 0 := by
 rw [List.take_succ_eq_append_getElem h,coef_append]
 have : f.getD i default = f[i] := by simp [List.getD_eq_getElem?_getD,h]
 rw [this]
 simp only [coef]
 grind
theorem nb_coef (l : List (Int × Rat)) (v : Int) : nb (coef l v) ≤ 1 + nbv l v := by
 induction l with
 | nil => simp [coef,nb_zero]
 | cons p l ih =>
  simp only [coef,nbv]
  split
  ·have := nb_add p.2 (coef l v);omega
  ·rw [Rat.zero_add];omega
theorem nbv_take (f : List (Int × Rat)) (v : Int) (i : Nat) : nbv (f.take i) v ≤ nbv f v := by
 induction f generalizing i with
 | nil => simp
 | cons p f ih =>
  cases i with
  | zero => simp [nbv]
  | succ i => have := ih i;simp only [List.take_succ_cons,nbv];omega
structure PF (f : List (Int × RR)) (B : Nat) : Prop where
 ok : ∀ p ∈ f,p.2.ok
 pre : ∀ i v,nb (coef ((vals f).take i) v) ≤ B
 len : f.length < 549755813888
theorem FOk.pf {f : List (Int × RR)} {B : Nat} (h : FOk f B) (hB : B < 549755813888) : PF f (1 + B) :=
 ⟨h.ok,fun i v => by
  have h1 := nb_coef ((vals f).take i) v
  have h2 := nbv_take (vals f) v i
  have h3 := h.sz.b v
  omega,by have := h.len;omega⟩
theorem PF.coef {f : List (Int × RR)} {B : Nat} (h : PF f B) (v : Int) : nb (coef (vals f) v) ≤ B := by
 have := h.pre (vals f).length v
 rwa [List.take_length] at this
theorem PF.mono {f : List (Int × RR)} {B C : Nat} (h : PF f B) (hc : B ≤ C) : PF f C := ⟨h.ok,fun i v => Nat.le_trans (h.pre i v) hc,h.len⟩
theorem PF.append {f g : List (Int × RR)} {B C : Nat} (hf : PF f B) (hg : PF g C) (hl : f.length + g.length < 549755813888) : PF (f ++ g) (B + C) := by
 refine ⟨fun p hp => (List.mem_append.1 hp).elim (hf.ok p) (hg.ok p),fun i v => ?_,by simpa using hl⟩
 rw [vals_append,List.take_append,coef_append]
 have h1 := hf.pre i v
 have h2 := hg.pre (i - (vals f).length) v
 have h3 := nb_add (Vm.coef ((vals f).take i) v) (Vm.coef ((vals g).take (i - (vals f).length)) v)
 omega
theorem PF.scale {f : List (Int × RR)} {B C : Nat} (hf : PF f B) {c : Rat} (h : ∀ p ∈ f,nb c + nb p.2.v < 17179869184) (hc : nb c ≤ C) : PF (rf (scaleF c (vals f))) (C + B) := by
 refine ⟨fun p hp => ?_,fun i v => ?_,by simpa [rf,scaleF,vals] using hf.len⟩
 ·simp only [rf,scaleF,vals,List.mem_map] at hp
  obtain ⟨_,⟨_,⟨p,hp,rfl⟩,rfl⟩,rfl⟩ := hp
  have h1 := h p hp
  have h2 := nb_mul c p.2.v
  exact qr_ok (by dsimp only;omega)
 ·rw [vals_rf]
  have h0 : (scaleF c (vals f)).take i = scaleF c ((vals f).take i) := by simp [scaleF,List.map_take]
  rw [h0,coef_scale]
  have h1 := hf.pre i v
  have h2 := nb_mul c (Vm.coef ((vals f).take i) v)
  omega
theorem f6coef_ok (f : List (Int × RR)) (v : Int) {B : Nat} (hf : PF f B) (hB : B ≤ 8589934592) :
  Pure Tryz.prog 91 [cF f,.int .i64 v] (· = cQ (coef (vals f) v)) := by
 have hz := f6zero_ok
 have hfl := hf.len
 have hvl : (vals f).length = f.length := by simp [vals]
 have hnv : ∀ i,nb (coef ((vals f).take i) v) ≤ 8589934592 := fun i => Nat.le_trans (hf.pre i v) hB
 have hst : ∀ i,i < f.length → coef ((vals f).take (i + 1)) v = coef ((vals f).take i) v + if (f.getD i default).1 = v then (f.getD i default).2.v else 0 := fun i hi => by
  rw [coef_take _ _ (by omega)]
  have : (vals f).getD i default = ((f.getD i default).1,(f.getD i default).2.v) := by simp [vals,List.getD_eq_getElem?_getD,hi]
  rw [this]
 have h0 : coef ((vals f).take 0) v = 0 := rfl
 have hlast : (vals f).take f.length = vals f := List.take_of_length_le (by omega)
 have hok : ∀ i,i < f.length → (f.getD i default).2.ok := fun i hi => hf.ok _ (by simp [List.getD_eq_getElem?_getD,hi])
 rw [← hlast]
 generalize hE : (fun i => coef ((vals f).take i) v) = E at *
 have hE' : ∀ i,coef ((vals f).take i) v = E i := fun i => congrFun hE i
 simp only [hE'] at *
 clear hE hE' hlast
 simp only [cQ] at hz
 (refine pureW Tryz.func91 rfl (rs := [Go.ResultVar.cell 4 53]) rfl (n := 29) rfl ?_;simp only [List.length_cons,List.length_nil,List.replicate,List.cons_append,List.nil_append])
 simp only [cF]
 (refine aJa ?_)
 ((first | refine W_seqV ?_ | refine W_seq (W_seqV ?_) | refine W_regV ?_);intro K hK;(refine sJa ?_;try exact True.intro))
 ((repeat refine aI ?_);refine ⟨by kernel_rfl,_,.pure rfl (hz),?_⟩;(try (refine sJa ?_;try exact True.intro));(repeat refine aI ?_))
 (repeat refine aI ?_);refine hK _ ?_;clear hK K
 ((first | refine W_seqV ?_ | refine W_seq (W_seqV ?_) | refine W_regV ?_);intro K hK;(refine sJa ?_;try exact True.intro))
 (repeat refine aI ?_);refine hK _ ?_;clear hK K
 refine W_block (W_loop (fun t : {t : Nat // t ≤ f.length} =>
   ⟨[.sl (tab rowM f),.int .i64 v,.any,.any,.ptr 4 0 0,.ptr 5 0 0,.int .i64 t.1,.any,.any,.any,.any,.any,.any,.any,.any,.any,.any,.any,.any,.any,.any,.any,.any,.any,.any,.any,.any,.any,.any],[.dead,.dead,.dead,.dead,.arr 53 3 false [[.bool false,.nils,.nils]],.arr 53 3 false [[.bool (decide ((E t.1).num < 0)),.sl (u32s (limbs (E t.1).num.natAbs)),.sl (u32s (limbs (E t.1).den))]],.dead,.dead,.dead,.dead,.dead,.dead,.dead,.dead,.dead,.dead,.dead,.dead,.dead,.dead,.dead,.dead,.dead,.dead,.dead,.dead,.dead,.dead,.dead]⟩) (fun t => f.length - t.1)
   ⟨0,by omega⟩ (Le_of (by simp [leE]) (by simp [h0])) fun t => ?_)
 obtain ⟨i,hi⟩ := t
 dsimp only
 by_cases hlt : i < f.length
 ·have hXi : (tab rowM f).getD i [] = rowM (f.getD i default) := tab_getD hlt
  have hsi := hst i hlt
  have hp1 := hok i hlt
  have hni := hnv i
  generalize f.getD i default = p at *
  simp only [rowM] at hXi
  refine W_seq ?_
  ((first | refine W_seqV ?_ | refine W_seq (W_seqV ?_) | refine W_regV ?_);intro K hK;(refine sJaX hlt ?_;try exact True.intro))
  (repeat refine aI ?_);refine hK _ ?_;clear hK K
  (first | refine W_ct rfl ?_ | refine W_seq (W_ct rfl ?_))
  refine W_skip ?_
  simp only [thenW]
  refine W_seq ?_
  refine W_block ?_
  ((first | refine W_seqV ?_ | refine W_seq (W_seqV ?_) | refine W_regV ?_);intro K hK;(refine sJaX (And.intro hXi hlt) ?_;try exact True.intro))
  (repeat refine aI ?_);refine hK _ ?_;clear hK K
  by_cases hv : p.1 = v
  ·rw [if_pos hv] at hsi
   have hadd := f3add_ok (qr (E i)) p.2 (qr_ok (by omega)) hp1
   rw [qr_v,← hsi] at hadd
   simp only [RR.av,qr,cQ] at hadd
   have hb : (p.1 == v) = true := by simp [hv]
   rw [hb]
   (first | refine W_ct rfl ?_ | refine W_seq (W_ct rfl ?_))
   ((first | refine W_seqD mixed [] (by kernel_rfl) ?_ | refine W_seq (W_seqD mixed [] (by kernel_rfl) ?_) | refine W_regD mixed [] (by kernel_rfl) ?_);intro K hK;(refine sJaX (And.intro hXi hlt) ?_;try exact True.intro))
   ((repeat refine aI ?_);refine ⟨by kernel_rfl,_,.pure rfl (hadd),?_⟩;(try (refine sJa ?_;try exact True.intro));(repeat refine aI ?_))
   (repeat refine aI ?_);refine hK _ ?_;clear hK K
   simp only [blockW,thenW]
   ((first | refine W_seqV ?_ | refine W_seq (W_seqV ?_) | refine W_regV ?_);intro K hK;(refine sJa ?_;try exact True.intro))
   (repeat refine aI ?_);refine hK _ ?_;clear hK K
   simp only [blockW,thenW]
   refine ⟨⟨i + 1,by omega⟩,Le_drop (by simp [leE]) (by simp [leH]) rfl rfl,?_⟩
   dsimp only
   omega
  ·rw [if_neg hv,Rat.add_zero] at hsi
   have hb : (p.1 == v) = false := by simp [hv]
   rw [hb]
   (first | refine W_cf rfl ?_ | refine W_seq (W_cf rfl ?_))
   refine W_skip ?_
   simp only [blockW,thenW]
   ((first | refine W_seqV ?_ | refine W_seq (W_seqV ?_) | refine W_regV ?_);intro K hK;(refine sJa ?_;try exact True.intro))
   (repeat refine aI ?_);refine hK _ ?_;clear hK K
   simp only [blockW,thenW]
   refine ⟨⟨i + 1,by omega⟩,Le_drop (by simp [leE]) (by simp [leH,hsi]) rfl rfl,?_⟩
   dsimp only
   omega
 ·obtain rfl : i = f.length := by omega
  refine W_seq ?_
  ((first | refine W_seqV ?_ | refine W_seq (W_seqV ?_) | refine W_regV ?_);intro K hK;(refine sJa ?_;try exact True.intro))
  (repeat refine aI ?_);refine hK _ ?_;clear hK K
  (first | refine W_cf rfl ?_ | refine W_seq (W_cf rfl ?_))
  refine W_exit ?_
  simp only [thenW,blockW,if_true]
  ((first | refine W_seqV ?_ | refine W_seq (W_seqV ?_) | refine W_regV ?_);intro K hK;(refine sJa ?_;try exact True.intro))
  (repeat refine aI ?_);refine hK _ ?_;clear hK K
  refine W_ret ?_
  (refine qG ?_;try exact True.intro);try (refine sJaV ?_;try exact True.intro)
end Go.Proofs.YtjmpajgjaefcjaaGreat.Vm
namespace Go.Proofs.YtjmpajgjaefcjaaGreat.Vm
open Go Go.RowKit
set_option linter.unusedVariables false
set_option linter.unusedSimpArgs false
theorem i64s_take (l : List Int) (n : Nat) : (i64s l).take n = i64s (l.take n) := by simp [i64s,List.map_take]
theorem i64s_drop (l : List Int) (n : Nat) : (i64s l).drop n = i64s (l.drop n) := by simp [i64s,List.map_drop]
theorem i64s_set (l : List Int) (n : Nat) (x : Int) : (i64s l).set n [.int .i64 x] = i64s (l.set n x) := by simp [i64s,List.map_set]
theorem i64s_append (l m : List Int) : i64s l ++ i64s m = i64s (l ++ m) := by simp [i64s]
theorem i64s_one (l : List Int) : AllOne (i64s l) := by
 intro r hr
 simp only [i64s,List.mem_map] at hr
 obtain ⟨x,_,rfl⟩ := hr
 rfl
theorem i64s_pure (l : List Int) : AllPure (i64s l) := by
 intro r hr
 simp only [i64s,List.mem_map] at hr
 obtain ⟨x,_,rfl⟩ := hr
 rfl
def insI (x : Int) : List Int → List Int
 | [] => [x]
 | y::l => if y < x then y::insI x l else if y = x then y::l else x::y::l
def sortI (l : List Int) : List Int := l.foldl (fun o x => insI x o) []
theorem insI_at {x : Int} : ∀ {out : List Int} {k : Nat},k ≤ out.length → (∀ j,j < k → out.getD j 0 < x) → (k = out.length ∨ x ≤ out.getD k 0) →
  insI x out = if k < out.length ∧ out.getD k 0 = x then out else out.take k ++ x::out.drop k
 | [],k,h0,_,_ => by
  obtain rfl : k = 0 := by simpa using h0
  simp [insI]
 | y::out,0,_,_,h2 => by
  have h3 : x ≤ y := by simpa using h2
  simp only [insI,if_neg (show ¬ y < x by omega)]
  simp
 | y::out,k + 1,h0,h1,h2 => by
  have h3 : y < x := by simpa using h1 0 (by omega)
  have := insI_at (x := x) (out := out) (k := k) (by simpa using h0) (fun j hj => by simpa using h1 (j + 1) (by omega)) (by simpa using h2)
  simp only [insI,if_pos h3,this]
  simp only [List.length_cons,List.getD_cons_succ,List.take_succ_cons,List.drop_succ_cons,Nat.add_lt_add_iff_right]
  split <;> simp
theorem mem_insI {x y : Int} : ∀ {l : List Int},y ∈ insI x l ↔ y = x ∨ y ∈ l
 | [] => by simp [insI]
 | z::l => by
  have ih := mem_insI (x := x) (y := y) (l := l)
  simp only [insI]
  split
  ·simp only [List.mem_cons,ih];grind
  ·split
   ·rename_i h;subst h;simp
   ·simp
theorem insI_lt {x : Int} : ∀ {l : List Int},l.Pairwise (· < ·) → (insI x l).Pairwise (· < ·)
 | [],_ => by simp [insI]
 | z::l,h => by
  have ih := insI_lt (x := x) (List.pairwise_cons.1 h).2
  have hz := (List.pairwise_cons.1 h).1
  simp only [insI]
  split
  ·refine List.pairwise_cons.2 ⟨fun y hy => ?_,ih⟩
   rcases mem_insI.1 hy with rfl | hy
   ·assumption
   ·exact hz y hy
  ·split
   ·exact h
   ·refine List.pairwise_cons.2 ⟨fun y hy => ?_,h⟩
    rcases List.mem_cons.1 hy with rfl | hy
    ·omega
    ·have := hz y hy;omega
theorem insI_len {x : Int} : ∀ {l : List Int},(insI x l).length ≤ l.length + 1
 | [] => by simp [insI]
 | z::l => by
  have ih := insI_len (x := x) (l := l)
  simp only [insI]
  split
  ·simpa using ih
  ·split <;> simp
theorem sortI_take {l : List Int} {i : Nat} (h : i < l.length) : sortI (l.take (i + 1)) = insI (l.getD i 0) (sortI (l.take i)) := by
 unfold sortI
 rw [List.take_succ_eq_append_getElem h,List.foldl_append]
 simp [List.getD_eq_getElem?_getD,h]
theorem foldl_insI : ∀ (l o : List Int),o.Pairwise (· < ·) → (l.foldl (fun o x => insI x o) o).Pairwise (· < ·) ∧ (∀ y,y ∈ l.foldl (fun o x => insI x o) o ↔ y ∈ o ∨ y ∈ l) ∧ (l.foldl (fun o x => insI x o) o).length ≤ o.length + l.length
 | [],o,h => ⟨h,by simp,by simp⟩
 | x::l,o,h => by
  have ⟨h1,h2,h3⟩ := foldl_insI l (insI x o) (insI_lt h)
  refine ⟨h1,fun y => ?_,?_⟩
  ·simp only [List.foldl_cons]
   rw [h2 y,mem_insI]
   simp only [List.mem_cons]
   grind
  ·have := insI_len (x := x) (l := o)
   simp only [List.foldl_cons,List.length_cons]
   omega
theorem sortI_lt (l : List Int) : (sortI l).Pairwise (· < ·) := (foldl_insI l [] List.Pairwise.nil).1
theorem mem_sortI {l : List Int} {y : Int} : y ∈ sortI l ↔ y ∈ l := by have := (foldl_insI l [] List.Pairwise.nil).2.1 y;simpa [sortI] using this
theorem sortI_len (l : List Int) : (sortI l).length ≤ l.length := by have := (foldl_insI l [] List.Pairwise.nil).2.2;simpa [sortI] using this
def pickF (f : List (Int × Rat)) : List Int → List (Int × Rat)
 | [] => []
 | v::l => if coef f v = 0 then pickF f l else (v,coef f v)::pickF f l
theorem pickF_append (f : List (Int × Rat)) (l m : List Int) : pickF f (l ++ m) = pickF f l ++ pickF f m := by
 induction l with
 | nil => rfl
 | cons v l ih => simp only [List.cons_append,pickF,ih];split <;> simp
theorem pickF_take {f : List (Int × Rat)} {l : List Int} {i : Nat} (h : i < l.length) : pickF f (l.take (i + 1)) = pickF f (l.take i) ++ if coef f (l.getD i 0) = 0 then [] else [(l.getD i 0,coef f (l.getD i 0))] := by
 rw [List.take_succ_eq_append_getElem h,pickF_append]
 have : l.getD i 0 = l[i] := by simp [List.getD_eq_getElem?_getD,h]
 rw [this]
 simp only [pickF]
theorem mem_pickF {f : List (Int × Rat)} {p : Int × Rat} : ∀ {l : List Int},p ∈ pickF f l → p.1 ∈ l ∧ p.2 = coef f p.1 ∧ p.2 ≠ 0
 | v::l,h => by
  simp only [pickF] at h
  split at h
  ·have := mem_pickF h;exact ⟨List.mem_cons_of_mem _ this.1,this.2⟩
  ·rcases List.mem_cons.1 h with rfl | h
   ·exact ⟨List.mem_cons_self,rfl,by assumption⟩
   ·have := mem_pickF h;exact ⟨List.mem_cons_of_mem _ this.1,this.2⟩
theorem pickF_nf {f : List (Int × Rat)} : ∀ {l : List Int},l.Pairwise (· < ·) → NF (pickF f l)
 | [],_ => NF.nil
 | v::l,h => by
  have ih := pickF_nf (f := f) (List.pairwise_cons.1 h).2
  simp only [pickF]
  split
  ·exact ih
  ·exact NF.cons ih (by assumption) fun q hq => (List.pairwise_cons.1 h).1 _ (mem_pickF hq).1
theorem pickF_coef {f : List (Int × Rat)} {v : Int} : ∀ {l : List Int},l.Pairwise (· < ·) → coef (pickF f l) v = if v ∈ l then coef f v else 0
 | [],_ => by simp [pickF,coef]
 | w::l,h => by
  have ih := pickF_coef (f := f) (v := v) (List.pairwise_cons.1 h).2
  have hw := (List.pairwise_cons.1 h).1
  simp only [pickF]
  by_cases hv : v = w
  ·subst hv
   have h1 : v ∉ l := fun hm => by have := hw v hm;omega
   rw [if_neg h1] at ih
   split
   ·rename_i h0;rw [ih,if_pos List.mem_cons_self,h0]
   ·simp only [coef,if_true,ih,if_pos List.mem_cons_self,Rat.add_zero]
  ·have h1 : (v ∈ w::l) = (v ∈ l) := by simp [hv]
   simp only [h1]
   split
   ·exact ih
   ·simp only [coef,if_neg (show ¬ w = v from fun e => hv e.symm),ih,Rat.zero_add]
theorem pick_norm (f : List (Int × Rat)) : pickF f (sortI (f.map (·.1))) = normF f := by
 refine norm_of (pickF_nf (sortI_lt _)) fun v => ?_
 rw [pickF_coef (sortI_lt _)]
 split
 ·rfl
 ·rename_i h
  rw [mem_sortI] at h
  exact (coef_none fun p hp e => h (List.mem_map.2 ⟨p,hp,e⟩)).symm
theorem pickF_len (f : List (Int × Rat)) : ∀ l : List Int,(pickF f l).length ≤ l.length
 | [] => Nat.le_refl _
 | v::l => by
  have := pickF_len f l
  simp only [pickF]
  split <;> simp only [List.length_cons] <;> omega
end Go.Proofs.YtjmpajgjaefcjaaGreat.Vm
namespace Go.Proofs.YtjmpajgjaefcjaaGreat.Vm
open Go Go.RowKit
set_option maxRecDepth 100000
set_option linter.unusedVariables false
set_option linter.unusedSimpArgs false
theorem sJb {G G' : Prop} (h : G') (e : G = G' := by conv => lhs;simp (disch := omega) only [rowsOf,cNat,cN,St.ret,St.seth,Eff.app,Eff.wi,sepL,guardOf,St.known,objOf,List.set,sliceW,litW,copyW,lenOf,bnd,mxOk,ofCells,TI.isAgg,cellsOf,storable,AV.one,dead,laid,overlay,reduceCtorEq,Int.reduceLE,Int.reduceLT,Int.reduceSub,Int.reduceAdd,Nat.reduceMul,Int.reduceToNat,Nat.reducePow,Int.reduceNeg,Nat.reduceAdd,Nat.reduceLT,Nat.reduceLeDiff,sA,sB,i64s_getD,i64s_length,i64s_all,i64s_take,i64s_drop,i64s_set,i64s_one,i64s_pure,i64s_append,List.take_length,List.length_append,sT]) : G := e.mpr h
theorem sJbX {G G' P : Prop} (p : P) (h : G') (e : P → G = G' := by intro p;conv => lhs;simp (disch := omega) only [rowsOf,cNat,cN,St.ret,St.seth,Eff.app,Eff.wi,sepL,guardOf,St.known,objOf,List.set,sliceW,litW,copyW,lenOf,bnd,mxOk,ofCells,TI.isAgg,cellsOf,storable,AV.one,dead,laid,overlay,reduceCtorEq,Int.reduceLE,Int.reduceLT,Int.reduceSub,Int.reduceAdd,Nat.reduceMul,Int.reduceToNat,Nat.reducePow,Int.reduceNeg,Nat.reduceAdd,Nat.reduceLT,Nat.reduceLeDiff,sA,sB,i64s_getD,i64s_length,i64s_all,i64s_take,i64s_drop,i64s_set,i64s_one,i64s_pure,i64s_append,List.take_length,List.length_append,sT,p]) : G := (e p).mpr h
theorem sJbV {G G' : Prop} (h : G') (e : G = G' := by conv => lhs;simp (disch := omega) only [rowsOf,cNat,cN,St.ret,St.seth,Eff.app,Eff.wi,sepL,guardOf,St.known,objOf,List.set,sliceW,litW,copyW,lenOf,bnd,mxOk,ofCells,TI.isAgg,cellsOf,storable,AV.one,dead,laid,overlay,reduceCtorEq,Int.reduceLE,Int.reduceLT,Int.reduceSub,Int.reduceAdd,Nat.reduceMul,Int.reduceToNat,Nat.reducePow,Int.reduceNeg,Nat.reduceAdd,Nat.reduceLT,Nat.reduceLeDiff,sA,sB,i64s_getD,i64s_length,i64s_all,i64s_take,i64s_drop,i64s_set,i64s_one,i64s_pure,i64s_append,List.take_length,List.length_append,sT,view_sref,viewRef,view_agg,views_cons,views_nil,view_bool,view_int,view_sl,view_nils,view_str,view_tup,view_nilif]) : G := e.mpr h
theorem aJb {G G' : Prop} (h : G') (f : Wr G' → G := by intro h;(repeat (first|(refine W_seqV fun K hK => ?_;(try (refine sJb ?_;try exact True.intro));(repeat refine aI ?_);refine hK _ ?_;clear hK K)|(refine W_seqR fun K hK => ?_;(try (refine sJb ?_;try exact True.intro));(repeat refine aI ?_);refine hK _ ?_;clear hK K)|(refine W_seqD mixed [] (by kernel_rfl) fun K hK => ?_;(try (refine sJb ?_;try exact True.intro));(repeat refine aI ?_);refine hK _ ?_;clear hK K)));exact h.out) : G := f ⟨h⟩
def shI (out : List Int) (k : Nat) : List Int := out.take k ++ ((out ++ [0]).getD k 0)::out.drop k
theorem shI_len {out : List Int} {k : Nat} (h : k ≤ out.length) : (shI out k).length = out.length + 1 := by simp [shI];omega
theorem shI_top (out : List Int) : shI out out.length = out ++ [0] := by simp [shI]
theorem shI_low {out : List Int} {k j : Nat} (h : k ≤ out.length) (hj : j < k) : (shI out k).getD j 0 = out.getD j 0 := by
 simp only [shI,List.getD_eq_getElem?_getD]
 rw [List.getElem?_append_left (by simp;omega)]
 simp [hj]
theorem shI_step {out : List Int} {k : Nat} (h : k < out.length) : (shI out (k + 1)).set (k + 1) (out.getD k 0) = shI out k := by
 have h1 : out.take (k + 1) = out.take k ++ [out.getD k 0] := by rw [List.take_succ_eq_append_getElem h];simp [List.getD_eq_getElem?_getD,h]
 have h2 : out.drop k = out.getD k 0::out.drop (k + 1) := by rw [List.drop_eq_getElem_cons h];simp [List.getD_eq_getElem?_getD,h]
 have h3 : (out ++ [0]).getD k 0 = out.getD k 0 := by simp only [List.getD_eq_getElem?_getD];rw [List.getElem?_append_left h]
 rw [shI,shI,h3,h2,h1]
 rw [List.set_append_right _ _ (by simp;omega)]
 have : k + 1 - (List.take k out ++ [out.getD k 0]).length = 0 := by simp;omega
 rw [this]
 simp
theorem shI_set {out : List Int} {k : Nat} (h : k ≤ out.length) (x : Int) : (shI out k).set k x = out.take k ++ x::out.drop k := by
 rw [shI,List.set_append_right _ _ (by simp;omega)]
 have : k - (List.take k out).length = 0 := by simp;omega
 rw [this]
 simp
theorem f6sorted_ok (l : List Int) (hl : l.length < 1099511627776) :
  Pure Tryz.prog 160 [.sl (i64s l)] (· = .sl (i64s (sortI l))) := by
 (refine pureW Tryz.func160 rfl (rs := [Go.ResultVar.tmp 2]) rfl (n := 72) rfl ?_;simp only [List.length_cons,List.length_nil,List.replicate,List.cons_append,List.nil_append])
 (refine aJb ?_)
 refine W.le ?_ (Le_nil 3 3 3 1 true rfl rfl)
 simp only [List.set]
 have hst : ∀ i,i < l.length → sortI (l.take (i + 1)) = insI (l.getD i 0) (sortI (l.take i)) := fun i hi => sortI_take hi
 have hln : ∀ i,(sortI (l.take i)).length ≤ l.length := fun i => by have := sortI_len (l.take i);simp at this;omega
 have h0 : sortI (l.take 0) = [] := rfl
 have hlast : l.take l.length = l := List.take_of_length_le (by omega)
 rw [← hlast]
 generalize hE : (fun i => sortI (l.take i)) = E at *
 have hE' : ∀ i,sortI (l.take i) = E i := fun i => congrFun hE i
 simp only [hE'] at *
 clear hE hE'
 rw [hlast]
 ((first | refine W_seqV ?_ | refine W_seq (W_seqV ?_) | refine W_regV ?_);intro K hK;(refine sJb ?_;try exact True.intro))
 (repeat refine aI ?_);refine hK _ ?_;clear hK K
 refine W_block (W_loop (fun t : {t : Nat // t ≤ l.length} =>
   ⟨((.sl (i64s l))::.any::.any::(.sref 3 0 (E t.1).length)::(.int .i64 t.1)::.any::.any::.any::.any::.any::.any::.any::.any::.any::.any::.any::.any::.any::.any::.any::.any::.any::.any::.any::.any::.any::.any::.any::.any::.any::.any::.any::.any::.any::.any::.any::.any::.any::.any::.any::.any::.any::.any::.any::.any::.any::.any::.any::.any::.any::.any::.any::.any::.any::.any::.any::.any::.any::.any::.any::.any::.any::.any::.any::.any::.any::.any::.any::.any::.any::.any::.any::[]),(.dead::.dead::.dead::(.arr 3 1 true (i64s (E t.1)))::.dead::.dead::.dead::.dead::.dead::.dead::.dead::.dead::.dead::.dead::.dead::.dead::.dead::.dead::.dead::.dead::.dead::.dead::.dead::.dead::.dead::.dead::.dead::.dead::.dead::.dead::.dead::.dead::.dead::.dead::.dead::.dead::.dead::.dead::.dead::.dead::.dead::.dead::.dead::.dead::.dead::.dead::.dead::.dead::.dead::.dead::.dead::.dead::.dead::.dead::.dead::.dead::.dead::.dead::.dead::.dead::.dead::.dead::.dead::.dead::.dead::.dead::.dead::.dead::.dead::.dead::.dead::.dead::[])⟩) (fun t => l.length - t.1)
   ⟨0,by omega⟩ (Le_of (by simp [leE,h0]) (by simp [h0,i64s])) fun t => ?_)
 obtain ⟨i,hi⟩ := t
 dsimp only
 by_cases hlt : i < l.length
 ·have hsi := hst i hlt
  have hlo := hln i
  have hlo1 := hln (i + 1)
  generalize hx : l.getD i 0 = x at *
  generalize E i = o at *
  refine W_seq ?_
  ((first | refine W_seqV ?_ | refine W_seq (W_seqV ?_) | refine W_regV ?_);intro K hK;(refine sJbX hlt ?_;try exact True.intro))
  (repeat refine aI ?_);refine hK _ ?_;clear hK K
  (first | refine W_ct rfl ?_ | refine W_seq (W_ct rfl ?_))
  refine W_skip ?_
  simp only [thenW]
  refine W_seq ?_
  refine W_block ?_
  ((first | refine W_seqV ?_ | refine W_seq (W_seqV ?_) | refine W_regV ?_);intro K hK;(refine sJb ?_;try exact True.intro))
  (repeat refine aI ?_);refine hK _ ?_;clear hK K
  refine W_join (fun s' => ∃ k,k ≤ o.length ∧ (∀ j,j < k → o.getD j 0 < x) ∧ (k = o.length ∨ x ≤ o.getD k 0) ∧ Le [] s' ⟨((.sl (i64s l))::.any::.any::(.sref 3 0 o.length)::(.int .i64 i)::(.int .i64 k)::.any::.any::.any::.any::.any::.any::.any::.any::.any::.any::.any::.any::.any::.any::.any::.any::.any::.any::.any::.any::.any::.any::.any::.any::.any::.any::.any::.any::.any::.any::.any::.any::.any::.any::.any::.any::.any::.any::.any::.any::.any::.any::.any::.any::.any::.any::.any::.any::.any::.any::.any::.any::.any::.any::.any::.any::.any::.any::.any::.any::.any::.any::.any::.any::.any::.any::[]),(.dead::.dead::.dead::(.arr 3 1 true (i64s o))::.dead::.dead::.dead::.dead::.dead::.dead::.dead::.dead::.dead::.dead::.dead::.dead::.dead::.dead::.dead::.dead::.dead::.dead::.dead::.dead::.dead::.dead::.dead::.dead::.dead::.dead::.dead::.dead::.dead::.dead::.dead::.dead::.dead::.dead::.dead::.dead::.dead::.dead::.dead::.dead::.dead::.dead::.dead::.dead::.dead::.dead::.dead::.dead::.dead::.dead::.dead::.dead::.dead::.dead::.dead::.dead::.dead::.dead::.dead::.dead::.dead::.dead::.dead::.dead::.dead::.dead::.dead::.dead::[])⟩) ?_ ?_
  ·refine W_block (W_loop (fun t : {t : Nat // t ≤ o.length ∧ ∀ j,j < t → o.getD j 0 < x} =>
    ⟨((.sl (i64s l))::.any::.any::(.sref 3 0 o.length)::(.int .i64 i)::(.int .i64 t.1)::.any::.any::.any::.any::.any::.any::.any::.any::.any::.any::.any::.any::.any::.any::.any::.any::.any::.any::.any::.any::.any::.any::.any::.any::.any::.any::.any::.any::.any::.any::.any::.any::.any::.any::.any::.any::.any::.any::.any::.any::.any::.any::.any::.any::.any::.any::.any::.any::.any::.any::.any::.any::.any::.any::.any::.any::.any::.any::.any::.any::.any::.any::.any::.any::.any::.any::[]),(.dead::.dead::.dead::(.arr 3 1 true (i64s o))::.dead::.dead::.dead::.dead::.dead::.dead::.dead::.dead::.dead::.dead::.dead::.dead::.dead::.dead::.dead::.dead::.dead::.dead::.dead::.dead::.dead::.dead::.dead::.dead::.dead::.dead::.dead::.dead::.dead::.dead::.dead::.dead::.dead::.dead::.dead::.dead::.dead::.dead::.dead::.dead::.dead::.dead::.dead::.dead::.dead::.dead::.dead::.dead::.dead::.dead::.dead::.dead::.dead::.dead::.dead::.dead::.dead::.dead::.dead::.dead::.dead::.dead::.dead::.dead::.dead::.dead::.dead::.dead::[])⟩) (fun t => o.length - t.1)
    ⟨0,by omega,by simp⟩ (Le_of (by simp [leE]) (by simp)) fun t => ?_)
   obtain ⟨k,hk,hkl⟩ := t
   dsimp only
   by_cases hlk : k < o.length
   ·generalize hy : o.getD k 0 = y at *
    by_cases hyx : y < x
    ·refine W_seq ?_
     ((first | refine W_seqD mixed [] (by kernel_rfl) ?_ | refine W_seq (W_seqD mixed [] (by kernel_rfl) ?_) | refine W_regD mixed [] (by kernel_rfl) ?_);intro K hK;(refine sJbX (And.intro hlt (And.intro hlk (And.intro hx (And.intro hy hyx)))) ?_;try exact True.intro))
     (repeat refine aI ?_);refine hK _ ?_;clear hK K
     (first | refine W_ct rfl ?_ | refine W_seq (W_ct rfl ?_))
     refine W_skip ?_
     simp only [blockW,thenW]
     refine W_block ?_
     ((first | refine W_seqV ?_ | refine W_seq (W_seqV ?_) | refine W_regV ?_);intro K hK;(refine sJb ?_;try exact True.intro))
     (repeat refine aI ?_);refine hK _ ?_;clear hK K
     simp only [blockW,thenW]
     refine ⟨⟨k + 1,by omega,fun j hj => ?_⟩,Le_drop (by simp [leE]) (by simp [leH]) rfl rfl,?_⟩
     ·by_cases hjk : j = k
      ·rw [hjk,hy];exact hyx
      ·exact hkl j (by omega)
     ·dsimp only;omega
    ·refine W_seq ?_
     ((first | refine W_seqD mixed [] (by kernel_rfl) ?_ | refine W_seq (W_seqD mixed [] (by kernel_rfl) ?_) | refine W_regD mixed [] (by kernel_rfl) ?_);intro K hK;(refine sJbX (And.intro hlt (And.intro hlk (And.intro hx (And.intro hy hyx)))) ?_;try exact True.intro))
     (repeat refine aI ?_);refine hK _ ?_;clear hK K
     (first | refine W_cf rfl ?_ | refine W_seq (W_cf rfl ?_))
     refine W_exit ?_
     simp only [thenW,blockW,if_true]
     exact ⟨k,hk,hkl,.inr (by rw [hy];omega),Le_of (by simp [leE]) (by simp)⟩
   ·refine W_seq ?_
    ((first | refine W_seqD mixed [] (by kernel_rfl) ?_ | refine W_seq (W_seqD mixed [] (by kernel_rfl) ?_) | refine W_regD mixed [] (by kernel_rfl) ?_);intro K hK;(refine sJbX (And.intro hlt hlk) ?_;try exact True.intro))
    (repeat refine aI ?_);refine hK _ ?_;clear hK K
    (first | refine W_cf rfl ?_ | refine W_seq (W_cf rfl ?_))
    refine W_exit ?_
    simp only [thenW,blockW,if_true]
    exact ⟨k,hk,hkl,.inl (by omega),Le_of (by simp [leE]) (by simp)⟩
  rintro s' ⟨k,hk,hkl,hkx,hle⟩
  refine W.le ?_ hle
  clear hle s'
  have hins := insI_at hk hkl hkx
  rw [hins] at hsi
  by_cases heq : k < o.length ∧ o.getD k 0 = x
  ·rw [if_pos heq] at hsi
   obtain ⟨hlk,hyx⟩ := heq
   refine W_seq ?_
   have hxx : (x == x) = true := by simp
   ((first | refine W_seqD mixed [] (by kernel_rfl) ?_ | refine W_seq (W_seqD mixed [] (by kernel_rfl) ?_) | refine W_regD mixed [] (by kernel_rfl) ?_);intro K hK;(refine sJbX (And.intro hlt (And.intro hlk (And.intro hx (And.intro hyx hxx)))) ?_;try exact True.intro))
   (repeat refine aI ?_);refine hK _ ?_;clear hK K
   (first | refine W_ct rfl ?_ | refine W_seq (W_ct rfl ?_))
   refine W_exit ?_
   simp only [thenW,blockW,if_true]
   ((first | refine W_seqV ?_ | refine W_seq (W_seqV ?_) | refine W_regV ?_);intro K hK;(refine sJb ?_;try exact True.intro))
   (repeat refine aI ?_);refine hK _ ?_;clear hK K
   simp only [blockW,thenW]
   refine ⟨⟨i + 1,by omega⟩,Le_drop (by simp [leE,hsi]) (by simp [leH,hsi]) rfl rfl,?_⟩
   dsimp only
   omega
  ·rw [if_neg heq] at hsi
   refine W_join (fun s' => Le [] s' ⟨((.sl (i64s l))::.any::.any::(.sref 3 0 o.length)::(.int .i64 i)::(.int .i64 k)::.any::.any::.any::.any::.any::.any::.any::.any::.any::.any::.any::.any::.any::.any::.any::.any::.any::.any::.any::.any::.any::.any::.any::.any::.any::.any::.any::.any::.any::.any::.any::.any::.any::.any::.any::.any::.any::.any::.any::.any::.any::.any::.any::.any::.any::.any::.any::.any::.any::.any::.any::.any::.any::.any::.any::.any::.any::.any::.any::.any::.any::.any::.any::.any::.any::.any::[]),(.dead::.dead::.dead::(.arr 3 1 true (i64s o))::.dead::.dead::.dead::.dead::.dead::.dead::.dead::.dead::.dead::.dead::.dead::.dead::.dead::.dead::.dead::.dead::.dead::.dead::.dead::.dead::.dead::.dead::.dead::.dead::.dead::.dead::.dead::.dead::.dead::.dead::.dead::.dead::.dead::.dead::.dead::.dead::.dead::.dead::.dead::.dead::.dead::.dead::.dead::.dead::.dead::.dead::.dead::.dead::.dead::.dead::.dead::.dead::.dead::.dead::.dead::.dead::.dead::.dead::.dead::.dead::.dead::.dead::.dead::.dead::.dead::.dead::.dead::.dead::[])⟩) ?_ ?_
   ·by_cases hlk : k < o.length
    ·have hyx : ¬ o.getD k 0 = x := fun e => heq ⟨hlk,e⟩
     generalize hy : o.getD k 0 = y at *
     have hyb : (y == x) = false := by simp [hyx]
     refine W_seq ?_
     ((first | refine W_seqD mixed [] (by kernel_rfl) ?_ | refine W_seq (W_seqD mixed [] (by kernel_rfl) ?_) | refine W_regD mixed [] (by kernel_rfl) ?_);intro K hK;(refine sJbX (And.intro hlt (And.intro hlk (And.intro hx (And.intro hy hyb)))) ?_;try exact True.intro))
     (repeat refine aI ?_);refine hK _ ?_;clear hK K
     (first | refine W_cf rfl ?_ | refine W_seq (W_cf rfl ?_))
     refine W_skip ?_
     simp only [blockW,thenW]
     exact Le_of (by simp [leE]) (by simp)
    ·refine W_seq ?_
     ((first | refine W_seqD mixed [] (by kernel_rfl) ?_ | refine W_seq (W_seqD mixed [] (by kernel_rfl) ?_) | refine W_regD mixed [] (by kernel_rfl) ?_);intro K hK;(refine sJbX (And.intro hlt hlk) ?_;try exact True.intro))
     (repeat refine aI ?_);refine hK _ ?_;clear hK K
     (first | refine W_cf rfl ?_ | refine W_seq (W_cf rfl ?_))
     refine W_skip ?_
     simp only [blockW,thenW]
     exact Le_of (by simp [leE]) (by simp)
   intro s' hle
   refine W.le ?_ hle
   clear hle s'
   ((first | refine W_seqR ?_ | refine W_seq (W_seqR ?_));intro K hK;(refine sJb ?_;try exact True.intro))
   (repeat refine aI ?_);refine hK _ ?_;clear hK K
   refine W_seq ?_
   ((first | refine W_seqV ?_ | refine W_seq (W_seqV ?_) | refine W_regV ?_);intro K hK;(refine sJb ?_;try exact True.intro))
   (repeat refine aI ?_);refine hK _ ?_;clear hK K
   refine W_block (W_loop (fun t : {t : Nat // k ≤ t ∧ t ≤ o.length} =>
    ⟨((.sl (i64s l))::.any::.any::(.sref 3 0 (o.length + 1))::(.int .i64 i)::(.int .i64 k)::(.int .i64 t.1)::.any::.any::.any::.any::.any::.any::.any::.any::.any::.any::.any::.any::.any::.any::.any::.any::.any::.any::.any::.any::.any::.any::.any::.any::.any::.any::.any::.any::.any::.any::.any::.any::.any::.any::.any::.any::.any::.any::.any::.any::.any::.any::.any::.any::.any::.any::.any::.any::.any::.any::.any::.any::.any::.any::.any::.any::.any::.any::.any::.any::.any::.any::.any::.any::.any::[]),(.dead::.dead::.dead::(.arr 3 1 true (i64s (shI o t.1)))::.dead::.dead::.dead::.dead::.dead::.dead::.dead::.dead::.dead::.dead::.dead::.dead::.dead::.dead::.dead::.dead::.dead::.dead::.dead::.dead::.dead::.dead::.dead::.dead::.dead::.dead::.dead::.dead::.dead::.dead::.dead::.dead::.dead::.dead::.dead::.dead::.dead::.dead::.dead::.dead::.dead::.dead::.dead::.dead::.dead::.dead::.dead::.dead::.dead::.dead::.dead::.dead::.dead::.dead::.dead::.dead::.dead::.dead::.dead::.dead::.dead::.dead::.dead::.dead::.dead::.dead::.dead::.dead::[])⟩) (fun t => t.1)
    ⟨o.length,by omega,by omega⟩ (Le_drop (by simp [leE]) (by simp [leH,shI_top,i64s]) rfl rfl) fun t => ?_)
   obtain ⟨j,hkj,hjo⟩ := t
   dsimp only
   have hsl := shI_len hjo
   generalize hc : shI o j = c at *
   by_cases hgt : k < j
   ·have hgt' : (k : Int) < j := by omega
    have hlow := shI_low (j := j - 1) hjo (by omega)
    have hstp := shI_step (out := o) (k := j - 1) (by omega)
    rw [show j - 1 + 1 = j by omega,hc] at hstp
    rw [hc] at hlow
    refine W_seq ?_
    ((first | refine W_seqV ?_ | refine W_seq (W_seqV ?_) | refine W_regV ?_);intro K hK;(refine sJbX hgt' ?_;try exact True.intro))
    (repeat refine aI ?_);refine hK _ ?_;clear hK K
    (first | refine W_ct rfl ?_ | refine W_seq (W_ct rfl ?_))
    refine W_skip ?_
    simp only [thenW]
    refine W_seq ?_
    refine W_block ?_
    have h1 : j - 1 < c.length := by omega
    have h2 : j < c.length := by omega
    have h3 : (0 : Int) ≤ (j : Int) - 1 := by omega
    have h5 : ((j : Int) - 1) < ((o.length : Int) + 1) := by omega
    have h6 : (j : Int) < ((o.length : Int) + 1) := by omega
    have h7 : ((j : Int) - 1).toNat = j - 1 := by omega
    ((first | refine W_seqV ?_ | refine W_seq (W_seqV ?_) | refine W_regV ?_);intro K hK;(refine sJbX (And.intro h1 (And.intro h2 (And.intro hlow (And.intro hstp (And.intro h3 (And.intro h5 (And.intro h6 h7))))))) ?_;try exact True.intro))
    (repeat refine aI ?_);refine hK _ ?_;clear hK K
    simp only [blockW,thenW]
    ((first | refine W_seqV ?_ | refine W_seq (W_seqV ?_) | refine W_regV ?_);intro K hK;(refine sJb ?_;try exact True.intro))
    (repeat refine aI ?_);refine hK _ ?_;clear hK K
    simp only [blockW,thenW]
    refine ⟨⟨j - 1,by omega,by omega⟩,Le_drop (by simp [leE]) (by simp [leH]) rfl rfl,?_⟩
    dsimp only
    omega
   ·obtain rfl : j = k := by omega
    have hset := shI_set hk x
    rw [hc,← hsi] at hset
    refine W_seq ?_
    ((first | refine W_seqV ?_ | refine W_seq (W_seqV ?_) | refine W_regV ?_);intro K hK;(refine sJb ?_;try exact True.intro))
    (repeat refine aI ?_);refine hK _ ?_;clear hK K
    (first | refine W_cf rfl ?_ | refine W_seq (W_cf rfl ?_))
    refine W_exit ?_
    simp only [thenW,blockW,if_true]
    have h2 : j < c.length := by omega
    have h6 : (j : Int) < ((o.length : Int) + 1) := by omega
    ((first | refine W_seqV ?_ | refine W_seq (W_seqV ?_) | refine W_regV ?_);intro K hK;(refine sJbX (And.intro h2 (And.intro h6 (And.intro hlt (And.intro hx hset)))) ?_;try exact True.intro))
    (repeat refine aI ?_);refine hK _ ?_;clear hK K
    simp only [blockW,thenW]
    ((first | refine W_seqV ?_ | refine W_seq (W_seqV ?_) | refine W_regV ?_);intro K hK;(refine sJb ?_;try exact True.intro))
    (repeat refine aI ?_);refine hK _ ?_;clear hK K
    simp only [blockW,thenW]
    refine ⟨⟨i + 1,by omega⟩,Le_drop (by simp [leE,hsi];omega) (by simp [leH,hsi]) rfl rfl,?_⟩
    dsimp only
    omega
 ·obtain rfl : i = l.length := by omega
  refine W_seq ?_
  ((first | refine W_seqV ?_ | refine W_seq (W_seqV ?_) | refine W_regV ?_);intro K hK;(refine sJb ?_;try exact True.intro))
  (repeat refine aI ?_);refine hK _ ?_;clear hK K
  (first | refine W_cf rfl ?_ | refine W_seq (W_cf rfl ?_))
  refine W_exit ?_
  simp only [thenW,blockW,if_true]
  ((first | refine W_seqV ?_ | refine W_seq (W_seqV ?_) | refine W_regV ?_);intro K hK;(refine sJb ?_;try exact True.intro))
  (repeat refine aI ?_);refine hK _ ?_;clear hK K
  refine W_ret ?_
  (refine qG ?_;try exact True.intro);try (refine sJbV ?_;try exact True.intro)
end Go.Proofs.YtjmpajgjaefcjaaGreat.Vm
